/- Merged of PH, PI, PJ, PL, PQ, TreeA, TA, TB, VD, VE, TC, TD, TE, TF, TG, TreeB, TH, WM, VG, WX, NB. Conditions: none. -/
import Derived.Test.YtngbglhmiefcpaaGreatLb
import Derived.Maps.Keyed
import Derived.Lib.Overlaps
import Derived.Lib.AppendZeros
import Derived.Laws.Externs
import Derived.ArgAppend
set_option maxRecDepth 20000
namespace Go.Proofs.YtngbglhmiefcpaaGreat
open Go.RowKit
set_option linter.unusedVariables false
set_option linter.unusedSimpArgs false
theorem splitM_snoc47 : ∀ s, splitM (s ++ [47]) = splitM s ++ [[]]
 | [] => rfl
 | c :: s => by
  have ih := splitM_snoc47 s
  rw [List.cons_append]
  by_cases hc : c = 47
  ·subst hc
   rw [splitM_stroke, splitM_stroke, ih]
   rfl
  rw [splitM_char hc, splitM_char hc, ih]
  cases h : splitM s with
  | nil => exact absurd h (splitM_ne s)
  | cons p r => rfl
theorem splitM_snoc {c : UInt8} (hc : ¬ c = 47) : ∀ (s : List UInt8) (ini : List (List UInt8)) (p : List UInt8), splitM s = ini ++ [p] → splitM (s ++ [c]) = ini ++ [p ++ [c]]
 | [], ini, p, h => by
  have h : [[]] = ini ++ [p] := h
  have h1 : ini = [] := by
   cases ini with
   | nil => rfl
   | cons a l => simp at h
  subst h1
  have h2 : p = [] := by simpa using h.symm
  subst h2
  show splitM [c] = _
  rw [splitM_char hc]
  rfl
 | d :: s, ini, p, h => by
  rw [List.cons_append]
  by_cases hd : d = 47
  ·subst hd
   rw [splitM_stroke] at h ⊢
   cases ini with
   | nil =>
    have h2 : splitM s = [] := by
     have := congrArg List.tail h
     simpa using this
    exact absurd h2 (splitM_ne s)
   | cons a l =>
    rw [List.cons_append] at h
    injection h with h1 h2
    rw [splitM_snoc hc s l p h2, ← h1]
    rfl
  rw [splitM_char hd] at h ⊢
  obtain ⟨i2, q, hq⟩ : ∃ i2 q, splitM s = i2 ++ [q] := ⟨_, _, (List.dropLast_concat_getLast (splitM_ne s)).symm⟩
  rw [splitM_snoc hc s i2 q hq]
  rw [hq] at h
  cases i2 with
  | nil =>
   have h : [d :: q] = ini ++ [p] := h
   have h1 : ini = [] := by
    cases ini with
    | nil => rfl
    | cons a l => simp at h
   subst h1
   have h2 : p = d :: q := by simpa using h.symm
   subst h2
   rfl
  | cons a l =>
   have h : (d :: a) :: (l ++ [q]) = ini ++ [p] := h
   have e : ((d :: a) :: l) ++ [q] = ini ++ [p] := h
   have e1 := List.append_inj' e rfl
   have e2 : q = p := by simpa using e1.2
   rw [← e1.1, ← e2]
   rfl
theorem splitM_last (s : List UInt8) : ∃ ini p, splitM s = ini ++ [p] := ⟨_, _, (List.dropLast_concat_getLast (splitM_ne s)).symm⟩
theorem splitM_len (s : List UInt8) : (splitM s).length ≤ s.length + 1 := by
 have h := splitM_sum s
 have : ∀ l : List (List UInt8), l.length ≤ (l.map fun p => p.length + 1).sum := by
  intro l
  induction l with
  | nil => simp
  | cons a l ih => simp; omega
 have := this (splitM s)
 omega
theorem mem_len {s p : List UInt8} (h : p ∈ splitM s) : p.length ≤ s.length := by
 have h1 := splitM_sum s
 have : ∀ l : List (List UInt8), p ∈ l → p.length + 1 ≤ (l.map fun p => p.length + 1).sum := by
  intro l
  induction l with
  | nil => intro h; cases h
  | cons a l ih =>
   intro h
   rcases List.mem_cons.1 h with rfl | h
   ·simp
   have := ih h
   simp; omega
 have := this _ h
 omega
theorem Tryz.infoStr' : (Tryz.prog.info? 9).map (fun i => (i.zero.map (·.cells.size), i.size, i.bytes)) = some (some 1, 1, 16) := by kernel_rfl
theorem own_str {e : TypeId} {v : Value} {k : Nat} {ps qs : List (List UInt8)} (h : qs = ps) (hk : k = ps.length) : own e 1 v k (ps.map vStr) = own e 1 v qs.length (qs.map vStr) := by
 subst h
 rw [hk]
theorem own_str1 {e : TypeId} {v : Value} {ps qs : List (List UInt8)} {p : List UInt8} (h : qs = ps ++ [p]) : own e 1 v (ps.length + 1) (ps.map vStr ++ [vStr p]) = own e 1 v qs.length (qs.map vStr) := by
 subst h
 simp
theorem rdLast {ini : List (List UInt8)} {p : List UInt8} {sp : List Value} : ((ini ++ [p]).map vStr ++ sp)[0 + ini.length * 1]? = some (.string (sB p)) := by
 rw [Nat.zero_add, Nat.mul_one, List.map_append, List.append_assoc, List.getElem?_append_right (by simp)]
 simp
 rfl
theorem setLast {ini : List (List UInt8)} {p q : List UInt8} {sp : List Value} : ((ini ++ [p]).map vStr ++ sp).set (0 + ini.length * 1) (.string (sB q)) = (ini ++ [q]).map vStr ++ sp := by
 rw [Nat.zero_add, Nat.mul_one, List.map_append, List.append_assoc, List.set_append_right _ _ (by simp), List.map_append, List.append_assoc]
 simp
 rfl
theorem take_succ_app {s : List UInt8} {k : Nat} (h : k < s.length) : s.take (k + 1) = s.take k ++ [s[k]] := List.take_succ_eq_append_getElem h
theorem take_drop_one {s : List UInt8} {k : Nat} (h : k < s.length) : (s.take (k + 1)).drop k = [s[k]] := by
 rw [take_succ_app h, List.drop_append_of_le_length (by simp; omega), List.drop_of_length_le (by simp; omega), List.nil_append]
theorem split47 {s : List UInt8} {k : Nat} (hk : k < s.length) (h : (s[k].toNat : Int) = 47) : splitM (s.take (k + 1)) = splitM (s.take k) ++ [[]] := by
 have e : s[k] = 47 := UInt8.toNat_inj.1 (show s[k].toNat = 47 by omega)
 rw [take_succ_app hk, e, splitM_snoc47]
theorem splitC {s : List UInt8} {k : Nat} {ini : List (List UInt8)} {p : List UInt8} (hk : k < s.length) (h : ¬ (s[k].toNat : Int) = 47) (hi : splitM (s.take k) = ini ++ [p]) : splitM (s.take (k + 1)) = ini ++ [p ++ [s[k]]] := by
 have e : ¬ s[k] = 47 := fun e => h (by rw [e]; rfl)
 rw [take_succ_app hk]
 exact splitM_snoc e _ _ _ hi
set_option maxHeartbeats 4000000 in
theorem split_tr (s : List UInt8) (hs : s.length ≤ 1000000) : Tr Tryz.prog 146 #[.string (sB s)] [] [] (TX (fun _ : Value => True) (fun v => v) (fun v => [own 9 1 v (splitM s).length ((splitM s).map vStr)])) := by
 refine Tr.of (l := [(0, .string (sB s))]) Tryz.func146 rfl (n := 37) rfl (.cons rfl .nil) (fun w0 hro => ?_)
 refine go [9,10,1,7,8,9,10,60,12] ?_
 intro b5
 refine go [1,7,8,9,9,10,1,7,8,15] ?_
 refine G.ownBlk (b := b5) (k := 1) (sz := 1) selT rfl (by omega) ?_
 refine G.loopK (X := Nat × Value) (ts := [0, 2]) (fun st => st.1 ≤ s.length) (fun st => [(4, .int .i64 (st.1 : Int)), (3, st.2)]) (fun st => [own 9 1 st.2 (splitM (s.take st.1)).length ((splitM (s.take st.1)).map vStr)]) (fun st => s.length - st.1) (x0 := (0, .slice (some ⟨b5, 0, none⟩) 1 1)) (.cons rfl (.cons rfl .nil)) (by show Sub _ [own 9 1 (.slice (some ⟨b5, 0, none⟩) 1 1) 1 [vStr []]] _; repeat (first | exact Sub.nil | (apply Sub.cons; (repeat (first | with_reducible exact Sel.here | exact Sel.here | apply Sel.there))))) (.cons (.cons .nil)) apT Y27 (.consE rfl veqT (.consE rfl veqT .nil)) (fun st hJ => ?_)
 obtain ⟨k, v⟩ := st
 try dsimp only at hJ
 try dsimp only
 have hkk := hJ
 have hle := splitM_len (s.take k)
 have htk : (s.take k).length ≤ k := by simp; omega
 refine go [9,9,10,0,0,2,21,2,9,7,8] ?_
 refine G.condP rfl (fun h9 => ?_) (fun h9 => ?_)
 ·refine go [13,8,9,15,9,9,10,0,0,2,22,2,13,7,8] ?_
  have hkl : k < s.length := by omega
  refine G.condP rfl (fun h15 => ?_) (fun h15 => ?_)
  ·refine go [9,10,0,60,12] ?_
   intro b17
   refine G.op rfl (G.append (k := (splitM (s.take k)).length) (j := 1) (cs := (splitM (s.take k)).map vStr) (news := [vStr []]) (b := b17) (off := 0) rfl Tryz.underlying207 Tryz.infoStr' rfl rfl rfl selT (fun _ => rfl) (fun h => by cases h) rfl (blk_news (k := 1) selT rfl) (by intro u hu; obtain rfl : u = _ := (by simpa using hu); rfl) (by omega) (by omega) ?_)
   intro vn
   rw [own_str1 (split47 hkl (by assumption))]
   refine go [1,7,8,18,14,19,8,10,0,2,6,1,7] ?_
   exact G.next ((k + 1, vn)) Y25 (by (try dsimp only); omega) (.consE rfl veqT (.consE rfl veqT (.cons rfl (.cons rfl .nil)))) subT
  refine go [13,8] ?_
  obtain ⟨ini, p, hip⟩ := splitM_last (s.take k)
  have hpl : p.length ≤ (s.take k).length := mem_len (by rw [hip]; simp)
  rw [hip] at hle
  rw [hip]
  have hn : (ini ++ [p]).length = ini.length + 1 := by simp
  refine G.ownTo selT (by omega) (fun g cap sp hv hkc hmx hl hlen => ?_)
  subst hv
  rw [hn] at hkc ⊢
  refine G.drawT (nn := 18) (p := [blk g _ _]) (rem := 262143) [0, 0, 2, 4, 0, 0, 32, 64, 144, 256, 0, 0, 0, 4096, 11264, 16896, 65535, 131071] [0, 0, 2, 4, 0, 0, 32, 64, 144, 256, 0, 0, 0, 4096, 11264, 16896, 9, 98304] kr ⟨rfl, by kernel_rfl, by kernel_rfl⟩ subT kr (fun hT7 => ?_)
  refine go [22,0,262142,0,22,1,262140,0,22,2,262136,5,22,3,262128,19,22,4,262112,0,22,5,262080,0,22,6,262016,5,22,7,261888,19] ?_
  refine G.takeT hT7 (i := 8) (rem' := 261632) rfl rfl rfl kr (fun _ _ _ h => h) rfl (pv_ixSl (sz := 1) (k := ini.length) Tryz.underlying207 kr rfl rfl (fun _ => rfl) (by omega) (by omega)) subT ?_
  refine go [22,10,260608,0,22,11,258560,0,22,12,254464,0,22,13,246272,6] ?_
  refine G.takeT hT7 (i := 14) (rem' := 229888) rfl rfl rfl kr (fun _ _ _ h => h) rfl ((pv_strLH (k := k) (k' := k + 1) Tryz.underlying9 rfl rfl rfl rfl (by omega) (by omega) (by omega)).cast (congrArg (fun x => Value.string (sB x)) (take_drop_one hkl))) subT ?_
  refine go [24,9,229376] ?_
  refine G.turnOp rfl rfl (G.val rfl rfl (pv_load (v := .string (sB p)) Tryz.underlying9 rfl rfl (blk_cell selD rdLast)) ?_)
  refine go [26] ?_
  refine G.takeT hT7 (i := 15) (rem' := 196608) rfl rfl rfl kr (fun _ _ _ h => h) rfl (pv_addS rfl rfl (by simp; omega)) subT ?_
  refine G.takeT hT7 (i := 16) (rem' := 131072) rfl rfl rfl kr (fun _ _ _ h => h) rfl (pv_ixSl (sz := 1) (k := ini.length) Tryz.underlying207 kr rfl rfl (fun _ => rfl) (by omega) (by omega)) subT ?_
  refine go [24,17,0] ?_
  refine G.turnOp rfl rfl (G.store kr rfl rfl rfl selT (by simp) ?_)
  rw [setLast]
  refine go [26,27,16,8,10,0,2,6,1,7] ?_
  refine G.ownOf (sz := 1) (k := ini.length + 1) (cs := (ini ++ [p ++ [s[k]]]).map vStr) (sp := sp) selT (by simp) hkc hmx (by simpa using hl) ?_
  rw [own_str (splitC hkl (by assumption) hip) (by simp)]
  exact G.next ((k + 1, .slice (some ⟨g, 0, none⟩) (ini.length + 1) cap)) Y25 (by (try dsimp only); omega) (.consE rfl veqT (.consE rfl veqT (.cons rfl (.cons rfl .nil)))) subT
 refine go [18,14,14,19,8,9,10,0,1,7,8,11] ?_
 obtain rfl : k = s.length := by omega
 rw [List.take_length]
 exact G.doneX1 (v) trT rfl rfl rfl subT
theorem splitM_pos (s : List UInt8) : 0 < (splitM s).length := List.length_pos_iff.2 (splitM_ne s)
set_option maxHeartbeats 4000000 in
theorem checkR_tr (s : List UInt8) (hs : s.length ≤ 9223372036854775807) : Tr Tryz.prog 161 #[.string (sB s)] [] [] (T0 (.agg #[.int .i64 (checkM s).1, .int .i64 (checkM s).2])) := by
 refine Tr.of (l := [(0, .string (sB s))]) Tryz.func161 rfl (n := 51) rfl (.cons rfl .nil) (fun w0 hro => ?_)
 refine go [9,10,60,20] ?_
 intro b2
 refine go [7,8,9,9,10,0,2,24,7,8] ?_
 refine G.condP rfl (fun h9 => ?_) (fun h9 => ?_)
 ·refine go [9,10,2,50,6,20,7,8,11,12] ?_
  exact G.done0G rfl (Rv.cellN (cs := [_, _]) rfl Tryz.underlying157 rfl kr Y36 Rv.nil) (by rw [checkM_nil (by assumption)]; rfl)
 refine go [13,8,9,9,10,0,2,21,2,10,7,8] ?_
 refine G.condP rfl (fun h13 => ?_) (fun h13 => ?_)
 ·refine go [9,10,2,50,6,20,7,8,11,12] ?_
  exact G.done0G rfl (Rv.cellN (cs := [_, _]) rfl Tryz.underlying157 rfl kr Y36 Rv.nil) (by rw [checkM_long (by assumption) (by assumption)]; rfl)
 refine go [13,8,9,10,0] ?_
 refine G.op rfl (G.cS rfl rfl rfl rfl Tryz.func146 rfl rfl subT may0 (split_tr s (by omega)) apT ?_)
 intro x16 hJ
 try dsimp only at hJ
 try dsimp only
 have hpos := splitM_pos s
 have hlen := splitM_len s
 refine G.ownTo selT hpos (fun g cap sp hv hkc hmx hl hlen2 => ?_)
 subst hv
 refine go [1,7,8,9,10,1,7,8,9,9,10,1,7,8,15] ?_
 refine G.loopK (X := Nat) (ts := [2, 3]) (fun i => i ≤ (splitM s).length ∧ (i ≤ 20 ∧ checkL (splitM s) 0 0 = checkL ((splitM s).drop i) i (atL (splitM s) i))) (fun i => [(5, .int .i64 (i : Int)), (4, .int .i64 (atL (splitM s) i : Int))]) (fun i => []) (fun i => (splitM s).length - i) (x0 := 0) (.cons rfl (.cons rfl .nil)) subT (.cons (.cons .nil)) apT (by first | exact trivial | ((try dsimp only) <;> exact ⟨Nat.zero_le _, ⟨by omega, rfl⟩⟩)) (.consE rfl veqT (.consE rfl veqT .nil)) (fun i hJ => ?_)
 try dsimp only at hJ
 try dsimp only
 obtain ⟨hki, hJ⟩ := hJ
 refine go [9,9,10,0,0,2,5,2,9,7,8] ?_
 refine G.condP rfl (fun h20 => ?_) (fun h20 => ?_)
 ·obtain ⟨hi20, hck⟩ := hJ
  have hil : i < (splitM s).length := by omega
  have hpl := part_le hil
  have hge := getL_eq hil
  have hb := stepB_pos badR (getL (splitM s) i)
  have hat := atL_succ hil
  rw [← hge] at hpl hat
  refine go [13,8,9,15,9,9,10,0,2,13,7,8] ?_
  refine G.condP rfl (fun h24 => ?_) (fun h24 => ?_)
  ·refine go [9,10,0,2,50,6,20,7,8,11,12,17,12,12,17,12] ?_
   exact G.done0G rfl (Rv.cellN (cs := [_, _]) rfl Tryz.underlying157 rfl kr Y36 Rv.nil) (by rw [checkM_parts (by assumption) (by assumption), hck, checkL_many hil (by omega)]; rfl)
  refine go [13,8,9,10,0,0,2,20,1] ?_
  refine G.op rfl (G.val rfl rfl (pv_load (v := .string (sB (getL (splitM s) i))) Tryz.underlying9 rfl rfl (blk_cell selD (by rw [hge]; exact rd1 hil))) ?_)
  refine G.op rfl (G.cR rfl rfl rfl rfl Tryz.func172 rfl rfl may0 (part_tr _ (by omega)) ?_)
  refine go [0,2,7,2,7,1,1,7,8,9,9,10,0,2,14,7,8] ?_
  refine G.condP rfl (fun h36 => ?_) (fun h36 => ?_)
  ·refine go [9,10,0,0,0,2,6,2,50,6,20,7,8,11,12,17,12,12,17,12] ?_
   exact G.done0G rfl (Rv.cellN (cs := [_, _]) rfl Tryz.underlying157 rfl kr Y36 Rv.nil) (by rw [checkM_parts (by assumption) (by assumption), hck, checkL_bad hil (by omega) (by omega)]; rfl)
  refine go [13,8,10,0,0,0,2,20,1] ?_
  refine G.op rfl (G.val rfl rfl (pv_load (v := .string (sB (getL (splitM s) i))) Tryz.underlying9 rfl rfl (blk_cell selD (by rw [hge]; exact rd1 hil))) ?_)
  refine go [2,21,2,6,2,6,1,7,16,8,10,0,2,6,1,7] ?_
  exact G.next (i + 1) (by first | exact trivial | ((try dsimp only) <;> exact ⟨by omega, ⟨by omega, hck.trans (checkL_next hil (by omega) (by omega))⟩⟩)) (by (try dsimp only); omega) (.consE rfl veqT (.consE rfl veqT (.cons rfl (.cons rfl .nil)))) subT
 refine go [18,14,14,19,8,9,10,2,50,6,20,7,8,11] ?_
 obtain ⟨hi20, hck⟩ := hJ
 obtain rfl : i = (splitM s).length := by omega
 exact G.done0G rfl (Rv.cellN (cs := [_, _]) rfl Tryz.underlying157 rfl kr Y36 Rv.nil) (by rw [checkM_parts (by assumption) (by assumption), hck, List.drop_length]; rfl)
set_option maxHeartbeats 4000000 in
theorem validR_tr (s : List UInt8) (hs : s.length ≤ 9223372036854775807) : Tr Tryz.prog 144 #[.string (sB s)] [] [] (T0 (.bool (decide ((checkM s).1 = 0)))) := by
 refine Tr.of (l := [(0, .string (sB s))]) Tryz.func144 rfl (n := 7) rfl (.cons rfl .nil) (fun w0 hro => ?_)
 refine go [9,10,1,7,8,9,10,0] ?_
 refine G.op rfl (G.cR rfl rfl rfl rfl Tryz.func161 rfl rfl may0 (checkR_tr s hs) ?_)
 refine G.op rfl (G.val rfl rfl (pv_field1 Tryz.underlying157 rfl Tryz.underlying27 rfl rfl rfl) ?_)
 refine go [2,13,1,7,8,11] ?_
 exact G.done0G rfl (Rv.tmp rfl Rv.nil) Y7
theorem retV1 (v : Value) : retV [v] = v := rfl
theorem retV2 (a b : Value) : retV [a, b] = .tuple #[a, b] := rfl
def okP (s : List UInt8) : Prop := (checkM s).1 = 0
instance (s : List UInt8) : Decidable (okP s) := inferInstanceAs (Decidable (_ = _))
def cmpL : List (List UInt8) → List (List UInt8) → Int
 | [], [] => 0
 | [], _ :: _ => -1
 | _ :: _, [] => 1
 | x :: xs, y :: ys => if x = y then cmpL xs ys else bytesC x y
theorem cut_split {t p t' : List UInt8} {m : Bool} (h : cutM t = (p, t', m)) : splitM t = if m then p :: splitM t' else [p] := by
 rw [splitM_cut, h]
theorem cutM_lt {t p t' : List UInt8} (h : cutM t = (p, t', true)) : t'.length < t.length ∧ p.length ≤ t.length := by
 unfold cutM at h
 split at h
 ·injection h with h1 h2
  injection h2 with h2 h3
  rw [← h1, ← h2]
  simp
  omega
 injection h with h1 h2
 injection h2 with h2 h3
 cases h3
theorem ord_ne {x y a b : List UInt8} {m k : Bool} {s t : List UInt8} (hs : cutM s = (x, a, m)) (ht : cutM t = (y, b, k)) (h : x ≠ y) : cmpL (splitM s) (splitM t) = bytesC x y := by
 rw [cut_split hs, cut_split ht]
 cases m <;> cases k <;> exact if_neg h
theorem ord_eq {x y a b : List UInt8} {m k : Bool} {s t : List UInt8} (hs : cutM s = (x, a, m)) (ht : cutM t = (y, b, k)) (h : ¬ x ≠ y) : cmpL (splitM s) (splitM t) = if m then (if k then cmpL (splitM a) (splitM b) else 1) else if k then -1 else 0 := by
 have h : x = y := Decidable.of_not_not h
 rw [cut_split hs, cut_split ht]
 have e : ∀ xs ys, cmpL (x :: xs) (y :: ys) = cmpL xs ys := fun xs ys => if_pos h
 cases m <;> cases k <;> simp [e]
 ·rfl
 ·cases h2 : splitM b with
  | nil => exact absurd h2 (splitM_ne b)
  | cons p r => rfl
 cases h2 : splitM a with
 | nil => exact absurd h2 (splitM_ne a)
 | cons p r => rfl
set_option maxHeartbeats 4000000 in
theorem order_all (k : Nat) : ∀ a b : List UInt8, a.length = k → a.length ≤ 1000000 → b.length ≤ 1000000 → Tr Tryz.prog 109 #[.string (sB a), .string (sB b)] [] [] (T0 (.int .i64 (cmpL (splitM a) (splitM b)))) := by
 induction k using Nat.strongRecOn
 rename_i k ih
 intro a b hk ha hb
 obtain ⟨x, a', m, hx⟩ : ∃ x a' m, cutM a = (x, a', m) := ⟨_, _, _, rfl⟩
 obtain ⟨y, b', j, hy⟩ : ∃ y b' j, cutM b = (y, b', j) := ⟨_, _, _, rfl⟩
 have hbl := cutM_len b
 rw [hy] at hbl
 have hbl : b'.length ≤ b.length := hbl
 refine Tr.of (l := [(0, .string (sB a)), (1, .string (sB b))]) Tryz.func109 rfl (n := 40) rfl (.cons rfl (.cons rfl .nil)) (fun w0 hro => ?_)
 refine go [9,10,1,7,8,9,10,0] ?_
 refine G.op rfl (G.cR rfl rfl rfl rfl Tryz.func138 rfl rfl may0 (cut_at a _ _ _ (by omega) hx) ?_)
 refine go [0,2,7,2,7,2,7,1,1,1,7,8,9,10,0] ?_
 refine G.op rfl (G.cR rfl rfl rfl rfl Tryz.func138 rfl rfl may0 (cut_at b _ _ _ (by omega) hy) ?_)
 refine go [0,2,7,2,7,2,7,1,1,1,7,8,9,15,9,10,0,0,2,23,1,7,8] ?_
 refine G.condP rfl (fun h21 => ?_) (fun h21 => ?_)
 ·refine go [9,10,0,0] ?_
  refine G.op rfl (G.cR rfl rfl rfl rfl Tryz.func110 rfl rfl may0 (cmp_tr _ _) ?_)
  refine go [1,7,8,11,17,12] ?_
  exact G.done0G rfl (Rv.tmp rfl Rv.nil) (by rw [ord_ne hx hy (by assumption)]; rfl)
 refine go [9,10,0,0] ?_
 refine G.part (t := 30) rfl (fun h30 => ?_) (fun h30 => ?_)
 ·refine go [3,0,2,2,1,7,8] ?_
  refine G.cond rfl (fun h28 => ?_) (fun h28 => ?_)
  ·refine go [9,10,0,0] ?_
   have hm : m = true := by simp_all
   subst hm
   have hal := (cutM_lt hx).1
   refine G.op rfl (G.cR rfl rfl rfl rfl Tryz.func109 rfl rfl may0 (ih a'.length (by have := (cutM_lt (by assumption)).1; omega) a' b' rfl (by have := (cutM_lt (by assumption)).1; omega) (by omega)) ?_)
   refine go [1,7,8,11,17,12] ?_
   exact G.done0G rfl (Rv.tmp rfl Rv.nil) Y42
  refine go [9,10,0,1,7,8] ?_
  refine G.cond rfl (fun h36 => ?_) (fun h36 => ?_)
  ·refine go [9,10,1,7,8,11,17,12] ?_
   exact G.done0G rfl (Rv.tmp rfl Rv.nil) Y42
  refine go [9,10,0,1,7,8] ?_
  refine G.cond rfl (fun h38 => ?_) (fun h38 => ?_)
  ·refine go [9,10,1,7,8,11,17,12] ?_
   exact G.done0G rfl (Rv.tmp rfl Rv.nil) Y42
  refine go [13,16,8,9,10,1,7,8,11] ?_
  exact G.done0G rfl (Rv.tmp rfl Rv.nil) Y42
 refine go [4,2,2,1,7,8,60,0,9,10,0,1,7,8] ?_
 refine G.cond rfl (fun h36 => ?_) (fun h36 => ?_)
 ·refine go [9,10,1,7,8,11,17,12] ?_
  exact G.done0G rfl (Rv.tmp rfl Rv.nil) Y42
 refine go [9,10,0,1,7,8] ?_
 refine G.cond rfl (fun h38 => ?_) (fun h38 => ?_)
 ·refine go [9,10,1,7,8,11,17,12] ?_
  exact G.done0G rfl (Rv.tmp rfl Rv.nil) Y42
 refine go [13,16,8,9,10,1,7,8,11] ?_
 exact G.done0G rfl (Rv.tmp rfl Rv.nil) Y42
theorem order_tr (a b : List UInt8) (ha : a.length ≤ 1000000) (hb : b.length ≤ 1000000) : Tr Tryz.prog 109 #[.string (sB a), .string (sB b)] [] [] (T0 (.int .i64 (cmpL (splitM a) (splitM b)))) := order_all _ a b rfl ha hb
def compareM (a b : List UInt8) : Int := if okP a then (if okP b then cmpL (splitM a) (splitM b) else 1) else if okP b then -1 else bytesC a b
def parentM (s : List UInt8) : List UInt8 × Bool := if 0 < lastM s s.length ∧ okP s then (s.take (lastM s s.length - 1), true) else ([], false)
theorem lastM_le (s : List UInt8) : ∀ k, lastM s k ≤ k
 | 0 => Nat.le_refl _
 | k + 1 => by
  unfold lastM
  split
  ·exact Nat.le_refl _
  have := lastM_le s k
  omega
set_option maxHeartbeats 4000000 in
theorem compare_tr (a b : List UInt8) (ha : a.length ≤ 9223372036854775807) (hb : b.length ≤ 9223372036854775807) : Tr Tryz.prog 71 #[.string (sB a), .string (sB b)] [] [] (T0 (.int .i64 (compareM a b))) := by
 refine Tr.of (l := [(0, .string (sB a)), (1, .string (sB b))]) Tryz.func71 rfl (n := 26) rfl (.cons rfl (.cons rfl .nil)) (fun w0 hro => ?_)
 refine go [9,10,1,7,8,9,10,0] ?_
 refine G.op rfl (G.cR rfl rfl rfl rfl Tryz.func108 rfl rfl may0 (valid_tr _ (by omega)) ?_)
 refine go [0] ?_
 refine G.op rfl (G.cR rfl rfl rfl rfl Tryz.func108 rfl rfl may0 (valid_tr _ (by omega)) ?_)
 refine go [1,1,7,8,9,15,9,10,0,0] ?_
 refine G.partP (t := 13) rfl (fun h13 => ?_) (fun h13 => ?_)
 ·refine go [3,0,2,2,1,7,8] ?_
  refine G.condP rfl (fun h11 => ?_) (fun h11 => ?_)
  ·refine go [9,10,0,0] ?_
   refine G.op rfl (G.cR rfl rfl rfl rfl Tryz.func109 rfl rfl may0 (order_tr _ _ (by have := okP_len (s := a) (by assumption); omega) (by have := okP_len (s := b) (by assumption); omega)) ?_)
   refine go [1,7,8,11,17,12] ?_
   exact G.done0G rfl (Rv.tmp rfl Rv.nil) Y44
  refine go [9,10,0,1,7,8] ?_
  refine G.condP rfl (fun h19 => ?_) (fun h19 => ?_)
  ·refine go [9,10,1,7,8,11,17,12] ?_
   exact G.done0G rfl (Rv.tmp rfl Rv.nil) Y44
  refine go [9,10,0,1,7,8] ?_
  refine G.condP rfl (fun h21 => ?_) (fun h21 => ?_)
  ·refine go [9,10,1,7,8,11,17,12] ?_
   exact G.done0G rfl (Rv.tmp rfl Rv.nil) Y44
  refine go [13,16,8,9,10,0,0] ?_
  refine G.op rfl (G.cR rfl rfl rfl rfl Tryz.func110 rfl rfl may0 (cmp_tr _ _) ?_)
  refine go [1,7,8,11] ?_
  exact G.done0G rfl (Rv.tmp rfl Rv.nil) Y44
 refine go [4,2,2,1,7,8,60,0,9,10,0,1,7,8] ?_
 refine G.condP rfl (fun h19 => ?_) (fun h19 => ?_)
 ·refine go [9,10,1,7,8,11,17,12] ?_
  exact G.done0G rfl (Rv.tmp rfl Rv.nil) Y44
 refine go [9,10,0,1,7,8] ?_
 refine G.condP rfl (fun h21 => ?_) (fun h21 => ?_)
 ·refine go [9,10,1,7,8,11,17,12] ?_
  exact G.done0G rfl (Rv.tmp rfl Rv.nil) Y44
 refine go [13,16,8,9,10,0,0] ?_
 refine G.op rfl (G.cR rfl rfl rfl rfl Tryz.func110 rfl rfl may0 (cmp_tr _ _) ?_)
 refine go [1,7,8,11] ?_
 exact G.done0G rfl (Rv.tmp rfl Rv.nil) Y44
set_option maxHeartbeats 4000000 in
theorem parent_tr (s : List UInt8) (hs : s.length ≤ 9223372036854775807) : Tr Tryz.prog 72 #[.string (sB s)] [] [] (T0 (.tuple #[.string (sB (parentM s).1), .bool (parentM s).2])) := by
 refine Tr.of (l := [(0, .string (sB s))]) Tryz.func72 rfl (n := 17) rfl (.cons rfl .nil) (fun w0 hro => ?_)
 have hlast := lastM_le s s.length
 refine go [9,10,1,1,7,8,9,10,0] ?_
 refine G.op rfl (G.cR rfl rfl rfl rfl Tryz.func111 rfl rfl may0 (last_tr _ (by omega)) ?_)
 refine go [1,7,8,9,9,10,0,2,9,0] ?_
 refine G.partP (t := 9) rfl (fun h9 => ?_) (fun h9 => ?_)
 ·refine go [4,4,4,2,2,7,8,60,1,9,10,1,1,7,8,11,12] ?_
  exact G.done0G rfl (Rv.tmp rfl (Rv.tmp rfl Rv.nil)) (by unfold parentM; rw [if_neg (show ¬ (0 < lastM s s.length ∧ okP s) from fun h => by first | omega | exact absurd h.2 (by assumption))]; rfl)
 refine go [3,0] ?_
 refine G.want rfl rfl rfl (G.cR rfl rfl rfl rfl Tryz.func108 rfl rfl may0 (valid_tr _ (by omega)) ?_)
 refine go [3,15,2,2,7,8] ?_
 refine G.condP rfl (fun h13 => ?_) (fun h13 => ?_)
 ·refine go [9,10,1,1,7,8,11,12] ?_
  exact G.done0G rfl (Rv.tmp rfl (Rv.tmp rfl Rv.nil)) (by unfold parentM; rw [if_neg (show ¬ (0 < lastM s s.length ∧ okP s) from fun h => by first | omega | exact absurd h.2 (by assumption))]; rfl)
 refine go [13,8,9,10,0,0] ?_
 refine G.op rfl (G.val rfl rfl (pv_strH (k := lastM s s.length - 1) Tryz.underlying9 rfl rfl (by omega) (by omega)) ?_)
 refine go [1,1,7,8,11] ?_
 exact G.done0G rfl (Rv.tmp rfl (Rv.tmp rfl Rv.nil)) (by unfold parentM; rw [if_pos (show 0 < lastM s s.length ∧ okP s from ⟨by omega, Decidable.of_not_not (by assumption)⟩)]; rfl)
theorem cmp_ne {xs ys : List (List UInt8)} {i : Nat} (hx : i < xs.length) (hy : i < ys.length) (h : xs[i] ≠ ys[i]) : cmpL (xs.drop i) (ys.drop i) = bytesC xs[i] ys[i] := by
 rw [List.drop_eq_getElem_cons hx, List.drop_eq_getElem_cons hy]
 exact if_neg h
theorem cmp_next {xs ys : List (List UInt8)} {i : Nat} (hx : i < xs.length) (hy : i < ys.length) (h : ¬ xs[i] ≠ ys[i]) : cmpL (xs.drop i) (ys.drop i) = cmpL (xs.drop (i + 1)) (ys.drop (i + 1)) := by
 rw [List.drop_eq_getElem_cons hx, List.drop_eq_getElem_cons hy]
 exact if_pos (Decidable.of_not_not h)
theorem cmp_end {xs ys : List (List UInt8)} {i : Nat} (hx : i ≤ xs.length) (hy : i ≤ ys.length) (h : ¬ (i < xs.length ∧ i < ys.length)) : cmpL (xs.drop i) (ys.drop i) = if xs.length < ys.length then -1 else if ys.length < xs.length then 1 else 0 := by
 rcases Nat.lt_or_ge i xs.length with h1 | h1
 ·have h2 : ys.length ≤ i := by omega
  rw [List.drop_of_length_le h2, if_neg (by omega), if_pos (by omega), List.drop_eq_getElem_cons h1]
  rfl
 rw [List.drop_of_length_le h1]
 rcases Nat.lt_or_ge i ys.length with h2 | h2
 ·rw [if_pos (by omega), List.drop_eq_getElem_cons h2]
  rfl
 rw [List.drop_of_length_le h2, if_neg (by omega), if_neg (by omega)]
 rfl
theorem split_one {p : List UInt8} (h : ∀ x ∈ p, ¬ x = 47) : splitM p = [p] := by
 induction p with
 | nil => rfl
 | cons c s ih =>
  rw [splitM_char (h c (List.mem_cons_self ..)), ih fun x hx => h x (List.mem_cons_of_mem _ hx)]
  rfl
theorem headP_len {c : UInt8} {ps : List (List UInt8)} (h : ps ≠ []) : (headP c ps).length = ps.length := by
 cases ps with
 | nil => exact absurd rfl h
 | cons p r => rfl
theorem split_one' : ∀ {p : List UInt8}, (splitM p).length = 1 → ∀ x ∈ p, ¬ x = 47
 | [], _, x, hx => by cases hx
 | c :: s, h, x, hx => by
  by_cases hc : c = 47
  ·subst hc
   rw [splitM_stroke] at h
   have := splitM_pos s
   have h : (splitM s).length + 1 = 1 := h
   omega
  rw [splitM_char hc, headP_len (splitM_ne s)] at h
  rcases List.mem_cons.1 hx with rfl | hx
  ·exact hc
  exact split_one' h x hx
set_option maxHeartbeats 4000000 in
theorem compareR_tr (a b : List UInt8) (ha : a.length ≤ 9223372036854775807) (hb : b.length ≤ 9223372036854775807) : Tr Tryz.prog 119 #[.string (sB a), .string (sB b)] [] [] (T0 (.int .i64 (compareM a b))) := by
 refine Tr.of (l := [(0, .string (sB a)), (1, .string (sB b))]) Tryz.func119 rfl (n := 71) rfl (.cons rfl (.cons rfl .nil)) (fun w0 hro => ?_)
 have hla := splitM_len a
 have hlb := splitM_len b
 refine go [9,10,1,7,8,9,10,0] ?_
 refine G.op rfl (G.cR rfl rfl rfl rfl Tryz.func144 rfl rfl may0 (validR_tr _ (by omega)) ?_)
 refine go [0] ?_
 refine G.op rfl (G.cR rfl rfl rfl rfl Tryz.func144 rfl rfl may0 (validR_tr _ (by omega)) ?_)
 refine go [1,1,7,8,9,9] ?_
 refine G.cutK (X := Unit) (ts := [0, 1, 4, 5, 6]) (p := []) (fun _ => True) (fun _ => [(19, .bool (decide (¬ (checkM a).1 = 0 ∧ ¬ (checkM b).1 = 0)))]) (fun _ => []) (.cons rfl (.cons rfl (.cons rfl (.cons rfl (.cons rfl .nil))))) subT (.cons .nil) apT ?_ ?_
 ·refine go [10,0,2,15,0] ?_
  refine G.partP (t := 16) rfl (fun h16 => ?_) (fun h16 => ?_)
  ·refine go [3,0,3,15,2,2,7] ?_
   exact G.meet (()) trT (.consE rfl (congrArg Value.bool (by simp_all)) (.cons rfl (.cons rfl (.cons rfl (.cons rfl (.cons rfl .nil)))))) subT
  refine go [4,4,2,2,7] ?_
  exact G.meet (()) trT (.consE rfl (congrArg Value.bool (by simp_all)) (.cons rfl (.cons rfl (.cons rfl (.cons rfl (.cons rfl .nil)))))) subT
 intro _ hJ
 try dsimp only at hJ
 try dsimp only
 refine G.condP rfl (fun h19 => ?_) (fun h19 => ?_)
 ·refine go [9,10,0,0] ?_
  refine G.op rfl (G.cR rfl rfl rfl rfl Tryz.func145 rfl rfl may0 (bytesC_tr _ _) ?_)
  refine go [1,7,8,11,12] ?_
  exact G.done0G rfl (Rv.tmp rfl Rv.nil) Y44
 refine go [13,8,9,9,10,0,2,15,7,8] ?_
 refine G.condP rfl (fun h24 => ?_) (fun h24 => ?_)
 ·refine go [9,10,1,7,8,11,12] ?_
  exact G.done0G rfl (Rv.tmp rfl Rv.nil) Y44
 refine go [13,8,9,9,10,0,2,15,7,8] ?_
 refine G.condP rfl (fun h26 => ?_) (fun h26 => ?_)
 ·refine go [9,10,1,7,8,11,12] ?_
  exact G.done0G rfl (Rv.tmp rfl Rv.nil) Y44
 refine go [13,8,9,10] ?_
 have hal := okP_len (s := a) (by first | assumption | exact Decidable.of_not_not (by assumption))
 have hbl := okP_len (s := b) (by first | assumption | exact Decidable.of_not_not (by assumption))
 refine go [0] ?_
 refine G.op rfl (G.cS rfl rfl rfl rfl Tryz.func146 rfl rfl subT may0 (split_tr _ (by omega)) apT ?_)
 intro x28 hJ
 try dsimp only at hJ
 try dsimp only
 refine G.ownTo selT (splitM_pos _) (fun g1 cap1 sp1 hv1 hkc1 hmx1 hl1 hlen1 => ?_)
 subst hv1
 refine go [0] ?_
 refine G.op rfl (G.cS rfl rfl rfl rfl Tryz.func146 rfl rfl subT may0 (split_tr _ (by omega)) apT ?_)
 intro x30 hJ
 try dsimp only at hJ
 try dsimp only
 refine G.ownTo selT (splitM_pos _) (fun g2 cap2 sp2 hv2 hkc2 hmx2 hl2 hlen2 => ?_)
 subst hv2
 refine go [1,1,7,8,9,9,10,1,7,8,15] ?_
 have hcmp : compareM a b = cmpL (splitM a) (splitM b) := (if_pos (show okP a from by first | assumption | exact Decidable.of_not_not (by assumption))).trans (if_pos (show okP b from by first | assumption | exact Decidable.of_not_not (by assumption)))
 refine G.loopK (X := Nat) (ts := [7, 8]) (fun i => i ≤ (splitM a).length ∧ i ≤ (splitM b).length ∧ cmpL (splitM a) (splitM b) = cmpL ((splitM a).drop i) ((splitM b).drop i)) (fun i => [(9, .int .i64 (i : Int))]) (fun i => []) (fun i => (splitM a).length - i) (x0 := 0) (.cons rfl (.cons rfl .nil)) subT (.cons .nil) apT (by first | exact trivial | ((try dsimp only) <;> exact ⟨Nat.zero_le _, Nat.zero_le _, rfl⟩)) (.consE rfl veqT .nil) (fun i hJ => ?_)
 try dsimp only at hJ
 try dsimp only
 refine go [9,9] ?_
 have hJ9 := hJ
 refine G.cutK (X := Unit) (ts := [7, 8, 9]) (p := []) (fun _ => True) (fun _ => [(40, .bool (decide (i < (splitM a).length ∧ i < (splitM b).length)))]) (fun _ => []) (.cons rfl (.cons rfl (.cons rfl .nil))) subT (.cons .nil) apT ?_ ?_
 ·refine go [10,0,0,2,5,2,9,0] ?_
  refine G.partP (t := 35) rfl (fun h35 => ?_) (fun h35 => ?_)
  ·refine go [3,0,3,0,3,5,3,9,2,2,7] ?_
   exact G.meet (()) trT (.consE rfl (congrArg Value.bool (by simp_all; try omega)) (.cons rfl (.cons rfl (.cons rfl .nil)))) subT
  refine go [4,4,4,4,2,2,7] ?_
  exact G.meet (()) trT (.consE rfl (congrArg Value.bool (by simp_all; try omega)) (.cons rfl (.cons rfl (.cons rfl .nil)))) subT
 intro _ hJ
 try dsimp only at hJ
 try dsimp only
 have hJ := hJ9
 refine G.condP rfl (fun h40 => ?_) (fun h40 => ?_)
 ·refine go [13,8,9,15,9] ?_
  refine G.drawT (nn := 9) (p := []) (rem := 511) [0, 0, 3, 4, 0, 0, 48, 64, 136] [0, 0, 3, 4, 0, 0, 48, 64, 136] kr ⟨rfl, by kernel_rfl, by kernel_rfl⟩ subT kr (fun hT12 => ?_)
  refine go [22,0,510,0,22,1,508,0,22,2,504,20,1,22,4,488,0,22,5,456,0,22,6,392,20,1] ?_
  refine G.takeT hT12 (i := 3) (rem' := 384) rfl rfl rfl kr (fun _ _ _ h => h) rfl (pv_load (v := .string (sB (splitM a)[i])) Tryz.underlying9 rfl rfl (blk_cell selD (by exact rd1 (by omega)))) subT ?_
  refine go [24,7,256] ?_
  refine G.turnOp rfl rfl (G.val rfl rfl (pv_load (v := .string (sB (splitM b)[i])) Tryz.underlying9 rfl rfl (blk_cell selD (by exact rd1 (by omega)))) ?_)
  refine go [26,22,8,0,23,27,8] ?_
  refine G.condP rfl (fun h51 => ?_) (fun h51 => ?_)
  ·refine G.seq ?_
   refine G.drawT (nn := 10) (p := []) (rem := 1023) [0, 0, 3, 4, 0, 0, 48, 64, 136, 511] [0, 0, 3, 4, 0, 0, 48, 64, 136, 256] kr ⟨rfl, by kernel_rfl, by kernel_rfl⟩ subT kr (fun hT13 => ?_)
   refine go [22,0,1022,0,22,1,1020,0,22,2,1016,20,1,22,4,1000,0,22,5,968,0,22,6,904,20,1] ?_
   refine G.takeT hT13 (i := 3) (rem' := 896) rfl rfl rfl kr (fun _ _ _ h => h) rfl (pv_load (v := .string (sB (splitM a)[i])) Tryz.underlying9 rfl rfl (blk_cell selD (by exact rd1 (by omega)))) subT ?_
   refine go [24,7,768] ?_
   refine G.turnOp rfl rfl (G.val rfl rfl (pv_load (v := .string (sB (splitM b)[i])) Tryz.underlying9 rfl rfl (blk_cell selD (by exact rd1 (by omega)))) ?_)
   refine go [26,24,8,512] ?_
   refine G.turnOp rfl rfl (G.cR rfl rfl rfl rfl Tryz.func145 rfl rfl may0 (bytesC_tr _ _) ?_)
   refine go [26,22,9,0,1,27,8,11,17,12,12,17,12] ?_
   obtain ⟨hi1, hi2, hck⟩ := hJ
   exact G.done0G rfl (Rv.tmp rfl Rv.nil) (by rw [hcmp, hck, cmp_ne (by omega) (by omega) (by assumption)]; rfl)
  refine go [13,16,8,10,0,2,6,1,7] ?_
  obtain ⟨hi1, hi2, hck⟩ := hJ
  exact G.next (i + 1) (by first | exact trivial | ((try dsimp only) <;> exact ⟨by omega, by omega, hck.trans (cmp_next (by omega) (by omega) (by assumption))⟩)) (by (try dsimp only); omega) (.consE rfl veqT (.cons rfl (.cons rfl .nil))) subT
 refine go [18,14,14,19,8,9,9,10,0,2,5,0,2,5,2,9,7,8] ?_
 refine G.condP rfl (fun h65 => ?_) (fun h65 => ?_)
 ·refine go [9,10,1,7,8,11,12] ?_
  obtain ⟨hi1, hi2, hck⟩ := hJ
  have hend := cmp_end (xs := splitM a) (ys := splitM b) (i := i) hi1 hi2 (by assumption)
  exact G.done0G rfl (Rv.tmp rfl Rv.nil) (by rw [hcmp, hck, hend, if_pos (by omega)]; rfl)
 refine go [13,8,9,9,10,0,2,5,0,2,5,2,10,7,8] ?_
 refine G.condP rfl (fun h70 => ?_) (fun h70 => ?_)
 ·refine go [9,10,1,7,8,11,12] ?_
  obtain ⟨hi1, hi2, hck⟩ := hJ
  have hend := cmp_end (xs := splitM a) (ys := splitM b) (i := i) hi1 hi2 (by assumption)
  exact G.done0G rfl (Rv.tmp rfl Rv.nil) (by rw [hcmp, hck, hend, if_neg (by omega), if_pos (by omega)]; rfl)
 refine go [13,8,9,10,1,7,8,11] ?_
 obtain ⟨hi1, hi2, hck⟩ := hJ
 have hend := cmp_end (xs := splitM a) (ys := splitM b) (i := i) hi1 hi2 (by assumption)
 exact G.done0G rfl (Rv.tmp rfl Rv.nil) (by rw [hcmp, hck, hend, if_neg (by omega), if_neg (by omega)]; rfl)
theorem bl_irrefl : ∀ a, Op.bytesLess a a = false
 | [] => rfl
 | a :: x => by
  have h := bl_irrefl x
  simp [Op.bytesLess, h]
theorem bl_cons {a b : UInt8} {x y : List UInt8} : Op.bytesLess (a :: x) (b :: y) = true ↔ a.toNat < b.toNat ∨ (a = b ∧ Op.bytesLess x y = true) := by
 simp only [Op.bytesLess, Bool.or_eq_true, decide_eq_true_eq, Bool.and_eq_true, beq_iff_eq, UInt8.lt_iff_toNat_lt]
theorem bl_asymm : ∀ a b, Op.bytesLess a b = true → Op.bytesLess b a = true → False
 | a, [], h, _ => by cases a <;> cases h
 | [], b :: y, _, h => by cases h
 | a :: x, b :: y, h, k => by
  rcases bl_cons.1 h with h | ⟨rfl, h2⟩
  ·rcases bl_cons.1 k with k | ⟨rfl, k⟩
   ·omega
   omega
  rcases bl_cons.1 k with k | ⟨_, k2⟩
  ·omega
  exact bl_asymm x y h2 k2
theorem bl_trans : ∀ a b c, Op.bytesLess a b = true → Op.bytesLess b c = true → Op.bytesLess a c = true
 | a, [], c, h, _ => by cases a <;> cases h
 | a, b :: y, [], _, k => by cases k
 | [], b :: y, c :: z, _, _ => rfl
 | a :: x, b :: y, c :: z, h, k => by
  refine bl_cons.2 ?_
  rcases bl_cons.1 h with h1 | ⟨rfl, h2⟩
  ·rcases bl_cons.1 k with k1 | ⟨rfl, k2⟩
   ·exact .inl (by omega)
   exact .inl h1
  rcases bl_cons.1 k with k1 | ⟨rfl, k2⟩
  ·exact .inl k1
  exact .inr ⟨rfl, bl_trans x y z h2 k2⟩
theorem bl_total : ∀ a b, Op.bytesLess a b = false → Op.bytesLess b a = false → a = b
 | [], [], _, _ => rfl
 | [], b :: y, h, _ => by cases h
 | a :: x, [], _, h => by cases h
 | a :: x, b :: y, h, k => by
  have h' : ¬ (a.toNat < b.toNat ∨ (a = b ∧ Op.bytesLess x y = true)) := fun e => by rw [bl_cons.2 e] at h; cases h
  have k' : ¬ (b.toNat < a.toNat ∨ (b = a ∧ Op.bytesLess y x = true)) := fun e => by rw [bl_cons.2 e] at k; cases k
  have e : a = b := UInt8.toNat_inj.1 (by omega)
  subst e
  have h2 : Op.bytesLess x y = false := by
   cases hh : Op.bytesLess x y with
   | false => rfl
   | true => exact absurd (.inr ⟨rfl, hh⟩) h'
  have k2 : Op.bytesLess y x = false := by
   cases hh : Op.bytesLess y x with
   | false => rfl
   | true => exact absurd (.inr ⟨rfl, hh⟩) k'
  rw [bl_total x y h2 k2]
structure OrdF {α : Type} (f : α → α → Int) : Prop where
 rng : ∀ a b, f a b = -1 ∨ f a b = 0 ∨ f a b = 1
 zero : ∀ a b, f a b = 0 ↔ a = b
 anti : ∀ a b, f b a = - f a b
 trans : ∀ a b c, f a b = -1 → f b c = -1 → f a c = -1
theorem bytesM_neg {a b : List UInt8} : bytesC a b = -1 ↔ Op.bytesLess a b = true := by
 unfold bytesC
 cases h : Op.bytesLess a b <;> simp
 by_cases e : a = b <;> simp [e]
theorem bytesM_eq {a b : List UInt8} (h : Op.bytesLess a b = false) : bytesC a b = if a = b then 0 else 1 := by
 unfold bytesC
 rw [h]
 by_cases e : a = b <;> simp [e]
theorem bytesM_ord : OrdF bytesC where
 rng a b := by
  cases h : Op.bytesLess a b with
  | true => exact .inl (bytesM_neg.2 h)
  | false =>
   rw [bytesM_eq h]
   by_cases e : a = b <;> simp [e]
 zero a b := by
  cases h : Op.bytesLess a b with
  | true =>
   rw [bytesM_neg.2 h]
   constructor
   ·intro h; cases h
   rintro rfl
   rw [bl_irrefl] at h
   cases h
  | false =>
   rw [bytesM_eq h]
   by_cases e : a = b <;> simp [e]
 anti a b := by
  cases h : Op.bytesLess a b with
  | true =>
   have h2 : Op.bytesLess b a = false := by
    cases k : Op.bytesLess b a with
    | false => rfl
    | true => exact (bl_asymm _ _ h k).elim
   have h3 : ¬ b = a := fun e => by
    subst e
    rw [bl_irrefl] at h
    cases h
   rw [bytesM_neg.2 h, bytesM_eq h2, if_neg h3]
   rfl
  | false =>
   cases k : Op.bytesLess b a with
   | true =>
    have h3 : ¬ a = b := fun e => by
     subst e
     rw [bl_irrefl] at k
     cases k
    rw [bytesM_neg.2 k, bytesM_eq h, if_neg h3]
   | false =>
    have := bl_total _ _ h k
    subst this
    rw [bytesM_eq h, if_pos rfl]
    rfl
 trans a b c h k := bytesM_neg.2 (bl_trans _ _ _ (bytesM_neg.1 h) (bytesM_neg.1 k))
theorem OrdF.self {α : Type} {f : α → α → Int} (h : OrdF f) (a : α) : f a a = 0 := (h.zero a a).2 rfl
theorem cmpL_cons_eq {x : List UInt8} {xs ys : List (List UInt8)} : cmpL (x :: xs) (x :: ys) = cmpL xs ys := if_pos rfl
theorem cmpL_cons_ne {x y : List UInt8} {xs ys : List (List UInt8)} (h : ¬ x = y) : cmpL (x :: xs) (y :: ys) = bytesC x y := if_neg h
theorem cmpL_rng : ∀ a b, cmpL a b = -1 ∨ cmpL a b = 0 ∨ cmpL a b = 1
 | [], [] => .inr (.inl rfl)
 | [], _ :: _ => .inl rfl
 | _ :: _, [] => .inr (.inr rfl)
 | x :: xs, y :: ys => by
  by_cases h : x = y
  ·subst h
   rw [cmpL_cons_eq]
   exact cmpL_rng xs ys
  rw [cmpL_cons_ne h]
  exact bytesM_ord.rng x y
theorem cmpL_zero : ∀ a b, cmpL a b = 0 ↔ a = b
 | [], [] => ⟨fun _ => rfl, fun _ => rfl⟩
 | [], _ :: _ => ⟨fun h => (by cases h), fun h => (by cases h)⟩
 | _ :: _, [] => ⟨fun h => (by cases h), fun h => (by cases h)⟩
 | x :: xs, y :: ys => by
  by_cases h : x = y
  ·subst h
   rw [cmpL_cons_eq, cmpL_zero xs ys]
   simp
  rw [cmpL_cons_ne h, bytesM_ord.zero]
  simp [h]
theorem cmpL_anti : ∀ a b, cmpL b a = - cmpL a b
 | [], [] => rfl
 | [], _ :: _ => rfl
 | _ :: _, [] => rfl
 | x :: xs, y :: ys => by
  by_cases h : x = y
  ·subst h
   rw [cmpL_cons_eq, cmpL_cons_eq]
   exact cmpL_anti xs ys
  rw [cmpL_cons_ne h, cmpL_cons_ne (fun e => h e.symm)]
  exact bytesM_ord.anti x y
theorem cmpL_trans : ∀ a b c, cmpL a b = -1 → cmpL b c = -1 → cmpL a c = -1
 | [], [], _, h, _ => by cases h
 | _ :: _, [], _, h, _ => by cases h
 | _, _ :: _, [], _, k => by cases k
 | [], _ :: _, _ :: _, _, _ => rfl
 | x :: xs, y :: ys, z :: zs, h, k => by
  by_cases e : x = y
  ·subst e
   rw [cmpL_cons_eq] at h
   by_cases e2 : x = z
   ·subst e2
    rw [cmpL_cons_eq] at k ⊢
    exact cmpL_trans xs ys zs h k
   rw [cmpL_cons_ne e2] at k ⊢
   exact k
  rw [cmpL_cons_ne e] at h
  by_cases e2 : y = z
  ·subst e2
   rw [cmpL_cons_ne e]
   exact h
  rw [cmpL_cons_ne e2] at k
  have h3 := bytesM_ord.trans x y z h k
  have e3 : ¬ x = z := fun e => by
   subst e
   rw [bytesM_ord.self] at h3
   cases h3
  rw [cmpL_cons_ne e3]
  exact h3
def joinL : List (List UInt8) → List UInt8
 | [] => []
 | [p] => p
 | p :: q :: r => p ++ 47 :: joinL (q :: r)
theorem joinL_cons {p : List UInt8} {r : List (List UInt8)} (h : r ≠ []) : joinL (p :: r) = p ++ 47 :: joinL r := by
 cases r with
 | nil => exact absurd rfl h
 | cons q r => rfl
theorem joinL_head {c : UInt8} {ps : List (List UInt8)} (h : ps ≠ []) : joinL (headP c ps) = c :: joinL ps := by
 cases ps with
 | nil => exact absurd rfl h
 | cons p r => cases r <;> rfl
theorem joinL_split : ∀ s, joinL (splitM s) = s
 | [] => rfl
 | c :: s => by
  have ih := joinL_split s
  by_cases h : c = 47
  ·subst h
   rw [splitM_stroke, joinL_cons (splitM_ne s), ih]
   rfl
  rw [splitM_char h, joinL_head (splitM_ne s), ih]
theorem split_inj {a b : List UInt8} (h : splitM a = splitM b) : a = b := by
 rw [← joinL_split a, h, joinL_split]
theorem split_app : ∀ d t, splitM (d ++ 47 :: t) = splitM d ++ splitM t
 | [], t => splitM_stroke t
 | c :: d, t => by
  have ih := split_app d t
  rw [List.cons_append]
  by_cases h : c = 47
  ·subst h
   rw [splitM_stroke, splitM_stroke, ih]
   rfl
  rw [splitM_char h, splitM_char h, ih]
  cases e : splitM d with
  | nil => exact absurd e (splitM_ne d)
  | cons p r => rfl
theorem joinL_app : ∀ {a b : List (List UInt8)}, a ≠ [] → b ≠ [] → joinL (a ++ b) = joinL a ++ 47 :: joinL b
 | [], _, h, _ => absurd rfl h
 | [p], b, _, hb => joinL_cons hb
 | p :: q :: r, b, _, hb => by
  have ih := joinL_app (a := q :: r) (b := b) (by simp) hb
  show p ++ 47 :: joinL (q :: r ++ b) = _
  rw [ih]
  show _ = (p ++ 47 :: joinL (q :: r)) ++ 47 :: joinL b
  simp
theorem last_at {a p : List UInt8} (hp : ∀ x ∈ p, ¬ x = 47) (ha : a = [] ∨ ∃ a', a = a' ++ [47]) : ∀ k, a.length ≤ k → k ≤ (a ++ p).length → lastM (a ++ p) k = a.length
 | 0, h, _ => by
  unfold lastM
  omega
 | k + 1, h, h2 => by
  rw [lastM.eq_2]
  by_cases e : a.length = k + 1
  ·rcases ha with rfl | ⟨a', rfl⟩
   ·simp at e
   have e2 : a'.length = k := by simpa using e
   rw [if_pos]
   ·exact e.symm
   rw [List.getElem?_append_left (by omega), List.getElem?_append_right (by omega), e2]
   simp
  have hk : k - a.length < p.length := by
   simp at h2
   omega
  rw [if_neg, last_at hp ha k (by omega) (by omega)]
  rw [List.getElem?_append_right (by omega), List.getElem?_eq_getElem hk]
  intro e3
  injection e3 with e3
  exact hp _ (List.getElem_mem hk) e3
theorem last_none {s p : List UInt8} (h : splitM s = [p]) : lastM s s.length = 0 ∧ s = p := by
 have e : s = p := by
  have := joinL_split s
  rw [h] at this
  exact this.symm
 subst e
 exact ⟨last_at (a := []) (split_one' (by rw [h]; rfl)) (.inl rfl) s.length (Nat.zero_le _) (Nat.le_refl _), rfl⟩
theorem last_some {s p : List UInt8} {ini : List (List UInt8)} (h : splitM s = ini ++ [p]) (hi : ini ≠ []) : s = joinL ini ++ 47 :: p ∧ lastM s s.length = (joinL ini).length + 1 ∧ splitM (joinL ini) = ini := by
 have e : s = joinL ini ++ 47 :: p := by
  have := joinL_app hi (b := [p]) (by simp)
  rw [← h, joinL_split] at this
  exact this
 have hno : ∀ x ∈ p, ¬ x = 47 := splitM_no s p (by rw [h]; simp)
 refine ⟨e, ?_, ?_⟩
 ·have := last_at (a := joinL ini ++ [47]) hno (.inr ⟨_, rfl⟩) (joinL ini ++ [47] ++ p).length (by simp) (Nat.le_refl _)
  have e2 : joinL ini ++ [47] ++ p = s := by rw [e]; simp
  rw [e2] at this
  rw [this]
  simp
 have e3 := split_app (joinL ini) p
 rw [← e, split_one hno, h] at e3
 exact (List.append_inj' e3 rfl).1.symm
theorem parent_some {s p : List UInt8} {ini : List (List UInt8)} (hs : okP s) (h : splitM s = ini ++ [p]) (hi : ini ≠ []) : parentM s = (joinL ini, true) := by
 obtain ⟨e, e2, _⟩ := last_some h hi
 unfold parentM
 rw [if_pos ⟨by omega, hs⟩, e2, Nat.add_sub_cancel]
 congr 1
 conv => lhs; rw [e]
 simp
theorem parent_none {s p : List UInt8} (h : splitM s = [p]) : parentM s = ([], false) := by
 unfold parentM
 rw [if_neg (fun h2 => by rw [(last_none h).1] at h2; omega)]
theorem parentM_len (s : List UInt8) : (parentM s).1.length ≤ s.length := by
 unfold parentM
 split
 ·simp
  omega
 simp
theorem compareM_ok {a b : List UInt8} (ha : okP a) (hb : okP b) : compareM a b = cmpL (splitM a) (splitM b) := (if_pos ha).trans (if_pos hb)
theorem compareM_l {a b : List UInt8} (ha : okP a) (hb : ¬ okP b) : compareM a b = 1 := (if_pos ha).trans (if_neg hb)
theorem compareM_r {a b : List UInt8} (ha : ¬ okP a) (hb : okP b) : compareM a b = -1 := (if_neg ha).trans (if_pos hb)
theorem compareM_no {a b : List UInt8} (ha : ¬ okP a) (hb : ¬ okP b) : compareM a b = bytesC a b := (if_neg ha).trans (if_neg hb)
theorem compareM_ord : OrdF compareM where
 rng a b := by
  by_cases ha : okP a <;> by_cases hb : okP b
  ·rw [compareM_ok ha hb]; exact cmpL_rng _ _
  ·rw [compareM_l ha hb]; simp
  ·rw [compareM_r ha hb]; simp
  rw [compareM_no ha hb]; exact bytesM_ord.rng _ _
 zero a b := by
  by_cases ha : okP a <;> by_cases hb : okP b
  ·rw [compareM_ok ha hb, cmpL_zero]
   exact ⟨split_inj, fun h => by rw [h]⟩
  ·rw [compareM_l ha hb]
   exact ⟨fun h => (by cases h), fun h => absurd (h ▸ ha) hb⟩
  ·rw [compareM_r ha hb]
   exact ⟨fun h => (by cases h), fun h => absurd (h ▸ hb) ha⟩
  rw [compareM_no ha hb]; exact bytesM_ord.zero _ _
 anti a b := by
  by_cases ha : okP a <;> by_cases hb : okP b
  ·rw [compareM_ok ha hb, compareM_ok hb ha]; exact cmpL_anti _ _
  ·rw [compareM_l ha hb, compareM_r hb ha]
  ·rw [compareM_r ha hb, compareM_l hb ha]; rfl
  rw [compareM_no ha hb, compareM_no hb ha]; exact bytesM_ord.anti _ _
 trans a b c h k := by
  by_cases ha : okP a
  ·by_cases hb : okP b
   ·rw [compareM_ok ha hb] at h
    by_cases hc : okP c
    ·rw [compareM_ok hb hc] at k
     rw [compareM_ok ha hc]
     exact cmpL_trans _ _ _ h k
    rw [compareM_l hb hc] at k
    cases k
   rw [compareM_l ha hb] at h
   cases h
  by_cases hc : okP c
  ·exact compareM_r ha hc
  by_cases hb : okP b
  ·rw [compareM_l hb hc] at k
   cases k
  rw [compareM_no ha hb] at h
  rw [compareM_no hb hc] at k
  rw [compareM_no ha hc]
  exact bytesM_ord.trans _ _ _ h k
def partsM (s : List UInt8) : List (List UInt8) := if okP s then splitM s else []
theorem parent_ref {s : List UInt8} (hs : okP s) (h : 1 < (splitM s).length) : parentM s = (s.take (s.length - ((splitM s)[(splitM s).length - 1]'(by omega)).length - 1), true) ∧ ((splitM s)[(splitM s).length - 1]'(by omega)).length + 1 ≤ s.length := by
 obtain ⟨ini, p, e⟩ := splitM_last s
 have hi : ini ≠ [] := fun h0 => by
  subst h0
  rw [e] at h
  simp at h
 have e2 : (splitM s)[(splitM s).length - 1]'(by omega) = p := by
  have : ∀ (l : List (List UInt8)) (h : l = ini ++ [p]) (hl : l.length - 1 < l.length), l[l.length - 1] = p := by
   rintro l rfl hl
   simp
  exact this _ e (by omega)
 obtain ⟨h1, h2, h3⟩ := last_some e hi
 have hlen : s.length = (joinL ini).length + 1 + p.length := by
  conv => lhs; rw [h1]
  simp
  omega
 refine ⟨?_, by rw [e2]; omega⟩
 rw [parent_some hs e hi]
 congr 1
 rw [e2, show s.length - p.length - 1 = (joinL ini).length by omega]
 conv => rhs; rw [h1]
 simp
theorem parent_one {s : List UInt8} (h : ¬ (1 < (partsM s).length)) : parentM s = ([], false) := by
 unfold partsM at h
 by_cases hs : okP s
 ·rw [if_pos hs] at h
  have := splitM_pos s
  obtain ⟨ini, p, e⟩ := splitM_last s
  have hi : ini = [] := by
   rw [e] at h
   simp at h
   exact h
  subst hi
  exact parent_none e
 unfold parentM
 rw [if_neg (fun h => hs h.2)]
set_option maxHeartbeats 4000000 in
theorem partsR_tr (s : List UInt8) (hs : s.length ≤ 9223372036854775807) : Tr Tryz.prog 162 #[.string (sB s)] [] [] (TX (fun _ : Value => True) (fun v => v) (fun v => [own 9 1 v (partsM s).length ((partsM s).map vStr)])) := by
 refine Tr.of (l := [(0, .string (sB s))]) Tryz.func162 rfl (n := 8) rfl (.cons rfl .nil) (fun w0 hro => ?_)
 refine go [9,10,1,7,8,9,9,10,0] ?_
 refine G.op rfl (G.cR rfl rfl rfl rfl Tryz.func144 rfl rfl may0 (validR_tr _ (by omega)) ?_)
 refine go [2,15,7,8] ?_
 refine G.condP rfl (fun h5 => ?_) (fun h5 => ?_)
 ·refine go [9,10,1,7,8,11,12] ?_
  rw [show partsM s = [] from if_neg (show ¬ okP s from by assumption)]
  refine G.ownNil 9 1 ?_
  exact G.doneX1 (.slice none 0 0) trT rfl rfl rfl subT
 refine go [13,8,9,10,0] ?_
 refine G.op rfl (G.cS rfl rfl rfl rfl Tryz.func146 rfl rfl subT may0 (split_tr s (by have := okP_len (s := s) (Decidable.of_not_not (by assumption)); omega)) apT ?_)
 intro x7 hJ
 try dsimp only at hJ
 try dsimp only
 refine go [1,7,8,11] ?_
 rw [show partsM s = splitM s from if_pos (show okP s from Decidable.of_not_not (by assumption))]
 exact G.doneX1 (x7) trT rfl rfl rfl subT
set_option maxHeartbeats 4000000 in
theorem parentR_tr (s : List UInt8) (hs : s.length ≤ 9223372036854775807) : Tr Tryz.prog 147 #[.string (sB s)] [] [] (T0 (.tuple #[.string (sB (parentM s).1), .bool (parentM s).2])) := by
 refine Tr.of (l := [(0, .string (sB s))]) Tryz.func147 rfl (n := 23) rfl (.cons rfl .nil) (fun w0 hro => ?_)
 refine go [9,10,1,1,7,8,9,10,0] ?_
 refine G.op rfl (G.cS rfl rfl rfl rfl Tryz.func162 rfl rfl subT may0 (partsR_tr _ (by omega)) apT ?_)
 intro x6 hJ
 try dsimp only at hJ
 try dsimp only
 refine G.ownOpen (v := x6) selT (fun ad cap hv hk hm => ?_)
 have hv' := hv
 refine go [1,7,8,9,9,10,0] ?_
 rw [hv]
 refine go [2,5,2,9,7,8] ?_
 refine G.condP rfl (fun h9 => ?_) (fun h9 => ?_)
 ·refine go [9,10,1,1,7,8,11,12] ?_
  exact G.done0G rfl (Rv.tmp rfl (Rv.tmp rfl Rv.nil)) (by rw [parent_one (by omega)]; rfl)
 have h1 : 1 < (partsM s).length := by omega
 have hok : okP s := Decidable.of_not_not fun h => by rw [show partsM s = [] from if_neg h] at h1; simp at h1
 have hps : partsM s = splitM s := if_pos hok
 rw [hps] at h1 hk ⊢
 rw [hps] at hv
 rw [← hv]
 obtain ⟨hpr, hpl⟩ := parent_ref hok h1
 have hlen := splitM_len s
 have hs2 := okP_len hok
 refine G.ownTo selT (by omega) (fun g cap2 sp hv2 hkc hmx hl hlen2 => ?_)
 rw [hv2]
 refine go [13,8,9,10,0,0,2,21,0,0,2,5,2,19] ?_
 refine G.op rfl (G.val rfl rfl (pv_ixSl (sz := 1) (k := (splitM s).length - 1) Tryz.underlying207 kr rfl rfl (fun _ => rfl) (by omega) (by omega)) ?_)
 refine G.op rfl (G.val rfl rfl (pv_load (v := .string (sB ((splitM s)[(splitM s).length - 1]'(by omega)))) Tryz.underlying9 rfl rfl (blk_cell selD (by exact rd1 (by omega)))) ?_)
 refine go [2,21,2,19,2,19] ?_
 refine G.op rfl (G.val rfl rfl (pv_strH (k := s.length - ((splitM s)[(splitM s).length - 1]'(by omega)).length - 1) Tryz.underlying9 rfl rfl (by omega) (by omega)) ?_)
 refine go [1,1,7,8,11] ?_
 exact G.done0G rfl (Rv.tmp rfl (Rv.tmp rfl Rv.nil)) (by rw [hpr]; rfl)
set_option maxRecDepth 100000
structure En where
 path : List UInt8
 kind : Int
 mode : Int
 data : List UInt8
 «to» : List UInt8
abbrev ET := En × Value
def evC (x : ET) : List Value := [vStr x.1.path, vInt x.1.kind, vInt x.1.mode, x.2, vStr x.1.to]
def EnOk (e : En) : Prop := I64 e.kind ∧ I64 e.mode ∧ e.path.length ≤ 140737488355328 ∧ e.data.length ≤ 140737488355328 ∧ e.to.length ≤ 140737488355328
theorem rangeAt_loc {w w' : World} {b o : Nat} {cs : List Value} (h : w'.heap[b]? = w.heap[b]?) (hw : w.rangeAt b o cs) : w'.rangeAt b o cs := fun j v hj => (World.cell?_of_block h).trans (hw j v hj)
def rEV : Rdr ET where
 sz := 5
 R := fun Ps w b o x => Ps b ∧ w.rangeAt b o (evC x) ∧ IsSl rByte Ps w x.2 x.1.data ∧ EnOk x.1
 loc := fun h ⟨h1, h2, h3, h4⟩ => ⟨h1, rangeAt_loc (h _ h1) h2, h3.loc h, h4⟩
 mono := fun h ⟨h1, h2, h3, h4⟩ => ⟨h _ h1, h2, h3.mono h, h4⟩
def flatT (xs : List ET) : List Value := xs.flatMap evC
theorem evC_length (x : ET) : (evC x).length = 5 := rfl
theorem flatT_length (xs : List ET) : (flatT xs).length = xs.length * 5 := flatMap_length evC 5 evC_length xs
theorem flatT_get {xs : List ET} {i j : Nat} (hi : i < xs.length) (hj : j < 5) : (flatT xs)[i * 5 + j]? = (evC xs[i])[j]? := flatMap_get evC 5 evC_length xs i j hi hj
def ens (xs : List ET) : List En := xs.map (·.1)
theorem ens_length (xs : List ET) : (ens xs).length = xs.length := List.length_map ..
theorem ens_get {xs : List ET} {i : Nat} (h : i < xs.length) : (ens xs)[i]'(by rw [ens_length]; exact h) = xs[i].1 := List.getElem_map ..
theorem flat_at {xs : List ET} {sp : List Value} {i : Nat} (h : i < xs.length) (j : Nat) (hj : j < 5) : (flatT xs ++ sp)[0 + i * 5 + j]? = (evC xs[i])[j]? := by
 rw [List.getElem?_append_left (by rw [flatT_length]; omega), show 0 + i * 5 + j = i * 5 + j by omega]
 exact flatT_get h hj
theorem flat_set {xs : List ET} {sp : List Value} {i : Nat} (h : i < xs.length) (d : Value) : (flatT xs ++ sp).set (0 + i * 5 + 3) d = flatT (xs.set i (xs[i].1, d)) ++ sp := by
 have hl : (flatT (xs.set i (xs[i].1, d))).length = xs.length * 5 := by rw [flatT_length, List.length_set]
 apply List.ext_getElem?
 intro j
 rcases Nat.lt_or_ge j (xs.length * 5) with hj | hj
 ·obtain ⟨q, r, rfl, hr, hq⟩ : ∃ q r, j = q * 5 + r ∧ r < 5 ∧ q < xs.length := ⟨j / 5, j % 5, by omega, by omega, by omega⟩
  rw [List.getElem?_append_left (by rw [hl]; omega), flatT_get (by rw [List.length_set]; exact hq) hr]
  by_cases hiq : i = q
  ·subst hiq
   rw [List.getElem_set_self]
   by_cases hr3 : r = 3
   ·subst hr3
    rw [show 0 + i * 5 + 3 = i * 5 + 3 by omega, List.getElem?_set_self (by rw [List.length_append, flatT_length]; omega)]
    rfl
   rw [List.getElem?_set_ne (by omega), List.getElem?_append_left (by rw [flatT_length]; omega), flatT_get hq hr]
   have : r = 0 ∨ r = 1 ∨ r = 2 ∨ r = 4 := by omega
   rcases this with rfl | rfl | rfl | rfl <;> rfl
  rw [List.getElem_set_ne hiq, List.getElem?_set_ne (by omega), List.getElem?_append_left (by rw [flatT_length]; omega), flatT_get hq hr]
 rw [List.getElem?_set_ne (by omega), List.getElem?_append_right (by rw [flatT_length]; omega), List.getElem?_append_right (by rw [hl]; omega), flatT_length, hl]
def ownT (e : TypeId) (v : Value) (xs : List ET) : Ck := own e 5 v xs.length (flatT xs)
def datC (e : TypeId) (xs : List ET) : Ck := star (xs.map fun x => ownB e x.2 x.1.data)
section
variable {P : Program} {n : Nat} {w0 : World} {S : Nat → Prop} {l : Fr} {m : List Ck} {Q : Exit → Act → World → Prop} {K : Act → World → Prop}
theorem Ro.openT {Ps : Nat → Prop} {v : Value} {xs : List ET} (h : Ro w0 S (slc rEV Ps v xs)) : ∃ ad cap b off, v = .slice ad xs.length cap ∧ xs.length ≤ cap ∧ cap ≤ 9223372036854775807 ∧ (ad = none → cap = 0) ∧ (0 < xs.length → ad = some ⟨b, off, none⟩) ∧ ∀ i (hi : i < xs.length), Ro w0 S (elc rEV Ps b (off + i * 5) xs[i]) := h.open
theorem Ro.evRng {Ps : Nat → Prop} {b o : Nat} {x : ET} (h : Ro w0 S (elc rEV Ps b o x)) : Ro w0 S (rng b o [.string (sB x.1.path), .int .i64 x.1.kind, .int .i64 x.1.mode, x.2, .string (sB x.1.to)]) :=
 ⟨h.1.2.1, fun k hk => h.2 k (by obtain rfl : k = b := hk; exact h.1.1)⟩
theorem Ro.evDat {Ps : Nat → Prop} {b o : Nat} {x : ET} (h : Ro w0 S (elc rEV Ps b o x)) : Ro w0 S (slc rByte Ps x.2 x.1.data) := ⟨h.1.2.2.1, h.2⟩
theorem Ro.evOk {Ps : Nat → Prop} {b o : Nat} {x : ET} (h : Ro w0 S (elc rEV Ps b o x)) : EnOk x.1 := h.1.2.2.2
theorem Ro.slv {α : Type} {E : Rdr α} {Ps : Nat → Prop} {v : Value} {xs : List α} (h : Ro w0 S (slc E Ps v xs)) : ∃ ad cap, v = .slice ad xs.length cap := by
 obtain ⟨⟨ad, cap, b, off, e, _⟩, _⟩ := h
 exact ⟨ad, cap, e⟩
theorem ownT_sl {e : TypeId} {v : Value} {xs : List ET} {w : World} {Ps : Nat → Prop} (h : w.ownsRow 0 e 5 v xs.length (flatT xs)) (hP : ∀ b, v.ownBlock = some b → Ps b) (hok : ∀ x ∈ xs, EnOk x.1) (hd : ∀ x ∈ xs, IsSl rByte Ps w x.2 x.1.data) : IsSl rEV Ps w v xs := by
 obtain ⟨ad, cap, b, hv, had, hnil, hnw⟩ := own_news h
 obtain ⟨h1, h2⟩ := h
 have hb : xs.length ≤ cap ∧ cap ≤ 9223372036854775807 := by
  rcases h2 with ⟨rfl, h0⟩ | ⟨g, cap', cur, rfl, _, _, hc, hm, _⟩
  ·injection hv with e1 e2 e3
   subst e3
   omega
  injection hv with e1 e2 e3
  subst e3
  exact ⟨hc, by unfold maxLen at hm; omega⟩
 refine ⟨ad, cap, b, 0, hv, hb.1, hb.2, hnil, had, fun i hi => ⟨hP b ?_, fun j u hj => ?_, hd _ (List.getElem_mem hi), hok _ (List.getElem_mem hi)⟩⟩
 ·rw [hv, had (by omega)]
  rfl
 have hj5 : j < 5 := (List.getElem?_eq_some_iff.1 hj).1
 have := hnw (i * 5 + j) u (by rw [flatT_get hi hj5]; exact hj)
 rw [show 0 + i * rEV.sz + j = 0 + (i * 5 + j) from by show 0 + i * 5 + j = _; omega]
 exact this
theorem datC_dat {w : World} {e : TypeId} {xs : List ET} (h : (datC e xs).φ w) : ∀ x ∈ xs, IsSl rByte (datC e xs).S w x.2 x.1.data := fun x hx => by
 have h1 : (ownB e x.2 x.1.data).φ w := h.1 _ (List.mem_map.2 ⟨x, hx, rfl⟩)
 exact (own_isSl' (p := fun _ => True) (OwnB.own h1) rfl (fun _ _ => trivial)).mono fun k hk => ⟨_, List.mem_map.2 ⟨x, hx, rfl⟩, hk⟩
theorem may_tree {e e2 : TypeId} {v : Value} {xs : List ET} {r r' : List Ck} (h : Sel m (ownT e v xs) r) (h' : Sel m (datC e2 xs) r') (hok : ∀ x ∈ xs, EnOk x.1) : May w0 S m (slc rEV (fun b => v.ownBlock = some b ∨ (datC e2 xs).S b) v xs) :=
 .mix (fun w hw => ownT_sl (hw.holds _ h.mem) (fun b hb => .inl hb) hok fun x hx => (datC_dat (hw.holds _ h'.mem) x hx).mono fun k hk => .inr hk) fun b hb => .inr (by
  rcases hb with hb | hb
  ·exact ⟨_, h.mem, hb⟩
  exact ⟨_, h'.mem, hb⟩)
end
theorem U_eq {c d : Ck} (h : ∀ b, c.S b ↔ d.S b) : U [c] = U [d] := by
 funext b
 simp [U, h]
theorem G.blkOwnB {n : Nat} {w0 : World} {S : Nat → Prop} {l : Fr} {m : List Ck} {K : Act → World → Prop} {b e : Nat} {xs : List UInt8} {r : List Ck} (hs : Sel m (blk b e (xs.map vByte)) r) (hm : xs.length ≤ 9223372036854775807) (h : G n w0 S l (ownB e (.slice (some ⟨b, 0, none⟩) xs.length xs.length) xs :: r) K) : G n w0 S l m K := fun a w ha hw =>
 h a w ha (hp_view (c := blk b e (xs.map vByte)) (d := ownB e (.slice (some ⟨b, 0, none⟩) xs.length xs.length) xs) (hw.sel hs) (fun hg => .inr ⟨b, [], by simp, by simpa using hm, by rw [List.append_nil]; exact hg⟩) fun k hk => by
  have : some b = some k := hk
  exact (Option.some.inj this).symm)
set_option maxHeartbeats 4000000 in
theorem over_nil : Tr Tryz.prog 62 #[.slice none 0 0] [] [] (TX (fun _ : Unit => True) (fun _ => .tuple #[]) (fun _ => [])) := by
 refine Tr.of (l := [(0, .slice none 0 0)]) Tryz.func62 rfl (n := 22) rfl (.cons rfl .nil) (fun w0 hro => ?_)
 refine go [9,10,0,0] ?_
 refine G.op rfl (G.val rfl rfl (pv_capSl Tryz.underlying31 rfl) ?_)
 refine G.op rfl (G.val rfl rfl (pv_subH (sz := 1) (k := 0) Tryz.underlying31 Tryz.sizeByte rfl rfl rfl (Nat.le_refl _)) ?_)
 refine go [1,7,8,9,10,1,7,8,15] ?_
 refine G.loopK (X := Unit) (ts := [2]) (fun _ => True) (fun _ => [(3, .int .i64 0)]) (fun _ => []) (fun _ => 0) (x0 := ()) (.cons rfl .nil) subT (.cons .nil) apT trT (.consE rfl veqT .nil) (fun _ hJ => ?_)
 try dsimp only at hJ
 try dsimp only
 refine go [9,9,10,0,0,2,5,2,9,7,8] ?_
 refine G.condF rfl (decide_eq_false (by omega)) ?_
 refine go [18,14,14,19] ?_
 exact G.doneXE (()) trT rfl Y7 subT
theorem overB_tr (v : Value) (xs : List UInt8) : Tr Tryz.prog 62 #[v] [] [ownB 5 v xs] (TX (fun _ : Unit => True) (fun _ => .tuple #[]) (fun _ => [])) := fun w hro hw => by
 rcases hw.holds _ (List.mem_cons_self ..) with ⟨rfl, rfl⟩ | ⟨b, sp, rfl, hm, hg⟩
 ·refine (over_nil w (by simp) ⟨Chg.refl _ _, by simp, by simp, .nil⟩).mono ?_
  rintro e w' ⟨u, m', he, ⟨x, hJ, hu, hm⟩, hw'⟩
  subst hm
  exact ⟨u, [], he, ⟨(), trivial, hu, rfl⟩, ⟨hw'.chg.mono fun b hb => by rw [U_nil] at hb; exact hb.elim, by simp, by simp, .nil⟩⟩
 have hU : U [ownB 5 (.slice (some ⟨b, 0, none⟩) xs.length (xs.length + sp.length)) xs] = U [blk b 5 ((xs ++ sp).map vByte)] := U_eq fun k => by
  show some b = some k ↔ k = b
  constructor <;> intro h
  ·exact (Option.some.inj h).symm
  rw [h]
 have hw2 : Hp w (U [blk b 5 ((xs ++ sp).map vByte)]) w [blk b 5 ((xs ++ sp).map vByte)] := by
  rw [hU] at hw
  exact hp_view hw (fun _ => hg) fun k hk => by obtain rfl : k = b := hk; rfl
 refine (over_tr b xs.length (xs.length + sp.length) (xs ++ sp) (by simp) hm (by omega) w (by simp) hw2).mono ?_
 rintro e w' ⟨u, m', he, ⟨x, hJ, hu, hm'⟩, hw'⟩
 refine ⟨u, [], he, ⟨(), trivial, hu, rfl⟩, ?_⟩
 rw [hU]
 exact hw'.sub (List.nil_sublist _)
set_option maxHeartbeats 4000000 in
theorem copyB_tr {Pv : Nat → Prop} (v : Value) (a : List UInt8) (ha : a.length ≤ 140737488355328) : Tr Tryz.prog 58 #[v] [slc rByte Pv v a] [] (TX (fun _ : Value => True) (fun x => x) (fun x => [ownB 5 x a])) := by
 refine Tr.of (l := [(0, v)]) Tryz.func58 rfl (n := 6) rfl (.cons rfl .nil) (fun w0 hro => ?_)
 have hv := ro1 hro
 obtain ⟨av, cv, qv, ov, rfl, hcv, hmv, hnil, hadv, -⟩ := Ro.open hv
 refine go [9,10,1,7,8,9,10] ?_
 refine G.op rfl (G.lit0 rfl Tryz.underlying31 kr rfl ?_)
 intro b3
 refine G.blkOwnB (b := b3) (xs := []) selT (by decide) ?_
 refine go [0] ?_
 refine G.op rfl (G.appendB (xs := []) (ys := a) (Ps := Pv) rfl Tryz.underlying31 Tryz.infoByte rfl rfl selT (ro_sl hv) (by simp; omega) (by simp; omega) ?_)
 intro v'
 rw [List.nil_append a]
 refine go [1,7,8,11] ?_
 exact G.doneX1 (v') trT rfl rfl rfl subT
def argP (e : En) : Prop := e.kind < 1 ∨ 3 < e.kind ∨ e.mode < 0 ∨ 511 < e.mode ∨ (0 < e.data.length ∧ e.kind ≠ 2) ∨ (e.kind = 3 ∧ e.to.length = 0) ∨ (e.kind ≠ 3 ∧ 0 < e.to.length) ∨ 200 < e.to.length
instance (e : En) : Decidable (argP e) := inferInstanceAs (Decidable (_ ∨ _))
def oneM (e : En) : Int := if ¬ okP e.path then 4 else if argP e then 2 else if 1048576 < e.data.length then 3 else 0
theorem one_bytes {e : En} (h : ¬ okP e.path) : oneM e = 4 := if_pos h
theorem one_arg {e : En} (h : okP e.path) (h2 : argP e) : oneM e = 2 := (if_neg (fun k => k h)).trans (if_pos h2)
theorem one_long {e : En} (h : okP e.path) (h2 : ¬ argP e) (h3 : 1048576 < e.data.length) : oneM e = 3 := (if_neg (fun k => k h)).trans ((if_neg h2).trans (if_pos h3))
theorem one_ok {e : En} (h : okP e.path) (h2 : ¬ argP e) (h3 : ¬ 1048576 < e.data.length) : oneM e = 0 := (if_neg (fun k => k h)).trans ((if_neg h2).trans (if_neg h3))
theorem nil_len {s : List UInt8} : s = [] ↔ s.length = 0 := List.length_eq_zero_iff.symm
theorem dec_t {p : Prop} [Decidable p] (h : p) : Value.bool true = .bool (decide p) := by rw [decide_eq_true h]
theorem dec_f {p : Prop} [Decidable p] (h : ¬ p) : Value.bool false = .bool (decide p) := by rw [decide_eq_false h]
theorem dec_e {p q : Prop} [Decidable p] [Decidable q] (h : p ↔ q) : Value.bool (decide p) = .bool (decide q) := by rw [decide_eq_decide.2 h]
theorem dec_n {p : Prop} [Decidable p] {a b : Bool} (h : (!(a == b)) = true ↔ p) : Value.bool (!(a == b)) = .bool (decide p) := by
 congr 1
 cases hh : (!(a == b)) with
 | true => exact (decide_eq_true (h.1 hh)).symm
 | false => exact (decide_eq_false fun k => by rw [h.2 k] at hh; cases hh).symm
theorem bne_dec {p q : Prop} [Decidable p] [Decidable q] : (!(decide p == decide q)) = true ↔ ¬ (p ↔ q) := by
 by_cases hp : p <;> by_cases hq : q <;> simp [hp, hq]
set_option maxHeartbeats 4000000 in
theorem one_tr {Pd : Nat → Prop} (e : En) (d : Value) (hl : e.path.length ≤ 9223372036854775807) : Tr Tryz.prog 70 #[.agg #[.string (sB e.path), .int .i64 e.kind, .int .i64 e.mode, d, .string (sB e.to)]] [slc rByte Pd d e.data] [] (T0 (.int .i64 (oneM e))) := by
 refine Tr.of (l := [(0, .agg #[.string (sB e.path), .int .i64 e.kind, .int .i64 e.mode, d, .string (sB e.to)])]) Tryz.func70 rfl (n := 58) rfl (.cons rfl .nil) (fun w0 hro => ?_)
 have hd := ro1 hro
 obtain ⟨ad, cap, rfl⟩ := Ro.slv hd
 have hto := nil_len (s := e.to)
 refine go [9,10,60,9] ?_
 intro b1
 refine go [1,7,8,9] ?_
 refine G.drawT (nn := 8) (p := []) (rem := 255) [0, 1, 2, 0, 8, 16, 7, 127] [0, 1, 2, 0, 8, 16, 4, 32] kr ⟨rfl, by kernel_rfl, by kernel_rfl⟩ subT kr (fun hT1 => ?_)
 refine go [22,0,254,3,1,22,3,246,3,1,22,1,244,4,22,2,240,13,22,6,176,1,24,4,160,25,4,26,22,5,128,13,22,7,0,1,27,8,9,15,9,10,2,3,0,2,4] ?_
 refine G.op rfl (G.cR rfl rfl rfl rfl Tryz.func107 rfl rfl may0 (check_tr _ (by omega)) ?_)
 refine G.op rfl (G.val rfl rfl (pv_field1 Tryz.underlying157 rfl Tryz.underlying27 rfl rfl rfl) ?_)
 refine go [2,14,1,7,8] ?_
 refine G.condP rfl (fun h11 => ?_) (fun h11 => ?_)
 ·refine go [9,10,1,7,8,11,17,12] ?_
  exact G.done0G rfl (Rv.tmp rfl Rv.nil) (by rw [one_bytes (by assumption)]; rfl)
 have hok : okP e.path := Decidable.of_not_not (by assumption)
 refine G.seq ?_
 refine G.cutK (X := Unit) (ts := [1, 2]) (p := []) (fun _ => True) (fun _ => [(17, .bool (decide (argP e)))]) (fun _ => []) (.cons rfl (.cons rfl .nil)) subT (.cons .nil) apT ?_ ?_
 ·refine go [9,10,2,3,1,2,4,2,9,0] ?_
  refine G.partP (t := 21) rfl (fun h21 => ?_) (fun h21 => ?_)
  ·refine go [4,4,4,2,2,1,7,8,60,1,13] ?_
   exact G.meet (()) trT (.consE rfl Y9 (.cons rfl (.cons rfl .nil))) subT
  refine go [3,3,1,3,4,3,10,2,2,1,7,8] ?_
  refine G.condP rfl (fun h17 => ?_) (fun h17 => ?_)
  ·refine G.skip ?_
   exact G.meet (()) trT (.consE rfl Y9 (.cons rfl (.cons rfl .nil))) subT
  refine go [9,10,2,3,2,2,4,2,9,0] ?_
  refine G.partP (t := 29) rfl (fun h29 => ?_) (fun h29 => ?_)
  ·refine go [4,4,4,2,2,1,7,8,60,1,13] ?_
   exact G.meet (()) trT (.consE rfl Y9 (.cons rfl (.cons rfl .nil))) subT
  refine go [3,3,2,3,4,3,10,2,2,1,7,8] ?_
  refine G.condP rfl (fun h17 => ?_) (fun h17 => ?_)
  ·refine G.skip ?_
   exact G.meet (()) trT (.consE rfl Y9 (.cons rfl (.cons rfl .nil))) subT
  refine go [9,10,2,3,3,2,4,2,5,2,10,0] ?_
  refine G.partP (t := 38) rfl (fun h38 => ?_) (fun h38 => ?_)
  ·refine go [3,0,3,15,2,2,1,7,8] ?_
   refine G.condP rfl (fun h17 => ?_) (fun h17 => ?_)
   ·refine G.skip ?_
    exact G.meet (()) trT (.consE rfl Y9 (.cons rfl (.cons rfl .nil))) subT
   refine go [10,0,2,3,4,2,4,2,23] ?_
   refine G.op rfl (G.val rfl rfl (pv_neqB Tryz.underlying4 rfl rfl) ?_)
   refine go [0] ?_
   refine G.part (t := 47) rfl (fun h47 => ?_) (fun h47 => ?_)
   ·have hb := bne_dec.1 h47
    rw [ne_eq, hto] at hb
    refine go [4,4,4,4,2,2,1,7] ?_
    exact G.meet (()) trT (.consE rfl Y9 (.cons rfl (.cons rfl .nil))) subT
   have hb : ¬ ¬ (e.kind = 3 ↔ ¬ e.to.length = 0) := fun h => by have := bne_dec.2 (show ¬ (e.kind = 3 ↔ e.to ≠ []) by rw [ne_eq, hto]; exact h); rw [h47] at this; cases this
   refine go [3,3,4,3,4,3,21,3,10,2,2,1,7] ?_
   exact G.meet (()) trT (.consE rfl Y9 (.cons rfl (.cons rfl .nil))) subT
  refine go [4,4,2,2,1,7,8,60,0,10,0,2,3,4,2,4,2,23] ?_
  refine G.op rfl (G.val rfl rfl (pv_neqB Tryz.underlying4 rfl rfl) ?_)
  refine go [0] ?_
  refine G.part (t := 47) rfl (fun h47 => ?_) (fun h47 => ?_)
  ·have hb := bne_dec.1 h47
   rw [ne_eq, hto] at hb
   refine go [4,4,4,4,2,2,1,7] ?_
   exact G.meet (()) trT (.consE rfl Y9 (.cons rfl (.cons rfl .nil))) subT
  have hb : ¬ ¬ (e.kind = 3 ↔ ¬ e.to.length = 0) := fun h => by have := bne_dec.2 (show ¬ (e.kind = 3 ↔ e.to ≠ []) by rw [ne_eq, hto]; exact h); rw [h47] at this; cases this
  refine go [3,3,4,3,4,3,21,3,10,2,2,1,7] ?_
  exact G.meet (()) trT (.consE rfl Y9 (.cons rfl (.cons rfl .nil))) subT
 intro _ hJ
 try dsimp only at hJ
 try dsimp only
 refine G.condP rfl (fun h17 => ?_) (fun h17 => ?_)
 ·refine go [9,10,1,7,8,11,17,12] ?_
  exact G.done0G rfl (Rv.tmp rfl Rv.nil) (by rw [one_arg hok (by assumption)]; rfl)
 refine go [9,10,2,3,3,2,4,2,5,2,10,1,7,8] ?_
 refine G.condP rfl (fun h53 => ?_) (fun h53 => ?_)
 ·refine go [9,10,1,7,8,11,17,12] ?_
  exact G.done0G rfl (Rv.tmp rfl Rv.nil) (by rw [one_long hok (by assumption) (by omega)]; rfl)
 refine go [13,16,8,9,10,1,7,8,11] ?_
 exact G.done0G rfl (Rv.tmp rfl Rv.nil) (by rw [one_ok hok (by assumption) (by omega)]; rfl)
def endsP (b : List UInt8) : Prop := b.length = 1024 ∨ (64 ≤ b.length ∧ rsum (lastW b) / 2 ^ 24 = 0)
instance (b : List UInt8) : Decidable (endsP b) := inferInstanceAs (Decidable (_ ∨ _))
def cutTo (b : List UInt8) : Nat → List Nat
 | 0 => []
 | i + 1 => if endsP ((b.take (i + 1)).drop ((cutTo b i).getLastD 0)) then cutTo b i ++ [i + 1] else cutTo b i
def curB (b : List UInt8) (i : Nat) : List UInt8 := (b.take i).drop ((cutTo b i).getLastD 0)
def cutL (b : List UInt8) : List Nat := cutTo b b.length
theorem cut_le (b : List UInt8) : ∀ i, ∀ x ∈ cutTo b i, x ≤ i
 | 0, x, h => by cases h
 | i + 1, x, h => by
  unfold cutTo at h
  split at h
  ·rcases List.mem_append.1 h with h | h
   ·exact Nat.le_succ_of_le (cut_le b i x h)
   obtain rfl : x = i + 1 := by simpa using h
   exact Nat.le_refl _
  exact Nat.le_succ_of_le (cut_le b i x h)
theorem last_le (b : List UInt8) : ∀ i, (cutTo b i).getLastD 0 ≤ i
 | 0 => Nat.le_refl _
 | i + 1 => by
  have ih := last_le b i
  unfold cutTo
  split
  ·rw [List.getLastD_concat]
   exact Nat.le_refl _
  omega
theorem cur_step {b : List UInt8} {i : Nat} (hi : i < b.length) : (b.take (i + 1)).drop ((cutTo b i).getLastD 0) = curB b i ++ [b[i]] := by
 unfold curB
 rw [List.take_succ_eq_append_getElem hi, List.drop_append_of_le_length]
 rw [List.length_take]
 have := last_le b i
 omega
theorem cut_yes {b : List UInt8} {i : Nat} (hi : i < b.length) (h : endsP (curB b i ++ [b[i]])) : cutTo b (i + 1) = cutTo b i ++ [i + 1] ∧ curB b (i + 1) = [] := by
 have e : cutTo b (i + 1) = cutTo b i ++ [i + 1] := by
  show (if _ then _ else _) = _
  rw [if_pos (by rw [cur_step hi]; exact h)]
 refine ⟨e, ?_⟩
 unfold curB
 rw [e, List.getLastD_concat]
 exact List.drop_of_length_le (by rw [List.length_take]; omega)
theorem cut_no {b : List UInt8} {i : Nat} (hi : i < b.length) (h : ¬ endsP (curB b i ++ [b[i]])) : cutTo b (i + 1) = cutTo b i ∧ curB b (i + 1) = curB b i ++ [b[i]] := by
 have e : cutTo b (i + 1) = cutTo b i := by
  show (if _ then _ else _) = _
  rw [if_neg (by rw [cur_step hi]; exact h)]
 refine ⟨e, ?_⟩
 rw [← cur_step hi]
 show (b.take (i + 1)).drop ((cutTo b (i + 1)).getLastD 0) = _
 rw [e]
theorem cut_pre (b : List UInt8) (i : Nat) : ∀ k, cutTo b i <+: cutTo b (i + k)
 | 0 => List.prefix_refl _
 | k + 1 => by
  refine (cut_pre b i k).trans ?_
  show cutTo b (i + k) <+: (if _ then _ else _)
  split
  ·exact List.prefix_append _ _
  exact List.prefix_refl _
theorem cut_at' {b : List UInt8} {i : Nat} (hi : i < b.length) (h : cutTo b (i + 1) = cutTo b i ++ [i + 1]) : (cutTo b i).length < (cutL b).length ∧ (cutL b).getD (cutTo b i).length 0 = i + 1 := by
 obtain ⟨t, ht⟩ := cut_pre b (i + 1) (b.length - (i + 1))
 rw [show i + 1 + (b.length - (i + 1)) = b.length by omega, h] at ht
 have ht : cutTo b i ++ [i + 1] ++ t = cutL b := ht
 rw [← ht]
 refine ⟨by simp, ?_⟩
 rw [List.getD_eq_getElem?_getD, List.getElem?_append_left (by simp), List.getElem?_append_right (by simp)]
 simp
theorem cur_len (b : List UInt8) (i : Nat) : (curB b i).length ≤ b.length := by
 unfold curB
 rw [List.length_drop, List.length_take]
 omega
def edge0 : List Value := (rollC (List.replicate 16 0) 0 0 [.int .i64 0])
set_option maxHeartbeats 4000000 in
theorem rnew_tr : Tr Tryz.prog 141 #[] [] [] (TX (fun _ : Nat => True) (fun D => .pointer (some ⟨D, 0, none⟩)) (fun D => [blk D 165 (rollC (List.replicate 16 0) 0 0 [])])) := by
 refine Tr.of (l := []) Tryz.func141 rfl (n := 3) rfl Fa.nil (fun w0 hro => ?_)
 refine go [9,10,1,7,8,9,10] ?_
 refine G.op rfl (G.val rfl rfl (pv_buildSt (z := [.int .u8 0, .int .u8 0, .int .u8 0, .int .u8 0, .int .u8 0, .int .u8 0, .int .u8 0, .int .u8 0, .int .u8 0, .int .u8 0, .int .u8 0, .int .u8 0, .int .u8 0, .int .u8 0, .int .u8 0, .int .u8 0, .int .i64 0, .int .u32 0, .bool false]) (pl := [(0, 16), (16, 1), (17, 1), (18, 1)]) Tryz.underlying165 kr kr rfl flT) ?_)
 refine G.op rfl (G.box rfl rfl (cs := [_, _, _, _, _, _, _, _, _, _, _, _, _, _, _, _, _, _, _]) rfl ?_)
 intro b2
 refine go [1,7,8,11] ?_
 exact G.doneX1 (b2) trT rfl rfl rfl subT
set_option maxHeartbeats 4000000 in
theorem fresh_tr : Tr Tryz.prog 114 #[] [] [] (T0 (.agg edge0.toArray)) := by
 refine Tr.of (l := []) Tryz.func114 rfl (n := 5) rfl Fa.nil (fun w0 hro => ?_)
 refine go [9,10] ?_
 refine G.op rfl (G.alloc (z := .agg #[.int .u8 0, .int .u8 0, .int .u8 0, .int .u8 0, .int .u8 0, .int .u8 0, .int .u8 0, .int .u8 0, .int .u8 0, .int .u8 0, .int .u8 0, .int .u8 0, .int .u8 0, .int .u8 0, .int .u8 0, .int .u8 0, .int .i64 0, .int .u32 0, .bool false, .int .i64 0]) (cs := [.int .u8 0, .int .u8 0, .int .u8 0, .int .u8 0, .int .u8 0, .int .u8 0, .int .u8 0, .int .u8 0, .int .u8 0, .int .u8 0, .int .u8 0, .int .u8 0, .int .u8 0, .int .u8 0, .int .u8 0, .int .u8 0, .int .i64 0, .int .u32 0, .bool false, .int .i64 0]) rfl kr rfl ?_)
 intro b0
 refine go [7,8,9,10] ?_
 refine G.op rfl (G.cS rfl rfl rfl rfl Tryz.func141 rfl rfl subT may0 (rnew_tr) apT ?_)
 intro x1 hJ
 try dsimp only at hJ
 try dsimp only
 refine go [2,8] ?_
 refine G.op rfl (G.val rfl rfl (pv_loadN (cs := [_, _, _, _, _, _, _, _, _, _, _, _, _, _, _, _, _, _, _]) Tryz.underlying165 rfl kr rfl (by first | exact blk_range (k := 19) selD (by rfl) | exact rng_range (k := 19) selD (by rfl) | exact ro_range (k := 19) (by assumption) (by rfl) | exact ro_rngR (k := 19) (by assumption) (by rfl))) ?_)
 refine G.op rfl (G.val rfl rfl (pv_buildSt (z := [.int .u8 0, .int .u8 0, .int .u8 0, .int .u8 0, .int .u8 0, .int .u8 0, .int .u8 0, .int .u8 0, .int .u8 0, .int .u8 0, .int .u8 0, .int .u8 0, .int .u8 0, .int .u8 0, .int .u8 0, .int .u8 0, .int .i64 0, .int .u32 0, .bool false, .int .i64 0]) (pl := [(0, 19), (19, 1)]) Tryz.underlying167 kr kr rfl flT) ?_)
 refine G.op rfl (G.storeN kr rfl rfl (by first | exact List.all_eq_true.2 (vByte_one _) | rfl) selT leT ?_)
 refine go [7,8,11] ?_
 exact G.done0G rfl (Rv.cellN (cs := [_, _, _, _, _, _, _, _, _, _, _, _, _, _, _, _, _, _, _, _]) rfl Tryz.underlying167 rfl kr (by first | exact blk_range (k := 20) selD (by rfl)) Rv.nil) Y7
set_option maxHeartbeats 4000000 in
theorem ends_tr (E : Nat) (ring : List UInt8) (n : Nat) (s : Int) (m : List UInt8) (c : UInt8) (h : RollAt ring n s m) (hm : m.length ≤ 1000000000) : Tr Tryz.prog 143 #[.pointer (some ⟨E, 0, none⟩), .int .u8 (c.toNat : Int)] [] [blk E 167 (rollC ring n s [.int .i64 (m.length : Int)])]
 (TX (fun z : List UInt8 × Nat × Int => RollAt z.1 z.2.1 z.2.2 (m ++ [c])) (fun _ => .bool (decide (endsP (m ++ [c])))) (fun z => [blk E 167 (rollC z.1 z.2.1 z.2.2 [.int .i64 ((m ++ [c]).length : Int)])])) := by
 refine Tr.of (l := [(0, .pointer (some ⟨E, 0, none⟩)), (1, .int .u8 (c.toNat : Int))]) Tryz.func143 rfl (n := 35) rfl (.cons rfl (.cons rfl .nil)) (fun w0 hro => ?_)
 have hr := h.len
 have hlen : (m ++ [c]).length = m.length + 1 := by simp
 refine go [9,10,1,7,8,9,10,0,2,8,2,3,19] ?_
 refine G.op rfl (G.val rfl rfl (pv_load Tryz.underlying3 rfl rfl Y29) ?_)
 refine G.op rfl (G.val rfl rfl ((pv_add64 rfl rfl (by omega)).int (b := ((m ++ [c]).length : Int)) (by omega)) ?_)
 refine go [2,8,2,3,19] ?_
 refine G.op rfl (G.store kr rfl rfl (by rfl) selT (by rw [roll_len hr]; first | done | simp) ?_)
 rw [roll_setX hr]
 refine go [7,8,9,10,0,2,8,2,3,0,0] ?_
 refine G.op rfl (G.cS rfl rfl rfl rfl Tryz.func160 rfl rfl subT may0 (push_tr _ _ _ _ _ _ m c h) apT ?_)
 intro x17 hJ
 obtain ⟨ring', n', s'⟩ := x17
 try dsimp only at hJ
 try dsimp only
 have hr : ring'.length = 16 := hJ.len
 refine go [1,7,8,9,10,0,2,8,2,3,19] ?_
 refine G.op rfl (G.val rfl rfl (pv_load Tryz.underlying3 rfl rfl Y29) ?_)
 refine go [2,13,0] ?_
 refine G.partP (t := 23) rfl (fun h23 => ?_) (fun h23 => ?_)
 ·refine go [4,4,4,4,4,4,6,6,6,4,2,2,1,7,8,11] ?_
  exact G.doneX1 ((ring', n', s')) Y30 rfl rfl Y18 subT
 refine go [3,0,3,8,3,3,19] ?_
 refine G.want rfl rfl rfl (G.val rfl rfl (pv_load Tryz.underlying3 rfl rfl Y29) ?_)
 refine go [3,12,3,0] ?_
 refine G.partP (t := 29) rfl (fun h29 => ?_) (fun h29 => ?_)
 ·refine go [3,0] ?_
  refine G.want rfl rfl rfl (G.val rfl rfl (pv_shr (s := 24) rfl rfl (by decide)) ?_)
  refine go [3,13,3,2,2,2,1,7,8,11] ?_
  exact G.doneX1 ((ring', n', s')) Y30 rfl rfl Y18 subT
 refine go [4,4,4,3,2,2,2,1,7,8,11] ?_
 exact G.doneX1 ((ring', n', s')) Y30 rfl rfl Y18 subT
set_option maxHeartbeats 4000000 in
theorem cuts_tr (p : Value) (v : Value) (hp : p.oneCell' = true) (hv : v.oneCell' = true) : Tr Tryz.prog 115 #[p, v] [] [] (TX (fun _ : Nat × Nat => True) (fun z => .func (.func 142) #[] #[.pointer (some ⟨z.1, 0, none⟩), .pointer (some ⟨z.2, 0, none⟩)]) (fun z => [blk z.1 31 [v], blk z.2 172 [p]])) := by
 refine Tr.of (l := [(0, p), (1, v)]) Tryz.func115 rfl (n := 6) rfl (.cons rfl (.cons rfl .nil)) (fun w0 hro => ?_)
 refine go [9,10] ?_
 refine G.op rfl (G.box rfl rfl (cs := [p]) (cells_of hp) ?_)
 intro b2
 refine G.op rfl (G.box rfl rfl (cs := [v]) (cells_of hv) ?_)
 intro b3
 refine go [1,7,8,9,10,2,26,1,7,8,11] ?_
 exact G.doneX1 ((b3, b2)) trT rfl rfl rfl subT
set_option maxHeartbeats 4000000 in
theorem cut_seq {Pv : Nat → Prop} (v : Value) (b : List UInt8) (hb : b.length ≤ 4000000) (bb be E : Nat) : SeqR Tryz.prog 142 #[.pointer (some ⟨bb, 0, none⟩), .pointer (some ⟨be, 0, none⟩)] [slc rByte Pv v b] [blk bb 31 [v], blk be 172 [.pointer (some ⟨E, 0, none⟩)], blk E 167 edge0] (cutL b).length (fun k => [.int .i64 ((cutL b).getD k 0 : Int)]) := by
 intro rr lp X J C x0 h0 hY
 show Tr _ _ #[.func (.yield lp) #[] #[], .pointer (some ⟨bb, 0, none⟩), .pointer (some ⟨be, 0, none⟩)] _ _ _
 refine Tr.ofI (l := [(0, .func (.yield lp) #[] #[]), (1, .pointer (some ⟨bb, 0, none⟩)), (2, .pointer (some ⟨be, 0, none⟩))]) Tryz.func142 rfl (n := 26) rfl (.cons rfl (.cons rfl (.cons rfl .nil))) (fun w0 hro => ?_)
 have hv := hro _ (List.mem_append_right _ (List.mem_cons_self ..))
 have hrr : ∀ c ∈ rr, Ro w0 _ c := fun c hc => hro c (List.mem_append_left _ hc)
 obtain ⟨ad, cap, bs, off, rfl, hcap, hmax, hnil, had, hel⟩ := Ro.open hv
 refine go [32,33,2,4,2,5,0,34,31,38] ?_
 refine I.loopK (X := Nat × (List UInt8) × Nat × Int × X) (ts := [0, 2, 6, 7]) (fun st => st.1 ≤ b.length ∧ (RollAt st.2.1 st.2.2.1 st.2.2.2.1 (curB b st.1) ∧ J true (cutTo b st.1).length st.2.2.2.2)) (fun st => [(8, .int .i64 (st.1 : Int))]) (fun st => [blk E 167 (rollC st.2.1 st.2.2.1 st.2.2.2.1 [.int .i64 ((curB b st.1).length : Int)]), C true (cutTo b st.1).length st.2.2.2.2]) (fun st => b.length - st.1) (x0 := (0, List.replicate 16 0, 0, 0, x0)) (.cons rfl (.cons rfl (.cons rfl (.cons rfl .nil)))) subT (.cons .nil) apT (by first | exact trivial | ((try dsimp only) <;> exact ⟨Nat.zero_le _, ⟨roll_zero, h0⟩⟩)) (.consE rfl veqT .nil) (fun st hJ => ?_)
 obtain ⟨i, ring, rn, s, x⟩ := st
 try dsimp only at hJ
 try dsimp only
 obtain ⟨hki, hJ⟩ := hJ
 obtain ⟨hR, hJx⟩ := hJ
 have hcl := cur_len b i
 refine go [32,33,2,9,34,31,32] ?_
 refine I.condP rfl (fun h9 => ?_) (fun h9 => ?_)
 ·have hlt : i < b.length := by omega
  have hE := hel i hlt
  refine go [39,31,32,38,32,33,0,2,20,1,2,4,1,1,34,31,32,32,33,2,4,0] ?_
  refine G.op rfl (G.cS rfl rfl rfl rfl Tryz.func143 rfl rfl subT may0 (ends_tr E ring rn s (curB b i) b[i] hR (by omega)) apT ?_)
  intro x15 hJ
  obtain ⟨ring', rn', s'⟩ := x15
  try dsimp only at hJ
  try dsimp only
  have hR' := hJ
  refine go [2,15,34,31] ?_
  refine I.condP rfl (fun h16 => ?_) (fun h16 => ?_)
  ·obtain ⟨hc1, hc2⟩ := cut_no hlt h16
   refine go [42,41,43,31,33,2,6,0,34] ?_
   rw [show (curB b i ++ [b[i]]) = curB b (i + 1) from hc2.symm, show C true (cutTo b i).length x = C true (cutTo b (i + 1)).length x from by rw [hc1]]
   exact I.next ((i + 1, ring', rn', s', x)) (by first | exact trivial | ((try dsimp only) <;> exact ⟨by omega, (by rw [hc1, hc2]; exact ⟨hR', hJx⟩)⟩)) (by (try dsimp only); omega) (.consE rfl veqT (.cons rfl (.cons rfl (.cons rfl (.cons rfl .nil))))) subT
  obtain ⟨hc1, hc2⟩ := cut_yes hlt (Decidable.of_not_not h16)
  obtain ⟨hk, hgd⟩ := cut_at' hlt hc1
  refine go [39,31,32] ?_
  refine I.drawT (nn := 4) (p := [blk E _ _]) (rem := 15) [0, 0, 3, 7] [0, 0, 1, 6] kr noT kr ⟨rfl, by kernel_rfl, by kernel_rfl⟩ subT kr (fun hT4 => ?_)
  refine go [22,0,14,4,24,1,12] ?_
  refine G.turnOp rfl rfl (G.cR rfl rfl rfl rfl Tryz.func114 rfl rfl may0 (fresh_tr) ?_)
  refine go [26,22,2,8,8,24,3,0] ?_
  refine G.turnOp rfl rfl (G.storeN (vs := edge0) kr rfl rfl (by rfl) selT (by rw [roll_len hR'.len]; exact Nat.le_of_ble_eq_true rfl) ?_)
  rw [putN_whole _ _ (by rw [roll_len hR'.len]; rfl)]
  refine go [26] ?_
  refine I.over hT4 kr ?_
  refine go [31,32] ?_
  refine IL.region ?_
  refine go [60,15,60,15] ?_
  refine IL.op rfl (IL.lift kr (G.val rfl rfl ((pv_add64 rfl rfl (by omega)).int (b := (((cutL b).getD (cutTo b i).length 0 : Nat) : Int)) (by rw [hgd]; omega)) ?_))
  refine IL.op rfl (IL.yieldR rfl rfl rfl rfl rfl subT (fun c hc => .old (hrr c hc)) (hY (cutTo b i).length x hk hJx) apT ?_)
  intro x23 hJ
  obtain ⟨v, y⟩ := x23
  try dsimp only at hJ
  try dsimp only
  have hJ2 := hJ
  refine IL.op rfl (IL.lift kr (G.val rfl rfl (pv_not rfl) ?_))
  refine IL.nil ?_
  refine I.nThen ?_
  refine I.cond rfl (fun h24 => ?_) (fun h24 => ?_)
  ·obtain rfl : v = false := by cases v <;> simp_all
   refine go [37,36,35,35,36] ?_
   exact I.doneIr ((false, (cutTo b i).length + 1, y)) (by first | exact trivial | ((try dsimp only) <;> exact ⟨hJ2, by omega, fun h => by cases h⟩)) rfl rfl subT
  obtain rfl : v = true := by cases v <;> simp_all
  refine go [39,40,31,33,2,6,0,34] ?_
  rw [show edge0 = rollC (List.replicate 16 0) 0 0 [.int .i64 ((curB b (i + 1)).length : Int)] from by rw [hc2]; rfl, show C true ((cutTo b i).length + 1) y = C true (cutTo b (i + 1)).length y from by rw [hc1, List.length_append]; rfl]
  exact I.next ((i + 1, List.replicate 16 0, 0, 0, y)) (by first | exact trivial | ((try dsimp only) <;> exact ⟨by omega, (by rw [hc1, hc2, List.length_append, List.length_singleton]; exact ⟨roll_zero, hJ2⟩)⟩)) (by (try dsimp only); omega) (.consE rfl veqT (.cons rfl (.cons rfl (.cons rfl (.cons rfl .nil))))) subT
 obtain rfl : i = b.length := by omega
 refine go [42,41,41,43] ?_
 exact I.doneI ((true, (cutTo b b.length).length, x)) (by first | exact trivial | ((try dsimp only) <;> exact ⟨hJx, Nat.le_refl _, fun _ => rfl⟩)) rfl rfl subT
abbrev LT := List (List UInt8 × Value)
def datB (e : TypeId) (l : LT) : Ck := star (l.map fun x => ownB e x.2 x.1)
section
variable {P : Program} {n : Nat} {w0 : World} {S : Nat → Prop} {l : Fr} {m : List Ck} {K : Act → World → Prop}
theorem G.datBNil (e : TypeId) (h : G n w0 S l (datB e [] :: m) K) : G n w0 S l m K := G.mem (fun w hw => Hp.star (m := []) hw) h
theorem G.datBSnoc {e : TypeId} {ys : LT} {x : List UInt8} {u : Value} {r r' : List Ck} (h1 : Sel m (datB e ys) r) (h2 : Sel r (ownB e u x) r') (h : G n w0 S l (datB e (ys ++ [(x, u)]) :: r') K) : G n w0 S l m K := G.mem (fun w hw => by
 have h3 := Hp.unstar (hw.sel h1)
 have p : (ys.map (fun x : List UInt8 × Value => ownB e x.2 x.1) ++ r).Perm (((ys ++ [(x, u)]).map fun x : List UInt8 × Value => ownB e x.2 x.1) ++ r') := by
  rw [List.map_append, List.append_assoc]
  exact List.Perm.append_left _ h2.perm
 exact Hp.star (h3.perm p)) h
theorem G.datBCons {e : TypeId} {x : List UInt8} {u : Value} {xs : LT} {r : List Ck} (h1 : Sel m (datB e ((x, u) :: xs)) r) (h : G n w0 S l (ownB e u x :: datB e xs :: r) K) : G n w0 S l m K := G.mem (fun w hw => by
 have h2 : Hp w0 S w ((ownB e u x :: xs.map fun x => ownB e x.2 x.1) ++ r) := Hp.unstar (hw.sel h1)
 have h3 : Hp w0 S w ((xs.map fun x => ownB e x.2 x.1) ++ (ownB e u x :: r)) := h2.perm (by
  rw [List.cons_append]
  exact List.perm_middle.symm)
 exact (Hp.star h3).perm (List.Perm.swap ..)) h
theorem datB_sl {w : World} {e : TypeId} {xs : LT} (h : (datB e xs).φ w) : ∀ x ∈ xs, IsSl rByte (datB e xs).S w x.2 x.1 := fun x hx => by
 have h1 : (ownB e x.2 x.1).φ w := h.1 _ (List.mem_map.2 ⟨x, hx, rfl⟩)
 exact (own_isSl' (p := fun _ => True) (OwnB.own h1) rfl (fun _ _ => trivial)).mono fun k hk => ⟨_, List.mem_map.2 ⟨x, hx, rfl⟩, hk⟩
theorem may_datB {e : TypeId} {xs : LT} {r : List Ck} (h : Sel m (datB e xs) r) {x : List UInt8} {u : Value} (hx : (x, u) ∈ xs) : May w0 S m (slc rByte (datB e xs).S u x) :=
 .view h.mem (fun w hw => datB_sl hw _ hx) fun b hb => hb
end
def atC (b : List UInt8) (k : Nat) : Nat := (0 :: cutL b).getD k 0
def pieceC (b : List UInt8) (k : Nat) : List UInt8 := (b.take (atC b (k + 1))).drop (atC b k)
def piecesC (b : List UInt8) (k : Nat) : List (List UInt8) := (List.range k).map (pieceC b)
def chunksC (b : List UInt8) : List (List UInt8) := piecesC b (cutL b).length ++ (if atC b (cutL b).length < b.length then [b.drop (atC b (cutL b).length)] else [])
theorem piecesC_succ (b : List UInt8) (k : Nat) : piecesC b (k + 1) = piecesC b k ++ [pieceC b k] := by
 unfold piecesC
 rw [List.range_succ, List.map_append]
 rfl
theorem atC_succ (b : List UInt8) (k : Nat) : atC b (k + 1) = (cutL b).getD k 0 := by
 unfold atC
 rw [List.getD_cons_succ]
theorem cutTo_mono (b : List UInt8) : ∀ i, (cutTo b i).Pairwise (· < ·)
 | 0 => .nil
 | i + 1 => by
  unfold cutTo
  split
  ·refine List.pairwise_append.2 ⟨cutTo_mono b i, by simp, fun x hx y hy => ?_⟩
   obtain rfl : y = i + 1 := by simpa using hy
   exact Nat.lt_succ_of_le (cut_le b i x hx)
  exact cutTo_mono b i
theorem atC_le (b : List UInt8) (k : Nat) : atC b k ≤ b.length := by
 cases k with
 | zero => exact Nat.zero_le _
 | succ k =>
  rw [atC_succ]
  rcases Nat.lt_or_ge k (cutL b).length with h | h
  ·rw [List.getD_eq_getElem?_getD, List.getElem?_eq_getElem h]
   exact cut_le b _ _ (List.getElem_mem h)
  rw [List.getD_eq_getElem?_getD, List.getElem?_eq_none h]
  exact Nat.zero_le _
theorem atC_mono {b : List UInt8} {k : Nat} (h : k < (cutL b).length) : atC b k ≤ atC b (k + 1) := by
 cases k with
 | zero => exact Nat.zero_le _
 | succ k =>
  rw [atC_succ, atC_succ, List.getD_eq_getElem?_getD, List.getD_eq_getElem?_getD, List.getElem?_eq_getElem h, List.getElem?_eq_getElem (show k < (cutL b).length by omega)]
  exact Nat.le_of_lt ((List.pairwise_iff_getElem.1 (cutTo_mono b _)) k (k + 1) (by show k < (cutL b).length; omega) h (by omega))
theorem cutL_len (b : List UInt8) : ∀ i, (cutTo b i).length ≤ i
 | 0 => Nat.le_refl _
 | i + 1 => by
  unfold cutTo
  have := cutL_len b i
  split
  ·rw [List.length_append, List.length_singleton]; omega
  omega
theorem Tryz.infoSlB : (Tryz.prog.info? 31).map (fun i => (i.zero.map (·.cells.size), i.size, i.bytes)) = some (some 1, 1, 24) := by kernel_rfl
set_option maxHeartbeats 4000000 in
theorem csplit_tr {Pv : Nat → Prop} (v : Value) (bs : List UInt8) (hb : bs.length ≤ 4000000) : Tr Tryz.prog 74 #[v] [slc rByte Pv v bs] []
 (TX (fun z : Value × LT => z.2.map (·.1) = chunksC bs) (fun z => z.1) (fun z => [own 31 1 z.1 z.2.length (z.2.map (·.2)), datB 5 z.2])) := by
 refine Tr.ofM (l := [(0, v)]) Tryz.func74 rfl (n := 32) rfl (.cons rfl .nil) (fun w0 hro => ?_)
 have hv0 := ro1 hro
 obtain ⟨ad, cap, b0, off, rfl, hcap, hmax, hnil, had, hel⟩ := Ro.open hv0
 have hv1 : (Value.slice ad bs.length cap).oneCell' = true := rfl
 have hcl : (cutL bs).length ≤ bs.length := cutL_len bs bs.length
 refine go [32,33] ?_
 refine G.op rfl (G.box rfl rfl (cs := [_]) rfl ?_)
 intro b1
 refine go [1,34,31,32,33] ?_
 refine G.op rfl (G.alloc (z := .slice none 0 0) (cs := [.slice none 0 0]) rfl kr rfl ?_)
 intro b3
 refine go [34,31,32,33] ?_
 refine G.op rfl (G.cR rfl rfl rfl rfl Tryz.func114 rfl rfl may0 (fresh_tr) ?_)
 refine G.op rfl (G.alloc (z := .agg #[.int .u8 0, .int .u8 0, .int .u8 0, .int .u8 0, .int .u8 0, .int .u8 0, .int .u8 0, .int .u8 0, .int .u8 0, .int .u8 0, .int .u8 0, .int .u8 0, .int .u8 0, .int .u8 0, .int .u8 0, .int .u8 0, .int .i64 0, .int .u32 0, .bool false, .int .i64 0]) (cs := [.int .u8 0, .int .u8 0, .int .u8 0, .int .u8 0, .int .u8 0, .int .u8 0, .int .u8 0, .int .u8 0, .int .u8 0, .int .u8 0, .int .u8 0, .int .u8 0, .int .u8 0, .int .u8 0, .int .u8 0, .int .u8 0, .int .i64 0, .int .u32 0, .bool false, .int .i64 0]) rfl kr rfl ?_)
 intro b4
 refine G.op rfl (G.alloc (z := .int .i64 0) (cs := [.int .i64 0]) rfl kr rfl ?_)
 intro b5
 refine G.op rfl (G.storeN (vs := edge0) kr rfl rfl (by rfl) selT (by simp [edge0, rollC]) ?_)
 rw [putN_whole _ _ (by rfl)]
 refine go [21,34,31,32,32,33,2,4] ?_
 refine G.op rfl (G.cS rfl rfl rfl rfl Tryz.func115 rfl rfl subT may0 (cuts_tr _ _ rfl hv1) apT ?_)
 intro x9 hJ
 obtain ⟨bb, be⟩ := x9
 try dsimp only at hJ
 try dsimp only
 refine go [34,31,38] ?_
 refine G.datBNil 5 ?_
 refine G.ownNil 31 1 ?_
 refine I.rangeK1 (X := Value × LT) (rr := [slc rByte Pv (.slice ad bs.length cap) bs]) (encs := fun i => .int .i64 ((cutL bs).getD i 0 : Int)) (ts := [1, 3, 5]) (fun b i st => b = true ∧ st.2.map (·.1) = piecesC bs i) (fun b i st => [blk b3 136 [st.1], own 31 1 st.1 st.2.length (st.2.map (·.2)), datB 5 st.2, blk b5 3 [.int .i64 (atC bs i : Int)], blk b1 31 [.slice ad bs.length cap]]) (fun st => .ret) (fun i => [(6, .int .i64 ((cutL bs).getD i 0 : Int))]) (x0 := (.slice none 0 0, [])) rfl Tryz.func142 rfl rfl (cut_seq (Pv := Pv) (.slice ad bs.length cap) bs hb bb be b4) (by show Sub _ [blk b3 136 [.slice none 0 0], own 31 1 (.slice none 0 0) 0 [], datB 5 [], blk b5 3 [.int .i64 0], blk b1 31 [.slice ad bs.length cap], blk bb 31 [.slice ad bs.length cap], blk be 172 [.pointer (some ⟨b4, 0, none⟩)], blk b4 167 edge0] _; repeat (first | exact Sub.nil | (apply Sub.cons; (repeat (first | with_reducible exact Sel.here | exact Sel.here | apply Sel.there))))) (may2 (.old hv0) (.old hv0)) (by first | exact trivial | (exact ⟨rfl, rfl⟩)) rfl (.cons rfl (.cons rfl (.cons rfl .nil))) (.cons .nil) ?_ ?_ ?_ ?_
 ·intro w1 S1 lp m1 i hi
  try dsimp only at hJ
  try dsimp only
  refine go [33,1,34] ?_
  exact I.asg (.consE rfl veqT (.cons rfl (.cons rfl (.cons rfl .nil))))
 ·intro w1 S1 lp c i st hi hJ hrr
  obtain ⟨ov, l⟩ := st
  try dsimp only at hJ
  try dsimp only
  obtain ⟨hct, hl⟩ := hJ
  have hlen : l.length = i := by have := congrArg List.length hl; simpa [piecesC] using this
  have hlm : (l.map (fun z : List UInt8 × Value => z.2)).length = l.length := List.length_map _
  have hvb := hrr _ (List.mem_cons_self ..)
  have hle1 := atC_mono hi
  have hle2 := atC_le bs (i + 1)
  rw [atC_succ] at hle1 hle2
  refine G.ownFact (v := ov) selT (fun hov _ => ?_)
  have hsub := Ro.sub hvb hle1 hle2
  rw [← atC_succ] at hsub
  have hpl : (pieceC bs i).length ≤ bs.length := by unfold pieceC; rw [List.length_drop, List.length_take]; omega
  refine I.block ?_
  refine I.drawT (nn := 11) (p := [blk b3 _ _, blk b5 _ _, own 31 1 ov _ _]) (rem := 2047) [0, 0, 0, 0, 14, 16, 32, 97, 0, 255, 1023] [0, 0, 0, 0, 14, 16, 32, 65, 0, 128, 256] kr noT kr ⟨rfl, by kernel_rfl, by kernel_rfl⟩ subT kr (fun hT5 => ?_)
  refine go [22,3,2039,0,22,8,1783,0,22,1,1781,4] ?_
  refine G.twoT hT5 (i := 0) (j := 2) (rem' := 1780) (rem'' := 1777) kr kr kr ?_ ?_
  ·refine go [25,4,26,24,2,1776,25,4,26] ?_
   refine G.takeT hT5 (i := 4) (rem' := 1760) rfl rfl rfl kr (fun _ _ _ h => h) rfl (pv_subLH (sz := 1) (k := atC bs i) (k' := (cutL bs).getD i 0) Tryz.underlying31 kr rfl rfl rfl rfl rfl hle1 (Nat.le_trans hle2 hcap)) subT ?_
   refine go [24,5,1728,60,8] ?_
   refine G.turnOp rfl rfl (G.appendB (xs := []) (ys := pieceC bs i) (Ps := Pv) rfl Tryz.underlying31 Tryz.infoByte rfl rfl selT (ro_sl hsub) (by simp; omega) (by simp; omega) ?_)
   intro v16
   rw [List.nil_append (pieceC bs i)]
   refine go [26,24,6,1664] ?_
   refine G.ownBFact (v := v16) selT (fun hv16 => ?_)
   refine G.turnOp rfl rfl (G.lit1 (vs := [v16]) rfl Tryz.underlying136 kr rfl (by decide) (by decide) rfl (all1_cons hv16 all1_nil) ?_)
   intro b17
   refine go [26,24,7,1536] ?_
   refine G.turnOp rfl rfl (G.append (k := l.length) (j := 1) (cs := l.map (·.2)) (news := [v16]) (b := b17) (off := 0) rfl Tryz.underlying136 Tryz.infoSlB rfl rfl rfl selT (fun _ => rfl) (fun h => by cases h) rfl (blk_news (k := 1) selT rfl) Y58 (by omega) (by omega) ?_)
   intro v18
   refine G.ownFact (v := v18) selT (fun hv18 _ => ?_)
   refine go [26,24,9,1024,30,26,24,10,0,30] ?_
   rw [← atC_succ]
   refine go [26] ?_
   refine I.over hT5 kr ?_
   refine go [40] ?_
   refine G.datBSnoc (ys := l) (x := pieceC bs i) (u := v16) selT selT ?_
   rw [show l.map (fun z : List UInt8 × Value => z.2) ++ [v16] = (l ++ [(pieceC bs i, v16)]).map (·.2) from by rw [List.map_append]; rfl, show l.length + 1 = (l ++ [(pieceC bs i, v16)]).length from by rw [List.length_append]; rfl]
   exact I.rN ((v18, l ++ [(pieceC bs i, v16)])) Y41 subT
  refine go [25,4,26] ?_
  refine G.takeT hT5 (i := 4) (rem' := 1761) rfl rfl rfl kr (fun _ _ _ h => h) rfl (pv_subLH (sz := 1) (k := atC bs i) (k' := (cutL bs).getD i 0) Tryz.underlying31 kr rfl rfl rfl rfl rfl hle1 (Nat.le_trans hle2 hcap)) subT ?_
  refine G.twoT hT5 (i := 0) (j := 5) (rem' := 1760) (rem'' := 1729) kr kr kr ?_ ?_
  ·refine go [25,4,26,24,5,1728,60,8] ?_
   refine G.turnOp rfl rfl (G.appendB (xs := []) (ys := pieceC bs i) (Ps := Pv) rfl Tryz.underlying31 Tryz.infoByte rfl rfl selT (ro_sl hsub) (by simp; omega) (by simp; omega) ?_)
   intro v16
   rw [List.nil_append (pieceC bs i)]
   refine go [26,24,6,1664] ?_
   refine G.ownBFact (v := v16) selT (fun hv16 => ?_)
   refine G.turnOp rfl rfl (G.lit1 (vs := [v16]) rfl Tryz.underlying136 kr rfl (by decide) (by decide) rfl (all1_cons hv16 all1_nil) ?_)
   intro b17
   refine go [26,24,7,1536] ?_
   refine G.turnOp rfl rfl (G.append (k := l.length) (j := 1) (cs := l.map (·.2)) (news := [v16]) (b := b17) (off := 0) rfl Tryz.underlying136 Tryz.infoSlB rfl rfl rfl selT (fun _ => rfl) (fun h => by cases h) rfl (blk_news (k := 1) selT rfl) Y58 (by omega) (by omega) ?_)
   intro v18
   refine G.ownFact (v := v18) selT (fun hv18 _ => ?_)
   refine go [26,24,9,1024,30,26,24,10,0,30] ?_
   rw [← atC_succ]
   refine go [26] ?_
   refine I.over hT5 kr ?_
   refine go [40] ?_
   refine G.datBSnoc (ys := l) (x := pieceC bs i) (u := v16) selT selT ?_
   rw [show l.map (fun z : List UInt8 × Value => z.2) ++ [v16] = (l ++ [(pieceC bs i, v16)]).map (·.2) from by rw [List.map_append]; rfl, show l.length + 1 = (l ++ [(pieceC bs i, v16)]).length from by rw [List.length_append]; rfl]
   exact I.rN ((v18, l ++ [(pieceC bs i, v16)])) Y41 subT
  refine go [60,8] ?_
  refine G.turnOp rfl rfl (G.appendB (xs := []) (ys := pieceC bs i) (Ps := Pv) rfl Tryz.underlying31 Tryz.infoByte rfl rfl selT (ro_sl hsub) (by simp; omega) (by simp; omega) ?_)
  intro v16
  rw [List.nil_append (pieceC bs i)]
  refine go [26] ?_
  refine G.twoT hT5 (i := 0) (j := 6) (rem' := 1728) (rem'' := 1665) kr kr kr ?_ ?_
  ·refine go [25,4,26,24,6,1664] ?_
   refine G.ownBFact (v := v16) selT (fun hv16 => ?_)
   refine G.turnOp rfl rfl (G.lit1 (vs := [v16]) rfl Tryz.underlying136 kr rfl (by decide) (by decide) rfl (all1_cons hv16 all1_nil) ?_)
   intro b17
   refine go [26,24,7,1536] ?_
   refine G.turnOp rfl rfl (G.append (k := l.length) (j := 1) (cs := l.map (·.2)) (news := [v16]) (b := b17) (off := 0) rfl Tryz.underlying136 Tryz.infoSlB rfl rfl rfl selT (fun _ => rfl) (fun h => by cases h) rfl (blk_news (k := 1) selT rfl) Y58 (by omega) (by omega) ?_)
   intro v18
   refine G.ownFact (v := v18) selT (fun hv18 _ => ?_)
   refine go [26,24,9,1024,30,26,24,10,0,30] ?_
   rw [← atC_succ]
   refine go [26] ?_
   refine I.over hT5 kr ?_
   refine go [40] ?_
   refine G.datBSnoc (ys := l) (x := pieceC bs i) (u := v16) selT selT ?_
   rw [show l.map (fun z : List UInt8 × Value => z.2) ++ [v16] = (l ++ [(pieceC bs i, v16)]).map (·.2) from by rw [List.map_append]; rfl, show l.length + 1 = (l ++ [(pieceC bs i, v16)]).length from by rw [List.length_append]; rfl]
   exact I.rN ((v18, l ++ [(pieceC bs i, v16)])) Y41 subT
  refine G.ownBFact (v := v16) selT (fun hv16 => ?_)
  refine G.turnOp rfl rfl (G.lit1 (vs := [v16]) rfl Tryz.underlying136 kr rfl (by decide) (by decide) rfl (all1_cons hv16 all1_nil) ?_)
  intro b17
  refine go [26,24,0,1664,25,4,26,24,7,1536] ?_
  refine G.turnOp rfl rfl (G.append (k := l.length) (j := 1) (cs := l.map (·.2)) (news := [v16]) (b := b17) (off := 0) rfl Tryz.underlying136 Tryz.infoSlB rfl rfl rfl selT (fun _ => rfl) (fun h => by cases h) rfl (blk_news (k := 1) selT rfl) Y58 (by omega) (by omega) ?_)
  intro v18
  refine G.ownFact (v := v18) selT (fun hv18 _ => ?_)
  refine go [26,24,9,1024,30,26,24,10,0,30] ?_
  rw [← atC_succ]
  refine go [26] ?_
  refine I.over hT5 kr ?_
  refine go [40] ?_
  refine G.datBSnoc (ys := l) (x := pieceC bs i) (u := v16) selT selT ?_
  rw [show l.map (fun z : List UInt8 × Value => z.2) ++ [v16] = (l ++ [(pieceC bs i, v16)]).map (·.2) from by rw [List.map_append]; rfl, show l.length + 1 = (l ++ [(pieceC bs i, v16)]).length from by rw [List.length_append]; rfl]
  exact I.rN ((v18, l ++ [(pieceC bs i, v16)])) Y41 subT
 ·intro D st hJ
  obtain ⟨ov, l⟩ := st
  try dsimp only at hJ
  try dsimp only
  obtain ⟨hct, hl⟩ := hJ
  have hlen : l.length = (cutL bs).length := by have := congrArg List.length hl; simpa [piecesC] using this
  have hlm : (l.map (fun z : List UInt8 × Value => z.2)).length = l.length := List.length_map _
  refine go [40,31,32,32,33,2,4,2,4,2,5,2,9,34,31] ?_
  refine I.condP rfl (fun h23 => ?_) (fun h23 => ?_)
  ·have hsub2 := Ro.sub hv0 (show atC bs (cutL bs).length ≤ bs.length by omega) (Nat.le_refl _)
   rw [List.take_length] at hsub2
   refine G.ownFact (v := ov) selT (fun hov _ => ?_)
   refine I.drawN (nn := 8) (p := [blk b3 _ _, own 31 1 ov _ _]) (rem := 255) [0, 0, 0, 6, 8, 16, 49, 127] [0, 0, 0, 6, 8, 16, 33, 64] kr kr ⟨rfl, by kernel_rfl, by kernel_rfl⟩ subT kr (fun hT7 => ?_)
   refine go [22,1,253,4,22,2,249,4] ?_
   refine G.takeT hT7 (i := 3) (rem' := 241) rfl rfl rfl kr (fun _ _ _ h => h) rfl (pv_subL (sz := 1) (k := atC bs (cutL bs).length) Tryz.underlying31 kr rfl rfl rfl (by omega)) subT ?_
   refine G.twoT hT7 (i := 0) (j := 4) (rem' := 240) (rem'' := 225) kr kr kr ?_ ?_
   ·refine go [25,4,26,24,4,224,60,8] ?_
    refine G.turnOp rfl rfl (G.appendB (xs := []) (ys := bs.drop (atC bs (cutL bs).length)) (Ps := Pv) rfl Tryz.underlying31 Tryz.infoByte rfl rfl selT (ro_sl hsub2) (by simp; omega) (by simp; omega) ?_)
    intro v28
    rw [List.nil_append (bs.drop (atC bs (cutL bs).length))]
    refine go [26,24,5,192] ?_
    refine G.ownBFact (v := v28) selT (fun hv28 => ?_)
    refine G.turnOp rfl rfl (G.lit1 (vs := [v28]) rfl Tryz.underlying136 kr rfl (by decide) (by decide) rfl (all1_cons hv28 all1_nil) ?_)
    intro b29
    refine go [26,24,6,128] ?_
    refine G.turnOp rfl rfl (G.append (k := l.length) (j := 1) (cs := l.map (·.2)) (news := [v28]) (b := b29) (off := 0) rfl Tryz.underlying136 Tryz.infoSlB rfl rfl rfl selT (fun _ => rfl) (fun h => by cases h) rfl (blk_news (k := 1) selT rfl) (by intro u hu; obtain rfl : u = v28 := (by simpa using hu); exact hv28) (by omega) (by omega) ?_)
    intro v30
    refine G.ownFact (v := v30) selT (fun hv30 _ => ?_)
    refine go [26,24,7,0,30,26] ?_
    refine I.overN hT7 kr ?_
    refine go [31,32,33,2,4,1,34,31,37] ?_
    refine G.datBSnoc (ys := l) (x := bs.drop (atC bs (cutL bs).length)) (u := v28) selT selT ?_
    rw [show l.map (fun z : List UInt8 × Value => z.2) ++ [v28] = (l ++ [(bs.drop (atC bs (cutL bs).length), v28)]).map (·.2) from by rw [List.map_append]; rfl, show l.length + 1 = (l ++ [(bs.drop (atC bs (cutL bs).length), v28)]).length from by rw [List.length_append]; rfl]
    exact I.doneM ((v30, l ++ [(bs.drop (atC bs (cutL bs).length), v28)])) Y50 rfl Y37 (Rv.tmp rfl Rv.nil) rfl subT
   refine go [60,8] ?_
   refine G.turnOp rfl rfl (G.appendB (xs := []) (ys := bs.drop (atC bs (cutL bs).length)) (Ps := Pv) rfl Tryz.underlying31 Tryz.infoByte rfl rfl selT (ro_sl hsub2) (by simp; omega) (by simp; omega) ?_)
   intro v28
   rw [List.nil_append (bs.drop (atC bs (cutL bs).length))]
   refine go [26] ?_
   refine G.twoT hT7 (i := 0) (j := 5) (rem' := 224) (rem'' := 193) kr kr kr ?_ ?_
   ·refine go [25,4,26,24,5,192] ?_
    refine G.ownBFact (v := v28) selT (fun hv28 => ?_)
    refine G.turnOp rfl rfl (G.lit1 (vs := [v28]) rfl Tryz.underlying136 kr rfl (by decide) (by decide) rfl (all1_cons hv28 all1_nil) ?_)
    intro b29
    refine go [26,24,6,128] ?_
    refine G.turnOp rfl rfl (G.append (k := l.length) (j := 1) (cs := l.map (·.2)) (news := [v28]) (b := b29) (off := 0) rfl Tryz.underlying136 Tryz.infoSlB rfl rfl rfl selT (fun _ => rfl) (fun h => by cases h) rfl (blk_news (k := 1) selT rfl) (by intro u hu; obtain rfl : u = v28 := (by simpa using hu); exact hv28) (by omega) (by omega) ?_)
    intro v30
    refine G.ownFact (v := v30) selT (fun hv30 _ => ?_)
    refine go [26,24,7,0,30,26] ?_
    refine I.overN hT7 kr ?_
    refine go [31,32,33,2,4,1,34,31,37] ?_
    refine G.datBSnoc (ys := l) (x := bs.drop (atC bs (cutL bs).length)) (u := v28) selT selT ?_
    rw [show l.map (fun z : List UInt8 × Value => z.2) ++ [v28] = (l ++ [(bs.drop (atC bs (cutL bs).length), v28)]).map (·.2) from by rw [List.map_append]; rfl, show l.length + 1 = (l ++ [(bs.drop (atC bs (cutL bs).length), v28)]).length from by rw [List.length_append]; rfl]
    exact I.doneM ((v30, l ++ [(bs.drop (atC bs (cutL bs).length), v28)])) Y50 rfl Y37 (Rv.tmp rfl Rv.nil) rfl subT
   refine G.ownBFact (v := v28) selT (fun hv28 => ?_)
   refine G.turnOp rfl rfl (G.lit1 (vs := [v28]) rfl Tryz.underlying136 kr rfl (by decide) (by decide) rfl (all1_cons hv28 all1_nil) ?_)
   intro b29
   refine go [26,24,0,192,25,4,26,24,6,128] ?_
   refine G.turnOp rfl rfl (G.append (k := l.length) (j := 1) (cs := l.map (·.2)) (news := [v28]) (b := b29) (off := 0) rfl Tryz.underlying136 Tryz.infoSlB rfl rfl rfl selT (fun _ => rfl) (fun h => by cases h) rfl (blk_news (k := 1) selT rfl) (by intro u hu; obtain rfl : u = v28 := (by simpa using hu); exact hv28) (by omega) (by omega) ?_)
   intro v30
   refine G.ownFact (v := v30) selT (fun hv30 _ => ?_)
   refine go [26,24,7,0,30,26] ?_
   refine I.overN hT7 kr ?_
   refine go [31,32,33,2,4,1,34,31,37] ?_
   refine G.datBSnoc (ys := l) (x := bs.drop (atC bs (cutL bs).length)) (u := v28) selT selT ?_
   rw [show l.map (fun z : List UInt8 × Value => z.2) ++ [v28] = (l ++ [(bs.drop (atC bs (cutL bs).length), v28)]).map (·.2) from by rw [List.map_append]; rfl, show l.length + 1 = (l ++ [(bs.drop (atC bs (cutL bs).length), v28)]).length from by rw [List.length_append]; rfl]
   exact I.doneM ((v30, l ++ [(bs.drop (atC bs (cutL bs).length), v28)])) Y50 rfl Y37 (Rv.tmp rfl Rv.nil) rfl subT
  refine G.ownFact (v := ov) selT (fun hov _ => ?_)
  refine go [39,31,32,33,2,4,1,34,31,37] ?_
  exact I.doneM ((ov, l)) (by first | exact trivial | ((try dsimp only) <;> exact (by unfold chunksC; rw [if_neg (by omega), List.append_nil, hl]))) rfl Y37 (Rv.tmp rfl Rv.nil) rfl subT
 intro D i st hle hJ
 obtain ⟨ov, l⟩ := st
 try dsimp only at hJ
 try dsimp only
 obtain ⟨h, _⟩ := hJ
 cases h
def linkP (e : En) : Prop := e.kind = 3 ∧ 1 ≤ e.to.length ∧ e.to.length ≤ 200
instance (e : En) : Decidable (linkP e) := inferInstanceAs (Decidable (_ ∧ _))
def numP (e : En) : Prop := e.kind < 1 ∨ 3 < e.kind ∨ e.mode < 0 ∨ 511 < e.mode
instance (e : En) : Decidable (numP e) := inferInstanceAs (Decidable (_ ∨ _))
def badP2 (e : En) : Prop := (0 < e.data.length ∧ e.kind ≠ 2) ∨ (0 < e.to.length ∧ e.kind ≠ 3) ∨ (e.kind = 3 ∧ ¬ linkP e)
instance (e : En) : Decidable (badP2 e) := inferInstanceAs (Decidable (_ ∨ _))
theorem argP_iff (e : En) : argP e ↔ numP e ∨ badP2 e := by
 unfold argP numP badP2 linkP
 omega
instance : DecidableEq En := fun a b => decidable_of_iff (a.path = b.path ∧ a.kind = b.kind ∧ a.mode = b.mode ∧ a.data = b.data ∧ a.to = b.to) (by
 cases a
 cases b
 simp)
theorem en_eq {a b : En} : a = b ↔ a.path = b.path ∧ a.kind = b.kind ∧ a.mode = b.mode ∧ a.data = b.data ∧ a.to = b.to := by
 cases a
 cases b
 simp
def pickM (n k : Int) : Int := if k < 1 then 0 else n % k
theorem tmod_low {n k : Int} (hk : ¬ k < 1) : - k < n.tmod k ∧ (n < 0 → n.tmod k ≤ 0) := by
 rcases Int.lt_or_le n 0 with hn | hn
 ·have h1 := Int.neg_tmod (a := -n) (b := k)
  rw [Int.neg_neg] at h1
  have h2 := Int.tmod_nonneg k (show 0 ≤ -n by omega)
  have h3 := Int.tmod_lt_of_pos (-n) (show 0 < k by omega)
  omega
 have h2 := Int.tmod_nonneg k hn
 omega
theorem tmod_pos {n k : Int} (hk : ¬ k < 1) (h : ¬ n.tmod k < 0) : n.tmod k = n % k := by
 rcases Int.lt_or_le n 0 with hn | hn
 ·have h2 : n.tmod k = 0 := by
   have := (tmod_low hk).2 hn
   omega
  have h3 : k ∣ n := Int.dvd_of_tmod_eq_zero h2
  rw [h2, Int.emod_eq_zero_of_dvd h3]
 exact Int.tmod_eq_emod_of_nonneg hn
theorem tmod_neg {n k : Int} (hk : ¬ k < 1) (h : n.tmod k < 0) : n.tmod k + k = n % k := by
 have hn : n < 0 := by
  rcases Int.lt_or_le n 0 with hn | hn
  ·exact hn
  have := Int.tmod_nonneg k hn
  omega
 have hd : ¬ k ∣ n := fun h2 => by
  have := Int.tmod_eq_zero_of_dvd h2
  omega
 have h1 := Int.tmod_eq_emod (a := n) (b := k)
 rw [h1]
 simp [hd, hn, show ¬ (0 ≤ n) by omega]
 omega
set_option maxHeartbeats 4000000 in
theorem oneR_tr {Pd : Nat → Prop} (e : En) (d : Value) (hl : e.path.length ≤ 9223372036854775807) : Tr Tryz.prog 118 #[.agg #[.string (sB e.path), .int .i64 e.kind, .int .i64 e.mode, d, .string (sB e.to)]] [slc rByte Pd d e.data] [] (T0 (.int .i64 (oneM e))) := by
 refine Tr.of (l := [(0, .agg #[.string (sB e.path), .int .i64 e.kind, .int .i64 e.mode, d, .string (sB e.to)])]) Tryz.func118 rfl (n := 74) rfl (.cons rfl .nil) (fun w0 hro => ?_)
 have hd := ro1 hro
 obtain ⟨ad, cap, rfl⟩ := Ro.slv hd
 have hto := nil_len (s := e.to)
 refine go [9,10,60,9] ?_
 intro b1
 refine go [1,7,8,9,9,10,2,3,0,2,4] ?_
 refine G.op rfl (G.cR rfl rfl rfl rfl Tryz.func144 rfl rfl may0 (validR_tr _ (by omega)) ?_)
 refine go [2,15,7,8] ?_
 refine G.condP rfl (fun h7 => ?_) (fun h7 => ?_)
 ·refine go [9,10,1,7,8,11,12] ?_
  exact G.done0G rfl (Rv.tmp rfl Rv.nil) (by rw [one_bytes (by assumption)]; rfl)
 have hok : okP e.path := Decidable.of_not_not (by assumption)
 refine go [13,8,9,9] ?_
 refine G.cutK (X := Unit) (ts := [1, 2]) (p := []) (fun _ => True) (fun _ => [(25, .bool (decide (numP e)))]) (fun _ => []) (.cons rfl (.cons rfl .nil)) subT (.cons .nil) apT ?_ ?_
 ·refine go [10,2,3,1,2,4,2,9,0] ?_
  refine G.partP (t := 11) rfl (fun h11 => ?_) (fun h11 => ?_)
  ·refine go [4,4,4,2,2,0,4,4,4,2,2,0,4,4,4,2,2,7] ?_
   exact G.meet (()) trT (.consE rfl Y39 (.cons rfl (.cons rfl .nil))) subT
  refine go [3,3,1,3,4,3,10,2,2,0] ?_
  refine G.partP (t := 16) rfl (fun h16 => ?_) (fun h16 => ?_)
  ·refine go [4,4,4,2,2,0,4,4,4,2,2,7] ?_
   exact G.meet (()) trT (.consE rfl Y39 (.cons rfl (.cons rfl .nil))) subT
  refine go [3,3,2,3,4,3,9,2,2,0] ?_
  refine G.partP (t := 21) rfl (fun h21 => ?_) (fun h21 => ?_)
  ·refine go [4,4,4,2,2,7] ?_
   exact G.meet (()) trT (.consE rfl Y39 (.cons rfl (.cons rfl .nil))) subT
  refine go [3,3,2,3,4,3,10,2,2,7] ?_
  exact G.meet (()) trT (.consE rfl Y39 (.cons rfl (.cons rfl .nil))) subT
 intro _ hJ
 try dsimp only at hJ
 try dsimp only
 refine G.condP rfl (fun h25 => ?_) (fun h25 => ?_)
 ·refine go [9,10,1,7,8,11,12] ?_
  exact G.done0G rfl (Rv.tmp rfl Rv.nil) (by rw [one_arg hok ((argP_iff e).2 (.inl (by assumption)))]; rfl)
 refine go [13,8,9] ?_
 refine G.cutK (X := Unit) (ts := [1, 2]) (p := []) (fun _ => True) (fun _ => [(3, .bool (decide (linkP e)))]) (fun _ => []) (.cons rfl (.cons rfl .nil)) subT (.cons .nil) apT ?_ ?_
 ·refine go [10,2,3,1,2,4,2,13,0] ?_
  refine G.partP (t := 29) rfl (fun h29 => ?_) (fun h29 => ?_)
  ·refine go [3,3,4,3,4,3,21,3,12,2,2,0] ?_
   refine G.partP (t := 35) rfl (fun h35 => ?_) (fun h35 => ?_)
   ·refine go [3,3,4,3,4,3,21,3,11,2,2,1,7] ?_
    exact G.meet (()) trT (.consE rfl Y51 (.cons rfl (.cons rfl .nil))) subT
   refine go [4,4,4,4,2,2,1,7] ?_
   exact G.meet (()) trT (.consE rfl Y51 (.cons rfl (.cons rfl .nil))) subT
  refine go [4,4,4,4,2,2,0,4,4,4,4,2,2,1,7] ?_
  exact G.meet (()) trT (.consE rfl Y51 (.cons rfl (.cons rfl .nil))) subT
 intro _ hJ
 try dsimp only at hJ
 try dsimp only
 refine go [9,9] ?_
 refine G.cutK (X := Unit) (ts := [1, 2]) (p := []) (fun _ => True) (fun _ => [(69, .bool (decide (badP2 e)))]) (fun _ => []) (.cons rfl (.cons rfl .nil)) subT (.cons .nil) apT ?_ ?_
 ·refine go [10,2,3,3,2,4,2,5,2,10,0] ?_
  refine G.partP (t := 45) rfl (fun h45 => ?_) (fun h45 => ?_)
  ·refine go [3,3,1,3,4,3,14,2,2,0] ?_
   refine G.partP (t := 50) rfl (fun h50 => ?_) (fun h50 => ?_)
   ·refine go [4,4,4,4,4,6,6,6,4,2,2,0,4,4,4,4,6,6,4,2,2,7] ?_
    exact G.meet (()) trT (.consE rfl Y14 (.cons rfl (.cons rfl .nil))) subT
   refine go [3,3,4,3,4,3,21,3,10,3,0] ?_
   refine G.partP (t := 55) rfl (fun h55 => ?_) (fun h55 => ?_)
   ·refine go [3,3,1,3,4,3,14,3,2,2,2,0] ?_
    refine G.partP (t := 61) rfl (fun h61 => ?_) (fun h61 => ?_)
    ·refine go [4,4,4,4,6,6,4,2,2,7] ?_
     exact G.meet (()) trT (.consE rfl Y14 (.cons rfl (.cons rfl .nil))) subT
    refine go [3,3,1,3,4,3,13,3,0] ?_
    refine G.partP (t := 65) rfl (fun h65 => ?_) (fun h65 => ?_)
    ·refine go [3,0,3,15,3,2,2,2,7] ?_
     exact G.meet (()) trT (.consE rfl Y14 (.cons rfl (.cons rfl .nil))) subT
    refine go [4,4,3,2,2,2,7] ?_
    exact G.meet (()) trT (.consE rfl Y14 (.cons rfl (.cons rfl .nil))) subT
   refine go [4,4,4,3,2,2,2,0,3,3,1,3,4,3,13,3,0] ?_
   refine G.partP (t := 65) rfl (fun h65 => ?_) (fun h65 => ?_)
   ·refine go [3,0,3,15,3,2,2,2,7] ?_
    exact G.meet (()) trT (.consE rfl Y14 (.cons rfl (.cons rfl .nil))) subT
   refine go [4,4,3,2,2,2,7] ?_
   exact G.meet (()) trT (.consE rfl Y14 (.cons rfl (.cons rfl .nil))) subT
  refine go [4,4,4,2,2,0,3,3,4,3,4,3,21,3,10,3,0] ?_
  refine G.partP (t := 55) rfl (fun h55 => ?_) (fun h55 => ?_)
  ·refine go [3,3,1,3,4,3,14,3,2,2,2,0] ?_
   refine G.partP (t := 61) rfl (fun h61 => ?_) (fun h61 => ?_)
   ·refine go [4,4,4,4,6,6,4,2,2,7] ?_
    exact G.meet (()) trT (.consE rfl Y14 (.cons rfl (.cons rfl .nil))) subT
   refine go [3,3,1,3,4,3,13,3,0] ?_
   refine G.partP (t := 65) rfl (fun h65 => ?_) (fun h65 => ?_)
   ·refine go [3,0,3,15,3,2,2,2,7] ?_
    exact G.meet (()) trT (.consE rfl Y14 (.cons rfl (.cons rfl .nil))) subT
   refine go [4,4,3,2,2,2,7] ?_
   exact G.meet (()) trT (.consE rfl Y14 (.cons rfl (.cons rfl .nil))) subT
  refine go [4,4,4,3,2,2,2,0,3,3,1,3,4,3,13,3,0] ?_
  refine G.partP (t := 65) rfl (fun h65 => ?_) (fun h65 => ?_)
  ·refine go [3,0,3,15,3,2,2,2,7] ?_
   exact G.meet (()) trT (.consE rfl Y14 (.cons rfl (.cons rfl .nil))) subT
  refine go [4,4,3,2,2,2,7] ?_
  exact G.meet (()) trT (.consE rfl Y14 (.cons rfl (.cons rfl .nil))) subT
 intro _ hJ
 try dsimp only at hJ
 try dsimp only
 refine G.condP rfl (fun h69 => ?_) (fun h69 => ?_)
 ·refine go [9,10,1,7,8,11,12] ?_
  exact G.done0G rfl (Rv.tmp rfl Rv.nil) (by rw [one_arg hok ((argP_iff e).2 (.inr (by assumption)))]; rfl)
 have hna : ¬ argP e := fun h => ((argP_iff e).1 h).elim (by assumption) (by assumption)
 refine go [13,8,9,9,10,2,3,3,2,4,2,5,2,10,7,8] ?_
 refine G.condP rfl (fun h73 => ?_) (fun h73 => ?_)
 ·refine go [9,10,1,7,8,11,12] ?_
  exact G.done0G rfl (Rv.tmp rfl Rv.nil) (by rw [one_long hok hna (by omega)]; rfl)
 refine go [13,8,9,10,1,7,8,11] ?_
 exact G.done0G rfl (Rv.tmp rfl Rv.nil) (by rw [one_ok hok hna (by omega)]; rfl)
set_option maxHeartbeats 4000000 in
theorem pick_tr (n k : Int) (hn : I64 n) (hk : I64 k) : Tr Tryz.prog 20 #[.int .i64 n, .int .i64 k] [] [] (T0 (.int .i64 (pickM n k))) := by
 refine Tr.of (l := [(0, .int .i64 n), (1, .int .i64 k)]) Tryz.func20 rfl (n := 16) rfl (.cons rfl (.cons rfl .nil)) (fun w0 hro => ?_)
 obtain ⟨hn1, hn2⟩ := hn
 obtain ⟨hk1, hk2⟩ := hk
 refine go [9,10,1,7,8,9,9,10,0,2,9,7,8] ?_
 refine G.condP rfl (fun h6 => ?_) (fun h6 => ?_)
 ·refine go [9,10,1,7,8,11,12] ?_
  exact G.done0G rfl (Rv.tmp rfl Rv.nil) (by unfold pickM; rw [if_pos (by assumption)]; rfl)
 refine go [13,8,9,10,0,0] ?_
 refine G.op rfl (G.val rfl rfl (pv_remk rfl rfl (by omega)) ?_)
 have ht := Int.tmod_lt_of_pos n (show 0 < k by omega)
 have ht2 := (tmod_low (n := n) (k := k) (by omega)).1
 refine go [1,7,8,9,9,10,0,2,9,7,8] ?_
 refine G.condP rfl (fun h11 => ?_) (fun h11 => ?_)
 ·refine go [10,0,0,2,6,1,7,8,9,10,0,1,7,8,11] ?_
  exact G.done0G rfl (Rv.tmp rfl Rv.nil) (by unfold pickM; rw [if_neg (by assumption), ← tmod_neg (by assumption) (by assumption)]; rfl)
 refine go [13,8,9,10,0,1,7,8,11] ?_
 exact G.done0G rfl (Rv.tmp rfl Rv.nil) (by unfold pickM; rw [if_neg (by assumption), ← tmod_pos (by assumption) (by assumption)]; rfl)
theorem Ro.one1 {w0 : World} {S Ps : Nat → Prop} {v : Value} {a : List UInt8} (h : Ro w0 S (slc rByte Ps v a)) : v.oneCell' = true := by
 obtain ⟨ad, cap, rfl⟩ := Ro.slv h
 rfl
def SortT (es : List En) : Prop := es.Pairwise fun a b => compareM a.path b.path = -1
def placeK (es : List En) (s : List UInt8) : Nat := es.findIdx fun e => ! decide (compareM e.path s < 0)
def isAt (es : List En) (s : List UInt8) : Prop := ∃ e ∈ es, e.path = s
instance (es : List En) (s : List UInt8) : Decidable (isAt es s) := inferInstanceAs (Decidable (∃ e ∈ es, e.path = s))
theorem cmp_lt_iff (a b : List UInt8) : compareM a b < 0 ↔ compareM a b = -1 := by
 have := compareM_ord.rng a b
 omega
theorem sort_mono {es : List En} (h : SortT es) {s : List UInt8} {q r : Nat} (hr : r < es.length) (hq : q ≤ r) (hc : compareM es[r].path s < 0) : compareM (es[q]'(by omega)).path s < 0 := by
 rcases Nat.lt_or_ge q r with h1 | h1
 ·have h2 := (List.pairwise_iff_getElem.1 h) q r (by omega) hr h1
  rw [cmp_lt_iff] at hc ⊢
  exact compareM_ord.trans _ _ _ h2 hc
 obtain rfl : q = r := by omega
 exact hc
theorem placeK_at {es : List En} {s : List UInt8} {k : Nat} (hk : k ≤ es.length) (h1 : ∀ q (hq : q < es.length), q < k → compareM es[q].path s < 0) (h2 : ∀ q (hq : q < es.length), k ≤ q → ¬ compareM es[q].path s < 0) : placeK es s = k := by
 unfold placeK
 rcases Nat.lt_or_ge k es.length with h | h
 ·refine (List.findIdx_eq h).2 ⟨by simpa using h2 k h (Nat.le_refl _), fun j hj => ?_⟩
  simpa using h1 j (by omega) hj
 obtain rfl : k = es.length := by omega
 exact List.findIdx_eq_length_of_false fun x hx => by
  obtain ⟨j, hj, rfl⟩ := List.getElem_of_mem hx
  simpa using h1 j hj hj
theorem isAt_iff {es : List En} (hs : SortT es) {s : List UInt8} {k : Nat} (h1 : ∀ q (hq : q < es.length), q < k → compareM es[q].path s < 0) (hk : k < es.length) (h2 : ¬ compareM es[k].path s < 0) : isAt es s ↔ compareM es[k].path s = 0 := by
 constructor
 ·rintro ⟨e, he, rfl⟩
  obtain ⟨j, hj, rfl⟩ := List.getElem_of_mem he
  have hjj : compareM es[j].path es[j].path = 0 := (compareM_ord.zero _ _).2 rfl
  rcases Nat.lt_or_ge j k with h | h
  ·have := h1 j hj h
   omega
  rcases Nat.lt_or_ge k j with h3 | h3
  ·have := (List.pairwise_iff_getElem.1 hs) k j hk hj h3
   omega
  obtain rfl : j = k := by omega
  exact hjj
 intro h
 exact ⟨es[k], List.getElem_mem hk, (compareM_ord.zero _ _).1 h⟩
theorem isAt_none {es : List En} {s : List UInt8} (h1 : ∀ q (hq : q < es.length), compareM es[q].path s < 0) : ¬ isAt es s := by
 rintro ⟨e, he, rfl⟩
 obtain ⟨j, hj, rfl⟩ := List.getElem_of_mem he
 have := h1 j hj
 have : compareM es[j].path es[j].path = 0 := (compareM_ord.zero _ _).2 rfl
 omega
theorem search_end {xs : List ET} {s : List UInt8} {i : Nat} (hso : SortT (ens xs)) (hlt : i < xs.length) (hlo : ∀ q (hq : q < xs.length), q < i → compareM xs[q].1.path s < 0) (hhi : ∀ q (hq : q < xs.length), i ≤ q → ¬ compareM xs[q].1.path s < 0) : placeK (ens xs) s = i ∧ (isAt (ens xs) s ↔ compareM xs[i].1.path s = 0) := by
 have hl := ens_length xs
 have g1 : ∀ q (hq : q < (ens xs).length), q < i → compareM (ens xs)[q].path s < 0 := fun q hq hqi => by
  rw [ens_get (by omega)]
  exact hlo q (by omega) hqi
 have g2 : ∀ q (hq : q < (ens xs).length), i ≤ q → ¬ compareM (ens xs)[q].path s < 0 := fun q hq hqi => by
  rw [ens_get (by omega)]
  exact hhi q (by omega) hqi
 have h := isAt_iff hso g1 (show i < (ens xs).length by omega) (g2 i (by omega) (Nat.le_refl _))
 rw [ens_get hlt] at h
 exact ⟨placeK_at (by omega) g1 g2, h⟩
theorem search_none {xs : List ET} {s : List UInt8} (hlo : ∀ q (hq : q < xs.length), q < xs.length → compareM xs[q].1.path s < 0) : placeK (ens xs) s = xs.length ∧ ¬ isAt (ens xs) s := by
 have hl := ens_length xs
 have g1 : ∀ q (hq : q < (ens xs).length), compareM (ens xs)[q].path s < 0 := fun q hq => by
  rw [ens_get (by omega)]
  exact hlo q (by omega) (by omega)
 exact ⟨placeK_at (by omega) (fun q hq _ => g1 q hq) (fun q hq h => by omega), isAt_none g1⟩
set_option maxHeartbeats 4000000 in
theorem place1_tr (e : En) (d : Value) (s : List UInt8) (hl : e.path.length ≤ 9223372036854775807) (hs : s.length ≤ 9223372036854775807) : Tr Tryz.prog 113 #[.agg #[.string (sB e.path), .int .i64 e.kind, .int .i64 e.mode, d, .string (sB e.to)], .string (sB s)] [] [] (T0 (.int .i64 (compareM e.path s))) := by
 refine Tr.of (l := [(0, .agg #[.string (sB e.path), .int .i64 e.kind, .int .i64 e.mode, d, .string (sB e.to)]), (1, .string (sB s))]) Tryz.func113 rfl (n := 9) rfl (.cons rfl (.cons rfl .nil)) (fun w0 hro => ?_)
 refine go [9,10,60,9] ?_
 intro b2
 refine go [1,7,8,9,10,2,3,0,2,4,0] ?_
 refine G.op rfl (G.cR rfl rfl rfl rfl Tryz.func71 rfl rfl may0 (compare_tr _ _ (by omega) (by omega)) ?_)
 refine go [1,7,8,11] ?_
 exact G.done0G rfl (Rv.tmp rfl Rv.nil) Y7
set_option maxHeartbeats 4000000 in
theorem search_tr {Ps : Nat → Prop} (v : Value) (xs : List ET) (s : List UInt8) (hs : s.length ≤ 9223372036854775807) (hn : xs.length ≤ 1000000) (hso : SortT (ens xs)) : Tr Tryz.prog 112 #[v, .string (sB s), .func (.func 113) #[] #[]] [slc rEV Ps v xs] [] (T0 (.tuple #[.int .i64 (placeK (ens xs) s : Int), .bool (decide (isAt (ens xs) s))])) := by
 refine Tr.of (l := [(0, v), (1, .string (sB s)), (2, .func (.func 113) #[] #[])]) Tryz.func112 rfl (n := 49) rfl (.cons rfl (.cons rfl (.cons rfl .nil))) (fun w0 hro => ?_)
 have hv := ro1 hro
 have hv' := hv
 obtain ⟨av, cv, bv, fv, rfl, hcapv, hmaxv, hnilv, hadv, helv⟩ := Ro.openT hv
 have hel' := ens_length xs
 refine go [9,10,1,1,7,8,9,10,0,2,5,1,7,8,9,10,0,1,1,7,8,9,15] ?_
 refine G.loopK (X := Nat × Nat) (ts := [0, 1, 2, 6, 7, 8]) (fun st => st.1 ≤ st.2 ∧ st.2 ≤ xs.length ∧ (∀ q (hq : q < xs.length), q < st.1 → compareM xs[q].1.path s < 0) ∧ (∀ q (hq : q < xs.length), st.2 ≤ q → ¬ compareM xs[q].1.path s < 0)) (fun st => [(9, .int .i64 (st.1 : Int)), (10, .int .i64 (st.2 : Int))]) (fun st => []) (fun st => st.2 - st.1) (x0 := (0, xs.length)) (.cons rfl (.cons rfl (.cons rfl (.cons rfl (.cons rfl (.cons rfl .nil)))))) subT (.cons (.cons .nil)) apT (by first | exact trivial | ((try dsimp only) <;> exact ⟨Nat.zero_le _, Nat.le_refl _, fun q _ h => absurd h (by omega), fun q h1 h2 => absurd h1 (by omega)⟩)) (.consE rfl veqT (.consE rfl veqT .nil)) (fun st hJ => ?_)
 obtain ⟨i, j⟩ := st
 try dsimp only at hJ
 try dsimp only
 obtain ⟨hij, hj, hlo, hhi⟩ := hJ
 refine go [9,9,10,0,0,2,9,7,8] ?_
 refine G.condP rfl (fun h17 => ?_) (fun h17 => ?_)
 ·have hlt : (i + j) / 2 < xs.length := by omega
  have hEv := helv ((i + j) / 2) hlt
  have hRv := Ro.evRng hEv
  have hDv := Ro.evDat hEv
  obtain ⟨hk1v, hk2v, hlpv, hldv, hltv⟩ := Ro.evOk hEv
  have hCv := Ro.one1 hDv
  refine go [13,8,15,9,10,0,0,2,6] ?_
  refine G.op rfl (G.val rfl rfl ((pv_conv (by rw [Tryz.underlying3]; rfl) Tryz.underlying175 rfl).int (b := ((i + j : Nat) : Int)) (by rw [IntWalk.u64_in _ (by omega)]; omega)) ?_)
  refine G.op rfl (G.val rfl rfl ((pv_shr (s := 1) rfl rfl (by decide)).int (b := (((i + j) / 2 : Nat) : Int)) (by omega)) ?_)
  refine G.op rfl (G.val rfl rfl ((pv_conv (by rw [Tryz.underlying175]; rfl) Tryz.underlying3 rfl).int (b := (((i + j) / 2 : Nat) : Int)) (by rw [IntWalk.i64_in _ (by omega)])) ?_)
  refine go [1,7,8,9,10,0,0,0,2,20,5,2,50,5,0] ?_
  refine G.op rfl (G.cRv rfl rfl rfl rfl rfl Tryz.func113 rfl rfl (by rfl) may0 (place1_tr xs[(i + j) / 2].1 _ s (by omega) hs) ?_)
  refine go [2,9,7,8] ?_
  refine G.condP rfl (fun h31 => ?_) (fun h31 => ?_)
  ·have hneg := h31
   refine go [10,0,2,6,1,7,16] ?_
   exact G.next (((i + j) / 2 + 1, j)) (by first | exact trivial | ((try dsimp only) <;> exact ⟨by omega, hj, fun q hq hqi => by have := sort_mono hso (r := (i + j) / 2) (q := q) (s := s) (by omega) (by omega) (by rw [ens_get hlt]; exact hneg); rwa [ens_get hq] at this, hhi⟩)) (by (try dsimp only); omega) (.consE rfl veqT (.consE rfl veqT (.cons rfl (.cons rfl (.cons rfl (.cons rfl (.cons rfl (.cons rfl .nil)))))))) subT
  have hneg := h31
  refine go [10,0,1,7,16] ?_
  exact G.next ((i, (i + j) / 2)) (by first | exact trivial | ((try dsimp only) <;> exact ⟨by omega, by omega, hlo, fun q hq hqi h => hneg (by have := sort_mono hso (r := q) (q := (i + j) / 2) (s := s) (by omega) hqi (by rw [ens_get hq]; exact h); rwa [ens_get hlt] at this)⟩)) (by (try dsimp only); omega) (.consE rfl veqT (.consE rfl veqT (.cons rfl (.cons rfl (.cons rfl (.cons rfl (.cons rfl (.cons rfl .nil)))))))) subT
 refine go [18,14,14,19,8,9,10,0,0,0,2,9,0] ?_
 refine G.partP (t := 39) rfl (fun h39 => ?_) (fun h39 => ?_)
 ·obtain rfl : i = j := by omega
  have hlt : i < xs.length := by omega
  have hEv := helv i hlt
  have hRv := Ro.evRng hEv
  have hDv := Ro.evDat hEv
  obtain ⟨hk1v, hk2v, hlpv, hldv, hltv⟩ := Ro.evOk hEv
  have hCv := Ro.one1 hDv
  refine go [3,0,3,0,3,0,3,20,5,3,50,5,3,0] ?_
  refine G.want rfl rfl rfl (G.cRv rfl rfl rfl rfl rfl Tryz.func113 rfl rfl (by rfl) may0 (place1_tr xs[i].1 _ s (by omega) hs) ?_)
  refine go [3,13,2,2,1,1,7,8,11] ?_
  obtain ⟨hp, hi⟩ := search_end hso hlt hlo hhi
  exact G.done0G rfl (Rv.tmp rfl (Rv.tmp rfl Rv.nil)) (by rw [hp]; simp [retV2, hi])
 refine go [4,4,4,4,4,4,4,4,2,2,1,1,7,8,11] ?_
 obtain rfl : i = xs.length := by omega
 obtain ⟨hp, hi⟩ := search_none (s := s) hlo
 exact G.done0G rfl (Rv.tmp rfl (Rv.tmp rfl Rv.nil)) (by rw [hp, decide_eq_false hi]; rfl)
set_option maxHeartbeats 4000000 in
theorem place_tr {Ps : Nat → Prop} (v : Value) (xs : List ET) (s : List UInt8) (hn : xs.length ≤ 1000000) (hso : SortT (ens xs)) (hs : s.length ≤ 9223372036854775807) : Tr Tryz.prog 73 #[v, .string (sB s)] [slc rEV Ps v xs] [] (T0 (.tuple #[.int .i64 (placeK (ens xs) s : Int), .bool (decide (isAt (ens xs) s))])) := by
 refine Tr.of (l := [(0, v), (1, .string (sB s))]) Tryz.func73 rfl (n := 11) rfl (.cons rfl (.cons rfl .nil)) (fun w0 hro => ?_)
 have hv := ro1 hro
 refine go [9,10,1,1,7,8,9,10,0,0] ?_
 refine G.op rfl (G.cR rfl rfl rfl rfl Tryz.func112 rfl rfl (may1 Y2) (search_tr _ xs s hs hn hso) ?_)
 refine go [2,7,2,7,1,1,7,8,11] ?_
 exact G.done0G rfl (Rv.tmp rfl (Rv.tmp rfl Rv.nil)) Y7
def heldM (l : List En) (e : En) : Prop := (parentM e.path).2 = false ∨ ∃ x ∈ l, x.path = (parentM e.path).1 ∧ x.kind = 1
instance (l : List En) (e : En) : Decidable (heldM l e) := inferInstanceAs (Decidable (_ ∨ _))
def prevBad (es : List En) (i : Nat) : Prop := 0 < i ∧ match es[i - 1]?, es[i]? with
 | some p, some e => 0 ≤ compareM p.path e.path
 | _, _ => False
instance (es : List En) (i : Nat) : Decidable (prevBad es i) := by
 unfold prevBad
 cases es[i - 1]? <;> cases es[i]? <;> exact inferInstance
theorem prev_pos {es : List En} {i : Nat} (h0 : 0 < i) (h : i < es.length) : prevBad es i ↔ 0 ≤ compareM (es[i - 1]'(by omega)).path es[i].path := by
 unfold prevBad
 rw [List.getElem?_eq_getElem h, List.getElem?_eq_getElem (show i - 1 < es.length by omega)]
 simp [h0]
theorem prev_zero {es : List En} {i : Nat} (h0 : ¬ 0 < i) : ¬ prevBad es i := fun h => h0 h.1
def errT (es : List En) (i : Nat) : Int := match es[i]? with
 | none => 0
 | some e => if (if oneM e = 0 ∧ prevBad es i then 7 else oneM e) = 0 ∧ ¬ heldM (es.take i) e then 6 else (if oneM e = 0 ∧ prevBad es i then 7 else oneM e)
theorem errT_get {es : List En} {i : Nat} (h : i < es.length) : errT es i = if (if oneM es[i] = 0 ∧ prevBad es i then 7 else oneM es[i]) = 0 ∧ ¬ heldM (es.take i) es[i] then 6 else (if oneM es[i] = 0 ∧ prevBad es i then 7 else oneM es[i]) := by
 unfold errT
 rw [List.getElem?_eq_getElem h]
theorem err_one {es : List En} {i : Nat} (h : i < es.length) (h1 : ¬ oneM es[i] = 0) : errT es i = oneM es[i] := by
 rw [errT_get h, if_neg (fun k => by rw [if_neg (fun k => h1 k.1)] at k; exact h1 k.1), if_neg (fun k => h1 k.1)]
theorem err_prev {es : List En} {i : Nat} (h : i < es.length) (h1 : oneM es[i] = 0) (h2 : prevBad es i) : errT es i = 7 := by
 rw [errT_get h, if_neg (fun k => by rw [if_pos ⟨h1, h2⟩] at k; cases k.1), if_pos ⟨h1, h2⟩]
theorem err_held {es : List En} {i : Nat} (h : i < es.length) (h1 : oneM es[i] = 0) (h2 : ¬ prevBad es i) (h3 : ¬ heldM (es.take i) es[i]) : errT es i = 6 := by
 rw [errT_get h, if_pos ⟨by rw [if_neg (fun k => h2 k.2), h1], h3⟩]
theorem err_ok {es : List En} {i : Nat} (h : i < es.length) (h1 : oneM es[i] = 0) (h2 : ¬ prevBad es i) (h3 : heldM (es.take i) es[i]) : errT es i = 0 := by
 rw [errT_get h, if_neg (fun k => k.2 h3), if_neg (fun k => h2 k.2), h1]
theorem err_zero {es : List En} {i : Nat} (h : i < es.length) (h0 : errT es i = 0) : oneM es[i] = 0 ∧ ¬ prevBad es i ∧ heldM (es.take i) es[i] := by
 have a : oneM es[i] = 0 := Decidable.byContradiction fun k => by rw [err_one h k] at h0; exact k h0
 have b : ¬ prevBad es i := fun k => by rw [err_prev h a k] at h0; cases h0
 exact ⟨a, b, Decidable.byContradiction fun k => by rw [err_held h a b k] at h0; cases h0⟩
def checkT (es : List En) : Int × Int := if 200 < es.length then (3, 0) else
 let k := (List.range es.length).findIdx fun i => ! decide (errT es i = 0)
 (errT es k, if errT es k = 0 then 0 else (k : Int))
theorem checkT_many {es : List En} (h : 200 < es.length) : checkT es = (3, 0) := if_pos h
theorem range_idx {p : Nat → Bool} {n i : Nat} (hi : i < n) (hp : p i = true) (h : ∀ q, q < i → p q = false) : (List.range n).findIdx p = i := by
 refine (List.findIdx_eq (by simpa using hi)).2 ⟨by simpa using hp, fun j hj => ?_⟩
 simpa using h j hj
theorem checkT_bad {es : List En} {i : Nat} {e : Int} (h200 : ¬ 200 < es.length) (hi : i < es.length) (h : ∀ q, q < i → errT es q = 0) (he : errT es i = e) (h0 : ¬ e = 0) : checkT es = (e, (i : Int)) := by
 unfold checkT
 rw [if_neg h200]
 have e1 : (List.range es.length).findIdx (fun i => ! decide (errT es i = 0)) = i := range_idx hi (by simp [he, h0]) (fun q hq => by simp [h q hq])
 simp only [e1, he, if_neg h0]
theorem checkT_ok {es : List En} (h200 : ¬ 200 < es.length) (h : ∀ q, q < es.length → errT es q = 0) : checkT es = (0, 0) := by
 unfold checkT
 rw [if_neg h200]
 have e1 : (List.range es.length).findIdx (fun i => ! decide (errT es i = 0)) = es.length := by
  have := List.findIdx_eq_length_of_false (p := fun i => ! decide (errT es i = 0)) (xs := List.range es.length) (fun x hx => by
   have := h x (by simpa using hx)
   simp [this])
  simpa using this
 have e2 : errT es es.length = 0 := by
  unfold errT
  rw [List.getElem?_eq_none (Nat.le_refl _)]
 simp only [e1, e2, if_true]
theorem checkT_zero {es : List En} (h : (checkT es).1 = 0) : es.length ≤ 200 ∧ (∀ q, q < es.length → errT es q = 0) ∧ checkT es = (0, 0) := by
 by_cases h200 : 200 < es.length
 ·rw [checkT_many h200] at h
  cases h
 have all : ∀ q, q < es.length → errT es q = 0 := by
  intro q
  induction q using Nat.strongRecOn with
  | _ q ih =>
   intro hq
   exact Decidable.byContradiction fun k => by
    rw [checkT_bad h200 hq (fun r hr => ih r hr (by omega)) rfl k] at h
    exact k h
 exact ⟨by omega, all, checkT_ok h200 all⟩
theorem sort_take {es : List En} {i : Nat} (hi : i ≤ es.length) (h : ∀ q, q < i → errT es q = 0) : SortT (es.take i) := by
 have step : ∀ q (hq : q + 1 < i), compareM (es[q]'(by omega)).path (es[q + 1]'(by omega)).path = -1 := fun q hq => by
  have h1 := (err_zero (show q + 1 < es.length by omega) (h (q + 1) hq)).2.1
  rw [prev_pos (by omega) (by omega)] at h1
  have := compareM_ord.rng (es[q]'(by omega)).path (es[q + 1]'(by omega)).path
  simp only [Nat.add_sub_cancel] at h1
  omega
 have all : ∀ r q (hr : r < i) (hqr : q < r), compareM (es[q]'(by omega)).path (es[r]'(by omega)).path = -1 := by
  intro r
  induction r with
  | zero => intro q hr hq; omega
  | succ r ih =>
   intro q hr hq
   rcases Nat.lt_or_ge q r with h1 | h1
   ·exact compareM_ord.trans _ _ _ (ih q (by omega) h1) (step r hr)
   obtain rfl : q = r := by omega
   exact step q hr
 refine List.pairwise_iff_getElem.2 fun q r hq hr hqr => ?_
 simp only [List.length_take] at hq hr
 rw [List.getElem_take, List.getElem_take]
 exact all r q (by omega) hqr
theorem placeK_spec {es : List En} (hs : SortT es) {s : List UInt8} (h : isAt es s) : ∃ hk : placeK es s < es.length, es[placeK es s].path = s := by
 obtain ⟨e, he, rfl⟩ := h
 obtain ⟨j, hj, rfl⟩ := List.getElem_of_mem he
 have hp : placeK es es[j].path = j := placeK_at (by omega) (fun q hq hqj => by rw [cmp_lt_iff]; exact (List.pairwise_iff_getElem.1 hs) q j hq hj hqj) (fun q hq hjq => by
  rcases Nat.lt_or_ge j q with h1 | h1
  ·have h2 := (List.pairwise_iff_getElem.1 hs) j q hj hq h1
   have := compareM_ord.anti es[j].path es[q].path
   omega
  obtain rfl : j = q := by omega
  rw [(compareM_ord.zero _ _).2 rfl]
  omega)
 refine ⟨by omega, ?_⟩
 simp only [hp]
theorem sort_inj {es : List En} (hs : SortT es) {a b : En} (ha : a ∈ es) (hb : b ∈ es) (h : a.path = b.path) : a = b := by
 obtain ⟨i, hi, rfl⟩ := List.getElem_of_mem ha
 obtain ⟨j, hj, rfl⟩ := List.getElem_of_mem hb
 have hz : compareM es[i].path es[j].path = 0 := (compareM_ord.zero _ _).2 h
 rcases Nat.lt_trichotomy i j with h1 | h1 | h1
 ·have := (List.pairwise_iff_getElem.1 hs) i j hi hj h1
  omega
 ·subst h1
  rfl
 have h2 := (List.pairwise_iff_getElem.1 hs) j i hj hi h1
 have := compareM_ord.anti es[i].path es[j].path
 omega
theorem held_none {l : List En} {e : En} (h : (parentM e.path).2 = true) (h2 : ¬ isAt l (parentM e.path).1) : ¬ heldM l e := fun k => by
 rcases k with k | ⟨x, hx, k1, k2⟩
 ·rw [h] at k
  cases k
 exact h2 ⟨x, hx, k1⟩
theorem held_kind {l : List En} {e : En} (hs : SortT l) (h : (parentM e.path).2 = true) (h2 : isAt l (parentM e.path).1) {x : En} (hx : l[placeK l (parentM e.path).1]? = some x) : heldM l e ↔ x.kind = 1 := by
 obtain ⟨hk, hp⟩ := placeK_spec hs h2
 rw [List.getElem?_eq_getElem hk] at hx
 injection hx with hx
 constructor
 ·rintro (k | ⟨y, hy, k1, k2⟩)
  ·rw [h] at k
   cases k
  have : x = y := sort_inj hs (hx ▸ List.getElem_mem hk) hy (by rw [← hx, hp, k1])
  rw [this]
  exact k2
 intro k
 exact .inr ⟨x, hx ▸ List.getElem_mem hk, by rw [← hx, hp], k⟩
theorem Ro.takeT {α : Type} {E : Rdr α} {w0 : World} {S Ps : Nat → Prop} {ad : Option Addr} {len cap i : Nat} {xs : List α} (h : Ro w0 S (slc E Ps (.slice ad len cap) xs)) (hi : i ≤ xs.length) : Ro w0 S (slc E Ps (.slice ad i cap) (xs.take i)) := by
 have := Ro.sub h (Nat.zero_le i) hi
 rwa [subV_zero, List.drop_zero] at this
theorem ens_take (xs : List ET) (i : Nat) : ens (xs.take i) = (ens xs).take i := by simp [ens, List.map_take]
theorem ens_at {xs : List ET} {i : Nat} (h : i < xs.length) : (ens xs)[i]? = some xs[i].1 := by simp [ens, h]
set_option maxHeartbeats 4000000 in
theorem tcheck_tr {Ps : Nat → Prop} (v : Value) (xs : List ET) : Tr Tryz.prog 50 #[v] [slc rEV Ps v xs] [] (T0 (.tuple #[.int .i64 (checkT (ens xs)).1, .int .i64 (checkT (ens xs)).2])) := by
 refine Tr.of (l := [(0, v)]) Tryz.func50 rfl (n := 69) rfl (.cons rfl .nil) (fun w0 hro => ?_)
 have hv := ro1 hro
 have hv' := hv
 obtain ⟨av, cv, bv, fv, rfl, hcapv, hmaxv, hnilv, hadv, helv⟩ := Ro.openT hv
 have hel' := ens_length xs
 refine go [9,10,1,1,7,8,9,9,10,0,2,5,2,10,7,8] ?_
 refine G.condP rfl (fun h13 => ?_) (fun h13 => ?_)
 ·refine go [9,10,1,1,7,8,11,12] ?_
  exact G.done0G rfl (Rv.tmp rfl (Rv.tmp rfl Rv.nil)) (by rw [checkT_many (by omega)]; rfl)
 refine go [13,8,9,9,10,0,2,5,0,7,8,15] ?_
 refine G.loopK (X := Nat) (ts := [0, 14, 15]) (fun i => i ≤ xs.length ∧ (∀ q, q < i → errT (ens xs) q = 0)) (fun i => [(16, .int .i64 (i : Int))]) (fun i => []) (fun i => xs.length - i) (x0 := 0) (.cons rfl (.cons rfl (.cons rfl .nil))) subT (.cons .nil) apT Y59 (.consE rfl veqT .nil) (fun i hJ => ?_)
 try dsimp only at hJ
 try dsimp only
 obtain ⟨hki, hJ⟩ := hJ
 refine go [9,10,2,9,7,8,9] ?_
 refine G.condP rfl (fun h17 => ?_) (fun h17 => ?_)
 ·have hJ0 := hJ
  have hlt : i < xs.length := by omega
  have hlt' : i < (ens xs).length := by omega
  have hg := ens_get hlt
  have hso := sort_take (es := ens xs) (i := i) (by omega) hJ
  have hTk := Ro.takeT hv' (i := i) (by omega)
  have hEv := helv i hlt
  have hRv := Ro.evRng hEv
  have hDv := Ro.evDat hEv
  obtain ⟨hk1v, hk2v, hlpv, hldv, hltv⟩ := Ro.evOk hEv
  have hCv := Ro.one1 hDv
  refine go [13,8,9,15,9,10,0,2,20,5,2,50,5] ?_
  refine G.op rfl (G.alloc (z := .agg #[.string ⟨#[]⟩, .int .i64 0, .int .i64 0, .slice none 0 0, .string ⟨#[]⟩]) (cs := [.string ⟨#[]⟩, .int .i64 0, .int .i64 0, .slice none 0 0, .string ⟨#[]⟩]) rfl kr rfl ?_)
  intro b5
  refine go [1,20,7,8,9,9,10,2,50,5] ?_
  refine G.op rfl (G.cR rfl rfl rfl rfl Tryz.func70 rfl rfl (may1 Y2) (one_tr _ _ (by omega)) ?_)
  refine go [1,7,8,9,10,0,2,14,7,8] ?_
  refine G.condP rfl (fun h24 => ?_) (fun h24 => ?_)
  ·refine go [9,10,0,0,1,1,7,8,11,12,17,12,12,17,12] ?_
   exact G.done0G rfl (Rv.tmp rfl (Rv.tmp rfl Rv.nil)) (by rw [checkT_bad (by omega) hlt' hJ0 (err_one hlt' (by rw [hg]; assumption)) (by rw [hg]; assumption), hg]; rfl)
  have h1 : oneM (ens xs)[i] = 0 := by rw [hg]; omega
  refine go [13,8,9,9] ?_
  refine G.cutK (X := Unit) (ts := [0, 4, 5, 14, 15, 16]) (p := []) (fun _ => True) (fun _ => [(40, .bool (decide (prevBad (ens xs) i)))]) (fun _ => []) (.cons rfl (.cons rfl (.cons rfl (.cons rfl (.cons rfl (.cons rfl .nil)))))) subT (.cons .nil) apT ?_ ?_
  ·refine G.drawT (nn := 14) (p := []) (rem := 16383) [0, 1, 2, 4, 4, 20, 44, 68, 132, 4, 516, 1284, 2052, 4100] [0, 1, 2, 4, 4, 20, 44, 68, 132, 4, 516, 1284, 2052, 4100] kr ⟨rfl, by kernel_rfl, by kernel_rfl⟩ subT kr (fun hT9 => ?_)
   refine go [22,0,16382,0,22,1,16380,10,22,2,16376,0] ?_
   refine G.partP (t := 29) rfl (fun h29 => ?_) (fun h29 => ?_)
   ·have hi0 : 0 < i := by omega
    have hEp := helv (i - 1) (by omega)
    have hRp := Ro.evRng hEp
    have hDp := Ro.evDat hEp
    obtain ⟨hk1p, hk2p, hlpp, hldp, hltp⟩ := Ro.evOk hEp
    have hCp := Ro.one1 hDp
    have hpv := prev_pos hi0 hlt'
    rw [hg, ens_get (show i - 1 < xs.length by omega)] at hpv
    refine go [22,3,16368,0,22,4,16352,0,22,5,16320,19] ?_
    refine G.takeT hT9 (i := 6) (rem' := 16256) rfl rfl rfl kr (fun _ _ _ h => h) rfl (pv_ixSl (sz := 5) (k := i - 1) Tryz.underlying35 kr rfl rfl Y32 (by omega) (by omega)) subT ?_
    refine go [22,7,16128,3,0,22,8,15872,4,22,9,15360,3,0,24,10,14336,25,4,26,24,11,12288] ?_
    refine G.turnOp rfl rfl (G.cR rfl rfl rfl rfl Tryz.func71 rfl rfl may0 (compare_tr _ _ (by omega) (by omega)) ?_)
    refine go [26,22,12,8192,12,22,13,0,2,27] ?_
    exact G.meet (()) trT (.consE rfl (dec_e hpv.symm) (.cons rfl (.cons rfl (.cons rfl (.cons rfl (.cons rfl (.cons rfl .nil))))))) subT
   refine go [23,3,16368,23,4,16352,23,5,16320,23,6,16256,23,7,16128,23,8,15872,23,9,15360,23,10,14336,23,11,12288,23,12,8192,22,13,0,2,27] ?_
   exact G.meet (()) trT (.consE rfl (dec_f (prev_zero (by omega))) (.cons rfl (.cons rfl (.cons rfl (.cons rfl (.cons rfl (.cons rfl .nil))))))) subT
  intro _ hJ
  try dsimp only at hJ
  try dsimp only
  refine G.condP rfl (fun h40 => ?_) (fun h40 => ?_)
  ·refine go [9,10,0,1,1,7,8,11,12,17,12,12,17,12] ?_
   exact G.done0G rfl (Rv.tmp rfl (Rv.tmp rfl Rv.nil)) (by rw [checkT_bad (by omega) hlt' hJ0 (err_prev hlt' h1 (by assumption)) (by omega)]; rfl)
  refine go [13,8,9,10,2,3,0,2,4] ?_
  refine G.op rfl (G.cR rfl rfl rfl rfl Tryz.func72 rfl rfl may0 (parent_tr _ (by omega)) ?_)
  have hpl := parentM_len xs[i].1.path
  refine go [0,2,7,2,7,1,1,7,8,9,10,0,7,8] ?_
  refine G.cond rfl (fun h48 => ?_) (fun h48 => ?_)
  ·have hpt : (parentM (ens xs)[i].path).2 = true := by rw [hg]; exact h48
   refine go [9,10,0,0] ?_
   refine G.op rfl (G.val rfl rfl (pv_subH (sz := 5) (k := i) Tryz.underlying35 kr rfl rfl rfl (by omega)) ?_)
   refine go [0] ?_
   refine G.op rfl (G.cR rfl rfl rfl rfl Tryz.func73 rfl rfl (may1 Y2) (place_tr _ (xs.take i) _ (by rw [List.length_take]; omega) (by rw [ens_take]; exact hso) (by omega)) ?_)
   rw [ens_take]
   refine go [0,2,7,2,7,1,1,7,8,9] ?_
   refine G.cutK (X := Unit) (ts := [0, 4, 14, 15, 16]) (p := []) (fun _ => True) (fun _ => [(66, .bool (decide (¬ heldM ((ens xs).take i) (ens xs)[i])))]) (fun _ => []) (.cons rfl (.cons rfl (.cons rfl (.cons rfl (.cons rfl .nil))))) subT (.cons .nil) apT ?_ ?_
   ·refine go [10,0,2,15,0] ?_
    refine G.partP (t := 59) rfl (fun h59 => ?_) (fun h59 => ?_)
    ·have hnh : ¬ heldM ((ens xs).take i) (ens xs)[i] := held_none hpt (by rw [hg]; assumption)
     refine go [4,4,4,4,4,4,2,2,7] ?_
     exact G.meet (()) trT (.consE rfl (dec_t hnh) (.cons rfl (.cons rfl (.cons rfl (.cons rfl (.cons rfl .nil)))))) subT
    have hat : isAt ((ens xs).take i) (parentM xs[i].1.path).1 := Decidable.of_not_not (by assumption)
    obtain ⟨hkl, -⟩ := placeK_spec hso hat
    rw [List.length_take] at hkl
    obtain ⟨k, hk⟩ : ∃ k, placeK ((ens xs).take i) (parentM xs[i].1.path).1 = k := ⟨_, rfl⟩
    have hkk := held_kind hso hpt (x := (xs[k]'(by omega)).1) (by rw [hg]; exact hat) (by rw [hg, hk, List.getElem?_take_of_lt (by omega)]; exact ens_at (by omega))
    rw [hk] at hkl ⊢
    have hEk := helv k (by omega)
    have hRk := Ro.evRng hEk
    have hDk := Ro.evDat hEk
    obtain ⟨hk1k, hk2k, hlpk, hldk, hltk⟩ := Ro.evOk hEk
    have hCk := Ro.one1 hDk
    refine go [3,0,3,0] ?_
    refine G.want rfl rfl rfl (G.val rfl rfl (pv_ixSl (sz := 5) (k := k) Tryz.underlying35 kr rfl rfl Y32 (by omega) (by omega)) ?_)
    refine go [3,3,1,3,4,3,14,2,2,7] ?_
    exact G.meet (()) trT (.consE rfl (dec_e (not_congr hkk.symm)) (.cons rfl (.cons rfl (.cons rfl (.cons rfl (.cons rfl .nil)))))) subT
   intro _ hJ
   try dsimp only at hJ
   try dsimp only
   refine G.condP rfl (fun h66 => ?_) (fun h66 => ?_)
   ·refine go [9,10,0,1,1,7,8,11,17,12,12,17,12] ?_
    exact G.done0G rfl (Rv.tmp rfl (Rv.tmp rfl Rv.nil)) (by rw [checkT_bad (by omega) hlt' hJ0 (err_held hlt' h1 (by assumption) (by assumption)) (by omega)]; rfl)
   have hok0 : errT (ens xs) i = 0 := err_ok hlt' h1 (by assumption) (Decidable.of_not_not (by assumption))
   refine go [13,16,8,10,2,6,0,7] ?_
   exact G.next (i + 1) Y31 (by (try dsimp only); omega) (.consE rfl veqT (.cons rfl (.cons rfl (.cons rfl .nil)))) subT
  have hok0 : errT (ens xs) i = 0 := err_ok hlt' h1 (by assumption) (.inl (by rw [hg]; exact h48))
  refine go [13,16,8,10,2,6,0,7] ?_
  exact G.next (i + 1) Y31 (by (try dsimp only); omega) (.consE rfl veqT (.cons rfl (.cons rfl (.cons rfl .nil)))) subT
 refine go [18,14,14,19,8,9,10,1,1,7,8,11] ?_
 exact G.done0G rfl (Rv.tmp rfl (Rv.tmp rfl Rv.nil)) (by rw [checkT_ok (by omega) (fun q hq => hJ q (by omega))]; rfl)
def totM (es : List En) : Nat := (es.map fun e => e.path.length + e.data.length + e.to.length).sum
theorem sum_take_succ (f : En → Nat) {es : List En} {i : Nat} (h : i < es.length) : ((es.take (i + 1)).map f).sum = ((es.take i).map f).sum + f es[i] := by
 rw [List.take_succ_eq_append_getElem h, List.map_append, List.sum_append]
 simp
theorem totM_succ {xs : List ET} {i : Nat} (h : i < xs.length) : totM ((ens xs).take (i + 1)) = totM ((ens xs).take i) + (xs[i].1.path.length + xs[i].1.data.length + xs[i].1.to.length) := by
 unfold totM
 rw [sum_take_succ _ (by rw [ens_length]; exact h), ens_get h]
theorem ens_eq {xs ys : List ET} (hl : xs.length = ys.length) (h : ∀ q (hq : q < xs.length), xs[q].1 = (ys[q]'(by omega)).1) : ens xs = ens ys := by
 apply List.ext_getElem
 ·rw [ens_length, ens_length, hl]
 intro i h1 h2
 rw [ens_length] at h1
 rw [ens_get h1, ens_get (by omega)]
 exact h i h1
theorem ens_ne {xs ys : List ET} {i : Nat} (hx : i < xs.length) (hy : i < ys.length) (h : xs[i].1 ≠ ys[i].1) : ¬ ens xs = ens ys := fun e => by
 have h1 := ens_get hx
 have h2 := ens_get hy
 simp only [e] at h1
 exact h (h1.symm.trans h2)
theorem ens_len_ne {xs ys : List ET} (h : ¬ (xs.length : Int) = ys.length) : ¬ ens xs = ens ys := fun e => h (by
 have := congrArg List.length e
 rw [ens_length, ens_length] at this
 omega)
theorem heldNo {es : List En} {e : En} (h : (parentM e.path).2 = true) (h2 : ∀ q (hq : q < es.length), ¬ (es[q].path = (parentM e.path).1 ∧ es[q].kind = 1)) : ¬ heldM es e := by
 rintro (k | ⟨x, hx, k⟩)
 ·rw [h] at k
  cases k
 obtain ⟨j, hj, rfl⟩ := List.getElem_of_mem hx
 exact h2 j hj k
set_option maxHeartbeats 4000000 in
theorem held_tr {Ps Pd : Nat → Prop} (v : Value) (xs : List ET) (e : En) (d : Value) (hl : e.path.length ≤ 9223372036854775807) : Tr Tryz.prog 120 #[v, .agg #[.string (sB e.path), .int .i64 e.kind, .int .i64 e.mode, d, .string (sB e.to)]] [slc rEV Ps v xs, slc rByte Pd d e.data] [] (T0 (.bool (decide (heldM (ens xs) e)))) := by
 refine Tr.of (l := [(0, v), (1, .agg #[.string (sB e.path), .int .i64 e.kind, .int .i64 e.mode, d, .string (sB e.to)])]) Tryz.func120 rfl (n := 37) rfl (.cons rfl (.cons rfl .nil)) (fun w0 hro => ?_)
 obtain ⟨hv0, hd0⟩ := ro2 hro
 have hv := hv0
 have hv' := hv
 obtain ⟨av, cv, bv, fv, rfl, hcapv, hmaxv, hnilv, hadv, helv⟩ := Ro.openT hv
 have hel' := ens_length xs
 refine go [9,10,60,9] ?_
 intro b3
 refine go [1,7,8,9,10,2,3,0,2,4] ?_
 refine G.op rfl (G.cR rfl rfl rfl rfl Tryz.func147 rfl rfl may0 (parentR_tr _ (by omega)) ?_)
 refine go [0,2,7,2,7,1,1,7,8,9,9,10,0,2,25,7,8] ?_
 refine G.cond rfl (fun h15 => ?_) (fun h15 => ?_)
 ·refine go [9,10,1,7,8,11,12] ?_
  exact G.done0G rfl (Rv.tmp rfl Rv.nil) (by rw [decide_eq_true (show heldM (ens xs) e from .inl (by simpa using h15))]; rfl)
 have hpt : (parentM e.path).2 = true := by simpa using h15
 refine go [13,8,9,9,10,1,7,8,15] ?_
 refine G.loopK (X := Nat) (ts := [0, 5]) (fun i => i ≤ xs.length ∧ (∀ q (hq : q < xs.length), q < i → ¬ (xs[q].1.path = (parentM e.path).1 ∧ xs[q].1.kind = 1))) (fun i => [(7, .int .i64 (i : Int))]) (fun i => []) (fun i => xs.length - i) (x0 := 0) (.cons rfl (.cons rfl .nil)) subT (.cons .nil) apT Y57 (.consE rfl veqT .nil) (fun i hJ => ?_)
 try dsimp only at hJ
 try dsimp only
 obtain ⟨hki, hJ⟩ := hJ
 refine go [9,9,10,0,0,2,5,2,9,7,8] ?_
 refine G.condP rfl (fun h19 => ?_) (fun h19 => ?_)
 ·have hJ0 := hJ
  have hlt : i < xs.length := by omega
  have hEv := helv i hlt
  have hRv := Ro.evRng hEv
  have hDv := Ro.evDat hEv
  obtain ⟨hk1v, hk2v, hlpv, hldv, hltv⟩ := Ro.evOk hEv
  have hCv := Ro.one1 hDv
  refine go [13,8,9,15,9] ?_
  refine G.cutK (X := Unit) (ts := [0, 5, 7]) (p := []) (fun _ => True) (fun _ => [(36, .bool (decide (xs[i].1.path = (parentM e.path).1 ∧ xs[i].1.kind = 1)))]) (fun _ => []) (.cons rfl (.cons rfl (.cons rfl .nil))) subT (.cons .nil) apT ?_ ?_
  ·refine go [10,0,0,2,20,5,2,3,0,2,4,0,2,24,0] ?_
   refine G.partP (t := 29) rfl (fun h29 => ?_) (fun h29 => ?_)
   ·refine go [3,0,3,0,3,20,5,3,3,1,3,4,3,13,2,2,7] ?_
    exact G.meet (()) trT (.consE rfl (dec_e (by simp_all)) (.cons rfl (.cons rfl (.cons rfl .nil)))) subT
   refine go [4,4,4,4,4,4,2,2,7] ?_
   exact G.meet (()) trT (.consE rfl (dec_f (by simp_all)) (.cons rfl (.cons rfl (.cons rfl .nil)))) subT
  intro _ hJ
  try dsimp only at hJ
  try dsimp only
  refine G.condP rfl (fun h36 => ?_) (fun h36 => ?_)
  ·refine go [9,10,1,7,8,11,17,12,12,17,12] ?_
   exact G.done0G rfl (Rv.tmp rfl Rv.nil) (by rw [decide_eq_true (show heldM (ens xs) e from .inr ⟨xs[i].1, List.mem_map.2 ⟨_, List.getElem_mem hlt, rfl⟩, h36⟩)]; rfl)
  have hno := h36
  refine go [13,16,8,10,0,2,6,1,7] ?_
  exact G.next (i + 1) (by first | exact trivial | ((try dsimp only) <;> exact ⟨by omega, fun q hq hqi => by rcases Nat.lt_or_ge q i with h1 | h1; exact hJ0 q hq h1; obtain rfl : q = i := (by omega); exact hno⟩)) (by (try dsimp only); omega) (.consE rfl veqT (.cons rfl (.cons rfl .nil))) subT
 refine go [18,14,14,19,8,9,10,1,7,8,11] ?_
 exact G.done0G rfl (Rv.tmp rfl Rv.nil) (by rw [decide_eq_false (heldNo hpt (fun q hq => by rw [ens_get (by omega)]; exact hJ q (by omega) (by omega)))]; rfl)
set_option maxHeartbeats 4000000 in
theorem tcheckR_tr {Ps : Nat → Prop} (v : Value) (xs : List ET) : Tr Tryz.prog 81 #[v] [slc rEV Ps v xs] [] (T0 (.tuple #[.int .i64 (checkT (ens xs)).1, .int .i64 (checkT (ens xs)).2])) := by
 refine Tr.of (l := [(0, v)]) Tryz.func81 rfl (n := 58) rfl (.cons rfl .nil) (fun w0 hro => ?_)
 have hv := ro1 hro
 have hv' := hv
 obtain ⟨av, cv, bv, fv, rfl, hcapv, hmaxv, hnilv, hadv, helv⟩ := Ro.openT hv
 have hel' := ens_length xs
 refine go [9,10,1,1,7,8,9,9,10,0,2,5,2,10,7,8] ?_
 refine G.condP rfl (fun h8 => ?_) (fun h8 => ?_)
 ·refine go [9,10,1,1,7,8,11,12] ?_
  exact G.done0G rfl (Rv.tmp rfl (Rv.tmp rfl Rv.nil)) (by rw [checkT_many (by omega)]; rfl)
 refine go [13,8,9,9,10,1,7,8,15] ?_
 refine G.loopK (X := Nat) (ts := [0]) (fun i => i ≤ xs.length ∧ (∀ q, q < i → errT (ens xs) q = 0)) (fun i => [(4, .int .i64 (i : Int))]) (fun i => []) (fun i => xs.length - i) (x0 := 0) (.cons rfl .nil) subT (.cons .nil) apT Y59 (.consE rfl veqT .nil) (fun i hJ => ?_)
 try dsimp only at hJ
 try dsimp only
 obtain ⟨hki, hJ⟩ := hJ
 refine go [9,9,10,0,0,2,5,2,9,7,8] ?_
 refine G.condP rfl (fun h12 => ?_) (fun h12 => ?_)
 ·have hJ0 := hJ
  have hlt : i < xs.length := by omega
  have hlt' : i < (ens xs).length := by omega
  have hg := ens_get hlt
  have hTk := Ro.takeT hv' (i := i) (by omega)
  have heq := errT_get hlt'
  rw [hg] at heq
  have hEv := helv i hlt
  have hRv := Ro.evRng hEv
  have hDv := Ro.evDat hEv
  obtain ⟨hk1v, hk2v, hlpv, hldv, hltv⟩ := Ro.evOk hEv
  have hCv := Ro.one1 hDv
  refine go [13,8,9,15,9,10,0,0,2,20,5,2,50,5] ?_
  refine G.op rfl (G.cR rfl rfl rfl rfl Tryz.func118 rfl rfl (may1 Y2) (oneR_tr _ _ (by omega)) ?_)
  refine go [1,7,8,9] ?_
  refine G.cutK (X := Unit) (ts := [0, 4]) (p := []) (fun _ => True) (fun _ => [(5, .int .i64 (if oneM xs[i].1 = 0 ∧ prevBad (ens xs) i then 7 else oneM xs[i].1))]) (fun _ => []) (.cons rfl (.cons rfl .nil)) subT (.cons .nil) apT ?_ ?_
  ·refine G.seq ?_
   refine G.cutK (X := Unit) (ts := [0, 4, 5]) (p := []) (fun _ => True) (fun _ => [(40, .bool (decide (oneM xs[i].1 = 0 ∧ prevBad (ens xs) i)))]) (fun _ => []) (.cons rfl (.cons rfl (.cons rfl .nil))) subT (.cons .nil) apT ?_ ?_
   ·refine G.drawT (nn := 21) (p := []) (rem := 2097151) [0, 1, 2, 4, 12, 20, 36, 64, 64, 320, 704, 1088, 2112, 64, 64, 24640, 32832, 65600, 135232, 262208, 524352] [0, 1, 2, 4, 12, 20, 32, 64, 64, 320, 704, 1088, 2112, 64, 64, 24640, 32832, 65600, 135232, 262208, 524352] kr ⟨rfl, by kernel_rfl, by kernel_rfl⟩ subT kr (fun hT7 => ?_)
    refine go [22,0,2097150,0,22,1,2097148,13,22,2,2097144,0] ?_
    refine G.partP (t := 22) rfl (fun h22 => ?_) (fun h22 => ?_)
    ·refine go [22,3,2097136,0,22,4,2097120,10,22,5,2097088,2,22,6,2097024,0] ?_
     refine G.partP (t := 26) rfl (fun h26 => ?_) (fun h26 => ?_)
     ·have hi0 : 0 < i := by omega
      have hEp := helv (i - 1) (by omega)
      have hRp := Ro.evRng hEp
      have hDp := Ro.evDat hEp
      obtain ⟨hk1p, hk2p, hlpp, hldp, hltp⟩ := Ro.evOk hEp
      have hCp := Ro.one1 hDp
      have hpv := prev_pos hi0 hlt'
      rw [hg, ens_get (show i - 1 < xs.length by omega)] at hpv
      refine go [22,7,2096896,0,22,8,2096640,0,22,9,2096128,19] ?_
      refine G.takeT hT7 (i := 10) (rem' := 2095104) rfl rfl rfl kr (fun _ _ _ h => h) rfl (pv_ixSl (sz := 5) (k := i - 1) Tryz.underlying35 kr rfl rfl Y32 (by omega) (by omega)) subT ?_
      refine go [22,11,2093056,3,0,22,12,2088960,4,22,13,2080768,0,22,14,2064384,0,22,15,2031616,20,5,22,16,1966080,3,0,24,17,1835008,25,4,26,24,18,1572864] ?_
      refine G.turnOp rfl rfl (G.cR rfl rfl rfl rfl Tryz.func119 rfl rfl may0 (compareR_tr _ _ (by omega) (by omega)) ?_)
      refine go [26,22,19,1048576,12,22,20,0,2,27] ?_
      exact G.meet (()) trT (.consE rfl Y22 (.cons rfl (.cons rfl (.cons rfl .nil)))) subT
     refine go [23,7,2096896,23,8,2096640,23,9,2096128,23,10,2095104,23,11,2093056,23,12,2088960,23,13,2080768,23,14,2064384,23,15,2031616,23,16,1966080,23,17,1835008,23,18,1572864,23,19,1048576,22,20,0,2,27] ?_
     exact G.meet (()) trT (.consE rfl Y22 (.cons rfl (.cons rfl (.cons rfl .nil)))) subT
    refine go [23,3,2097136,23,4,2097120,22,5,2097088,2,22,6,2097024,0,23,7,2096896,23,8,2096640,23,9,2096128,23,10,2095104,23,11,2093056,23,12,2088960,23,13,2080768,23,14,2064384,23,15,2031616,23,16,1966080,23,17,1835008,23,18,1572864,23,19,1048576,22,20,0,2,27] ?_
    exact G.meet (()) trT (.consE rfl Y22 (.cons rfl (.cons rfl (.cons rfl .nil)))) subT
   intro _ hJ
   try dsimp only at hJ
   try dsimp only
   refine G.condP rfl (fun h40 => ?_) (fun h40 => ?_)
   ·refine go [10,1,7] ?_
    exact G.meet (()) trT (.consE rfl (int_eq (by rw [if_pos (by assumption)])) (.cons rfl (.cons rfl .nil))) subT
   refine G.skip ?_
   exact G.meet (()) trT (.consE rfl (int_eq (by rw [if_neg (by assumption)])) (.cons rfl (.cons rfl .nil))) subT
  intro _ hJ
  try dsimp only at hJ
  try dsimp only
  refine G.seq ?_
  refine G.cutK (X := Unit) (ts := [0, 4]) (p := []) (fun _ => True) (fun _ => [(5, .int .i64 (errT (ens xs) i))]) (fun _ => []) (.cons rfl (.cons rfl .nil)) subT (.cons .nil) apT ?_ ?_
  ·refine G.seq ?_
   refine G.cutK (X := Unit) (ts := [0, 4, 5]) (p := []) (fun _ => True) (fun _ => [(53, .bool (decide ((if oneM xs[i].1 = 0 ∧ prevBad (ens xs) i then 7 else oneM xs[i].1) = 0 ∧ ¬ heldM ((ens xs).take i) xs[i].1)))]) (fun _ => []) (.cons rfl (.cons rfl (.cons rfl .nil))) subT (.cons .nil) apT ?_ ?_
   ·refine G.drawT (nn := 13) (p := []) (rem := 8191) [0, 1, 2, 4, 4, 28, 4, 4, 196, 260, 548, 1028, 2052] [0, 1, 2, 4, 4, 28, 4, 4, 196, 260, 548, 1028, 2052] kr ⟨rfl, by kernel_rfl, by kernel_rfl⟩ subT kr (fun hT9 => ?_)
    refine go [22,0,8190,0,22,1,8188,13,22,2,8184,0] ?_
    refine G.partP (t := 43) rfl (fun h43 => ?_) (fun h43 => ?_)
    ·refine go [22,3,8176,0,22,4,8160,0] ?_
     refine G.takeT hT9 (i := 5) (rem' := 8128) rfl rfl rfl kr (fun _ _ _ h => h) rfl (pv_subH (sz := 5) Tryz.underlying35 kr rfl rfl rfl (by omega)) subT ?_
     refine go [22,6,8064,0,22,7,7936,0,22,8,7680,20,5,24,9,7168,25,50,5,26,24,10,6144] ?_
     refine G.turnOp rfl rfl (G.cR rfl rfl rfl rfl Tryz.func120 rfl rfl (may2 Y2 Y2) (held_tr _ (xs.take i) _ _ (by omega)) ?_)
     rw [ens_take]
     refine go [26,22,11,4096,15,22,12,0,2,27] ?_
     exact G.meet (()) trT (.consE rfl Y40 (.cons rfl (.cons rfl (.cons rfl .nil)))) subT
    refine go [23,3,8176,23,4,8160,23,5,8128,23,6,8064,23,7,7936,23,8,7680,23,9,7168,23,10,6144,23,11,4096,22,12,0,2,27] ?_
    exact G.meet (()) trT (.consE rfl Y40 (.cons rfl (.cons rfl (.cons rfl .nil)))) subT
   intro _ hJ
   try dsimp only at hJ
   try dsimp only
   refine G.condP rfl (fun h53 => ?_) (fun h53 => ?_)
   ·refine go [10,1,7] ?_
    exact G.meet (()) trT (.consE rfl (int_eq (heq.trans (if_pos (by assumption))).symm) (.cons rfl (.cons rfl .nil))) subT
   refine G.skip ?_
   exact G.meet (()) trT (.consE rfl (int_eq (heq.trans (if_neg (by assumption))).symm) (.cons rfl (.cons rfl .nil))) subT
  intro _ hJ
  try dsimp only at hJ
  try dsimp only
  refine go [9,10,0,2,14,7,8] ?_
  refine G.condP rfl (fun h55 => ?_) (fun h55 => ?_)
  ·refine go [9,10,0,0,1,1,7,8,11,17,12,12,17,12] ?_
   exact G.done0G rfl (Rv.tmp rfl (Rv.tmp rfl Rv.nil)) (by rw [checkT_bad (by omega) hlt' hJ0 rfl (by assumption)]; rfl)
  have hok0 : errT (ens xs) i = 0 := by omega
  refine go [13,16,8,10,0,2,6,1,7] ?_
  exact G.next (i + 1) Y31 (by (try dsimp only); omega) (.consE rfl veqT (.cons rfl .nil)) subT
 refine go [18,14,14,19,8,9,10,1,1,7,8,11] ?_
 exact G.done0G rfl (Rv.tmp rfl (Rv.tmp rfl Rv.nil)) (by rw [checkT_ok (by omega) (fun q hq => hJ q (by omega))]; rfl)
def bigM (es : List En) (k r : Int) : Prop := k < es.length ∨ r < totM es
instance (es : List En) (k r : Int) : Decidable (bigM es k r) := inferInstanceAs (Decidable (_ ∨ _))
set_option maxHeartbeats 4000000 in
theorem big_tr {Ps : Nat → Prop} (v : Value) (xs : List ET) (k r : Int) (hk : 0 ≤ k ∧ k ≤ 1000) : Tr Tryz.prog 18 #[v, .int .i64 k, .int .i64 r] [slc rEV Ps v xs] [] (T0 (.bool (decide (bigM (ens xs) k r)))) := by
 refine Tr.of (l := [(0, v), (1, .int .i64 k), (2, .int .i64 r)]) Tryz.func18 rfl (n := 51) rfl (.cons rfl (.cons rfl (.cons rfl .nil))) (fun w0 hro => ?_)
 have hv := ro1 hro
 have hv' := hv
 obtain ⟨av, cv, bv, fv, rfl, hcapv, hmaxv, hnilv, hadv, helv⟩ := Ro.openT hv
 have hel' := ens_length xs
 refine go [9,10,1,7,8,9,10,1,7,8,9,9,10,1,7,8,15] ?_
 refine G.loopK (X := Nat) (ts := [0, 1, 2, 6]) (fun i => i ≤ xs.length ∧ (i : Int) ≤ k + 1 ∧ totM ((ens xs).take i) ≤ i * (3 * 140737488355328)) (fun i => [(7, .int .i64 (totM ((ens xs).take i) : Int)), (8, .int .i64 (i : Int))]) (fun i => []) (fun i => xs.length - i) (x0 := 0) (.cons rfl (.cons rfl (.cons rfl (.cons rfl .nil)))) subT (.cons (.cons .nil)) apT (by first | exact trivial | ((try dsimp only) <;> exact ⟨Nat.zero_le _, by omega, by simp [totM]⟩)) (.consE rfl veqT (.consE rfl veqT .nil)) (fun i hJ => ?_)
 try dsimp only at hJ
 try dsimp only
 obtain ⟨hi1, hi2, hsum⟩ := hJ
 refine go [9,9] ?_
 refine G.cutK (X := Unit) (ts := [0, 1, 2, 6, 7, 8]) (p := []) (fun _ => True) (fun _ => [(17, .bool (decide (i < xs.length ∧ (i : Int) ≤ k)))]) (fun _ => []) (.cons rfl (.cons rfl (.cons rfl (.cons rfl (.cons rfl (.cons rfl .nil)))))) subT (.cons .nil) apT ?_ ?_
 ·refine go [10,0,0,2,5,2,9,0] ?_
  refine G.partP (t := 13) rfl (fun h13 => ?_) (fun h13 => ?_)
  ·refine go [3,0,3,0,3,11,2,2,7] ?_
   exact G.meet (()) trT (.consE rfl (by first | exact dec_e (by omega) | exact dec_f (by omega)) (.cons rfl (.cons rfl (.cons rfl (.cons rfl (.cons rfl (.cons rfl .nil))))))) subT
  refine go [4,4,4,2,2,7] ?_
  exact G.meet (()) trT (.consE rfl (by first | exact dec_e (by omega) | exact dec_f (by omega)) (.cons rfl (.cons rfl (.cons rfl (.cons rfl (.cons rfl (.cons rfl .nil))))))) subT
 intro _ hJ
 try dsimp only at hJ
 try dsimp only
 refine G.condP rfl (fun h17 => ?_) (fun h17 => ?_)
 ·have hlt : i < xs.length := h17.1
  have hik := h17.2
  have hsz := totM_succ hlt
  have hEv := helv i hlt
  have hRv := Ro.evRng hEv
  have hDv := Ro.evDat hEv
  obtain ⟨hk1v, hk2v, hlpv, hldv, hltv⟩ := Ro.evOk hEv
  have hCv := Ro.one1 hDv
  obtain ⟨aD, cD, hx2⟩ := Ro.slv hDv
  rw [hx2] at hRv hCv
  refine go [13,8,9,15] ?_
  refine G.drawT (nn := 23) (p := []) (rem := 8388607) [0, 0, 0, 6, 8, 16, 32, 65, 0, 0, 768, 1024, 2048, 4096, 8320, 0, 0, 98304, 131072, 262144, 524288, 1064960, 4194303] [0, 0, 0, 6, 8, 16, 32, 65, 0, 0, 768, 1024, 2048, 4096, 8320, 0, 0, 98304, 131072, 262144, 524288, 1064960, 2097153] kr ⟨rfl, by kernel_rfl, by kernel_rfl⟩ subT kr (fun hT5 => ?_)
  refine go [22,0,8388606,0,22,1,8388604,0,22,2,8388600,0,22,3,8388592,20,5,22,4,8388576,3,0,22,8,8388320,0,22,9,8387808,0,22,10,8386784,20,5,22,11,8384736,3,3,22,15,8351968,0,22,16,8286432,0,22,17,8155360,20,5,22,18,7893216,3,4,22,5,7893184,4,22,6,7893120,21,22,7,7892992,6,22,12,7888896,4,22,13,7880704,5,22,14,7864320,6,24,19,7340032,25,4,26,22,20,6291456,21,22,21,4194304,6,22,22,0,1,27,16,8,10,0,2,6,1,7] ?_
  exact G.next (i + 1) (by first | exact trivial | ((try dsimp only) <;> exact ⟨by omega, by omega, by rw [hsz]; omega⟩)) (by (try dsimp only); omega) (.consE rfl veqT (.consE rfl veqT (.cons rfl (.cons rfl (.cons rfl (.cons rfl .nil)))))) subT
 have hmost : ¬ k < xs.length → (ens xs).take i = ens xs := fun h => List.take_of_length_le (by omega)
 refine go [18,14,14,19,8,9,10,0,2,5,0,2,10,0] ?_
 refine G.partP (t := 46) rfl (fun h46 => ?_) (fun h46 => ?_)
 ·refine go [4,4,4,2,2,1,7,8,11] ?_
  exact G.done0G rfl (Rv.tmp rfl Rv.nil) (by rw [decide_eq_true (show bigM (ens xs) k r from .inl (by omega))]; rfl)
 refine go [3,0,3,0,3,10,2,2,1,7,8,11] ?_
 exact G.done0G rfl (Rv.tmp rfl Rv.nil) (by rw [hmost (by omega)]; exact dec_e (by unfold bigM; omega))
set_option maxHeartbeats 4000000 in
theorem sameTree_tr {Ps Pu : Nat → Prop} (v u : Value) (xs ys : List ET) : Tr Tryz.prog 31 #[v, u] [slc rEV Ps v xs, slc rEV Pu u ys] [] (T0 (.bool (decide (ens xs = ens ys)))) := by
 refine Tr.of (l := [(0, v), (1, u)]) Tryz.func31 rfl (n := 81) rfl (.cons rfl (.cons rfl .nil)) (fun w0 hro => ?_)
 obtain ⟨hv0, hu0⟩ := ro2 hro
 have hv := hv0
 have hv' := hv
 obtain ⟨av, cv, bv, fv, rfl, hcapv, hmaxv, hnilv, hadv, helv⟩ := Ro.openT hv
 have hu := hu0
 have hu' := hu
 obtain ⟨au, cu, bu, fu, rfl, hcapu, hmaxu, hnilu, hadu, helu⟩ := Ro.openT hu
 refine go [9,10,1,7,8,9,9,10,0,2,5,0,2,5,2,14,7,8] ?_
 refine G.condP rfl (fun h10 => ?_) (fun h10 => ?_)
 ·refine go [9,10,1,7,8,11,12] ?_
  exact G.done0G rfl (Rv.tmp rfl Rv.nil) (by rw [decide_eq_false (ens_len_ne (by omega))]; rfl)
 have hxy : xs.length = ys.length := by omega
 refine go [13,8,9,9,10,1,7,8,15] ?_
 refine G.loopK (X := Nat) (ts := [0, 1]) (fun i => i ≤ xs.length ∧ (∀ q (hq : q < xs.length), q < i → xs[q].1 = (ys[q]'(by omega)).1)) (fun i => [(5, .int .i64 (i : Int))]) (fun i => []) (fun i => xs.length - i) (x0 := 0) (.cons rfl (.cons rfl .nil)) subT (.cons .nil) apT Y57 (.consE rfl veqT .nil) (fun i hJ => ?_)
 try dsimp only at hJ
 try dsimp only
 obtain ⟨hki, hJ⟩ := hJ
 refine go [9,9,10,0,0,2,5,2,9,7,8] ?_
 refine G.condP rfl (fun h14 => ?_) (fun h14 => ?_)
 ·have hJ0 := hJ
  have hlt : i < xs.length := by omega
  have hlu : i < ys.length := by omega
  have hEv := helv i hlt
  have hRv := Ro.evRng hEv
  have hDv := Ro.evDat hEv
  obtain ⟨hk1v, hk2v, hlpv, hldv, hltv⟩ := Ro.evOk hEv
  have hCv := Ro.one1 hDv
  have hEu := helu i hlu
  have hRu := Ro.evRng hEu
  have hDu := Ro.evDat hEu
  obtain ⟨hk1u, hk2u, hlpu, hldu, hltu⟩ := Ro.evOk hEu
  have hCu := Ro.one1 hDu
  have he := en_eq (a := xs[i].1) (b := ys[i].1)
  refine go [13,8,9,15,9] ?_
  refine G.cutK (X := Unit) (ts := [0, 1, 5]) (p := []) (fun _ => True) (fun _ => [(80, .bool (decide (xs[i].1 ≠ ys[i].1)))]) (fun _ => []) (.cons rfl (.cons rfl (.cons rfl .nil))) subT (.cons .nil) apT ?_ ?_
  ·refine G.drawT (nn := 64) (p := []) (rem := 18446744073709551615) [0, 0, 3, 4, 8, 0, 0, 96, 128, 256, 528, 1024, 2048, 2048, 14336, 18432, 34816, 2048, 2048, 395264, 526336, 1050624, 2164736, 4196352, 8390656, 16777216, 16777216, 117440512, 150994944, 285212672, 16777216, 16777216, 3238002688, 4311744512, 8606711808, 17733517312, 34376515584, 68736253952, 137438953472, 137438953472, 962072674304, 1236950581248, 2336462209024, 137438953472, 137438953472, 26525718020096, 35321811042304, 70506183131136, 145272973819904, 281612415664128, 563087392374784, 1407374883553280, 2251799813685248, 2251799813685248, 15762598695796736, 20266198323167232, 38280596832649216, 2251799813685248, 2251799813685248, 434597364041252864, 578712552117108736, 1155173304420532224, 2380152403065307136, 4613937818241073152] [0, 0, 3, 4, 8, 0, 0, 96, 128, 256, 528, 1024, 2048, 2048, 14336, 18432, 34816, 2048, 2048, 395264, 526336, 1050624, 2164736, 4196352, 8388608, 16777216, 16777216, 117440512, 150994944, 285212672, 16777216, 16777216, 3238002688, 4311744512, 8606711808, 17733517312, 34376515584, 68719476736, 137438953472, 137438953472, 962072674304, 1236950581248, 2336462209024, 137438953472, 137438953472, 26525718020096, 35321811042304, 70506183131136, 145272973819904, 281612415664128, 563087392374784, 1125899906842624, 2251799813685248, 2251799813685248, 15762598695796736, 20266198323167232, 38280596832649216, 2251799813685248, 2251799813685248, 434597364041252864, 578712552117108736, 1155173304420532224, 2380152403065307136, 4613937818241073152] kr ⟨rfl, by kernel_rfl, by kernel_rfl⟩ subT kr (fun hT6 => ?_)
   refine go [22,0,18446744073709551614,0,22,1,18446744073709551612,0,22,2,18446744073709551608,20,5,22,3,18446744073709551600,3,0,22,5,18446744073709551568,0,22,6,18446744073709551504,0,22,7,18446744073709551376,20,5,22,8,18446744073709551120,3,0,22,4,18446744073709551104,4,24,9,18446744073709550592,25,4,26,22,10,18446744073709549568,23,22,11,18446744073709547520,0] ?_
   refine G.partP (t := 28) rfl (fun h28 => ?_) (fun h28 => ?_)
   ·refine go [23,12,18446744073709543424,23,13,18446744073709535232,23,14,18446744073709518848,23,15,18446744073709486080,23,16,18446744073709420544,23,17,18446744073709289472,23,18,18446744073709027328,23,19,18446744073708503040,23,20,18446744073707454464,23,21,18446744073705357312,23,22,18446744073701163008,22,23,18446744073692774400,2,22,24,18446744073675997184,0,23,25,18446744073642442752,23,26,18446744073575333888,23,27,18446744073441116160,23,28,18446744073172680704,23,29,18446744072635809792,23,30,18446744071562067968,23,31,18446744069414584320,23,32,18446744065119617024,23,33,18446744056529682432,23,34,18446744039349813248,23,35,18446744004990074880,22,36,18446743936270598144,2,22,37,18446743798831644672,0,23,38,18446743523953737728,23,39,18446742974197923840,23,40,18446741874686296064,23,41,18446739675663040512,23,42,18446735277616529408,23,43,18446726481523507200,23,44,18446708889337462784,23,45,18446673704965373952,23,46,18446603336221196288,23,47,18446462598732840960,23,48,18446181123756130304,23,49,18445618173802708992,22,50,18444492273895866368,2,22,51,18442240474082181120,0,23,52,18437736874454810624,23,53,18428729675200069632,23,54,18410715276690587648,23,55,18374686479671623680,23,56,18302628885633695744,23,57,18158513697557839872,23,58,17870283321406128128,23,59,17293822569102704640,23,60,16140901064495857664,23,61,13835058055282163712,23,62,9223372036854775808,22,63,0,2,27] ?_
    exact G.meet (()) trT (.consE rfl Y28 (.cons rfl (.cons rfl (.cons rfl .nil)))) subT
   refine go [22,12,18446744073709543424,0,22,13,18446744073709535232,0,22,14,18446744073709518848,20,5,22,15,18446744073709486080,3,1,22,16,18446744073709420544,4,22,17,18446744073709289472,0,22,18,18446744073709027328,0,22,19,18446744073708503040,20,5,22,20,18446744073707454464,3,1,24,21,18446744073705357312,25,4,26,22,22,18446744073701163008,14,22,23,18446744073692774400,2,22,24,18446744073675997184,0] ?_
   refine G.partP (t := 41) rfl (fun h41 => ?_) (fun h41 => ?_)
   ·refine go [23,25,18446744073642442752,23,26,18446744073575333888,23,27,18446744073441116160,23,28,18446744073172680704,23,29,18446744072635809792,23,30,18446744071562067968,23,31,18446744069414584320,23,32,18446744065119617024,23,33,18446744056529682432,23,34,18446744039349813248,23,35,18446744004990074880,22,36,18446743936270598144,2,22,37,18446743798831644672,0,23,38,18446743523953737728,23,39,18446742974197923840,23,40,18446741874686296064,23,41,18446739675663040512,23,42,18446735277616529408,23,43,18446726481523507200,23,44,18446708889337462784,23,45,18446673704965373952,23,46,18446603336221196288,23,47,18446462598732840960,23,48,18446181123756130304,23,49,18445618173802708992,22,50,18444492273895866368,2,22,51,18442240474082181120,0,23,52,18437736874454810624,23,53,18428729675200069632,23,54,18410715276690587648,23,55,18374686479671623680,23,56,18302628885633695744,23,57,18158513697557839872,23,58,17870283321406128128,23,59,17293822569102704640,23,60,16140901064495857664,23,61,13835058055282163712,23,62,9223372036854775808,22,63,0,2,27] ?_
    exact G.meet (()) trT (.consE rfl Y28 (.cons rfl (.cons rfl (.cons rfl .nil)))) subT
   refine go [22,25,18446744073642442752,0,22,26,18446744073575333888,0,22,27,18446744073441116160,20,5,22,28,18446744073172680704,3,2,22,29,18446744072635809792,4,22,30,18446744071562067968,0,22,31,18446744069414584320,0,22,32,18446744065119617024,20,5,22,33,18446744056529682432,3,2,24,34,18446744039349813248,25,4,26,22,35,18446744004990074880,14,22,36,18446743936270598144,2,22,37,18446743798831644672,0] ?_
   refine G.partP (t := 54) rfl (fun h54 => ?_) (fun h54 => ?_)
   ·refine go [23,38,18446743523953737728,23,39,18446742974197923840,23,40,18446741874686296064,23,41,18446739675663040512,23,42,18446735277616529408,23,43,18446726481523507200,23,44,18446708889337462784,23,45,18446673704965373952,23,46,18446603336221196288,23,47,18446462598732840960,23,48,18446181123756130304,23,49,18445618173802708992,22,50,18444492273895866368,2,22,51,18442240474082181120,0,23,52,18437736874454810624,23,53,18428729675200069632,23,54,18410715276690587648,23,55,18374686479671623680,23,56,18302628885633695744,23,57,18158513697557839872,23,58,17870283321406128128,23,59,17293822569102704640,23,60,16140901064495857664,23,61,13835058055282163712,23,62,9223372036854775808,22,63,0,2,27] ?_
    exact G.meet (()) trT (.consE rfl Y28 (.cons rfl (.cons rfl (.cons rfl .nil)))) subT
   refine go [22,38,18446743523953737728,0,22,39,18446742974197923840,0,22,40,18446741874686296064,20,5,22,41,18446739675663040512,3,3,22,42,18446735277616529408,4,22,43,18446726481523507200,0,22,44,18446708889337462784,0,22,45,18446673704965373952,20,5,22,46,18446603336221196288,3,3,24,47,18446462598732840960,25,4,26,24,48,18446181123756130304] ?_
   refine G.turnOp rfl rfl (G.cR rfl rfl rfl rfl Tryz.func24 rfl rfl (may2 Y2 Y2) (same_tr _ _ _ _) ?_)
   refine go [26,22,49,18445618173802708992,15,22,50,18444492273895866368,2,22,51,18442240474082181120,0] ?_
   refine G.partP (t := 68) rfl (fun h68 => ?_) (fun h68 => ?_)
   ·refine go [23,52,18437736874454810624,23,53,18428729675200069632,23,54,18410715276690587648,23,55,18374686479671623680,23,56,18302628885633695744,23,57,18158513697557839872,23,58,17870283321406128128,23,59,17293822569102704640,23,60,16140901064495857664,23,61,13835058055282163712,23,62,9223372036854775808,22,63,0,2,27] ?_
    exact G.meet (()) trT (.consE rfl Y28 (.cons rfl (.cons rfl (.cons rfl .nil)))) subT
   refine go [22,52,18437736874454810624,0,22,53,18428729675200069632,0,22,54,18410715276690587648,20,5,22,55,18374686479671623680,3,4,22,56,18302628885633695744,4,22,57,18158513697557839872,0,22,58,17870283321406128128,0,22,59,17293822569102704640,20,5,22,60,16140901064495857664,3,4,24,61,13835058055282163712,25,4,26,22,62,9223372036854775808,23,22,63,0,2,27] ?_
   exact G.meet (()) trT (.consE rfl Y28 (.cons rfl (.cons rfl (.cons rfl .nil)))) subT
  intro _ hJ
  try dsimp only at hJ
  try dsimp only
  refine G.condP rfl (fun h80 => ?_) (fun h80 => ?_)
  ·have hne : xs[i].1 ≠ ys[i].1 := by assumption
   refine go [9,10,1,7,8,11,17,12,12,17,12] ?_
   exact G.done0G rfl (Rv.tmp rfl Rv.nil) (by rw [decide_eq_false (ens_ne hlt hlu hne)]; rfl)
  have heq : xs[i].1 = ys[i].1 := Decidable.of_not_not (by assumption)
  refine go [13,16,8,10,0,2,6,1,7] ?_
  exact G.next (i + 1) (by first | exact trivial | ((try dsimp only) <;> exact ⟨by omega, fun q hq hqi => by rcases Nat.lt_or_ge q i with h1 | h1; exact hJ0 q hq h1; obtain rfl : q = i := (by omega); exact heq⟩)) (by (try dsimp only); omega) (.consE rfl veqT (.cons rfl (.cons rfl .nil))) subT
 refine go [18,14,14,19,8,9,10,1,7,8,11] ?_
 exact G.done0G rfl (Rv.tmp rfl Rv.nil) (by rw [decide_eq_true (ens_eq (by omega) (fun q hq => hJ q hq (by omega)))]; rfl)
theorem flat_dat {xs : List ET} {sp : List Value} {i : Nat} (h : i < xs.length) : (flatT xs ++ sp)[0 + i * 5 + 3]? = some xs[i].2 := flat_at h 3 (by omega)
theorem flat_len {xs : List ET} {sp : List Value} {i j : Nat} (h : i < xs.length) (hj : j < 5) : 0 + i * 5 + j < (flatT xs ++ sp).length := by
 rw [List.length_append, flatT_length]
 omega
theorem flat_put {ws : List ET} {sp : List Value} {i : Nat} (h : i < ws.length) (x : ET) : putN (flatT ws ++ sp) (0 + i * 5) (evC x) = flatT (ws.set i x) ++ sp := by
 have hl : (flatT (ws.set i x)).length = ws.length * 5 := by rw [flatT_length, List.length_set]
 have hl2 : (flatT ws).length = ws.length * 5 := flatT_length ws
 apply List.ext_getElem?
 intro j
 rw [putN_get _ _ _ _ (by rw [evC_length, List.length_append, hl2]; omega), evC_length]
 rcases Nat.lt_or_ge j (ws.length * 5) with hj | hj
 ·obtain ⟨q, r, rfl, hr, hq⟩ : ∃ q r, j = q * 5 + r ∧ r < 5 ∧ q < ws.length := ⟨j / 5, j % 5, by omega, by omega, by omega⟩
  rw [List.getElem?_append_left (by rw [hl2]; omega), flatT_get hq hr, List.getElem?_append_left (by rw [hl]; omega), flatT_get (by rw [List.length_set]; exact hq) hr]
  by_cases hiq : i = q
  ·subst hiq
   rw [List.getElem_set_self, if_pos ⟨by omega, by omega⟩, show i * 5 + r - (0 + i * 5) = r by omega]
  rw [List.getElem_set_ne hiq, if_neg (by omega)]
 rw [if_neg (by omega), List.getElem?_append_right (by rw [hl2]; omega), List.getElem?_append_right (by rw [hl]; omega), hl, hl2]
theorem take_set_succ {α : Type} {zs : List α} {i : Nat} (h : i < zs.length) (x : α) : (zs.set i x).take (i + 1) = zs.take i ++ [x] := by
 rw [List.take_succ_eq_append_getElem (by rw [List.length_set]; exact h), List.getElem_set_self, List.take_set_of_le (Nat.le_refl _)]
theorem ens_set {xs : List ET} {i : Nat} (h : i < xs.length) (d : Value) : ens (xs.set i (xs[i].1, d)) = ens xs := by
 unfold ens
 rw [List.map_set]
 apply List.ext_getElem?
 intro j
 by_cases hj : i = j
 ·subst hj
  rw [List.getElem?_set_self (by rw [List.length_map]; exact h)]
  simp [h]
 rw [List.getElem?_set_ne hj]
theorem len_ens {xs ys : List ET} (h : ens xs = ens ys) : xs.length = ys.length := by
 have := congrArg List.length h
 rwa [ens_length, ens_length] at this
section
variable {P : Program} {n : Nat} {w0 : World} {S : Nat → Prop} {l : Fr} {m : List Ck} {Q : Exit → Act → World → Prop} {K : Act → World → Prop}
theorem Ro.allDat {b o : Nat} {Ps : Nat → Prop} {xs : List ET} (hel : ∀ i (hi : i < xs.length), Ro w0 S (elc rEV Ps b (o + i * 5) xs[i])) : ∀ x ∈ xs, Ro w0 S (slc rByte Ps x.2 x.1.data) := fun x hx => by
 obtain ⟨i, hi, rfl⟩ := List.getElem_of_mem hx
 exact Ro.evDat (hel i hi)
theorem newsT {b o : Nat} {Ps : Nat → Prop} {xs : List ET} (hel : ∀ i (hi : i < xs.length), Ro w0 S (elc rEV Ps b (o + i * 5) xs[i])) : ∀ w, Hp w0 S w m → News w b o (flatT xs) := fun w hw j u hj => by
 have hl : j < xs.length * 5 := by
  have := (List.getElem?_eq_some_iff.1 hj).1
  rwa [flatT_length] at this
 obtain ⟨q, r, rfl, hr, hq⟩ : ∃ q r, j = q * 5 + r ∧ r < 5 ∧ q < xs.length := ⟨j / 5, j % 5, by omega, by omega, by omega⟩
 rw [flatT_get hq hr] at hj
 have h2 := ((hel q hq).at hw : rEV.R Ps w b (o + q * 5) xs[q]).2.1 r u hj
 rwa [Nat.add_assoc] at h2
theorem flatT_one' {xs : List ET} (h : ∀ x ∈ xs, x.2.oneCell' = true) : ∀ u ∈ flatT xs, u.oneCell' = true := fun u hu => by
 obtain ⟨x, hx, hu⟩ := List.mem_flatMap.1 hu
 simp only [evC, List.mem_cons, List.not_mem_nil, or_false] at hu
 rcases hu with rfl | rfl | rfl | rfl | rfl
 ·rfl
 ·rfl
 ·rfl
 ·exact h x hx
 rfl
theorem Ro.allOne {b o : Nat} {Ps : Nat → Prop} {xs : List ET} (hel : ∀ i (hi : i < xs.length), Ro w0 S (elc rEV Ps b (o + i * 5) xs[i])) : ∀ u ∈ flatT xs, u.oneCell' = true := flatT_one' fun x hx => by
 obtain ⟨ad, cap, e⟩ := Ro.slv (Ro.allDat hel x hx)
 rw [e]
 rfl
theorem G.datNil (e : TypeId) (h : G n w0 S l (datC e [] :: m) K) : G n w0 S l m K := G.mem (fun w hw => Hp.star (m := []) hw) h
theorem G.datSnoc {e : TypeId} {ys : List ET} {x : ET} {r r' : List Ck} (h1 : Sel m (datC e ys) r) (h2 : Sel r (ownB e x.2 x.1.data) r') (h : G n w0 S l (datC e (ys ++ [x]) :: r') K) : G n w0 S l m K := G.mem (fun w hw => by
 have h3 := Hp.unstar (hw.sel h1)
 have p : (ys.map (fun x : ET => ownB e x.2 x.1.data) ++ r).Perm (((ys ++ [x]).map fun x : ET => ownB e x.2 x.1.data) ++ r') := by
  rw [List.map_append, List.append_assoc]
  exact List.Perm.append_left _ h2.perm
 exact Hp.star (h3.perm p)) h
end
theorem Tryz.infoEn' : (Tryz.prog.info? 102).map (fun i => (i.zero.map (·.cells.size), i.size, i.bytes)) = some (some 5, 5, 72) := by kernel_rfl
set_option maxHeartbeats 4000000 in
theorem copyT_tr {Ps : Nat → Prop} (v : Value) (xs : List ET) (hn : xs.length ≤ 1000) : Tr Tryz.prog 29 #[v] [slc rEV Ps v xs] [] (TX (fun z : Value × List ET => ens z.2 = ens xs) (fun z => z.1) (fun z => [ownT 102 z.1 z.2, datC 5 z.2])) := by
 refine Tr.of (l := [(0, v)]) Tryz.func29 rfl (n := 25) rfl (.cons rfl .nil) (fun w0 hro => ?_)
 have hv := ro1 hro
 have hv' := hv
 obtain ⟨av, cv, bv, fv, rfl, hcapv, hmaxv, hnilv, hadv, helv⟩ := Ro.openT hv
 refine go [9,10,1,7,8,9,10] ?_
 refine G.op rfl (G.lit0 rfl Tryz.underlying35 kr rfl ?_)
 intro b5
 refine G.ownBlk (b := b5) (k := 0) (sz := 5) selT rfl (by omega) ?_
 refine go [0] ?_
 refine G.op rfl (G.append (k := 0) (j := xs.length) (cs := []) (news := flatT xs) (b := bv) (off := fv) rfl Tryz.underlying35 Tryz.infoEn' rfl rfl rfl selT hadv hnilv (flatT_length xs) (newsT helv) (Ro.allOne helv) (by omega) (by omega) ?_)
 intro v3
 rw [List.nil_append, Nat.zero_add xs.length]
 refine G.ownOpen (v := v3) selT (fun a3 c3 h3 hk3 hm3 => ?_)
 subst h3
 refine go [1,7,8,9,9,10,1,7,8,15] ?_
 refine G.datNil 5 ?_
 refine G.loopK (X := Nat × (List ET)) (ts := [2, 3]) (fun st => st.1 ≤ xs.length ∧ (ens st.2 = ens xs ∧ ∀ q (hq : q < st.2.length) (hx : q < xs.length), st.1 ≤ q → st.2[q] = xs[q])) (fun st => [(4, .int .i64 (st.1 : Int))]) (fun st => [ownT 102 (.slice a3 xs.length c3) st.2, datC 5 (st.2.take st.1)]) (fun st => xs.length - st.1) (x0 := (0, xs)) (.cons rfl (.cons rfl .nil)) subT (.cons .nil) apT (by first | exact trivial | ((try dsimp only) <;> exact ⟨Nat.zero_le _, ⟨rfl, fun q _ _ _ => rfl⟩⟩)) (.consE rfl veqT .nil) (fun st hJ => ?_)
 obtain ⟨i, zs⟩ := st
 try dsimp only at hJ
 try dsimp only
 obtain ⟨hki, hJ⟩ := hJ
 obtain ⟨hez, hsame⟩ := hJ
 have hlz := len_ens hez
 refine go [9,9,10,0,0,2,5,2,9,7,8] ?_
 refine G.condP rfl (fun h11 => ?_) (fun h11 => ?_)
 ·have hlt : i < xs.length := by omega
  have hlt' : i < zs.length := by omega
  have hzx : zs[i] = xs[i] := hsame i hlt' hlt (Nat.le_refl _)
  have hEv := helv i hlt
  have hRv := Ro.evRng hEv
  have hDv := Ro.evDat hEv
  obtain ⟨hk1v, hk2v, hlpv, hldv, hltv⟩ := Ro.evOk hEv
  have hCv := Ro.one1 hDv
  refine go [13,8,9,15,10] ?_
  rw [show ownT 102 (.slice a3 xs.length c3) zs = own 102 5 (.slice a3 xs.length c3) zs.length (flatT zs) from rfl]
  refine G.ownTo selT (by omega) (fun g cap sp hvv hkc hmx hl hlen => ?_)
  injection hvv with e1 e2 e3
  subst e1
  subst e3
  refine go [0,0,0,0] ?_
  refine G.op rfl (G.val rfl rfl (pv_ixSl (sz := 5) (k := i) Tryz.underlying35 kr rfl rfl (fun _ => rfl) (by omega) (by omega)) ?_)
  refine go [2,3,3] ?_
  refine G.op rfl (G.val rfl rfl (pv_load (v := xs[i].2) Tryz.underlying31 rfl rfl (blk_cell selD (by rw [← hzx]; exact flat_dat hlt'))) ?_)
  refine G.op rfl (G.cS rfl rfl rfl rfl Tryz.func58 rfl rfl subT (may1 Y2) (copyB_tr _ _ (by omega)) apT ?_)
  intro x21 hJ
  try dsimp only at hJ
  try dsimp only
  refine G.ownBFact selT (v := x21) (fun hv21 => ?_)
  refine G.op rfl (G.val rfl rfl (pv_ixSl (sz := 5) (k := i) Tryz.underlying35 kr rfl rfl (fun _ => rfl) (by omega) (by omega)) ?_)
  refine go [2,3,3] ?_
  refine G.op rfl (G.store kr rfl rfl (by assumption) selT (flat_len hlt' (by omega)) ?_)
  rw [flat_set hlt']
  refine go [7,16,8,10,0,2,6,1,7] ?_
  refine G.ownOf (sz := 5) (k := xs.length) (cs := flatT (zs.set i (zs[i].1, x21))) (sp := sp) selT (by rw [flatT_length, List.length_set, hlz]) (by omega) hmx (by rw [List.length_append, flatT_length, List.length_set]; rw [List.length_append, flatT_length] at hl; exact hl) ?_
  have hzt : zs.take i ++ [(zs[i].1, x21)] = (zs.set i (zs[i].1, x21)).take (i + 1) := (take_set_succ hlt' _).symm
  refine G.datSnoc (ys := zs.take i) (x := (zs[i].1, x21)) selT (by rw [show (zs[i].1, x21).1.data = xs[i].1.data from by rw [hzx]]; repeat (first | with_reducible exact Sel.here | exact Sel.here | apply Sel.there)) ?_
  rw [hzt]
  exact G.next ((i + 1, zs.set i (zs[i].1, x21))) (by first | exact trivial | ((try dsimp only) <;> exact ⟨by omega, ⟨by rw [ens_set hlt', hez], fun q hq hx hiq => by rw [List.getElem_set_ne (by omega)]; exact hsame q (by rw [List.length_set] at hq; exact hq) hx (by omega)⟩⟩)) (by (try dsimp only); omega) (.consE rfl veqT (.cons rfl (.cons rfl .nil))) (by show Sub _ [own 102 5 _ (zs.set i (zs[i].1, x21)).length (flatT _), _] _; rw [List.length_set, hlz]; repeat (first | exact Sub.nil | (apply Sub.cons; (repeat (first | with_reducible exact Sel.here | exact Sel.here | apply Sel.there)))))
 refine go [18,14,14,19,8,9,10,0,1,7,8,11] ?_
 obtain rfl : i = xs.length := by omega
 rw [show zs.take xs.length = zs from List.take_of_length_le (by omega)]
 exact G.doneX1 ((.slice a3 xs.length c3, zs)) (by first | exact trivial | ((try dsimp only) <;> exact hez)) rfl rfl rfl subT
structure KeyF (P : Program) (k : TypeId) {κ : Type} (f : κ → Value) (ok : κ → Prop) : Prop where
 keyed : Go.Maps.Keyed P k
 is : ∀ x, ok x → ∃ l, keyOf P k (f x) = some l
 inj : ∀ x y, f x = f y → x = y
section
variable {κ : Type} [DecidableEq κ]
def mget : List (κ × Value) → κ → Option Value
 | [], _ => none
 | (a, v) :: l, k => if a = k then some v else mget l k
def mset : List (κ × Value) → κ → Value → List (κ × Value)
 | [], k, v => [(k, v)]
 | (a, u) :: l, k, v => if a = k then (k, v) :: l else (a, u) :: mset l k v
theorem mget_mset (l : List (κ × Value)) (k : κ) (v : Value) (j : κ) : mget (mset l k v) j = if k = j then some v else mget l j := by
 induction l with
 | nil => simp [mset, mget]
 | cons p l ih =>
  obtain ⟨a, u⟩ := p
  unfold mset
  by_cases h : a = k
  ·rw [if_pos h]
   subst h
   by_cases h2 : a = j <;> simp [mget, h2]
  rw [if_neg h]
  by_cases h2 : a = j
  ·subst h2
   simp [mget, Ne.symm h, (show ¬ k = a from fun e => h e.symm)]
  simp [mget, h2, ih]
theorem mget_none {l : List (κ × Value)} {k : κ} (h : ∀ p ∈ l, p.1 ≠ k) : mget l k = none := by
 induction l with
 | nil => rfl
 | cons p l ih =>
  obtain ⟨a, u⟩ := p
  have := h (a, u) (List.mem_cons_self ..)
  simp [mget, this, ih fun q hq => h q (List.mem_cons_of_mem _ hq)]
theorem mget_at {l : List (κ × Value)} (hn : (l.map (·.1)).Nodup) {j : Nat} {k : κ} {v : Value} (h : l[j]? = some (k, v)) : mget l k = some v := by
 induction l generalizing j with
 | nil => simp at h
 | cons p l ih =>
  obtain ⟨a, u⟩ := p
  rw [List.map_cons, List.nodup_cons] at hn
  cases j with
  | zero =>
   rw [List.getElem?_cons_zero] at h
   injection h with h
   injection h with h1 h2
   subst h1 h2
   simp [mget]
  | succ j =>
   rw [List.getElem?_cons_succ] at h
   have hm : k ∈ l.map (·.1) := List.mem_map.2 ⟨_, List.mem_of_getElem? h, rfl⟩
   have : ¬ a = k := fun e => hn.1 (e ▸ hm)
   simp [mget, this, ih hn.2 h]
theorem mset_new {l : List (κ × Value)} {k : κ} {v : Value} (h : ∀ p ∈ l, p.1 ≠ k) : mset l k v = l ++ [(k, v)] := by
 induction l with
 | nil => rfl
 | cons p l ih =>
  obtain ⟨a, u⟩ := p
  have := h (a, u) (List.mem_cons_self ..)
  simp [mset, this, ih fun q hq => h q (List.mem_cons_of_mem _ hq)]
theorem mset_at {l : List (κ × Value)} (hn : (l.map (·.1)).Nodup) {j : Nat} {k : κ} {u v : Value} (h : l[j]? = some (k, u)) : mset l k v = l.set j (k, v) := by
 induction l generalizing j with
 | nil => simp at h
 | cons p l ih =>
  obtain ⟨a, w⟩ := p
  rw [List.map_cons, List.nodup_cons] at hn
  cases j with
  | zero =>
   rw [List.getElem?_cons_zero] at h
   injection h with h
   injection h with h1 h2
   subst h1
   simp [mset]
  | succ j =>
   rw [List.getElem?_cons_succ] at h
   have hm : k ∈ l.map (·.1) := List.mem_map.2 ⟨_, List.mem_of_getElem? h, rfl⟩
   have : ¬ a = k := fun e => hn.1 (e ▸ hm)
   simp [mset, this, ih hn.2 h]
theorem mset_keys (l : List (κ × Value)) (k : κ) (v : Value) : (mset l k v).map (·.1) = if k ∈ l.map (·.1) then l.map (·.1) else l.map (·.1) ++ [k] := by
 induction l with
 | nil => simp [mset]
 | cons p l ih =>
  obtain ⟨a, u⟩ := p
  unfold mset
  by_cases h : a = k
  ·subst h
   simp
  rw [if_neg h, List.map_cons, ih]
  by_cases h2 : k ∈ l.map (·.1)
  ·simp [h2]
  simp only [List.map_cons, List.mem_cons, if_neg h2]
  rw [if_neg (fun e => e.elim (fun e => h e.symm) h2)]
  rfl
theorem mset_nodup {l : List (κ × Value)} (hn : (l.map (·.1)).Nodup) (k : κ) (v : Value) : ((mset l k v).map (·.1)).Nodup := by
 rw [mset_keys]
 split
 ·exact hn
 rename_i h
 exact List.nodup_append.2 ⟨hn, by simp, fun a ha b hb => by
  obtain rfl : b = k := by simpa using hb
  exact fun e => h (e ▸ ha)⟩
theorem mset_ok {ok : κ → Prop} {l : List (κ × Value)} (h : ∀ p ∈ l, ok p.1) {k : κ} (hk : ok k) (v : Value) : ∀ p ∈ mset l k v, ok p.1 := fun p hp => by
 have : p.1 ∈ (mset l k v).map (·.1) := List.mem_map.2 ⟨p, hp, rfl⟩
 rw [mset_keys] at this
 split at this
 ·obtain ⟨q, hq, e⟩ := List.mem_map.1 this
  rw [← e]
  exact h q hq
 rcases List.mem_append.1 this with h1 | h1
 ·obtain ⟨q, hq, e⟩ := List.mem_map.1 h1
  rw [← e]
  exact h q hq
 obtain rfl : p.1 = k := by simpa using h1
 exact hk
end
structure MapIs {κ : Type} (f : κ → Value) (ok : κ → Prop) (es : Array MapEntry) (l : List (κ × Value)) : Prop where
 eq : es.toList.map (fun e => (e.key, e.val)) = l.map fun p => (f p.1, p.2)
 nodup : (l.map (·.1)).Nodup
 ok : ∀ p ∈ l, ok p.1
def mpc {κ : Type} (f : κ → Value) (ok : κ → Prop) (b : Nat) (l : List (κ × Value)) : Ck := ⟨(· = b), fun w => ∃ es clock, w.heap[b]? = some (.map es clock) ∧ MapIs f ok es l ∧ Go.MapKept.Stamped es clock, fun w w' h ⟨es, c, h1, h2⟩ => ⟨es, c, (h b rfl).trans h1, h2⟩⟩
section
variable {κ : Type} {f : κ → Value} {ok : κ → Prop} {es : Array MapEntry} {l : List (κ × Value)} {P : Program} {k : TypeId}
theorem MapIs.get (h : MapIs f ok es l) {j : Nat} {e : MapEntry} (he : es[j]? = some e) : ∃ x, l[j]? = some (x, e.val) ∧ f x = e.key := by
 have h1 : (es.toList.map (fun e => (e.key, e.val)))[j]? = some (e.key, e.val) := by rw [List.getElem?_map, Array.getElem?_toList, he]; rfl
 rw [h.eq, List.getElem?_map] at h1
 obtain ⟨p, hp, e2⟩ := Option.map_eq_some_iff.1 h1
 injection e2 with e3 e4
 exact ⟨p.1, by rw [hp, ← e4], e3⟩
theorem MapIs.mem (h : MapIs f ok es l) {e : MapEntry} (he : e ∈ es.toList) : ∃ x, (x, e.val) ∈ l ∧ f x = e.key := by
 obtain ⟨j, hj⟩ := List.getElem?_of_mem he
 obtain ⟨x, h1, h2⟩ := h.get (j := j) (by rw [← Array.getElem?_toList]; exact hj)
 exact ⟨x, List.mem_of_getElem? h1, h2⟩
theorem MapIs.back (h : MapIs f ok es l) {p : κ × Value} (hp : p ∈ l) : ∃ e ∈ es.toList, f p.1 = e.key ∧ p.2 = e.val := by
 have : (f p.1, p.2) ∈ l.map fun p => (f p.1, p.2) := List.mem_map.2 ⟨p, hp, rfl⟩
 rw [← h.eq] at this
 obtain ⟨e, he, e1⟩ := List.mem_map.1 this
 injection e1 with e2 e3
 exact ⟨e, he, e2.symm, e3.symm⟩
theorem MapIs.nil : MapIs f ok #[] [] := ⟨rfl, by simp, by simp⟩
theorem MapIs.find (K : KeyF P k f ok) (h : MapIs f ok es l) {x : κ} (hx : ok x) (w : World) :
 ((Instr.findKey k (f x) es.toList).run P w = .ok none w ∧ (∀ p ∈ l, p.1 ≠ x)) ∨ ∃ j e, (Instr.findKey k (f x) es.toList).run P w = .ok (some (j, e.val)) w ∧ es[j]? = some e ∧ e.key = f x ∧ l[j]? = some (x, e.val) := by
 obtain ⟨lx, hlx⟩ := K.is x hx
 rcases K.keyed.find w hlx es.toList (fun e he => by
  obtain ⟨y, hy, e1⟩ := h.mem he
  rw [← e1]
  exact K.is y (h.ok _ hy)) with ⟨h1, h2⟩ | ⟨j, e, h1, h2, h3⟩
 ·exact .inl ⟨h1, fun p hp e1 => by
   obtain ⟨e, he, e2, _⟩ := h.back hp
   exact h2 e he (by rw [← e2, e1])⟩
 rw [Array.getElem?_toList] at h2
 obtain ⟨y, hy, e1⟩ := h.get h2
 have : y = x := K.inj _ _ (e1.trans h3)
 subst this
 exact .inr ⟨j, e, h1, h2, h3, hy⟩
variable [DecidableEq κ]
theorem run_mapGet {t e : TypeId} {w : World} {b : Nat} {clock : Nat} (K : KeyF P k f ok) (h : MapIs f ok es l) (hb : w.heap[b]? = some (.map es clock)) (ht : P.underlying t = some (.map k e)) {z : Value} (hz : (zeroValue e).run P w = .ok z w) {x : κ} (hx : ok x) (c : Bool) :
 (Instr.lookup t (.map (some b)) (f x) c).run P w = .ok (if c then .tuple #[(mget l x).getD z, .bool (mget l x).isSome] else (mget l x).getD z) w := by
 obtain ⟨lx, hlx⟩ := K.is x hx
 rcases h.find K hx w with ⟨h1, h2⟩ | ⟨j, e0, h1, h2, h3, h4⟩
 ·rw [mget_none h2]
  simp [Instr.lookup, run_underlying ht, MapKept.run_getObj_map hb, K.keyed.check w _ hlx, h1, hz, Result.andThen]
 rw [mget_at h.nodup h4]
 simp [Instr.lookup, run_underlying ht, MapKept.run_getObj_map hb, K.keyed.check w _ hlx, h1, Result.andThen]
theorem run_mapSet {t e : TypeId} {w : World} {b : Nat} {clock : Nat} (K : KeyF P k f ok) (h : MapIs f ok es l) (hb : w.heap[b]? = some (.map es clock)) (ht : P.underlying t = some (.map k e)) {x : κ} (hx : ok x) (v : Value) (hsp : Go.MapKept.Stamped es clock) :
 ∃ es' clock', (Instr.mapUpdate t (.map (some b)) (f x) v).run P w = .ok () (w.putObj b (.map es' clock')) ∧ MapIs f ok es' (mset l x v) ∧ Go.MapKept.Stamped es' clock' := by
 obtain ⟨lx, hlx⟩ := K.is x hx
 rcases h.find K hx w with ⟨h1, h2⟩ | ⟨j, e0, h1, h2, h3, h4⟩
 ·refine ⟨es.push ⟨f x, v, clock⟩, clock + 1, ?_, ⟨?_, mset_nodup h.nodup x v, mset_ok h.ok hx v⟩, Go.MapKept.stamped_push hsp fun e he e1 => by
   obtain ⟨y, hy, e2⟩ := h.mem he
   exact h2 _ hy (K.inj _ _ (e2.trans e1))⟩
  ·simp [Instr.mapUpdate, run_underlying ht, MapKept.run_getObj_map hb, K.keyed.check w false hlx, h1, MapKept.run_setObj_map _ hb, Result.andThen, World.putObj]
  rw [mset_new h2, Array.toList_push, List.map_append, List.map_append, h.eq]
  rfl
 have hst := K.keyed.stays w hlx
 refine ⟨es.modify j fun e => { e with key := f x, val := v }, clock, ?_, ⟨?_, mset_nodup h.nodup x v, mset_ok h.ok hx v⟩, Go.MapKept.stamped_modify hsp j _ (fun e _ => rfl) fun e _ he => by
  rw [h2] at he
  injection he with he
  rw [← he]
  exact h3.symm⟩
 ·simp [Instr.mapUpdate, run_underlying ht, MapKept.run_getObj_map hb, K.keyed.check w false hlx, h1, h2, h3, hst, MapKept.run_setObj_map _ hb, Result.andThen, World.putObj]
 rw [mset_at h.nodup h4]
 apply List.ext_getElem?
 intro q
 rw [List.getElem?_map, List.getElem?_map, Array.getElem?_toList, Array.getElem?_modify]
 by_cases hq : j = q
 ·subst hq
  have hl : j < l.length := (List.getElem?_eq_some_iff.1 h4).1
  rw [if_pos rfl, h2, List.getElem?_set_self hl]
  rfl
 rw [if_neg hq, List.getElem?_set_ne hq]
 have := congrArg (·[q]?) h.eq
 simp only [List.getElem?_map, Array.getElem?_toList] at this
 exact this
end
section
variable {P : Program} {n : Nat} {w0 : World} {S : Nat → Prop} {l : Fr} {m : List Ck} {Q : Exit → Act → World → Prop} {K : Act → World → Prop}
variable {dst : Option Tmp} {ty : TypeId} {pos : String} {after : Array Edge} {g : Option (Nat × Bool)}
theorem G.mapNew {κ : Type} (f : κ → Value) (ok : κ → Prop) {t d : Nat} (hn : Nat.blt d n = true) (h : ∀ b, G n w0 S ((d, .map (some b)) :: l) (mpc f ok b [] :: m) K) : G n w0 S l m (fun a w => Oper.wp P ⟨some d, .makeMap t none, ty, pos, after, g⟩ a w K Q) := G.eff rfl hn fun a w ha hw => by
 have hw' := hw.allocO (.map #[] 0)
 refine ⟨.map (some w.heap.size), w.alloc (.map #[] 0), mpc f ok w.heap.size [] :: m, run_v (run_makeMap t w), ?_, h _⟩
 refine ⟨hw'.chg, fun c hc => ?_, fun c hc b hb => ?_, ?_⟩
 ·rcases List.mem_cons.1 hc with rfl | hc
  ·have : (w.alloc (.map #[] 0)).heap[w.heap.size]? = some (.map #[] 0) := hw'.holds _ (List.mem_cons_self ..)
   exact ⟨#[], 0, this, MapIs.nil, Go.MapKept.stamped_empty 0⟩
  exact hw'.holds c (List.mem_cons_of_mem _ hc)
 ·rcases List.mem_cons.1 hc with rfl | hc
  ·exact hw'.own _ (List.mem_cons_self ..) b hb
  exact hw'.own c (List.mem_cons_of_mem _ hc) b hb
 have hd := List.pairwise_cons.1 hw'.dis
 exact List.pairwise_cons.2 ⟨fun c hc b hb => hd.1 c hc b hb, hd.2⟩
theorem Hp.mapPut {κ : Type} {f : κ → Value} {ok : κ → Prop} {w : World} {b : Nat} {es es' : Array MapEntry} {clock clock' : Nat} {xs xs' : List (κ × Value)} {q : List Ck} (hw : Hp w0 S w (mpc f ok b xs :: q)) (hb : w.heap[b]? = some (.map es clock)) (h : MapIs f ok es' xs') (hsp : Go.MapKept.Stamped es' clock') : Hp w0 S (w.putObj b (.map es' clock')) (mpc f ok b xs' :: q) := by
 have hd := List.pairwise_cons.1 hw.dis
 have h1 : Hp w0 S w (obc b (.map es clock) :: q) := ⟨hw.chg, fun c hc => by
  rcases List.mem_cons.1 hc with rfl | hc
  ·exact hb
  ·exact hw.holds c (List.mem_cons_of_mem _ hc), fun c hc i hi => by
  rcases List.mem_cons.1 hc with rfl | hc
  ·exact hw.own _ (List.mem_cons_self ..) i hi
  exact hw.own c (List.mem_cons_of_mem _ hc) i hi, List.pairwise_cons.2 ⟨fun c hc i hi => hd.1 c hc i hi, hd.2⟩⟩
 have h2 := h1.putO (.map es' clock')
 have hd2 := List.pairwise_cons.1 h2.dis
 refine ⟨h2.chg, fun c hc => ?_, fun c hc i hi => ?_, List.pairwise_cons.2 ⟨fun c hc i hi => hd2.1 c hc i hi, hd2.2⟩⟩
 ·rcases List.mem_cons.1 hc with rfl | hc
  ·exact ⟨es', clock', h2.holds _ (List.mem_cons_self ..), h, hsp⟩
  exact h2.holds c (List.mem_cons_of_mem _ hc)
 rcases List.mem_cons.1 hc with rfl | hc
 ·exact h2.own _ (List.mem_cons_self ..) i hi
 exact h2.own c (List.mem_cons_of_mem _ hc) i hi
theorem G.mapSet {κ : Type} [DecidableEq κ] {f : κ → Value} {ok : κ → Prop} {t k e b : Nat} {xm xk xv : Operand} {x : κ} {v : Value} {xs : List (κ × Value)} {r : List Ck} (Kf : KeyF P k f ok) (ht : P.underlying t = some (.map k e)) (hm : ev l xm = some (.map (some b))) (hk : ev l xk = some (f x)) (hv : ev l xv = some v) (hx : ok x) (hs : Sel m (mpc f ok b xs) r)
 (h : G n w0 S l (mpc f ok b (mset xs x v) :: r) K) : G n w0 S l m (fun a w => Oper.wp P ⟨none, .mapUpdate t xm xk xv, ty, pos, after, g⟩ a w K Q) := G.act rfl fun a w ha hw => by
 have hw' := hw.sel hs
 obtain ⟨es, clock, hb, hi, hsp⟩ : ∃ es clock, w.heap[b]? = some (.map es clock) ∧ MapIs f ok es xs ∧ Go.MapKept.Stamped es clock := hw'.holds _ (List.mem_cons_self ..)
 obtain ⟨es', clock', hr, hi', hsp'⟩ := run_mapSet Kf hi hb ht hx v hsp
 refine ⟨_, _, ?_, hw'.mapPut (clock' := clock') hb hi' hsp', h⟩
 have e1 := ha.eval hm
 have e2 := ha.eval hk
 have e3 := ha.eval hv
 show (execOp a.eval _).run P w = _
 simp only [execOp, e1, e2, e3]
 exact run_u hr
theorem pv_mapGet {κ : Type} [DecidableEq κ] {f : κ → Value} {ok : κ → Prop} {t k e b : Nat} {xm xk : Operand} {c : Bool} {x : κ} {z : Value} {xs : List (κ × Value)} (Kf : KeyF P k f ok) (ht : P.underlying t = some (.map k e)) (hz : ∀ w, (zeroValue e).run P w = .ok z w) (hm : ev l xm = some (.map (some b))) (hk : ev l xk = some (f x)) (hx : ok x)
 (hs : ∀ w, Hp w0 S w m → (mpc f ok b xs).φ w) : PV P n w0 S l m ⟨dst, .lookup t xm xk c, ty, pos, after, g⟩ (if c then .tuple #[(mget xs x).getD z, .bool (mget xs x).isSome] else (mget xs x).getD z) := fun a w ha hw => by
 obtain ⟨es, clock, hb, hi, _⟩ := hs w hw
 have e1 := ha.eval hm
 have e2 := ha.eval hk
 show (execOp a.eval _).run P w = _
 simp only [execOp, e1, e2]
 exact run_v (run_mapGet Kf hi hb ht (hz w) hx c)
theorem sel_map {κ : Type} {f : κ → Value} {ok : κ → Prop} {b : Nat} {xs : List (κ × Value)} {r : List Ck} (h : Sel m (mpc f ok b xs) r) : ∀ w, Hp w0 S w m → (mpc f ok b xs).φ w := fun w hw => hw.holds _ h.mem
end
structure It where
 path : List UInt8
 kind : Int
 mode : Int
 size : Int
 «to» : List UInt8
 ids : List (List UInt8)
abbrev IT := It × Value
def itC (x : IT) : List Value := [vStr x.1.path, vInt x.1.kind, vInt x.1.mode, vInt x.1.size, vStr x.1.to, x.2]
theorem itC_len (x : IT) : (itC x).length = 6 := rfl
def ItOk (e : It) : Prop := I64 e.kind ∧ I64 e.mode ∧ I64 e.size ∧ e.path.length ≤ 140737488355328 ∧ e.to.length ≤ 140737488355328 ∧ e.ids.length ≤ 140737488355328
def rIT : Rdr IT where
 sz := 6
 R := fun Ps w b o x => Ps b ∧ w.rangeAt b o (itC x) ∧ IsSl rID Ps w x.2 x.1.ids ∧ ItOk x.1
 loc := fun h ⟨h1, h2, h3, h4⟩ => ⟨h1, rangeAt_loc (h _ h1) h2, h3.loc h, h4⟩
 mono := fun h ⟨h1, h2, h3, h4⟩ => ⟨h _ h1, h2, h3.mono h, h4⟩
def its (xs : List IT) : List It := xs.map (·.1)
theorem its_length (xs : List IT) : (its xs).length = xs.length := List.length_map ..
theorem its_get {xs : List IT} {i : Nat} (h : i < xs.length) : (its xs)[i]'(by rw [its_length]; exact h) = xs[i].1 := List.getElem_map ..
abbrev CT := (List UInt8 × List UInt8) × Value
def pad16 (l : List UInt8) : List UInt8 := (l ++ List.replicate 16 0).take 16
theorem pad16_len (l : List UInt8) : (pad16 l).length = 16 := by
 unfold pad16
 rw [List.length_take, List.length_append, List.length_replicate]
 omega
theorem pad16_eq {l : List UInt8} (h : l.length = 16) : pad16 l = l := List.take_left' h
def chC (x : CT) : List Value := (pad16 x.1.1).map vByte ++ [x.2]
theorem chC_len (x : CT) : (chC x).length = 17 := by
 unfold chC
 rw [List.length_append, List.length_map, pad16_len]
 rfl
def rCT : Rdr CT where
 sz := 17
 R := fun Ps w b o x => Ps b ∧ w.rangeAt b o (chC x) ∧ IsSl rByte Ps w x.2 x.1.2 ∧ x.1.1.length = 16 ∧ x.1.2.length ≤ 140737488355328
 loc := fun h ⟨h1, h2, h3, h4⟩ => ⟨h1, rangeAt_loc (h _ h1) h2, h3.loc h, h4⟩
 mono := fun h ⟨h1, h2, h3, h4⟩ => ⟨h _ h1, h2, h3.mono h, h4⟩
def cks (xs : List CT) : List (List UInt8 × List UInt8) := xs.map (·.1)
structure Mh where
 c : Int
 k : Int
 n : Int
 t : Int
def datI (e : TypeId) (xs : List IT) : Ck := star (xs.map fun x => own e 16 x.2 x.1.ids.length (flatI x.1.ids))
def datD (e : TypeId) (xs : List CT) : Ck := star (xs.map fun x => ownB e x.2 x.1.2)
section
variable {P : Program} {n : Nat} {w0 : World} {S : Nat → Prop} {l : Fr} {m : List Ck} {K : Act → World → Prop}
theorem Ro.itRng {Ps : Nat → Prop} {b o : Nat} {x : IT} (h : Ro w0 S (elc rIT Ps b o x)) : Ro w0 S (rng b o [.string (sB x.1.path), .int .i64 x.1.kind, .int .i64 x.1.mode, .int .i64 x.1.size, .string (sB x.1.to), x.2]) := ⟨h.1.2.1, fun k hk => h.2 k (by obtain rfl : k = b := hk; exact h.1.1)⟩
theorem Ro.itIds {Ps : Nat → Prop} {b o : Nat} {x : IT} (h : Ro w0 S (elc rIT Ps b o x)) : Ro w0 S (slc rID Ps x.2 x.1.ids) := ⟨h.1.2.2.1, h.2⟩
theorem Ro.itOk {Ps : Nat → Prop} {b o : Nat} {x : IT} (h : Ro w0 S (elc rIT Ps b o x)) : ItOk x.1 := h.1.2.2.2
theorem Ro.one1I {Ps : Nat → Prop} {v : Value} {a : List (List UInt8)} (h : Ro w0 S (slc rID Ps v a)) : v.oneCell' = true := by
 obtain ⟨ad, cap, rfl⟩ := Ro.slv h
 rfl
theorem itC_one {x : IT} (h : x.2.oneCell' = true) : ∀ u ∈ itC x, u.oneCell' = true := fun u hu => by
 simp only [itC, List.mem_cons, List.not_mem_nil, or_false] at hu
 rcases hu with rfl | rfl | rfl | rfl | rfl | rfl
 ·rfl
 ·rfl
 ·rfl
 ·rfl
 ·rfl
 exact h
theorem chC_one {x : CT} (h : x.2.oneCell' = true) : ∀ u ∈ chC x, u.oneCell' = true := fun u hu => by
 rcases List.mem_append.1 hu with hu | hu
 ·exact vByte_one _ u hu
 obtain rfl : u = x.2 := by simpa using hu
 exact h
theorem Ro.allI {b o : Nat} {Ps : Nat → Prop} {xs : List IT} (hel : ∀ i (hi : i < xs.length), Ro w0 S (elc rIT Ps b (o + i * 6) xs[i])) : ∀ x ∈ xs, ItOk x.1 ∧ Go.Proofs.YtngbglhmiefcpaaGreat.all16 x.1.ids ∧ x.2.oneCell' = true := fun x hx => by
 obtain ⟨i, hi, rfl⟩ := List.getElem_of_mem hx
 exact ⟨Ro.itOk (hel i hi), Ro.all16 (Ro.itIds (hel i hi)), Ro.one1I (Ro.itIds (hel i hi))⟩
theorem G.starNil (h : G n w0 S l (star [] :: m) K) : G n w0 S l m K := G.mem (fun w hw => Hp.star (m := []) hw) h
theorem G.starSnoc {α : Type} {f : α → Ck} {ys : List α} {x : α} {c : Ck} {r r' : List Ck} (hc : c = f x) (h1 : Sel m (star (ys.map f)) r) (h2 : Sel r c r') (h : G n w0 S l (star ((ys ++ [x]).map f) :: r') K) : G n w0 S l m K := G.mem (fun w hw => by
 subst hc
 have h3 := Hp.unstar (hw.sel h1)
 have p : (ys.map f ++ r).Perm (((ys ++ [x]).map f) ++ r') := by
  rw [List.map_append, List.append_assoc]
  exact List.Perm.append_left _ h2.perm
 exact Hp.star (h3.perm p)) h
theorem datI_sl {w : World} {e : TypeId} {xs : List IT} (h : (datI e xs).φ w) (h16 : ∀ x ∈ xs, all16 x.1.ids) : ∀ x ∈ xs, IsSl rID (datI e xs).S w x.2 x.1.ids := fun x hx => by
 have h1 : (own e 16 x.2 x.1.ids.length (flatI x.1.ids)).φ w := h.1 _ (List.mem_map.2 ⟨x, hx, rfl⟩)
 exact (own_isI h1 (h16 x hx)).mono fun k hk => ⟨_, List.mem_map.2 ⟨x, hx, rfl⟩, hk⟩
theorem datD_sl {w : World} {e : TypeId} {xs : List CT} (h : (datD e xs).φ w) : ∀ x ∈ xs, IsSl rByte (datD e xs).S w x.2 x.1.2 := fun x hx => by
 have h1 : (ownB e x.2 x.1.2).φ w := h.1 _ (List.mem_map.2 ⟨x, hx, rfl⟩)
 exact (own_isSl' (p := fun _ => True) (OwnB.own h1) rfl (fun _ _ => trivial)).mono fun k hk => ⟨_, List.mem_map.2 ⟨x, hx, rfl⟩, hk⟩
theorem rows_sl {α : Type} {f : α → List Value} {k : Nat} {E : Rdr α} (hf : ∀ x, (f x).length = k) (hE : E.sz = k) {e : TypeId} {v : Value} {xs : List α} {w : World} {Ps : Nat → Prop} (h : w.ownsRow 0 e k v xs.length (xs.flatMap f)) (hP : ∀ b, v.ownBlock = some b → Ps b)
 (hx : ∀ b o x, x ∈ xs → Ps b → w.rangeAt b o (f x) → E.R Ps w b o x) : IsSl E Ps w v xs := by
 obtain ⟨ad, cap, b, hv, had, hnil, hnw⟩ := own_news h
 obtain ⟨h1, h2⟩ := h
 have hb : xs.length ≤ cap ∧ cap ≤ 9223372036854775807 := by
  rcases h2 with ⟨rfl, h0⟩ | ⟨g, cap', cur, rfl, _, _, hc, hm, _⟩
  ·injection hv with e1 e2 e3
   subst e3
   omega
  injection hv with e1 e2 e3
  subst e3
  exact ⟨hc, by unfold maxLen at hm; omega⟩
 refine ⟨ad, cap, b, 0, hv, hb.1, hb.2, hnil, had, fun i hi => hx _ _ _ (List.getElem_mem hi) (hP b ?_) fun j u hj => ?_⟩
 ·rw [hv, had (by omega)]
  rfl
 have hjk : j < k := by
  have := (List.getElem?_eq_some_iff.1 hj).1
  rwa [hf] at this
 have := hnw (i * k + j) u (by rw [flatMap_get f k hf xs i j hi hjk]; exact hj)
 rw [hE, show 0 + i * k + j = 0 + (i * k + j) from by omega]
 exact this
theorem may_items {e e2 : TypeId} {v : Value} {xs : List IT} {r r' : List Ck} (h : Sel m (own e 6 v xs.length (xs.flatMap itC)) r) (h' : Sel m (datI e2 xs) r') (hok : ∀ x ∈ xs, ItOk x.1 ∧ all16 x.1.ids) : May w0 S m (slc rIT (fun b => v.ownBlock = some b ∨ (datI e2 xs).S b) v xs) :=
 .mix (fun w hw => rows_sl itC_len rfl (hw.holds _ h.mem) (fun b hb => .inl hb) fun b o x hx hP hr => ⟨hP, hr, (datI_sl (hw.holds _ h'.mem) (fun x hx => (hok x hx).2) x hx).mono fun k hk => .inr hk, (hok x hx).1⟩) fun b hb => .inr (by
  rcases hb with hb | hb
  ·exact ⟨_, h.mem, hb⟩
  exact ⟨_, h'.mem, hb⟩)
end
theorem chC_id {x : CT} (h : x.1.1.length = 16) : ((chC x).drop 0).take 16 = x.1.1.map vByte := by
 unfold chC
 rw [List.drop_zero, pad16_eq h]
 exact List.take_left' (by rw [List.length_map]; exact h)
theorem chC_dat (x : CT) : (chC x)[16]? = some x.2 := by
 unfold chC
 rw [List.getElem?_append_right (by rw [List.length_map, pad16_len]; exact Nat.le_refl _), List.length_map, pad16_len]
 rfl
theorem Tryz.infoIt : (Tryz.prog.info? 104).map (fun i => (i.zero.map (·.cells.size), i.size, i.bytes)) = some (some 6, 6, 80) := by kernel_rfl
theorem Tryz.infoCk : (Tryz.prog.info? 54).map (fun i => (i.zero.map (·.cells.size), i.size, i.bytes)) = some (some 17, 17, 40) := by kernel_rfl
def frz (F : Nat → Prop) (W : World) : Ck := ⟨F, fun w => ∀ b, F b → w.heap[b]? = W.heap[b]?, fun w w' h hw b hb => (h b hb).trans (hw b hb)⟩
def Up (F : Nat → Prop) (W : World) (F' : Nat → Prop) (W' : World) : Prop := (∀ b, F b → F' b) ∧ ∀ b, F b → W'.heap[b]? = W.heap[b]?
theorem Up.refl (F : Nat → Prop) (W : World) : Up F W F W := ⟨fun _ h => h, fun _ _ => rfl⟩
theorem Up.trans {F F' F'' : Nat → Prop} {W W' W'' : World} (h : Up F W F' W') (k : Up F' W' F'' W'') : Up F W F'' W'' := ⟨fun b hb => k.1 b (h.1 b hb), fun b hb => (k.2 b (h.1 b hb)).trans (h.2 b hb)⟩
theorem Up.sl {α : Type} {E : Rdr α} {F F' : Nat → Prop} {W W' : World} {v : Value} {xs : List α} (h : Up F W F' W') (k : IsSl E F W v xs) : IsSl E F' W' v xs := (k.loc h.2).mono h.1
theorem Up.el {α : Type} {E : Rdr α} {F F' : Nat → Prop} {W W' : World} {b o : Nat} {x : α} (h : Up F W F' W') (k : E.R F W b o x) : E.R F' W' b o x := E.mono h.1 (E.loc h.2 k)
theorem Up.cell {F F' : Nat → Prop} {W W' : World} {b o : Nat} {v : Value} (h : Up F W F' W') (hb : F b) (k : W.cell? ⟨b, o, none⟩ = some v) : W'.cell? ⟨b, o, none⟩ = some v := (World.cell?_of_block (h.2 b hb)).trans k
theorem Up.rng {F F' : Nat → Prop} {W W' : World} {b o : Nat} {cs : List Value} (h : Up F W F' W') (hb : F b) (k : W.rangeAt b o cs) : W'.rangeAt b o cs := rangeAt_loc (h.2 b hb) k
section
variable {P : Program} {n : Nat} {w0 : World} {S : Nat → Prop} {l : Fr} {m : List Ck} {Q : Exit → Act → World → Prop} {K : Act → World → Prop}
 {dst : Option Tmp} {ty : TypeId} {pos : String} {after : Array Edge} {g : Option (Nat × Bool)} {F : Nat → Prop} {W : World}
theorem G.frz0 (h : ∀ W, G n w0 S l (frz (fun _ => False) W :: m) K) : G n w0 S l m K := fun a w ha hw =>
 h w a w ha (hw.adds (m' := [frz (fun _ => False) w]) ⟨Chg.refl _ _, fun c hc => by
  obtain rfl : c = _ := by simpa using hc
  exact fun b hb => hb.elim, fun c hc b hb => by
  obtain rfl : c = _ := by simpa using hc
  exact hb.elim, by simp⟩)
theorem G.freeze {p r r' : List Ck} (h1 : Sel m (frz F W) r) (h2 : Sub r p r')
 (h : ∀ F' W', Up F W F' W' → (∀ c ∈ p, c.φ W' ∧ ∀ b, c.S b → F' b) → G n w0 S l (frz F' W' :: r') K) : G n w0 S l m K := fun a w ha hw => by
 have hw' := (hw.sel h1).perm (List.Perm.cons _ h2.perm)
 refine h (fun b => F b ∨ U p b) w ⟨fun b hb => .inl hb, fun b hb => ((hw'.holds _ (List.mem_cons_self ..) : (frz F W).φ w) b hb).symm ▸ rfl⟩ (fun c hc => ⟨hw'.holds _ (List.mem_cons_of_mem _ (List.mem_append_left _ hc)), fun b hb => .inr ⟨c, hc, hb⟩⟩) a w ha ?_
 have hs : Hp w0 S w (star (frz F W :: p) :: r') := Hp.star (m := frz F W :: p) (r := r') hw'
 have hd := List.pairwise_cons.1 hs.dis
 have key : ∀ b, (F b ∨ U p b) → (star (frz F W :: p)).S b := fun b hb => by
  rcases hb with hb | ⟨c, hc, hb⟩
  ·exact ⟨_, List.mem_cons_self .., hb⟩
  exact ⟨c, List.mem_cons_of_mem _ hc, hb⟩
 refine ⟨hs.chg, fun c hc => ?_, fun c hc b hb => ?_, List.pairwise_cons.2 ⟨fun d hdr b hb => hd.1 d hdr b (key b hb), hd.2⟩⟩
 ·rcases List.mem_cons.1 hc with rfl | hc
  ·exact fun b _ => rfl
  exact hs.holds c (List.mem_cons_of_mem _ hc)
 rcases List.mem_cons.1 hc with rfl | hc
 ·exact hs.own _ (List.mem_cons_self ..) b (key b hb)
 exact hs.own c (List.mem_cons_of_mem _ hc) b hb
theorem may_frz {α : Type} {E : Rdr α} {v : Value} {xs : List α} {r : List Ck} (h : Sel m (frz F W) r) (hs : IsSl E F W v xs) : May w0 S m (slc E F v xs) :=
 .view h.mem (fun w hw => hs.loc hw) fun b hb => hb
theorem frz_cell {b o : Nat} {v : Value} {r : List Ck} (h : Sel m (frz F W) r) (hb : F b) (k : W.cell? ⟨b, o, none⟩ = some v) : ∀ w, Hp w0 S w m → w.cell? ⟨b, o, none⟩ = some v := fun w hw => (World.cell?_of_block ((hw.holds _ h.mem : (frz F W).φ w) b hb)).trans k
theorem frz_rng {b o : Nat} {cs : List Value} {r : List Ck} (h : Sel m (frz F W) r) (hb : F b) (k : W.rangeAt b o cs) : ∀ w, Hp w0 S w m → w.rangeAt b o cs := fun w hw => rangeAt_loc ((hw.holds _ h.mem : (frz F W).φ w) b hb) k
theorem frz_sl {α : Type} {E : Rdr α} {v : Value} {xs : List α} {r : List Ck} (h : Sel m (frz F W) r) (hs : IsSl E F W v xs) : ∀ w, Hp w0 S w m → IsSl E F w v xs := fun w hw => hs.loc (hw.holds _ h.mem : (frz F W).φ w)
def que (e : TypeId) (sz : Nat) (v : Value) (k : Nat) (cs : List Value) : Ck := ⟨fun b => v.ownBlock = some b, fun w => cs.length = k * sz ∧ ((v = .slice none 0 0 ∧ k = 0) ∨
 ∃ g cap pre sp, v = .slice (some ⟨g, pre.length, none⟩) k cap ∧ k ≤ cap ∧ cap ≤ 9223372036854775807 ∧ (cap - k) * sz ≤ sp.length ∧ w.heap[g]? = some (.cells (pre ++ (cs ++ sp)).toArray e (0, 0))), fun w w' h hw => by
 refine ⟨hw.1, ?_⟩
 rcases hw.2 with h1 | ⟨g, cap, pre, sp, rfl, h2, h3, h4, h5⟩
 ·exact .inl h1
 exact .inr ⟨g, cap, pre, sp, rfl, h2, h3, h4, (h g rfl).trans h5⟩⟩
theorem G.queNil (e sz : Nat) (h : G n w0 S l (que e sz (.slice none 0 0) 0 [] :: m) K) : G n w0 S l m K := G.mem (fun w hw => by
 refine hw.adds (m' := [que e sz (.slice none 0 0) 0 []]) ⟨Chg.refl _ _, fun c hc => ?_, fun c hc b hb => ?_, by simp⟩
 ·obtain rfl : c = _ := by simpa using hc
  exact ⟨by simp, .inl ⟨rfl, rfl⟩⟩
 obtain rfl : c = _ := by simpa using hc
 cases hb) h
theorem que_form {e sz k : Nat} {v : Value} {cs : List Value} {w : World} (h : (que e sz v k cs).φ w) : v.oneCell' = true ∧ cs.length = k * sz ∧ ∃ ad cap, v = .slice ad k cap ∧ k ≤ cap ∧ cap ≤ 9223372036854775807 := by
 obtain ⟨h1, ⟨rfl, rfl⟩ | ⟨g, cap, pre, sp, rfl, h2, h3, _⟩⟩ := h
 ·exact ⟨rfl, h1, _, _, rfl, Nat.le_refl _, by omega⟩
 exact ⟨rfl, h1, _, _, rfl, h2, h3⟩
theorem G.queFact {e sz k : Nat} {v : Value} {cs : List Value} {r : List Ck} (hs : Sel m (que e sz v k cs) r) (h : v.oneCell' = true → cs.length = k * sz → ∀ ad cap, v = .slice ad k cap → G n w0 S l m K) : G n w0 S l m K := fun a w ha hw => by
 obtain ⟨h1, h2, ad, cap, h3, _⟩ := que_form (hw.holds _ hs.mem)
 exact h h1 h2 ad cap h3 a w ha hw
theorem G.queTo {e sz k : Nat} {v : Value} {cs : List Value} {r : List Ck} (hs : Sel m (que e sz v k cs) r) (hk : 0 < k)
 (h : ∀ g cap pre sp, v = .slice (some ⟨g, pre.length, none⟩) k cap → k ≤ cap → cap ≤ 9223372036854775807 → (cap - k) * sz ≤ sp.length → cs.length = k * sz → G n w0 S l (blk g e (pre ++ (cs ++ sp)) :: r) K) : G n w0 S l m K := fun a w ha hw => by
 have hw' := hw.sel hs
 obtain ⟨h1, ⟨rfl, h0⟩ | ⟨g, cap, pre, sp, rfl, h2, h3, h4, h5⟩⟩ := hw'.holds _ (List.mem_cons_self ..)
 ·omega
 refine h g cap pre sp rfl h2 h3 h4 h1 a w ha (hp_view (c := que e sz (.slice (some ⟨g, pre.length, none⟩) k cap) k cs) (d := blk g e (pre ++ (cs ++ sp))) hw' (fun _ => h5) fun b hb => ?_)
 obtain rfl : b = g := hb
 rfl
theorem G.queOf {e sz k g cap o : Nat} {cs pre sp : List Value} {r : List Ck} (hs : Sel m (blk g e (pre ++ (cs ++ sp))) r) (ho : o = pre.length) (hk : cs.length = k * sz) (hc : k ≤ cap) (hm : cap ≤ 9223372036854775807) (hl : (cap - k) * sz ≤ sp.length)
 (h : G n w0 S l (que e sz (.slice (some ⟨g, o, none⟩) k cap) k cs :: r) K) : G n w0 S l m K := fun a w ha hw => by
 subst ho
 have hw' := hw.sel hs
 refine h a w ha (hp_view (c := blk g e (pre ++ (cs ++ sp))) (d := que e sz (.slice (some ⟨g, pre.length, none⟩) k cap) k cs) hw' (fun hg => ⟨hk, .inr ⟨g, cap, pre, sp, rfl, hc, hm, hl, hg⟩⟩) fun b hb => ?_)
 have : some g = some b := hb
 injection this with this
 exact this.symm
theorem G.queTail {e sz k g cap : Nat} {c1 cs pre sp : List Value} {r : List Ck} (hs : Sel m (blk g e (pre ++ ((c1 ++ cs) ++ sp))) r) (h1 : c1.length = sz) (hk : (c1 ++ cs).length = (k + 1) * sz) (hc : k + 1 ≤ cap) (hm : cap ≤ 9223372036854775807) (hl : (cap - (k + 1)) * sz ≤ sp.length)
 (h : G n w0 S l (que e sz (subV sz (some ⟨g, pre.length, none⟩) 1 (k + 1) cap) k cs :: r) K) : G n w0 S l m K := by
 have hk' : cs.length = k * sz := by
  rw [List.length_append, h1, Nat.add_mul, Nat.one_mul] at hk
  omega
 have hl' : (cap - 1 - k) * sz ≤ sp.length := by
  rw [show cap - 1 - k = cap - (k + 1) from by omega]
  exact hl
 unfold subV at h
 by_cases hz : cap - 1 = 0
 ·have hk0 : k = 0 := by omega
  subst hk0
  have hcs : cs = [] := List.eq_nil_of_length_eq_zero (by simpa using hk')
  subst hcs
  refine G.queOf (sz := sz) (pre := pre) (cs := []) (sp := c1 ++ sp) (k := 0) (cap := cap - 1) (o := pre.length) (by simpa using hs) rfl (by simp) (by omega) (by omega) (by simp [hz]) ?_
  have hz' : cap = 1 := by omega
  subst hz'
  simpa using h
 refine G.queOf (pre := pre ++ c1) (cs := cs) (sp := sp) (k := k) (cap := cap - 1) (o := pre.length + sz) (by simpa using hs) (by rw [List.length_append, h1]) hk' (by omega) (by omega) hl' ?_
 have hz' : ¬ cap = 1 := by omega
 simpa [hz', addr_mid] using h
theorem putN_mid (news : List Value) : ∀ (a b c : List Value), b.length = news.length → putN (a ++ (b ++ c)) a.length news = a ++ (news ++ c) := by
 induction news with
 | nil =>
  intro a b c h
  obtain rfl : b = [] := List.eq_nil_of_length_eq_zero h
  rfl
 | cons v vs ih =>
  intro a b c h
  match b, h with
  | x :: b, h =>
   show putN ((a ++ (x :: b ++ c)).set a.length v) (a.length + 1) vs = _
   rw [show (a ++ (x :: b ++ c)).set a.length v = (a ++ [v]) ++ (b ++ c) from by simp [List.set_append], show a.length + 1 = (a ++ [v]).length from by simp, ih (a ++ [v]) b c (by simpa using h)]
   simp
theorem G.appendQ {t e d sz bytes k j cap b off : Nat} {s x : Operand} {v : Value} {cs news : List Value} {r : List Ck} (hn : Nat.blt d n = true) (hu : P.underlying t = some (.slice e)) (hi : (P.info? e).map (fun i => (i.zero.map (·.cells.size), i.size, i.bytes)) = some (some sz, sz, bytes)) (hsz : Nat.blt 0 sz = true)
 (hs : ev l s = some v) (hx : ev l x = some (.slice (some ⟨b, off, none⟩) j cap)) (hsel : Sel m (que e sz v k cs) r) (hj : 0 < j) (hl : news.length = j * sz) (hnews : ∀ w, Hp w0 S w m → News w b off news) (h1 : ∀ u ∈ news, u.oneCell' = true)
 (hbig : (k + j) * bytes ≤ 140737488355328) (h63 : k + j ≤ 9223372036854775807)
 (h : ∀ v', G n w0 S ((d, v') :: l) (que e sz v' (k + j) (cs ++ news) :: r) K) : G n w0 S l m (fun a w => Oper.wp P ⟨some d, .call ⟨.builtin .append, #[s, x], #[t, t]⟩, ty, pos, after, g⟩ a w K Q) := G.eff rfl hn fun a w ha hw => by
 obtain ⟨i, hi1, hi2⟩ := Option.map_eq_some_iff.1 hi
 have hi3 : i.zero.map (·.cells.size) = some sz := congrArg Prod.fst hi2
 have hi4 : i.size = sz := congrArg (fun p => p.2.1) hi2
 have hi5 : i.bytes = bytes := congrArg (fun p => p.2.2) hi2
 obtain ⟨z, hz, hz2⟩ := Option.map_eq_some_iff.1 hi3
 have hsz' : 0 < sz := by simpa using hsz
 have hw' := hw.sel hsel
 have run : ∀ v' w', (Builtin.append_ #[t, t] ty #[v, .slice (some ⟨b, off, none⟩) j cap]).run P w = .ok v' w' → (execOp a.eval ⟨some d, .call ⟨.builtin .append, #[s, x], #[t, t]⟩, ty, pos, after, g⟩).run P w = .ok (.value v') w' := fun v' w' hr => by
  simp only [execOp, resolve, invoke, builtin, Sem.run_bind, Sem.run_pure, Result.andThen_ok, List.map_toArray, List.map_cons, List.map_nil, ha.eval hs, ha.eval hx, hr]
 have hnw : ∀ i u, news[i]? = some u → w.cell? ((⟨b, off, none⟩ : Addr).add i) = some u := fun i u hu => by
  rw [addr_mid]
  exact hnews w hw i u hu
 -- a row that was made now, in the place of the old one
 have grown : ∀ {vv : Value} {v' : Value} {w' : World}, w'.ownsRow w.heap.size e sz v' (k + j) (cs ++ news) → w.grownBy w' none → Hp w0 S w' (que e sz v' (k + j) (cs ++ news) :: r) := fun {vv v' w'} ho hg => by
  refine Hp.turn (p := [que e sz v k cs]) (p' := [que e sz v' (k + j) (cs ++ news)]) hw' ⟨⟨hg.os, hg.tape, hg.output, hg.size, fun k hk _ => hg.block k hk (by simp)⟩, fun c hc => ?_, fun c hc b hb => ?_, by simp⟩
  ·obtain rfl : c = _ := by simpa using hc
   refine ⟨ho.1, ?_⟩
   rcases ho.2 with h0 | ⟨g', cap', cur, rfl, _, hg', hc', hm', hs', ht'⟩
   ·exact .inl h0
   refine .inr ⟨g', cap', [], cur.toList.drop ((k + j) * sz), rfl, hc', by unfold maxLen at hm'; omega, ?_, ?_⟩
   ·rw [List.length_drop, Array.length_toList, hs', Nat.sub_mul]
    exact Nat.le_refl _
   rw [List.nil_append, ← ht', List.take_append_drop]
   simpa using hg'
  obtain rfl : c = _ := by simpa using hc
  exact ⟨.inr (ho.lt b hb).1, (ho.lt b hb).2⟩
 have hq := hw'.holds _ (List.mem_cons_self ..)
 obtain ⟨hlen, ⟨rfl, rfl⟩ | ⟨g', c', pre, sp, rfl, hkc, hcm, hsp, hg'⟩⟩ := hq
 ·have hcs : cs = [] := List.eq_nil_of_length_eq_zero (by simpa using hlen)
  subst hcs
  obtain ⟨v', w', hr, h2, h3, _⟩ := run_append_own (P := P) w w.heap.size t ty e i z sz bytes hu hi1 hz hi4 hi5 hz2 hsz' _ 0 [] (World.ownsRow_nil w _ e sz) ⟨b, off, none⟩ j cap news hl hnw h1 (by unfold maxLen; omega) hbig (Nat.le_refl _)
  exact ⟨_, _, _, run _ _ hr, grown (vv := v') h2 h3, h v'⟩
 have hcell : ∀ q u, (pre ++ (cs ++ sp))[q]? = some u → w.cell? ⟨g', q, none⟩ = some u := fun q u hu => by
  rw [cell_of_row _ _ _ _ _ _ hg', List.getElem?_toArray, hu]
 by_cases hroom : k + j ≤ c'
 ·have hfit : news.length ≤ sp.length := by
   rw [hl]
   exact Nat.le_trans (Nat.mul_le_mul_right _ (by omega)) hsp
  have hin : ∀ q, q < news.length → ∃ u, (pre ++ (cs ++ sp))[pre.length + k * sz + q]? = some u := fun q hq => by
   refine ⟨_, List.getElem?_eq_getElem ?_⟩
   simp only [List.length_append]
   omega
  subst hi4
  have hr := run_append_room_cells (P := P) w t ty e i hu hi1 g' pre.length k c' ⟨b, off, none⟩ j cap news hl hnw h1 hroom (fun q hq => by
   obtain ⟨u, hu⟩ := hin q hq
   rw [hcell _ u hu]; rfl) (fun q hq => by
   obtain ⟨u, hu⟩ := hin q hq
   exact frozen_of_row _ _ _ _ _ hg')
  refine ⟨_, _, que e i.size (.slice (some ⟨g', pre.length, none⟩) (k + j) c') (k + j) (cs ++ news) :: r, run _ _ hr, ?_, h _⟩
  have hb0 : Hp w0 S w (blk g' e (pre ++ (cs ++ sp)) :: r) := hp_view (c := que e i.size (.slice (some ⟨g', pre.length, none⟩) k c') k cs) (d := blk g' e (pre ++ (cs ++ sp))) hw' (fun _ => hg') fun b hb => by
   obtain rfl : b = g' := hb
   rfl
  have hb1 := setCells_blk news (pre ++ (cs ++ sp)) (pre.length + k * i.size) hb0
  have e1 : putN (pre ++ (cs ++ sp)) (pre.length + k * i.size) news = pre ++ ((cs ++ news) ++ sp.drop news.length) := by
   have := putN_mid news (pre ++ cs) (sp.take news.length) (sp.drop news.length) (by rw [List.length_take]; omega)
   rw [List.take_append_drop, List.length_append, hlen] at this
   simpa using this
  rw [e1] at hb1
  refine hp_view (c := blk g' e (pre ++ ((cs ++ news) ++ sp.drop news.length))) (d := que e i.size (.slice (some ⟨g', pre.length, none⟩) (k + j) c') (k + j) (cs ++ news)) hb1 (fun hh => ⟨by rw [List.length_append, hlen, hl, Nat.add_mul], .inr ⟨g', c', pre, _, rfl, hroom, hcm, ?_, hh⟩⟩) fun b hb => ?_
  ·rw [List.length_drop, hl, show c' - (k + j) = (c' - k) - j from by omega, Nat.sub_mul]
   omega
  have : some g' = some b := hb
  injection this with this
  exact this.symm
 obtain ⟨v', w', hr, h2, h3⟩ := run_append_arg_grows (P := P) w t ty e i z sz bytes hu hi1 hz hi4 hi5 hz2 hsz' ⟨g', pre.length, none⟩ k c' cs hlen (fun q u hu => by
  rw [addr_mid]
  refine hcell _ u ?_
  rw [List.getElem?_append_right (by omega), Nat.add_sub_cancel_left, List.getElem?_append_left (List.getElem?_eq_some_iff.1 hu).1]
  exact hu) ⟨b, off, none⟩ j cap news hl hnw (by omega) (by unfold maxLen; omega) hbig
 exact ⟨_, _, _, run _ _ hr, grown (vv := v') h2 h3, h v'⟩
end
set_option maxHeartbeats 4000000 in
theorem sameNote_tr {Pv1 Pv2 Pv3 Pu1 Pu2 Pu3 : Nat → Prop} (k k' : Int) (v1 v2 v3 u1 u2 u3 : Value) (ns ns' : List Int) (ids ids' : List (List UInt8)) (bs bs' : List UInt8) : Tr Tryz.prog 34 #[.agg #[.int .i64 k, v1, v2, v3], .agg #[.int .i64 k', u1, u2, u3]] [slc rInt Pv1 v1 ns, slc rID Pv2 v2 ids, slc rByte Pv3 v3 bs, slc rInt Pu1 u1 ns', slc rID Pu2 u2 ids', slc rByte Pu3 u3 bs'] [] (T0 (.bool (decide (k = k' ∧ ns = ns' ∧ ids = ids' ∧ bs = bs')))) := by
 refine Tr.of (l := [(0, .agg #[.int .i64 k, v1, v2, v3]), (1, .agg #[.int .i64 k', u1, u2, u3])]) Tryz.func34 rfl (n := 31) rfl (.cons rfl (.cons rfl .nil)) (fun w0 hro => ?_)
 obtain ⟨ha, hb, hc, hd, he, hf⟩ := ro6 hro
 have oa := Ro.open ha
 have ob := Ro.open hb
 have oc := Ro.open hc
 have od := Ro.open hd
 have oe := Ro.open he
 have og := Ro.open hf
 obtain ⟨aa, ca, qa, oa, rfl, -⟩ := oa
 obtain ⟨ab, cb, qb, ob, rfl, -⟩ := ob
 obtain ⟨ac, cc, qc, oc, rfl, -⟩ := oc
 obtain ⟨ad, cd, qd, od, rfl, -⟩ := od
 obtain ⟨ae, ce, qe, oe, rfl, -⟩ := oe
 obtain ⟨ag, cg, qg, og, rfl, -⟩ := og
 refine go [9,10,60,2] ?_
 intro b2
 refine go [60,2] ?_
 intro b3
 refine go [1,7,8,9,10,2,3,0,2,4,2,3,0,2,4,2,13,0] ?_
 refine G.partP (t := 10) rfl (fun h10 => ?_) (fun h10 => ?_)
 ·refine go [3,3,1,3,4,3,3,1,3,4] ?_
  refine G.want rfl rfl rfl (G.cR rfl rfl rfl rfl Tryz.func45 rfl rfl (may2 Y1 Y1) (sameInts_tr _ _ _ _) ?_)
  refine go [2,2,0] ?_
  refine G.partP (t := 17) rfl (fun h17 => ?_) (fun h17 => ?_)
  ·refine go [3,3,2,3,4,3,3,2,3,4] ?_
   refine G.want rfl rfl rfl (G.cR rfl rfl rfl rfl Tryz.func25 rfl rfl (may2 Y1 Y1) (sameIDs_tr _ _ _ _) ?_)
   refine go [2,2,0] ?_
   refine G.partP (t := 24) rfl (fun h24 => ?_) (fun h24 => ?_)
   ·refine go [3,3,3,3,4,3,3,3,3,4] ?_
    refine G.want rfl rfl rfl (G.cR rfl rfl rfl rfl Tryz.func24 rfl rfl (may2 Y1 Y1) (same_tr _ _ _ _) ?_)
    refine go [2,2,1,7,8,11] ?_
    exact G.done1 rfl rfl .nil ⟨congrArg Value.bool (by simp [*]), rfl⟩
   refine go [4,4,4,4,4,2,2,1,7,8,11] ?_
   exact G.done1 rfl rfl .nil ⟨congrArg Value.bool (by simp [*]), rfl⟩
  refine go [4,4,4,4,4,2,2,0,4,4,4,4,4,2,2,1,7,8,11] ?_
  exact G.done1 rfl rfl .nil ⟨congrArg Value.bool (by simp [*]), rfl⟩
 refine go [4,4,4,4,4,2,2,0,4,4,4,4,4,2,2,0,4,4,4,4,4,2,2,1,7,8,11] ?_
 exact G.done1 rfl rfl .nil ⟨congrArg Value.bool (by simp [*]), rfl⟩
set_option maxHeartbeats 4000000 in
theorem longNote_tr {Pv1 Pv2 Pv3 : Nat → Prop} (k : Int) (v1 v2 v3 : Value) (ns : List Int) (ids : List (List UInt8)) (bs : List UInt8) : Tr Tryz.prog 42 #[.agg #[.int .i64 k, v1, v2, v3]] [slc rInt Pv1 v1 ns, slc rID Pv2 v2 ids, slc rByte Pv3 v3 bs] [] (T0 (.bool (decide (200 < ns.length ∨ 40 < ids.length ∨ 2000 < bs.length)))) := by
 refine Tr.of (l := [(0, .agg #[.int .i64 k, v1, v2, v3])]) Tryz.func42 rfl (n := 19) rfl (.cons rfl .nil) (fun w0 hro => ?_)
 obtain ⟨hA, hB, hC⟩ := ro3 hro
 have oa := Ro.open hA
 have ob := Ro.open hB
 have oc := Ro.open hC
 obtain ⟨aa, ca, qa, oa, rfl, -⟩ := oa
 obtain ⟨ab, cb, qb, ob, rfl, -⟩ := ob
 obtain ⟨ac, cc, qc, oc, rfl, -⟩ := oc
 refine go [9,10,60,2] ?_
 intro b1
 refine go [1,7,8,9,10,2,3,1,2,4,2,5,2,10,0] ?_
 refine G.partP (t := 7) rfl (fun h7 => ?_) (fun h7 => ?_)
 ·refine go [4,4,4,4,2,2,0,4,4,4,4,2,2,1,7,8,11] ?_
  exact G.done1 rfl rfl .nil ⟨congrArg Value.bool (by first | exact (decide_eq_true (by omega)).symm | (rw [decide_eq_decide]; omega)), rfl⟩
 refine go [3,3,2,3,4,3,5,3,10,2,2,0] ?_
 refine G.partP (t := 13) rfl (fun h13 => ?_) (fun h13 => ?_)
 ·refine go [4,4,4,4,2,2,1,7,8,11] ?_
  exact G.done1 rfl rfl .nil ⟨congrArg Value.bool (by first | exact (decide_eq_true (by omega)).symm | (rw [decide_eq_decide]; omega)), rfl⟩
 refine go [3,3,3,3,4,3,5,3,10,2,2,1,7,8,11] ?_
 exact G.done1 rfl rfl .nil ⟨congrArg Value.bool (by first | exact (decide_eq_true (by omega)).symm | (rw [decide_eq_decide]; omega)), rfl⟩
end Go.Proofs.YtngbglhmiefcpaaGreat
