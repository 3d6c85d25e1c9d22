/- Contract of layer 3: a text read as an ID. Conditions: none. -/
import Derived.Test.YtcgknadodpdblaaDigU
set_option linter.unusedVariables false
set_option linter.unusedSimpArgs false
namespace Go.Proofs.Ytcgknadodpdblaa
open Go.RowKit

/-- a digit of sixteen, or 16 -/
def hexV (c : UInt8) : Nat := if 48 ≤ c.toNat ∧ c.toNat ≤ 57 then c.toNat - 48 else if 97 ≤ c.toNat ∧ c.toNat ≤ 102 then c.toNat - 87 else 16
theorem hexV_le (c : UInt8) : hexV c ≤ 16 := by
  unfold hexV
  split
  · omega
  · split <;> omega
theorem hexV_index (c : UInt8) : Lib.indexByte digits.data.toList ((c.toNat : Int)).toNat.toUInt8 = if hexV c = 16 then -1 else (hexV c : Int) := by
  have : ∀ m : Fin 256, Lib.indexByte digits.data.toList ((((UInt8.ofNat m.val).toNat : Int)).toNat.toUInt8) = if hexV (UInt8.ofNat m.val) = 16 then -1 else (hexV (UInt8.ofNat m.val) : Int) := by decide +kernel
  have h := this ⟨c.toNat, c.toNat_lt⟩
  simpa using h
def hexAt (s : List UInt8) (i : Nat) : Nat := hexV (s.getD i 0)
/-- an ID's byte j behind k digits -/
def parTo (s : List UInt8) (k j : Nat) : Nat := if 2 * j + 2 ≤ k then 16 * hexAt s (2 * j) + hexAt s (2 * j + 1) else if 2 * j + 1 ≤ k then hexAt s (2 * j) else 0
def parF (s : List UInt8) (k j : Nat) : Value := .int .u8 ((parTo s k j : Nat) : Int)
/-- no digit among the first k that is none -/
def Fine (s : List UInt8) (k : Nat) : Prop := ∀ i, i < k → hexAt s i < 16
def badAt (s : List UInt8) : Nat := s.findIdx fun c => decide (hexV c = 16)
def parseE (s : List UInt8) : Int := if badAt s < s.length ∨ s.length ≠ 32 then 4 else 0
def parseAt (s : List UInt8) : Int := if badAt s < s.length then badAt s else if s.length ≠ 32 then min (s.length : Int) 32 else 0
def parseB (s : List UInt8) : List UInt8 := if badAt s < s.length ∨ s.length ≠ 32 then List.replicate 16 0 else (List.range 16).map fun j => UInt8.ofNat (16 * hexAt s (2 * j) + hexAt s (2 * j + 1))
def faultV (e a : Int) : Value := .agg #[.int .i64 e, .int .i64 a]
def parsed (s : List UInt8) : Value := .tuple #[aggB (parseB s), faultV (parseE s) (parseAt s)]
theorem hexAt_eq (s : List UInt8) (i : Nat) (hi : i < s.length) : hexAt s i = hexV s[i] := by simp [hexAt, List.getD, hi]
theorem parse_bad (s : List UInt8) (k : Nat) (hk : k < s.length) (hf : Fine s k) (h : hexV s[k] = 16) : parseE s = 4 ∧ parseAt s = (k : Int) ∧ parseB s = List.replicate 16 0 := by
  have e : badAt s = k := by
    unfold badAt
    rw [List.findIdx_eq hk]
    refine ⟨by simp [h], fun j hj => ?_⟩
    have := hf j hj
    rw [hexAt_eq s j (by omega)] at this
    simp
    omega
  unfold parseE parseAt parseB
  rw [e]
  simp [hk]
theorem parse_fine (s : List UInt8) (hf : Fine s s.length) : badAt s = s.length := by
  unfold badAt
  rw [List.findIdx_eq_length]
  intro x hx
  obtain ⟨i, hi, rfl⟩ := List.getElem_of_mem hx
  have := hf i hi
  rw [hexAt_eq s i hi] at this
  simp
  omega
theorem parse_fine16 (s : List UInt8) (h : badAt s = s.length) : Fine s s.length := by
  intro i hi
  unfold badAt at h
  rw [List.findIdx_eq_length] at h
  have := h s[i] (List.getElem_mem hi)
  have h16 := hexV_le s[i]
  rw [hexAt_eq s i hi]
  simp at this
  omega
theorem index_str (s : List UInt8) (k : Nat) (hk : k < s.length) (w : World) : (Instr.index 9 (.string (strB s)) (.int .i64 (k : Int))).run Try.prog w = .ok (.int .u8 ((s[k]).toNat : Int)) w := by
  rw [run_index_string w _ _ _ _ Try.underlying9, dif_pos ⟨by omega, by show (k : Int) < (s.toArray.size : Nat); simp; omega⟩]
  simp [strB]
  rfl
theorem results_two {P : Program} {fn : Func} {p q : Tmp} {ty ty' : TypeId} (h : fn.results = #[.cell p ty, .cell q ty']) (tmps : Array Value) (w : World) (g g' : Nat) (t t' : TypeId) (cs cs' : Array Value) (fr fr' : Nat × Nat) (d d' : TypeDesc)
    (hp : tmps.getD p undef = .pointer (some ⟨g, 0, none⟩)) (hg : w.heap[g]? = some (.cells cs t fr)) (hq : tmps.getD q undef = .pointer (some ⟨g', 0, none⟩)) (hg' : w.heap[g']? = some (.cells cs' t' fr'))
    (hu : P.underlying ty = some d) (hd : (match d with | .struct _ | .array _ _ => true | _ => false) = true) (hi : (P.info? ty).map (·.size) = some cs.size)
    (hu' : P.underlying ty' = some d') (hd' : (match d' with | .struct _ | .array _ _ => true | _ => false) = true) (hi' : (P.info? ty').map (·.size) = some cs'.size) :
    (results fn tmps).run P w = .ok (.tuple #[.agg cs, .agg cs']) w := by
  have hp' : tmps[p]?.getD undef = .pointer (some ⟨g, 0, none⟩) := by simpa using hp
  have hq' : tmps[q]?.getD undef = .pointer (some ⟨g', 0, none⟩) := by simpa using hq
  simp [results, h, hp', hq', asAddr, run_loadVar_row w g t ty cs fr d hg hu hd hi, run_loadVar_row w g' t' ty' cs' fr' d' hg' hu' hd' hi']

/-- what lies in memory while a text is read -/
structure ParAt (w wr : World) (n b : Nat) (s : List UInt8) (k : Nat) : Prop where
  below : Below n w wr
  r0 : wr.rowIs n 28 16 (fun _ => .int .u8 0)
  r1 : wr.rowIs (n + 1) 48 2 (fun _ => .int .i64 0)
  r2 : wr.rowIs b 28 16 (parF s k)
theorem ParAt.skip {w wr : World} {n b : Nat} {s : List UInt8} {k : Nat} (h : ParAt w wr n b s k) (hk : 32 ≤ k) : ParAt w wr n b s (k + 1) :=
  ⟨h.below, h.r0, h.r1, h.r2.congr fun i hi => by unfold parF parTo; rw [if_pos (by omega), if_pos (by omega)]⟩
theorem or16 (a b : Nat) (ha : a < 16) (hb : b < 16) : bits BinOp.or IntKind.u8 ((a : Int) * 16) (b : Int) = 16 * (a : Int) + b := by
  have : ∀ x y : Fin 16, bits BinOp.or IntKind.u8 ((x.val : Int) * 16) (y.val : Int) = 16 * (x.val : Int) + y.val := by decide +kernel
  exact this ⟨a, ha⟩ ⟨b, hb⟩
theorem fine_succ {s : List UInt8} {k : Nat} (hf : Fine s k) (h : hexAt s k < 16) : Fine s (k + 1) := fun i hi => by
  rcases Nat.lt_or_ge i k with h1 | h1
  · exact hf i h1
  · rw [show i = k by omega]; exact h
theorem parTo_old (s : List UInt8) (k h : Nat) (hk : k = 2 * h ∨ k = 2 * h + 1) (hf : Fine s k) : parTo s k h < 16 := by
  unfold parTo
  rw [if_neg (by omega)]
  split
  · exact hf _ (by omega)
  · omega
theorem parTo_new (s : List UInt8) (k h : Nat) (hk : k = 2 * h ∨ k = 2 * h + 1) : parTo s (k + 1) h = 16 * parTo s k h + hexAt s k := by
  unfold parTo
  rcases hk with rfl | rfl
  · rw [if_neg (by omega), if_pos (by omega), if_neg (by omega), if_neg (by omega)]; omega
  · rw [if_pos (by omega), if_neg (by omega), if_pos (by omega)]
theorem parTo_else (s : List UInt8) (k h i : Nat) (hk : k = 2 * h ∨ k = 2 * h + 1) (hi : i ≠ h) : parTo s (k + 1) i = parTo s k i := by
  unfold parTo
  by_cases h1 : 2 * i + 2 ≤ k
  · rw [if_pos (by omega), if_pos h1]
  · rw [if_neg (by omega), if_neg h1]
    by_cases h2 : 2 * i + 1 ≤ k
    · rw [if_pos (by omega), if_pos h2]
    · rw [if_neg (by omega), if_neg h2]
theorem ParAt.put {w wr : World} {n b : Nat} {s : List UInt8} {k h : Nat} (hE : ParAt w wr n b s k) (hk : k = 2 * h ∨ k = 2 * h + 1) (hh : h < 16) (hb : n + 1 < b) : ParAt w (wr.setCell ⟨b, h, none⟩ (.int .u8 (16 * (parTo s k h : Int) + (hexAt s k : Int)))) n b s (k + 1) where
  below := hE.below.setCell (show n ≤ b by omega) _
  r0 := (Chg.refl (· = b) wr).setCell rfl _ |>.row hE.r0 (show n ≠ b by omega)
  r1 := (Chg.refl (· = b) wr).setCell rfl _ |>.row hE.r1 (show n + 1 ≠ b by omega)
  r2 := (hE.r2.set h _).congr fun i hi => by
    unfold parF
    by_cases e : i = h
    · rw [if_pos e, e, parTo_new s k h hk, Int.natCast_add, Int.natCast_mul]; rfl
    · rw [if_neg e, parTo_else s k h i hk e]
theorem parsed_bad (s : List UInt8) (a : Int) (h1 : parseE s = 4) (h2 : parseAt s = a) (h3 : parseB s = List.replicate 16 0) : Ending.returned (.tuple #[.agg (rowArr 16 fun _ => Value.int .u8 0), .agg #[.int .i64 4, .int .i64 a]]) = Ending.returned (parsed s) := by
  unfold parsed
  rw [h1, h2, h3]
  rfl
theorem parsed_ok (s : List UInt8) (h1 : s.length = 32) (h2 : badAt s = s.length) : Ending.returned (.tuple #[.agg (rowArr 16 (parF s s.length)), .agg #[.int .i64 0, .int .i64 0]]) = Ending.returned (parsed s) := by
  have e1 : parseE s = 0 := by unfold parseE; rw [if_neg (by omega)]
  have e2 : parseAt s = 0 := by unfold parseAt; rw [if_neg (by omega), if_neg (by omega)]
  have e3 : rowArr 16 (parF s s.length) = ((parseB s).flatMap encByte).toArray := by
    unfold parseB
    rw [if_neg (by omega)]
    rw [← rowArr_bytes _ 16 (by simp)]
    unfold rowArr
    congr 1
    apply List.map_congr_left
    intro j hj
    have hj : j < 16 := by simpa using hj
    unfold parF byteF byteM parTo
    rw [if_pos (by omega)]
    have h3 := parse_fine16 s h2
    have a := h3 (2 * j) (by omega)
    have b := h3 (2 * j + 1) (by omega)
    simp [List.getD, hj]
    omega
  unfold parsed aggB
  rw [e1, e2, e3]
  rfl
theorem parse_short (s : List UInt8) (h1 : s.length ≠ 32) (h2 : badAt s = s.length) : parseE s = 4 ∧ parseAt s = min (s.length : Int) 32 ∧ parseB s = List.replicate 16 0 := by
  unfold parseE parseAt parseB
  rw [if_pos (Or.inr h1), if_pos (Or.inr h1), if_neg (by omega), if_pos h1]
  exact ⟨rfl, rfl, rfl⟩
theorem faultOne (e a : Int) : (#[Value.int .i64 e, .int .i64 a]).all (·.oneCell') = true := by
  rw [List.all_toArray]
  rfl
set_option maxHeartbeats 1000000 in
set_option maxRecDepth 20000 in
theorem parse_any (s : List UInt8) (hs : s.length < 2 ^ 62) (w : World) : Calls Try.prog 22 #[.string (strB s)] w fun e w' => e = .returned (parsed s) ∧ Below w.heap.size w w' := by
  obtain ⟨n, hn⟩ : ∃ n, n = s.length := ⟨_, rfl⟩
  have hbs : n < 4611686018427387904 := by rw [hn]; exact hs
  have hidx := index_str s
  obtain ⟨sb, hsb⟩ : ∃ sb, sb = strB s := ⟨_, rfl⟩
  have hlen : sb.size = n := by rw [hsb, hn]; show s.toArray.size = _; simp
  rw [← hsb] at hidx ⊢
  have HN := Lib.hid hn; have HIDX := Lib.hid hidx
  clear hn hsb hs hidx
  obtain ⟨Z, hZ⟩ : ∃ Z, Z = rowArr 16 fun _ => Value.int .u8 0 := ⟨_, rfl⟩
  have hZs : Z.size = 16 := by rw [hZ]; rfl
  have hZ1 : Z.all (·.oneCell') = true := by rw [hZ]; decide +kernel
  have HZ := Lib.hid hZ; clear hZ
  have h28 : (Try.prog.info? 28).map (·.size) = some 16 := by kernel_rfl
  have h48 : (Try.prog.info? 48).map (·.size) = some 2 := by kernel_rfl
  go_enter Try.func22, Try.ntmps22
  go_upto_region 2 with fail
  generalize hWA : World.alloc w _ = WA
  generalize hWB : World.alloc WA _ = WB
  generalize hW1 : World.alloc WB _ = W1
  have rA : WA.rowIs w.heap.size 28 16 (fun _ => .int .u8 0) := by subst hWA; exact zeros_row w _ _ _ 16 (by kernel_rfl)
  have zA : WA.heap.size = w.heap.size + 1 := by subst hWA; simp
  have bA : Below w.heap.size w WA := by subst hWA; exact (Below.refl _ _).alloc (Nat.le_refl _) _
  have rB : WB.rowIs WA.heap.size 48 2 (fun _ => .int .i64 0) := by subst hWB; exact zeros_row WA _ _ _ 2 (by kernel_rfl)
  have zB : WB.heap.size = w.heap.size + 1 + 1 := by subst hWB; simp [zA]
  have rA' : WB.rowIs w.heap.size 28 16 (fun _ => .int .u8 0) := by subst hWB; exact rA.alloc _
  have bB : Below w.heap.size w WB := by subst hWB; exact bA.alloc (by omega) _
  have rC : W1.rowIs WB.heap.size 28 16 (fun _ => .int .u8 0) := by subst hW1; exact zeros_row WB _ _ _ 16 (by kernel_rfl)
  rw [zA] at rB
  rw [zB] at rC
  have hE0 : ParAt w W1 w.heap.size (w.heap.size + 1 + 1) s 0 := by
    subst hW1
    exact ⟨bB.alloc (by omega) _, rA'.alloc _, rB.alloc _, rC.congr fun i hi => by unfold parF parTo; rw [if_neg (by omega), if_neg (by omega)]; rfl⟩
  have HE0 := Lib.hid hE0
  clear hE0 hW1 hWA hWB rA zA bA rB zB rA' bB rC
  go_wp2_with fail
  go_loopw [5, 6, 9] (fun _ _ i wr => ∃ k : Nat, k ≤ n ∧ i = .int .i64 k ∧ Fine s k ∧ ParAt w wr w.heap.size (w.heap.size + 1 + 1) s k) (fun _ _ i _ => (n - intOf i).toNat)
  case atStart => exact ⟨0, by omega, rfl, fun i hi => by omega, HE0.out⟩
  case round =>
    obtain ⟨k, hk, rfl, hf, hE⟩ := hrel
    by_cases hlt : k < n
    · have hkl : k < s.length := by rw [← HN.out]; exact hlt
      have hidx := fun wx => HIDX.out k hkl wx
      have hhx := hexAt_eq s k hkl
      obtain ⟨c, hc⟩ : ∃ c : UInt8, c = s[k]'hkl := ⟨_, rfl⟩
      rw [← hc] at hidx hhx
      have hibx := hexV_index c
      have HE := Lib.hid hE; have HF := Lib.hid hf; have HHX := Lib.hid hhx; have HC := Lib.hid hc
      clear hE hf hhx hc
      go_wp2_with fail
      refine (Try.strings_IndexByte digits _ wr).mono ?_
      rintro e w1 ⟨he, rfl⟩
      rw [hibx] at he
      have hh17 := hexV_le c
      obtain ⟨v, hv⟩ : ∃ v, v = hexV c := ⟨_, rfl⟩
      rw [← hv] at he hh17
      have HV := Lib.hid hv; clear hv hibx
      by_cases hbad : v = 16
      · subst hbad
        rw [if_pos rfl] at he
        subst he
        obtain ⟨p1, p2, p3⟩ := parse_bad s k hkl HF.out (by rw [← HC.out, ← HV.out])
        have HP1 := Lib.hid p1; have HP2 := Lib.hid p2; have HP3 := Lib.hid p3
        clear p1 p2 p3
        obtain ⟨old, g0, hold⟩ := row_any HE.out.r0
        obtain ⟨old1, g1, hold1⟩ := row_any HE.out.r1
        have g1' := (setRow_other w1 w.heap.size (w.heap.size + 1) Z (by omega)).trans g1
        have hsz9 := HE.out.below
        go_wp2_with (first | (refine wpList_build_at Z rfl 28 _ rfl (by rw [HZ.out]; kernel_rfl) ?_) | (refine wpList_store_row rfl 28 _ _ rfl w.heap.size Z rfl rfl 28 old g0 (by rw [h28, hZs]) (by rw [hold, hZs]) hZ1 ?_) | (refine wpList_store_row rfl 48 _ _ rfl (w.heap.size + 1) #[.int .i64 4, .int .i64 (k : Int)] rfl rfl 48 old1 g1' h48 hold1 (faultOne _ _) ?_) | fail)
        have gA := (setRow_other (w1.setRow w.heap.size Z) (w.heap.size + 1) w.heap.size #[.int .i64 4, .int .i64 (k : Int)] (by omega)).trans (setRow_heap w1 w.heap.size old Z 28 (0, 0) g0)
        have gB := setRow_heap (w1.setRow w.heap.size Z) (w.heap.size + 1) old1 #[.int .i64 4, .int .i64 (k : Int)] 48 (0, 0) g1'
        exact bodyPost_ret (results_two rfl _ _ w.heap.size (w.heap.size + 1) _ _ _ _ (0, 0) (0, 0) _ _ rfl gA rfl gB Try.underlying28 rfl (by rw [h28, hZs]) Try.underlying48 rfl h48) rfl ⟨by rw [HZ.out]; exact parsed_bad s _ HP1.out HP2.out HP3.out, below_setRow (below_setRow HE.out.below (Nat.le_refl _) _) (Nat.le_succ _) _⟩
      · rw [if_neg hbad] at he
        subst he
        have hv16 : v < 16 := by omega
        have hpos : ¬ (v : Int) < 0 := by omega
        by_cases h32 : k < 32
        · obtain ⟨h, hh, hh16⟩ : ∃ h, (k = 2 * h ∨ k = 2 * h + 1) ∧ h < 16 := ⟨k / 2, by omega, by omega⟩
          have hdiv : (k : Int).tdiv 2 = (h : Int) := by rw [Int.tdiv_eq_ediv_of_nonneg (by omega)]; omega
          have hold := parTo_old s k h hh HF.out
          have q := HE.out.r2.cell hh16
          unfold parF at q
          have hput := HE.out.put hh hh16 (by omega)
          rw [HHX.out, ← HV.out] at hput
          obtain ⟨o, ho⟩ : ∃ o, o = parTo s k h := ⟨_, rfl⟩
          rw [← ho] at hold q hput
          have hor := or16 o v hold hv16
          have bh : 0 ≤ (h : Int) ∧ (h : Int) < 16 := by omega
          have hwv : IntKind.u8.wrap (v : Int) = (v : Int) := by rw [IntKind.wrap_u8]; omega
          have HPUT := Lib.hid hput; clear hput ho
          have hfz := HE.out.r2.frozen h
          go_wp2_with fail
          go_roundw
          case rel => exact ⟨k + 1, by omega, by go_num, fine_succ HF.out (by rw [HHX.out, ← HV.out]; exact hv16), HPUT.out⟩
          case measure => simp [intOf]; omega
        · go_wp2_with fail
          go_roundw
          case rel => exact ⟨k + 1, by omega, by go_num, fine_succ HF.out (by rw [HHX.out, ← HV.out]; exact hv16), HE.out.skip (by omega)⟩
          case measure => simp [intOf]; omega
    · obtain rfl : k = n := by omega
      have HE := Lib.hid hE; have HF := Lib.hid hf; clear hE hf
      have hbad := parse_fine s (by rw [← HN.out]; exact HF.out)
      obtain ⟨old, g0, hold⟩ := row_any HE.out.r0
      obtain ⟨old1, g1, hold1⟩ := row_any HE.out.r1
      by_cases h32 : k = 32
      · obtain ⟨C, hC⟩ : ∃ C, C = rowArr 16 (parF s k) := ⟨_, rfl⟩
        have g2 := rowIs_heap HE.out.r2
        rw [← hC] at g2
        have hCs : C.size = 16 := by rw [hC]; simp [rowArr]
        have hC1 : C.all (·.oneCell') = true := by
          rw [hC]
          unfold rowArr
          rw [List.all_toArray, List.all_eq_true]
          intro v hv
          obtain ⟨i, _, rfl⟩ := List.mem_map.1 hv
          rfl
        have hfin := parsed_ok s (HN.out.symm.trans h32) hbad
        rw [show s.length = k by rw [← HN.out], ← hC] at hfin
        have g1' := (setRow_other wr w.heap.size (w.heap.size + 1) C (by omega)).trans g1
        have HFIN := Lib.hid hfin; clear hfin hbad hC
        go_wp2_with (first | (refine wpList_load_row rfl 28 _ rfl (w.heap.size + 1 + 1) rfl 28 C (0, 0) _ g2 Try.underlying28 rfl (by rw [h28, hCs]) ?_) | (refine wpList_store_row rfl 28 _ _ rfl w.heap.size C rfl rfl 28 old g0 (by rw [h28, hCs]) (by rw [hold, hCs]) hC1 ?_) | (refine wpList_store_row rfl 48 _ _ rfl (w.heap.size + 1) #[.int .i64 0, .int .i64 0] rfl rfl 48 old1 g1' h48 hold1 (faultOne _ _) ?_) | fail)
        have gA := (setRow_other (wr.setRow w.heap.size C) (w.heap.size + 1) w.heap.size #[.int .i64 0, .int .i64 0] (by omega)).trans (setRow_heap wr w.heap.size old C 28 (0, 0) g0)
        have gB := setRow_heap (wr.setRow w.heap.size C) (w.heap.size + 1) old1 #[.int .i64 0, .int .i64 0] 48 (0, 0) g1'
        exact bodyPost_ret (results_two rfl _ _ w.heap.size (w.heap.size + 1) _ _ _ _ (0, 0) (0, 0) _ _ rfl gA rfl gB Try.underlying28 rfl (by rw [h28, hCs]) Try.underlying48 rfl h48) rfl ⟨HFIN.out, below_setRow (below_setRow HE.out.below (Nat.le_refl _) _) (Nat.le_succ _) _⟩
      · have hend := parse_short s (fun e => h32 (HN.out.trans e)) hbad
        rw [show s.length = k by rw [← HN.out]] at hend
        obtain ⟨p1, p2, p3⟩ := hend
        have HP1 := Lib.hid p1; have HP2 := Lib.hid p2; have HP3 := Lib.hid p3
        clear p1 p2 p3 hbad
        have g1' := (setRow_other wr w.heap.size (w.heap.size + 1) Z (by omega)).trans g1
        go_wp2_with (first | (refine wpList_build_at Z rfl 28 _ rfl (by rw [HZ.out]; kernel_rfl) ?_) | (refine wpList_store_row rfl 28 _ _ rfl w.heap.size Z rfl rfl 28 old g0 (by rw [h28, hZs]) (by rw [hold, hZs]) hZ1 ?_) | (refine wpList_store_row rfl 48 _ _ rfl (w.heap.size + 1) _ rfl rfl 48 old1 g1' h48 hold1 (faultOne _ _) ?_) | fail)
        have gA := (setRow_other (wr.setRow w.heap.size Z) (w.heap.size + 1) w.heap.size #[.int .i64 4, .int .i64 (min (k : Int) 32)] (by omega)).trans (setRow_heap wr w.heap.size old Z 28 (0, 0) g0)
        have gB := setRow_heap (wr.setRow w.heap.size Z) (w.heap.size + 1) old1 #[.int .i64 4, .int .i64 (min (k : Int) 32)] 48 (0, 0) g1'
        exact bodyPost_ret (results_two rfl _ _ w.heap.size (w.heap.size + 1) _ _ _ _ (0, 0) (0, 0) _ _ rfl gA rfl gB Try.underlying28 rfl (by rw [h28, hZs]) Try.underlying48 rfl h48) rfl ⟨by rw [HZ.out]; exact parsed_bad s _ HP1.out HP2.out HP3.out, below_setRow (below_setRow HE.out.below (Nat.le_refl _) _) (Nat.le_succ _) _⟩
end Go.Proofs.Ytcgknadodpdblaa
