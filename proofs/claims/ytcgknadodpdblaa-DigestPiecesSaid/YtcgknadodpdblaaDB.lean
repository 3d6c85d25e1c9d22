/- The statement DigestBack. Conditions: none. -/
import Derived.Test.YtcgknadodpdblaaW9
import Derived.Test.YtcgknadodpdblaaDigV
import Derived.Test.YtcgknadodpdblaaDigL
set_option linter.unusedVariables false
set_option linter.unusedSimpArgs false
namespace Go.Proofs.Ytcgknadodpdblaa
open Go.RowKit

theorem Tr.ofCalls {P : Program} {f : FuncId} {args : Array Value} {v : Value} (h : ∀ w, Calls P f args w fun e w' => e = .returned v ∧ Below w.heap.size w w') : Tr P f args [] [] (T0 v) := fun w _ _ =>
  (h w).mono fun e w' ⟨he, hb⟩ => ⟨v, [], he, ⟨rfl, rfl⟩, ⟨(Chg.none_of_below hb).mono fun b hb => hb.elim, by simp, by simp, .nil⟩⟩
theorem aggB_eq (l : List UInt8) : aggB l = .agg (l.map vByte).toArray := by
  unfold aggB
  congr 2
  induction l with
  | nil => rfl
  | cons b l ih => rw [List.flatMap_cons, List.map_cons, ih]; rfl
theorem awakeT : Tr Try.prog 10 #[] [] [] (T0 (.bool true)) := Tr.ofCalls awake_any
theorem textT (id : List UInt8) (hid : id.length = 16) : Tr Try.prog 24 #[.agg (id.map vByte).toArray] [] [] (T0 (.string (sB (textM id)))) := by
  rw [← aggB_eq]
  exact Tr.ofCalls (text_any id hid)
theorem parseT (s : List UInt8) (hs : s.length < 2 ^ 62) : Tr Try.prog 22 #[.string (sB s)] [] [] (T0 (.tuple #[.agg ((parseB s).map vByte).toArray, .agg #[.int .i64 (parseE s), .int .i64 (parseAt s)]])) := by
  rw [← aggB_eq]
  exact Tr.ofCalls (parse_any s hs)
theorem hexVN : ∀ n, n < 16 → hexV (hexN n) = n := by decide +kernel
theorem hexNV (c : UInt8) (h : hexV c < 16) : hexN (hexV c) = c := by
  have : ∀ m : Fin 256, hexV (UInt8.ofNat m.val) < 16 → hexN (hexV (UInt8.ofNat m.val)) = UInt8.ofNat m.val := by decide +kernel
  have h2 := this ⟨c.toNat, c.toNat_lt⟩
  simp only [UInt8.ofNat_toNat] at h2
  exact h2 h
theorem textM_length (id : List UInt8) : (textM id).length = 2 * id.length := by
  induction id with
  | nil => rfl
  | cons b id ih => simp only [textM, List.flatMap_cons, List.length_append, List.length_cons, List.length_nil] at *; omega
theorem textM_get : ∀ (id : List UInt8) (j : Nat) (h : j < id.length), (textM id)[2 * j]? = some (hexN (id[j].toNat / 16)) ∧ (textM id)[2 * j + 1]? = some (hexN (id[j].toNat % 16))
  | b :: id, 0, _ => ⟨rfl, rfl⟩
  | b :: id, j + 1, h => by
    have := textM_get id j (by simpa using h)
    have e : textM (b :: id) = hexN (b.toNat / 16) :: hexN (b.toNat % 16) :: textM id := rfl
    rw [e, show 2 * (j + 1) = 2 * j + 1 + 1 by omega, List.getElem?_cons_succ, List.getElem?_cons_succ, List.getElem?_cons_succ, List.getElem?_cons_succ]
    simpa using this
theorem hexAt_of {s : List UInt8} {i : Nat} {c : UInt8} (h : s[i]? = some c) : hexAt s i = hexV c := by
  obtain ⟨hl, rfl⟩ := List.getElem?_eq_some_iff.1 h
  exact hexAt_eq s i hl
theorem fine_of {s : List UInt8} (h : ∀ c ∈ s, hexV c < 16) : badAt s = s.length := by
  unfold badAt
  rw [List.findIdx_eq_length]
  intro c hc
  have := h c hc
  simp; omega
theorem fine_to {s : List UInt8} (h : ¬ badAt s < s.length) : ∀ c ∈ s, hexV c < 16 := fun c hc => by
  have hb : badAt s = s.length := by
    have : badAt s ≤ s.length := List.findIdx_le_length
    omega
  unfold badAt at hb
  rw [List.findIdx_eq_length] at hb
  have := hb c hc
  have h2 := hexV_le c
  simp at this
  omega
theorem textM_fine (id : List UInt8) : ∀ c ∈ textM id, hexV c < 16 := fun c hc => by
  obtain ⟨b, _, hb⟩ := List.mem_flatMap.1 hc
  have hlt := b.toNat_lt
  simp at hb
  rcases hb with rfl | rfl
  · rw [hexVN _ (by omega)]; omega
  · rw [hexVN _ (by omega)]; omega
theorem text_fine {id : List UInt8} (hid : id.length = 16) : ¬ (badAt (textM id) < (textM id).length ∨ (textM id).length ≠ 32) := by
  rw [fine_of (textM_fine id), textM_length, hid]
  omega
theorem back_E {id : List UInt8} (hid : id.length = 16) : parseE (textM id) = 0 := if_neg (text_fine hid)
theorem back_B {id : List UInt8} (hid : id.length = 16) : parseB (textM id) = id := by
  unfold parseB
  rw [if_neg (text_fine hid)]
  refine List.ext_getElem (by simp [hid]) fun j h1 h2 => ?_
  have hg := textM_get id j h2
  have hlt := id[j].toNat_lt
  simp only [List.getElem_map, List.getElem_range, hexAt_of hg.1, hexAt_of hg.2, hexVN _ (show id[j].toNat / 16 < 16 by omega), hexVN _ (show id[j].toNat % 16 < 16 by omega)]
  rw [show 16 * (id[j].toNat / 16) + id[j].toNat % 16 = id[j].toNat by omega]
  simp
theorem parseB_length (s : List UInt8) : (parseB s).length = 16 := by unfold parseB; split <;> simp
theorem parse_wrong {s : List UInt8} (h : parseE s ≠ 0) : parseE s = 4 ∧ parseB s = List.replicate 16 0 ∧ 0 ≤ parseAt s ∧ parseAt s ≤ s.length := by
  unfold parseE at h ⊢
  split at h
  · rename_i hc
    refine ⟨if_pos hc, if_pos hc, ?_⟩
    unfold parseAt
    split
    · omega
    · split <;> omega
  · exact absurd rfl h
theorem parse_right {s : List UInt8} (h : parseE s = 0) : textM (parseB s) = s := by
  unfold parseE at h
  split at h
  · cases h
  · rename_i hc
    have hl : s.length = 32 := by omega
    have hf := fine_to (s := s) (by omega)
    refine List.ext_getElem? fun i => ?_
    rcases Nat.lt_or_ge i 32 with hi | hi
    · have hB : ∀ j (hj : j < 16), (parseB s)[j]'(by rw [parseB_length]; exact hj) = UInt8.ofNat (16 * hexV (s[2 * j]'(by omega)) + hexV (s[2 * j + 1]'(by omega))) := fun j hj => by
        have : parseB s = (List.range 16).map fun j => UInt8.ofNat (16 * hexAt s (2 * j) + hexAt s (2 * j + 1)) := if_neg hc
        simp only [this, List.getElem_map, List.getElem_range]
        rw [hexAt_eq s (2 * j) (by omega), hexAt_eq s (2 * j + 1) (by omega)]
      have hj : i / 2 < 16 := by omega
      have hg := textM_get (parseB s) (i / 2) (by rw [parseB_length]; exact hj)
      rw [hB _ hj] at hg
      have h1 := hf _ (List.getElem_mem (show 2 * (i / 2) < s.length by omega))
      have h2 := hf _ (List.getElem_mem (show 2 * (i / 2) + 1 < s.length by omega))
      have e : (UInt8.ofNat (16 * hexV (s[2 * (i / 2)]'(by omega)) + hexV (s[2 * (i / 2) + 1]'(by omega)))).toNat = 16 * hexV (s[2 * (i / 2)]'(by omega)) + hexV (s[2 * (i / 2) + 1]'(by omega)) := by
        rw [UInt8.toNat_ofNat']
        omega
      rw [e] at hg
      rcases Nat.mod_two_eq_zero_or_one i with h0 | h0
      · have ei : i = 2 * (i / 2) := by omega
        rw [ei, hg.1, List.getElem?_eq_getElem (by omega), show ∀ a b : Nat, b < 16 → (16 * a + b) / 16 = a from fun a b hb => by omega]
        · rw [hexNV _ h1]
        · exact h2
      · have ei : i = 2 * (i / 2) + 1 := by omega
        rw [ei, hg.2, List.getElem?_eq_getElem (by omega), show ∀ a b : Nat, b < 16 → (16 * a + b) % 16 = b from fun a b hb => by omega]
        · rw [hexNV _ h2]
        · exact h2
    · rw [List.getElem?_eq_none (by rw [textM_length, parseB_length]; omega), List.getElem?_eq_none (by omega)]
set_option maxRecDepth 20000 in

theorem back_tr (id s : List UInt8) (hid : id.length = 16) (hs : s.length ≤ 9223372036854775807) : Tr Try.prog 7 #[.agg (id.map vByte).toArray, .string (sB s)] [] [] (T0 (.bool true)) := by
  refine Tr.of (l := [(0, .agg (id.map vByte).toArray), (1, .string (sB s))]) Try.func7 rfl (n := 82) rfl (.cons rfl (.cons rfl .nil)) (fun w0 hro => ?_)
  have hpl := parseB_length s
  refine G.seq ?_
  refine G.region ?_
  refine G.op rfl (G.box (cs := id.map vByte) rfl rfl rfl ?_)
  intro b2
  refine G.op rfl (G.val rfl rfl (pv_assign rfl) ?_)
  refine G.nil ?_
  refine G.nThen ?_
  refine G.seq ?_
  refine G.region ?_
  refine G.op rfl (G.call0 rfl rfl rfl rfl Try.func10 rfl rfl (awakeT) may0 ?_)
  refine G.op rfl (G.val rfl rfl (pv_assign rfl) ?_)
  refine G.nil ?_
  refine G.nThen ?_
  refine G.seq ?_
  refine G.seq ?_
  refine G.region ?_
  refine G.op rfl (G.val rfl rfl (pv_move rfl) ?_)
  refine G.op rfl (G.val rfl rfl (pv_lenS Try.underlying9 rfl) ?_)
  refine G.op rfl (G.val rfl rfl (pv_gtr rfl rfl) ?_)
  refine G.nil ?_
  refine G.nThen ?_
  refine G.condP rfl (fun h14 => ?_) (fun h14 => ?_)
  · refine G.seq ?_
    refine G.region ?_
    refine G.op rfl (G.val rfl rfl (pv_move rfl) ?_)
    refine G.op rfl (G.val rfl rfl (pv_assign rfl) ?_)
    refine G.nil ?_
    refine G.nThen ?_
    refine G.ret ?_
    refine G.rThen ?_
    exact G.done1 rfl rfl .nil ⟨rfl, rfl⟩
  · refine G.skip ?_
    refine G.nThen ?_
    refine G.seq ?_
    refine G.region ?_
    refine G.op rfl (G.val rfl rfl (pv_loadN (cs := id.map vByte) Try.underlying27 rfl (by rw [List.length_map, hid]; kernel_rfl) rfl (blk_range (k := 16) (by repeat (first | with_reducible exact Sel.here | exact Sel.here | apply Sel.there)) (List.take_of_length_le (by rw [List.drop_zero, List.length_map, hid]; exact Nat.le_refl _)))) ?_)
    refine G.op rfl (G.call0 rfl rfl rfl rfl Try.func24 rfl rfl (textT id hid) may0 ?_)
    refine G.op rfl (G.val rfl rfl (pv_assign rfl) ?_)
    refine G.nil ?_
    refine G.nThen ?_
    refine G.seq ?_
    refine G.region ?_
    refine G.op rfl (G.val rfl rfl (pv_move rfl) ?_)
    refine G.op rfl (G.call0 rfl rfl rfl rfl Try.func22 rfl rfl (parseT (textM id) (by rw [textM_length, hid]; decide)) may0 ?_)
    rw [back_B hid, back_E hid]
    refine G.op rfl (G.val rfl rfl (pv_move rfl) ?_)
    refine G.op rfl (G.val rfl rfl (pv_extract rfl rfl) ?_)
    refine G.op rfl (G.val rfl rfl (pv_extract rfl rfl) ?_)
    refine G.op rfl (G.alloc (z := .agg #[.int .u8 0, .int .u8 0, .int .u8 0, .int .u8 0, .int .u8 0, .int .u8 0, .int .u8 0, .int .u8 0, .int .u8 0, .int .u8 0, .int .u8 0, .int .u8 0, .int .u8 0, .int .u8 0, .int .u8 0, .int .u8 0]) (cs := [.int .u8 0, .int .u8 0, .int .u8 0, .int .u8 0, .int .u8 0, .int .u8 0, .int .u8 0, .int .u8 0, .int .u8 0, .int .u8 0, .int .u8 0, .int .u8 0, .int .u8 0, .int .u8 0, .int .u8 0, .int .u8 0]) rfl (by kernel_rfl) rfl ?_)
    intro b7
    refine G.op rfl (G.alloc (z := .agg #[.int .i64 0, .int .i64 0]) (cs := [.int .i64 0, .int .i64 0]) rfl (by kernel_rfl) rfl ?_)
    intro b8
    refine G.op rfl (G.storeN (vs := id.map vByte) (by rw [List.length_map, hid]; kernel_rfl) rfl rfl (List.all_eq_true.2 (vByte_one _)) (by repeat (first | with_reducible exact Sel.here | exact Sel.here | apply Sel.there)) (by simp [hid]) ?_)
    rw [show putN [Value.int .u8 0, Value.int .u8 0, Value.int .u8 0, Value.int .u8 0, Value.int .u8 0, Value.int .u8 0, Value.int .u8 0, Value.int .u8 0, Value.int .u8 0, Value.int .u8 0, Value.int .u8 0, Value.int .u8 0, Value.int .u8 0, Value.int .u8 0, Value.int .u8 0, Value.int .u8 0] 0 (id.map vByte) = id.map vByte from putN_all _ _ [] (by rw [List.length_map, hid]; rfl)]
    refine G.op rfl (G.storeN (vs := [.int .i64 0, .int .i64 (parseAt (textM id))]) (by kernel_rfl) rfl rfl rfl (by repeat (first | with_reducible exact Sel.here | exact Sel.here | apply Sel.there)) (by simp) ?_)
    refine G.nil ?_
    refine G.nThen ?_
    refine G.seq ?_
    refine G.seq ?_
    refine G.region ?_
    refine G.op rfl (G.val rfl rfl (pv_move rfl) ?_)
    refine G.op rfl (G.val rfl rfl (pv_lenS Try.underlying9 rfl) ?_)
    refine G.op rfl (G.val rfl rfl ((pv_neq rfl rfl).cast (v' := .bool false) (congrArg Value.bool (by rw [textM_length, hid]; rfl))) ?_)
    refine G.op rfl (G.val rfl rfl (pv_move rfl) ?_)
    refine G.want rfl rfl rfl (G.val rfl rfl (pv_loadN (cs := id.map vByte) Try.underlying28 rfl (by rw [List.length_map, hid]; kernel_rfl) rfl (blk_range (k := 16) (by repeat (first | with_reducible exact Sel.here | exact Sel.here | apply Sel.there)) (List.take_of_length_le (by rw [List.drop_zero, List.length_map, hid]; exact Nat.le_refl _)))) ?_)
    refine G.want rfl rfl rfl (G.val rfl rfl (pv_loadN (cs := id.map vByte) Try.underlying27 rfl (by rw [List.length_map, hid]; kernel_rfl) rfl (blk_range (k := 16) (by repeat (first | with_reducible exact Sel.here | exact Sel.here | apply Sel.there)) (List.take_of_length_le (by rw [List.drop_zero, List.length_map, hid]; exact Nat.le_refl _)))) ?_)
    refine G.want rfl rfl rfl (G.val rfl rfl ((pv_neqAr8 (a := id) (b := id) Try.underlying28 rfl (by kernel_rfl) Try.underlying5 (by kernel_rfl) rfl rfl hid hid).cast (v' := .bool false) (congrArg Value.bool (by simp))) ?_)
    refine G.op rfl (G.val rfl rfl (pv_pick rfl rfl) ?_)
    refine G.op rfl (G.val rfl rfl (pv_move rfl) ?_)
    refine G.want rfl rfl rfl (G.val rfl rfl (pv_fieldAddr (sz := 0) Try.underlying48 rfl (by kernel_rfl) rfl) ?_)
    refine G.want rfl rfl rfl (G.val rfl rfl (pv_load Try.underlying46 rfl rfl (blk_cell (v := .int .i64 (0)) (by repeat (first | with_reducible exact Sel.here | exact Sel.here | apply Sel.there)) rfl)) ?_)
    refine G.want rfl rfl rfl (G.val rfl rfl ((pv_neq rfl rfl).cast (v' := .bool false) (congrArg Value.bool (by rfl))) ?_)
    refine G.op rfl (G.val rfl rfl (pv_pick rfl rfl) ?_)
    refine G.nil ?_
    refine G.nThen ?_
    refine G.condF rfl (rfl) ?_
    refine G.skip ?_
    refine G.nThen ?_
    refine G.seq ?_
    refine G.region ?_
    refine G.op rfl (G.val rfl rfl (pv_move rfl) ?_)
    refine G.op rfl (G.call0 rfl rfl rfl rfl Try.func22 rfl rfl (parseT s (by omega)) may0 ?_)
    refine G.op rfl (G.val rfl rfl (pv_move rfl) ?_)
    refine G.op rfl (G.val rfl rfl (pv_extract rfl rfl) ?_)
    refine G.op rfl (G.val rfl rfl (pv_extract rfl rfl) ?_)
    refine G.op rfl (G.alloc (z := .agg #[.int .u8 0, .int .u8 0, .int .u8 0, .int .u8 0, .int .u8 0, .int .u8 0, .int .u8 0, .int .u8 0, .int .u8 0, .int .u8 0, .int .u8 0, .int .u8 0, .int .u8 0, .int .u8 0, .int .u8 0, .int .u8 0]) (cs := [.int .u8 0, .int .u8 0, .int .u8 0, .int .u8 0, .int .u8 0, .int .u8 0, .int .u8 0, .int .u8 0, .int .u8 0, .int .u8 0, .int .u8 0, .int .u8 0, .int .u8 0, .int .u8 0, .int .u8 0, .int .u8 0]) rfl (by kernel_rfl) rfl ?_)
    intro b9
    refine G.op rfl (G.alloc (z := .agg #[.int .i64 0, .int .i64 0]) (cs := [.int .i64 0, .int .i64 0]) rfl (by kernel_rfl) rfl ?_)
    intro b10
    refine G.op rfl (G.storeN (vs := (parseB s).map vByte) (by rw [List.length_map, hpl]; kernel_rfl) rfl rfl (List.all_eq_true.2 (vByte_one _)) (by repeat (first | with_reducible exact Sel.here | exact Sel.here | apply Sel.there)) (by simp [hpl]) ?_)
    rw [show putN [Value.int .u8 0, Value.int .u8 0, Value.int .u8 0, Value.int .u8 0, Value.int .u8 0, Value.int .u8 0, Value.int .u8 0, Value.int .u8 0, Value.int .u8 0, Value.int .u8 0, Value.int .u8 0, Value.int .u8 0, Value.int .u8 0, Value.int .u8 0, Value.int .u8 0, Value.int .u8 0] 0 ((parseB s).map vByte) = (parseB s).map vByte from putN_all _ _ [] (by rw [List.length_map, hpl]; rfl)]
    refine G.op rfl (G.storeN (vs := [.int .i64 (parseE s), .int .i64 (parseAt s)]) (by kernel_rfl) rfl rfl rfl (by repeat (first | with_reducible exact Sel.here | exact Sel.here | apply Sel.there)) (by simp) ?_)
    refine G.nil ?_
    refine G.nThen ?_
    refine G.seq ?_
    refine G.seq ?_
    refine G.region ?_
    refine G.op rfl (G.val rfl rfl (pv_fieldAddr (sz := 0) Try.underlying48 rfl (by kernel_rfl) rfl) ?_)
    refine G.op rfl (G.val rfl rfl (pv_load Try.underlying46 rfl rfl (blk_cell (v := .int .i64 (parseE s)) (by repeat (first | with_reducible exact Sel.here | exact Sel.here | apply Sel.there)) rfl)) ?_)
    refine G.op rfl (G.val rfl rfl (pv_neq rfl rfl) ?_)
    refine G.nil ?_
    refine G.nThen ?_
    refine G.condP rfl (fun h43 => ?_) (fun h43 => ?_)
    · obtain ⟨hE, hB, hA0, hA1⟩ := parse_wrong h43
      refine G.seq ?_
      refine G.region ?_
      refine G.op rfl (G.val rfl rfl (pv_move rfl) ?_)
      refine G.op rfl (G.val rfl rfl (pv_move rfl) ?_)
      refine G.want rfl rfl rfl (G.val rfl rfl (pv_loadN (cs := (parseB s).map vByte) Try.underlying28 rfl (by rw [List.length_map, hpl]; kernel_rfl) rfl (blk_range (k := 16) (by repeat (first | with_reducible exact Sel.here | exact Sel.here | apply Sel.there)) (List.take_of_length_le (by rw [List.drop_zero, List.length_map, hpl]; exact Nat.le_refl _)))) ?_)
      refine G.want rfl rfl rfl (G.val rfl rfl (pv_build (cells := ((List.replicate 16 (0 : UInt8)).map vByte).toArray) (fun a ha => ha.pevs rfl) (by kernel_rfl)) ?_)
      refine G.want rfl rfl rfl (G.val rfl rfl ((pv_eqlAr8 (a := parseB s) (b := List.replicate 16 0) Try.underlying28 rfl (by kernel_rfl) Try.underlying5 (by kernel_rfl) rfl rfl hpl rfl).cast (v' := .bool true) (congrArg Value.bool (by exact decide_eq_true hB))) ?_)
      refine G.op rfl (G.val rfl rfl (pv_pick rfl rfl) ?_)
      refine G.op rfl (G.val rfl rfl (pv_move rfl) ?_)
      refine G.want rfl rfl rfl (G.val rfl rfl (pv_fieldAddr (sz := 0) Try.underlying48 rfl (by kernel_rfl) rfl) ?_)
      refine G.want rfl rfl rfl (G.val rfl rfl (pv_load Try.underlying46 rfl rfl (blk_cell (v := .int .i64 (parseE s)) (by repeat (first | with_reducible exact Sel.here | exact Sel.here | apply Sel.there)) rfl)) ?_)
      refine G.want rfl rfl rfl (G.val rfl rfl ((pv_eql rfl rfl).cast (v' := .bool true) (congrArg Value.bool (by exact decide_eq_true hE))) ?_)
      refine G.op rfl (G.val rfl rfl (pv_pick rfl rfl) ?_)
      refine G.op rfl (G.val rfl rfl (pv_move rfl) ?_)
      refine G.want rfl rfl rfl (G.val rfl rfl (pv_fieldAddr (sz := 0) Try.underlying48 rfl (by kernel_rfl) rfl) ?_)
      refine G.want rfl rfl rfl (G.val rfl rfl (pv_load Try.underlying3 rfl rfl (blk_cell (v := .int .i64 (parseAt s)) (by repeat (first | with_reducible exact Sel.here | exact Sel.here | apply Sel.there)) rfl)) ?_)
      refine G.want rfl rfl rfl (G.val rfl rfl ((pv_geq rfl rfl).cast (v' := .bool true) (congrArg Value.bool (by exact decide_eq_true hA0))) ?_)
      refine G.op rfl (G.val rfl rfl (pv_pick rfl rfl) ?_)
      refine G.op rfl (G.val rfl rfl (pv_move rfl) ?_)
      refine G.want rfl rfl rfl (G.val rfl rfl (pv_fieldAddr (sz := 0) Try.underlying48 rfl (by kernel_rfl) rfl) ?_)
      refine G.want rfl rfl rfl (G.val rfl rfl (pv_load Try.underlying3 rfl rfl (blk_cell (v := .int .i64 (parseAt s)) (by repeat (first | with_reducible exact Sel.here | exact Sel.here | apply Sel.there)) rfl)) ?_)
      refine G.want rfl rfl rfl (G.val rfl rfl (pv_move rfl) ?_)
      refine G.want rfl rfl rfl (G.val rfl rfl (pv_lenS Try.underlying9 rfl) ?_)
      refine G.want rfl rfl rfl (G.val rfl rfl ((pv_leq rfl rfl).cast (v' := .bool true) (congrArg Value.bool (by exact decide_eq_true hA1))) ?_)
      refine G.op rfl (G.val rfl rfl (pv_pick rfl rfl) ?_)
      refine G.op rfl (G.val rfl rfl (pv_move rfl) ?_)
      refine G.want rfl rfl rfl (G.val rfl rfl (pv_fieldAddr (sz := 0) Try.underlying48 rfl (by kernel_rfl) rfl) ?_)
      refine G.want rfl rfl rfl (G.val rfl rfl (pv_load Try.underlying3 rfl rfl (blk_cell (v := .int .i64 (parseAt s)) (by repeat (first | with_reducible exact Sel.here | exact Sel.here | apply Sel.there)) rfl)) ?_)
      refine G.want rfl rfl rfl (G.val rfl rfl (pv_move rfl) ?_)
      refine G.want rfl rfl rfl (G.val rfl rfl (pv_lenS Try.underlying9 rfl) ?_)
      refine G.want rfl rfl rfl (G.val rfl rfl (pv_add64 rfl rfl (by omega)) ?_)
      refine G.want rfl rfl rfl (G.val rfl rfl ((pv_leq rfl rfl).cast (v' := .bool true) (congrArg Value.bool (by exact decide_eq_true (by omega)))) ?_)
      refine G.op rfl (G.val rfl rfl (pv_pick rfl rfl) ?_)
      refine G.op rfl (G.val rfl rfl (pv_assign rfl) ?_)
      refine G.nil ?_
      refine G.nThen ?_
      refine G.ret ?_
      refine G.rThen ?_
      exact G.done1 rfl rfl .nil ⟨rfl, rfl⟩
    · have hE : parseE s = 0 := by omega
      refine G.skip ?_
      refine G.nThen ?_
      refine G.seq ?_
      refine G.region ?_
      refine G.op rfl (G.val rfl rfl (pv_move rfl) ?_)
      refine G.op rfl (G.val rfl rfl (pv_move rfl) ?_)
      refine G.want rfl rfl rfl (G.val rfl rfl (pv_loadN (cs := (parseB s).map vByte) Try.underlying28 rfl (by rw [List.length_map, hpl]; kernel_rfl) rfl (blk_range (k := 16) (by repeat (first | with_reducible exact Sel.here | exact Sel.here | apply Sel.there)) (List.take_of_length_le (by rw [List.drop_zero, List.length_map, hpl]; exact Nat.le_refl _)))) ?_)
      refine G.want rfl rfl rfl (G.call0 rfl rfl rfl rfl Try.func24 rfl rfl (textT (parseB s) hpl) may0 ?_)
      refine G.want rfl rfl rfl (G.val rfl rfl (pv_move rfl) ?_)
      refine G.want rfl rfl rfl (G.val rfl rfl ((pv_eqlS rfl rfl).cast (v' := .bool true) (congrArg Value.bool (by exact decide_eq_true (parse_right hE)))) ?_)
      refine G.op rfl (G.val rfl rfl (pv_pick rfl rfl) ?_)
      refine G.op rfl (G.val rfl rfl (pv_assign rfl) ?_)
      refine G.nil ?_
      refine G.nThen ?_
      refine G.ret ?_
      exact G.done1 rfl rfl .nil ⟨rfl, rfl⟩
end Go.Proofs.Ytcgknadodpdblaa
