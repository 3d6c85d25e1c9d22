/- The statement DigestKnown. Conditions: none. -/
import Derived.Test.YtcgknadodpdblaaDB
set_option linter.unusedVariables false
set_option linter.unusedSimpArgs false
namespace Go.Proofs.Ytcgknadodpdblaa
open Go.RowKit

theorem slByte_of {w : World} {Pu : Nat → Prop} {v : Value} {b : List UInt8} (h : IsSl rByte Pu w v b) (hb : ∀ k, Pu k → k < w.heap.size) : SlByte w.heap.size w v b := by
  obtain ⟨ad, cap, bb, off, rfl, hs⟩ := h
  refine ⟨ad, bb, off, cap, rfl, hs.hcap, by unfold maxLen; have := hs.hmax; omega, hs.hnil, fun h0 => ⟨hs.had h0, hb _ (hs.cell 0 h0).1⟩, fun i hi => (hs.cell i hi).2.1⟩
theorem idT {Pu : Nat → Prop} (v : Value) (b : List UInt8) (hl : b.length ≤ 1000000) : Tr Try.prog 14 #[v] [slc rByte Pu v b] [] (T0 (.agg (((sumM b).take 16).map vByte).toArray)) := fun w hro _ => by
  have hr := hro _ (List.mem_cons_self ..)
  rw [← aggB_eq]
  refine (id_any w.heap.size v b w (Nat.le_refl _) (slByte_of hr.1 fun k hk => (hr.2 k hk).1) hl).mono ?_
  rintro e w' ⟨he, hb⟩
  exact ⟨_, [], he, ⟨rfl, rfl⟩, ⟨(Chg.none_of_below hb).mono fun b hb => hb.elim, by simp, by simp, .nil⟩⟩
def kD : List UInt8 := [186, 120, 22, 191, 143, 1, 207, 234, 65, 65, 64, 222, 93, 174, 34, 35]
def k0 : List UInt8 := [98, 97, 55, 56, 49, 54, 98, 102, 56, 102, 48, 49, 99, 102, 101, 97, 52, 49, 52, 49, 52, 48, 100, 101, 53, 100, 97, 101, 50, 50, 50, 51]
def k1 : List UInt8 := [66, 65, 55, 56, 49, 54, 66, 70, 56, 70, 48, 49, 67, 70, 69, 65, 52, 49, 52, 49, 52, 48, 68, 69, 53, 68, 65, 69, 50, 50, 50, 51]
def k2 : List UInt8 := [48, 48, 48, 48, 48, 48, 48, 48, 48, 48, 48, 48, 48, 48, 48, 48, 48, 48, 48, 48, 48, 48, 48, 48, 48, 48, 48, 48, 48, 48, 48]
def k3 : List UInt8 := [48, 48, 48, 48, 48, 48, 48, 48, 48, 48, 48, 48, 48, 48, 48, 48, 48, 48, 48, 48, 48, 48, 48, 48, 48, 48, 48, 48, 48, 48, 48, 48, 48]
def k4 : List UInt8 := [97, 98, 99, 100, 98, 99, 100, 101, 99, 100, 101, 102, 100, 101, 102, 103, 101, 102, 103, 104, 102, 103, 104, 105, 103, 104, 105, 106, 104, 105, 106, 107, 105, 106, 107, 108, 106, 107, 108, 109, 107, 108, 109, 110, 108, 109, 110, 111, 109, 110, 111, 112, 110, 111, 112, 113]
theorem kD_sum : (sumM [97, 98, 99]).take 16 = kD := by decide +kernel
theorem kD_len : kD.length = 16 := rfl
theorem k0_all : parseB k0 = kD ∧ parseE k0 = 0 := by decide +kernel
theorem k1_all : parseB k1 = List.replicate 16 0 ∧ parseE k1 = 4 ∧ parseAt k1 = 0 := by decide +kernel
theorem k2_all : parseB k2 = List.replicate 16 0 ∧ parseE k2 = 4 ∧ parseAt k2 = 31 := by decide +kernel
theorem k3_all : parseB k3 = List.replicate 16 0 ∧ parseE k3 = 4 ∧ parseAt k3 = 32 := by decide +kernel
theorem kD_text : textM kD = k0 := by decide +kernel
theorem k4_sum : (sumM k4)[0]? = some 36 ∧ (sumM k4)[1]? = some 141 ∧ (sumM k4)[2]? = some 106 ∧ (sumM k4)[3]? = some 97 ∧ (sumM k4)[28]? = some 25 ∧ (sumM k4)[29]? = some 219 ∧ (sumM k4)[30]? = some 6 ∧ (sumM k4)[31]? = some 193 := by decide +kernel
theorem k4T : Tr Try.prog 26 #[.string (sB k4), .agg #[.int .u8 36, .int .u8 141, .int .u8 106, .int .u8 97], .agg #[.int .u8 25, .int .u8 219, .int .u8 6, .int .u8 193]] [] [] (T0 (.bool true)) :=
  Tr.ofCalls fun w => sums_any k4 36 141 106 97 25 219 6 193 w (by decide) k4_sum.1 k4_sum.2.1 k4_sum.2.2.1 k4_sum.2.2.2.1 k4_sum.2.2.2.2.1 k4_sum.2.2.2.2.2.1 k4_sum.2.2.2.2.2.2.1 k4_sum.2.2.2.2.2.2.2
theorem G.convLit {P : Program} {n : Nat} {w0 : World} {S : Nat → Prop} {l : Fr} {m : List Ck} {Q : Exit → Act → World → Prop} {K : Act → World → Prop} {ty : TypeId} {pos : String} {after : Array Edge} {g : Option (Nat × Bool)} {t e d b len cap : Nat} {T : TypeId} {x : Operand} {xs : List UInt8} {r : List Ck} (hn : Nat.blt d n = true) (hu : P.underlying t = some (.slice e)) (he : P.underlying e = some (.int .u8)) (hx : ev l x = some (.slice (some ⟨b, 0, none⟩) len cap)) (hs : Sel m (blk b T (xs.map vByte)) r) (hl : xs.length = len) (hlc : len ≤ cap) (hm : cap ≤ 9223372036854775807)
    (h : G n w0 S ((d, .slice (some ⟨b, 0, none⟩) len cap) :: l) (slc rByte (· = b) (.slice (some ⟨b, 0, none⟩) len cap) xs :: r) K) : G n w0 S l m (fun a w => Oper.wp P ⟨some d, .convert t t x, ty, pos, after, g⟩ a w K Q) := G.eff rfl hn fun a w ha hw => by
  have hw' := hw.sel hs
  have hb : w.heap[b]? = some (.cells (xs.map vByte).toArray T (0, 0)) := hw'.holds _ (List.mem_cons_self ..)
  have hsh : w.shape? b = some (T, xs.length) := by simp [World.shape?, hb]
  have hlt : b < w.heap.size := (Array.getElem?_eq_some_iff.1 hb).1
  have hfr : (w.freeze ⟨b, xs.length, none⟩ 1).heap[b]? = some (.cells (xs.map vByte).toArray T (xs.length, xs.length + 1)) := by
    simp [World.freeze, Array.getElem?_modify, hb]
  refine ⟨_, w.freeze ⟨b, xs.length, none⟩ 1, _, run_v (s := convert t t (a.eval x)) (v := .slice (some ⟨b, 0, none⟩) len cap) ?_, ?_, h⟩
  · rw [ha.eval hx]
    simp [convert, run_underlying hu, run_underlying he, markStringish, hsh]
  · refine Hp.turn (p := [blk b T (xs.map vByte)]) (p' := [slc rByte (· = b) (.slice (some ⟨b, 0, none⟩) len cap) xs]) hw' ⟨⟨rfl, rfl, rfl, by simp [World.freeze], fun k hk hS => ?_⟩, fun c hc => ?_, fun c hc k hk => ?_, by simp⟩
    · have hne : b ≠ k := fun e => hS ⟨_, List.mem_cons_self .., e.symm⟩
      simp [World.freeze, Array.getElem?_modify, hne]
    · obtain rfl : c = _ := by simpa using hc
      subst hl
      refine ⟨_, cap, b, 0, rfl, hlc, hm, (fun h => by cases h), fun _ => rfl, fun i hi => ⟨rfl, ?_, trivial⟩⟩
      rw [cell_of_row _ _ _ _ _ _ hfr]
      show (xs.map vByte).toArray[0 + i * 1]? = _
      simp [hi]
    · obtain rfl : c = _ := by simpa using hc
      obtain rfl : k = b := hk
      exact ⟨.inl ⟨_, List.mem_cons_self .., rfl⟩, by simpa [World.freeze] using hlt⟩
set_option maxRecDepth 20000 in

theorem dknown_tr : Tr Try.prog 8 #[] [] [] (T0 (.bool true)) := by
  refine Tr.of (l := []) Try.func8 rfl (n := 69) rfl Fa.nil (fun w0 hro => ?_)
  refine G.seq ?_
  refine G.region ?_
  refine G.op rfl (G.val rfl rfl (pv_assign rfl) ?_)
  refine G.nil ?_
  refine G.nThen ?_
  refine G.seq ?_
  refine G.region ?_
  refine G.op rfl (G.lit1 (vs := [_, _, _]) rfl Try.underlying22 (by kernel_rfl) rfl (by decide) (by decide) rfl rfl ?_)
  intro b12
  refine G.op rfl (G.convLit (xs := [97, 98, 99]) rfl Try.underlying22 Try.underlying5 rfl (by repeat (first | with_reducible exact Sel.here | exact Sel.here | apply Sel.there)) rfl (Nat.le_refl _) (by decide) ?_)
  refine G.op rfl (G.call0 rfl rfl rfl rfl Try.func14 rfl rfl (idT (Pu := (· = b12)) _ [97, 98, 99] (by decide)) (may1 (Sel.may (by repeat (first | with_reducible exact Sel.here | exact Sel.here | apply Sel.there)))) ?_)
  rw [kD_sum]
  refine G.op rfl (G.alloc (z := .agg #[.int .u8 0, .int .u8 0, .int .u8 0, .int .u8 0, .int .u8 0, .int .u8 0, .int .u8 0, .int .u8 0, .int .u8 0, .int .u8 0, .int .u8 0, .int .u8 0, .int .u8 0, .int .u8 0, .int .u8 0, .int .u8 0]) (cs := [.int .u8 0, .int .u8 0, .int .u8 0, .int .u8 0, .int .u8 0, .int .u8 0, .int .u8 0, .int .u8 0, .int .u8 0, .int .u8 0, .int .u8 0, .int .u8 0, .int .u8 0, .int .u8 0, .int .u8 0, .int .u8 0]) rfl (by kernel_rfl) rfl ?_)
  intro b1
  refine G.op rfl (G.storeN (vs := kD.map vByte) (by rw [List.length_map, kD_len]; kernel_rfl) rfl rfl (List.all_eq_true.2 (vByte_one _)) (by repeat (first | with_reducible exact Sel.here | exact Sel.here | apply Sel.there)) (by simp [kD_len]) ?_)
  rw [show putN [Value.int .u8 0, Value.int .u8 0, Value.int .u8 0, Value.int .u8 0, Value.int .u8 0, Value.int .u8 0, Value.int .u8 0, Value.int .u8 0, Value.int .u8 0, Value.int .u8 0, Value.int .u8 0, Value.int .u8 0, Value.int .u8 0, Value.int .u8 0, Value.int .u8 0, Value.int .u8 0] 0 (kD.map vByte) = kD.map vByte from putN_all _ _ [] (by rw [List.length_map, kD_len]; rfl)]
  refine G.nil ?_
  refine G.nThen ?_
  refine G.seq ?_
  refine G.region ?_
  refine G.op rfl (G.call0 rfl rfl rfl rfl Try.func22 rfl rfl (parseT k0 (by decide)) may0 ?_)
  rw [k0_all.1, k0_all.2]
  refine G.op rfl (G.val rfl rfl (pv_move rfl) ?_)
  refine G.op rfl (G.val rfl rfl (pv_extract rfl rfl) ?_)
  refine G.op rfl (G.val rfl rfl (pv_extract rfl rfl) ?_)
  refine G.op rfl (G.alloc (z := .agg #[.int .u8 0, .int .u8 0, .int .u8 0, .int .u8 0, .int .u8 0, .int .u8 0, .int .u8 0, .int .u8 0, .int .u8 0, .int .u8 0, .int .u8 0, .int .u8 0, .int .u8 0, .int .u8 0, .int .u8 0, .int .u8 0]) (cs := [.int .u8 0, .int .u8 0, .int .u8 0, .int .u8 0, .int .u8 0, .int .u8 0, .int .u8 0, .int .u8 0, .int .u8 0, .int .u8 0, .int .u8 0, .int .u8 0, .int .u8 0, .int .u8 0, .int .u8 0, .int .u8 0]) rfl (by kernel_rfl) rfl ?_)
  intro b2
  refine G.op rfl (G.alloc (z := .agg #[.int .i64 0, .int .i64 0]) (cs := [.int .i64 0, .int .i64 0]) rfl (by kernel_rfl) rfl ?_)
  intro b3
  refine G.op rfl (G.storeN (vs := kD.map vByte) (by rw [List.length_map, kD_len]; kernel_rfl) rfl rfl (List.all_eq_true.2 (vByte_one _)) (by repeat (first | with_reducible exact Sel.here | exact Sel.here | apply Sel.there)) (by simp [kD_len]) ?_)
  rw [show putN [Value.int .u8 0, Value.int .u8 0, Value.int .u8 0, Value.int .u8 0, Value.int .u8 0, Value.int .u8 0, Value.int .u8 0, Value.int .u8 0, Value.int .u8 0, Value.int .u8 0, Value.int .u8 0, Value.int .u8 0, Value.int .u8 0, Value.int .u8 0, Value.int .u8 0, Value.int .u8 0] 0 (kD.map vByte) = kD.map vByte from putN_all _ _ [] (by rw [List.length_map, kD_len]; rfl)]
  refine G.op rfl (G.storeN (vs := [.int .i64 0, .int .i64 (parseAt k0)]) (by kernel_rfl) rfl rfl rfl (by repeat (first | with_reducible exact Sel.here | exact Sel.here | apply Sel.there)) (by simp) ?_)
  refine G.nil ?_
  refine G.nThen ?_
  refine G.seq ?_
  refine G.region ?_
  refine G.op rfl (G.call0 rfl rfl rfl rfl Try.func22 rfl rfl (parseT k1 (by decide)) may0 ?_)
  rw [k1_all.1, k1_all.2.1, k1_all.2.2]
  refine G.op rfl (G.val rfl rfl (pv_move rfl) ?_)
  refine G.op rfl (G.val rfl rfl (pv_extract rfl rfl) ?_)
  refine G.op rfl (G.val rfl rfl (pv_extract rfl rfl) ?_)
  refine G.op rfl (G.alloc (z := .agg #[.int .u8 0, .int .u8 0, .int .u8 0, .int .u8 0, .int .u8 0, .int .u8 0, .int .u8 0, .int .u8 0, .int .u8 0, .int .u8 0, .int .u8 0, .int .u8 0, .int .u8 0, .int .u8 0, .int .u8 0, .int .u8 0]) (cs := [.int .u8 0, .int .u8 0, .int .u8 0, .int .u8 0, .int .u8 0, .int .u8 0, .int .u8 0, .int .u8 0, .int .u8 0, .int .u8 0, .int .u8 0, .int .u8 0, .int .u8 0, .int .u8 0, .int .u8 0, .int .u8 0]) rfl (by kernel_rfl) rfl ?_)
  intro b4
  refine G.op rfl (G.alloc (z := .agg #[.int .i64 0, .int .i64 0]) (cs := [.int .i64 0, .int .i64 0]) rfl (by kernel_rfl) rfl ?_)
  intro b5
  refine G.op rfl (G.storeN (vs := (List.replicate 16 (0 : UInt8)).map vByte) (by rw [List.length_map, List.length_replicate]; kernel_rfl) rfl rfl (List.all_eq_true.2 (vByte_one _)) (by repeat (first | with_reducible exact Sel.here | exact Sel.here | apply Sel.there)) (by simp [List.length_replicate]) ?_)
  rw [show putN [Value.int .u8 0, Value.int .u8 0, Value.int .u8 0, Value.int .u8 0, Value.int .u8 0, Value.int .u8 0, Value.int .u8 0, Value.int .u8 0, Value.int .u8 0, Value.int .u8 0, Value.int .u8 0, Value.int .u8 0, Value.int .u8 0, Value.int .u8 0, Value.int .u8 0, Value.int .u8 0] 0 ((List.replicate 16 (0 : UInt8)).map vByte) = (List.replicate 16 (0 : UInt8)).map vByte from putN_all _ _ [] (by rw [List.length_map, List.length_replicate]; rfl)]
  refine G.op rfl (G.storeN (vs := [.int .i64 4, .int .i64 0]) (by kernel_rfl) rfl rfl rfl (by repeat (first | with_reducible exact Sel.here | exact Sel.here | apply Sel.there)) (by simp) ?_)
  refine G.nil ?_
  refine G.nThen ?_
  refine G.seq ?_
  refine G.region ?_
  refine G.op rfl (G.call0 rfl rfl rfl rfl Try.func22 rfl rfl (parseT k2 (by decide)) may0 ?_)
  rw [k2_all.1, k2_all.2.1, k2_all.2.2]
  refine G.op rfl (G.val rfl rfl (pv_move rfl) ?_)
  refine G.op rfl (G.val rfl rfl (pv_extract rfl rfl) ?_)
  refine G.op rfl (G.val rfl rfl (pv_extract rfl rfl) ?_)
  refine G.op rfl (G.alloc (z := .agg #[.int .u8 0, .int .u8 0, .int .u8 0, .int .u8 0, .int .u8 0, .int .u8 0, .int .u8 0, .int .u8 0, .int .u8 0, .int .u8 0, .int .u8 0, .int .u8 0, .int .u8 0, .int .u8 0, .int .u8 0, .int .u8 0]) (cs := [.int .u8 0, .int .u8 0, .int .u8 0, .int .u8 0, .int .u8 0, .int .u8 0, .int .u8 0, .int .u8 0, .int .u8 0, .int .u8 0, .int .u8 0, .int .u8 0, .int .u8 0, .int .u8 0, .int .u8 0, .int .u8 0]) rfl (by kernel_rfl) rfl ?_)
  intro b6
  refine G.op rfl (G.alloc (z := .agg #[.int .i64 0, .int .i64 0]) (cs := [.int .i64 0, .int .i64 0]) rfl (by kernel_rfl) rfl ?_)
  intro b7
  refine G.op rfl (G.storeN (vs := (List.replicate 16 (0 : UInt8)).map vByte) (by rw [List.length_map, List.length_replicate]; kernel_rfl) rfl rfl (List.all_eq_true.2 (vByte_one _)) (by repeat (first | with_reducible exact Sel.here | exact Sel.here | apply Sel.there)) (by simp [List.length_replicate]) ?_)
  rw [show putN [Value.int .u8 0, Value.int .u8 0, Value.int .u8 0, Value.int .u8 0, Value.int .u8 0, Value.int .u8 0, Value.int .u8 0, Value.int .u8 0, Value.int .u8 0, Value.int .u8 0, Value.int .u8 0, Value.int .u8 0, Value.int .u8 0, Value.int .u8 0, Value.int .u8 0, Value.int .u8 0] 0 ((List.replicate 16 (0 : UInt8)).map vByte) = (List.replicate 16 (0 : UInt8)).map vByte from putN_all _ _ [] (by rw [List.length_map, List.length_replicate]; rfl)]
  refine G.op rfl (G.storeN (vs := [.int .i64 4, .int .i64 31]) (by kernel_rfl) rfl rfl rfl (by repeat (first | with_reducible exact Sel.here | exact Sel.here | apply Sel.there)) (by simp) ?_)
  refine G.nil ?_
  refine G.nThen ?_
  refine G.seq ?_
  refine G.region ?_
  refine G.op rfl (G.call0 rfl rfl rfl rfl Try.func22 rfl rfl (parseT k3 (by decide)) may0 ?_)
  rw [k3_all.1, k3_all.2.1, k3_all.2.2]
  refine G.op rfl (G.val rfl rfl (pv_move rfl) ?_)
  refine G.op rfl (G.val rfl rfl (pv_extract rfl rfl) ?_)
  refine G.op rfl (G.val rfl rfl (pv_extract rfl rfl) ?_)
  refine G.op rfl (G.alloc (z := .agg #[.int .u8 0, .int .u8 0, .int .u8 0, .int .u8 0, .int .u8 0, .int .u8 0, .int .u8 0, .int .u8 0, .int .u8 0, .int .u8 0, .int .u8 0, .int .u8 0, .int .u8 0, .int .u8 0, .int .u8 0, .int .u8 0]) (cs := [.int .u8 0, .int .u8 0, .int .u8 0, .int .u8 0, .int .u8 0, .int .u8 0, .int .u8 0, .int .u8 0, .int .u8 0, .int .u8 0, .int .u8 0, .int .u8 0, .int .u8 0, .int .u8 0, .int .u8 0, .int .u8 0]) rfl (by kernel_rfl) rfl ?_)
  intro b8
  refine G.op rfl (G.alloc (z := .agg #[.int .i64 0, .int .i64 0]) (cs := [.int .i64 0, .int .i64 0]) rfl (by kernel_rfl) rfl ?_)
  intro b9
  refine G.op rfl (G.storeN (vs := (List.replicate 16 (0 : UInt8)).map vByte) (by rw [List.length_map, List.length_replicate]; kernel_rfl) rfl rfl (List.all_eq_true.2 (vByte_one _)) (by repeat (first | with_reducible exact Sel.here | exact Sel.here | apply Sel.there)) (by simp [List.length_replicate]) ?_)
  rw [show putN [Value.int .u8 0, Value.int .u8 0, Value.int .u8 0, Value.int .u8 0, Value.int .u8 0, Value.int .u8 0, Value.int .u8 0, Value.int .u8 0, Value.int .u8 0, Value.int .u8 0, Value.int .u8 0, Value.int .u8 0, Value.int .u8 0, Value.int .u8 0, Value.int .u8 0, Value.int .u8 0] 0 ((List.replicate 16 (0 : UInt8)).map vByte) = (List.replicate 16 (0 : UInt8)).map vByte from putN_all _ _ [] (by rw [List.length_map, List.length_replicate]; rfl)]
  refine G.op rfl (G.storeN (vs := [.int .i64 4, .int .i64 32]) (by kernel_rfl) rfl rfl rfl (by repeat (first | with_reducible exact Sel.here | exact Sel.here | apply Sel.there)) (by simp) ?_)
  refine G.nil ?_
  refine G.nThen ?_
  refine G.seq ?_
  refine G.region ?_
  refine G.op rfl (G.val rfl rfl (pv_build (cells := #[.int .u8 36, .int .u8 141, .int .u8 106, .int .u8 97]) (fun a ha => ha.pevs rfl) (by kernel_rfl)) ?_)
  refine G.op rfl (G.val rfl rfl (pv_build (cells := #[.int .u8 25, .int .u8 219, .int .u8 6, .int .u8 193]) (fun a ha => ha.pevs rfl) (by kernel_rfl)) ?_)
  refine G.op rfl (G.call0 rfl rfl rfl rfl Try.func26 rfl rfl (k4T) may0 ?_)
  refine G.op rfl (G.val rfl rfl (pv_assign rfl) ?_)
  refine G.nil ?_
  refine G.nThen ?_
  refine G.seq ?_
  refine G.region ?_
  refine G.op rfl (G.val rfl rfl (pv_loadN (cs := kD.map vByte) Try.underlying28 rfl (by rw [List.length_map, kD_len]; kernel_rfl) rfl (blk_range (k := 16) (by repeat (first | with_reducible exact Sel.here | exact Sel.here | apply Sel.there)) (show ((kD.map vByte).drop 0).take 16 = kD.map vByte from rfl))) ?_)
  refine G.op rfl (G.call0 rfl rfl rfl rfl Try.func24 rfl rfl (textT kD kD_len) may0 ?_)
  rw [kD_text]
  refine G.op rfl (G.val rfl rfl ((pv_eqlS (a := k0) (b := k0) rfl rfl).cast (v' := .bool true) (congrArg Value.bool (by exact decide_eq_true rfl))) ?_)
  refine G.op rfl (G.val rfl rfl (pv_move rfl) ?_)
  refine G.want rfl rfl rfl (G.val rfl rfl (pv_loadN (cs := kD.map vByte) Try.underlying28 rfl (by rw [List.length_map, kD_len]; kernel_rfl) rfl (blk_range (k := 16) (by repeat (first | with_reducible exact Sel.here | exact Sel.here | apply Sel.there)) (show ((kD.map vByte).drop 0).take 16 = kD.map vByte from rfl))) ?_)
  refine G.want rfl rfl rfl (G.val rfl rfl (pv_loadN (cs := kD.map vByte) Try.underlying28 rfl (by rw [List.length_map, kD_len]; kernel_rfl) rfl (blk_range (k := 16) (by repeat (first | with_reducible exact Sel.here | exact Sel.here | apply Sel.there)) (show ((kD.map vByte).drop 0).take 16 = kD.map vByte from rfl))) ?_)
  refine G.want rfl rfl rfl (G.val rfl rfl ((pv_eqlAr8 (a := kD) (b := kD) Try.underlying28 rfl (by kernel_rfl) Try.underlying5 (by kernel_rfl) rfl rfl kD_len kD_len).cast (v' := .bool true) (congrArg Value.bool (by exact decide_eq_true rfl))) ?_)
  refine G.op rfl (G.val rfl rfl (pv_pick rfl rfl) ?_)
  refine G.op rfl (G.val rfl rfl (pv_move rfl) ?_)
  refine G.want rfl rfl rfl (G.val rfl rfl (pv_fieldAddr (sz := 0) Try.underlying48 rfl (by kernel_rfl) rfl) ?_)
  refine G.want rfl rfl rfl (G.val rfl rfl (pv_load Try.underlying46 rfl rfl (blk_cell (v := .int .i64 0) (by repeat (first | with_reducible exact Sel.here | exact Sel.here | apply Sel.there)) rfl)) ?_)
  refine G.want rfl rfl rfl (G.val rfl rfl ((pv_eql rfl rfl).cast (v' := .bool true) (congrArg Value.bool (by rfl))) ?_)
  refine G.op rfl (G.val rfl rfl (pv_pick rfl rfl) ?_)
  refine G.op rfl (G.val rfl rfl (pv_assign rfl) ?_)
  refine G.nil ?_
  refine G.nThen ?_
  refine G.seq ?_
  refine G.region ?_
  refine G.op rfl (G.call0 rfl rfl rfl rfl Try.func10 rfl rfl (awakeT) may0 ?_)
  refine G.op rfl (G.val rfl rfl (pv_move rfl) ?_)
  refine G.want rfl rfl rfl (G.val rfl rfl (pv_move rfl) ?_)
  refine G.op rfl (G.val rfl rfl (pv_pick rfl rfl) ?_)
  refine G.op rfl (G.val rfl rfl (pv_move rfl) ?_)
  refine G.want rfl rfl rfl (G.val rfl rfl (pv_move rfl) ?_)
  refine G.op rfl (G.val rfl rfl (pv_pick rfl rfl) ?_)
  refine G.op rfl (G.val rfl rfl (pv_move rfl) ?_)
  refine G.want rfl rfl rfl (G.val rfl rfl (pv_loadN (cs := [.int .i64 4, .int .i64 0]) Try.underlying48 rfl (by kernel_rfl) rfl (blk_range (k := 2) (by repeat (first | with_reducible exact Sel.here | exact Sel.here | apply Sel.there)) rfl)) ?_)
  refine G.want rfl rfl rfl (G.val rfl rfl (pv_build (cells := #[.int .i64 4, .int .i64 0]) (fun a ha => ha.pevs rfl) (by kernel_rfl)) ?_)
  refine G.want rfl rfl rfl (G.val rfl rfl ((pv_eqlSt (xs := [.int .i64 4, .int .i64 0]) (ys := [.int .i64 4, .int .i64 0]) (r := true) Try.underlying48 (by kernel_rfl) (by kernel_rfl) rfl rfl (by kernel_rfl)).cast (v' := .bool true) (congrArg Value.bool (by rfl))) ?_)
  refine G.op rfl (G.val rfl rfl (pv_pick rfl rfl) ?_)
  refine G.op rfl (G.val rfl rfl (pv_move rfl) ?_)
  refine G.want rfl rfl rfl (G.val rfl rfl (pv_loadN (cs := [.int .i64 4, .int .i64 31]) Try.underlying48 rfl (by kernel_rfl) rfl (blk_range (k := 2) (by repeat (first | with_reducible exact Sel.here | exact Sel.here | apply Sel.there)) rfl)) ?_)
  refine G.want rfl rfl rfl (G.val rfl rfl (pv_build (cells := #[.int .i64 4, .int .i64 31]) (fun a ha => ha.pevs rfl) (by kernel_rfl)) ?_)
  refine G.want rfl rfl rfl (G.val rfl rfl ((pv_eqlSt (xs := [.int .i64 4, .int .i64 31]) (ys := [.int .i64 4, .int .i64 31]) (r := true) Try.underlying48 (by kernel_rfl) (by kernel_rfl) rfl rfl (by kernel_rfl)).cast (v' := .bool true) (congrArg Value.bool (by rfl))) ?_)
  refine G.op rfl (G.val rfl rfl (pv_pick rfl rfl) ?_)
  refine G.op rfl (G.val rfl rfl (pv_move rfl) ?_)
  refine G.want rfl rfl rfl (G.val rfl rfl (pv_loadN (cs := [.int .i64 4, .int .i64 32]) Try.underlying48 rfl (by kernel_rfl) rfl (blk_range (k := 2) (by repeat (first | with_reducible exact Sel.here | exact Sel.here | apply Sel.there)) rfl)) ?_)
  refine G.want rfl rfl rfl (G.val rfl rfl (pv_build (cells := #[.int .i64 4, .int .i64 32]) (fun a ha => ha.pevs rfl) (by kernel_rfl)) ?_)
  refine G.want rfl rfl rfl (G.val rfl rfl ((pv_eqlSt (xs := [.int .i64 4, .int .i64 32]) (ys := [.int .i64 4, .int .i64 32]) (r := true) Try.underlying48 (by kernel_rfl) (by kernel_rfl) rfl rfl (by kernel_rfl)).cast (v' := .bool true) (congrArg Value.bool (by rfl))) ?_)
  refine G.op rfl (G.val rfl rfl (pv_pick rfl rfl) ?_)
  refine G.op rfl (G.val rfl rfl (pv_assign rfl) ?_)
  refine G.nil ?_
  refine G.nThen ?_
  refine G.ret ?_
  exact G.done1 rfl rfl .nil ⟨rfl, rfl⟩
end Go.Proofs.Ytcgknadodpdblaa
