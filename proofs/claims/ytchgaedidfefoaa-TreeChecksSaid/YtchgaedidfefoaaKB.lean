/- Contracts of the statements' kit, bytes: the same, lent, kept, over. Conditions: the slices lie in memory; what is lent is short. -/
import Derived.Test.YtchgaedidfefoaaW6
import Derived.Test.YtchgaedidfefoaaProg
set_option linter.unusedVariables false
set_option linter.unusedSimpArgs false
namespace Go.Proofs.Ytchgaedidfefoaa
open Go.RowKit

theorem Try.infoByte : (Try.prog.info? 5).map (fun i => (i.zero, i.size, i.bytes)) = some (some (.int .u8 0), 1, 1) := by kernel_rfl
theorem Try.infoByte' : (Try.prog.info? 5).map (fun i => (i.zero.map (·.cells.size), i.size, i.bytes)) = some (some 1, 1, 1) := by kernel_rfl
theorem Try.sizeByte : (Try.prog.info? 5).map (·.size) = some 1 := by kernel_rfl
set_option maxRecDepth 20000 in

theorem same_tr {Pv Pu : Nat → Prop} (v u : Value) (a b : List UInt8) : Tr Try.prog 44 #[v, u] [slc rByte Pv v a, slc rByte Pu u b] [] (T0 (.bool (decide (a = b)))) := by
  refine Tr.of (l := [(0, v), (1, u)]) Try.func44 rfl (n := 10) rfl (.cons rfl (.cons rfl .nil)) (fun w0 hro => ?_)
  obtain ⟨hv, hu⟩ := ro2 hro
  refine G.seq ?_
  refine G.region ?_
  refine G.op rfl (G.val rfl rfl (pv_assign rfl) ?_)
  refine G.nil ?_
  refine G.nThen ?_
  refine G.seq ?_
  refine G.region ?_
  refine G.op rfl (G.val rfl rfl (pv_move rfl) ?_)
  refine G.op rfl (G.val rfl rfl (pv_toStr Try.underlying29 Try.underlying5 Try.underlying9 rfl (by first | exact ro_sl (by assumption) | assumption)) ?_)
  refine G.op rfl (G.val rfl rfl (pv_move rfl) ?_)
  refine G.op rfl (G.val rfl rfl (pv_toStr Try.underlying29 Try.underlying5 Try.underlying9 rfl (by first | exact ro_sl (by assumption) | assumption)) ?_)
  refine G.op rfl (G.val rfl rfl (pv_eqlS rfl rfl) ?_)
  refine G.op rfl (G.val rfl rfl (pv_assign rfl) ?_)
  refine G.nil ?_
  refine G.nThen ?_
  refine G.ret ?_
  exact G.done1 rfl rfl .nil ⟨rfl, rfl⟩
/-- the marks behind n bytes that are lent -/
def marks (n : Nat) : List UInt8 := [UInt8.ofNat (160 + n % 90), UInt8.ofNat (160 + (n + 1) % 90), UInt8.ofNat (160 + (n + 2) % 90)]
def lentM (b : List UInt8) : List UInt8 := b ++ marks b.length
def lentTo (b : List UInt8) (k : Nat) : List Value := b.map vByte ++ ((marks b.length).map vByte).take k ++ List.replicate (3 - k) (.int .u8 0)
theorem lentM_length (b : List UInt8) : (lentM b).length = b.length + 3 := by simp [lentM, marks]
theorem lentTo_zero (b : List UInt8) : List.replicate (b.length + 3) (Value.int .u8 0) = List.replicate (b.length + 3) (.int .u8 0) := rfl
theorem lentTo_start (b : List UInt8) : ((List.replicate (b.length + 3) (Value.int .u8 0)).take 0 ++ b.map vByte ++ (List.replicate (b.length + 3) (Value.int .u8 0)).drop (0 + (b.map vByte).length)) = lentTo b 0 := by
  simp [lentTo]
theorem lentTo_set (b : List UInt8) (k : Nat) (hk : k < 3) : (lentTo b k).set (b.length + k) (.int .u8 (160 + ((b.length : Int) + k) % 90)) = lentTo b (k + 1) := by
  have e : ∀ j : Nat, ((160 + (b.length + j) % 90 : Nat) : Int) % 256 = 160 + ((b.length : Int) + j) % 90 := fun j => by omega
  have : k = 0 ∨ k = 1 ∨ k = 2 := by omega
  have e0 := e 0; have e1 := e 1; have e2 := e 2
  rcases this with rfl | rfl | rfl <;> simp [lentTo, marks, vByte, List.set_append] <;> omega
theorem lentTo_end (b : List UInt8) : lentTo b 3 = (lentM b).map vByte := by simp [lentTo, lentM, marks]
theorem lentTo_length (b : List UInt8) (k : Nat) (hk : k ≤ 3) : (lentTo b k).length = b.length + 3 := by
  have : k = 0 ∨ k = 1 ∨ k = 2 ∨ k = 3 := by omega
  rcases this with rfl | rfl | rfl | rfl <;> simp [lentTo, marks]
theorem same_self {Pv Pu : Nat → Prop} (v u : Value) (a : List UInt8) : Tr Try.prog 44 #[v, u] [slc rByte Pv v a, slc rByte Pu u a] [] (T0 (.bool true)) := by
  have := same_tr (Pv := Pv) (Pu := Pu) v u a a
  rwa [decide_eq_true rfl] at this
theorem xor90 (x : UInt8) : bits .xor .u8 (x.toNat : Int) 90 = ((x ^^^ 90).toNat : Int) := by
  have : ∀ a : Fin 256, bits .xor .u8 (a.val : Int) 90 = (((UInt8.ofNat a.val) ^^^ 90).toNat : Int) := by decide +kernel
  have h := this ⟨x.toNat, x.toNat_lt⟩
  simpa using h
set_option maxRecDepth 20000 in

theorem over_tr (b len cap : Nat) (a : List UInt8) (hc : a.length = cap) (hm : cap ≤ 9223372036854775807) (hl : len ≤ cap) : Tr Try.prog 24 #[.slice (some ⟨b, 0, none⟩) len cap] [] [blk b 5 (a.map vByte)] (TX (fun a' : List UInt8 => a'.length = cap) (fun _ => .tuple #[]) (fun a' => [blk b 5 (a'.map vByte)])) := by
  refine Tr.of (l := [(0, .slice (some ⟨b, 0, none⟩) len cap)]) Try.func24 rfl (n := 22) rfl (.cons rfl .nil) (fun w0 hro => ?_)
  refine G.seq ?_
  refine G.region ?_
  refine G.op rfl (G.val rfl rfl (pv_move rfl) ?_)
  refine G.op rfl (G.val rfl rfl (pv_move rfl) ?_)
  refine G.op rfl (G.val rfl rfl (pv_capSl Try.underlying29 rfl) ?_)
  refine G.op rfl (G.val rfl rfl (pv_subH (sz := 1) (k := cap) Try.underlying29 Try.sizeByte rfl rfl rfl (Nat.le_refl _)) ?_)
  refine G.op rfl (G.val rfl rfl (pv_assign rfl) ?_)
  refine G.nil ?_
  refine G.nThen ?_
  refine G.seq ?_
  refine G.region ?_
  refine G.op rfl (G.val rfl rfl (pv_assign rfl) ?_)
  refine G.nil ?_
  refine G.nThen ?_
  refine G.block ?_
  refine G.loop (X := Nat × List UInt8) (fun (k, a') => k ≤ cap ∧ a'.length = cap) (fun (k, a') => [(2, .slice (some ⟨b, 0, none⟩) cap cap), (3, .int .i64 k)]) (fun (k, a') => [blk b 5 (a'.map vByte)]) (fun (k, a') => cap - k) (x0 := (0, a)) (⟨Nat.zero_le _, hc⟩) (.consE rfl (by first | rfl | exact int_eq (by first | omega | (dsimp only; omega)) | exact congrArg _ (by omega)) (.consE rfl (by first | rfl | exact int_eq (by first | omega | (dsimp only; omega)) | exact congrArg _ (by omega)) .nil)) (.cons (by repeat (first | with_reducible exact Sel.here | exact Sel.here | apply Sel.there)) .nil) (fun ⟨k, a'⟩ hJ => ?_)
  show G _ _ _ [(2, .slice (some ⟨b, 0, none⟩) cap cap), (3, .int .i64 k)] [blk b 5 (a'.map vByte)] _
  obtain ⟨hk, hlen⟩ := hJ
  refine G.seq ?_
  refine G.seq ?_
  refine G.region ?_
  refine G.op rfl (G.val rfl rfl (pv_move rfl) ?_)
  refine G.op rfl (G.val rfl rfl (pv_move rfl) ?_)
  refine G.op rfl (G.val rfl rfl (pv_lenSl Try.underlying29 rfl) ?_)
  refine G.op rfl (G.val rfl rfl (pv_lss rfl rfl) ?_)
  refine G.nil ?_
  refine G.nThen ?_
  refine G.condP rfl (fun h11 => ?_) (fun h11 => ?_)
  · have hk' : k < a'.length := by omega
    refine G.skip ?_
    refine G.nThen ?_
    refine G.seq ?_
    refine G.block ?_
    refine G.region ?_
    refine G.op rfl (G.val rfl rfl (pv_move rfl) ?_)
    refine G.op rfl (G.val rfl rfl (pv_move rfl) ?_)
    refine G.op rfl (G.val rfl rfl (pv_move rfl) ?_)
    refine G.op rfl (G.val rfl rfl (pv_move rfl) ?_)
    refine G.op rfl (G.val rfl rfl (pv_ixSl (sz := 1) (k := k) Try.underlying29 Try.sizeByte rfl rfl (fun _ => rfl) rfl (by omega)) ?_)
    refine G.op rfl (G.val rfl rfl (pv_load (v := vByte a'[k]) Try.underlying5 rfl rfl (blk_cell (o := 0 + k * 1) .here (by simp [hk']))) ?_)
    refine G.op rfl (G.val rfl rfl ((pv_xor rfl rfl).int (xor90 a'[k])) ?_)
    refine G.op rfl (G.val rfl rfl (pv_ixSl (sz := 1) (k := k) Try.underlying29 Try.sizeByte rfl rfl (fun _ => rfl) rfl (by omega)) ?_)
    refine G.op rfl (G.store (o := k) Try.sizeByte (by simp [ev, Fr.get]) rfl rfl .here (by simp; omega) ?_)
    refine G.nil ?_
    refine G.nBlock ?_
    refine G.nThen ?_
    refine G.region ?_
    refine G.op rfl (G.val rfl rfl (pv_move rfl) ?_)
    refine G.op rfl (G.val rfl rfl (pv_add64 rfl rfl (by omega)) ?_)
    refine G.op rfl (G.val rfl rfl (pv_assign rfl) ?_)
    refine G.nil ?_
    exact G.next ((k + 1, a'.set k (a'[k] ^^^ 0x5A))) (by exact ⟨by omega, by simpa using hlen⟩) (by dsimp only; omega) (.consE rfl (by first | rfl | exact int_eq (by first | omega | (dsimp only; omega)) | exact congrArg _ (by omega)) (.consE rfl (by first | rfl | exact int_eq (by first | omega | (dsimp only; omega)) | exact congrArg _ (by omega)) .nil)) (.cons (by rw [List.map_set]; exact .here) .nil)
  · refine G.exit ?_
    refine G.eThen ?_
    refine G.eThen ?_
    refine G.eBlock ?_
    exact G.doneE (m' := [blk b 5 (a'.map vByte)]) rfl (.cons .here .nil) ⟨a', hlen, rfl, rfl⟩
end Go.Proofs.Ytchgaedidfefoaa
