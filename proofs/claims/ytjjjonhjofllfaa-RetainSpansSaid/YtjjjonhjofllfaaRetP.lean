/- What layer 22's statements keep in memory: a policy in a box. Conditions: none. -/
import Derived.Test.YtjjjonhjofllfaaRetO
set_option linter.unusedVariables false
set_option linter.unusedSimpArgs false
namespace Go.Proofs.Ytjjjonhjofllfaa
open Go.RowKit Go.Maps

/-- a policy lies in block B of w; below B all is as it was in w0 -/
structure PolAt (w0 w : World) (B : Nat) (last span spans : Int) : Prop where
  below : Below B w0 w
  room : B + 1 ≤ w.heap.size
  c0 : w.cell? ⟨B, 0, none⟩ = some (.int .i64 last)
  c1 : w.cell? ⟨B, 1, none⟩ = some (.int .i64 span)
  c2 : w.cell? ⟨B, 2, none⟩ = some (.int .i64 spans)
theorem PolAt.later {w0 w w' : World} {B : Nat} {last span spans : Int} (h : PolAt w0 w B last span spans) (hb : Below (B + 1) w w') : PolAt w0 w' B last span spans :=
  ⟨h.below.trans (hb.mono (by omega)), Nat.le_trans h.room hb.size, (hb.cell (by show B < B + 1; omega)).trans h.c0, (hb.cell (by show B < B + 1; omega)).trans h.c1, (hb.cell (by show B < B + 1; omega)).trans h.c2⟩
theorem PolAt.after {w0 w w' : World} {B : Nat} {last span spans : Int} (h : PolAt w0 w B last span spans) (hb : Below w.heap.size w w') : PolAt w0 w' B last span spans := h.later (hb.mono h.room)
theorem PolAt.drew {w0 w : World} {B : Nat} {last span spans : Int} (h : PolAt w0 w B last span spans) : PolAt w0 w.drew B last span spans := h.after (Below.refl _ _).drew
theorem PolAt.drewN {w0 w : World} {B : Nat} {last span spans : Int} (h : PolAt w0 w B last span spans) (n : Nat) : PolAt w0 (w.drewN n) B last span spans := h.after (Below.drewN (Below.refl _ _) n)
theorem PolAt.alloc {w0 w : World} {B : Nat} {last span spans : Int} (h : PolAt w0 w B last span spans) (o : Obj) : PolAt w0 (w.alloc o) B last span spans := h.after ((Below.refl _ _).alloc (Nat.le_refl _) _)
theorem PolAt.start (w : World) (last span spans : Int) (t : TypeId) : PolAt w (w.alloc (.cells #[.int .i64 last, .int .i64 span, .int .i64 spans] t)) w.heap.size last span spans where
  below := (Below.refl _ _).alloc (Nat.le_refl _) _
  room := by simp
  c0 := by go_simp
  c1 := by go_simp
  c2 := by go_simp

theorem SlPair.all {B : Nat} {w : World} {v : Value} {l : List Snap} (h : SlPair B w v l) : ∀ s ∈ l, I64 s.1 ∧ I64 s.2 := by
  obtain ⟨a, b, off, cap, _, _, _, _, _, hc⟩ := h
  intro s hs
  obtain ⟨i, hi, rfl⟩ := List.getElem_of_mem hs
  exact ⟨(hc i hi).1.2, (hc i hi).2.2⟩
theorem sameI_self (a : List Int) : sameI a a = true := by simp [sameI]
end Go.Proofs.Ytjjjonhjofllfaa
