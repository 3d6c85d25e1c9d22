/- Contracts of what layer 22's statements share: the chapter's sample, which of it stay, whether the examples are answered, those left. Conditions: the slices lie in memory as stated. -/
import Derived.Test.YtjjjonhjofllfaaRetK
set_option linter.unusedVariables false
set_option linter.unusedSimpArgs false
namespace Go.Proofs.Ytjjjonhjofllfaa
open Go.RowKit Go.Maps

def sampleM : List Snap := [(1, 0), (2, 5), (3, 12), (4, 13), (5, 27)]
def SampleP (w : World) (e : Ending) (w' : World) : Prop := ∃ v, e = .returned v ∧ SlPair w'.heap.size w' v sampleM ∧ Below w.heap.size w w'

set_option maxHeartbeats 1000000 in
theorem sample_any (w : World) : Calls Try.prog 22 #[] w (SampleP w) := by
  go_enter Try.func22, Try.ntmps22
  go_wp2
  go_ret
  refine ⟨_, rfl, Sl.lit w _ _ sampleM (by decide) ?_, (Below.refl _ _).alloc (Nat.le_refl _) _⟩
  intro i hi
  have hi' : i < 5 := hi
  refine ⟨⟨?_, ?_⟩, ⟨?_, ?_⟩⟩
  · rw [cell_new]; rcases i with _ | _ | _ | _ | _ | i <;> first | rfl | omega
  · rcases i with _ | _ | _ | _ | _ | i <;> first | (simp [sampleM, I64]; done) | omega
  · rw [cell_new]; rcases i with _ | _ | _ | _ | _ | i <;> first | rfl | omega
  · rcases i with _ | _ | _ | _ | _ | i <;> first | (simp [sampleM, I64]; done) | omega

set_option maxHeartbeats 1000000 in
theorem stayL_any (B : Nat) (u : Value) (want : List Int) (last span spans : Int) (w : World) (hB : B ≤ w.heap.size) (hu : SlInt B w u want) (hok : toldE sampleM last span spans = 0) (hsame : toldM sampleM last span spans true = want) :
    Calls Try.prog 23 #[.agg #[.int .i64 last, .int .i64 span, .int .i64 spans], u] w fun e w' => e = .returned (.bool true) ∧ Below w.heap.size w w' := by
  have HU := Lib.hid hu; clear hu
  have HOK := Lib.hid hok; have HSA := Lib.hid hsame
  clear hok hsame
  have hb0 : Below w.heap.size w (w.alloc (.cells #[.int .i64 last, .int .i64 span, .int .i64 spans] 24)) := (Below.refl _ _).alloc (Nat.le_refl _) _
  obtain ⟨W1, hW1⟩ : ∃ W1, W1 = w.alloc (.cells #[.int .i64 last, .int .i64 span, .int .i64 spans] 24) := ⟨_, rfl⟩
  have c0 : W1.cell? ⟨w.heap.size, 0, none⟩ = some (.int .i64 last) := by rw [hW1]; go_simp
  have c1 : W1.cell? ⟨w.heap.size, 1, none⟩ = some (.int .i64 span) := by rw [hW1]; go_simp
  have c2 : W1.cell? ⟨w.heap.size, 2, none⟩ = some (.int .i64 spans) := by rw [hW1]; go_simp
  rw [← hW1] at hb0
  have hz1 : w.heap.size < W1.heap.size := by rw [hW1]; simp
  have HB0 := Lib.hid hb0; clear hb0
  go_enter Try.func23, Try.ntmps23
  go_wp2_with fail
  rw [← hW1]
  clear hW1
  go_region_with (first | (go_at_call 22; refine (sample_any _).mono ?_; rintro e w2 ⟨v2, rfl, hv2, hb2⟩; have d0 := (hb2.cell (p := ⟨w.heap.size, 0, none⟩) hz1).trans c0; have d1 := (hb2.cell (p := ⟨w.heap.size, 1, none⟩) hz1).trans c1; have d2 := (hb2.cell (p := ⟨w.heap.size, 2, none⟩) hz1).trans c2) | (go_at_call 13; refine (stay_any _ _ _ _ _ _ _ (Nat.le_refl _) hv2 (by decide)).mono ?_; rintro e w3 ⟨v3, rfl, hv3, hb3⟩))
  all_goals
    have HV3 := Lib.hid hv3
    have hz1d : w.heap.size ≤ W1.drew.heap.size := Nat.le_of_lt hz1
    have HB3 := Lib.hid (Below.after (Below.after HB0.out.drew hb2 hz1d) hb3 (Nat.le_trans hz1d hb2.size))
    clear hv3 hb2 hb3 hv2
    rw [HOK.out]
    go_wp2_with fail
    refine (sameInts_any _ _ _ _ _ _ HV3.out (SlInt.below HU.out (HB3.out.mono hB) (show B ≤ w3.heap.size from Nat.le_trans hB HB3.out.size))).mono ?_
    rintro e w4 ⟨rfl, n, rfl⟩
    rw [HSA.out]
    go_wp2
    go_ret
    exact ⟨ret_bool (by simp [sameI]), Below.drewN HB3.out n⟩
end Go.Proofs.Ytjjjonhjofllfaa
