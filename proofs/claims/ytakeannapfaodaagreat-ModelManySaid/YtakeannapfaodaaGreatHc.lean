/- Merged of TG, TreeB, TH, TV, WM, XA, XB, XC, WQ, WP, XD, WN, XE, XI, XJ, KeysShelf, XK, RetM, RetN, RetF, RetG, RetH, RetI, RetA. Conditions: none. -/
import Derived.Test.YtakeannapfaodaaGreatHb
import Derived.Maps.Keyed
import Derived.Shelf.SlIterI.Nil
import Derived.Shelf.SortM.Plain
import Derived.Shelf.SortM.SortNone
import Derived.Ground.GgzProg
import Derived.Ground.SlgmProg
import Derived.Test.YtakeannapfaodaaGreatProg
import Derived.Maps.OwnSet
import Derived.Maps.RangeWalk
import Derived.StillTailTactics
import Derived.Deep.RegionWith
namespace Go.Proofs.YtakeannapfaodaaGreat
open Go.RowKit
set_option linter.unusedVariables false
set_option linter.unusedSimpArgs false
def bigM (es : List En) (k r : Int) : Prop := k < es.length ∨ r < totM es
instance (es : List En) (k r : Int) : Decidable (bigM es k r) := inferInstanceAs (Decidable (_ ∨ _))
set_option maxRecDepth 20000 in
set_option maxHeartbeats 4000000 in
theorem big_tr {Ps : Nat → Prop} (v : Value) (xs : List ET) (k r : Int) (hk : 0 ≤ k ∧ k ≤ 1000) : Tr Tryz.prog 11 #[v, .int .i64 k, .int .i64 r] [slc rEV Ps v xs] [] (T0 (.bool (decide (bigM (ens xs) k r)))) := by
 refine Tr.of (l := [(0, v), (1, .int .i64 k), (2, .int .i64 r)]) Tryz.func11 rfl (n := 51) rfl (.cons rfl (.cons rfl (.cons rfl .nil))) (fun w0 hro => ?_)
 have hv := ro1 hro
 have hv' := hv
 obtain ⟨av, cv, bv, fv, rfl, hcapv, hmaxv, hnilv, hadv, helv⟩ := Ro.openT hv
 have hel' := ens_length xs
 refine go [9,10,1,7,8,9,10,1,7,8,9,9,10,1,7,8,15] ?_
 refine G.loopK (X := Nat) (ts := [0, 1, 2, 6]) (fun i => i ≤ xs.length ∧ (i : Int) ≤ k + 1 ∧ totM ((ens xs).take i) ≤ i * (3 * 140737488355328)) (fun i => [(7, .int .i64 (totM ((ens xs).take i) : Int)), (8, .int .i64 (i : Int))]) (fun i => []) (fun i => xs.length - i) (x0 := 0) (.cons rfl (.cons rfl (.cons rfl (.cons rfl .nil)))) subT (.cons (.cons .nil)) apT (by first | exact trivial | ((try dsimp only) <;> exact ⟨Nat.zero_le _, by omega, by simp [totM]⟩)) (.consE rfl veqT (.consE rfl veqT .nil)) (fun i hJ => ?_)
 try dsimp only at hJ
 try dsimp only
 obtain ⟨hi1, hi2, hsum⟩ := hJ
 refine go [9,9] ?_
 refine G.cutK (X := Unit) (ts := [0, 1, 2, 6, 7, 8]) (p := []) (fun _ => True) (fun _ => [(17, .bool (decide (i < xs.length ∧ (i : Int) ≤ k)))]) (fun _ => []) (.cons rfl (.cons rfl (.cons rfl (.cons rfl (.cons rfl (.cons rfl .nil)))))) subT (.cons .nil) apT ?_ ?_
 ·refine go [10,0,0,2,5,2,9,0] ?_
  refine G.partP (t := 13) rfl (fun h13 => ?_) (fun h13 => ?_)
  ·refine go [3,0,3,0,3,11,2,2,7] ?_
   exact G.meet (()) trT (.consE rfl Y12 (.cons rfl (.cons rfl (.cons rfl (.cons rfl (.cons rfl (.cons rfl .nil))))))) subT
  refine go [4,4,4,2,2,7] ?_
  exact G.meet (()) trT (.consE rfl Y12 (.cons rfl (.cons rfl (.cons rfl (.cons rfl (.cons rfl (.cons rfl .nil))))))) subT
 intro _ hJ
 try dsimp only at hJ
 try dsimp only
 refine G.condP rfl (fun h17 => ?_) (fun h17 => ?_)
 ·have hlt : i < xs.length := h17.1
  have hik := h17.2
  have hsz := totM_succ hlt
  have hEv := helv i hlt
  have hRv := Ro.evRng hEv
  have hDv := Ro.evDat hEv
  obtain ⟨hk1v, hk2v, hlpv, hldv, hltv⟩ := Ro.evOk hEv
  have hCv := Ro.one1 hDv
  obtain ⟨aD, cD, hx2⟩ := Ro.slv hDv
  rw [hx2] at hRv hCv
  refine go [13,8,9,15] ?_
  refine G.drawT (nn := 23) (p := []) (rem := 8388607) [0, 0, 0, 6, 8, 16, 32, 65, 0, 0, 768, 1024, 2048, 4096, 8320, 0, 0, 98304, 131072, 262144, 524288, 1064960, 4194303] [0, 0, 0, 6, 8, 16, 32, 65, 0, 0, 768, 1024, 2048, 4096, 8320, 0, 0, 98304, 131072, 262144, 524288, 1064960, 2097153] kr ⟨rfl, by kernel_rfl, by kernel_rfl⟩ subT kr (fun hT5 => ?_)
  refine go [22,0,8388606,0,22,1,8388604,0,22,2,8388600,0,22,3,8388592,20,5,22,4,8388576,3,0,22,8,8388320,0,22,9,8387808,0,22,10,8386784,20,5,22,11,8384736,3,3,22,15,8351968,0,22,16,8286432,0,22,17,8155360,20,5,22,18,7893216,3,4,22,5,7893184,4,22,6,7893120,21,22,7,7892992,6,22,12,7888896,4,22,13,7880704,5,22,14,7864320,6,24,19,7340032,25,4,26,22,20,6291456,21,22,21,4194304,6,22,22,0,1,27,16,8,10,0,2,6,1,7] ?_
  exact G.next (i + 1) (by first | exact trivial | ((try dsimp only) <;> exact ⟨by omega, by omega, by rw [hsz]; omega⟩)) (by (try dsimp only); omega) (.consE rfl veqT (.consE rfl veqT (.cons rfl (.cons rfl (.cons rfl (.cons rfl .nil)))))) subT
 have hmost : ¬ k < xs.length → (ens xs).take i = ens xs := fun h => List.take_of_length_le (by omega)
 refine go [18,14,14,19,8,9,10,0,2,5,0,2,10,0] ?_
 refine G.partP (t := 46) rfl (fun h46 => ?_) (fun h46 => ?_)
 ·refine go [4,4,4,2,2,1,7,8,11] ?_
  exact G.done0G rfl (Rv.tmp rfl Rv.nil) (by rw [decide_eq_true (show bigM (ens xs) k r from .inl (by omega))]; rfl)
 refine go [3,0,3,0,3,10,2,2,1,7,8,11] ?_
 exact G.done0G rfl (Rv.tmp rfl Rv.nil) (by rw [hmost (by omega)]; exact dec_e (by unfold bigM; omega))
set_option maxRecDepth 20000 in
set_option maxHeartbeats 4000000 in
theorem sameTree_tr {Ps Pu : Nat → Prop} (v u : Value) (xs ys : List ET) : Tr Tryz.prog 15 #[v, u] [slc rEV Ps v xs, slc rEV Pu u ys] [] (T0 (.bool (decide (ens xs = ens ys)))) := by
 refine Tr.of (l := [(0, v), (1, u)]) Tryz.func15 rfl (n := 81) rfl (.cons rfl (.cons rfl .nil)) (fun w0 hro => ?_)
 obtain ⟨hv0, hu0⟩ := ro2 hro
 have hv := hv0
 have hv' := hv
 obtain ⟨av, cv, bv, fv, rfl, hcapv, hmaxv, hnilv, hadv, helv⟩ := Ro.openT hv
 have hu := hu0
 have hu' := hu
 obtain ⟨au, cu, bu, fu, rfl, hcapu, hmaxu, hnilu, hadu, helu⟩ := Ro.openT hu
 refine go [9,10,1,7,8,9,9,10,0,2,5,0,2,5,2,14,7,8] ?_
 refine G.condP rfl (fun h10 => ?_) (fun h10 => ?_)
 ·refine go [9,10,1,7,8,11,12] ?_
  exact G.done0G rfl (Rv.tmp rfl Rv.nil) (by rw [decide_eq_false (ens_len_ne (by omega))]; rfl)
 have hxy : xs.length = ys.length := by omega
 refine go [13,8,9,9,10,1,7,8,15] ?_
 refine G.loopK (X := Nat) (ts := [0, 1]) (fun i => i ≤ xs.length ∧ (∀ q (hq : q < xs.length), q < i → xs[q].1 = (ys[q]'(by omega)).1)) (fun i => [(5, .int .i64 (i : Int))]) (fun i => []) (fun i => xs.length - i) (x0 := 0) (.cons rfl (.cons rfl .nil)) subT (.cons .nil) apT Y13 (.consE rfl veqT .nil) (fun i hJ => ?_)
 try dsimp only at hJ
 try dsimp only
 obtain ⟨hki, hJ⟩ := hJ
 refine go [9,9,10,0,0,2,5,2,9,7,8] ?_
 refine G.condP rfl (fun h14 => ?_) (fun h14 => ?_)
 ·have hJ0 := hJ
  have hlt : i < xs.length := by omega
  have hlu : i < ys.length := by omega
  have hEv := helv i hlt
  have hRv := Ro.evRng hEv
  have hDv := Ro.evDat hEv
  obtain ⟨hk1v, hk2v, hlpv, hldv, hltv⟩ := Ro.evOk hEv
  have hCv := Ro.one1 hDv
  have hEu := helu i hlu
  have hRu := Ro.evRng hEu
  have hDu := Ro.evDat hEu
  obtain ⟨hk1u, hk2u, hlpu, hldu, hltu⟩ := Ro.evOk hEu
  have hCu := Ro.one1 hDu
  have he := en_eq (a := xs[i].1) (b := ys[i].1)
  refine go [13,8,9,15,9] ?_
  refine G.cutK (X := Unit) (ts := [0, 1, 5]) (p := []) (fun _ => True) (fun _ => [(80, .bool (decide (xs[i].1 ≠ ys[i].1)))]) (fun _ => []) (.cons rfl (.cons rfl (.cons rfl .nil))) subT (.cons .nil) apT ?_ ?_
  ·refine G.drawT (nn := 64) (p := []) (rem := 18446744073709551615) [0, 0, 3, 4, 8, 0, 0, 96, 128, 256, 528, 1024, 2048, 2048, 14336, 18432, 34816, 2048, 2048, 395264, 526336, 1050624, 2164736, 4196352, 8390656, 16777216, 16777216, 117440512, 150994944, 285212672, 16777216, 16777216, 3238002688, 4311744512, 8606711808, 17733517312, 34376515584, 68736253952, 137438953472, 137438953472, 962072674304, 1236950581248, 2336462209024, 137438953472, 137438953472, 26525718020096, 35321811042304, 70506183131136, 145272973819904, 281612415664128, 563087392374784, 1407374883553280, 2251799813685248, 2251799813685248, 15762598695796736, 20266198323167232, 38280596832649216, 2251799813685248, 2251799813685248, 434597364041252864, 578712552117108736, 1155173304420532224, 2380152403065307136, 4613937818241073152] [0, 0, 3, 4, 8, 0, 0, 96, 128, 256, 528, 1024, 2048, 2048, 14336, 18432, 34816, 2048, 2048, 395264, 526336, 1050624, 2164736, 4196352, 8388608, 16777216, 16777216, 117440512, 150994944, 285212672, 16777216, 16777216, 3238002688, 4311744512, 8606711808, 17733517312, 34376515584, 68719476736, 137438953472, 137438953472, 962072674304, 1236950581248, 2336462209024, 137438953472, 137438953472, 26525718020096, 35321811042304, 70506183131136, 145272973819904, 281612415664128, 563087392374784, 1125899906842624, 2251799813685248, 2251799813685248, 15762598695796736, 20266198323167232, 38280596832649216, 2251799813685248, 2251799813685248, 434597364041252864, 578712552117108736, 1155173304420532224, 2380152403065307136, 4613937818241073152] kr ⟨rfl, by kernel_rfl, by kernel_rfl⟩ subT kr (fun hT6 => ?_)
   refine go [22,0,18446744073709551614,0,22,1,18446744073709551612,0,22,2,18446744073709551608,20,5,22,3,18446744073709551600,3,0,22,5,18446744073709551568,0,22,6,18446744073709551504,0,22,7,18446744073709551376,20,5,22,8,18446744073709551120,3,0,22,4,18446744073709551104,4,24,9,18446744073709550592,25,4,26,22,10,18446744073709549568,23,22,11,18446744073709547520,0] ?_
   refine G.partP (t := 28) rfl (fun h28 => ?_) (fun h28 => ?_)
   ·refine go [23,12,18446744073709543424,23,13,18446744073709535232,23,14,18446744073709518848,23,15,18446744073709486080,23,16,18446744073709420544,23,17,18446744073709289472,23,18,18446744073709027328,23,19,18446744073708503040,23,20,18446744073707454464,23,21,18446744073705357312,23,22,18446744073701163008,22,23,18446744073692774400,2,22,24,18446744073675997184,0,23,25,18446744073642442752,23,26,18446744073575333888,23,27,18446744073441116160,23,28,18446744073172680704,23,29,18446744072635809792,23,30,18446744071562067968,23,31,18446744069414584320,23,32,18446744065119617024,23,33,18446744056529682432,23,34,18446744039349813248,23,35,18446744004990074880,22,36,18446743936270598144,2,22,37,18446743798831644672,0,23,38,18446743523953737728,23,39,18446742974197923840,23,40,18446741874686296064,23,41,18446739675663040512,23,42,18446735277616529408,23,43,18446726481523507200,23,44,18446708889337462784,23,45,18446673704965373952,23,46,18446603336221196288,23,47,18446462598732840960,23,48,18446181123756130304,23,49,18445618173802708992,22,50,18444492273895866368,2,22,51,18442240474082181120,0,23,52,18437736874454810624,23,53,18428729675200069632,23,54,18410715276690587648,23,55,18374686479671623680,23,56,18302628885633695744,23,57,18158513697557839872,23,58,17870283321406128128,23,59,17293822569102704640,23,60,16140901064495857664,23,61,13835058055282163712,23,62,9223372036854775808,22,63,0,2,27] ?_
    exact G.meet (()) trT (.consE rfl Y11 (.cons rfl (.cons rfl (.cons rfl .nil)))) subT
   refine go [22,12,18446744073709543424,0,22,13,18446744073709535232,0,22,14,18446744073709518848,20,5,22,15,18446744073709486080,3,1,22,16,18446744073709420544,4,22,17,18446744073709289472,0,22,18,18446744073709027328,0,22,19,18446744073708503040,20,5,22,20,18446744073707454464,3,1,24,21,18446744073705357312,25,4,26,22,22,18446744073701163008,14,22,23,18446744073692774400,2,22,24,18446744073675997184,0] ?_
   refine G.partP (t := 41) rfl (fun h41 => ?_) (fun h41 => ?_)
   ·refine go [23,25,18446744073642442752,23,26,18446744073575333888,23,27,18446744073441116160,23,28,18446744073172680704,23,29,18446744072635809792,23,30,18446744071562067968,23,31,18446744069414584320,23,32,18446744065119617024,23,33,18446744056529682432,23,34,18446744039349813248,23,35,18446744004990074880,22,36,18446743936270598144,2,22,37,18446743798831644672,0,23,38,18446743523953737728,23,39,18446742974197923840,23,40,18446741874686296064,23,41,18446739675663040512,23,42,18446735277616529408,23,43,18446726481523507200,23,44,18446708889337462784,23,45,18446673704965373952,23,46,18446603336221196288,23,47,18446462598732840960,23,48,18446181123756130304,23,49,18445618173802708992,22,50,18444492273895866368,2,22,51,18442240474082181120,0,23,52,18437736874454810624,23,53,18428729675200069632,23,54,18410715276690587648,23,55,18374686479671623680,23,56,18302628885633695744,23,57,18158513697557839872,23,58,17870283321406128128,23,59,17293822569102704640,23,60,16140901064495857664,23,61,13835058055282163712,23,62,9223372036854775808,22,63,0,2,27] ?_
    exact G.meet (()) trT (.consE rfl Y11 (.cons rfl (.cons rfl (.cons rfl .nil)))) subT
   refine go [22,25,18446744073642442752,0,22,26,18446744073575333888,0,22,27,18446744073441116160,20,5,22,28,18446744073172680704,3,2,22,29,18446744072635809792,4,22,30,18446744071562067968,0,22,31,18446744069414584320,0,22,32,18446744065119617024,20,5,22,33,18446744056529682432,3,2,24,34,18446744039349813248,25,4,26,22,35,18446744004990074880,14,22,36,18446743936270598144,2,22,37,18446743798831644672,0] ?_
   refine G.partP (t := 54) rfl (fun h54 => ?_) (fun h54 => ?_)
   ·refine go [23,38,18446743523953737728,23,39,18446742974197923840,23,40,18446741874686296064,23,41,18446739675663040512,23,42,18446735277616529408,23,43,18446726481523507200,23,44,18446708889337462784,23,45,18446673704965373952,23,46,18446603336221196288,23,47,18446462598732840960,23,48,18446181123756130304,23,49,18445618173802708992,22,50,18444492273895866368,2,22,51,18442240474082181120,0,23,52,18437736874454810624,23,53,18428729675200069632,23,54,18410715276690587648,23,55,18374686479671623680,23,56,18302628885633695744,23,57,18158513697557839872,23,58,17870283321406128128,23,59,17293822569102704640,23,60,16140901064495857664,23,61,13835058055282163712,23,62,9223372036854775808,22,63,0,2,27] ?_
    exact G.meet (()) trT (.consE rfl Y11 (.cons rfl (.cons rfl (.cons rfl .nil)))) subT
   refine go [22,38,18446743523953737728,0,22,39,18446742974197923840,0,22,40,18446741874686296064,20,5,22,41,18446739675663040512,3,3,22,42,18446735277616529408,4,22,43,18446726481523507200,0,22,44,18446708889337462784,0,22,45,18446673704965373952,20,5,22,46,18446603336221196288,3,3,24,47,18446462598732840960,25,4,26,24,48,18446181123756130304] ?_
   refine G.turnOp rfl rfl (G.cR rfl rfl rfl rfl Tryz.func43 rfl rfl (may2 Y0 Y0) (same_tr _ _ _ _) ?_)
   refine go [26,22,49,18445618173802708992,15,22,50,18444492273895866368,2,22,51,18442240474082181120,0] ?_
   refine G.partP (t := 68) rfl (fun h68 => ?_) (fun h68 => ?_)
   ·refine go [23,52,18437736874454810624,23,53,18428729675200069632,23,54,18410715276690587648,23,55,18374686479671623680,23,56,18302628885633695744,23,57,18158513697557839872,23,58,17870283321406128128,23,59,17293822569102704640,23,60,16140901064495857664,23,61,13835058055282163712,23,62,9223372036854775808,22,63,0,2,27] ?_
    exact G.meet (()) trT (.consE rfl Y11 (.cons rfl (.cons rfl (.cons rfl .nil)))) subT
   refine go [22,52,18437736874454810624,0,22,53,18428729675200069632,0,22,54,18410715276690587648,20,5,22,55,18374686479671623680,3,4,22,56,18302628885633695744,4,22,57,18158513697557839872,0,22,58,17870283321406128128,0,22,59,17293822569102704640,20,5,22,60,16140901064495857664,3,4,24,61,13835058055282163712,25,4,26,22,62,9223372036854775808,23,22,63,0,2,27] ?_
   exact G.meet (()) trT (.consE rfl Y11 (.cons rfl (.cons rfl (.cons rfl .nil)))) subT
  intro _ hJ
  try dsimp only at hJ
  try dsimp only
  refine G.condP rfl (fun h80 => ?_) (fun h80 => ?_)
  ·have hne : xs[i].1 ≠ ys[i].1 := by assumption
   refine go [9,10,1,7,8,11,17,12,12,17,12] ?_
   exact G.done0G rfl (Rv.tmp rfl Rv.nil) (by rw [decide_eq_false (ens_ne hlt hlu hne)]; rfl)
  have heq : xs[i].1 = ys[i].1 := Decidable.of_not_not (by assumption)
  refine go [13,16,8,10,0,2,6,1,7] ?_
  exact G.next (i + 1) (by first | exact trivial | ((try dsimp only) <;> exact ⟨by omega, fun q hq hqi => by rcases Nat.lt_or_ge q i with h1 | h1; exact hJ0 q hq h1; obtain rfl : q = i := (by omega); exact heq⟩)) (by (try dsimp only); omega) (.consE rfl veqT (.cons rfl (.cons rfl .nil))) subT
 refine go [18,14,14,19,8,9,10,1,7,8,11] ?_
 exact G.done0G rfl (Rv.tmp rfl Rv.nil) (by rw [decide_eq_true (ens_eq (by omega) (fun q hq => hJ q hq (by omega)))]; rfl)
set_option maxRecDepth 100000
theorem flat_dat {xs : List ET} {sp : List Value} {i : Nat} (h : i < xs.length) : (flatT xs ++ sp)[0 + i * 5 + 3]? = some xs[i].2 := flat_at h 3 (by omega)
theorem flat_len {xs : List ET} {sp : List Value} {i j : Nat} (h : i < xs.length) (hj : j < 5) : 0 + i * 5 + j < (flatT xs ++ sp).length := by
 rw [List.length_append, flatT_length]
 omega
theorem flat_put {ws : List ET} {sp : List Value} {i : Nat} (h : i < ws.length) (x : ET) : putN (flatT ws ++ sp) (0 + i * 5) (evC x) = flatT (ws.set i x) ++ sp := by
 have hl : (flatT (ws.set i x)).length = ws.length * 5 := by rw [flatT_length, List.length_set]
 have hl2 : (flatT ws).length = ws.length * 5 := flatT_length ws
 apply List.ext_getElem?
 intro j
 rw [putN_get _ _ _ _ (by rw [evC_length, List.length_append, hl2]; omega), evC_length]
 rcases Nat.lt_or_ge j (ws.length * 5) with hj | hj
 ·obtain ⟨q, r, rfl, hr, hq⟩ : ∃ q r, j = q * 5 + r ∧ r < 5 ∧ q < ws.length := ⟨j / 5, j % 5, by omega, by omega, by omega⟩
  rw [List.getElem?_append_left (by rw [hl2]; omega), flatT_get hq hr, List.getElem?_append_left (by rw [hl]; omega), flatT_get (by rw [List.length_set]; exact hq) hr]
  by_cases hiq : i = q
  ·subst hiq
   rw [List.getElem_set_self, if_pos ⟨by omega, by omega⟩, show i * 5 + r - (0 + i * 5) = r by omega]
  rw [List.getElem_set_ne hiq, if_neg (by omega)]
 rw [if_neg (by omega), List.getElem?_append_right (by rw [hl2]; omega), List.getElem?_append_right (by rw [hl]; omega), hl, hl2]
theorem take_set_succ {α : Type} {zs : List α} {i : Nat} (h : i < zs.length) (x : α) : (zs.set i x).take (i + 1) = zs.take i ++ [x] := by
 rw [List.take_succ_eq_append_getElem (by rw [List.length_set]; exact h), List.getElem_set_self, List.take_set_of_le (Nat.le_refl _)]
theorem ens_set {xs : List ET} {i : Nat} (h : i < xs.length) (d : Value) : ens (xs.set i (xs[i].1, d)) = ens xs := by
 unfold ens
 rw [List.map_set]
 apply List.ext_getElem?
 intro j
 by_cases hj : i = j
 ·subst hj
  rw [List.getElem?_set_self (by rw [List.length_map]; exact h)]
  simp [h]
 rw [List.getElem?_set_ne hj]
theorem len_ens {xs ys : List ET} (h : ens xs = ens ys) : xs.length = ys.length := by
 have := congrArg List.length h
 rwa [ens_length, ens_length] at this
section
variable {P : Program} {n : Nat} {w0 : World} {S : Nat → Prop} {l : Fr} {m : List Ck} {Q : Exit → Act → World → Prop} {K : Act → World → Prop}
theorem Ro.allDat {b o : Nat} {Ps : Nat → Prop} {xs : List ET} (hel : ∀ i (hi : i < xs.length), Ro w0 S (elc rEV Ps b (o + i * 5) xs[i])) : ∀ x ∈ xs, Ro w0 S (slc rByte Ps x.2 x.1.data) := fun x hx => by
 obtain ⟨i, hi, rfl⟩ := List.getElem_of_mem hx
 exact Ro.evDat (hel i hi)
theorem newsT {b o : Nat} {Ps : Nat → Prop} {xs : List ET} (hel : ∀ i (hi : i < xs.length), Ro w0 S (elc rEV Ps b (o + i * 5) xs[i])) : ∀ w, Hp w0 S w m → News w b o (flatT xs) := fun w hw j u hj => by
 have hl : j < xs.length * 5 := by
  have := (List.getElem?_eq_some_iff.1 hj).1
  rwa [flatT_length] at this
 obtain ⟨q, r, rfl, hr, hq⟩ : ∃ q r, j = q * 5 + r ∧ r < 5 ∧ q < xs.length := ⟨j / 5, j % 5, by omega, by omega, by omega⟩
 rw [flatT_get hq hr] at hj
 have h2 := ((hel q hq).at hw : rEV.R Ps w b (o + q * 5) xs[q]).2.1 r u hj
 rwa [Nat.add_assoc] at h2
theorem flatT_one' {xs : List ET} (h : ∀ x ∈ xs, x.2.oneCell' = true) : ∀ u ∈ flatT xs, u.oneCell' = true := fun u hu => by
 obtain ⟨x, hx, hu⟩ := List.mem_flatMap.1 hu
 simp only [evC, List.mem_cons, List.not_mem_nil, or_false] at hu
 rcases hu with rfl | rfl | rfl | rfl | rfl
 ·rfl
 ·rfl
 ·rfl
 ·exact h x hx
 rfl
theorem Ro.allOne {b o : Nat} {Ps : Nat → Prop} {xs : List ET} (hel : ∀ i (hi : i < xs.length), Ro w0 S (elc rEV Ps b (o + i * 5) xs[i])) : ∀ u ∈ flatT xs, u.oneCell' = true := flatT_one' fun x hx => by
 obtain ⟨ad, cap, e⟩ := Ro.slv (Ro.allDat hel x hx)
 rw [e]
 rfl
theorem G.datNil (e : TypeId) (h : G n w0 S l (datC e [] :: m) K) : G n w0 S l m K := G.mem (fun w hw => Hp.star (m := []) hw) h
theorem G.datSnoc {e : TypeId} {ys : List ET} {x : ET} {r r' : List Ck} (h1 : Sel m (datC e ys) r) (h2 : Sel r (ownB e x.2 x.1.data) r') (h : G n w0 S l (datC e (ys ++ [x]) :: r') K) : G n w0 S l m K := G.mem (fun w hw => by
 have h3 := Hp.unstar (hw.sel h1)
 have p : (ys.map (fun x : ET => ownB e x.2 x.1.data) ++ r).Perm (((ys ++ [x]).map fun x : ET => ownB e x.2 x.1.data) ++ r') := by
  rw [List.map_append, List.append_assoc]
  exact List.Perm.append_left _ h2.perm
 exact Hp.star (h3.perm p)) h
end
theorem Tryz.infoEn' : (Tryz.prog.info? 69).map (fun i => (i.zero.map (·.cells.size), i.size, i.bytes)) = some (some 5, 5, 72) := by kernel_rfl
set_option maxRecDepth 20000 in
set_option maxHeartbeats 4000000 in
theorem cloneE_tr {Ps : Nat → Prop} (v : Value) (xs : List ET) (hn : xs.length ≤ 1000) : Tr Tryz.prog 56 #[v] [slc rEV Ps v xs] [] (TX (fun _ : Value => True) (fun x => x) (fun x => [ownT 69 x xs])) := by
 refine Tr.of (l := [(0, v)]) Tryz.func56 rfl (n := 8) rfl (.cons rfl .nil) (fun w0 hro => ?_)
 have hv := ro1 hro
 have hv' := hv
 obtain ⟨av, cv, bv, fv, rfl, hcapv, hmaxv, hnilv, hadv, helv⟩ := Ro.openT hv
 refine go [9,10,1,7,8,9,9,10,0] ?_
 refine G.op rfl (G.val rfl rfl (pv_eqlSl0 Tryz.underlying32 rfl rfl) ?_)
 refine go [7,8] ?_
 refine G.cond rfl (fun h4 => ?_) (fun h4 => ?_)
 ·have hn0 : av = none := by simpa using h4
  have hc0 := hnilv hn0
  obtain rfl : xs = [] := List.eq_nil_of_length_eq_zero (by omega)
  refine go [9,10,1,7,8,11,12] ?_
  refine G.ownNil 69 5 ?_
  exact G.doneX1 (.slice none 0 0) trT rfl rfl rfl subT
 refine go [13,8,9,10,60,4] ?_
 intro b5
 refine G.ownBlk (b := b5) (k := 0) (sz := 5) selT rfl (by omega) ?_
 refine go [0] ?_
 refine G.op rfl (G.append (k := 0) (j := xs.length) (cs := []) (news := flatT xs) (b := bv) (off := fv) rfl Tryz.underlying32 Tryz.infoEn' rfl rfl rfl selT hadv hnilv (flatT_length xs) (newsT helv) (Ro.allOne helv) (by omega) (by omega) ?_)
 intro v'
 rw [List.nil_append, Nat.zero_add xs.length]
 refine go [1,7,8,11] ?_
 exact G.doneX1 (v') trT rfl rfl rfl subT
set_option maxRecDepth 20000 in
set_option maxHeartbeats 4000000 in
theorem copyT_tr {Ps : Nat → Prop} (v : Value) (xs : List ET) (hn : xs.length ≤ 1000) : Tr Tryz.prog 12 #[v] [slc rEV Ps v xs] [] (TX (fun z : Value × List ET => ens z.2 = ens xs) (fun z => z.1) (fun z => [ownT 69 z.1 z.2, datC 5 z.2])) := by
 refine Tr.of (l := [(0, v)]) Tryz.func12 rfl (n := 25) rfl (.cons rfl .nil) (fun w0 hro => ?_)
 have hv := ro1 hro
 have hv' := hv
 obtain ⟨av, cv, bv, fv, rfl, hcapv, hmaxv, hnilv, hadv, helv⟩ := Ro.openT hv
 refine go [9,10,1,7,8,9,10,60,4] ?_
 intro b5
 refine G.ownBlk (b := b5) (k := 0) (sz := 5) selT rfl (by omega) ?_
 refine go [0] ?_
 refine G.op rfl (G.append (k := 0) (j := xs.length) (cs := []) (news := flatT xs) (b := bv) (off := fv) rfl Tryz.underlying32 Tryz.infoEn' rfl rfl rfl selT hadv hnilv (flatT_length xs) (newsT helv) (Ro.allOne helv) (by omega) (by omega) ?_)
 intro v3
 rw [List.nil_append, Nat.zero_add xs.length]
 refine G.ownOpen (v := v3) selT (fun a3 c3 h3 hk3 hm3 => ?_)
 subst h3
 refine go [1,7,8,9,9,10,1,7,8,15] ?_
 refine G.datNil 5 ?_
 refine G.loopK (X := Nat × (List ET)) (ts := [2, 3]) (fun st => st.1 ≤ xs.length ∧ (ens st.2 = ens xs ∧ ∀ q (hq : q < st.2.length) (hx : q < xs.length), st.1 ≤ q → st.2[q] = xs[q])) (fun st => [(4, .int .i64 (st.1 : Int))]) (fun st => [ownT 69 (.slice a3 xs.length c3) st.2, datC 5 (st.2.take st.1)]) (fun st => xs.length - st.1) (x0 := (0, xs)) (.cons rfl (.cons rfl .nil)) subT (.cons .nil) apT Y31 (.consE rfl veqT .nil) (fun st hJ => ?_)
 obtain ⟨i, zs⟩ := st
 try dsimp only at hJ
 try dsimp only
 obtain ⟨hki, hJ⟩ := hJ
 obtain ⟨hez, hsame⟩ := hJ
 have hlz := len_ens hez
 refine go [9,9,10,0,0,2,5,2,9,7,8] ?_
 refine G.condP rfl (fun h11 => ?_) (fun h11 => ?_)
 ·have hlt : i < xs.length := by omega
  have hlt' : i < zs.length := by omega
  have hzx : zs[i] = xs[i] := hsame i hlt' hlt (Nat.le_refl _)
  have hEv := helv i hlt
  have hRv := Ro.evRng hEv
  have hDv := Ro.evDat hEv
  obtain ⟨hk1v, hk2v, hlpv, hldv, hltv⟩ := Ro.evOk hEv
  have hCv := Ro.one1 hDv
  refine go [13,8,9,15,10] ?_
  rw [show ownT 69 (.slice a3 xs.length c3) zs = own 69 5 (.slice a3 xs.length c3) zs.length (flatT zs) from rfl]
  refine G.ownTo selT (by omega) (fun g cap sp hvv hkc hmx hl hlen => ?_)
  injection hvv with e1 e2 e3
  subst e1
  subst e3
  refine go [0,0,0,0] ?_
  refine G.op rfl (G.val rfl rfl (pv_ixSl (sz := 5) (k := i) Tryz.underlying32 kr rfl rfl (fun _ => rfl) (by omega) (by omega)) ?_)
  refine go [2,3,3] ?_
  refine G.op rfl (G.val rfl rfl (pv_load (v := xs[i].2) Tryz.underlying67 rfl rfl (blk_cell selD (by rw [← hzx]; exact flat_dat hlt'))) ?_)
  refine G.op rfl (G.cS rfl rfl rfl rfl Tryz.func34 rfl rfl subT (may1 Y0) (copyB_tr _ _ (by omega)) apT ?_)
  intro x21 hJ
  try dsimp only at hJ
  try dsimp only
  refine G.ownBFact selT (v := x21) (fun hv21 => ?_)
  refine G.op rfl (G.val rfl rfl (pv_ixSl (sz := 5) (k := i) Tryz.underlying32 kr rfl rfl (fun _ => rfl) (by omega) (by omega)) ?_)
  refine go [2,3,3] ?_
  refine G.op rfl (G.store kr rfl rfl (by assumption) selT (flat_len hlt' (by omega)) ?_)
  rw [flat_set hlt']
  refine go [7,16,8,10,0,2,6,1,7] ?_
  refine G.ownOf (sz := 5) (k := xs.length) (cs := flatT (zs.set i (zs[i].1, x21))) (sp := sp) selT (by rw [flatT_length, List.length_set, hlz]) (by omega) hmx Y29 ?_
  have hzt : zs.take i ++ [(zs[i].1, x21)] = (zs.set i (zs[i].1, x21)).take (i + 1) := (take_set_succ hlt' _).symm
  refine G.datSnoc (ys := zs.take i) (x := (zs[i].1, x21)) selT (by rw [show (zs[i].1, x21).1.data = xs[i].1.data from by rw [hzx]]; repeat (first | with_reducible exact Sel.here | exact Sel.here | apply Sel.there)) ?_
  rw [hzt]
  exact G.next ((i + 1, zs.set i (zs[i].1, x21))) (by first | exact trivial | ((try dsimp only) <;> exact ⟨by omega, ⟨by rw [ens_set hlt', hez], fun q hq hx hiq => by rw [List.getElem_set_ne (by omega)]; exact hsame q (by rw [List.length_set] at hq; exact hq) hx (by omega)⟩⟩)) (by (try dsimp only); omega) (.consE rfl veqT (.cons rfl (.cons rfl .nil))) (by show Sub _ [own 69 5 _ (zs.set i (zs[i].1, x21)).length (flatT _), _] _; rw [List.length_set, hlz]; repeat (first | exact Sub.nil | (apply Sub.cons; (repeat (first | with_reducible exact Sel.here | exact Sel.here | apply Sel.there)))))
 refine go [18,14,14,19,8,9,10,0,1,7,8,11] ?_
 obtain rfl : i = xs.length := by omega
 rw [show zs.take xs.length = zs from List.take_of_length_le (by omega)]
 exact G.doneX1 ((.slice a3 xs.length c3, zs)) (by first | exact trivial | ((try dsimp only) <;> exact hez)) rfl rfl rfl subT
section
variable {P : Program} {n : Nat} {w0 : World} {S : Nat → Prop} {l : Fr} {m : List Ck} {K : Act → World → Prop}
theorem G.datCons {e : TypeId} {x : ET} {xs : List ET} {r : List Ck} (h1 : Sel m (datC e (x :: xs)) r) (h : G n w0 S l (ownB e x.2 x.1.data :: datC e xs :: r) K) : G n w0 S l m K := G.mem (fun w hw => by
 have h2 : Hp w0 S w ((ownB e x.2 x.1.data :: xs.map fun x => ownB e x.2 x.1.data) ++ r) := Hp.unstar (hw.sel h1)
 have h3 : Hp w0 S w ((xs.map fun x => ownB e x.2 x.1.data) ++ (ownB e x.2 x.1.data :: r)) := h2.perm (by
  rw [List.cons_append]
  exact List.perm_middle.symm)
 exact (Hp.star h3).perm (List.Perm.swap ..)) h
end
def overX : ET := (⟨[111, 118, 101, 114], -7, 0, [], []⟩, .slice none 0 0)
theorem drop_cons {α : Type} {zs : List α} {i : Nat} (h : i < zs.length) : zs.drop i = zs[i] :: zs.drop (i + 1) := List.drop_eq_getElem_cons h
set_option maxRecDepth 20000 in
set_option maxHeartbeats 4000000 in
theorem overT_tr (v : Value) (zs : List ET) (hn : zs.length ≤ 1000) : Tr Tryz.prog 16 #[v] [] [ownT 69 v zs, datC 5 zs] (TX (fun _ : Unit => True) (fun _ => .tuple #[]) (fun _ => [])) := by
 refine Tr.of (l := [(0, v)]) Tryz.func16 rfl (n := 19) rfl (.cons rfl .nil) (fun w0 hro => ?_)
 rw [show ownT 69 v zs = own 69 5 v zs.length (flatT zs) from rfl]
 refine G.ownOpen (v := v) selT (fun a3 c3 h3 hk3 hm3 => ?_)
 subst h3
 refine go [9,10,1,7,8,15] ?_
 refine G.loopK (X := Nat × (List ET)) (ts := [0]) (fun st => st.1 ≤ zs.length ∧ (st.2.length = zs.length ∧ ∀ q (h1 : q < st.2.length) (h2 : q < zs.length), st.1 ≤ q → st.2[q] = zs[q])) (fun st => [(2, .int .i64 (st.1 : Int))]) (fun st => [own 69 5 (.slice a3 zs.length c3) zs.length (flatT st.2), datC 5 (zs.drop st.1)]) (fun st => zs.length - st.1) (x0 := (0, zs)) (.cons rfl .nil) subT (.cons .nil) apT Y31 (.consE rfl veqT .nil) (fun st hJ => ?_)
 obtain ⟨i, ws⟩ := st
 try dsimp only at hJ
 try dsimp only
 obtain ⟨hki, hJ⟩ := hJ
 obtain ⟨hwl, hwz0⟩ := hJ
 refine go [9,9,10,0,0,2,5,2,9,7,8] ?_
 refine G.condP rfl (fun h6 => ?_) (fun h6 => ?_)
 ·have hlt : i < zs.length := by omega
  have hlt' : i < ws.length := by omega
  have hwz : ws[i] = zs[i] := hwz0 i hlt' hlt (Nat.le_refl _)
  rw [drop_cons hlt]
  refine G.datCons selT ?_
  refine G.ownTo (v := .slice a3 zs.length c3) selT (by omega) (fun g cap sp hvv hkc hmx hl hlen => ?_)
  injection hvv with e1 e2 e3
  subst e1
  subst e3
  refine go [13,8,9,15,9,10,0,0] ?_
  refine G.op rfl (G.val rfl rfl (pv_ixSl (sz := 5) (k := i) Tryz.underlying32 kr rfl rfl (fun _ => rfl) (by omega) (by omega)) ?_)
  refine go [2,3,3] ?_
  refine G.op rfl (G.val rfl rfl (pv_load (v := zs[i].2) Tryz.underlying67 rfl rfl (blk_cell selD (by rw [← hwz]; exact flat_dat hlt'))) ?_)
  refine G.op rfl (G.cS rfl rfl rfl rfl Tryz.func44 rfl rfl subT may0 (overB_tr _ _) apT ?_)
  intro x14 hJ
  try dsimp only at hJ
  try dsimp only
  refine go [7,8,10,0,0] ?_
  refine G.op rfl (G.val rfl rfl (pv_buildSt (z := [.string ⟨#[]⟩, .int .i64 0, .int .i64 0, .slice none 0 0, .string ⟨#[]⟩]) (pl := [(0, 1), (1, 1), (2, 1), (3, 1), (4, 1)]) Tryz.underlying69 kr kr rfl flT) ?_)
  refine G.op rfl (G.val rfl rfl (pv_ixSl (sz := 5) (k := i) Tryz.underlying32 kr rfl rfl (fun _ => rfl) (by omega) (by omega)) ?_)
  refine G.op rfl (G.storeN (vs := evC overX) kr rfl rfl (by rfl) selT (by rw [evC_length, List.length_append, flatT_length]; omega) ?_)
  rw [flat_put hlt']
  refine go [7,16,8,10,0,2,6,1,7] ?_
  refine G.ownOf (sz := 5) (k := zs.length) (cs := flatT (ws.set i overX)) (sp := sp) selT (by rw [flatT_length, List.length_set, hwl]) (by omega) hmx Y29 ?_
  exact G.next ((i + 1, ws.set i overX)) (by first | exact trivial | ((try dsimp only) <;> exact ⟨by omega, ⟨by rw [List.length_set, hwl], fun q h1 h2 hq => by rw [List.getElem_set_ne (by omega)]; exact hwz0 q (by rw [List.length_set] at h1; exact h1) h2 (by omega)⟩⟩)) (by (try dsimp only); omega) (.consE rfl veqT (.cons rfl .nil)) subT
 refine go [18,14,14,19] ?_
 exact G.doneXE (()) trT rfl rfl subT
structure KeyF (P : Program) (k : TypeId) {κ : Type} (f : κ → Value) (ok : κ → Prop) : Prop where
 keyed : Go.Maps.Keyed P k
 is : ∀ x, ok x → ∃ l, keyOf P k (f x) = some l
 inj : ∀ x y, f x = f y → x = y
section
variable {κ : Type} [DecidableEq κ]
def mget : List (κ × Value) → κ → Option Value
 | [], _ => none
 | (a, v) :: l, k => if a = k then some v else mget l k
def mset : List (κ × Value) → κ → Value → List (κ × Value)
 | [], k, v => [(k, v)]
 | (a, u) :: l, k, v => if a = k then (k, v) :: l else (a, u) :: mset l k v
theorem mget_none {l : List (κ × Value)} {k : κ} (h : ∀ p ∈ l, p.1 ≠ k) : mget l k = none := by
 induction l with
 | nil => rfl
 | cons p l ih =>
  obtain ⟨a, u⟩ := p
  have := h (a, u) (List.mem_cons_self ..)
  simp [mget, this, ih fun q hq => h q (List.mem_cons_of_mem _ hq)]
theorem mget_at {l : List (κ × Value)} (hn : (l.map (·.1)).Nodup) {j : Nat} {k : κ} {v : Value} (h : l[j]? = some (k, v)) : mget l k = some v := by
 induction l generalizing j with
 | nil => simp at h
 | cons p l ih =>
  obtain ⟨a, u⟩ := p
  rw [List.map_cons, List.nodup_cons] at hn
  cases j with
  | zero =>
   rw [List.getElem?_cons_zero] at h
   injection h with h
   injection h with h1 h2
   subst h1 h2
   simp [mget]
  | succ j =>
   rw [List.getElem?_cons_succ] at h
   have hm : k ∈ l.map (·.1) := List.mem_map.2 ⟨_, List.mem_of_getElem? h, rfl⟩
   have : ¬ a = k := fun e => hn.1 (e ▸ hm)
   simp [mget, this, ih hn.2 h]
theorem mset_new {l : List (κ × Value)} {k : κ} {v : Value} (h : ∀ p ∈ l, p.1 ≠ k) : mset l k v = l ++ [(k, v)] := by
 induction l with
 | nil => rfl
 | cons p l ih =>
  obtain ⟨a, u⟩ := p
  have := h (a, u) (List.mem_cons_self ..)
  simp [mset, this, ih fun q hq => h q (List.mem_cons_of_mem _ hq)]
theorem mset_at {l : List (κ × Value)} (hn : (l.map (·.1)).Nodup) {j : Nat} {k : κ} {u v : Value} (h : l[j]? = some (k, u)) : mset l k v = l.set j (k, v) := by
 induction l generalizing j with
 | nil => simp at h
 | cons p l ih =>
  obtain ⟨a, w⟩ := p
  rw [List.map_cons, List.nodup_cons] at hn
  cases j with
  | zero =>
   rw [List.getElem?_cons_zero] at h
   injection h with h
   injection h with h1 h2
   subst h1
   simp [mset]
  | succ j =>
   rw [List.getElem?_cons_succ] at h
   have hm : k ∈ l.map (·.1) := List.mem_map.2 ⟨_, List.mem_of_getElem? h, rfl⟩
   have : ¬ a = k := fun e => hn.1 (e ▸ hm)
   simp [mset, this, ih hn.2 h]
theorem mset_keys (l : List (κ × Value)) (k : κ) (v : Value) : (mset l k v).map (·.1) = if k ∈ l.map (·.1) then l.map (·.1) else l.map (·.1) ++ [k] := by
 induction l with
 | nil => simp [mset]
 | cons p l ih =>
  obtain ⟨a, u⟩ := p
  unfold mset
  by_cases h : a = k
  ·subst h
   simp
  rw [if_neg h, List.map_cons, ih]
  by_cases h2 : k ∈ l.map (·.1)
  ·simp [h2]
  simp only [List.map_cons, List.mem_cons, if_neg h2]
  rw [if_neg (fun e => e.elim (fun e => h e.symm) h2)]
  rfl
theorem mset_nodup {l : List (κ × Value)} (hn : (l.map (·.1)).Nodup) (k : κ) (v : Value) : ((mset l k v).map (·.1)).Nodup := by
 rw [mset_keys]
 split
 ·exact hn
 rename_i h
 exact List.nodup_append.2 ⟨hn, by simp, fun a ha b hb => by
  obtain rfl : b = k := by simpa using hb
  exact fun e => h (e ▸ ha)⟩
theorem mset_ok {ok : κ → Prop} {l : List (κ × Value)} (h : ∀ p ∈ l, ok p.1) {k : κ} (hk : ok k) (v : Value) : ∀ p ∈ mset l k v, ok p.1 := fun p hp => by
 have : p.1 ∈ (mset l k v).map (·.1) := List.mem_map.2 ⟨p, hp, rfl⟩
 rw [mset_keys] at this
 split at this
 ·obtain ⟨q, hq, e⟩ := List.mem_map.1 this
  rw [← e]
  exact h q hq
 rcases List.mem_append.1 this with h1 | h1
 ·obtain ⟨q, hq, e⟩ := List.mem_map.1 h1
  rw [← e]
  exact h q hq
 obtain rfl : p.1 = k := by simpa using h1
 exact hk
end
structure MapIs {κ : Type} (f : κ → Value) (ok : κ → Prop) (es : Array MapEntry) (l : List (κ × Value)) : Prop where
 eq : es.toList.map (fun e => (e.key, e.val)) = l.map fun p => (f p.1, p.2)
 nodup : (l.map (·.1)).Nodup
 ok : ∀ p ∈ l, ok p.1
def mpc {κ : Type} (f : κ → Value) (ok : κ → Prop) (b : Nat) (l : List (κ × Value)) : Ck := ⟨(· = b), fun w => ∃ es clock, w.heap[b]? = some (.map es clock) ∧ MapIs f ok es l ∧ Go.MapKept.Stamped es clock, fun w w' h ⟨es, c, h1, h2⟩ => ⟨es, c, (h b rfl).trans h1, h2⟩⟩
section
variable {κ : Type} {f : κ → Value} {ok : κ → Prop} {es : Array MapEntry} {l : List (κ × Value)} {P : Program} {k : TypeId}
theorem MapIs.get (h : MapIs f ok es l) {j : Nat} {e : MapEntry} (he : es[j]? = some e) : ∃ x, l[j]? = some (x, e.val) ∧ f x = e.key := by
 have h1 : (es.toList.map (fun e => (e.key, e.val)))[j]? = some (e.key, e.val) := by rw [List.getElem?_map, Array.getElem?_toList, he]; rfl
 rw [h.eq, List.getElem?_map] at h1
 obtain ⟨p, hp, e2⟩ := Option.map_eq_some_iff.1 h1
 injection e2 with e3 e4
 exact ⟨p.1, by rw [hp, ← e4], e3⟩
theorem MapIs.mem (h : MapIs f ok es l) {e : MapEntry} (he : e ∈ es.toList) : ∃ x, (x, e.val) ∈ l ∧ f x = e.key := by
 obtain ⟨j, hj⟩ := List.getElem?_of_mem he
 obtain ⟨x, h1, h2⟩ := h.get (j := j) (by rw [← Array.getElem?_toList]; exact hj)
 exact ⟨x, List.mem_of_getElem? h1, h2⟩
theorem MapIs.back (h : MapIs f ok es l) {p : κ × Value} (hp : p ∈ l) : ∃ e ∈ es.toList, f p.1 = e.key ∧ p.2 = e.val := by
 have : (f p.1, p.2) ∈ l.map fun p => (f p.1, p.2) := List.mem_map.2 ⟨p, hp, rfl⟩
 rw [← h.eq] at this
 obtain ⟨e, he, e1⟩ := List.mem_map.1 this
 injection e1 with e2 e3
 exact ⟨e, he, e2.symm, e3.symm⟩
theorem MapIs.nil : MapIs f ok #[] [] := ⟨rfl, by simp, by simp⟩
theorem MapIs.find (K : KeyF P k f ok) (h : MapIs f ok es l) {x : κ} (hx : ok x) (w : World) :
 ((Instr.findKey k (f x) es.toList).run P w = .ok none w ∧ (∀ p ∈ l, p.1 ≠ x)) ∨ ∃ j e, (Instr.findKey k (f x) es.toList).run P w = .ok (some (j, e.val)) w ∧ es[j]? = some e ∧ e.key = f x ∧ l[j]? = some (x, e.val) := by
 obtain ⟨lx, hlx⟩ := K.is x hx
 rcases K.keyed.find w hlx es.toList (fun e he => by
  obtain ⟨y, hy, e1⟩ := h.mem he
  rw [← e1]
  exact K.is y (h.ok _ hy)) with ⟨h1, h2⟩ | ⟨j, e, h1, h2, h3⟩
 ·exact .inl ⟨h1, fun p hp e1 => by
   obtain ⟨e, he, e2, _⟩ := h.back hp
   exact h2 e he (by rw [← e2, e1])⟩
 rw [Array.getElem?_toList] at h2
 obtain ⟨y, hy, e1⟩ := h.get h2
 have : y = x := K.inj _ _ (e1.trans h3)
 subst this
 exact .inr ⟨j, e, h1, h2, h3, hy⟩
variable [DecidableEq κ]
theorem run_mapGet {t e : TypeId} {w : World} {b : Nat} {clock : Nat} (K : KeyF P k f ok) (h : MapIs f ok es l) (hb : w.heap[b]? = some (.map es clock)) (ht : P.underlying t = some (.map k e)) {z : Value} (hz : (zeroValue e).run P w = .ok z w) {x : κ} (hx : ok x) (c : Bool) :
 (Instr.lookup t (.map (some b)) (f x) c).run P w = .ok (if c then .tuple #[(mget l x).getD z, .bool (mget l x).isSome] else (mget l x).getD z) w := by
 obtain ⟨lx, hlx⟩ := K.is x hx
 rcases h.find K hx w with ⟨h1, h2⟩ | ⟨j, e0, h1, h2, h3, h4⟩
 ·rw [mget_none h2]
  simp [Instr.lookup, run_underlying ht, MapKept.run_getObj_map hb, K.keyed.check w _ hlx, h1, hz, Result.andThen]
 rw [mget_at h.nodup h4]
 simp [Instr.lookup, run_underlying ht, MapKept.run_getObj_map hb, K.keyed.check w _ hlx, h1, Result.andThen]
theorem run_mapSet {t e : TypeId} {w : World} {b : Nat} {clock : Nat} (K : KeyF P k f ok) (h : MapIs f ok es l) (hb : w.heap[b]? = some (.map es clock)) (ht : P.underlying t = some (.map k e)) {x : κ} (hx : ok x) (v : Value) (hsp : Go.MapKept.Stamped es clock) :
 ∃ es' clock', (Instr.mapUpdate t (.map (some b)) (f x) v).run P w = .ok () (w.putObj b (.map es' clock')) ∧ MapIs f ok es' (mset l x v) ∧ Go.MapKept.Stamped es' clock' := by
 obtain ⟨lx, hlx⟩ := K.is x hx
 rcases h.find K hx w with ⟨h1, h2⟩ | ⟨j, e0, h1, h2, h3, h4⟩
 ·refine ⟨es.push ⟨f x, v, clock⟩, clock + 1, ?_, ⟨?_, mset_nodup h.nodup x v, mset_ok h.ok hx v⟩, Go.MapKept.stamped_push hsp fun e he e1 => by
   obtain ⟨y, hy, e2⟩ := h.mem he
   exact h2 _ hy (K.inj _ _ (e2.trans e1))⟩
  ·simp [Instr.mapUpdate, run_underlying ht, MapKept.run_getObj_map hb, K.keyed.check w false hlx, h1, MapKept.run_setObj_map _ hb, Result.andThen, World.putObj]
  rw [mset_new h2, Array.toList_push, List.map_append, List.map_append, h.eq]
  rfl
 have hst := K.keyed.stays w hlx
 refine ⟨es.modify j fun e => { e with key := f x, val := v }, clock, ?_, ⟨?_, mset_nodup h.nodup x v, mset_ok h.ok hx v⟩, Go.MapKept.stamped_modify hsp j _ (fun e _ => rfl) fun e _ he => by
  rw [h2] at he
  injection he with he
  rw [← he]
  exact h3.symm⟩
 ·simp [Instr.mapUpdate, run_underlying ht, MapKept.run_getObj_map hb, K.keyed.check w false hlx, h1, h2, h3, hst, MapKept.run_setObj_map _ hb, Result.andThen, World.putObj]
 rw [mset_at h.nodup h4]
 apply List.ext_getElem?
 intro q
 rw [List.getElem?_map, List.getElem?_map, Array.getElem?_toList, Array.getElem?_modify]
 by_cases hq : j = q
 ·subst hq
  have hl : j < l.length := (List.getElem?_eq_some_iff.1 h4).1
  rw [if_pos rfl, h2, List.getElem?_set_self hl]
  rfl
 rw [if_neg hq, List.getElem?_set_ne hq]
 have := congrArg (·[q]?) h.eq
 simp only [List.getElem?_map, Array.getElem?_toList] at this
 exact this
end
section
variable {P : Program} {n : Nat} {w0 : World} {S : Nat → Prop} {l : Fr} {m : List Ck} {Q : Exit → Act → World → Prop} {K : Act → World → Prop}
variable {dst : Option Tmp} {ty : TypeId} {pos : String} {after : Array Edge} {g : Option (Nat × Bool)}
theorem G.mapNew {κ : Type} (f : κ → Value) (ok : κ → Prop) {t d : Nat} (hn : Nat.blt d n = true) (h : ∀ b, G n w0 S ((d, .map (some b)) :: l) (mpc f ok b [] :: m) K) : G n w0 S l m (fun a w => Oper.wp P ⟨some d, .makeMap t none, ty, pos, after, g⟩ a w K Q) := G.eff rfl hn fun a w ha hw => by
 have hw' := hw.allocO (.map #[] 0)
 refine ⟨.map (some w.heap.size), w.alloc (.map #[] 0), mpc f ok w.heap.size [] :: m, run_v (run_makeMap t w), ?_, h _⟩
 refine ⟨hw'.chg, fun c hc => ?_, fun c hc b hb => ?_, ?_⟩
 ·rcases List.mem_cons.1 hc with rfl | hc
  ·have : (w.alloc (.map #[] 0)).heap[w.heap.size]? = some (.map #[] 0) := hw'.holds _ (List.mem_cons_self ..)
   exact ⟨#[], 0, this, MapIs.nil, Go.MapKept.stamped_empty 0⟩
  exact hw'.holds c (List.mem_cons_of_mem _ hc)
 ·rcases List.mem_cons.1 hc with rfl | hc
  ·exact hw'.own _ (List.mem_cons_self ..) b hb
  exact hw'.own c (List.mem_cons_of_mem _ hc) b hb
 have hd := List.pairwise_cons.1 hw'.dis
 exact List.pairwise_cons.2 ⟨fun c hc b hb => hd.1 c hc b hb, hd.2⟩
theorem Hp.mapPut {κ : Type} {f : κ → Value} {ok : κ → Prop} {w : World} {b : Nat} {es es' : Array MapEntry} {clock clock' : Nat} {xs xs' : List (κ × Value)} {q : List Ck} (hw : Hp w0 S w (mpc f ok b xs :: q)) (hb : w.heap[b]? = some (.map es clock)) (h : MapIs f ok es' xs') (hsp : Go.MapKept.Stamped es' clock') : Hp w0 S (w.putObj b (.map es' clock')) (mpc f ok b xs' :: q) := by
 have hd := List.pairwise_cons.1 hw.dis
 have h1 : Hp w0 S w (obc b (.map es clock) :: q) := ⟨hw.chg, fun c hc => by
  rcases List.mem_cons.1 hc with rfl | hc
  ·exact hb
  ·exact hw.holds c (List.mem_cons_of_mem _ hc), fun c hc i hi => by
  rcases List.mem_cons.1 hc with rfl | hc
  ·exact hw.own _ (List.mem_cons_self ..) i hi
  exact hw.own c (List.mem_cons_of_mem _ hc) i hi, List.pairwise_cons.2 ⟨fun c hc i hi => hd.1 c hc i hi, hd.2⟩⟩
 have h2 := h1.putO (.map es' clock')
 have hd2 := List.pairwise_cons.1 h2.dis
 refine ⟨h2.chg, fun c hc => ?_, fun c hc i hi => ?_, List.pairwise_cons.2 ⟨fun c hc i hi => hd2.1 c hc i hi, hd2.2⟩⟩
 ·rcases List.mem_cons.1 hc with rfl | hc
  ·exact ⟨es', clock', h2.holds _ (List.mem_cons_self ..), h, hsp⟩
  exact h2.holds c (List.mem_cons_of_mem _ hc)
 rcases List.mem_cons.1 hc with rfl | hc
 ·exact h2.own _ (List.mem_cons_self ..) i hi
 exact h2.own c (List.mem_cons_of_mem _ hc) i hi
theorem G.mapSet {κ : Type} [DecidableEq κ] {f : κ → Value} {ok : κ → Prop} {t k e b : Nat} {xm xk xv : Operand} {x : κ} {v : Value} {xs : List (κ × Value)} {r : List Ck} (Kf : KeyF P k f ok) (ht : P.underlying t = some (.map k e)) (hm : ev l xm = some (.map (some b))) (hk : ev l xk = some (f x)) (hv : ev l xv = some v) (hx : ok x) (hs : Sel m (mpc f ok b xs) r)
 (h : G n w0 S l (mpc f ok b (mset xs x v) :: r) K) : G n w0 S l m (fun a w => Oper.wp P ⟨none, .mapUpdate t xm xk xv, ty, pos, after, g⟩ a w K Q) := G.act rfl fun a w ha hw => by
 have hw' := hw.sel hs
 obtain ⟨es, clock, hb, hi, hsp⟩ : ∃ es clock, w.heap[b]? = some (.map es clock) ∧ MapIs f ok es xs ∧ Go.MapKept.Stamped es clock := hw'.holds _ (List.mem_cons_self ..)
 obtain ⟨es', clock', hr, hi', hsp'⟩ := run_mapSet Kf hi hb ht hx v hsp
 refine ⟨_, _, ?_, hw'.mapPut (clock' := clock') hb hi' hsp', h⟩
 have e1 := ha.eval hm
 have e2 := ha.eval hk
 have e3 := ha.eval hv
 show (execOp a.eval _).run P w = _
 simp only [execOp, e1, e2, e3]
 exact run_u hr
theorem pv_mapGet {κ : Type} [DecidableEq κ] {f : κ → Value} {ok : κ → Prop} {t k e b : Nat} {xm xk : Operand} {c : Bool} {x : κ} {z : Value} {xs : List (κ × Value)} (Kf : KeyF P k f ok) (ht : P.underlying t = some (.map k e)) (hz : ∀ w, (zeroValue e).run P w = .ok z w) (hm : ev l xm = some (.map (some b))) (hk : ev l xk = some (f x)) (hx : ok x)
 (hs : ∀ w, Hp w0 S w m → (mpc f ok b xs).φ w) : PV P n w0 S l m ⟨dst, .lookup t xm xk c, ty, pos, after, g⟩ (if c then .tuple #[(mget xs x).getD z, .bool (mget xs x).isSome] else (mget xs x).getD z) := fun a w ha hw => by
 obtain ⟨es, clock, hb, hi, _⟩ := hs w hw
 have e1 := ha.eval hm
 have e2 := ha.eval hk
 show (execOp a.eval _).run P w = _
 simp only [execOp, e1, e2]
 exact run_v (run_mapGet Kf hi hb ht (hz w) hx c)
theorem sel_map {κ : Type} {f : κ → Value} {ok : κ → Prop} {b : Nat} {xs : List (κ × Value)} {r : List Ck} (h : Sel m (mpc f ok b xs) r) : ∀ w, Hp w0 S w m → (mpc f ok b xs).φ w := fun w hw => hw.holds _ h.mem
end
theorem vInt_inj' {a b : Int} (h : vInt a = vInt b) : a = b := by
 unfold vInt at h
 injection h
theorem keyN : KeyF Tryz.prog 3 vInt I64 where
 keyed := Go.Maps.int_keyed Tryz.underlying3
 is x hx := ⟨_, Go.Maps.keyOf_int_mk Tryz.underlying3 (by simp only [Lit.wf, Bool.and_eq_true, decide_eq_true_eq]; exact ⟨hx.1, hx.2⟩)⟩
 inj _ _ h := vInt_inj' h
section
variable {P : Program} {n : Nat} {w0 : World} {S : Nat → Prop} {l : Fr} {m : List Ck} {dst : Option Tmp} {ty : TypeId} {pos : String} {after : Array Edge} {g : Option (Nat × Bool)}
theorem run_eqM {t k e : TypeId} (ht : P.underlying t = some (.map k e)) (a : Option Nat) (w : World) : ∀ d, (Op.equalIn (d + 1) t (.map a) (.map none)).run P w = .ok a.isNone w := fun d => by
 cases a <;> simp [Op.equalIn, Sem.run_bind, run_underlying ht, Result.andThen, Sem.run_pure]
theorem pv_eqlM0 {a : Option Nat} {t u k e : TypeId} {x y : Operand} (ht : P.underlying t = some (.map k e)) (hx : ev l x = some (.map a)) (hy : ev l y = some (.map none)) : PV P n w0 S l m ⟨dst, .binOp .eql t x y u, ty, pos, after, g⟩ (.bool a.isNone) :=
 pv_bin hx hy (by rw [eqGuard_at_map]) fun w => by
  show ((Op.equalIn Op.maxDepth t (.map a) (.map none)) >>= fun x => pure (Value.bool x)).run P w = _
  have h := run_eqM ht a w 9999
  simp only [Sem.run_bind, show Op.maxDepth = 9999 + 1 from rfl, h, Result.andThen, Sem.run_pure]
end
structure Sp where
 n : Int
 c : Int
 t : Int
 l : List En
structure ST where
 n : Int
 c : Int
 t : Int
 v : Value
 l : List ET
def ST.pl (s : ST) : Sp := ⟨s.n, s.c, s.t, ens s.l⟩
def snC (s : ST) : List Value := [vInt s.n, vInt s.c, vInt s.t, s.v]
theorem snC_len (s : ST) : (snC s).length = 4 := rfl
structure Cl where
 b : Nat
 v : Value
 g : Int
 ss : List ST
abbrev MS := List (Int × Cl)
def sps (ss : List ST) : List Sp := ss.map ST.pl
theorem sps_length (ss : List ST) : (sps ss).length = ss.length := List.length_map ..
def Cl.pl (z : Cl) : Int × List Sp := (z.g, sps z.ss)
abbrev PM := List (Int × (Int × List Sp))
def plM (st : MS) : PM := st.map fun p => (p.1, p.2.pl)
def trees (ss : List ST) : Ck := star (ss.flatMap fun s => [ownT 69 s.v s.l, datC 5 s.l])
def cliP (z : Cl) : List Ck := [blk z.b 77 [z.v, .int .i64 z.g], own 79 4 z.v z.ss.length (z.ss.flatMap snC), trees z.ss]
def cliC (z : Cl) : Ck := star (cliP z)
def clis (st : MS) : Ck := star (st.map fun p => cliC p.2)
def ptrs (st : MS) : List (Int × Value) := st.map fun p => (p.1, .pointer (some ⟨p.2.b, 0, none⟩))
def stGet : MS → Int → Option Cl
 | [], _ => none
 | (k, z) :: st, c => if k = c then some z else stGet st c
def stDel : MS → Int → MS
 | [], _ => []
 | (k, z) :: st, c => if k = c then st else (k, z) :: stDel st c
def stSet : MS → Int → Cl → MS
 | [], c, z => [(c, z)]
 | (k, y) :: st, c, z => if k = c then (c, z) :: st else (k, y) :: stSet st c z
def plGet : PM → Int → Int × List Sp
 | [], _ => (0, [])
 | (k, z) :: st, c => if k = c then z else plGet st c
def plSet : PM → Int → Int × List Sp → PM
 | [], c, z => [(c, z)]
 | (k, y) :: st, c, z => if k = c then (c, z) :: st else (k, y) :: plSet st c z
theorem pl_set (st : MS) (c : Int) (z : Cl) : plM (stSet st c z) = plSet (plM st) c z.pl := by
 induction st with
 | nil => rfl
 | cons p st ih =>
  obtain ⟨k, y⟩ := p
  by_cases h : k = c
  ·simp [plM, stSet, plSet, h]
  simp only [plM, stSet, if_neg h, List.map_cons, plSet]
  exact congrArg _ ih
theorem pl_get (st : MS) (c : Int) : plGet (plM st) c = ((stGet st c).map Cl.pl).getD (0, []) := by
 induction st with
 | nil => rfl
 | cons p st ih =>
  obtain ⟨k, y⟩ := p
  by_cases h : k = c
  ·simp [plM, stGet, plGet, h]
  simp only [plM, stGet, if_neg h, List.map_cons, plGet]
  exact ih
theorem ptrs_set (st : MS) (c : Int) (z : Cl) (h : ∀ y, stGet st c = some y → y.b = z.b) : ptrs (stSet st c z) = mset (ptrs st) c (.pointer (some ⟨z.b, 0, none⟩)) := by
 induction st with
 | nil => rfl
 | cons p st ih =>
  obtain ⟨k, y⟩ := p
  by_cases h1 : k = c
  ·simp [ptrs, stSet, mset, h1]
  simp only [ptrs, stSet, if_neg h1, List.map_cons, mset]
  rw [stGet, if_neg h1] at h
  exact congrArg _ (ih h)
theorem ptrs_get (st : MS) (c : Int) : mget (ptrs st) c = (stGet st c).map fun z => .pointer (some ⟨z.b, 0, none⟩) := by
 induction st with
 | nil => rfl
 | cons p st ih =>
  obtain ⟨k, y⟩ := p
  by_cases h1 : k = c
  ·simp [ptrs, stGet, mget, h1]
  simp only [ptrs, stGet, if_neg h1, List.map_cons, mget]
  exact ih
theorem set_perm (st : MS) (c : Int) (z : Cl) : (stSet st c z).Perm ((c, z) :: stDel st c) := by
 induction st with
 | nil => exact List.Perm.refl _
 | cons p st ih =>
  obtain ⟨k, y⟩ := p
  by_cases h1 : k = c
  ·simp [stSet, stDel, h1]
  simp only [stSet, stDel, if_neg h1]
  exact (ih.cons _).trans (List.Perm.swap ..)
theorem get_perm {st : MS} {c : Int} {z : Cl} (h : stGet st c = some z) : st.Perm ((c, z) :: stDel st c) := by
 induction st with
 | nil => cases h
 | cons p st ih =>
  obtain ⟨k, y⟩ := p
  rw [stGet] at h
  by_cases h1 : k = c
  ·rw [if_pos h1] at h
   injection h with h
   simp [stDel, h1, h]
  rw [if_neg h1] at h
  simp only [stDel, if_neg h1]
  exact ((ih h).cons _).trans (List.Perm.swap ..)
theorem del_none {st : MS} {c : Int} (h : stGet st c = none) : stDel st c = st := by
 induction st with
 | nil => rfl
 | cons p st ih =>
  obtain ⟨k, y⟩ := p
  rw [stGet] at h
  by_cases h1 : k = c
  ·rw [if_pos h1] at h
   cases h
  rw [if_neg h1] at h
  simp only [stDel, if_neg h1]
  rw [ih h]
theorem set_get {st : MS} {c : Int} {z : Cl} (h : stGet st c = some z) : stSet st c z = st := by
 induction st with
 | nil => cases h
 | cons p st ih =>
  obtain ⟨k, y⟩ := p
  rw [stGet] at h
  by_cases h1 : k = c
  ·rw [if_pos h1] at h
   injection h with h
   simp [stSet, h1, h]
  rw [if_neg h1] at h
  simp only [stSet, if_neg h1]
  rw [ih h]
theorem snC_app (ss : List ST) (s : ST) : ss.flatMap snC ++ snC s = (ss ++ [s]).flatMap snC := by simp [List.flatMap_append]
theorem snC_one {s : ST} (h : s.v.oneCell' = true) : ∀ u ∈ snC s, u.oneCell' = true := fun u hu => by
 simp only [snC, List.mem_cons, List.not_mem_nil, or_false] at hu
 rcases hu with rfl | rfl | rfl | rfl
 ·rfl
 ·rfl
 ·rfl
 exact h
theorem Tryz.infoSn : (Tryz.prog.info? 79).map (fun i => (i.zero.map (·.cells.size), i.size, i.bytes)) = some (some 4, 4, 48) := by kernel_rfl
def IsCl (st : MS) (c : Int) (z : Cl) : Prop := stGet st c = some z ∨ (stGet st c = none ∧ z.v = .slice none 0 0 ∧ z.g = 0 ∧ z.ss = [])
theorem IsCl.pl {st : MS} {c : Int} {z : Cl} (h : IsCl st c z) : plGet (plM st) c = z.pl := by
 rw [pl_get]
 rcases h with h | ⟨h, h1, h2, h3⟩
 ·rw [h]; rfl
 rw [h, Cl.pl, h2, h3]; rfl
theorem IsCl.b {st : MS} {c : Int} {z : Cl} (h : IsCl st c z) : ∀ y, stGet st c = some y → y.b = z.b := fun y hy => by
 rcases h with h | ⟨h, _⟩
 ·rw [h] at hy
  injection hy with hy
  rw [hy]
 rw [h] at hy
 cases hy
section
variable {n : Nat} {w0 : World} {S : Nat → Prop} {l : Fr} {m : List Ck} {K : Act → World → Prop}
theorem G.unstar {a r : List Ck} (h1 : Sel m (star a) r) (h : G n w0 S l (a ++ r) K) : G n w0 S l m K := G.mem (fun w hw => Hp.unstar (hw.sel h1)) h
theorem G.mkStar {p r : List Ck} (h1 : Sub m p r) (h : G n w0 S l (star p :: r) K) : G n w0 S l m K := G.mem (fun w hw => Hp.star (hw.perm h1.perm)) h
theorem G.starPerm {a b r : List Ck} (h1 : Sel m (star a) r) (hp : a.Perm b) (h : G n w0 S l (star b :: r) K) : G n w0 S l m K := G.mem (fun w hw => Hp.star ((Hp.unstar (hw.sel h1)).perm (List.Perm.append_right r hp))) h
theorem G.cliOut {st : MS} {c : Int} {z : Cl} {r : List Ck} (hz : stGet st c = some z) (h1 : Sel m (clis st) r) (h : G n w0 S l (cliC z :: clis (stDel st c) :: r) K) : G n w0 S l m K :=
 G.starPerm (b := cliC z :: (stDel st c).map fun p => cliC p.2) h1 ((get_perm hz).map fun p => cliC p.2) (G.mem (m := star (cliC z :: (stDel st c).map fun p => cliC p.2) :: r) (fun w hw => by
  have h2 := Hp.unstar hw
  have h3 : Hp w0 S w (((stDel st c).map fun p : Int × Cl => cliC p.2) ++ (cliC z :: r)) := h2.perm (by rw [List.cons_append]; exact List.perm_middle.symm)
  exact (Hp.star h3).perm (List.Perm.swap ..)) h)
theorem G.cliIn {st : MS} {c : Int} {z : Cl} {r r' : List Ck} (h1 : Sel m (cliC z) r) (h2 : Sel r (clis (stDel st c)) r') (h : G n w0 S l (clis (stSet st c z) :: r') K) : G n w0 S l m K :=
 G.mem (fun w hw => by
  have h3 := (hw.sel h1).perm (List.Perm.cons _ h2.perm)
  have h4 : Hp w0 S w (star ((stDel st c).map fun p => cliC p.2) :: cliC z :: r') := h3.perm (List.Perm.swap ..)
  have h5 := Hp.unstar h4
  have h6 : Hp w0 S w ((cliC z :: (stDel st c).map fun p => cliC p.2) ++ r') := h5.perm (by rw [List.cons_append]; exact List.perm_middle)
  have e := ((set_perm st c z).map (fun p : Int × Cl => cliC p.2)).symm
  have h7 : Hp w0 S w ((stSet st c z).map (fun p : Int × Cl => cliC p.2) ++ r') := h6.perm (List.Perm.append_right r' e)
  exact Hp.star h7) h
theorem G.cliBack {st : MS} {c : Int} {z : Cl} {r r' : List Ck} (hz : IsCl st c z) (h1 : Sel m (cliC z) r) (h2 : Sel r (clis (stDel st c)) r') (h : G n w0 S l (clis st :: r') K) : G n w0 S l m K := by
 rcases hz with hz | ⟨hz, _⟩
 ·refine G.cliIn (z := z) h1 h2 ?_
  rw [set_get hz]
  exact h
 rw [del_none hz] at h2
 exact G.mem (fun w hw => (((hw.sel h1).perm (List.Perm.cons _ h2.perm)).tail)) h
theorem G.cliOpen {zb : Nat} {zv : Value} {zg : Int} {zs : List ST} {r : List Ck} (h1 : Sel m (cliC ⟨zb, zv, zg, zs⟩) r) (h : G n w0 S l (blk zb 77 [zv, .int .i64 zg] :: own 79 4 zv zs.length (zs.flatMap snC) :: trees zs :: r) K) : G n w0 S l m K := G.unstar (a := cliP ⟨zb, zv, zg, zs⟩) h1 h
theorem G.cliMk {zb : Nat} {zv : Value} {zg : Int} {zs : List ST} {r : List Ck} (h1 : Sub m [blk zb 77 [zv, .int .i64 zg], own 79 4 zv zs.length (zs.flatMap snC), trees zs] r) (h : G n w0 S l (cliC ⟨zb, zv, zg, zs⟩ :: r) K) : G n w0 S l m K := G.mkStar (p := cliP ⟨zb, zv, zg, zs⟩) h1 h
theorem G.treesNil (h : G n w0 S l (trees [] :: m) K) : G n w0 S l m K := G.mem (fun w hw => Hp.star (m := []) hw) h
theorem G.treesSnoc {ss : List ST} {s : ST} {r r' r'' : List Ck} (h1 : Sel m (trees ss) r) (h2 : Sel r (ownT 69 s.v s.l) r') (h3 : Sel r' (datC 5 s.l) r'') (h : G n w0 S l (trees (ss ++ [s]) :: r'') K) : G n w0 S l m K :=
 G.mem (fun w hw => by
  have h4 : Hp w0 S w (trees ss :: ownT 69 s.v s.l :: datC 5 s.l :: r'') := (hw.sel h1).perm (List.Perm.cons _ (h2.perm.trans (List.Perm.cons _ h3.perm)))
  have h5 := Hp.unstar h4
  have h6 : Hp w0 S w (((ss ++ [s]).flatMap fun s => [ownT 69 s.v s.l, datC 5 s.l]) ++ r'') := by
   rw [List.flatMap_append, List.append_assoc]
   simpa using h5
  exact Hp.star h6) h
end
def fitE (c n k t : Int) (es : List En) : Int := if ¬ (1 ≤ c ∧ c ≤ 2147483647) ∨ ¬ (1 ≤ n ∧ n ≤ 2147483647) ∨ ¬ (1 ≤ k ∧ k ≤ 2147483647) ∨ ¬ (0 ≤ t ∧ t ≤ 2147483647) then 5 else if (checkT es).1 = 0 then 0 else 2
def takeM (pm : PM) (c n k t : Int) (es : List En) : Int × PM :=
 if fitE c n k t es ≠ 0 then (fitE c n k t es, pm) else if n ≤ (plGet pm c).1 then (7, pm) else if 64 ≤ ((plGet pm c).2.length : Int) then (8, pm) else (0, plSet pm c (n, (plGet pm c).2 ++ [⟨n, k, t, es⟩]))
theorem takeM_fit {pm : PM} {c n k t : Int} {es : List En} (h : ¬ fitE c n k t es = 0) : takeM pm c n k t es = (fitE c n k t es, pm) := if_pos h
theorem takeM_there {pm : PM} {c n k t : Int} {es : List En} (h : fitE c n k t es = 0) (h1 : n ≤ (plGet pm c).1) : takeM pm c n k t es = (7, pm) := (if_neg (not_not_intro h)).trans (if_pos h1)
theorem takeM_full {pm : PM} {c n k t : Int} {es : List En} (h : fitE c n k t es = 0) (h1 : ¬ n ≤ (plGet pm c).1) (h2 : 64 ≤ ((plGet pm c).2.length : Int)) : takeM pm c n k t es = (8, pm) := (if_neg (not_not_intro h)).trans ((if_neg h1).trans (if_pos h2))
theorem takeM_new {pm : PM} {c n k t : Int} {es : List En} (h : fitE c n k t es = 0) (h1 : ¬ n ≤ (plGet pm c).1) (h2 : ¬ 64 ≤ ((plGet pm c).2.length : Int)) : takeM pm c n k t es = (0, plSet pm c (n, (plGet pm c).2 ++ [⟨n, k, t, es⟩])) := (if_neg (not_not_intro h)).trans ((if_neg h1).trans (if_neg h2))
def lastOf (l : List Sp) (k : Int) : Option Sp := l.reverse.find? fun s => decide (s.c = k)
def backM (pm : PM) (c k t : Int) (es : List En) : (Int × Int) × PM :=
 if fitE c 1 k t es ≠ 0 then ((0, fitE c 1 k t es), pm) else match lastOf (plGet pm c).2 k with
 | some s => ((s.n, 0), pm)
 | none => if (plGet pm c).1 = 2147483647 then ((0, 5), pm) else if (takeM pm c ((plGet pm c).1 + 1) k t es).1 ≠ 0 then ((0, (takeM pm c ((plGet pm c).1 + 1) k t es).1), (takeM pm c ((plGet pm c).1 + 1) k t es).2) else (((plGet pm c).1 + 1, 0), (takeM pm c ((plGet pm c).1 + 1) k t es).2)
def okC (z : Int × List Sp) : Prop := (0 ≤ z.1 ∧ z.1 ≤ 2147483647) ∧ z.2.length ≤ 64 ∧ ∀ s ∈ z.2, (1 ≤ s.n ∧ s.n ≤ z.1) ∧ (1 ≤ s.c ∧ s.c ≤ 2147483647) ∧ (0 ≤ s.t ∧ s.t ≤ 2147483647) ∧ s.l.length ≤ 200 ∧ ∀ e ∈ s.l, EnOk e
def okM (pm : PM) : Prop := ∀ p ∈ pm, (1 ≤ p.1 ∧ p.1 ≤ 2147483647) ∧ okC p.2
theorem okM.get {pm : PM} (h : okM pm) (c : Int) : okC (plGet pm c) := by
 induction pm with
 | nil => exact ⟨⟨by show (0 : Int) ≤ 0; decide, by show (0 : Int) ≤ 2147483647; decide⟩, Nat.zero_le _, fun s hs => by cases hs⟩
 | cons p pm ih =>
  obtain ⟨k, z⟩ := p
  rw [plGet]
  split
  ·exact (h _ (List.mem_cons_self ..)).2
  exact ih fun q hq => h q (List.mem_cons_of_mem _ hq)
theorem okM.set {pm : PM} (h : okM pm) {c : Int} (hc : 1 ≤ c ∧ c ≤ 2147483647) {z : Int × List Sp} (hz : okC z) : okM (plSet pm c z) := by
 induction pm with
 | nil =>
  intro p hp
  obtain rfl : p = (c, z) := by simpa [plSet] using hp
  exact ⟨hc, hz⟩
 | cons p pm ih =>
  obtain ⟨k, y⟩ := p
  rw [plSet]
  split
  ·intro q hq
   rcases List.mem_cons.1 hq with rfl | hq
   ·exact ⟨hc, hz⟩
   exact h q (List.mem_cons_of_mem _ hq)
  intro q hq
  rcases List.mem_cons.1 hq with rfl | hq
  ·exact h _ (List.mem_cons_self ..)
  exact ih (fun q hq => h q (List.mem_cons_of_mem _ hq)) q hq
theorem fitE_zero {c n k t : Int} {es : List En} (h : fitE c n k t es = 0) : (1 ≤ c ∧ c ≤ 2147483647) ∧ (1 ≤ n ∧ n ≤ 2147483647) ∧ (1 ≤ k ∧ k ≤ 2147483647) ∧ (0 ≤ t ∧ t ≤ 2147483647) ∧ (checkT es).1 = 0 ∧ es.length ≤ 200 := by
 unfold fitE at h
 split at h
 ·cases h
 rename_i h1
 split at h
 ·rename_i h2
  exact ⟨by omega, by omega, by omega, by omega, h2, (checkT_zero h2).1⟩
 cases h
theorem takeM_ok {pm : PM} (h : okM pm) {c n k t : Int} {es : List En} (he : ∀ e ∈ es, EnOk e) : okM (takeM pm c n k t es).2 := by
 unfold takeM
 split
 ·exact h
 rename_i h0
 split
 ·exact h
 rename_i h1
 split
 ·exact h
 rename_i h2
 obtain ⟨f1, f2, f3, f4, f5, f6⟩ := fitE_zero (Decidable.of_not_not h0)
 obtain ⟨g1, g2, g3⟩ := h.get c
 refine h.set f1 ⟨⟨by show 0 ≤ n; omega, f2.2⟩, by simp only [List.length_append, List.length_singleton]; omega, fun s hs => ?_⟩
 rcases List.mem_append.1 hs with hs | hs
 ·obtain ⟨a1, a2⟩ := g3 s hs
  exact ⟨⟨a1.1, by show s.n ≤ n; omega⟩, a2⟩
 obtain rfl : s = _ := by simpa using hs
 exact ⟨⟨f2.1, Int.le_refl _⟩, f3, f4, f6, he⟩
theorem backM_ok {pm : PM} (h : okM pm) {c k t : Int} {es : List En} (he : ∀ e ∈ es, EnOk e) : okM (backM pm c k t es).2 := by
 unfold backM
 split
 ·exact h
 split
 ·exact h
 split
 ·exact h
 split
 ·exact takeM_ok h he
 exact takeM_ok h he
theorem backM_fit {pm : PM} {c k t : Int} {es : List En} (h : ¬ fitE c 1 k t es = 0) : backM pm c k t es = ((0, fitE c 1 k t es), pm) := if_pos h
theorem backM_go {pm : PM} {c k t : Int} {es : List En} (h : fitE c 1 k t es = 0) : backM pm c k t es = (match lastOf (plGet pm c).2 k with
 | some s => ((s.n, 0), pm)
 | none => if (plGet pm c).1 = 2147483647 then ((0, 5), pm) else if (takeM pm c ((plGet pm c).1 + 1) k t es).1 ≠ 0 then ((0, (takeM pm c ((plGet pm c).1 + 1) k t es).1), (takeM pm c ((plGet pm c).1 + 1) k t es).2) else (((plGet pm c).1 + 1, 0), (takeM pm c ((plGet pm c).1 + 1) k t es).2)) := if_neg (not_not_intro h)
theorem backM_old {pm : PM} {c k t : Int} {es : List En} {s : Sp} (h : fitE c 1 k t es = 0) (h1 : lastOf (plGet pm c).2 k = some s) : backM pm c k t es = ((s.n, 0), pm) := by rw [backM_go h, h1]
theorem backM_max {pm : PM} {c k t : Int} {es : List En} (h : fitE c 1 k t es = 0) (h1 : lastOf (plGet pm c).2 k = none) (h2 : (plGet pm c).1 = 2147483647) : backM pm c k t es = ((0, 5), pm) := by
 rw [backM_go h, h1]
 exact if_pos h2
theorem backM_bad {pm : PM} {c k t : Int} {es : List En} {n : Int} (h : fitE c 1 k t es = 0) (h1 : lastOf (plGet pm c).2 k = none) (h2 : ¬ (plGet pm c).1 = 2147483647) (hn : (plGet pm c).1 + 1 = n) (h3 : ¬ (takeM pm c n k t es).1 = 0) : backM pm c k t es = ((0, (takeM pm c n k t es).1), (takeM pm c n k t es).2) := by
 subst hn
 rw [backM_go h, h1]
 exact (if_neg h2).trans (if_pos h3)
theorem backM_new {pm : PM} {c k t : Int} {es : List En} {n : Int} (h : fitE c 1 k t es = 0) (h1 : lastOf (plGet pm c).2 k = none) (h2 : ¬ (plGet pm c).1 = 2147483647) (hn : (plGet pm c).1 + 1 = n) (h3 : (takeM pm c n k t es).1 = 0) : backM pm c k t es = ((n, 0), (takeM pm c n k t es).2) := by
 subst hn
 rw [backM_go h, h1]
 exact (if_neg h2).trans (if_neg (not_not_intro h3))
def sbk (xs : List ST) (k : Nat) : ST := (xs[xs.length - 1 - k]?).getD ⟨0, 0, 0, .slice none 0 0, []⟩
theorem sbk_eq {xs : List ST} {k : Nat} (h : k < xs.length) : sbk xs k = xs[xs.length - 1 - k]'(by omega) := by
 unfold sbk
 rw [List.getElem?_eq_getElem (show xs.length - 1 - k < xs.length by omega)]
 rfl
theorem sbk_rev {xs : List ST} {k : Nat} (h : k < (sps xs).reverse.length) : (sps xs).reverse[k] = (sbk xs k).pl := by
 have h1 : k < xs.length := by simpa [sps] using h
 rw [sbk_eq h1, List.getElem_reverse]
 simp [sps]
theorem slast_none {xs : List ST} {k : Int} (h : ∀ q, q < xs.length → ¬ (sbk xs q).c = k) : lastOf (sps xs) k = none := by
 unfold lastOf
 refine List.find?_eq_none.2 fun s hs => ?_
 obtain ⟨q, hq, rfl⟩ := List.getElem_of_mem hs
 rw [sbk_rev hq]
 exact fun e => h q (by simpa [sps] using hq) (of_decide_eq_true e)
theorem slast_at {xs : List ST} {k : Int} {i : Nat} (hi : i < xs.length) (h : ∀ q, q < i → ¬ (sbk xs q).c = k) (he : (sbk xs i).c = k) : lastOf (sps xs) k = some (sbk xs i).pl := by
 unfold lastOf
 have hl : i < (sps xs).reverse.length := by simpa [sps] using hi
 refine List.find?_eq_some_iff_getElem.2 ⟨decide_eq_true he, i, hl, sbk_rev hl, fun j hj => ?_⟩
 rw [sbk_rev (by omega)]
 exact by rw [show decide ((sbk xs j).pl.c = k) = false from decide_eq_false (h j hj)]; rfl
theorem rows_sl9 {α : Type} {f : α → List Value} {k : Nat} {E : Rdr α} (hf : ∀ x, (f x).length = k) (hE : E.sz = k) {e : TypeId} {v : Value} {xs : List α} {w : World} {Ps : Nat → Prop} (h : w.ownsRow 0 e k v xs.length (xs.flatMap f)) (hP : ∀ b, v.ownBlock = some b → Ps b)
 (hx : ∀ b o x, x ∈ xs → Ps b → w.rangeAt b o (f x) → E.R Ps w b o x) : IsSl E Ps w v xs := by
 obtain ⟨ad, cap, b, hv, had, hnil, hnw⟩ := own_news h
 obtain ⟨h1, h2⟩ := h
 have hb : xs.length ≤ cap ∧ cap ≤ 9223372036854775807 := by
  rcases h2 with ⟨rfl, h0⟩ | ⟨g, cap', cur, rfl, _, _, hc, hm, _⟩
  ·injection hv with e1 e2 e3
   subst e3
   omega
  injection hv with e1 e2 e3
  subst e3
  exact ⟨hc, by unfold maxLen at hm; omega⟩
 refine ⟨ad, cap, b, 0, hv, hb.1, hb.2, hnil, had, fun i hi => hx _ _ _ (List.getElem_mem hi) (hP b ?_) fun j u hj => ?_⟩
 ·rw [hv, had (by omega)]
  rfl
 have hjk : j < k := by
  have := (List.getElem?_eq_some_iff.1 hj).1
  rwa [hf] at this
 have := hnw (i * k + j) u (by rw [flatMap_get f k hf xs i j hi hjk]; exact hj)
 rw [hE, show 0 + i * k + j = 0 + (i * k + j) from by omega]
 exact this
def rSn : Rdr ST where
 sz := 4
 R := fun Ps w b o x => Ps b ∧ w.rangeAt b o (snC x)
 loc := fun h ⟨h1, h2⟩ => ⟨h1, rangeAt_loc (h _ h1) h2⟩
 mono := fun h ⟨h1, h2⟩ => ⟨h _ h1, h2⟩
section
variable {n : Nat} {w0 : World} {S : Nat → Prop} {l : Fr} {m : List Ck} {K : Act → World → Prop}
theorem Ro.snRng {Ps : Nat → Prop} {b o : Nat} {x : ST} (h : Ro w0 S (elc rSn Ps b o x)) : Ro w0 S (rng b o (snC x)) := ⟨h.1.2, fun k hk => h.2 k Y30⟩
theorem may_snaps {e : TypeId} {v : Value} {xs : List ST} {r : List Ck} (h : Sel m (own e 4 v xs.length (xs.flatMap snC)) r) : May w0 S m (slc rSn (fun b => v.ownBlock = some b) v xs) :=
 .view h.mem (fun w hw => rows_sl9 snC_len rfl hw (fun b hb => hb) fun b o x hx hP hr => ⟨hP, hr⟩) fun b hb => hb
theorem G.treesOne {ss : List ST} {r : List Ck} (h1 : Sel m (trees ss) r) (h : (∀ s ∈ ss, s.v.oneCell' = true) → G n w0 S l m K) : G n w0 S l m K :=
 G.fact (p := ∀ s ∈ ss, s.v.oneCell' = true) (fun w hw s hs => own_cell1 ((hw.holds _ h1.mem : (trees ss).φ w).1 (ownT 69 s.v s.l) (List.mem_flatMap.2 ⟨s, hs, by simp⟩))) h
end
set_option maxRecDepth 20000 in
set_option maxHeartbeats 4000000 in
theorem none_tr (Dm bm : Nat) : Tr Tryz.prog 35 #[.pointer (some ⟨Dm, 0, none⟩)] [] [blk Dm 43 [.map (some bm)]] (TX (fun _ : Unit => True) (fun _ => .bool false) (fun _ => [blk Dm 43 [.map (some bm)]])) := by
 refine Tr.of (l := [(0, .pointer (some ⟨Dm, 0, none⟩))]) Tryz.func35 rfl (n := 12) rfl (.cons rfl .nil) (fun w0 hro => ?_)
 refine go [9,10,1,7,8,9,10,0] ?_
 refine G.op rfl (G.val rfl rfl (pv_eqlP0 Tryz.underlying23 rfl rfl) ?_)
 refine go [0,3,0,3,8,3,3,0,3,4] ?_
 refine G.want rfl rfl rfl (G.val rfl rfl (pv_eqlM0 Tryz.underlying41 rfl rfl) ?_)
 refine go [2,2,1,7,8,11] ?_
 exact G.doneX1 (()) trT rfl rfl rfl subT
set_option maxRecDepth 20000 in
set_option maxHeartbeats 4000000 in
theorem mnew_tr : Tr Tryz.prog 5 #[] [] [] (TX (fun _ : Nat × Nat => True) (fun z => .pointer (some ⟨z.1, 0, none⟩)) (fun z => [blk z.1 43 [.map (some z.2)], mpc vInt I64 z.2 (ptrs ([] : MS)), clis ([] : MS)])) := by
 refine Tr.of (l := []) Tryz.func5 rfl (n := 4) rfl Fa.nil (fun w0 hro => ?_)
 refine go [9,10,1,7,8,9,10] ?_
 refine G.op rfl (G.mapNew vInt I64 rfl ?_)
 intro bm
 refine G.op rfl (G.val rfl rfl (pv_buildSt (z := [.map none]) (pl := [(0, 1)]) Tryz.underlying43 kr kr rfl flT) ?_)
 refine go [60,3] ?_
 intro b3
 refine go [1,7,8,11] ?_
 refine G.mkStar (p := []) Sub.nil ?_
 exact G.doneX1 ((b3, bm)) trT rfl rfl rfl subT
set_option maxRecDepth 20000 in
set_option maxHeartbeats 4000000 in
theorem mwithin_tr (n k : Int) : Tr Tryz.prog 54 #[.int .i64 n, .int .i64 k] [] [] (T0 (.bool (decide (k ≤ n ∧ n ≤ 2147483647)))) := by
 refine Tr.of (l := [(0, .int .i64 n), (1, .int .i64 k)]) Tryz.func54 rfl (n := 12) rfl (.cons rfl (.cons rfl .nil)) (fun w0 hro => ?_)
 refine go [9,10,1,7,8,9,10,0,0,2,12,0] ?_
 refine G.partP (t := 8) rfl (fun h8 => ?_) (fun h8 => ?_)
 ·refine go [3,0,3,11,2,2,1,7,8,11] ?_
  exact G.done0G rfl (Rv.tmp rfl Rv.nil) Y12
 refine go [4,4,2,2,1,7,8,11] ?_
 exact G.done0G rfl (Rv.tmp rfl Rv.nil) Y12
set_option maxRecDepth 20000 in
set_option maxHeartbeats 4000000 in
theorem fits_tr {Ps : Nat → Prop} (c n k t : Int) (v : Value) (xs : List ET) : Tr Tryz.prog 36 #[.int .i64 c, .int .i64 n, .int .i64 k, .int .i64 t, v] [slc rEV Ps v xs] [] (T0 (.int .i64 (fitE c n k t (ens xs)))) := by
 refine Tr.of (l := [(0, .int .i64 c), (1, .int .i64 n), (2, .int .i64 k), (3, .int .i64 t), (4, v)]) Tryz.func36 rfl (n := 38) rfl (.cons rfl (.cons rfl (.cons rfl (.cons rfl (.cons rfl .nil))))) (fun w0 hro => ?_)
 have hv := ro1 hro
 refine go [9,10,1,7,8,9,9] ?_
 refine G.cutK (X := Unit) (ts := [4, 10]) (p := []) (fun _ => True) (fun _ => [(30, .bool (decide (¬ (1 ≤ c ∧ c ≤ 2147483647) ∨ ¬ (1 ≤ n ∧ n ≤ 2147483647) ∨ ¬ (1 ≤ k ∧ k ≤ 2147483647) ∨ ¬ (0 ≤ t ∧ t ≤ 2147483647))))]) (fun _ => []) (.cons rfl (.cons rfl .nil)) subT (.cons .nil) apT ?_ ?_
 ·refine go [10,0] ?_
  refine G.op rfl (G.cR rfl rfl rfl rfl Tryz.func54 rfl rfl may0 (mwithin_tr _ _) ?_)
  refine go [2,15,0] ?_
  refine G.partP (t := 16) rfl (fun h16 => ?_) (fun h16 => ?_)
  ·refine go [4,4,4,2,2,0,4,4,4,2,2,0,4,4,4,2,2,7] ?_
   exact G.meet (()) trT (.consE rfl Y5 (.cons rfl (.cons rfl .nil))) subT
  refine go [3,0] ?_
  refine G.want rfl rfl rfl (G.cR rfl rfl rfl rfl Tryz.func54 rfl rfl may0 (mwithin_tr _ _) ?_)
  refine go [3,15,2,2,0] ?_
  refine G.partP (t := 21) rfl (fun h21 => ?_) (fun h21 => ?_)
  ·refine go [4,4,4,2,2,0,4,4,4,2,2,7] ?_
   exact G.meet (()) trT (.consE rfl Y5 (.cons rfl (.cons rfl .nil))) subT
  refine go [3,0] ?_
  refine G.want rfl rfl rfl (G.cR rfl rfl rfl rfl Tryz.func54 rfl rfl may0 (mwithin_tr _ _) ?_)
  refine go [3,15,2,2,0] ?_
  refine G.partP (t := 26) rfl (fun h26 => ?_) (fun h26 => ?_)
  ·refine go [4,4,4,2,2,7] ?_
   exact G.meet (()) trT (.consE rfl Y5 (.cons rfl (.cons rfl .nil))) subT
  refine go [3,0] ?_
  refine G.want rfl rfl rfl (G.cR rfl rfl rfl rfl Tryz.func54 rfl rfl may0 (mwithin_tr _ _) ?_)
  refine go [3,15,2,2,7] ?_
  exact G.meet (()) trT (.consE rfl Y5 (.cons rfl (.cons rfl .nil))) subT
 intro _ hJ
 try dsimp only at hJ
 try dsimp only
 refine G.condP rfl (fun h30 => ?_) (fun h30 => ?_)
 ·have he : fitE c n k t (ens xs) = 5 := if_pos (by assumption)
  refine go [9,10,1,7,8,11,12] ?_
  exact G.done0G rfl (Rv.tmp rfl Rv.nil) (by rw [he]; rfl)
 have he : fitE c n k t (ens xs) = (if (checkT (ens xs)).1 = 0 then 0 else 2) := if_neg (by assumption)
 refine go [13,8,9,9,10,0] ?_
 refine G.op rfl (G.cR rfl rfl rfl rfl Tryz.func55 rfl rfl (may1 (.old hv)) (tcheck_tr _ _) ?_)
 refine go [0,2,7,2,7,1,1,7,8,9,10,0,2,14,7,8] ?_
 refine G.condP rfl (fun h37 => ?_) (fun h37 => ?_)
 ·refine go [9,10,1,7,8,11,12] ?_
  exact G.done0G rfl (Rv.tmp rfl Rv.nil) (by rw [he, if_neg (by assumption)]; rfl)
 refine go [13,8,9,10,1,7,8,11] ?_
 exact G.done0G rfl (Rv.tmp rfl Rv.nil) (by rw [he, if_pos (Decidable.of_not_not (by assumption))]; rfl)
set_option maxRecDepth 20000 in
set_option maxHeartbeats 4000000 in
theorem of_tr (Dm bm : Nat) (st : MS) (c : Int) (hc : I64 c) : Tr Tryz.prog 37 #[.pointer (some ⟨Dm, 0, none⟩), .int .i64 c] [] [blk Dm 43 [.map (some bm)], mpc vInt I64 bm (ptrs st), clis st] (TX (fun z : Cl => IsCl st c z) (fun z => .pointer (some ⟨z.b, 0, none⟩)) (fun z => [blk Dm 43 [.map (some bm)], mpc vInt I64 bm (ptrs st), clis (stDel st c), cliC z])) := by
 refine Tr.of (l := [(0, .pointer (some ⟨Dm, 0, none⟩)), (1, .int .i64 c)]) Tryz.func37 rfl (n := 17) rfl (.cons rfl (.cons rfl .nil)) (fun w0 hro => ?_)
 refine go [9,10,1,7,8,9,9,10,0,2,8,2,3,0,2,4,0] ?_
 refine G.op rfl (G.val rfl rfl ((pv_mapGet (f := vInt) (ok := I64) (x := c) (z := .pointer none) (xs := ptrs st) keyN Tryz.underlying41 (fun w => by kernel_rfl) rfl rfl hc (sel_map selT)).cast (v' := .pointer ((stGet st c).map fun z => ⟨z.b, 0, none⟩)) (by rw [ptrs_get]; cases stGet st c <;> rfl)) ?_)
 refine go [1,7,8,9,10,0] ?_
 refine G.op rfl (G.val rfl rfl (pv_neqP0 Tryz.underlying71 rfl rfl) ?_)
 refine go [7,8] ?_
 refine G.cond rfl (fun h13 => ?_) (fun h13 => ?_)
 ·obtain ⟨z, hz⟩ : ∃ z, stGet st c = some z := by cases h : stGet st c with | none => rw [h] at h13; cases h13 | some z => exact ⟨z, rfl⟩
  rw [hz]
  refine go [9,10,0,1,7,8,11,12] ?_
  refine G.cliOut hz selT ?_
  exact G.doneX1 (z) (by first | exact trivial | ((try dsimp only) <;> exact .inl hz)) rfl rfl rfl subT
 have hz : stGet st c = none := by cases h : stGet st c with | none => rfl | some z => rw [h] at h13; cases h13
 refine go [13,8,9,10] ?_
 refine G.op rfl (G.val rfl rfl (pv_buildSt (z := [.slice none 0 0, .int .i64 0]) (pl := [(0, 1), (1, 1)]) Tryz.underlying77 kr kr rfl flT) ?_)
 refine G.op rfl (G.box rfl rfl (cs := [_, _]) rfl ?_)
 intro b16
 refine go [1,7,8,11] ?_
 rw [show clis st = clis (stDel st c) from by rw [del_none hz]]
 refine G.ownNil 79 4 ?_
 refine G.treesNil ?_
 refine G.mkStar (p := cliP ⟨b16, .slice none 0 0, 0, []⟩) subT ?_
 rw [show star (cliP ⟨b16, .slice none 0 0, 0, []⟩) = cliC ⟨b16, .slice none 0 0, 0, []⟩ from rfl]
 exact G.doneX1 (⟨b16, .slice none 0 0, 0, []⟩) (by first | exact trivial | ((try dsimp only) <;> exact .inr ⟨hz, rfl, rfl, rfl⟩)) rfl rfl rfl subT
set_option maxRecDepth 20000 in
set_option maxHeartbeats 4000000 in
theorem mclone_tr {Ps : Nat → Prop} (v : Value) (xs : List ET) (hn : xs.length ≤ 1000) : Tr Tryz.prog 38 #[v] [slc rEV Ps v xs] [] (TX (fun z : Value × List ET => ens z.2 = ens xs) (fun z => z.1) (fun z => [ownT 69 z.1 z.2, datC 5 z.2])) := by
 refine Tr.of (l := [(0, v)]) Tryz.func38 rfl (n := 24) rfl (.cons rfl .nil) (fun w0 hro => ?_)
 have hv := ro1 hro
 have hv' := hv
 obtain ⟨av, cv, bv, fv, rfl, hcapv, hmaxv, hnilv, hadv, helv⟩ := Ro.openT hv
 refine go [9,10,1,7,8,9,10,0] ?_
 refine G.op rfl (G.cS rfl rfl rfl rfl Tryz.func56 rfl rfl subT (may1 Y0) (cloneE_tr _ _ (by omega)) apT ?_)
 intro x6 hJ
 try dsimp only at hJ
 try dsimp only
 refine G.ownOpen (v := x6) selT (fun a3 c3 h3 hk3 hm3 => ?_)
 subst h3
 refine go [1,7,8,9,9,10,0,2,5,0,7,8,15] ?_
 refine G.datNil 5 ?_
 refine G.loopK (X := Nat × (List ET)) (ts := [2, 3, 8]) (fun st => st.1 ≤ xs.length ∧ (ens st.2 = ens xs ∧ ∀ q (hq : q < st.2.length) (hx : q < xs.length), st.1 ≤ q → st.2[q] = xs[q])) (fun st => [(9, .int .i64 (st.1 : Int))]) (fun st => [ownT 69 (.slice a3 xs.length c3) st.2, datC 5 (st.2.take st.1)]) (fun st => xs.length - st.1) (x0 := (0, xs)) (.cons rfl (.cons rfl (.cons rfl .nil))) subT (.cons .nil) apT Y31 (.consE rfl veqT .nil) (fun st hJ => ?_)
 obtain ⟨i, zs⟩ := st
 try dsimp only at hJ
 try dsimp only
 obtain ⟨hki, hJ⟩ := hJ
 obtain ⟨hez, hsame⟩ := hJ
 have hlz := len_ens hez
 refine go [9,10,2,9,7,8,9] ?_
 refine G.condP rfl (fun h10 => ?_) (fun h10 => ?_)
 ·have hlt : i < xs.length := by omega
  have hlt' : i < zs.length := by omega
  have hzx : zs[i] = xs[i] := hsame i hlt' hlt (Nat.le_refl _)
  have hEv := helv i hlt
  have hRv := Ro.evRng hEv
  have hDv := Ro.evDat hEv
  obtain ⟨hk1v, hk2v, hlpv, hldv, hltv⟩ := Ro.evOk hEv
  have hCv := Ro.one1 hDv
  refine go [13,8,9,15,9,10,0,1,7,8,10] ?_
  rw [show ownT 69 (.slice a3 xs.length c3) zs = own 69 5 (.slice a3 xs.length c3) zs.length (flatT zs) from rfl]
  refine G.ownTo selT (by omega) (fun g cap sp hvv hkc hmx hl hlen => ?_)
  injection hvv with e1 e2 e3
  subst e1
  subst e3
  refine go [0,0,0,0] ?_
  refine G.op rfl (G.val rfl rfl (pv_ixSl (sz := 5) (k := i) Tryz.underlying32 kr rfl rfl (fun _ => rfl) (by omega) (by omega)) ?_)
  refine go [2,3,3] ?_
  refine G.op rfl (G.val rfl rfl (pv_load (v := xs[i].2) Tryz.underlying67 rfl rfl (blk_cell selD (by rw [← hzx]; exact flat_dat hlt'))) ?_)
  refine G.op rfl (G.cS rfl rfl rfl rfl Tryz.func57 rfl rfl subT (may1 Y0) (cloneB_tr _ _ (by omega)) apT ?_)
  intro x19 hJ
  try dsimp only at hJ
  try dsimp only
  refine G.ownBFact selT (v := x19) (fun hv19 => ?_)
  refine G.op rfl (G.val rfl rfl (pv_ixSl (sz := 5) (k := i) Tryz.underlying32 kr rfl rfl (fun _ => rfl) (by omega) (by omega)) ?_)
  refine go [2,3,3] ?_
  refine G.op rfl (G.store kr rfl rfl (by assumption) selT (flat_len hlt' (by omega)) ?_)
  rw [flat_set hlt']
  refine go [7,16,8,10,2,6,0,7] ?_
  refine G.ownOf (sz := 5) (k := xs.length) (cs := flatT (zs.set i (zs[i].1, x19))) (sp := sp) selT (by rw [flatT_length, List.length_set, hlz]) (by omega) hmx Y29 ?_
  have hzt : zs.take i ++ [(zs[i].1, x19)] = (zs.set i (zs[i].1, x19)).take (i + 1) := (take_set_succ hlt' _).symm
  refine G.datSnoc (ys := zs.take i) (x := (zs[i].1, x19)) selT (by rw [show (zs[i].1, x19).1.data = xs[i].1.data from by rw [hzx]]; repeat (first | with_reducible exact Sel.here | exact Sel.here | apply Sel.there)) ?_
  rw [hzt]
  exact G.next ((i + 1, zs.set i (zs[i].1, x19))) (by first | exact trivial | ((try dsimp only) <;> exact ⟨by omega, ⟨by rw [ens_set hlt', hez], fun q hq hx hiq => by rw [List.getElem_set_ne (by omega)]; exact hsame q (by rw [List.length_set] at hq; exact hq) hx (by omega)⟩⟩)) (by (try dsimp only); omega) (.consE rfl veqT (.cons rfl (.cons rfl (.cons rfl .nil)))) (by show Sub _ [own 69 5 _ (zs.set i (zs[i].1, x19)).length (flatT _), _] _; rw [List.length_set, hlz]; repeat (first | exact Sub.nil | (apply Sub.cons; (repeat (first | with_reducible exact Sel.here | exact Sel.here | apply Sel.there)))))
 refine go [18,14,14,19,8,9,10,0,1,7,8,11] ?_
 obtain rfl : i = xs.length := by omega
 rw [show zs.take xs.length = zs from List.take_of_length_le (by omega)]
 exact G.doneX1 ((.slice a3 xs.length c3, zs)) (by first | exact trivial | ((try dsimp only) <;> exact hez)) rfl rfl rfl subT
set_option maxRecDepth 20000 in
set_option maxHeartbeats 4000000 in
theorem mtake_tr {Ps : Nat → Prop} (Dm bm : Nat) (st : MS) (c n k t : Int) (v : Value) (xs : List ET) (hok : okM (plM st)) (hc : I64 c) : Tr Tryz.prog 13 #[.pointer (some ⟨Dm, 0, none⟩), .int .i64 c, .int .i64 n, .int .i64 k, .int .i64 t, v] [slc rEV Ps v xs] [blk Dm 43 [.map (some bm)], mpc vInt I64 bm (ptrs st), clis st]
 (TX (fun st' : MS => plM st' = (takeM (plM st) c n k t (ens xs)).2) (fun _ => .int .i64 (takeM (plM st) c n k t (ens xs)).1) (fun st' => [blk Dm 43 [.map (some bm)], mpc vInt I64 bm (ptrs st'), clis st'])) := by
 refine Tr.of (l := [(0, .pointer (some ⟨Dm, 0, none⟩)), (1, .int .i64 c), (2, .int .i64 n), (3, .int .i64 k), (4, .int .i64 t), (5, v)]) Tryz.func13 rfl (n := 71) rfl (.cons rfl (.cons rfl (.cons rfl (.cons rfl (.cons rfl (.cons rfl .nil)))))) (fun w0 hro => ?_)
 have hv := ro1 hro
 have hel' := ens_length xs
 refine go [9,10,1,7,8,9,9,10,0] ?_
 refine G.op rfl (G.cS rfl rfl rfl rfl Tryz.func35 rfl rfl subT may0 (none_tr _ _) apT ?_)
 intro x16 hJ
 try dsimp only at hJ
 try dsimp only
 refine go [7,8,60,0,13,8,9,9,10,0,0,0,0,0] ?_
 refine G.op rfl (G.cR rfl rfl rfl rfl Tryz.func36 rfl rfl (may1 (.old hv)) (fits_tr _ _ _ _ _ _) ?_)
 refine go [1,7,8,9,10,0,2,14,7,8] ?_
 refine G.condP rfl (fun h24 => ?_) (fun h24 => ?_)
 ·refine go [9,10,0,1,7,8,11,12] ?_
  rw [takeM_fit (by assumption)]
  exact G.doneX1 (st) Y7 rfl rfl rfl subT
 have hf0 : fitE c n k t (ens xs) = 0 := Decidable.of_not_not (by assumption)
 obtain ⟨f1, f2, f3, f4, f5, f6⟩ := fitE_zero hf0
 refine go [13,8,9,10,0,0] ?_
 refine G.op rfl (G.cS rfl rfl rfl rfl Tryz.func37 rfl rfl subT may0 (of_tr _ _ _ _ (by assumption)) apT ?_)
 intro x28 hJ
 obtain ⟨zb, zv, zg, zs⟩ := x28
 try dsimp only at hJ
 try dsimp only
 have hz : IsCl st c ⟨zb, zv, zg, zs⟩ := hJ
 have hpl : plGet (plM st) c = (zg, sps zs) := hz.pl
 have hokc := hok.get c
 rw [hpl] at hokc
 obtain ⟨⟨hg1, hg2⟩, hsl, hss⟩ := hokc
 have hsl : zs.length ≤ 64 := by rw [← sps_length]; exact hsl
 refine G.cliOpen selT ?_
 refine G.ownOpen (v := zv) selT (fun za zc hzv _ _ => ?_)
 subst hzv
 refine go [1,7,8,9,15,9,10,0,0,2,8,2,3,1,2,4,2,11,1,7,8] ?_
 refine G.condP rfl (fun h29 => ?_) (fun h29 => ?_)
 ·refine go [9,10,1,7,8,11,17,12] ?_
  rw [takeM_there hf0 (by rw [hpl]; assumption)]
  refine G.cliMk (zb := zb) (zv := .slice za zs.length zc) (zg := zg) (zs := zs) subT ?_
  refine G.cliBack hz selT selT ?_
  exact G.doneX1 (st) Y7 rfl rfl rfl subT
 refine go [9,10,0,2,8,2,3,0,2,3,0,2,4,2,5,2,12,1,7,8] ?_
 refine G.condP rfl (fun h36 => ?_) (fun h36 => ?_)
 ·refine go [9,10,1,7,8,11,17,12] ?_
  rw [takeM_full hf0 (by rw [hpl]; assumption) (by rw [hpl, sps_length]; assumption)]
  refine G.cliMk (zb := zb) (zv := .slice za zs.length zc) (zg := zg) (zs := zs) subT ?_
  refine G.cliBack hz selT selT ?_
  exact G.doneX1 (st) Y7 rfl rfl rfl subT
 refine go [13,16,8,9] ?_
 refine G.drawT (nn := 18) (p := [blk zb 77 _, own 79 4 _ _ _]) (rem := 262143) [0, 0, 2, 4, 8, 16, 0, 0, 0, 0, 512, 1472, 2048, 5152, 16383, 32767, 49151, 81919] [0, 0, 2, 4, 8, 16, 0, 0, 0, 0, 512, 1472, 2048, 4128, 1, 16384, 32768, 73728] kr ⟨rfl, by kernel_rfl, by kernel_rfl⟩ subT kr (fun hT11 => ?_)
 refine go [22,0,262142,0,22,1,262140,0,22,2,262136,8,22,3,262128,3,0,22,4,262112,3,0,22,6,262048,0,22,7,261920,0,22,8,261664,0,22,9,261152,0] ?_
 refine G.twoT hT11 (i := 5) (j := 10) (rem' := 261120) (rem'' := 260128) kr kr kr ?_ ?_
 ·refine go [25,4,26,24,10,260096] ?_
  refine G.turnOp rfl rfl (G.cS rfl rfl rfl rfl Tryz.func38 rfl rfl subT (may1 (.old hv)) (mclone_tr _ _ (by omega)) apT ?_)
  intro x54 hJ
  obtain ⟨v', l'⟩ := x54
  try dsimp only at hJ
  try dsimp only
  have hel : ens l' = ens xs := hJ
  refine G.ownFact (v := v') selT (fun hv'1 _ => ?_)
  refine go [26] ?_
  refine G.takeT hT11 (i := 11) (rem' := 258048) rfl rfl rfl kr (fun _ _ _ h => h) rfl (pv_buildSt (z := [.int .i64 0, .int .i64 0, .int .i64 0, .slice none 0 0]) (pl := [(0, 1), (1, 1), (2, 1), (3, 1)]) Tryz.underlying79 kr kr rfl flT) subT ?_
  refine go [24,12,253952] ?_
  refine G.turnOp rfl rfl (G.buildSlice (z := .agg #[.int .i64 0, .int .i64 0, .int .i64 0, .slice none 0 0]) (sz := 4) (cs := snC ⟨n, k, t, v', l'⟩) rfl Tryz.underlying73 kr (by decide) (by decide) rfl kr ?_)
  intro b56
  refine go [26,24,13,245760] ?_
  refine G.turnOp rfl rfl (G.append (k := zs.length) (j := 1) (cs := zs.flatMap snC) (news := snC ⟨n, k, t, v', l'⟩) (b := b56) (off := 0) rfl Tryz.underlying73 Tryz.infoSn rfl rfl rfl selT (fun _ => rfl) (fun h => by cases h) rfl (blk_news (k := 4) selT rfl) (snC_one hv'1) (by omega) (by omega) ?_)
  intro vn
  rw [snC_app, show zs.length + 1 = (zs ++ [(⟨n, k, t, v', l'⟩ : ST)]).length from by rw [List.length_append]; rfl]
  refine G.ownFact (v := vn) selT (fun hvn _ => ?_)
  refine go [26,22,14,229376,8,22,15,196608,3,0,22,16,131072,3,0,24,17,0,30,26,27,8,9,10,0,0,2,8,2,3,1,21,7,8,9,10,0,2,8,2,3,0,2,4,0,0] ?_
  refine G.op rfl (G.mapSet (f := vInt) (ok := I64) (x := c) (v := .pointer (some ⟨zb, 0, none⟩)) (xs := ptrs st) keyN Tryz.underlying41 rfl rfl rfl hc selT ?_)
  refine go [7,8,9,10,1,7,8,11] ?_
  rw [takeM_new hf0 (by rw [hpl]; assumption) (by rw [hpl, sps_length]; assumption)]
  refine G.treesSnoc (ss := zs) (s := ⟨n, k, t, v', l'⟩) selT selT selT ?_
  refine G.cliMk (zb := zb) (zv := vn) (zg := n) (zs := zs ++ [⟨n, k, t, v', l'⟩]) subT ?_
  refine G.cliIn (st := st) (c := c) (z := ⟨zb, vn, n, zs ++ [⟨n, k, t, v', l'⟩]⟩) selT selT ?_
  rw [← ptrs_set st c ⟨zb, vn, n, zs ++ [⟨n, k, t, v', l'⟩]⟩ hz.b]
  exact G.doneX1 (stSet st c ⟨zb, vn, n, zs ++ [⟨n, k, t, v', l'⟩]⟩) Y17 rfl rfl rfl subT
 refine G.turnOp rfl rfl (G.cS rfl rfl rfl rfl Tryz.func38 rfl rfl subT (may1 (.old hv)) (mclone_tr _ _ (by omega)) apT ?_)
 intro x54 hJ
 obtain ⟨v', l'⟩ := x54
 try dsimp only at hJ
 try dsimp only
 have hel : ens l' = ens xs := hJ
 refine G.ownFact (v := v') selT (fun hv'1 _ => ?_)
 refine go [26] ?_
 refine G.takeT hT11 (i := 11) (rem' := 258080) rfl rfl rfl kr (fun _ _ _ h => h) rfl (pv_buildSt (z := [.int .i64 0, .int .i64 0, .int .i64 0, .slice none 0 0]) (pl := [(0, 1), (1, 1), (2, 1), (3, 1)]) Tryz.underlying79 kr kr rfl flT) subT ?_
 refine G.twoT hT11 (i := 5) (j := 12) (rem' := 258048) (rem'' := 253984) kr kr kr ?_ ?_
 ·refine go [25,4,26,24,12,253952] ?_
  refine G.turnOp rfl rfl (G.buildSlice (z := .agg #[.int .i64 0, .int .i64 0, .int .i64 0, .slice none 0 0]) (sz := 4) (cs := snC ⟨n, k, t, v', l'⟩) rfl Tryz.underlying73 kr (by decide) (by decide) rfl kr ?_)
  intro b56
  refine go [26,24,13,245760] ?_
  refine G.turnOp rfl rfl (G.append (k := zs.length) (j := 1) (cs := zs.flatMap snC) (news := snC ⟨n, k, t, v', l'⟩) (b := b56) (off := 0) rfl Tryz.underlying73 Tryz.infoSn rfl rfl rfl selT (fun _ => rfl) (fun h => by cases h) rfl (blk_news (k := 4) selT rfl) (snC_one hv'1) (by omega) (by omega) ?_)
  intro vn
  rw [snC_app, show zs.length + 1 = (zs ++ [(⟨n, k, t, v', l'⟩ : ST)]).length from by rw [List.length_append]; rfl]
  refine G.ownFact (v := vn) selT (fun hvn _ => ?_)
  refine go [26,22,14,229376,8,22,15,196608,3,0,22,16,131072,3,0,24,17,0,30,26,27,8,9,10,0,0,2,8,2,3,1,21,7,8,9,10,0,2,8,2,3,0,2,4,0,0] ?_
  refine G.op rfl (G.mapSet (f := vInt) (ok := I64) (x := c) (v := .pointer (some ⟨zb, 0, none⟩)) (xs := ptrs st) keyN Tryz.underlying41 rfl rfl rfl hc selT ?_)
  refine go [7,8,9,10,1,7,8,11] ?_
  rw [takeM_new hf0 (by rw [hpl]; assumption) (by rw [hpl, sps_length]; assumption)]
  refine G.treesSnoc (ss := zs) (s := ⟨n, k, t, v', l'⟩) selT selT selT ?_
  refine G.cliMk (zb := zb) (zv := vn) (zg := n) (zs := zs ++ [⟨n, k, t, v', l'⟩]) subT ?_
  refine G.cliIn (st := st) (c := c) (z := ⟨zb, vn, n, zs ++ [⟨n, k, t, v', l'⟩]⟩) selT selT ?_
  rw [← ptrs_set st c ⟨zb, vn, n, zs ++ [⟨n, k, t, v', l'⟩]⟩ hz.b]
  exact G.doneX1 (stSet st c ⟨zb, vn, n, zs ++ [⟨n, k, t, v', l'⟩]⟩) Y17 rfl rfl rfl subT
 refine G.turnOp rfl rfl (G.buildSlice (z := .agg #[.int .i64 0, .int .i64 0, .int .i64 0, .slice none 0 0]) (sz := 4) (cs := snC ⟨n, k, t, v', l'⟩) rfl Tryz.underlying73 kr (by decide) (by decide) rfl kr ?_)
 intro b56
 refine go [26,24,5,253952,25,4,26,24,13,245760] ?_
 refine G.turnOp rfl rfl (G.append (k := zs.length) (j := 1) (cs := zs.flatMap snC) (news := snC ⟨n, k, t, v', l'⟩) (b := b56) (off := 0) rfl Tryz.underlying73 Tryz.infoSn rfl rfl rfl selT (fun _ => rfl) (fun h => by cases h) rfl (blk_news (k := 4) selT rfl) (snC_one hv'1) (by omega) (by omega) ?_)
 intro vn
 rw [snC_app, show zs.length + 1 = (zs ++ [(⟨n, k, t, v', l'⟩ : ST)]).length from by rw [List.length_append]; rfl]
 refine G.ownFact (v := vn) selT (fun hvn _ => ?_)
 refine go [26,22,14,229376,8,22,15,196608,3,0,22,16,131072,3,0,24,17,0,30,26,27,8,9,10,0,0,2,8,2,3,1,21,7,8,9,10,0,2,8,2,3,0,2,4,0,0] ?_
 refine G.op rfl (G.mapSet (f := vInt) (ok := I64) (x := c) (v := .pointer (some ⟨zb, 0, none⟩)) (xs := ptrs st) keyN Tryz.underlying41 rfl rfl rfl hc selT ?_)
 refine go [7,8,9,10,1,7,8,11] ?_
 rw [takeM_new hf0 (by rw [hpl]; assumption) (by rw [hpl, sps_length]; assumption)]
 refine G.treesSnoc (ss := zs) (s := ⟨n, k, t, v', l'⟩) selT selT selT ?_
 refine G.cliMk (zb := zb) (zv := vn) (zg := n) (zs := zs ++ [⟨n, k, t, v', l'⟩]) subT ?_
 refine G.cliIn (st := st) (c := c) (z := ⟨zb, vn, n, zs ++ [⟨n, k, t, v', l'⟩]⟩) selT selT ?_
 rw [← ptrs_set st c ⟨zb, vn, n, zs ++ [⟨n, k, t, v', l'⟩]⟩ hz.b]
 exact G.doneX1 (stSet st c ⟨zb, vn, n, zs ++ [⟨n, k, t, v', l'⟩]⟩) Y17 rfl rfl rfl subT
section
variable {P : Program} {n : Nat} {w0 : World} {S : Nat → Prop} {l : Fr} {m : List Ck} {Q : Exit → Act → World → Prop} {K : Act → World → Prop} {r : Option Nat} {ds : List Deferred}
def TrYr (P : Program) (lp : Nat) (args : Array Value) (ro pre : List Ck) (post : Value → List Ck → Prop) : Prop :=
 ∀ w, (∀ c ∈ ro, Ro w (U pre) c) → Hp w (U pre) w pre → YieldAt Fence.wide 0 P lp args w fun e w' => ∃ v m', e = .returned v ∧ post v m' ∧ Hp w (U pre) w' m'
theorem IL.yieldR {X : Type} {J : X → Prop} {V : X → Value} {M M' : X → List Ck} {o : Oper} {d lp : Nat} {x : Operand} {xs : List Operand} {ts : Array TypeId} {vs : List Value} {ro pre q : List Ck} (hd : o.dst = some d) (hn : Nat.blt d n = true)
 (ho : o.op = .call { callee := .value x, args := xs.toArray, argTypes := ts }) (hv : ev l x = some (.func (.yield lp) #[] #[])) (hx : evs l xs = some vs)
 (hm : Sub m pre q) (hro : ∀ c ∈ ro, May w0 S q c) (ht : TrYr P lp vs.toArray ro pre (TX J V M)) (hM : Ap M q M') (h : ∀ x, J x → G n w0 S ((d, V x) :: l) (M' x) (dq ds K)) : G n w0 S l m (dq ds (fun a w => o.wpIn (fR none) 0 P a w K Q)) := fun a w ha hw => by
 have hw' := hw.perm hm.perm
 have hp : Hp w (U pre) w pre := ⟨Chg.refl _ _, fun c hc => hw'.holds c (List.mem_append_left _ hc), fun c hc b hb => ⟨.inl ⟨c, hc, hb⟩, (hw'.own c (List.mem_append_left _ hc) b hb).2⟩, (List.pairwise_append.1 hw'.dis).1⟩
 obtain ⟨fn, tmps, assign, body, hy, hR⟩ := ht w (fun c hc => (hro c hc).ro hw') hp
 refine ⟨fun _ _ => trivial, ?_⟩
 have hrun : (o.semAt (fR none).round (da ds a).eval).run P w = .ok (.round lp fn tmps assign body) w := by
  rw [da_eval]
  show (execOp a.eval o).run P w = _
  have e1 : xs.toArray.map a.eval = vs.toArray := by rw [← ha.evs hx]; simp
  simp [execOp, ho, resolve, Deferred.ofValue, e1, ha.eval hv, invoke, Sem.run_bind, Sem.run_pure, Result.andThen, hy]
 rw [hrun, Oper.uponIn_round]
 refine ⟨fun h => by simp [fR, Fence.wide] at h, hR.mono ?_⟩
 rintro e w2 ⟨v, m', rfl, ⟨x, hJ, rfl, rfl⟩, hm'⟩
 show K ((da ds a).put _ _) _
 rw [da_put, hd]
 have := hw'.turn hm'
 rw [hM.eq x] at this
 exact h x hJ _ _ (ha.put hn _) this
def SeqR (P : Program) (g : FuncId) (lb : Array Value) (ro pre : List Ck) (nn : Nat) (encs : Nat → List Value) : Prop :=
 ∀ (rr : List Ck) (lp : Nat) (X : Type) (J : Bool → Nat → X → Prop) (C : Bool → Nat → X → Ck) (x0 : X), J true 0 x0 →
  (∀ i x, i < nn → J true i x → TrYr P lp (encs i).toArray rr [C true i x] (TX (fun z : Bool × X => J z.1 (i + 1) z.2) (fun z => .bool z.1) (fun z => [C z.1 (i + 1) z.2]))) →
  Tr P g (#[.func (.yield lp) #[] #[]] ++ lb) (rr ++ ro) (C true 0 x0 :: pre) (TX (fun z : Bool × Nat × X => J z.1 z.2.1 z.2.2 ∧ z.2.1 ≤ nn ∧ (z.1 = true → z.2.1 = nn)) (fun _ => .tuple #[]) (fun z => [C z.1 z.2.1 z.2.2]))
end
section
variable {P : Program} {n : Nat} {w0 : World} {S : Nat → Prop} {l : Fr} {m : List Ck} {Q : Exit → Act → World → Prop} {K : Act → World → Prop} {r : Option Nat} {ds : List Deferred}
theorem I.asgA {Z : Type} {L : Z → Fr} {M2 : Z → List Ck} {m1 : List Ck} {Q' : Exit → Act → World → Prop} (z : Z) (hl : Fw l (L z)) (hm : m = M2 z ++ m1) : G n w0 S l m (dq [] (Exit.then (fun a w => ∃ z, At a n (L z) ∧ Hp w0 S w (M2 z ++ m1)) Q' .normal)) := fun a w ha hw => by
 unfold dq
 rw [da_nil ha]
 exact ⟨z, ha.weak hl, hm ▸ hw⟩
theorem I.round2A {X Z : Type} {fnx p1 p2 D lp i : Nat} {a : Act} {assign body : Code} {v1 v2 : Value} {l2 : Z → Fr} {M2 : Z → List Ck} {J : Bool → Nat → X → Prop} {B : Bool → Nat → X → List Ck} {jmp : X → Code} {x : X} {rr : List Ck} (ha : At a n l) (hp1 : Nat.blt p1 n = true) (hp2 : Nat.blt p2 n = true)
 (hassign : ∀ w1 S1 m1, G n w1 S1 ((p2, v2) :: (p1, v1) :: l) m1 (dq [] (assign.wpIn (fR (some lp)) 0 P (Exit.then (fun a w => ∃ z, At a n (l2 z) ∧ Hp w1 S1 w (M2 z ++ m1)) (fun _ _ _ => False)))))
 (hbody : ∀ w1 S1 c z, (∀ c ∈ rr, Ro w1 S1 c) → G n w1 S1 (l2 z) (c :: (B true i x ++ M2 z)) (dq [] (body.wpIn (fR (some lp)) 0 P (rnd w1 S1 J B jmp c i)))) :
 TrYr P lp [v1, v2].toArray rr [cL (recL fnx a.tmps p1 p2 assign body D) lp D B jmp true i x] (TX (fun z : Bool × X => J z.1 (i + 1) z.2) (fun z => .bool z.1) (fun z => [cL (recL fnx a.tmps p1 p2 assign body D) lp D B jmp z.1 (i + 1) z.2])) := by
 intro w1 hrr hw1
 have hds : a.defers = [] := ha.defs
 obtain ⟨S1, hS1⟩ : ∃ S1, U [cL (recL fnx a.tmps p1 p2 assign body D) lp D B jmp true i x] = S1 := ⟨_, rfl⟩
 rw [hS1] at hw1 hrr ⊢
 have hu : Hp w1 S1 w1 (obc lp (.loop (recL fnx a.tmps p1 p2 assign body D .ready none)) :: dfr D :: B true i x) := by
  have := Hp.unstar hw1
  rw [List.append_nil] at this
  exact this
 have hl : w1.heap[lp]? = some (.loop (recL fnx a.tmps p1 p2 assign body D .ready none)) := hu.holds _ (List.mem_cons_self ..)
 have hy := run_yield (P := P) (args := #[v1, v2]) hl rfl
 refine ⟨_, _, _, _, hy, roundIn_of_wpIn (F := Fence.wide) trivial ?_⟩
 have hA : At (n := n) { tmps := (a.tmps.setIfInBounds p1 v1).setIfInBounds p2 v2, defers := [] } ((p2, v2) :: (p1, v1) :: l) := by
  have h2 := (ha.put hp1 v1).put hp2 v2
  have e : ((a.put (some p1) v1).put (some p2) v2) = { tmps := (a.tmps.setIfInBounds p1 v1).setIfInBounds p2 v2, defers := [] } := by
   simp [Act.put, hds]
  rwa [e] at h2
 have h3 := hassign w1 S1 _ _ w1 hA hu
 unfold dq at h3
 rw [da_nil hA] at h3
 have eT : ((#[p1, p2] : Array Nat).zip #[v1, v2]).foldl (fun t (x : Nat × Value) => t.setIfInBounds x.1 x.2) a.tmps = (a.tmps.setIfInBounds p1 v1).setIfInBounds p2 v2 := by simp
 show assign.wpIn (fR (some lp)) 0 P _ { tmps := ((#[p1, p2] : Array Nat).zip #[v1, v2]).foldl (fun t (x : Nat × Value) => t.setIfInBounds x.1 x.2) a.tmps, defers := [] } w1
 rw [eT]
 refine wpIn_mono h3 ?_
 intro e a1 w2 hq
 cases e with
 | exit id => exact hq.elim
 | goto t => exact hq.elim
 | ret => exact hq.elim
 | panic ch => exact hq.elim
 | outgrown => exact hq.elim
 | normal =>
  obtain ⟨z, hA1, hH0⟩ := hq
  have hH1 : Hp w1 S1 w2 (obc lp (.loop (recL fnx a.tmps p1 p2 assign body D .ready none)) :: dfr D :: (B true i x ++ M2 z)) := hH0.perm List.perm_append_comm
  have hl1 : w2.heap[lp]? = some (.loop (recL fnx a.tmps p1 p2 assign body D .ready none)) := hH1.holds _ (List.mem_cons_self ..)
  have hbr := run_beginRound (P := P) hl1 rfl
  refine ⟨_, hbr, ?_⟩
  have hH2 := Hp.putO (.loop (recL fnx a.tmps p1 p2 assign body D .busy none)) hH1
  have hH3 := Hp.star (m := [_, _]) (r := B true i x ++ M2 z) hH2
  have h4 := hbody w1 S1 _ z hrr a1 _ hA1 hH3
  unfold dq at h4
  rw [da_nil hA1] at h4
  refine wpIn_mono h4 ?_
  intro e a2 w4 hq
  cases e with
  | normal =>
   obtain ⟨y, hJy, hH4⟩ := hq
   exact I.fin (b := true) hJy rfl hH4
  | ret =>
   obtain ⟨y, hJy, hj, hH4⟩ := hq
   exact I.fin (b := false) hJy (by rw [← hj]; rfl) hH4
  | exit k =>
   obtain ⟨y, hJy, hj, hH4⟩ := hq
   exact I.fin (b := false) hJy (by rw [← hj]; rfl) hH4
  | goto t => exact hq.elim
  | panic ch => exact hq.elim
  | outgrown => exact hq.elim
theorem I.rangeF2A {X Z : Type} {gf nn p1 p2 : Nat} {lb : Array Value} {rr ro pre q : List Ck} {encs : Nat → Value × Value} {g : Operand} {assign body : Code} {fn : Func} {c : Code}
 (J : Bool → Nat → X → Prop) (B : Bool → Nat → X → List Ck) (jmp : X → Code) (M2 : Nat → Z → List Ck) (L2 : Nat × Z → Fr) {x0 : X}
 (hg : ev l g = some (.func (.func gf) #[] lb)) (hf : P.funcs[gf]? = some fn) (hb : fn.body = some c) (hnm : (fn.name == "runtime.NumGoroutine") = false)
 (hseq : SeqR P gf lb ro pre nn (fun i => [(encs i).1, (encs i).2]))
 (hm : Sub m (B true 0 x0 ++ pre) q) (hro : ∀ c ∈ rr ++ ro, May w0 S q c) (h0 : J true 0 x0)
 (hp1 : Nat.blt p1 n = true) (hp2 : Nat.blt p2 n = true)
 (hassign : ∀ w1 S1 lp m1 i, i < nn → G n w1 S1 ((p2, (encs i).2) :: (p1, (encs i).1) :: l) m1 (dq [] (assign.wpIn (fR (some lp)) 0 P (Exit.then (fun a w => ∃ z, At a n (L2 (i, z)) ∧ Hp w1 S1 w (M2 i z ++ m1)) (fun _ _ _ => False)))))
 (hbody : ∀ w1 S1 lp c i x z, i < nn → J true i x → (∀ c ∈ rr, Ro w1 S1 c) → G n w1 S1 (L2 (i, z)) (c :: (B true i x ++ M2 i z)) (dq [] (body.wpIn (fR (some lp)) 0 P (rnd w1 S1 J B jmp c i))))
 (hdone : ∀ D x, J true nn x → G n w0 S l (dfr D :: (B true nn x ++ q)) (dq (mark D) (Q .normal)))
 (hstop : ∀ D i x, i ≤ nn → J false i x → G n w0 S l (dfr D :: (B false i x ++ q)) (dq (mark D) ((jmp x).wpIn (fR none) 0 P Q))) :
 G n w0 S l m (dq [] ((Code.rangeFunc g #[p1, p2] assign body).wpIn (fR none) 0 P Q)) := fun a w ha hw => by
 unfold dq
 rw [da_nil ha]
 have hds : a.defers = [] := ha.defs
 have hw' := hw.perm hm.perm
 refine wpIn_rangeFunc (F := fR none) (n := 0) ?_
 intro fnx _
 obtain ⟨W1, hW1⟩ : ∃ W1, (w.alloc (.deferred (some []))).alloc (.loop (recL fnx a.tmps p1 p2 assign body w.heap.size .ready none)) = W1 := ⟨_, rfl⟩
 have hp1W : Hp w0 S W1 (cL (recL fnx a.tmps p1 p2 assign body w.heap.size) (w.heap.size + 1) w.heap.size B jmp true 0 x0 :: pre ++ q) := by
  rw [← hW1]
  have h2 := (hw'.allocO (.deferred (some []))).allocO (.loop (recL fnx a.tmps p1 p2 assign body w.heap.size .ready none))
  rw [World.size_alloc, List.append_assoc] at h2
  exact Hp.star (m := _ :: _ :: B true 0 x0) (r := pre ++ q) h2
 have hT := hseq rr (w.heap.size + 1) X J (cL (recL fnx a.tmps p1 p2 assign body w.heap.size) (w.heap.size + 1) w.heap.size B jmp) x0 h0 fun i x hi hJ => I.round2A (l2 := fun z => L2 (i, z)) (M2 := M2 i) ha hp1 hp2 (fun w1 S1 m1 => hassign w1 S1 _ m1 i hi) (fun w1 S1 c z hr => hbody w1 S1 _ c i x z hi hJ hr)
 have hpp : Hp W1 (U (cL (recL fnx a.tmps p1 p2 assign body w.heap.size) (w.heap.size + 1) w.heap.size B jmp true 0 x0 :: pre)) W1 (cL (recL fnx a.tmps p1 p2 assign body w.heap.size) (w.heap.size + 1) w.heap.size B jmp true 0 x0 :: pre) := ⟨Chg.refl _ _, fun c hc => hp1W.holds c (List.mem_append_left _ hc), fun c hc b hb => ⟨.inl ⟨c, hc, hb⟩, (hp1W.own c (List.mem_append_left _ hc) b hb).2⟩, (List.pairwise_append.1 hp1W.dis).1⟩
 have hcall := hT W1 (fun c hc => (hro c hc).ro hp1W) hpp
 have henter : (Instr.enterLoop fnx a.tmps #[p1, p2] assign body (fR none).round).run P w = .ok (w.heap.size + 1, mark w.heap.size) W1 := by
  rw [← hW1]
  exact run_enterLoop_outer _ _ _ _ _
 have hres : (resolve a.eval (rangeCall g (w.heap.size + 1)) 0).run P W1 = .ok { target := .fn (.func gf) lb, args := #[.func (.yield (w.heap.size + 1)) #[] #[]] } W1 := by
  simp only [resolve, rangeCall, ha.eval hg]
  simp [Deferred.ofValue, Sem.run_bind, Sem.run_pure, Result.andThen, Act.eval, Sem.run]
 have hinv := run_invokeF (P := P) (args := #[.func (.yield (w.heap.size + 1)) #[] #[]]) (cap := lb) hf hb hnm W1
 have hz : (fR none).depth.isSome = true → 1 ≤ 0 := fun h => by simp [fR, Fence.wide] at h
 suffices hfin : CallsIn (fR none) 0 P gf (#[.func (.yield (w.heap.size + 1)) #[] #[]] ++ lb) W1 (rangePost (fR none) 0 P (w.heap.size + 1) Q { a with defers := mark w.heap.size ++ a.defers }) from
  ⟨w.heap.size + 1, mark w.heap.size, W1, _, W1, gf, _, W1, henter, hres, fun _ _ => trivial, hinv, hz, hfin⟩
 refine calls_fR (callsIn_wide.2 (hcall.mono ?_))
 rintro e w3 ⟨v, m', rfl, ⟨⟨b, i, y⟩, ⟨hJ, hle, hall⟩, rfl, rfl⟩, hm'⟩
 have hu2 := Hp.unstar (m := _ :: _ :: B b i y) (r := q) (hp1W.turn hm')
 have hl3 : w3.heap[w.heap.size + 1]? = some (.loop (recL fnx a.tmps p1 p2 assign body w.heap.size (stL b) (peL jmp b y))) := hu2.holds _ (List.mem_cons_self ..)
 have hend := run_endLoop (P := P) hl3 (by cases b <;> simp [recL, stL])
 have hu3 := (Hp.putO (.loop { recL fnx a.tmps p1 p2 assign body w.heap.size (stL b) (peL jmp b y) with state := .exhausted }) hu2).tail
 have eD : ({ a with defers := mark w.heap.size ++ a.defers } : Act) = da (mark w.heap.size) a := by
  unfold da
  rw [hds]
  rfl
 refine ⟨_, _, hend, ?_⟩
 rw [eD]
 cases b with
 | true =>
  have hJ' : i = nn := hall rfl
  subst hJ'
  exact hdone _ y hJ a _ ha hu3
 | false => exact hstop _ i y hle hJ a _ ha hu3
theorem I.rangeK2A {X Z : Type} {gf nn p1 p2 : Nat} {lb : Array Value} {rr ro pre q : List Ck} {encs : Nat → Value × Value} {g : Operand} {assign body : Code} {fn : Func} {c : Code}
 (J : Bool → Nat → X → Prop) (B : Bool → Nat → X → List Ck) (jmp : X → Code) (M2 : Nat → Z → List Ck) (A : Nat × Z → Fr) {x0 : X} {ts : List Nat} {l1 : Fr} {L2 : Nat × Z → Fr}
 (hg : ev l g = some (.func (.func gf) #[] lb)) (hf : P.funcs[gf]? = some fn) (hb : fn.body = some c) (hnm : (fn.name == "runtime.NumGoroutine") = false)
 (hseq : SeqR P gf lb ro pre nn (fun i => [(encs i).1, (encs i).2]))
 (hm : Sub m (B true 0 x0 ++ pre) q) (hro : ∀ c ∈ rr ++ ro, May w0 S q c) (h0 : J true 0 x0)
 (hp1 : Nat.blt p1 n = true) (hp2 : Nat.blt p2 n = true) (hk : Kp l ts l1) (hL : Ap A l1 L2)
 (hassign : ∀ w1 S1 lp m1 i, i < nn → G n w1 S1 ((p2, (encs i).2) :: (p1, (encs i).1) :: l) m1 (dq [] (assign.wpIn (fR (some lp)) 0 P (Exit.then (fun a w => ∃ z, At a n (L2 (i, z)) ∧ Hp w1 S1 w (M2 i z ++ m1)) (fun _ _ _ => False)))))
 (hbody : ∀ w1 S1 lp c i x z, i < nn → J true i x → (∀ c ∈ rr, Ro w1 S1 c) → G n w1 S1 (L2 (i, z)) (c :: (B true i x ++ M2 i z)) (dq [] (body.wpIn (fR (some lp)) 0 P (rnd w1 S1 J B jmp c i))))
 (hdone : ∀ D x, J true nn x → G n w0 S l (dfr D :: (B true nn x ++ q)) (dq (mark D) (Q .normal)))
 (hstop : ∀ D i x, i ≤ nn → J false i x → G n w0 S l (dfr D :: (B false i x ++ q)) (dq (mark D) ((jmp x).wpIn (fR none) 0 P Q))) :
 G n w0 S l m (dq [] ((Code.rangeFunc g #[p1, p2] assign body).wpIn (fR none) 0 P Q)) :=
 I.rangeF2A J B jmp M2 L2 hg hf hb hnm hseq hm hro h0 hp1 hp2 hassign hbody hdone hstop
end
set_option maxRecDepth 20000 in
set_option maxHeartbeats 4000000 in
theorem sback_tr (v : Value) (hv : v.oneCell' = true) : Tr Tryz.prog 45 #[v] [] [] (TX (fun _ : Nat => True) (fun b => .func (.func 60) #[] #[.pointer (some ⟨b, 0, none⟩)]) (fun b => [blk b 73 [v]])) := by
 refine Tr.of (l := [(0, v)]) Tryz.func45 rfl (n := 4) rfl (.cons rfl .nil) (fun w0 hro => ?_)
 refine go [9,10] ?_
 refine G.op rfl (G.box rfl rfl (cs := [v]) (cells_of hv) ?_)
 intro b1
 refine go [1,7,8,9,10,2,26,1,7,8,11] ?_
 exact G.doneX1 (b1) trT rfl rfl Y8 subT
set_option maxRecDepth 20000 in
set_option maxHeartbeats 4000000 in
theorem sback_seq {Pv : Nat → Prop} (v : Value) (xs : List ST) (bb : Nat) : SeqR Tryz.prog 60 #[.pointer (some ⟨bb, 0, none⟩)] [slc rSn Pv v xs] [blk bb 73 [v]] xs.length (fun k => [.int .i64 ((xs.length : Int) - 1 - (k : Int)), .agg (snC (sbk xs k)).toArray]) := by
 intro rr lp X J C x0 h0 hY
 show Tr _ _ #[.func (.yield lp) #[] #[], .pointer (some ⟨bb, 0, none⟩)] _ _ _
 refine Tr.ofI (l := [(0, .func (.yield lp) #[] #[]), (1, .pointer (some ⟨bb, 0, none⟩))]) Tryz.func60 rfl (n := 19) rfl (.cons rfl (.cons rfl .nil)) (fun w0 hro => ?_)
 have hv := hro _ (List.mem_append_right _ (List.mem_cons_self ..))
 have hrr : ∀ c ∈ rr, Ro w0 _ c := fun c hc => hro c (List.mem_append_left _ hc)
 obtain ⟨av, cv, bv, fv, rfl, hcapv, hmaxv, hnilv, hadv, helv⟩ := Ro.open hv
 refine go [32,33,2,4,2,5,2,19,1,34,31,38] ?_
 refine I.loopK (X := Nat × X) (ts := [0, 1]) (fun st => st.1 ≤ xs.length ∧ J true st.1 st.2) (fun st => [(3, .int .i64 ((xs.length : Int) - 1 - (st.1 : Int)))]) (fun st => [C true st.1 st.2]) (fun st => xs.length - st.1) (x0 := (0, x0)) (.cons rfl (.cons rfl .nil)) subT (.cons .nil) apT (by first | exact trivial | ((try dsimp only) <;> exact ⟨Nat.zero_le _, h0⟩)) (.consE rfl veqT .nil) (fun st hJ => ?_)
 obtain ⟨i, x⟩ := st
 try dsimp only at hJ
 try dsimp only
 obtain ⟨hki, hJx⟩ := hJ
 refine go [32,32,33,0,2,12,34,31] ?_
 refine I.condP rfl (fun h8 => ?_) (fun h8 => ?_)
 ·have hlt : i < xs.length := by omega
  obtain ⟨j, hj⟩ : ∃ j, xs.length - 1 - i = j := ⟨_, rfl⟩
  have hjl : j < xs.length := by omega
  have hbk : sbk xs i = xs[j] := by rw [sbk_eq hlt]; congr 1
  have hE := helv j hjl
  have hR := Ro.snRng hE
  refine go [39,31,32,38,32] ?_
  refine IL.region ?_
  refine go [60,2,60,2] ?_
  refine IL.op rfl (IL.lift kr (G.val rfl rfl (pv_load Tryz.underlying73 rfl rfl celT) ?_))
  refine go [60,2] ?_
  refine IL.op rfl (IL.lift kr (G.val rfl rfl (pv_ixSl (sz := 4) (k := j) Tryz.underlying73 kr rfl rfl hadv (by omega) (by omega)) ?_))
  refine IL.op rfl (IL.lift kr (G.val rfl rfl (pv_loadN (cs := snC (sbk xs i)) Tryz.underlying79 rfl kr rfl (by rw [hbk]; exact fun w hw => hR.at hw)) ?_))
  refine IL.op rfl (IL.yieldR rfl rfl rfl rfl rfl subT (fun c hc => .old (hrr c hc)) (hY i x hlt hJx) apT ?_)
  intro x17 hJ
  obtain ⟨v, y⟩ := x17
  try dsimp only at hJ
  try dsimp only
  have hJ2 := hJ
  refine IL.op rfl (IL.lift kr (G.val rfl rfl (pv_not rfl) ?_))
  refine IL.nil ?_
  refine I.nThen ?_
  refine I.cond rfl (fun h18 => ?_) (fun h18 => ?_)
  ·obtain rfl : v = false := by cases v <;> simp_all
   refine go [37,36,35,35,36] ?_
   exact I.doneIr ((false, i + 1, y)) (by first | exact trivial | ((try dsimp only) <;> exact ⟨hJ2, by omega, fun h => by cases h⟩)) rfl rfl subT
  obtain rfl : v = true := by cases v <;> simp_all
  refine go [39,40,31,33,0,2,19,1,34] ?_
  exact I.next ((i + 1, y)) (by first | exact trivial | ((try dsimp only) <;> exact ⟨by omega, hJ2⟩)) (by (try dsimp only); omega) (.consE rfl veqT (.cons rfl (.cons rfl .nil))) subT
 obtain rfl : i = xs.length := by omega
 refine go [42,41,41,43] ?_
 exact I.doneI ((true, xs.length, x)) (by first | exact trivial | ((try dsimp only) <;> exact ⟨hJx, Nat.le_refl _, fun _ => rfl⟩)) rfl rfl subT
set_option maxRecDepth 20000 in
set_option maxHeartbeats 4000000 in
theorem mback_tr {Ps : Nat → Prop} (Dm bm : Nat) (st : MS) (c k t : Int) (v : Value) (xs : List ET) (hok : okM (plM st)) (hc : I64 c) : Tr Tryz.prog 17 #[.pointer (some ⟨Dm, 0, none⟩), .int .i64 c, .int .i64 k, .int .i64 t, v] [slc rEV Ps v xs] [blk Dm 43 [.map (some bm)], mpc vInt I64 bm (ptrs st), clis st]
 (TX (fun st' : MS => plM st' = (backM (plM st) c k t (ens xs)).2) (fun _ => .tuple #[.int .i64 (backM (plM st) c k t (ens xs)).1.1, .int .i64 (backM (plM st) c k t (ens xs)).1.2]) (fun st' => [blk Dm 43 [.map (some bm)], mpc vInt I64 bm (ptrs st'), clis st'])) := by
 refine Tr.ofM (l := [(0, .pointer (some ⟨Dm, 0, none⟩)), (1, .int .i64 c), (2, .int .i64 k), (3, .int .i64 t), (4, v)]) Tryz.func17 rfl (n := 66) rfl (.cons rfl (.cons rfl (.cons rfl (.cons rfl (.cons rfl .nil))))) (fun w0 hro => ?_)
 have hv := ro1 hro
 have hel' := ens_length xs
 refine go [32,33,60,3] ?_
 intro b7
 refine go [60,7] ?_
 intro b10
 refine go [60,7] ?_
 intro b11
 refine go [34,31,32,32,33,0] ?_
 refine G.op rfl (G.cS rfl rfl rfl rfl Tryz.func35 rfl rfl subT may0 (none_tr _ _) apT ?_)
 intro x19 hJ
 try dsimp only at hJ
 try dsimp only
 refine go [34,31] ?_
 refine I.condF rfl (rfl) ?_
 refine go [39,31,32,32,33,0,2,4,0,0] ?_
 refine G.op rfl (G.cR rfl rfl rfl rfl Tryz.func36 rfl rfl (may1 (.old hv)) (fits_tr _ _ _ _ _ _) ?_)
 refine go [1,34,31,32,33,0,2,14,34,31] ?_
 refine I.condP rfl (fun h26 => ?_) (fun h26 => ?_)
 ·refine go [32,33,0,21,21,34,31,37,35] ?_
  rw [backM_fit (by assumption)]
  exact I.doneM0 (st) Y7 rfl (Rv.cell1 rfl Tryz.underlying3 rfl celT (Rv.cell1 rfl Tryz.underlying46 rfl celT Rv.nil)) rfl subT
 have hf0 : fitE c 1 k t (ens xs) = 0 := Decidable.of_not_not (by assumption)
 refine go [39,31,32,33,0,0] ?_
 refine G.op rfl (G.cS rfl rfl rfl rfl Tryz.func37 rfl rfl subT may0 (of_tr _ _ _ _ (by assumption)) apT ?_)
 intro x30 hJ
 obtain ⟨zb, zv, zg, zs⟩ := x30
 try dsimp only at hJ
 try dsimp only
 have hz : IsCl st c ⟨zb, zv, zg, zs⟩ := hJ
 have hpl : plGet (plM st) c = (zg, sps zs) := hz.pl
 have hokc := hok.get c
 rw [hpl] at hokc
 obtain ⟨⟨hg1, hg2⟩, hsl, hss⟩ := hokc
 have hsl : zs.length ≤ 64 := by rw [← sps_length]; exact hsl
 refine G.cliOpen selT ?_
 refine G.ownOpen (v := zv) selT (fun za zc hzv _ _ => ?_)
 subst hzv
 refine G.treesOne selT (fun hone => ?_)
 have hbk1 : ∀ q, (sbk zs q).v.oneCell' = true := fun q => by unfold sbk; cases h : zs[zs.length - 1 - q]? with | none => rfl | some x => exact hone x (List.mem_of_getElem? h)
 refine go [1,34,31,32,32,33,0,2,8,2,3,0,2,3,0,2,4] ?_
 refine G.op rfl (G.cS rfl rfl rfl rfl Tryz.func45 rfl rfl subT may0 (sback_tr _ rfl) apT ?_)
 intro x36 hJ
 try dsimp only at hJ
 try dsimp only
 refine go [34,31,38] ?_
 refine I.rangeK2A (X := Int) (rr := [slc rSn (fun b => (Value.slice za zs.length zc).ownBlock = some b) (.slice za zs.length zc) zs]) (encs := fun i => (.int .i64 ((zs.length : Int) - 1 - (i : Int)), .agg (snC (sbk zs i)).toArray)) (ts := [7, 10, 11]) (fun b i x => (b = true → x = 0 ∧ ∀ q, q < i → ¬ (sbk zs q).c = k) ∧ (b = false → ∃ s, lastOf (sps zs) k = some s ∧ x = s.n)) (fun b i x => [blk b10 3 [.int .i64 x], blk b11 46 [.int .i64 0], blk b7 3 [.int .i64 k]]) (fun x => .ret) (fun i (yb : Nat) => [blk yb 79 (snC (sbk zs i))]) (fun p => [(15, .pointer (some ⟨p.2, 0, none⟩))]) (x0 := 0) rfl Tryz.func60 rfl rfl (sback_seq (Pv := (fun b => (Value.slice za zs.length zc).ownBlock = some b)) (.slice za zs.length zc) zs x36) (by show Sub _ [blk b10 3 [.int .i64 0], blk b11 46 [.int .i64 0], blk b7 3 [.int .i64 k], blk x36 73 [(.slice za zs.length zc)]] _; repeat (first | exact Sub.nil | (apply Sub.cons; (repeat (first | with_reducible exact Sel.here | exact Sel.here | apply Sel.there))))) (may2 (may_snaps selT) (may_snaps selT)) (by first | exact trivial | (exact ⟨fun _ => ⟨rfl, fun q h => absurd h (by omega)⟩, fun h => (by cases h)⟩)) rfl rfl (.cons rfl (.cons rfl (.cons rfl .nil))) (.cons .nil) ?_ ?_ ?_ ?_
 ·intro w1 S1 lp m1 i hi
  try dsimp only at hJ
  try dsimp only
  refine go [33,60,6] ?_
  intro b15
  refine G.op rfl (G.storeN (vs := snC (sbk zs i)) kr rfl rfl (List.all_eq_true.2 (snC_one (hbk1 i))) selT (by exact Nat.le_of_ble_eq_true rfl) ?_)
  rw [putN_whole _ _ (by rfl)]
  refine I.nil ?_
  exact I.asgA (Z := Nat) b15 (.consE rfl veqT (.cons rfl (.cons rfl (.cons rfl .nil)))) rfl
 ·intro w1 S1 lp c i x yb hi hJ hrr
  try dsimp only at hJ
  try dsimp only
  obtain ⟨hT, -⟩ := hJ
  obtain ⟨rfl, hno⟩ := hT rfl
  rw [show blk yb 79 (snC (sbk zs i)) = blk yb 79 [.int .i64 (sbk zs i).n, .int .i64 (sbk zs i).c, .int .i64 (sbk zs i).t, (sbk zs i).v] from rfl]
  refine go [38,32,33,2,3,1,2,4,2,4,2,13,34,31] ?_
  refine I.condP rfl (fun h42 => ?_) (fun h42 => ?_)
  ·refine go [32,33,2,3,0,2,4,21,21,34,31,37,36] ?_
   exact I.rR ((sbk zs i).n) (by first | exact trivial | ((try dsimp only) <;> exact ⟨fun h => (by cases h), fun _ => ⟨_, slast_at hi hno (by assumption), rfl⟩⟩)) rfl subT
  refine go [39,40] ?_
  exact I.rN (0) (by first | exact trivial | ((try dsimp only) <;> exact ⟨fun _ => ⟨rfl, fun q h => by rcases Nat.lt_or_ge q i with h1 | h1; exact hno q h1; obtain rfl : q = i := (by omega); assumption⟩, fun h => (by cases h)⟩)) subT
 ·intro D x hJ
  try dsimp only at hJ
  try dsimp only
  obtain ⟨hT, -⟩ := hJ
  obtain ⟨rfl, hno⟩ := hT rfl
  have hlast := slast_none hno
  refine go [40,31,32,32,33,0,2,8,2,3,1,2,4,2,13,34,31] ?_
  refine I.condP rfl (fun h49 => ?_) (fun h49 => ?_)
  ·refine go [32,33,21,21,34,31,37,35] ?_
   rw [backM_max hf0 (by rw [hpl]; exact hlast) (by rw [hpl]; assumption)]
   refine G.cliMk (zb := zb) (zv := .slice za zs.length zc) (zg := zg) (zs := zs) subT ?_
   refine G.cliBack hz selT selT ?_
   exact I.doneM (st) Y7 rfl Y16 (Rv.cell1 rfl Tryz.underlying3 rfl celT (Rv.cell1 rfl Tryz.underlying46 rfl celT Rv.nil)) rfl subT
  have hmx : ¬ zg = 2147483647 := by assumption
  refine go [39,31,32,33,0,2,8,2,3,1,2,4,2,6,1,34,31,32,32,33,0,0,0,2,4,0,0] ?_
  refine G.cliMk (zb := zb) (zv := .slice za zs.length zc) (zg := zg) (zs := zs) subT ?_
  refine G.cliBack hz selT selT ?_
  refine G.op rfl (G.cS rfl rfl rfl rfl Tryz.func13 rfl rfl subT (may1 (.old hv)) (mtake_tr Dm bm st c (zg + 1) k t _ xs hok hc) apT ?_)
  intro x61 hJ
  try dsimp only at hJ
  try dsimp only
  have hpt : plM x61 = (takeM (plM st) c (zg + 1) k t (ens xs)).2 := hJ
  refine go [1,34,31,32,33,0,2,14,34,31] ?_
  refine I.condP rfl (fun h63 => ?_) (fun h63 => ?_)
  ·refine go [32,33,0,21,21,34,31,37,35] ?_
   rw [backM_bad hf0 (by rw [hpl]; exact hlast) (by rw [hpl]; exact hmx) (n := zg + 1) (by rw [hpl]) (by assumption)]
   exact I.doneM (x61) (by first | exact trivial | ((try dsimp only) <;> exact hpt)) rfl Y16 (Rv.cell1 rfl Tryz.underlying3 rfl celT (Rv.cell1 rfl Tryz.underlying46 rfl celT Rv.nil)) rfl subT
  refine go [39,31,32,33,0,21,21,34,31,37] ?_
  rw [backM_new hf0 (by rw [hpl]; exact hlast) (by rw [hpl]; exact hmx) (n := zg + 1) (by rw [hpl]) (Decidable.of_not_not (by assumption))]
  exact I.doneM (x61) (by first | exact trivial | ((try dsimp only) <;> exact hpt)) rfl Y16 (Rv.cell1 rfl Tryz.underlying3 rfl celT (Rv.cell1 rfl Tryz.underlying46 rfl celT Rv.nil)) rfl subT
 intro D i x hle hJ
 try dsimp only at hJ
 try dsimp only
 obtain ⟨-, hF⟩ := hJ
 obtain ⟨s, hlast, rfl⟩ := hF rfl
 refine go [37,36,35] ?_
 rw [backM_old hf0 (by rw [hpl]; exact hlast)]
 refine G.cliMk (zb := zb) (zv := .slice za zs.length zc) (zg := zg) (zs := zs) subT ?_
 refine G.cliBack hz selT selT ?_
 exact I.doneM (st) Y7 rfl Y16 (Rv.cell1 rfl Tryz.underlying3 rfl celT (Rv.cell1 rfl Tryz.underlying46 rfl celT Rv.nil)) rfl subT
section
variable {α : Type} {f : α → List Value} {k : Nat}
theorem rows_len (hf : ∀ x, (f x).length = k) (xs : List α) : (xs.flatMap f).length = xs.length * k := flatMap_length f k hf xs
theorem rows_at (hf : ∀ x, (f x).length = k) {xs : List α} {sp : List Value} {i : Nat} (h : i < xs.length) (j : Nat) (hj : j < k) : (xs.flatMap f ++ sp)[0 + i * k + j]? = (f xs[i])[j]? := by
 have h1 : (i + 1) * k ≤ xs.length * k := Nat.mul_le_mul_right k h
 have h2 : (i + 1) * k = i * k + k := Nat.succ_mul i k
 rw [List.getElem?_append_left (by rw [rows_len hf]; omega), show 0 + i * k + j = i * k + j by omega]
 exact flatMap_get f k hf xs i j h hj
theorem rows_row (hf : ∀ x, (f x).length = k) {xs : List α} {sp : List Value} {i : Nat} (h : i < xs.length) : ((xs.flatMap f ++ sp).drop (0 + i * k)).take k = f xs[i] := by
 apply List.ext_getElem?
 intro j
 rcases Nat.lt_or_ge j k with hj | hj
 ·rw [List.getElem?_take_of_lt hj, List.getElem?_drop]
  exact rows_at hf h j hj
 rw [List.getElem?_eq_none (by rw [List.length_take]; omega), List.getElem?_eq_none (by rw [hf]; omega)]
theorem rows_fit (hf : ∀ x, (f x).length = k) {xs : List α} {sp : List Value} {i : Nat} (h : i < xs.length) (x : α) : 0 + i * k + (f x).length ≤ (xs.flatMap f ++ sp).length := by
 have h1 : (i + 1) * k ≤ xs.length * k := Nat.mul_le_mul_right k h
 have h2 : (i + 1) * k = i * k + k := Nat.succ_mul i k
 rw [List.length_append, rows_len hf, hf]
 omega
theorem rows_put (hf : ∀ x, (f x).length = k) {xs : List α} {sp : List Value} {i : Nat} (h : i < xs.length) (x : α) : putN (xs.flatMap f ++ sp) (0 + i * k) (f x) = (xs.set i x).flatMap f ++ sp := by
 have hl : ((xs.set i x).flatMap f).length = xs.length * k := by rw [rows_len hf, List.length_set]
 have hl2 := rows_len hf xs
 apply List.ext_getElem?
 intro j
 rw [putN_get _ _ _ _ (rows_fit hf h x), hf]
 rcases Nat.lt_or_ge j (xs.length * k) with hj | hj
 ·have hk : 0 < k := by
   rcases Nat.eq_zero_or_pos k with h0 | h0
   ·subst h0; omega
   exact h0
  obtain ⟨q, r, rfl, hr, hq⟩ : ∃ q r, j = q * k + r ∧ r < k ∧ q < xs.length := ⟨j / k, j % k, by rw [Nat.mul_comm]; exact (Nat.div_add_mod j k).symm, Nat.mod_lt _ hk, Nat.div_lt_of_lt_mul (by rw [Nat.mul_comm]; exact hj)⟩
  rw [List.getElem?_append_left (by rw [hl2]; exact hj), flatMap_get f k hf xs q r hq hr, List.getElem?_append_left (by rw [hl]; exact hj), flatMap_get f k hf (xs.set i x) q r (by rw [List.length_set]; exact hq) hr]
  by_cases hiq : i = q
  ·subst hiq
   rw [List.getElem_set_self, if_pos ⟨by omega, by omega⟩, show i * k + r - (0 + i * k) = r by omega]
  have : ¬ (0 + i * k ≤ q * k + r ∧ q * k + r < 0 + i * k + k) := by
   rcases Nat.lt_or_ge i q with h1 | h1
   ·have h2 : (i + 1) * k ≤ q * k := Nat.mul_le_mul_right k h1
    have h3 : (i + 1) * k = i * k + k := Nat.succ_mul i k
    omega
   have h2 : (q + 1) * k ≤ i * k := Nat.mul_le_mul_right k (show q + 1 ≤ i by omega)
   have h3 : (q + 1) * k = q * k + k := Nat.succ_mul q k
   omega
  rw [List.getElem_set_ne hiq, if_neg this]
 have h1 : (i + 1) * k ≤ xs.length * k := Nat.mul_le_mul_right k h
 have h2 : (i + 1) * k = i * k + k := Nat.succ_mul i k
 rw [if_neg (by omega), List.getElem?_append_right (by rw [hl2]; omega), List.getElem?_append_right (by rw [hl]; omega), hl, hl2]
end
abbrev Ls := Int × Int × Int
def liC (x : Ls) : List Value := [.int .i64 x.1, .int .i64 x.2.1, .int .i64 x.2.2, .bool true]
theorem liC_len (x : Ls) : (liC x).length = 4 := rfl
def lsS (ss : List ST) : List Ls := ss.map fun s => (s.n, s.t, s.c)
def lsM (l : List Sp) : List Ls := l.map fun s => (s.n, s.t, s.c)
theorem lsM_sps (ss : List ST) : lsM (sps ss) = lsS ss := by simp [lsM, sps, lsS, ST.pl]
theorem lsS_take {ss : List ST} {i : Nat} (h : i < ss.length) : lsS (ss.take (i + 1)) = lsS (ss.take i) ++ [(ss[i].n, ss[i].t, ss[i].c)] := by
 unfold lsS
 rw [List.take_succ_eq_append_getElem h, List.map_append]
 rfl
theorem lsS_len (ss : List ST) : (lsS ss).length = ss.length := List.length_map ..
def rLi : Rdr Ls where
 sz := 4
 R := fun Ps w b o x => Ps b ∧ w.rangeAt b o (liC x)
 loc := fun h ⟨h1, h2⟩ => ⟨h1, rangeAt_loc (h _ h1) h2⟩
 mono := fun h ⟨h1, h2⟩ => ⟨h _ h1, h2⟩
theorem news_row {α : Type} {f : α → List Value} {k : Nat} (hf : ∀ x, (f x).length = k) {w : World} {b : Nat} {xs : List α} (h : News w b 0 (xs.flatMap f)) {i : Nat} (hi : i < xs.length) : w.rangeAt b (0 + i * k) (f xs[i]) := fun j v hj => by
 have hjk : j < k := by
  have := (List.getElem?_eq_some_iff.1 hj).1
  rwa [hf] at this
 have := h (i * k + j) v (by rw [flatMap_get f k hf xs i j hi hjk]; exact hj)
 rwa [show 0 + i * k + j = 0 + (i * k + j) from by omega]
theorem Tryz.infoLi : (Tryz.prog.info? 66).map (fun i => (i.zero.map (·.cells.size), i.size, i.bytes)) = some (some 4, 4, 32) := by kernel_rfl
section
variable {n : Nat} {w0 : World} {S : Nat → Prop} {l : Fr} {m : List Ck} {K : Act → World → Prop}
theorem Ro.liRng {Ps : Nat → Prop} {b o : Nat} {x : Ls} (h : Ro w0 S (elc rLi Ps b o x)) : Ro w0 S (rng b o [.int .i64 x.1, .int .i64 x.2.1, .int .i64 x.2.2, .bool true]) := ⟨h.1.2, fun k hk => h.2 k Y30⟩
theorem may_ls {e : TypeId} {v : Value} {xs : List Ls} {r : List Ck} (h : Sel m (own e 4 v xs.length (xs.flatMap liC)) r) : May w0 S m (slc rLi (fun b => v.ownBlock = some b) v xs) :=
 .view h.mem (fun w hw => rows_sl9 liC_len rfl hw (fun b hb => hb) fun b o x hx hP hr => ⟨hP, hr⟩) fun b hb => hb
end
theorem ls_app (e : TypeId) (v : Value) (ls : List Ls) (x : Ls) : own e 4 v (ls.length + 1) (ls.flatMap liC ++ liC x) = own e 4 v (ls ++ [x]).length ((ls ++ [x]).flatMap liC) := by
 rw [List.length_append, List.flatMap_append]
 congr 2
theorem liC_one (x : Ls) : ∀ u ∈ liC x, u.oneCell' = true := fun u hu => by
 simp only [liC, List.mem_cons, List.not_mem_nil, or_false] at hu
 rcases hu with rfl | rfl | rfl | rfl <;> rfl
set_option maxRecDepth 20000 in
set_option maxHeartbeats 4000000 in
theorem great_tr (Dm bm : Nat) (st : MS) (c : Int) (hok : okM (plM st)) (hc : I64 c) : Tr Tryz.prog 29 #[.pointer (some ⟨Dm, 0, none⟩), .int .i64 c] [] [blk Dm 43 [.map (some bm)], mpc vInt I64 bm (ptrs st), clis st] (TX (fun _ : Unit => True) (fun _ => .int .i64 (plGet (plM st) c).1) (fun _ => [blk Dm 43 [.map (some bm)], mpc vInt I64 bm (ptrs st), clis st])) := by
 refine Tr.of (l := [(0, .pointer (some ⟨Dm, 0, none⟩)), (1, .int .i64 c)]) Tryz.func29 rfl (n := 13) rfl (.cons rfl (.cons rfl .nil)) (fun w0 hro => ?_)
 refine go [9,10,1,7,8,9,9,10,0] ?_
 refine G.op rfl (G.cS rfl rfl rfl rfl Tryz.func35 rfl rfl subT may0 (none_tr _ _) apT ?_)
 intro x6 hJ
 try dsimp only at hJ
 try dsimp only
 refine go [7,8,60,0,13,8,9,10,0,0] ?_
 refine G.op rfl (G.cS rfl rfl rfl rfl Tryz.func37 rfl rfl subT may0 (of_tr _ _ _ _ (by assumption)) apT ?_)
 intro x9 hJ
 obtain ⟨zb, zv, zg, zs⟩ := x9
 try dsimp only at hJ
 try dsimp only
 have hz : IsCl st c ⟨zb, zv, zg, zs⟩ := hJ
 have hpl : plGet (plM st) c = (zg, sps zs) := hz.pl
 have hokc := hok.get c
 rw [hpl] at hokc
 obtain ⟨⟨hg1, hg2⟩, hsl, hss⟩ := hokc
 have hsl : zs.length ≤ 64 := by rw [← sps_length]; exact hsl
 refine G.cliOpen selT ?_
 refine G.ownOpen (v := zv) selT (fun za zc hzv _ _ => ?_)
 subst hzv
 refine go [2,8,2,3,1,2,4,1,7,8,11] ?_
 rw [hpl]
 refine G.cliMk (zb := zb) (zv := .slice za zs.length zc) (zg := zg) (zs := zs) subT ?_
 refine G.cliBack hz selT selT ?_
 exact G.doneX1 (()) trT rfl rfl rfl subT
set_option maxRecDepth 20000 in
set_option maxHeartbeats 4000000 in
theorem list_tr (Dm bm : Nat) (st : MS) (c : Int) (hok : okM (plM st)) (hc : I64 c) : Tr Tryz.prog 27 #[.pointer (some ⟨Dm, 0, none⟩), .int .i64 c] [] [blk Dm 43 [.map (some bm)], mpc vInt I64 bm (ptrs st), clis st] (TX (fun _ : Value => True) (fun x => x) (fun x => [own 66 4 x (lsM (plGet (plM st) c).2).length ((lsM (plGet (plM st) c).2).flatMap liC), blk Dm 43 [.map (some bm)], mpc vInt I64 bm (ptrs st), clis st])) := by
 refine Tr.of (l := [(0, .pointer (some ⟨Dm, 0, none⟩)), (1, .int .i64 c)]) Tryz.func27 rfl (n := 34) rfl (.cons rfl (.cons rfl .nil)) (fun w0 hro => ?_)
 refine go [9,10,1,7,8,9,9,10,0] ?_
 refine G.op rfl (G.cS rfl rfl rfl rfl Tryz.func35 rfl rfl subT may0 (none_tr _ _) apT ?_)
 intro x9 hJ
 try dsimp only at hJ
 try dsimp only
 refine go [7,8,60,0,13,8,9,10,1,7,8,9,9,10,0,0] ?_
 refine G.op rfl (G.cS rfl rfl rfl rfl Tryz.func37 rfl rfl subT may0 (of_tr _ _ _ _ (by assumption)) apT ?_)
 intro x12 hJ
 obtain ⟨zb, zv, zg, zs⟩ := x12
 try dsimp only at hJ
 try dsimp only
 have hz : IsCl st c ⟨zb, zv, zg, zs⟩ := hJ
 have hpl : plGet (plM st) c = (zg, sps zs) := hz.pl
 have hokc := hok.get c
 rw [hpl] at hokc
 obtain ⟨⟨hg1, hg2⟩, hsl, hss⟩ := hokc
 have hsl : zs.length ≤ 64 := by rw [← sps_length]; exact hsl
 refine G.cliOpen selT ?_
 refine G.treesOne selT (fun hone => ?_)
 refine G.ownNews (v := zv) selT (fun za zc zk hzv hkz hmz hadz hnilz hnewz => ?_)
 subst hzv
 refine go [2,8,2,3,0,2,3,0,2,4,2,5,0,7,8,15] ?_
 refine G.ownNil 66 4 ?_
 refine G.loopK (X := Nat × Value) (ts := [4, 16, 17]) (fun st => st.1 ≤ zs.length) (fun st => [(18, .int .i64 (st.1 : Int)), (5, st.2)]) (fun st => [own 66 4 st.2 (lsS (zs.take st.1)).length ((lsS (zs.take st.1)).flatMap liC)]) (fun st => zs.length - st.1) (x0 := (0, .slice none 0 0)) (.cons rfl (.cons rfl (.cons rfl .nil))) subT (.cons (.cons .nil)) apT Y9 (.consE rfl veqT (.consE rfl veqT .nil)) (fun st hJ => ?_)
 obtain ⟨i, vo⟩ := st
 try dsimp only at hJ
 try dsimp only
 have hki := hJ
 have hol := lsS_len (zs.take i)
 have hol2 : (zs.take i).length ≤ i := List.length_take_le _ _
 refine go [9,10,2,9,7,8,9] ?_
 refine G.condP rfl (fun h19 => ?_) (fun h19 => ?_)
 ·have hlt : i < zs.length := by omega
  have hsv := hone _ (List.getElem_mem hlt)
  refine go [13,8,9,15,9,10] ?_
  refine G.op rfl (G.val rfl rfl (pv_ixSl (sz := 4) (k := i) Tryz.underlying73 kr rfl rfl hadz rfl (by omega)) ?_)
  refine G.op rfl (G.val rfl rfl (pv_loadN (cs := snC zs[i]) Tryz.underlying79 rfl kr rfl (fun w hw => news_row snC_len (hnewz selT w hw) hlt)) ?_)
  refine go [60,6] ?_
  intro b7
  refine G.op rfl (G.storeN (vs := snC zs[i]) kr rfl rfl (List.all_eq_true.2 (snC_one hsv)) selT (by exact Nat.le_of_ble_eq_true rfl) ?_)
  rw [putN_whole _ _ (by rfl)]
  rw [show blk b7 79 (snC zs[i]) = blk b7 79 [.int .i64 zs[i].n, .int .i64 zs[i].c, .int .i64 zs[i].t, zs[i].v] from rfl]
  refine go [7,8,10,0,2,3,0,2,4,2,3,2,2,4,2,3,1,2,4,2,50,2] ?_
  refine G.op rfl (G.buildSlice (z := .agg #[.int .i64 0, .int .i64 0, .int .i64 0, .bool false]) (sz := 4) (cs := liC (zs[i].n, zs[i].t, zs[i].c)) rfl Tryz.underlying60 kr (by decide) (by decide) rfl kr ?_)
  intro b30
  refine G.op rfl (G.append (k := (lsS (zs.take i)).length) (j := 1) (cs := (lsS (zs.take i)).flatMap liC) (news := liC (zs[i].n, zs[i].t, zs[i].c)) (b := b30) (off := 0) rfl Tryz.underlying60 Tryz.infoLi rfl rfl rfl selT (fun _ => rfl) (fun h => by cases h) rfl (blk_news (k := 4) selT rfl) (liC_one _) (by omega) (by omega) ?_)
  intro vn
  rw [ls_app, ← lsS_take hlt]
  refine go [1,7,16,8,10,2,6,0,7] ?_
  exact G.next ((i + 1, vn)) Y6 (by (try dsimp only); omega) (.consE rfl veqT (.consE rfl veqT (.cons rfl (.cons rfl (.cons rfl .nil))))) subT
 obtain rfl : i = zs.length := by omega
 rw [List.take_length]
 refine go [18,14,14,19,8,9,10,0,1,7,8,11] ?_
 rw [hpl, lsM_sps]
 refine G.cliMk (zb := zb) (zv := .slice za zs.length zc) (zg := zg) (zs := zs) subT ?_
 refine G.cliBack hz selT selT ?_
 exact G.doneX1 (vo) trT rfl rfl rfl subT
theorem ls_eq (a b : Ls) : (decide (a.1 = b.1) && (decide (a.2.1 = b.2.1) && (decide (a.2.2 = b.2.2) && ((true == true) && true)))) = decide (a = b) := by
 rw [Bool.eq_iff_iff]
 simp [Prod.ext_iff]
theorem ls_ne {a b : List Ls} {i : Nat} (h1 : i < a.length) (h2 : i < b.length) (h : ¬ a[i] = b[i]) : ¬ a = b := fun e => h (by subst e; rfl)
theorem ls_all {a b : List Ls} (h : a.length = b.length) (h2 : ∀ q (hq : q < a.length), a[q] = b[q]'(by omega)) : a = b := List.ext_getElem h fun q h1 _ => h2 q h1
set_option maxRecDepth 20000 in
set_option maxHeartbeats 4000000 in
theorem slist_tr {Ps Pu : Nat → Prop} (v u : Value) (xs ys : List Ls) : Tr Tryz.prog 26 #[v, u] [slc rLi Ps v xs, slc rLi Pu u ys] [] (T0 (.bool (decide (xs = ys)))) := by
 refine Tr.of (l := [(0, v), (1, u)]) Tryz.func26 rfl (n := 26) rfl (.cons rfl (.cons rfl .nil)) (fun w0 hro => ?_)
 obtain ⟨hv0, hu0⟩ := ro2 hro
 have hv := hv0
 have hv' := hv
 obtain ⟨av, cv, bv, fv, rfl, hcapv, hmaxv, hnilv, hadv, helv⟩ := Ro.open hv
 have hu := hu0
 have hu' := hu
 obtain ⟨au, cu, bu, fu, rfl, hcapu, hmaxu, hnilu, hadu, helu⟩ := Ro.open hu
 refine go [9,10,1,7,8,9,9,10,0,2,5,0,2,5,2,14,7,8] ?_
 refine G.condP rfl (fun h10 => ?_) (fun h10 => ?_)
 ·refine go [9,10,1,7,8,11,12] ?_
  exact G.done0G rfl (Rv.tmp rfl Rv.nil) (by rw [decide_eq_false (show ¬ xs = ys from fun e => by subst e; omega)]; rfl)
 have hxy : xs.length = ys.length := by omega
 refine go [13,8,9,9,10,1,7,8,15] ?_
 refine G.loopK (X := Nat) (ts := [0, 1]) (fun i => i ≤ xs.length ∧ (∀ q (hq : q < xs.length), q < i → xs[q] = ys[q]'(by omega))) (fun i => [(5, .int .i64 (i : Int))]) (fun i => []) (fun i => xs.length - i) (x0 := 0) (.cons rfl (.cons rfl .nil)) subT (.cons .nil) apT Y13 (.consE rfl veqT .nil) (fun i hJ => ?_)
 try dsimp only at hJ
 try dsimp only
 obtain ⟨hki, hJ⟩ := hJ
 have hJ0 := hJ
 refine go [9,9,10,0,0,2,5,2,9,7,8] ?_
 refine G.condP rfl (fun h14 => ?_) (fun h14 => ?_)
 ·have hlt : i < xs.length := by omega
  have hlu : i < ys.length := by omega
  have hRv := Ro.liRng (helv i hlt)
  have hRu := Ro.liRng (helu i hlu)
  refine go [13,8,9,15,9] ?_
  refine G.drawT (nn := 9) (p := []) (rem := 511) [0, 0, 3, 4, 0, 0, 48, 64, 136] [0, 0, 3, 4, 0, 0, 48, 64, 136] kr ⟨rfl, by kernel_rfl, by kernel_rfl⟩ subT kr (fun hT6 => ?_)
  refine go [22,0,510,0,22,1,508,0] ?_
  refine G.takeT hT6 (i := 2) (rem' := 504) rfl rfl rfl kr (fun _ _ _ h => h) rfl (pv_ixSl (sz := 4) (k := i) Tryz.underlying60 kr rfl rfl Y18 rfl (by omega)) subT ?_
  refine go [22,4,488,0,22,5,456,0] ?_
  refine G.takeT hT6 (i := 6) (rem' := 392) rfl rfl rfl kr (fun _ _ _ h => h) rfl (pv_ixSl (sz := 4) (k := i) Tryz.underlying60 kr rfl rfl Y18 rfl (by omega)) subT ?_
  refine G.takeT hT6 (i := 3) (rem' := 384) rfl rfl rfl kr (fun _ _ _ h => h) rfl (pv_loadN (cs := [.int .i64 xs[i].1, .int .i64 xs[i].2.1, .int .i64 xs[i].2.2, .bool true]) Tryz.underlying66 rfl kr rfl (fun w hw => hRv.at hw)) subT ?_
  refine go [24,7,256] ?_
  refine G.turnOp rfl rfl (G.val rfl rfl (pv_loadN (cs := [.int .i64 ys[i].1, .int .i64 ys[i].2.1, .int .i64 ys[i].2.2, .bool true]) Tryz.underlying66 rfl kr rfl (fun w hw => hRu.at hw)) ?_)
  refine go [26] ?_
  refine G.takeT hT6 (i := 8) (rem' := 0) rfl rfl rfl kr (fun _ _ _ h => h) rfl ((pv_neqSt (xs := [.int .i64 xs[i].1, .int .i64 xs[i].2.1, .int .i64 xs[i].2.2, .bool true]) (ys := [.int .i64 ys[i].1, .int .i64 ys[i].2.1, .int .i64 ys[i].2.2, .bool true]) (r := decide (xs[i].1 = ys[i].1) && (decide (xs[i].2.1 = ys[i].2.1) && (decide (xs[i].2.2 = ys[i].2.2) && ((true == true) && true)))) Tryz.underlying66 kr kr rfl rfl kr).cast (v' := .bool (decide (¬ xs[i] = ys[i]))) (by rw [ls_eq, decide_not])) subT ?_
  refine go [27,8] ?_
  refine G.condP rfl (fun h25 => ?_) (fun h25 => ?_)
  ·have hne : ¬ xs[i] = ys[i] := by assumption
   refine go [9,10,1,7,8,11,17,12,12,17,12] ?_
   exact G.done0G rfl (Rv.tmp rfl Rv.nil) (by rw [decide_eq_false (ls_ne hlt hlu hne)]; rfl)
  have heq : xs[i] = ys[i] := Decidable.of_not_not (by assumption)
  refine go [13,16,8,10,0,2,6,1,7] ?_
  exact G.next (i + 1) (by first | exact trivial | ((try dsimp only) <;> exact ⟨by omega, fun q hq hqi => by rcases Nat.lt_or_ge q i with h1 | h1; exact hJ0 q hq h1; obtain rfl : q = i := (by omega); exact heq⟩)) (by (try dsimp only); omega) (.consE rfl veqT (.cons rfl (.cons rfl .nil))) subT
 refine go [18,14,14,19,8,9,10,1,7,8,11] ?_
 exact G.done0G rfl (Rv.tmp rfl Rv.nil) (by rw [decide_eq_true (ls_all hxy (fun q hq => hJ q hq (by omega)))]; rfl)
section
variable {α : Type} {f : α → List Value} {k : Nat}
theorem rows_take (hf : ∀ x, (f x).length = k) {xs : List α} {sp : List Value} {i : Nat} (h : i ≤ xs.length) : (xs.flatMap f ++ sp).take (0 + i * k) = (xs.take i).flatMap f := by
 rw [show xs.flatMap f = (xs.take i).flatMap f ++ (xs.drop i).flatMap f from by rw [← List.flatMap_append, List.take_append_drop], List.append_assoc]
 exact List.take_left' (by rw [rows_len hf, List.length_take, Nat.min_eq_left h]; omega)
end
def idxN (n : Int) (xs : List ST) : Nat := xs.findIdx fun s => decide (s.n = n)
def keepN (n : Int) (s : ST) : Bool := ! decide (s.n = n)
def dropN (n : Int) (xs : List ST) : List ST := xs.filter (keepN n)
theorem idxN_at {n : Int} {xs : List ST} {i : Nat} (hi : i < xs.length) (h : ∀ q (hq : q < xs.length), q < i → ¬ xs[q].n = n) (hg : xs[i].n = n) : idxN n xs = i :=
 (List.findIdx_eq hi).2 ⟨by simpa using hg, fun j hj => by simpa using h j (by omega) hj⟩
theorem idxN_no {n : Int} {xs : List ST} (h : ∀ q (hq : q < xs.length), ¬ xs[q].n = n) : idxN n xs = xs.length := List.findIdx_eq_length_of_false fun x hx => by
 obtain ⟨j, hj, rfl⟩ := List.getElem_of_mem hx
 simpa using h j hj
theorem idxN_le (n : Int) (xs : List ST) : idxN n xs ≤ xs.length := List.findIdx_le_length
theorem idxN_lt {n : Int} {xs : List ST} {k : Nat} (h : idxN n xs = k) : ∀ q (hq : q < xs.length), q < k → ¬ xs[q].n = n := fun q hq hqk => by
 have := List.not_of_lt_findIdx (p := fun s : ST => decide (s.n = n)) (xs := xs) (i := q) (by unfold idxN at h; omega)
 simpa using this
theorem idxN_is {n : Int} {xs : List ST} {k : Nat} (h : idxN n xs = k) (hk : k < xs.length) : xs[k].n = n := by
 have := List.findIdx_getElem (p := fun s : ST => decide (s.n = n)) (xs := xs) (w := by unfold idxN at h; omega)
 unfold idxN at h
 simp only [h] at this
 simpa using this
theorem keepN_t {n : Int} {s : ST} (h : ¬ s.n = n) : keepN n s = true := by unfold keepN; rw [decide_eq_false h]; rfl
theorem keepN_f {n : Int} {s : ST} (h : s.n = n) : keepN n s = false := by unfold keepN; rw [decide_eq_true h]; rfl
theorem dropN_all {n : Int} {xs : List ST} (h : idxN n xs = xs.length) : dropN n xs = xs := List.filter_eq_self.2 fun x hx => by
 obtain ⟨q, hq, rfl⟩ := List.getElem_of_mem hx
 exact keepN_t (idxN_lt h q hq hq)
theorem idxN_spec {n : Int} {xs : List ST} {k : Nat} (h : idxN n xs = k) (hk : k < xs.length) : (xs.take (k + 1)).filter (keepN n) = xs.take k := by
 rw [List.take_succ_eq_append_getElem hk, List.filter_append, List.filter_eq_self.2 (fun x hx => by
  obtain ⟨q, hq, rfl⟩ := List.getElem_of_mem hx
  rw [List.getElem_take]
  rw [List.length_take] at hq
  exact keepN_t (idxN_lt h q (by omega) (by omega)))]
 simp [keepN_f (idxN_is h hk)]
theorem keepN_one {n : Int} {xs : List ST} {j : Nat} (h : j < xs.length) (k : ¬ xs[j].n = n) : (xs.take (j + 1)).filter (keepN n) = (xs.take j).filter (keepN n) ++ [xs[j]] := by
 rw [List.take_succ_eq_append_getElem h, List.filter_append]
 simp [keepN_t k]
theorem keepN_no {n : Int} {xs : List ST} {j : Nat} (h : j < xs.length) (k : xs[j].n = n) : (xs.take (j + 1)).filter (keepN n) = (xs.take j).filter (keepN n) := by
 rw [List.take_succ_eq_append_getElem h, List.filter_append]
 simp [keepN_f k]
section
variable {n : Nat} {w0 : World} {S : Nat → Prop} {l : Fr} {m : List Ck} {K : Act → World → Prop}
theorem G.treesDrop {ss : List ST} {p : ST → Bool} {r : List Ck} (h1 : Sel m (trees ss) r) (h : G n w0 S l (trees (ss.filter p) :: r) K) : G n w0 S l m K :=
 G.mem (fun w hw => by
  have h2 : Hp w0 S w ((ss.flatMap fun s => [ownT 69 s.v s.l, datC 5 s.l]) ++ r) := Hp.unstar (hw.sel h1)
  have h3 : ∀ l : List ST, ((l.filter p).flatMap fun s => [ownT 69 s.v s.l, datC 5 s.l]).Sublist (l.flatMap fun s => [ownT 69 s.v s.l, datC 5 s.l]) := fun l => by
   induction l with
   | nil => exact List.Sublist.refl _
   | cons s l ih =>
    rw [List.filter_cons]
    split
    ·rw [List.flatMap_cons, List.flatMap_cons]
     exact (List.Sublist.refl _).append ih
    rw [List.flatMap_cons]
    exact ih.trans (List.sublist_append_right _ _)
  exact Hp.star (h2.sub ((h3 ss).append (List.Sublist.refl _)))) h
theorem erase_perm {α : Type} {ss : List α} {k : Nat} (hk : k < ss.length) : ss.Perm (ss[k] :: ss.eraseIdx k) := by
 induction ss generalizing k with
 | nil => exact absurd hk (by simp)
 | cons a ss ih =>
  cases k with
  | zero => exact List.Perm.refl _
  | succ k => exact ((ih (k := k) (by simpa using hk)).cons a).trans (List.Perm.swap ..)
theorem trees_perm {ss : List ST} {k : Nat} (hk : k < ss.length) : (ss.flatMap fun s => [ownT 69 s.v s.l, datC 5 s.l]).Perm (ownT 69 ss[k].v ss[k].l :: datC 5 ss[k].l :: (ss.eraseIdx k).flatMap fun s => [ownT 69 s.v s.l, datC 5 s.l]) := by
 have h := List.Perm.flatMap_right (fun s : ST => [ownT 69 s.v s.l, datC 5 s.l]) (erase_perm hk)
 rw [List.flatMap_cons] at h
 exact h
theorem G.treeOut {ss : List ST} {k : Nat} {r : List Ck} (hk : k < ss.length) (h1 : Sel m (trees ss) r) (h : G n w0 S l (ownT 69 ss[k].v ss[k].l :: datC 5 ss[k].l :: trees (ss.eraseIdx k) :: r) K) : G n w0 S l m K :=
 G.mem (fun w hw => by
  have h2 : Hp w0 S w ((ss.flatMap fun s => [ownT 69 s.v s.l, datC 5 s.l]) ++ r) := Hp.unstar (hw.sel h1)
  have h3 := h2.perm (List.Perm.append_right r (trees_perm hk))
  have h4 : Hp w0 S w (((ss.eraseIdx k).flatMap fun s => [ownT 69 s.v s.l, datC 5 s.l]) ++ (ownT 69 ss[k].v ss[k].l :: datC 5 ss[k].l :: r)) := h3.perm (by
   show (([_, _] : List Ck) ++ _ ++ r).Perm (_ ++ (([_, _] : List Ck) ++ r))
   rw [← List.append_assoc]
   exact List.Perm.append_right r List.perm_append_comm)
  exact (Hp.star h4).perm (by
   show ([_] ++ ([_, _] ++ r) : List Ck).Perm ([_, _] ++ ([_] ++ r))
   rw [← List.append_assoc, ← List.append_assoc]
   exact List.Perm.append_right r List.perm_append_comm)) h
theorem G.treeIn {ss : List ST} {k : Nat} {r r' r'' : List Ck} (hk : k < ss.length) (h1 : Sel m (ownT 69 ss[k].v ss[k].l) r) (h2 : Sel r (datC 5 ss[k].l) r') (h3 : Sel r' (trees (ss.eraseIdx k)) r'') (h : G n w0 S l (trees ss :: r'') K) : G n w0 S l m K :=
 G.mem (fun w hw => by
  have p := h1.perm.trans (List.Perm.cons _ (h2.perm.trans (List.Perm.cons _ h3.perm)))
  have h4 : Hp w0 S w (trees (ss.eraseIdx k) :: ownT 69 ss[k].v ss[k].l :: datC 5 ss[k].l :: r'') := hw.perm (p.trans (by
   show ([_, _] ++ ([_] ++ r'') : List Ck).Perm ([_] ++ ([_, _] ++ r''))
   rw [← List.append_assoc, ← List.append_assoc]
   exact List.Perm.append_right r'' List.perm_append_comm))
  have h5 := Hp.unstar h4
  exact Hp.star (h5.perm (by
   refine List.Perm.trans ?_ (List.Perm.append_right r'' (trees_perm hk).symm)
   show (_ ++ ([_, _] ++ r'') : List Ck).Perm ([_, _] ++ _ ++ r'')
   rw [← List.append_assoc]
   exact List.Perm.append_right r'' List.perm_append_comm))) h
end
set_option maxRecDepth 20000 in
set_option maxHeartbeats 4000000 in
theorem sat1_tr (c : Nat) (s : ST) (n : Int) (hs : s.v.oneCell' = true) : Tr Tryz.prog 66 #[.agg #[.int .i64 s.n, .int .i64 s.c, .int .i64 s.t, s.v], .pointer (some ⟨c, 0, none⟩)] [blk c 3 [.int .i64 n]] [] (T0 (.bool (decide (s.n = n)))) := by
 refine Tr.of (l := [(0, .agg #[.int .i64 s.n, .int .i64 s.c, .int .i64 s.t, s.v]), (1, .pointer (some ⟨c, 0, none⟩))]) Tryz.func66 rfl (n := 8) rfl (.cons rfl (.cons rfl .nil)) (fun w0 hro => ?_)
 have hb := ro1 hro
 refine go [9,10] ?_
 refine G.op rfl (G.box rfl rfl (cs := [_, _, _, _]) rfl ?_)
 intro b2
 refine go [1,7,8,9,10,2,3,0,2,4,2,4,2,13,1,7,8,11] ?_
 exact G.done0G rfl (Rv.tmp rfl Rv.nil) rfl
set_option maxRecDepth 20000 in
set_option maxHeartbeats 4000000 in
theorem sdrop1_tr (c : Nat) (s : ST) (n : Int) (hs : s.v.oneCell' = true) : Tr Tryz.prog 62 #[.agg #[.int .i64 s.n, .int .i64 s.c, .int .i64 s.t, s.v], .pointer (some ⟨c, 0, none⟩)] [blk c 3 [.int .i64 n]] [] (T0 (.bool (decide (s.n = n)))) := by
 refine Tr.of (l := [(0, .agg #[.int .i64 s.n, .int .i64 s.c, .int .i64 s.t, s.v]), (1, .pointer (some ⟨c, 0, none⟩))]) Tryz.func62 rfl (n := 8) rfl (.cons rfl (.cons rfl .nil)) (fun w0 hro => ?_)
 have hb := ro1 hro
 refine go [9,10] ?_
 refine G.op rfl (G.box rfl rfl (cs := [_, _, _, _]) rfl ?_)
 intro b2
 refine go [1,7,8,9,10,2,3,0,2,4,2,4,2,13,1,7,8,11] ?_
 exact G.done0G rfl (Rv.tmp rfl Rv.nil) rfl
set_option maxRecDepth 20000 in
set_option maxHeartbeats 4000000 in
theorem sidx_at_tr {Ps : Nat → Prop} (v : Value) (xs : List ST) (c : Nat) (n : Int) (hone : ∀ s ∈ xs, s.v.oneCell' = true) : Tr Tryz.prog 65 #[v, .func (.func 66) #[] #[.pointer (some ⟨c, 0, none⟩)]] [slc rSn Ps v xs, blk c 3 [.int .i64 n]] [] (T0 (.int .i64 (if idxN n xs = xs.length then -1 else (idxN n xs : Int)))) := by
 refine Tr.of (l := [(0, v), (1, .func (.func 66) #[] #[.pointer (some ⟨c, 0, none⟩)])]) Tryz.func65 rfl (n := 19) rfl (.cons rfl (.cons rfl .nil)) (fun w0 hro => ?_)
 obtain ⟨hv0, hbc⟩ := ro2 hro
 have hv := hv0
 have hv' := hv
 obtain ⟨av, cv, bv, fv, rfl, hcapv, hmaxv, hnilv, hadv, helv⟩ := Ro.open hv
 refine go [9,10,1,7,8,9,9,10,0,2,5,0,7,8,15] ?_
 refine G.loopK (X := Nat) (ts := [0, 1, 7]) (fun i => i ≤ xs.length ∧ (∀ q (hq : q < xs.length), q < i → ¬ xs[q].n = n)) (fun i => [(8, .int .i64 (i : Int))]) (fun i => []) (fun i => xs.length - i) (x0 := 0) (.cons rfl (.cons rfl (.cons rfl .nil))) subT (.cons .nil) apT Y13 (.consE rfl veqT .nil) (fun i hJ => ?_)
 try dsimp only at hJ
 try dsimp only
 obtain ⟨hki, hJ⟩ := hJ
 have hJ0 := hJ
 refine go [9,10,2,9,7,8,9] ?_
 refine G.condP rfl (fun h9 => ?_) (fun h9 => ?_)
 ·have hlt : i < xs.length := by omega
  have hR := Ro.snRng (helv i hlt)
  refine go [13,8,9,15,9,10,0,1,7,8,9,10,0,0,0] ?_
  refine G.op rfl (G.val rfl rfl (pv_ixSl (sz := 4) (k := i) Tryz.underlying73 kr rfl rfl hadv (by omega) (by omega)) ?_)
  refine G.op rfl (G.val rfl rfl (pv_loadN (cs := [.int .i64 xs[i].n, .int .i64 xs[i].c, .int .i64 xs[i].t, xs[i].v]) Tryz.underlying79 rfl kr rfl (fun w hw => hR.at hw)) ?_)
  refine G.op rfl (G.cRv rfl rfl rfl rfl rfl Tryz.func66 rfl rfl (by rfl) (may1 Y0) (sat1_tr c xs[i] n (hone _ (List.getElem_mem hlt))) ?_)
  refine go [7,8] ?_
  refine G.condP rfl (fun h16 => ?_) (fun h16 => ?_)
  ·have hg : xs[i].n = n := by assumption
   refine go [9,10,0,1,7,8,11,17,12,12,17,12] ?_
   exact G.done0G rfl (Rv.tmp rfl Rv.nil) (by rw [idxN_at (n := n) hlt hJ0 hg, if_neg (by omega)]; rfl)
  have hng : ¬ xs[i].n = n := by assumption
  refine go [13,16,8,10,2,6,0,7] ?_
  exact G.next (i + 1) Y15 (by (try dsimp only); omega) (.consE rfl veqT (.cons rfl (.cons rfl (.cons rfl .nil)))) subT
 refine go [18,14,14,19,8,9,10,1,7,8,11] ?_
 exact G.done0G rfl (Rv.tmp rfl Rv.nil) (by rw [idxN_no (n := n) (fun q hq => hJ q hq (by omega)), if_pos rfl]; rfl)
set_option maxRecDepth 20000 in
set_option maxHeartbeats 4000000 in
theorem sidx_drop_tr {Ps : Nat → Prop} (v : Value) (xs : List ST) (c : Nat) (n : Int) (hone : ∀ s ∈ xs, s.v.oneCell' = true) : Tr Tryz.prog 65 #[v, .func (.func 62) #[] #[.pointer (some ⟨c, 0, none⟩)]] [slc rSn Ps v xs, blk c 3 [.int .i64 n]] [] (T0 (.int .i64 (if idxN n xs = xs.length then -1 else (idxN n xs : Int)))) := by
 refine Tr.of (l := [(0, v), (1, .func (.func 62) #[] #[.pointer (some ⟨c, 0, none⟩)])]) Tryz.func65 rfl (n := 19) rfl (.cons rfl (.cons rfl .nil)) (fun w0 hro => ?_)
 obtain ⟨hv0, hbc⟩ := ro2 hro
 have hv := hv0
 have hv' := hv
 obtain ⟨av, cv, bv, fv, rfl, hcapv, hmaxv, hnilv, hadv, helv⟩ := Ro.open hv
 refine go [9,10,1,7,8,9,9,10,0,2,5,0,7,8,15] ?_
 refine G.loopK (X := Nat) (ts := [0, 1, 7]) (fun i => i ≤ xs.length ∧ (∀ q (hq : q < xs.length), q < i → ¬ xs[q].n = n)) (fun i => [(8, .int .i64 (i : Int))]) (fun i => []) (fun i => xs.length - i) (x0 := 0) (.cons rfl (.cons rfl (.cons rfl .nil))) subT (.cons .nil) apT Y13 (.consE rfl veqT .nil) (fun i hJ => ?_)
 try dsimp only at hJ
 try dsimp only
 obtain ⟨hki, hJ⟩ := hJ
 have hJ0 := hJ
 refine go [9,10,2,9,7,8,9] ?_
 refine G.condP rfl (fun h9 => ?_) (fun h9 => ?_)
 ·have hlt : i < xs.length := by omega
  have hR := Ro.snRng (helv i hlt)
  refine go [13,8,9,15,9,10,0,1,7,8,9,10,0,0,0] ?_
  refine G.op rfl (G.val rfl rfl (pv_ixSl (sz := 4) (k := i) Tryz.underlying73 kr rfl rfl hadv (by omega) (by omega)) ?_)
  refine G.op rfl (G.val rfl rfl (pv_loadN (cs := [.int .i64 xs[i].n, .int .i64 xs[i].c, .int .i64 xs[i].t, xs[i].v]) Tryz.underlying79 rfl kr rfl (fun w hw => hR.at hw)) ?_)
  refine G.op rfl (G.cRv rfl rfl rfl rfl rfl Tryz.func62 rfl rfl (by rfl) (may1 Y0) (sdrop1_tr c xs[i] n (hone _ (List.getElem_mem hlt))) ?_)
  refine go [7,8] ?_
  refine G.condP rfl (fun h16 => ?_) (fun h16 => ?_)
  ·have hg : xs[i].n = n := by assumption
   refine go [9,10,0,1,7,8,11,17,12,12,17,12] ?_
   exact G.done0G rfl (Rv.tmp rfl Rv.nil) (by rw [idxN_at (n := n) hlt hJ0 hg, if_neg (by omega)]; rfl)
  have hng : ¬ xs[i].n = n := by assumption
  refine go [13,16,8,10,2,6,0,7] ?_
  exact G.next (i + 1) Y15 (by (try dsimp only); omega) (.consE rfl veqT (.cons rfl (.cons rfl (.cons rfl .nil)))) subT
 refine go [18,14,14,19,8,9,10,1,7,8,11] ?_
 exact G.done0G rfl (Rv.tmp rfl Rv.nil) (by rw [idxN_no (n := n) (fun q hq => hJ q hq (by omega)), if_pos rfl]; rfl)
set_option maxRecDepth 20000 in
set_option maxHeartbeats 4000000 in
theorem sdel_tr (v : Value) (xs : List ST) (c : Nat) (n : Int) (hone : ∀ s ∈ xs, s.v.oneCell' = true) : Tr Tryz.prog 61 #[v, .func (.func 62) #[] #[.pointer (some ⟨c, 0, none⟩)]] [blk c 3 [.int .i64 n]] [own 79 4 v xs.length (xs.flatMap snC)]
 (TX (fun _ : Value => True) (fun x => x) (fun x => [own 79 4 x (dropN n xs).length ((dropN n xs).flatMap snC)])) := by
 refine Tr.of (l := [(0, v), (1, .func (.func 62) #[] #[.pointer (some ⟨c, 0, none⟩)])]) Tryz.func61 rfl (n := 42) rfl (.cons rfl (.cons rfl .nil)) (fun w0 hro => ?_)
 have hbc := ro1 hro
 have hix := idxN_le n xs
 have hia := dropN_all (n := n) (xs := xs)
 have hlk := fun {k : Nat} (h : idxN n xs = k) (hk : k < xs.length) => idxN_spec (n := n) (xs := xs) h hk
 refine go [9,10,1,7,8,9,10,0,0] ?_
 refine G.op rfl (G.cR rfl rfl rfl rfl Tryz.func65 rfl rfl (may2 Y1 Y1) (sidx_drop_tr (Ps := fun b => v.ownBlock = some b) v xs c n hone) ?_)
 obtain ⟨k, hk0⟩ : ∃ k, idxN n xs = k := ⟨_, rfl⟩
 have his := hlk hk0
 rw [hk0] at hix hia
 rw [hk0]
 refine go [1,7,8,9,9,10,0,2,13,7,8] ?_
 refine G.condP rfl (fun h12 => ?_) (fun h12 => ?_)
 ·have hkk : k = xs.length := by by_cases h : k = xs.length; exact h; rw [if_neg h] at h12; omega
  refine go [9,10,0,1,7,8,11,12] ?_
  rw [hia hkk]
  exact G.doneX1 (v) trT rfl rfl rfl subT
 have hkk : ¬ k = xs.length := fun h => h12 (by rw [if_pos h])
 rw [if_neg hkk]
 refine G.ownTo (v := v) selT (by omega) (fun g cap sp hvv hkc hmx hl hlen => ?_)
 subst hvv
 refine go [13,8,9,9,10,0,2,6,1,7,8,15] ?_
 refine G.loopK (X := (List ST) × Nat × Nat) (ts := [0, 1, 4]) (fun st => st.1.length = xs.length ∧ st.2.1 < st.2.2 ∧ st.2.2 ≤ xs.length ∧ st.1.take st.2.1 = (xs.take st.2.2).filter (keepN n) ∧ ∀ q (h1 : q < st.1.length) (h2 : q < xs.length), st.2.2 ≤ q → st.1[q] = xs[q]) (fun st => [(5, .int .i64 (st.2.1 : Int)), (6, .int .i64 (st.2.2 : Int))]) (fun st => [blk g 79 (st.1.flatMap snC ++ sp)]) (fun st => xs.length - st.2.2) (x0 := (xs, k, (k + 1))) (.cons rfl (.cons rfl (.cons rfl .nil))) subT (.cons (.cons .nil)) apT (by first | exact trivial | ((try dsimp only) <;> exact ⟨rfl, by omega, by omega, (his (by omega)).symm, fun q _ _ _ => rfl⟩)) (.consE rfl veqT (.consE rfl veqT .nil)) (fun st hJ => ?_)
 obtain ⟨ws, i, j⟩ := st
 try dsimp only at hJ
 try dsimp only
 obtain ⟨hwl, hij, hjn, hwt, hwq0⟩ := hJ
 refine go [9,9,10,0,0,2,5,2,9,7,8] ?_
 refine G.condP rfl (fun h19 => ?_) (fun h19 => ?_)
 ·have hlt : j < xs.length := by omega
  have hlw : j < ws.length := by omega
  have hwq : ws[j] = xs[j] := hwq0 j hlw hlt (Nat.le_refl _)
  have hsv := hone _ (List.getElem_mem hlt)
  refine go [13,8,9,15,9,10,0,0,2,20,4] ?_
  refine G.op rfl (G.val rfl rfl (pv_loadN (cs := snC xs[j]) Tryz.underlying79 rfl kr rfl (blk_range (k := 4) selD (by rw [← hwq]; exact rows_row snC_len (by omega)))) ?_)
  refine go [60,6] ?_
  intro b7
  refine G.op rfl (G.storeN (vs := snC xs[j]) kr rfl rfl (List.all_eq_true.2 (snC_one hsv)) selT (by exact Nat.le_of_ble_eq_true rfl) ?_)
  rw [putN_whole _ _ (by rfl)]
  rw [show blk b7 79 (snC xs[j]) = blk b7 79 [.int .i64 xs[j].n, .int .i64 xs[j].c, .int .i64 xs[j].t, xs[j].v] from rfl]
  refine go [7,8,9,10,0] ?_
  refine G.op rfl (G.val rfl rfl (pv_loadN (cs := [_, _, _, _]) Tryz.underlying79 rfl kr rfl (by first | exact blk_range (k := 4) selD (by rfl) | exact ro_rng0 (by assumption) | exact rng_range (k := 4) selD (by rfl) | exact ro_range (k := 4) (by assumption) (by rfl) | exact ro_rngR (k := 4) (by assumption) (by rfl))) ?_)
  refine G.op rfl (G.cRv rfl rfl rfl rfl rfl Tryz.func62 rfl rfl (by rfl) (may1 Y1) (sdrop1_tr c xs[j] n hsv) ?_)
  refine go [2,15,7,8] ?_
  refine G.condP rfl (fun h29 => ?_) (fun h29 => ?_)
  ·have hng : ¬ xs[j].n = n := by assumption
   refine go [9,10,0,0] ?_
   refine G.op rfl (G.val rfl rfl (pv_loadN (cs := [_, _, _, _]) Tryz.underlying79 rfl kr rfl (by first | exact blk_range (k := 4) selD (by rfl) | exact ro_rng0 (by assumption) | exact rng_range (k := 4) selD (by rfl) | exact ro_range (k := 4) (by assumption) (by rfl) | exact ro_rngR (k := 4) (by assumption) (by rfl))) ?_)
   refine go [2,20,4] ?_
   refine G.op rfl (G.storeN (vs := snC xs[j]) kr rfl rfl (List.all_eq_true.2 (snC_one hsv)) selT (rows_fit snC_len (show i < ws.length by omega) _) ?_)
   rw [rows_put snC_len (show i < ws.length by omega)]
   refine go [7,8,10,0,2,6,1,7,16,8,10,0,2,6,1,7] ?_
   exact G.next ((ws.set i xs[j], i + 1, j + 1)) (by first | exact trivial | ((try dsimp only) <;> exact ⟨by rw [List.length_set, hwl], by omega, by omega, by rw [take_set_succ (by omega), hwt, keepN_one hlt hng], fun q h1 h2 hq => by rw [List.getElem_set_ne (by omega)]; exact hwq0 q (by rw [List.length_set] at h1; exact h1) h2 (by omega)⟩)) (by (try dsimp only); omega) (.consE rfl veqT (.consE rfl veqT (.cons rfl (.cons rfl (.cons rfl .nil))))) subT
  have hg : xs[j].n = n := Decidable.of_not_not (by assumption)
  refine go [13,16,8,10,0,2,6,1,7] ?_
  exact G.next ((ws, i, j + 1)) (by first | exact trivial | ((try dsimp only) <;> exact ⟨hwl, by omega, by omega, by rw [hwt, keepN_no hlt hg], fun q h1 h2 hq => hwq0 q h1 h2 (by omega)⟩)) (by (try dsimp only); omega) (.consE rfl veqT (.consE rfl veqT (.cons rfl (.cons rfl (.cons rfl .nil))))) subT
 refine go [18,14,14,19,8,9,10,0,0] ?_
 refine G.op rfl (G.val rfl rfl (pv_subL (sz := 4) Tryz.underlying73 kr rfl rfl rfl (by omega)) ?_)
 obtain rfl : j = xs.length := by omega
 rw [show subV 4 (some ⟨g, 0, none⟩) i xs.length cap = .slice (some ⟨g, 0 + i * 4, none⟩) (xs.length - i) (cap - i) from by unfold subV; rw [if_neg (by omega), Option.map_some, addr_mid]]
 refine G.op rfl (G.clear (z := [.int .i64 0, .int .i64 0, .int .i64 0, .slice none 0 0]) Tryz.underlying73 kr rfl rfl selT (by rw [List.length_append, rows_len snC_len]; simp only [List.length_cons, List.length_nil]; omega) ?_)
 intro sp2 hsp2
 rw [rows_take snC_len (by omega)] at hsp2 ⊢
 rw [List.take_length] at hwt
 have hfl : (dropN n xs).length = i := by unfold dropN; rw [← hwt, List.length_take]; omega
 have hwt2 : ws.take i = dropN n xs := hwt
 rw [hwt2] at hsp2 ⊢
 refine go [7,8,9,10,0,0] ?_
 refine G.op rfl (G.val rfl rfl (pv_subH (sz := 4) Tryz.underlying73 kr rfl rfl rfl (by omega)) ?_)
 refine go [1,7,8,11] ?_
 refine G.ownOf (sz := 4) (k := i) (cs := (dropN n xs).flatMap snC) (sp := sp2) (cap := cap) selT (by rw [rows_len snC_len, hfl]) (by omega) hmx (by rw [hsp2, List.length_append, rows_len snC_len, hwl]; rw [List.length_append, rows_len snC_len] at hl; exact hl) ?_
 rw [hfl]
 exact G.doneX1 (.slice (some ⟨g, 0, none⟩) i cap) trT rfl rfl rfl subT
set_option maxRecDepth 20000 in
set_option maxHeartbeats 4000000 in
theorem sdrop_tr (zb : Nat) (v : Value) (zg : Int) (xs : List ST) (n : Int) (hone : ∀ s ∈ xs, s.v.oneCell' = true) : Tr Tryz.prog 46 #[.pointer (some ⟨zb, 0, none⟩), .int .i64 n] [] [blk zb 77 [v, .int .i64 zg], own 79 4 v xs.length (xs.flatMap snC)]
 (TX (fun _ : Value => True) (fun _ => .tuple #[]) (fun x => [blk zb 77 [x, .int .i64 zg], own 79 4 x (dropN n xs).length ((dropN n xs).flatMap snC)])) := by
 refine Tr.of (l := [(0, .pointer (some ⟨zb, 0, none⟩)), (1, .int .i64 n)]) Tryz.func46 rfl (n := 13) rfl (.cons rfl (.cons rfl .nil)) (fun w0 hro => ?_)
 refine go [9,10,60,3] ?_
 intro b3
 refine go [7,8,10,0,0,2,8,2,3,0,2,4,2,26] ?_
 refine G.op rfl (G.cS rfl rfl rfl rfl Tryz.func61 rfl rfl subT (may1 Y1) (sdel_tr v xs b3 n hone) apT ?_)
 intro x10 hJ
 try dsimp only at hJ
 try dsimp only
 refine G.ownFact (v := x10) selT (fun hx' _ => ?_)
 refine go [2,8,2,3,0,21,7] ?_
 exact G.doneXE (x10) trT rfl rfl subT
set_option maxRecDepth 20000 in
set_option maxHeartbeats 4000000 in
theorem sat_tr {Ps : Nat → Prop} (zb : Nat) (v : Value) (zg : Int) (xs : List ST) (n : Int) (hone : ∀ s ∈ xs, s.v.oneCell' = true) : Tr Tryz.prog 50 #[.pointer (some ⟨zb, 0, none⟩), .int .i64 n] [blk zb 77 [v, .int .i64 zg], slc rSn Ps v xs] []
 (T0 (.int .i64 (if idxN n xs = xs.length then -1 else (idxN n xs : Int)))) := by
 refine Tr.of (l := [(0, .pointer (some ⟨zb, 0, none⟩)), (1, .int .i64 n)]) Tryz.func50 rfl (n := 11) rfl (.cons rfl (.cons rfl .nil)) (fun w0 hro => ?_)
 obtain ⟨hbz, hsl⟩ := ro2 hro
 refine go [9,10,60,3] ?_
 intro b3
 refine go [1,7,8,9,10,0,2,8,2,3,0,2,4,2,26] ?_
 refine G.op rfl (G.cR rfl rfl rfl rfl Tryz.func65 rfl rfl (may2 (.old hsl) (Sel.may selT)) (sidx_at_tr v xs b3 n hone) ?_)
 refine go [1,7,8,11] ?_
 exact G.done0G rfl (Rv.tmp rfl Rv.nil) Y8
theorem mset_same {κ : Type} [DecidableEq κ] {l : List (κ × Value)} {k : κ} {v : Value} (h : mget l k = some v) : mset l k v = l := by
 induction l with
 | nil => cases h
 | cons p l ih =>
  obtain ⟨a, u⟩ := p
  rw [mget] at h
  unfold mset
  by_cases h1 : a = k
  ·rw [if_pos h1] at h ⊢
   injection h with h
   rw [h, h1]
  rw [if_neg h1] at h ⊢
  rw [ih h]
def cutS (n : Int) (l : List Sp) : List Sp := l.filter fun s => ! decide (s.n = n)
theorem cut_sps (n : Int) (xs : List ST) : sps (dropN n xs) = cutS n (sps xs) := by
 unfold sps dropN cutS
 rw [List.filter_map]
 rfl
def forM (pm : PM) (c n : Int) : Int × PM := if n < 1 ∨ (plGet pm c).1 < n then (6, pm) else (0, plSet pm c ((plGet pm c).1, cutS n (plGet pm c).2))
theorem forM_no {pm : PM} {c n : Int} (h : n < 1 ∨ (plGet pm c).1 < n) : forM pm c n = (6, pm) := if_pos h
theorem forM_yes {pm : PM} {c n : Int} (h : ¬ (n < 1 ∨ (plGet pm c).1 < n)) : forM pm c n = (0, plSet pm c ((plGet pm c).1, cutS n (plGet pm c).2)) := if_neg h
theorem plGet_in {pm : PM} {c : Int} (h : 0 < (plGet pm c).1) : (c, plGet pm c) ∈ pm := by
 induction pm with
 | nil => exact absurd h (by show ¬ (0 : Int) < 0; decide)
 | cons p pm ih =>
  obtain ⟨k, z⟩ := p
  rw [plGet] at h ⊢
  split at h
  ·rename_i e
   subst e
   simp
  rename_i e
  rw [if_neg e]
  exact List.mem_cons_of_mem _ (ih h)
def getM (pm : PM) (c n : Int) : List En × Int := match (plGet pm c).2.find? fun s => decide (s.n = n) with
 | some s => (s.l, 0)
 | none => ([], 6)
theorem getM_no {pm : PM} {c n : Int} {g : Int} {xs : List ST} (hp : plGet pm c = (g, sps xs)) (h : idxN n xs = xs.length) : getM pm c n = ([], 6) := by
 have e : (plGet pm c).2.find? (fun s => decide (s.n = n)) = none := by
  rw [hp]
  refine List.find?_eq_none.2 fun s hs => ?_
  obtain ⟨t, ht, rfl⟩ := List.mem_map.1 hs
  obtain ⟨q, hq, rfl⟩ := List.getElem_of_mem ht
  exact fun e => idxN_lt h q hq hq (of_decide_eq_true e)
 unfold getM
 rw [e]
theorem getM_at {pm : PM} {c n : Int} {g : Int} {xs : List ST} {k : Nat} (hp : plGet pm c = (g, sps xs)) (h : idxN n xs = k) (hk : k < xs.length) : getM pm c n = (ens xs[k].l, 0) := by
 have e : (plGet pm c).2.find? (fun s => decide (s.n = n)) = some xs[k].pl := by
  rw [hp]
  refine List.find?_eq_some_iff_getElem.2 ⟨decide_eq_true (idxN_is h hk), k, by rw [sps_length]; exact hk, by simp [sps], fun j hj => ?_⟩
  have := idxN_lt h j (by omega) hj
  simpa [sps, ST.pl] using this
 unfold getM
 rw [e]
 rfl
set_option maxRecDepth 20000 in
set_option maxHeartbeats 4000000 in
theorem mforget_tr (Dm bm : Nat) (st : MS) (c n : Int) (hok : okM (plM st)) (hc : I64 c) : Tr Tryz.prog 19 #[.pointer (some ⟨Dm, 0, none⟩), .int .i64 c, .int .i64 n] [] [blk Dm 43 [.map (some bm)], mpc vInt I64 bm (ptrs st), clis st]
 (TX (fun st' : MS => plM st' = (forM (plM st) c n).2) (fun _ => .int .i64 (forM (plM st) c n).1) (fun st' => [blk Dm 43 [.map (some bm)], mpc vInt I64 bm (ptrs st'), clis st'])) := by
 refine Tr.of (l := [(0, .pointer (some ⟨Dm, 0, none⟩)), (1, .int .i64 c), (2, .int .i64 n)]) Tryz.func19 rfl (n := 28) rfl (.cons rfl (.cons rfl (.cons rfl .nil))) (fun w0 hro => ?_)
 refine go [9,10,1,7,8,9,9,10,0] ?_
 refine G.op rfl (G.cS rfl rfl rfl rfl Tryz.func35 rfl rfl subT may0 (none_tr _ _) apT ?_)
 intro x9 hJ
 try dsimp only at hJ
 try dsimp only
 refine go [7,8,60,0,13,8,9,10,0,0] ?_
 refine G.op rfl (G.cS rfl rfl rfl rfl Tryz.func37 rfl rfl subT may0 (of_tr _ _ _ _ (by assumption)) apT ?_)
 intro x12 hJ
 obtain ⟨zb, zv, zg, zs⟩ := x12
 try dsimp only at hJ
 try dsimp only
 have hz : IsCl st c ⟨zb, zv, zg, zs⟩ := hJ
 have hpl : plGet (plM st) c = (zg, sps zs) := hz.pl
 have hokc := hok.get c
 rw [hpl] at hokc
 obtain ⟨⟨hg1, hg2⟩, hsl, hss⟩ := hokc
 have hsl : zs.length ≤ 64 := by rw [← sps_length]; exact hsl
 refine G.cliOpen selT ?_
 refine G.treesOne selT (fun hone => ?_)
 refine G.ownFact (v := zv) selT (fun hzv1 _ => ?_)
 refine go [1,7,8,9,9] ?_
 refine G.cutK (X := Unit) (ts := [2, 6, 7]) (p := []) (fun _ => True) (fun _ => [(22, .bool (decide (n < 1 ∨ zg < n)))]) (fun _ => []) (.cons rfl (.cons rfl (.cons rfl .nil))) subT (.cons .nil) apT ?_ ?_
 ·refine go [10,0,2,9,0] ?_
  refine G.partP (t := 15) rfl (fun h15 => ?_) (fun h15 => ?_)
  ·refine go [4,4,4,4,4,4,2,2,7] ?_
   exact G.meet (()) trT (.consE rfl Y5 (.cons rfl (.cons rfl (.cons rfl .nil)))) subT
  refine go [3,0,3,0,3,8,3,3,1,3,4,3,10,2,2,7] ?_
  exact G.meet (()) trT (.consE rfl Y5 (.cons rfl (.cons rfl (.cons rfl .nil)))) subT
 intro _ hJ
 try dsimp only at hJ
 try dsimp only
 refine G.condP rfl (fun h22 => ?_) (fun h22 => ?_)
 ·have hno : n < 1 ∨ (plGet (plM st) c).1 < n := by rw [hpl]; assumption
  refine go [9,10,1,7,8,11,12] ?_
  rw [forM_no hno]
  refine G.cliMk (zb := zb) (zv := zv) (zg := zg) (zs := zs) subT ?_
  refine G.cliBack hz selT selT ?_
  exact G.doneX1 (st) Y7 rfl rfl rfl subT
 have hyes : ¬ (n < 1 ∨ (plGet (plM st) c).1 < n) := by rw [hpl]; assumption
 have hzs : stGet st c = some ⟨zb, zv, zg, zs⟩ := by rcases hz with h | ⟨_, _, h, _⟩; exact h; exfalso; rw [hpl] at hyes; replace h : zg = 0 := h; subst h; exact hyes (by show n < 1 ∨ (0 : Int) < n; omega)
 refine go [13,8,9,10,0,2,8,2,3,0,0] ?_
 refine G.op rfl (G.cS rfl rfl rfl rfl Tryz.func46 rfl rfl subT may0 (sdrop_tr zb zv zg zs n hone) apT ?_)
 intro x27 hJ
 try dsimp only at hJ
 try dsimp only
 refine go [7,8,9,10,1,7,8,11] ?_
 rw [forM_yes hyes]
 refine G.treesDrop (p := keepN n) selT ?_
 rw [show zs.filter (keepN n) = dropN n zs from rfl]
 refine G.cliMk (zb := zb) (zv := x27) (zg := zg) (zs := dropN n zs) subT ?_
 refine G.cliIn (st := st) (c := c) (z := ⟨zb, x27, zg, dropN n zs⟩) selT selT ?_
 rw [show ptrs st = ptrs (stSet st c ⟨zb, x27, zg, dropN n zs⟩) from (by rw [ptrs_set st c ⟨zb, x27, zg, dropN n zs⟩ hz.b]; exact (mset_same (by rw [ptrs_get, hzs]; rfl)).symm)]
 exact G.doneX1 (stSet st c ⟨zb, x27, zg, dropN n zs⟩) (by first | exact trivial | ((try dsimp only) <;> exact (by rw [pl_set, hpl]; show plSet _ _ (zg, sps (dropN n zs)) = _; rw [cut_sps]))) rfl rfl rfl subT
set_option maxRecDepth 20000 in
set_option maxHeartbeats 4000000 in
theorem mget_tr (Dm bm : Nat) (st : MS) (c n : Int) (hok : okM (plM st)) (hc : I64 c) : Tr Tryz.prog 24 #[.pointer (some ⟨Dm, 0, none⟩), .int .i64 c, .int .i64 n] [] [blk Dm 43 [.map (some bm)], mpc vInt I64 bm (ptrs st), clis st]
 (TX (fun z : Value × List ET => ens z.2 = (getM (plM st) c n).1) (fun z => .tuple #[z.1, .int .i64 (getM (plM st) c n).2]) (fun z => [ownT 69 z.1 z.2, datC 5 z.2, blk Dm 43 [.map (some bm)], mpc vInt I64 bm (ptrs st), clis st])) := by
 refine Tr.of (l := [(0, .pointer (some ⟨Dm, 0, none⟩)), (1, .int .i64 c), (2, .int .i64 n)]) Tryz.func24 rfl (n := 32) rfl (.cons rfl (.cons rfl (.cons rfl .nil))) (fun w0 hro => ?_)
 refine go [9,10,1,1,7,8,9,9,10,0] ?_
 refine G.op rfl (G.cS rfl rfl rfl rfl Tryz.func35 rfl rfl subT may0 (none_tr _ _) apT ?_)
 intro x11 hJ
 try dsimp only at hJ
 try dsimp only
 refine go [7,8,60,0,13,8,9,10,0,0] ?_
 refine G.op rfl (G.cS rfl rfl rfl rfl Tryz.func37 rfl rfl subT may0 (of_tr _ _ _ _ (by assumption)) apT ?_)
 intro x14 hJ
 obtain ⟨zb, zv, zg, zs⟩ := x14
 try dsimp only at hJ
 try dsimp only
 have hz : IsCl st c ⟨zb, zv, zg, zs⟩ := hJ
 have hpl : plGet (plM st) c = (zg, sps zs) := hz.pl
 have hokc := hok.get c
 rw [hpl] at hokc
 obtain ⟨⟨hg1, hg2⟩, hsl, hss⟩ := hokc
 have hsl : zs.length ≤ 64 := by rw [← sps_length]; exact hsl
 refine G.cliOpen selT ?_
 refine G.treesOne selT (fun hone => ?_)
 refine G.ownFact (v := zv) selT (fun hzv1 _ => ?_)
 refine G.ownNews (v := zv) selT (fun za zc zk hzv hkz hmz hadz hnilz hnewz => ?_)
 subst hzv
 refine go [1,7,8,9,10,0,2,8,2,3,0,0] ?_
 refine G.op rfl (G.cR rfl rfl rfl rfl Tryz.func50 rfl rfl (may2 Y1 Y1) (sat_tr (Ps := fun b => (Value.slice za zs.length zc).ownBlock = some b) zb (.slice za zs.length zc) zg zs n hone) ?_)
 obtain ⟨k, hk0⟩ : ∃ k, idxN n zs = k := ⟨_, rfl⟩
 have hkle := idxN_le n zs
 have hno := fun (h : k = zs.length) => getM_no (c := c) hpl (hk0.trans h)
 have hyes := fun (h : k < zs.length) => getM_at (c := c) hpl hk0 h
 rw [hk0] at hkle ⊢
 refine go [1,7,8,9,9,10,0,2,9,7,8] ?_
 refine G.condP rfl (fun h21 => ?_) (fun h21 => ?_)
 ·have hkk : k = zs.length := by by_cases h : k = zs.length; exact h; rw [if_neg h] at h21; omega
  refine go [9,10,1,1,7,8,11,12] ?_
  refine G.datNil 5 ?_
  refine G.ownNil 69 5 ?_
  refine G.cliMk (zb := zb) (zv := .slice za zs.length zc) (zg := zg) (zs := zs) subT ?_
  refine G.cliBack hz selT selT ?_
  exact G.doneX2 ((.slice none 0 0, [])) (by first | exact trivial | ((try dsimp only) <;> exact (by rw [hno hkk]; rfl))) rfl rfl rfl (by rw [hno hkk]) subT
 have hkk : ¬ k = zs.length := fun h => h21 (by rw [if_pos h]; decide)
 have hlt : k < zs.length := by omega
 rw [if_neg hkk]
 obtain ⟨-, -, -, hsl, hsok⟩ := hss _ (by show zs[k].pl ∈ sps zs; exact List.mem_map_of_mem (List.getElem_mem hlt))
 have hsl2 : zs[k].l.length ≤ 200 := by rw [← ens_length]; exact hsl
 refine go [13,8,9,10,0,2,8,2,3,0,2,3,0,2,4,0] ?_
 refine G.op rfl (G.val rfl rfl (pv_ixSl (sz := 4) (k := k) Tryz.underlying73 kr rfl rfl hadz (by omega) (by omega)) ?_)
 refine go [2,3,3] ?_
 refine G.op rfl (G.val rfl rfl (pv_load (v := zs[k].v) Tryz.underlying32 rfl rfl (fun w hw => news_row snC_len (hnewz selT w hw) hlt 3 _ rfl)) ?_)
 refine G.treeOut hlt selT ?_
 refine G.op rfl (G.cS rfl rfl rfl rfl Tryz.func38 rfl rfl subT (may1 (may_tree selT selT (fun x hx => hsok _ (List.mem_map_of_mem hx)))) (mclone_tr _ zs[k].l (by omega)) apT ?_)
 intro x31 hJ
 obtain ⟨v', ys⟩ := x31
 try dsimp only at hJ
 try dsimp only
 have hys : ens ys = ens zs[k].l := hJ
 refine go [1,1,7,8,11] ?_
 refine G.treeIn hlt selT selT selT ?_
 refine G.cliMk (zb := zb) (zv := .slice za zs.length zc) (zg := zg) (zs := zs) subT ?_
 refine G.cliBack hz selT selT ?_
 exact G.doneX2 ((v', ys)) (by first | exact trivial | ((try dsimp only) <;> exact (by rw [hyes hlt, hys]))) rfl rfl rfl (by rw [hyes hlt]) subT
end Go.Proofs.YtakeannapfaodaaGreat
namespace Go.Proofs
open Go.Shelf
def Tryz.keysI_ren : Go.Shelf.Ren := ⟨fun | 7 => 52 | 10 => 69 | n => n, fun | 23 => 41 | 26 => 3 | 3 => 71 | 28 => 98 | 0 => 0 | 27 => 97 | 33 => 40 | 4 => 4 | n => n, fun | n => n⟩
theorem Tryz.keysI : Go.Proofs.SlLaysZI.n7 Tryz.prog Tryz.keysI_ren := {
  mixed := by kernel_rfl
  f7 := ⟨Tryz.f52.name, by decide, Tryz.func52.trans (congrArg some (by kernel_rfl))⟩
  f10 := ⟨Tryz.f69.name, by decide, Tryz.func69.trans (congrArg some (by kernel_rfl))⟩
  t0 := Tryz.underlying0
  a0 := Tryz.isAgg0
  z0 := Tryz.sizeOf0
  v0 := Tryz.zeroValue0
  t4 := Tryz.underlying4
  a4 := Tryz.isAgg4
  z4 := Tryz.sizeOf4
  v4 := Tryz.zeroValue4
  t23 := Tryz.underlying41
  a23 := Tryz.isAgg41
  z23 := Tryz.sizeOf41
  v23 := Tryz.zeroValue41
  t26 := Tryz.underlying3
  a26 := Tryz.isAgg3
  z26 := Tryz.sizeOf3
  v26 := Tryz.zeroValue3
  t27 := Tryz.underlying97
  a27 := Tryz.isAgg97
  z27 := Tryz.sizeOf97
  v27 := Tryz.zeroValue97
  t28 := Tryz.underlying98
  a28 := Tryz.isAgg98
  z28 := Tryz.sizeOf98
  v28 := Tryz.zeroValue98
  t33 := Tryz.underlying40
  a33 := Tryz.isAgg40
  z33 := Tryz.sizeOf40
  v33 := Tryz.zeroValue40 }
def Tryz.sortedI_ren : Go.Shelf.Ren := ⟨fun | 6 => 51 | 8 => 67 | 9 => 68 | 11 => 84 | 13 => 86 | 12 => 85 | 23 => 111 | 24 => 112 | 14 => 102 | 15 => 103 | 16 => 104 | 17 => 105 | 18 => 106 | 19 => 107 | 20 => 108 | 21 => 109 | 22 => 110 | 25 => 120 | 26 => 121 | 27 => 122 | 28 => 123 | 29 => 124 | 30 => 125 | 31 => 129 | n => n, fun | 26 => 3 | 28 => 98 | 24 => 53 | 0 => 0 | 3 => 3 | 37 => 128 | 48 => 148 | 50 => 150 | 4 => 4 | 40 => 142 | 39 => 141 | 45 => 115 | 5 => 5 | 9 => 9 | 51 => 157 | 55 => 161 | 57 => 164 | 58 => 165 | 33 => 40 | n => n, fun | n => n⟩
theorem Tryz.sortedI : Go.Proofs.SlLaysZI.n6 Tryz.prog Tryz.sortedI_ren := {
  mixed := by kernel_rfl
  f6 := ⟨Tryz.f51.name, by decide, Tryz.func51.trans (congrArg some (by kernel_rfl))⟩
  f8 := ⟨Tryz.f67.name, by decide, Tryz.func67.trans (congrArg some (by kernel_rfl))⟩
  f11 := ⟨Tryz.f84.name, by decide, Tryz.func84.trans (congrArg some (by kernel_rfl))⟩
  t0 := Tryz.underlying0
  a0 := Tryz.isAgg0
  z0 := Tryz.sizeOf0
  v0 := Tryz.zeroValue0
  t24 := Tryz.underlying53
  a24 := Tryz.isAgg53
  z24 := Tryz.sizeOf53
  v24 := Tryz.zeroValue53
  t26 := Tryz.underlying3
  a26 := Tryz.isAgg3
  z26 := Tryz.sizeOf3
  v26 := Tryz.zeroValue3
  t28 := Tryz.underlying98
  a28 := Tryz.isAgg98
  z28 := Tryz.sizeOf98
  v28 := Tryz.zeroValue98
  i26 := by kernel_rfl }
def Tryz.sortI_ren : Go.Shelf.Ren := ⟨fun | 5 => 68 | 8 => 86 | 7 => 85 | 19 => 111 | 20 => 112 | 10 => 102 | 11 => 103 | 12 => 104 | 13 => 105 | 14 => 106 | 15 => 107 | 16 => 108 | 17 => 109 | 18 => 110 | 30 => 120 | 31 => 121 | 32 => 122 | 33 => 123 | 34 => 124 | 35 => 125 | 40 => 129 | n => n, fun | 23 => 53 | 25 => 3 | 3 => 3 | 32 => 128 | 22 => 53 | 0 => 0 | 44 => 148 | 46 => 150 | 4 => 4 | 36 => 142 | 35 => 141 | 41 => 115 | 5 => 5 | 9 => 9 | 53 => 157 | 57 => 161 | 63 => 164 | 64 => 165 | n => n, fun | n => n⟩
theorem Tryz.sortI : Go.Proofs.SlLaysM.n5 Tryz.prog Tryz.sortI_ren := {
  mixed := by kernel_rfl
  f5 := ⟨Tryz.f68.name, by decide, Tryz.func68.trans (congrArg some (by kernel_rfl))⟩
  f7 := ⟨Tryz.f85.name, by decide, Tryz.func85.trans (congrArg some (by kernel_rfl))⟩
  f8 := Tryz.func86.trans (congrArg some (by kernel_rfl))
  f10 := ⟨Tryz.f102.name, by decide, Tryz.func102.trans (congrArg some (by kernel_rfl))⟩
  f11 := ⟨Tryz.f103.name, by decide, Tryz.func103.trans (congrArg some (by kernel_rfl))⟩
  f12 := ⟨Tryz.f104.name, by decide, Tryz.func104.trans (congrArg some (by kernel_rfl))⟩
  f13 := ⟨Tryz.f105.name, by decide, Tryz.func105.trans (congrArg some (by kernel_rfl))⟩
  f14 := ⟨Tryz.f106.name, by decide, Tryz.func106.trans (congrArg some (by kernel_rfl))⟩
  f15 := ⟨Tryz.f107.name, by decide, Tryz.func107.trans (congrArg some (by kernel_rfl))⟩
  f16 := ⟨Tryz.f108.name, by decide, Tryz.func108.trans (congrArg some (by kernel_rfl))⟩
  f17 := ⟨Tryz.f109.name, by decide, Tryz.func109.trans (congrArg some (by kernel_rfl))⟩
  f18 := ⟨Tryz.f110.name, by decide, Tryz.func110.trans (congrArg some (by kernel_rfl))⟩
  f19 := Tryz.func111.trans (congrArg some (by kernel_rfl))
  f20 := Tryz.func112.trans (congrArg some (by kernel_rfl))
  f30 := ⟨Tryz.f120.name, by decide, Tryz.func120.trans (congrArg some (by kernel_rfl))⟩
  f31 := Tryz.func121.trans (congrArg some (by kernel_rfl))
  f32 := Tryz.func122.trans (congrArg some (by kernel_rfl))
  f33 := ⟨Tryz.f123.name, by decide, Tryz.func123.trans (congrArg some (by kernel_rfl))⟩
  f34 := ⟨Tryz.f124.name, by decide, Tryz.func124.trans (congrArg some (by kernel_rfl))⟩
  f35 := ⟨Tryz.f125.name, by decide, Tryz.func125.trans (congrArg some (by kernel_rfl))⟩
  f40 := ⟨Tryz.f129.name, by decide, Tryz.func129.trans (congrArg some (by kernel_rfl))⟩
  t0 := Tryz.underlying0
  a0 := Tryz.isAgg0
  z0 := Tryz.sizeOf0
  v0 := Tryz.zeroValue0
  t3 := Tryz.underlying3
  a3 := Tryz.isAgg3
  z3 := Tryz.sizeOf3
  v3 := Tryz.zeroValue3
  t4 := Tryz.underlying4
  a4 := Tryz.isAgg4
  z4 := Tryz.sizeOf4
  v4 := Tryz.zeroValue4
  t5 := Tryz.underlying5
  a5 := Tryz.isAgg5
  z5 := Tryz.sizeOf5
  v5 := Tryz.zeroValue5
  t9 := Tryz.underlying9
  a9 := Tryz.isAgg9
  z9 := Tryz.sizeOf9
  v9 := Tryz.zeroValue9
  t22 := Tryz.underlying53
  a22 := Tryz.isAgg53
  z22 := Tryz.sizeOf53
  v22 := Tryz.zeroValue53
  t23 := Tryz.underlying53
  a23 := Tryz.isAgg53
  z23 := Tryz.sizeOf53
  v23 := Tryz.zeroValue53
  t25 := Tryz.underlying3
  a25 := Tryz.isAgg3
  z25 := Tryz.sizeOf3
  v25 := Tryz.zeroValue3
  t32 := Tryz.underlying128
  a32 := Tryz.isAgg128
  z32 := Tryz.sizeOf128
  v32 := Tryz.zeroValue128
  t35 := Tryz.underlying141
  a35 := Tryz.isAgg141
  z35 := Tryz.sizeOf141
  v35 := Tryz.zeroValue141
  t36 := Tryz.underlying142
  a36 := Tryz.isAgg142
  z36 := Tryz.sizeOf142
  v36 := Tryz.zeroValue142
  t41 := Tryz.underlying115
  a41 := Tryz.isAgg115
  z41 := Tryz.sizeOf115
  v41 := Tryz.zeroValue115
  t44 := Tryz.underlying148
  a44 := Tryz.isAgg148
  z44 := Tryz.sizeOf148
  v44 := Tryz.zeroValue148
  t46 := Tryz.underlying150
  a46 := Tryz.isAgg150
  z46 := Tryz.sizeOf150
  v46 := Tryz.zeroValue150
  t53 := Tryz.underlying157
  a53 := Tryz.isAgg157
  z53 := Tryz.sizeOf157
  v53 := Tryz.zeroValue157
  t57 := Tryz.underlying161
  a57 := Tryz.isAgg161
  z57 := Tryz.sizeOf161
  v57 := Tryz.zeroValue161
  t63 := Tryz.underlying164
  a63 := Tryz.isAgg164
  z63 := Tryz.sizeOf164
  v63 := Tryz.zeroValue164
  t64 := Tryz.underlying165
  a64 := Tryz.isAgg165
  z64 := Tryz.sizeOf165
  v64 := Tryz.zeroValue165 }
end Go.Proofs
namespace Go.Proofs.YtakeannapfaodaaGreat
open Go.RowKit
set_option linter.unusedVariables false
set_option linter.unusedSimpArgs false
theorem hp_new {w w' : World} {S : Nat → Prop} {e sz k : Nat} {v : Value} {cs : List Value} (h : w'.ownsRow w.heap.size e sz v k cs) (hb : Below w.heap.size w w') : Hp w S w' [own e sz v k cs] := by
 refine ⟨(Chg.none_of_below hb).mono fun b hb => hb.elim, fun c hc => ?_, fun c hc b hbb => ?_, by simp⟩
 ·obtain rfl : c = _ := by simpa using hc
  exact ownsRow_base_a h (Nat.zero_le _)
 obtain rfl : c = _ := by simpa using hc
 rcases h.2 with ⟨rfl, _⟩ | ⟨g, cap, cur, rfl, hg, hh, _⟩
 ·cases hbb
 have e1 : some g = some b := hbb
 injection e1 with e1
 subst e1
 exact ⟨.inr hg, (Array.getElem?_eq_some_iff.1 hh).1⟩
def keyZ : Value → Int
 | .int _ a => a
 | _ => 0
def keysM (l : List Int) : List Int := l.mergeSort fun x y => decide (x ≤ y)
theorem keysM_perm (l : List Int) : (keysM l).Perm l := List.mergeSort_perm ..
abbrev R9 : Value → Option (DataW Unit × List MemPlace) := fun _ => some (.lit (.bool true), [])
theorem owns9 {w : World} {b clock : Nat} {es : Array MapEntry} {l : List (Int × Value)} (hb : w.heap[b]? = some (.map es clock)) (hi : MapIs vInt I64 es l) (hs : Go.MapKept.Stamped es clock) (hl : l.length ≤ 1000000) :
 ∃ D : DataW Unit, w.ownsMap Tryz.prog 3 R9 b es.size D ∧ Go.Maps.size D ≤ 1000000 ∧ (Go.intKeys D).Perm (l.map (·.1)) := by
 have hsz : es.size = l.length := by
  have := congrArg List.length hi.eq
  simpa using this
 have hk : ∀ x ∈ es.toList, ∃ a, I64 a ∧ x.key = vInt a := fun x hx => by
  obtain ⟨a, ha, e⟩ := hi.mem hx
  exact ⟨a, hi.ok _ ha, e.symm⟩
 have hr : ∀ x ∈ es.toList, ∀ a, I64 a → x.key = vInt a → Go.WideElems.rd Tryz.prog 3 R9 x = some (.int .i64 a, .lit (.bool true)) := fun x hx a ha e => by
  have hkk : keyOf Tryz.prog 3 x.key = some (.int .i64 a) := by
   rw [e]
   exact Go.Maps.keyOf_int_mk Tryz.underlying3 (by simp only [Lit.wf, Bool.and_eq_true, decide_eq_true_eq]; exact ⟨ha.1, ha.2⟩)
  obtain ⟨key, val, born⟩ := x
  exact Go.WideElems.rd_mk (R := R9) (yv := (.lit (.bool true), [])) hkk rfl
 refine ⟨.map ((es.toList.map (Go.WideElems.rg Tryz.prog 3 R9)).foldr DataW.insert []), ⟨es, clock, hb, ⟨by rw [hsz]; unfold maxLen; omega, hs, fun x hx => ?_⟩, Nat.le_refl _, rfl⟩, ?_, ?_⟩
 ·obtain ⟨a, ha, e⟩ := hk x hx
  exact ⟨_, hr x hx a ha e⟩
 ·show (List.foldr DataW.insert [] (es.toList.map (Go.WideElems.rg Tryz.prog 3 R9))).length ≤ _
  rw [(Go.WideShapes.sorted_perm _).length_eq, List.length_map, Array.length_toList, hsz]
  exact hl
 have h1 : (es.toList.map (Go.WideElems.rg Tryz.prog 3 R9)).map (fun p : Lit × DataW Unit => Go.intOf p.1) = l.map (·.1) := by
  have h0 : ∀ x ∈ es.toList, (fun p : Lit × DataW Unit => Go.intOf p.1) (Go.WideElems.rg Tryz.prog 3 R9 x) = keyZ x.key := fun x hx => by
   obtain ⟨a, ha, e⟩ := hk x hx
   have h2 := Go.WideElems.rg_of (hr x hx a ha e)
   have h3 : keyZ x.key = a := by rw [e]; rfl
   exact (congrArg (fun p : Lit × DataW Unit => Go.intOf p.1) h2).trans h3.symm
  generalize Go.WideElems.rg Tryz.prog 3 R9 = G at h0
  have h4 := congrArg (fun q : List (Value × Value) => q.map fun p => keyZ p.1) hi.eq
  simp only [List.map_map] at h4
  rw [List.map_map]
  refine (List.map_congr_left (g := fun x : MapEntry => keyZ x.key) fun x hx => h0 x hx).trans (h4.trans ?_)
  exact List.map_congr_left fun p _ => rfl
 exact ((Go.WideShapes.sorted_perm _).map fun p : Lit × DataW Unit => Go.intOf p.1).trans (List.Perm.of_eq h1)
theorem sorts9 (m : Nat) : AnyZI.SortsIn Tryz.prog Tryz.sortedI_ren Fence.wide m :=
 ⟨fun blk off cap ss W hH hblk hsz => callsIn_wide.2 (AnyM.slices_Sort_int Tryz.sortI blk off cap ss W hH hblk hsz),
  fun p cap W => callsIn_wide.2 (AnyM.slices_Sort_int_none Tryz.sortI p cap W)⟩
theorem keys_tr (bm : Nat) : Tr Tryz.prog 52 #[.map (some bm)] [] [] (TX (fun _ : Nat => True) (fun g => .func (.func 69) #[] #[.pointer (some ⟨g, 0, none⟩)]) (fun g => [blk g 41 [.map (some bm)]])) := fun w _ hp =>
 ((callsIn_wide (n := 5)).1 (AnyZI.keys_in Tryz.keysI Fence.wide 5 trivial rfl (some bm) w)).mono fun e w' ⟨he, hw⟩ => ⟨_, _, he, ⟨w.heap.size, trivial, rfl, rfl⟩, by rw [hw]; exact hp.alloc [.map (some bm)] 41⟩
theorem sorted_tr (g bm : Nat) (l : List (Int × Value)) (hl : l.length ≤ 1000000) : Tr Tryz.prog 51 #[.func (.func 69) #[] #[.pointer (some ⟨g, 0, none⟩)]] [blk g 41 [.map (some bm)], mpc vInt I64 bm l] []
 (TX (fun _ : Value => True) (fun v => v) (fun v => [own 3 1 v (keysM (l.map (·.1))).length ((keysM (l.map (·.1))).map vInt)])) := fun w hro hp => by
 obtain ⟨h1, h2⟩ := ro2 hro
 obtain ⟨es, clock, hb, hi, hs⟩ : ∃ es clock, w.heap[bm]? = some (.map es clock) ∧ MapIs vInt I64 es l ∧ Go.MapKept.Stamped es clock := h2.1
 obtain ⟨D, hown, hsz, hpm⟩ := owns9 hb hi hs hl
 have hg : w.heap[g]? = some (.cells #[.map (some bm)] 41 (0, 0)) := h1.1
 have hseq := AnyZI.keys_gives (ρ := Tryz.keysI_ren) { Tryz.keysI with } Fence.wide 2 trivial rfl (by omega) g bm es.size D w (Array.getElem?_eq_some_iff.1 hg).1 (by simp [World.cell?, hg]) hown
 have c := AnyZI.sorted_in Tryz.sortedI Fence.wide 5 trivial trivial trivial trivial rfl (by omega) (sorts9 _) (enters_of Tryz.func68 kr rfl) 69 #[.pointer (some ⟨g, 0, none⟩)] trivial (enters_of Tryz.func69 kr rfl) _ _ (Nat.le_trans hsz (by unfold maxLen; omega)) (by omega) w hseq
 refine ((callsIn_wide (n := 5)).1 c).mono fun e w' ⟨v, ss, he, hS, hrow, _, hbl⟩ => ⟨v, _, he, ⟨v, trivial, rfl, rfl⟩, hp_new ?_ hbl⟩
 have e1 : keysM (l.map (·.1)) = ss.mergeSort (fun x y => decide (x ≤ y)) := (mergeSort_of_perm_i (hS.trans hpm)).symm
 rw [e1, List.length_mergeSort]
 exact hrow
theorem ptrs_keys (st : MS) : (ptrs st).map (·.1) = st.map (·.1) := by unfold ptrs; rw [List.map_map]; rfl
theorem plM_keys (st : MS) : (plM st).map (·.1) = st.map (·.1) := by unfold plM; rw [List.map_map]; rfl
theorem ptrs_len (st : MS) : (ptrs st).length = st.length := List.length_map ..
theorem plM_len (st : MS) : (plM st).length = st.length := List.length_map ..
def cliM (pm : PM) : List Int := keysM (pm.map (·.1))
theorem cliM_eq (st : MS) : keysM ((ptrs st).map (·.1)) = cliM (plM st) := by rw [cliM, plM_keys, ptrs_keys]
set_option maxRecDepth 20000 in
set_option maxHeartbeats 4000000 in
theorem clients_tr (Dm bm : Nat) (st : MS) (hl : st.length ≤ 1000000) : Tr Tryz.prog 31 #[.pointer (some ⟨Dm, 0, none⟩)] [] [blk Dm 43 [.map (some bm)], mpc vInt I64 bm (ptrs st), clis st]
 (TX (fun _ : Value => True) (fun v => v) (fun v => [own 3 1 v (cliM (plM st)).length ((cliM (plM st)).map vInt), blk Dm 43 [.map (some bm)], mpc vInt I64 bm (ptrs st), clis st])) := by
 refine Tr.of (l := [(0, .pointer (some ⟨Dm, 0, none⟩))]) Tryz.func31 rfl (n := 11) rfl (.cons rfl .nil) (fun w0 hro => ?_)
 refine go [9,10,1,7,8,9,9,10,0] ?_
 refine G.op rfl (G.cS rfl rfl rfl rfl Tryz.func35 rfl rfl subT may0 (none_tr _ _) apT ?_)
 intro x4 hJ
 try dsimp only at hJ
 try dsimp only
 refine go [7,8,60,0,13,8,9,10,0,2,8,2,3,0,2,4] ?_
 refine G.op rfl (G.cS rfl rfl rfl rfl Tryz.func52 rfl rfl subT may0 (keys_tr bm) apT ?_)
 intro x9 hJ
 try dsimp only at hJ
 try dsimp only
 refine G.op rfl (G.cS rfl rfl rfl rfl Tryz.func51 rfl rfl subT (may2 Y0 Y0) (sorted_tr x9 bm (ptrs st) (by rw [ptrs_len]; exact hl)) apT ?_)
 intro x10 hJ
 try dsimp only at hJ
 try dsimp only
 rw [cliM_eq]
 refine go [1,7,8,11] ?_
 exact G.doneX1 (x10) trT rfl rfl rfl subT
end Go.Proofs.YtakeannapfaodaaGreat
set_option linter.unusedVariables false
set_option linter.unusedSimpArgs false
set_option maxRecDepth 100000
namespace Go.Proofs.YtakeannapfaodaaGreat
abbrev Snap := Int × Int
def withinB (n lo hi : Int) : Bool := decide (lo ≤ n) && decide (n ≤ hi)
def polM (last span spans : Int) : Int := if withinB last 0 64 && withinB spans 0 64 && withinB span 0 2147483647 then 0 else 5
def soundFrom (last : Int) : List Snap → Bool
 | [] => true
 | s :: r => decide (last < s.1) && (decide (s.1 ≤ 2147483647) && withinB s.2 0 2147483647) && soundFrom s.1 r
def soundM (l : List Snap) : Bool := soundFrom 0 l
theorem polM_bounds {last span spans : Int} (h : polM last span spans = 0) : (0 ≤ last ∧ last ≤ 64) ∧ (0 ≤ span ∧ span ≤ 2147483647) ∧ (0 ≤ spans ∧ spans ≤ 64) := by
 unfold polM withinB at h
 split at h
 ·rename_i hh; simp at hh; omega
 omega
def nthLast (last : Int) : List Snap → Int
 | [] => last
 | s :: r => nthLast s.1 r
theorem nthLast_append (last : Int) (l r : List Snap) : nthLast last (l ++ r) = nthLast (nthLast last l) r := by
 induction l generalizing last with
 | nil => rfl
 | cons s l ih => exact ih s.1
theorem soundFrom_append (last : Int) (l r : List Snap) : soundFrom last (l ++ r) = (soundFrom last l && soundFrom (nthLast last l) r) := by
 induction l generalizing last with
 | nil => simp [soundFrom, nthLast]
 | cons s l ih => simp only [List.cons_append, soundFrom, ih, Bool.and_assoc, nthLast]
theorem take_snoc {α : Type} (l : List α) (k : Nat) (h : k < l.length) : l.take (k + 1) = l.take k ++ [l[k]] := List.take_succ_eq_append_getElem h
theorem nthLast_take_succ (l : List Snap) (k : Nat) (h : k < l.length) : nthLast 0 (l.take (k + 1)) = l[k].1 := by
 rw [take_snoc l k h, nthLast_append]; rfl
theorem soundFrom_take_succ (l : List Snap) (k : Nat) (h : k < l.length) : soundFrom 0 (l.take (k + 1)) =
 (soundFrom 0 (l.take k) && (decide (nthLast 0 (l.take k) < l[k].1) && (decide (l[k].1 ≤ 2147483647) && withinB l[k].2 0 2147483647))) := by
 rw [take_snoc l k h, soundFrom_append]; simp [soundFrom]
theorem soundFrom_take (l : List Snap) (k : Nat) (h : soundFrom 0 (l.take k) = false) : soundM l = false := by
 unfold soundM
 rw [← List.take_append_drop k l, soundFrom_append, h]; rfl
theorem soundM_eq (l : List Snap) (k : Nat) (h : l.length ≤ k) : soundM l = soundFrom 0 (l.take k) := by
 rw [List.take_of_length_le h]; rfl
def dcountFrom (p : Int → Bool) : List Int → List Int → Nat
 | _, [] => 0
 | seen, x :: r => (if p x && !seen.contains x then 1 else 0) + dcountFrom p (seen ++ [x]) r
def dcount (p : Int → Bool) (xs : List Int) : Nat := dcountFrom p [] xs
theorem dcountFrom_snoc (p : Int → Bool) (x : Int) (seen xs : List Int) : dcountFrom p seen (xs ++ [x]) = dcountFrom p seen xs + if p x && !(seen ++ xs).contains x then 1 else 0 := by
 induction xs generalizing seen with
 | nil => simp [dcountFrom]
 | cons y r ih =>
  simp only [List.cons_append, dcountFrom, ih, List.append_assoc]
  simp only [List.cons_append, List.nil_append]
  omega
theorem dcount_snoc (p : Int → Bool) (x : Int) (xs : List Int) : dcount p (xs ++ [x]) = dcount p xs + if p x && !xs.contains x then 1 else 0 := by
 have := dcountFrom_snoc p x [] xs
 simpa [dcount] using this
def hasB (xs : List Int) (x : Int) : Bool := xs.contains x
theorem dcount_snoc' (p : Int → Bool) (x : Int) (xs : List Int) : dcount p (xs ++ [x]) = dcount p xs + if p x && !hasB xs x then 1 else 0 := dcount_snoc p x xs
theorem dcount_le (p : Int → Bool) (xs : List Int) : dcount p xs ≤ xs.length := by
 have : ∀ seen, dcountFrom p seen xs ≤ xs.length := by
  induction xs with
  | nil => intro seen; simp [dcountFrom]
  | cons x r ih => intro seen; have := ih (seen ++ [x]); simp only [dcountFrom, List.length_cons]; split <;> omega
 exact this []
def spansOf (l : List Snap) (span : Int) : List Int := l.map (·.2 / span)
def laterM (l : List Snap) (span at_ : Int) : Nat := dcount (fun x => decide (at_ < x)) (spansOf l span)
theorem spansOf_length (l : List Snap) (span : Int) : (spansOf l span).length = l.length := by simp [spansOf]
theorem spansOf_get (l : List Snap) (span : Int) (k : Nat) (h : k < l.length) : (spansOf l span)[k]'(by rw [spansOf_length]; exact h) = l[k].2 / span := by simp [spansOf]
theorem hasB_take_succ (xs : List Int) (x : Int) (m : Nat) (h : m < xs.length) : hasB (xs.take (m + 1)) x = (hasB (xs.take m) x || xs[m] == x) := by
 unfold hasB
 rw [take_snoc xs m h, Bool.eq_iff_iff]
 simp only [List.contains_iff_mem, List.mem_append, List.mem_singleton, Bool.or_eq_true, beq_iff_eq]
 exact ⟨fun h => h.imp id Eq.symm, fun h => h.imp id Eq.symm⟩
def lastIn (l : List Snap) (span : Int) (i : Nat) : Bool := !hasB ((spansOf l span).drop (i + 1)) ((l.getD i (0, 0)).2 / span)
theorem lastIn_eq (l : List Snap) (span : Int) (i : Nat) (h : i < l.length) : lastIn l span i = !hasB ((spansOf l span).drop (i + 1)) (l[i].2 / span) := by simp [lastIn, h]
theorem hasB_true {xs : List Int} {x : Int} (m : Nat) (h : m < xs.length) (hx : xs[m] = x) : hasB xs x = true := by
 unfold hasB; rw [List.contains_iff_mem, ← hx]; exact List.getElem_mem _
def staysM (l : List Snap) (last span spans : Int) (i : Nat) : Bool :=
 decide ((l.length : Int) - 1 - i = 0) || decide ((l.length : Int) - 1 - i < last) ||
  (!decide (span = 0) && (lastIn l span i && decide ((laterM l span ((l.getD i (0, 0)).2 / span) : Int) < spans)))
def toldTo (l : List Snap) (last span spans : Int) (stay : Bool) (k : Nat) : List Int := ((List.range k).filter fun i => staysM l last span spans i == stay).map fun i => (l.getD i (0, 0)).1
def toldM (l : List Snap) (last span spans : Int) (stay : Bool) : List Int := if polM last span spans = 0 then if soundM l then toldTo l last span spans stay l.length else [] else []
def toldE (l : List Snap) (last span spans : Int) : Int := if polM last span spans = 0 then if soundM l then 0 else 2 else 5
theorem toldTo_succ (l : List Snap) (last span spans : Int) (stay : Bool) (k : Nat) (h : k < l.length) :
 toldTo l last span spans stay (k + 1) = toldTo l last span spans stay k ++ if staysM l last span spans k == stay then [l[k].1] else [] := by
 unfold toldTo
 rw [List.range_succ, List.filter_append, List.map_append]
 congr 1
 by_cases hs : staysM l last span spans k == stay
 ·simp [hs, h]
 simp [hs]
theorem soundFrom_bounds {l : List Snap} : ∀ {last : Int}, soundFrom last l = true → ∀ s ∈ l, last < s.1 ∧ s.1 ≤ 2147483647 ∧ 0 ≤ s.2 ∧ s.2 ≤ 2147483647 := by
 induction l with
 | nil => intro last _ s hs; simp at hs
 | cons t r ih =>
  intro last h s hs
  simp [soundFrom, withinB] at h
  rcases List.mem_cons.1 hs with rfl | hs
  ·omega
  have := ih h.2 s hs; omega
theorem soundM_bounds {l : List Snap} (h : soundM l = true) (k : Nat) (hk : k < l.length) : 0 < l[k].1 ∧ l[k].1 ≤ 2147483647 ∧ 0 ≤ l[k].2 ∧ l[k].2 ≤ 2147483647 :=
 soundFrom_bounds h _ (List.getElem_mem hk)
theorem div_bounds (x y : Int) (h0 : 0 ≤ x) (h1 : 1 ≤ y) : 0 ≤ x / y ∧ x / y ≤ x := ⟨Int.ediv_nonneg h0 (by omega), Int.ediv_le_self _ h0⟩
end Go.Proofs.YtakeannapfaodaaGreat
set_option linter.unusedVariables false
set_option linter.unusedSimpArgs false
set_option maxRecDepth 100000
namespace Go.Proofs.YtakeannapfaodaaGreat
open Go.RowKit Go.Maps
theorem dcountFrom_congr {p q : Int → Bool} : ∀ (xs seen : List Int), (∀ x ∈ xs, p x = q x) → dcountFrom p seen xs = dcountFrom q seen xs := by
 intro xs
 induction xs with
 | nil => intro seen _; rfl
 | cons x r ih =>
  intro seen h
  simp only [dcountFrom]
  rw [h x (by simp), ih _ fun y hy => h y (by simp [hy])]
theorem dcount_congr {p q : Int → Bool} (xs : List Int) (h : ∀ x ∈ xs, p x = q x) : dcount p xs = dcount q xs := dcountFrom_congr xs [] h
theorem dcountFrom_step {p q : Int → Bool} (x : Int) (hp : p x = false) (hq : q x = true) (hpq : ∀ y, y ≠ x → p y = q y) : ∀ (xs seen : List Int),
 dcountFrom q seen xs = dcountFrom p seen xs + if xs.contains x && !seen.contains x then 1 else 0 := by
 intro xs
 induction xs with
 | nil => intro seen; simp [dcountFrom]
 | cons y r ih =>
  intro seen
  simp only [dcountFrom]
  rw [ih (seen ++ [y])]
  by_cases hy : y = x
  ·subst hy
   by_cases hs : seen.contains y = true
   ·simp_all
   simp_all; omega
  rw [hpq y hy]
  have e1 : (y :: r).contains x = r.contains x := by
   rw [Bool.eq_iff_iff]; simp only [List.contains_iff_mem, List.mem_cons]; exact ⟨fun h => h.resolve_left (fun e => hy e.symm), .inr⟩
  have e2 : (seen ++ [y]).contains x = seen.contains x := by
   rw [Bool.eq_iff_iff]; simp only [List.contains_iff_mem, List.mem_append, List.mem_singleton]; exact ⟨fun h => h.resolve_right (fun e => hy e.symm), .inl⟩
  rw [e1, e2]; omega
theorem dcount_step {p q : Int → Bool} (x : Int) (xs : List Int) (hx : hasB xs x = true) (hp : p x = false) (hq : q x = true) (hpq : ∀ y, y ≠ x → p y = q y) : dcount q xs = dcount p xs + 1 := by
 have := dcountFrom_step x hp hq hpq xs []
 unfold hasB at hx
 rw [hx] at this
 simpa [dcount] using this
def SetIs (P : Program) (kt : TypeId) (w : World) (b n : Nat) (xs : List Int) : Prop := ∃ D : DataW Unit, w.ownsMap P kt unitElem b n D ∧ ∀ x : Int, Maps.has D (.int .i64 x) = hasB xs x
theorem isKey_int (x : Int) : WideAt.IsKeyLit (.int .i64 x) := trivial
theorem sameKey_int (x y : Int) : (Lit.int .i64 y).sameKey (.int .i64 x) = decide (y = x) := by
 by_cases h : y = x
 ·subst h; rw [WideAt.sameKey_self (isKey_int y)]; simp
 rw [sameKey_ne (by intro e; cases e; exact h rfl)]; simp [h]
theorem SetIs.put {P : Program} {kt : TypeId} {w : World} {b m : Nat} {xs : List Int} {D : DataW Unit} {x : Int} (hD : IsMap D) (h : ∀ x : Int, Maps.has D (.int .i64 x) = hasB xs x)
 (h' : w.ownsMap P kt unitElem b m (D.put (.int .i64 x) (.agg []))) : SetIs P kt w b m (x :: xs) := by
 refine ⟨_, h', fun y => ?_⟩
 by_cases e : y = x
 ·subst e
  rw [has_put_same hD (isKey_int y)]; simp [hasB]
 rw [has_put_other (by intro e'; cases e'; exact e rfl), h]
 unfold hasB
 rw [Bool.eq_iff_iff]; simp only [List.contains_iff_mem, List.mem_cons]
 exact ⟨.inr, fun h => h.resolve_left e⟩
theorem SetIs.congr {P : Program} {kt : TypeId} {w : World} {b n : Nat} {xs ys : List Int} (h : SetIs P kt w b n xs) (e : ∀ x, hasB xs x = hasB ys x) : SetIs P kt w b n ys := by
 obtain ⟨D, h1, h2⟩ := h
 exact ⟨D, h1, fun x => (h2 x).trans (e x)⟩
theorem owns_mapBelow {H : Type} {P : Program} {kt : TypeId} {R : Value → Option (DataW H × List MemPlace)} {w w' : World} {b n B : Nat} {D : DataW H} (h : w.ownsMap P kt R b n D) (hb : Below B w w') (hB : b < B) : w'.ownsMap P kt R b n D := by
 obtain ⟨es, clock, hh, r⟩ := h
 exact ⟨es, clock, by rw [hb.block b hB]; exact hh, r⟩
theorem owns_lt {H : Type} {P : Program} {kt : TypeId} {R : Value → Option (DataW H × List MemPlace)} {w : World} {b n : Nat} {D : DataW H} (h : w.ownsMap P kt R b n D) : b < w.heap.size := by
 obtain ⟨es, clock, hh, r⟩ := h
 rcases Nat.lt_or_ge b w.heap.size with h1 | h1
 ·exact h1
 simp [Array.getElem?_eq_none h1] at hh
theorem SetIs.below {P : Program} {kt : TypeId} {w w' : World} {b n B : Nat} {xs : List Int} (h : SetIs P kt w b n xs) (hb : Below B w w') (hB : b < B) : SetIs P kt w' b n xs := by
 obtain ⟨D, h1, h2⟩ := h
 exact ⟨D, owns_mapBelow h1 hb hB, h2⟩
theorem SetIs.lt {P : Program} {kt : TypeId} {w : World} {b n : Nat} {xs : List Int} (h : SetIs P kt w b n xs) : b < w.heap.size := by
 obtain ⟨D, h1, h2⟩ := h
 exact owns_lt h1
theorem dcount_false (xs : List Int) : dcount (fun _ => false) xs = 0 := by
 have : ∀ seen, dcountFrom (fun _ => false) seen xs = 0 := by
  induction xs with
  | nil => intro seen; rfl
  | cons x r ih => intro seen; simp [dcountFrom, ih]
 exact this []
theorem later_start {at_ : Int} {xs : List Int} {D : DataW Unit} (h : ∀ x : Int, Maps.has D (.int .i64 x) = hasB xs x) : dcount (fun x => decide (at_ < x) && !Maps.has D (.int .i64 x)) xs = 0 := by
 rw [dcount_congr (q := fun _ => false) xs ?_, dcount_false]
 intro x hx
 have : hasB xs x = true := by unfold hasB; rw [List.contains_iff_mem]; exact hx
 simp [h, this]
theorem later_end {at_ : Int} {xs : List Int} {left : Lit → Bool} (h : ∀ kl, left kl = false) : dcount (fun x => decide (at_ < x) && !left (.int .i64 x)) xs = dcount (fun x => decide (at_ < x)) xs :=
 dcount_congr xs fun x _ => by simp [h]
theorem later_step {at_ x : Int} {xs : List Int} {D : DataW Unit} {left : Lit → Bool} {y : DataW Unit} (h : ∀ x : Int, Maps.has D (.int .i64 x) = hasB xs x) (hl : left (.int .i64 x) = true) (hat : ∀ zd, D.atKey (.int .i64 x) zd = y) :
 dcount (fun z => decide (at_ < z) && !(left (.int .i64 z) && !(Lit.int .i64 z).sameKey (.int .i64 x))) xs = dcount (fun z => decide (at_ < z) && !left (.int .i64 z)) xs + if at_ < x then 1 else 0 := by
 have hx : hasB xs x = true := by rw [← h]; exact Maps.has_true_of_atKey hat
 by_cases hlt : at_ < x
 ·rw [if_pos hlt]
  refine dcount_step x xs hx (by simp [hl]) (by simp [hlt, sameKey_int]) fun z hz => ?_
  simp [sameKey_int, hz]
 rw [if_neg hlt]
 refine dcount_congr xs fun z _ => ?_
 by_cases hz : z = x
 ·subst hz; simp [hlt]
 simp [sameKey_int, hz]
def keepB (l : List Snap) (span spans : Int) (i : Nat) : Bool := lastIn l span i && decide ((laterM l span ((l.getD i (0, 0)).2 / span) : Int) < spans)
def outsTo (l : List Snap) (span spans : Int) : Nat → List Int
 | 0 => []
 | c + 1 => if keepB l span spans (l.length - (c + 1)) then (l.getD (l.length - (c + 1)) (0, 0)).1 :: outsTo l span spans c else outsTo l span spans c
def outsM (l : List Snap) (span spans : Int) : List Int := if span = 0 then [] else outsTo l span spans l.length
structure EndsAt (P : Program) (kt : TypeId) (w0 w : World) (B : Nat) (last span spans : Int) (n : Nat) (outs seen sps : List Int) : Prop where
 below : Below B w0 w
 room : B + 5 ≤ w.heap.size
 c0 : w.cell? ⟨B, 0, none⟩ = some (.int .i64 last)
 c1 : w.cell? ⟨B, 1, none⟩ = some (.int .i64 span)
 c2 : w.cell? ⟨B, 2, none⟩ = some (.int .i64 spans)
 box : w.cell? ⟨B + 1 + 1 + 1 + 1, 0, none⟩ = some (.map (some (B + 1 + 1 + 1)))
 outs : SetIs P kt w (B + 1) n outs
 seen : SetIs P kt w (B + 1 + 1) n seen
 sps : SetIs P kt w (B + 1 + 1 + 1) n sps
theorem cell_grown {w w' : World} {row : Option Nat} (hg : w.grownBy w' row) {a : Addr} {v : Value} (h : w.cell? a = some v) (hne : some a.block ≠ row) : w'.cell? a = some v := hg.cell h hne
theorem SetIs.grown {P : Program} {kt : TypeId} {w w' : World} {b n n' : Nat} {xs : List Int} {row : Option Nat} (h : SetIs P kt w b n xs) (hg : w.grownBy w' row) (hne : some b ≠ row) (hn : n ≤ n') : SetIs P kt w' b n' xs := by
 obtain ⟨D, h1, h2⟩ := h
 exact ⟨D, (h1.kept hg hne).mono hn, h2⟩
theorem EndsAt.grown {P : Program} {kt : TypeId} {w0 w w' : World} {B : Nat} {last span spans : Int} {n : Nat} {outs seen sps : List Int} (h : EndsAt P kt w0 w B last span spans n outs seen sps) (hg : w.grownBy w' none) : EndsAt P kt w0 w' B last span spans n outs seen sps :=
 ⟨h.below.grown hg (by have := h.room; omega) (fun _ hk => by cases hk), Nat.le_trans h.room hg.size, cell_grown hg h.c0 (by simp), cell_grown hg h.c1 (by simp), cell_grown hg h.c2 (by simp), cell_grown hg h.box (by simp),
  h.outs.grown hg (by simp) (Nat.le_refl _), h.seen.grown hg (by simp) (Nat.le_refl _), h.sps.grown hg (by simp) (Nat.le_refl _)⟩
theorem EndsAt.drewN {P : Program} {kt : TypeId} {w0 w : World} {B : Nat} {last span spans : Int} {n : Nat} {outs seen sps : List Int} (h : EndsAt P kt w0 w B last span spans n outs seen sps) (k : Nat) : EndsAt P kt w0 (w.drewN k) B last span spans n outs seen sps :=
 h.grown ⟨rfl, rfl, rfl, Nat.le_refl _, fun _ _ _ => rfl⟩
theorem EndsAt.drew {P : Program} {kt : TypeId} {w0 w : World} {B : Nat} {last span spans : Int} {n : Nat} {outs seen sps : List Int} (h : EndsAt P kt w0 w B last span spans n outs seen sps) : EndsAt P kt w0 w.drew B last span spans n outs seen sps :=
 h.grown ⟨rfl, rfl, rfl, Nat.le_refl _, fun _ _ _ => rfl⟩
theorem EndsAt.alloc {P : Program} {kt : TypeId} {w0 w : World} {B : Nat} {last span spans : Int} {n : Nat} {outs seen sps : List Int} (h : EndsAt P kt w0 w B last span spans n outs seen sps) (o : Obj) : EndsAt P kt w0 (w.alloc o) B last span spans n outs seen sps :=
 h.grown (World.grownBy_alloc w o none)
theorem EndsAt.later {P : Program} {kt : TypeId} {w0 w w' : World} {B : Nat} {last span spans : Int} {n : Nat} {outs seen sps : List Int} (h : EndsAt P kt w0 w B last span spans n outs seen sps) (hb : Below w.heap.size w w') : EndsAt P kt w0 w' B last span spans n outs seen sps :=
 h.grown ⟨hb.os, hb.tape, hb.output, hb.size, fun k hk _ => hb.block k hk⟩
theorem hasB_cons (x : Int) (xs : List Int) (y : Int) : hasB (x :: xs) y = (decide (y = x) || hasB xs y) := by
 unfold hasB
 rw [Bool.eq_iff_iff]
 simp [List.contains_iff_mem]
theorem hasB_take_cons {xs : List Int} {m : Nat} (h : m < xs.length) {x : Int} (hx : xs[m] = x) (y : Int) : hasB (x :: xs.take m) y = hasB (xs.take (m + 1)) y := by
 rw [hasB_cons, hasB_take_succ _ _ _ h, hx, Bool.or_comm]
 congr 1
 rw [Bool.eq_iff_iff]; simp; exact eq_comm
theorem hasB_drop_cons {xs : List Int} {m : Nat} (h : m < xs.length) {x : Int} (hx : xs[m] = x) (y : Int) : hasB (x :: xs.drop (m + 1)) y = hasB (xs.drop m) y := by
 rw [List.drop_eq_getElem_cons h, hx]
theorem EndsAt.putSps {P : Program} {kt : TypeId} {w0 w w' : World} {B : Nat} {last span spans : Int} {n : Nat} {outs seen sps sps' : List Int} (h : EndsAt P kt w0 w B last span spans n outs seen sps) {x : Int} {D : DataW Unit} (hD : w.ownsMap P kt unitElem (B + 1 + 1 + 1) n D) (hh : ∀ x : Int, Maps.has D (.int .i64 x) = hasB sps x)
 (h' : w'.ownsMap P kt unitElem (B + 1 + 1 + 1) (n + 1) (D.put (.int .i64 x) (.agg []))) (hg : w.grownBy w' (some (B + 1 + 1 + 1))) (he : ∀ y, hasB (x :: sps) y = hasB sps' y) : EndsAt P kt w0 w' B last span spans (n + 1) outs seen sps' :=
 ⟨h.below.grown hg (by have := h.room; omega) (fun _ hk => by cases hk; omega), Nat.le_trans h.room hg.size, cell_grown hg h.c0 Y14, cell_grown hg h.c1 Y14, cell_grown hg h.c2 Y14, cell_grown hg h.box (by simp),
  h.outs.grown hg Y14 (by omega), h.seen.grown hg (by simp) (by omega), (SetIs.put hD.isMap hh h').congr he⟩
theorem EndsAt.putSeen {P : Program} {kt : TypeId} {w0 w w' : World} {B : Nat} {last span spans : Int} {n : Nat} {outs seen seen' sps : List Int} (h : EndsAt P kt w0 w B last span spans n outs seen sps) {x : Int} {D : DataW Unit} (hD : w.ownsMap P kt unitElem (B + 1 + 1) n D) (hh : ∀ x : Int, Maps.has D (.int .i64 x) = hasB seen x)
 (h' : w'.ownsMap P kt unitElem (B + 1 + 1) (n + 1) (D.put (.int .i64 x) (.agg []))) (hg : w.grownBy w' (some (B + 1 + 1))) (he : ∀ y, hasB (x :: seen) y = hasB seen' y) : EndsAt P kt w0 w' B last span spans (n + 1) outs seen' sps :=
 ⟨h.below.grown hg (by have := h.room; omega) (fun _ hk => by cases hk; omega), Nat.le_trans h.room hg.size, cell_grown hg h.c0 Y14, cell_grown hg h.c1 Y14, cell_grown hg h.c2 Y14, cell_grown hg h.box Y14,
  h.outs.grown hg (by simp) (by omega), (SetIs.put hD.isMap hh h').congr he, h.sps.grown hg (by simp) (by omega)⟩
theorem EndsAt.putOuts {P : Program} {kt : TypeId} {w0 w w' : World} {B : Nat} {last span spans : Int} {n : Nat} {outs seen sps : List Int} (h : EndsAt P kt w0 w B last span spans n outs seen sps) {x : Int} {D : DataW Unit} (hD : w.ownsMap P kt unitElem (B + 1) n D) (hh : ∀ x : Int, Maps.has D (.int .i64 x) = hasB outs x)
 (h' : w'.ownsMap P kt unitElem (B + 1) (n + 1) (D.put (.int .i64 x) (.agg []))) (hg : w.grownBy w' (some (B + 1))) : EndsAt P kt w0 w' B last span spans (n + 1) (x :: outs) seen sps :=
 ⟨h.below.grown hg (by have := h.room; omega) (fun _ hk => by cases hk; omega), Nat.le_trans h.room hg.size, cell_grown hg h.c0 Y14, cell_grown hg h.c1 Y14, cell_grown hg h.c2 Y14, cell_grown hg h.box Y14,
  SetIs.put hD.isMap hh h', h.seen.grown hg (by simp) (by omega), h.sps.grown hg Y14 (by omega)⟩
theorem SetIs.none (P : Program) (kt : TypeId) (w : World) : SetIs P kt (w.alloc (.map #[] 0)) w.heap.size 0 [] := ⟨_, World.ownsMap_made w P kt _, fun _ => rfl⟩
theorem EndsAt.start (P : Program) (kt tp tm : TypeId) (w : World) (last span spans : Int) :
 EndsAt P kt w (((((w.alloc (.cells #[.int .i64 last, .int .i64 span, .int .i64 spans] tp)).alloc (.map #[] 0)).alloc (.map #[] 0)).alloc (.map #[] 0)).alloc (.cells #[.map (some (w.heap.size + 1 + 1 + 1))] tm)) w.heap.size last span spans 0 [] [] [] where
 below := (((((Below.refl _ _).alloc (Nat.le_refl _) _).alloc (by simp) _).alloc Y14 _).alloc Y14 _).alloc Y14 _
 room := by simp
 c0 := by go_simp
 c1 := by go_simp
 c2 := by go_simp
 box := by go_simp
 outs := by
  have h := SetIs.none P kt (w.alloc (.cells #[.int .i64 last, .int .i64 span, .int .i64 spans] tp))
  simp only [World.size_alloc] at h
  exact ((h.grown (World.grownBy_alloc _ _ none) (by simp) (Nat.le_refl _)).grown (World.grownBy_alloc _ _ none) (by simp) (Nat.le_refl _)).grown (World.grownBy_alloc _ _ none) (by simp) (Nat.le_refl _)
 seen := by
  have h := SetIs.none P kt ((w.alloc (.cells #[.int .i64 last, .int .i64 span, .int .i64 spans] tp)).alloc (.map #[] 0))
  simp only [World.size_alloc] at h
  exact (h.grown (World.grownBy_alloc _ _ none) (by simp) (Nat.le_refl _)).grown (World.grownBy_alloc _ _ none) (by simp) (Nat.le_refl _)
 sps := by
  have h := SetIs.none P kt (((w.alloc (.cells #[.int .i64 last, .int .i64 span, .int .i64 spans] tp)).alloc (.map #[] 0)).alloc (.map #[] 0))
  simp only [World.size_alloc] at h
  exact h.grown (World.grownBy_alloc _ _ none) (by simp) (Nat.le_refl _)
theorem getD_snap {l : List Snap} {i : Nat} (h : i < l.length) : l.getD i (0, 0) = l[i] := by simp [h]
def outsAt (l : List Snap) (span spans : Int) (j : Nat) : List Int := outsTo l span spans (l.length - j)
theorem outsAt_step (l : List Snap) (span spans : Int) (m : Nat) (h : m < l.length) : outsAt l span spans m = if keepB l span spans m then l[m].1 :: outsAt l span spans (m + 1) else outsAt l span spans (m + 1) := by
 unfold outsAt
 have e : l.length - m = (l.length - (m + 1)) + 1 := by omega
 have e2 : l.length - (l.length - (m + 1) + 1) = m := by omega
 rw [e]
 simp only [outsTo, e2]
 simp [h]
theorem EndsAt.seenAs {P : Program} {kt : TypeId} {w0 w : World} {B : Nat} {last span spans : Int} {n : Nat} {outs seen seen' sps : List Int} (h : EndsAt P kt w0 w B last span spans n outs seen sps) (he : ∀ y, hasB seen y = hasB seen' y) : EndsAt P kt w0 w B last span spans n outs seen' sps :=
 { h with seen := h.seen.congr he }
theorem EndsAt.mono {P : Program} {kt : TypeId} {w0 w : World} {B : Nat} {last span spans : Int} {n n' : Nat} {outs seen sps : List Int} (h : EndsAt P kt w0 w B last span spans n outs seen sps) (hn : n ≤ n') : EndsAt P kt w0 w B last span spans n' outs seen sps :=
 { h with outs := h.outs.grown ⟨rfl, rfl, rfl, Nat.le_refl _, fun _ _ _ => rfl⟩ (by simp : _ ≠ none) hn, seen := h.seen.grown ⟨rfl, rfl, rfl, Nat.le_refl _, fun _ _ _ => rfl⟩ (by simp : _ ≠ none) hn, sps := h.sps.grown ⟨rfl, rfl, rfl, Nat.le_refl _, fun _ _ _ => rfl⟩ (by simp : _ ≠ none) hn }
theorem hasB_drop_seen {xs : List Int} {m : Nat} (h : m < xs.length) {x : Int} (hx : xs[m] = x) (hs : hasB (xs.drop (m + 1)) x = true) (y : Int) : hasB (xs.drop (m + 1)) y = hasB (xs.drop m) y := by
 rw [← hasB_drop_cons h hx, hasB_cons]
 by_cases e : y = x
 ·subst e; simp [hs]
 simp [e]
end Go.Proofs.YtakeannapfaodaaGreat
set_option linter.unusedVariables false
set_option linter.unusedSimpArgs false
set_option maxRecDepth 100000
namespace Go.Proofs.YtakeannapfaodaaGreat
open Go.RowKit Go.Maps
theorem lawInt : Keyed Tryz.prog 3 := int_keyed Tryz.underlying3
set_option maxHeartbeats 1000000 in
theorem later_any (bx mb n : Nat) (xs : List Int) (at_ : Int) (w : World) (hc : w.cell? ⟨bx, 0, none⟩ = some (.map (some mb))) (hx : xs.length ≤ 1000) (hset : SetIs Tryz.prog 3 w mb n xs) :
 Calls Tryz.prog 99 #[.int .i64 at_, .pointer (some ⟨bx, 0, none⟩)] w fun e w' => e = .returned (.int .i64 (dcount (fun x => decide (at_ < x)) xs)) ∧ Below w.heap.size w w' := by
 obtain ⟨D, hown, hhas⟩ := hset
 have HH := Lib.hid hhas; clear hhas
 go_enter Tryz.func99, Tryz.ntmps99
 go_wp2_with (at_range; refine wpList_range_own _ rfl _ 120 rfl 3 122 lawInt Tryz.underlying120 (unitElem (H := Unit)) mb n D rfl hown ?_; intro w0 hrg0 hg0 hs0)
 go_frame
 go_loopw [4] (fun c wr => ∃ (left : Lit → Bool) (cnt : Nat), wr.ranges Tryz.prog 3 (unitElem (H := Unit)) mb w.heap.size n D left cnt ∧ c = .int .i64 (dcount (fun x => decide (at_ < x) && !left (.int .i64 x)) xs) ∧ Below w.heap.size w wr)
  (fun _ wr => wr.rangeLeft mb w.heap.size)
 case atStart => exact ⟨_, _, hrg0, by rw [later_start HH.out]; rfl, (Below.refl _ _).grown hg0 (Nat.le_refl _) (fun _ h => by cases h)⟩
 case round =>
  obtain ⟨left, cnt, hrg, rfl, hb⟩ := hrel
  go_wp2_with (at_next; refine wpList_next_ranges _ rfl _ rfl 3 lawInt (unitElem (H := Unit)) (Value.int .i64) (fun _ : Unit => Value.agg #[]) (fun key kl hkey => by obtain ⟨x, rfl, _⟩ := Maps.keyOf_int_inv Tryz.underlying3 hkey; exact ⟨x, rfl⟩) (fun v y hv => ⟨(), (unitElem_inv hv).1⟩) mb w.heap.size n _ _ _ rfl hrg ?_ ?_)
  ·intro _ hl0
   go_wp2
   go_ret
   exact ⟨ret_int (by rw [later_end hl0]), hb⟩
  intro x c kl y w1 cnt1 hkey hlx hy hat hrg1 hlt hg1 hs1 hen
  have hb1 : Below w.heap.size w w1 := hb.grown hg1 (hb.size) (fun j hj => by cases hj; exact Nat.le_refl _)
  obtain ⟨x', ex, rfl, _⟩ := Maps.keyOf_int_inv Tryz.underlying3 hkey
  cases ex
  have HST := Lib.hid (later_step (at_ := at_) HH.out hlx hat)
  have hdc := dcount_le (fun x => decide (at_ < x) && !left (Lit.int IntKind.i64 x)) xs
  clear hat hlx hkey hy
  go_wp2_with fail
  all_goals
   go_roundw
   case rel => exact ⟨_, cnt1, hrg1, by rw [HST.out]; first | rw [if_pos (by assumption)]; rfl | rw [if_neg (by omega)]; rfl, hb1⟩
   case measure => rw [hrg1.left_eq, hrg.left_eq]; exact hlt
end Go.Proofs.YtakeannapfaodaaGreat
set_option linter.unusedVariables false
set_option linter.unusedSimpArgs false
set_option maxRecDepth 100000
namespace Go.Proofs.YtakeannapfaodaaGreat
open Go.RowKit Go.Maps
theorem zeroUnit (w : World) : (zeroValue 122).run Tryz.prog w = .ok (.agg #[]) w := by kernel_rfl
def EndsPost (l : List Snap) (span spans : Int) (w : World) (e : Ending) (w' : World) : Prop := ∃ b n, e = .returned (.map (some b)) ∧ b < w'.heap.size ∧ w.heap.size ≤ b ∧ SetIs Tryz.prog 3 w' b n (outsM l span spans) ∧ Below w.heap.size w w'
set_option maxHeartbeats 1000000 in
theorem ends_zero (v : Value) (l : List Snap) (last spans : Int) (w : World) :
 Calls Tryz.prog 79 #[v, .agg #[.int .i64 last, .int .i64 0, .int .i64 spans]] w (EndsPost l 0 spans w) := by
 have hmm := @run_makeMap Tryz.prog
 go_enter Tryz.func79, Tryz.ntmps79
 go_wp2
 go_ret
 refine ⟨w.heap.size + 1, 0, rfl, by simp, by omega, ?_, ?_⟩
 ·have h := SetIs.none Tryz.prog 3 (w.alloc (.cells #[.int .i64 last, .int .i64 0, .int .i64 spans] 34))
  simp only [World.size_alloc] at h
  exact h.grown (World.grownBy_alloc _ _ none) (by simp) (Nat.le_refl _)
 exact (((Below.refl _ _).alloc (Nat.le_refl _) _).alloc (by simp) _).alloc (by simp; omega) _
set_option maxHeartbeats 2000000 in
theorem ends_any (B : Nat) (v : Value) (l : List Snap) (last span spans : Int) (w : World) (hB : B ≤ w.heap.size) (hv : SlPair B w v l) (hl : l.length ≤ 1000) (hs : soundM l = true) (h1 : 1 ≤ span) :
 Calls Tryz.prog 79 #[v, .agg #[.int .i64 last, .int .i64 span, .int .i64 spans]] w (EndsPost l span spans w) := by
 have HV := Lib.hid hv
 have HS := Lib.hid hs
 obtain ⟨a, b, off, cap, rfl, hcap, hm, -, ha, hc⟩ := hv
 have H := Lib.hid hc; clear hc
 have HA := Lib.hid ha; clear ha
 have HB := Lib.hid (soundM_bounds hs); clear hs
 unfold maxLen at hm
 have h0 : (span == 0) = false := by simp; omega
 have hn0 : ¬ span = 0 := by omega
 have hmm := @run_makeMap Tryz.prog
 go_enter Tryz.func79, Tryz.ntmps79
 have hst := EndsAt.start Tryz.prog 3 34 120 w last span spans
 go_wp2_with fail
 go_loopw [24] (fun i wr => ∃ k : Nat, k ≤ l.length ∧ i = .int .i64 k ∧ EndsAt Tryz.prog 3 w wr w.heap.size last span spans k [] [] ((spansOf l span).take k)) (fun i _ => l.length - (intOf i).toNat)
 case atStart => exact ⟨0, Nat.zero_le _, rfl, hst⟩
 case round =>
  obtain ⟨k, hk, rfl, hE⟩ := hrel
  by_cases hlt : k < l.length
  ·have e := (HA.out (by omega)).1
   have hbB := (HA.out (by omega)).2
   subst e
   have q1 := (hE.below.cell Y21).trans (H.out k hlt).1.1
   have q2 := (hE.below.cell Y21).trans (H.out k hlt).2.1
   have HE := Lib.hid hE; clear hE
   have ht := (HB.out k hlt).2.2.1
   have ht2 := (HB.out k hlt).2.2.2
   obtain ⟨hq1, hq2⟩ := div_bounds l[k].2 span ht h1
   have hq3 : l[k].2 / span ≤ 2147483647 := by omega
   go_wp2_with fail
   obtain ⟨W2, hW2⟩ : ∃ W2, W2 = wr.alloc (.cells #[.int .i64 l[k].1, .int .i64 l[k].2] 92) := ⟨_, rfl⟩
   rw [← hW2]
   have f1 : W2.cell? ⟨wr.heap.size, 1, none⟩ = some (.int .i64 l[k].2) := by rw [hW2]; go_simp
   have hE2 := HE.out.alloc (.cells #[.int .i64 l[k].1, .int .i64 l[k].2] 92)
   rw [← hW2] at hE2
   clear hW2 q1 q2
   have p1 := hE2.c1
   have pb := hE2.box
   have HE2 := Lib.hid hE2; clear hE2
   refine wp_region_still_tail 7 kr kr ?_
   simp only [List.take_succ_cons, List.take_zero, List.drop_succ_cons, List.drop_zero]
   change wpStill _ _ (World.drew _) _ _ _
   have hwr := wrap_tdiv ht h1 (show l[k].2 ≤ 9223372036854775807 by omega)
   repeat still_step
   refine wpStill_nil ?_
   obtain ⟨D, hown, hhas⟩ := HE2.out.drew.sps
   have HH := Lib.hid hhas; clear hhas
   have hwf : (Lit.int .i64 (l[k].2 / span)).wf = true := WalkArith.wf_i64 (by omega)
   have HC := Lib.hid (fun y => hasB_take_cons (xs := spansOf l span) (m := k) (by rw [spansOf_length]; exact hlt) (spansOf_get l span k hlt) y)
   go_wp2_with (at_mapUpdate; refine wpList_mapUpdate_own _ rfl _ _ _ 120 rfl 3 122 lawInt Tryz.underlying120 (unitElem (H := Unit)) (w.heap.size + 1 + 1 + 1) k D rfl hown (by unfold maxLen; omega) _ _ _ rfl rfl (keyOf_int_mk Tryz.underlying3 hwf) _ [] unitElem_mk ?_; intro w3 hown3 hg3)
   have hE3 := HE2.out.drew.putSps hown HH.out hown3 hg3 HC.out
   clear hown3 hg3 hown
   go_wp2
   go_roundw
   case rel => exact ⟨k + 1, by omega, by go_num, hE3⟩
   case measure => simp [intOf]; omega
  obtain rfl : k = l.length := by omega
  have hE' : EndsAt Tryz.prog 3 w wr w.heap.size last span spans (l.length + 2 * (l.length - l.length)) (outsAt l span spans l.length) ((spansOf l span).drop l.length) (spansOf l span) := by
   have e1 : outsAt l span spans l.length = [] := by unfold outsAt; rw [Nat.sub_self]; rfl
   have e2 : (spansOf l span).drop l.length = [] := List.drop_of_length_le (by rw [spansOf_length]; omega)
   have e3 : (spansOf l span).take l.length = spansOf l span := List.take_of_length_le (by rw [spansOf_length]; omega)
   rw [e1, e2, ← e3]
   exact hE.mono (by omega)
  clear hE
  go_wp2_with fail
  go_loopw [11] (fun i wr => ∃ j : Nat, j ≤ l.length ∧ i = .int .i64 ((j : Int) - 1) ∧ EndsAt Tryz.prog 3 w wr w.heap.size last span spans (l.length + 2 * (l.length - j)) (outsAt l span spans j) ((spansOf l span).drop j) (spansOf l span)) (fun i _ => (intOf i + 1).toNat)
  case atStart => exact ⟨l.length, Nat.le_refl _, rfl, hE'⟩
  case round =>
   obtain ⟨j, hj, rfl, hE⟩ := hrel
   by_cases hj0 : 1 ≤ j
   ·obtain ⟨m, rfl⟩ : ∃ m, j = m + 1 := ⟨j - 1, by omega⟩
    have em : (((m + 1 : Nat) : Int) - 1) = (m : Int) := by omega
    rw [em]
    clear em
    have e := (HA.out (by omega)).1
    have hbB := (HA.out (by omega)).2
    subst e
    have q2 := (hE.below.cell Y21).trans (H.out m hj).2.1
    have p1 := hE.c1
    have HE := Lib.hid hE; clear hE
    have ht := (HB.out m hj).2.2.1
    have ht2 := (HB.out m hj).2.2.2
    obtain ⟨hq1, hq2⟩ := div_bounds l[m].2 span ht h1
    have hq3 : l[m].2 / span ≤ 2147483647 := by omega
    go_wp2_with fail
    go_quiet (fail)
    have hE2 := HE.out.drewN nq
    obtain ⟨W2, hW2⟩ : ∃ W2, W2 = wr.drewN nq := ⟨_, rfl⟩
    rw [← hW2] at hE2 ⊢
    clear hW2 q2 p1
    have HE2 := Lib.hid hE2
    obtain ⟨D, hown, hhas⟩ := hE2.seen
    have HH := Lib.hid hhas; clear hhas hE2
    have hwf : (Lit.int .i64 (l[m].2 / span)).wf = true := WalkArith.wf_i64 (by omega)
    have HX := Lib.hid (spansOf_get l span m hj)
    have hxl : m < (spansOf l span).length := by rw [spansOf_length]; exact hj
    have HK := Lib.hid (outsAt_step l span spans m hj)
    have hlo := lastIn_eq l span m hj
    cases hsee : hasB ((spansOf l span).drop (m + 1)) (l[m].2 / span)
    ·rw [hsee] at hlo
     have HLO := Lib.hid hlo; have HSEE := Lib.hid hsee; clear hlo hsee
     go_wp2_with (first
      | (at_lookup; refine wpList_lookup_own_unit _ rfl _ _ 120 rfl 3 122 lawInt Tryz.underlying120 (zeroUnit _) (w.heap.size + 1 + 1) _ D rfl hown _ _ rfl (keyOf_int_mk Tryz.underlying3 hwf) ?_; rw [HH.out, HSEE.out])
      | (at_mapUpdate; refine wpList_mapUpdate_own _ rfl _ _ _ 120 rfl 3 122 lawInt Tryz.underlying120 (unitElem (H := Unit)) (w.heap.size + 1 + 1) _ D rfl (hown.alloc _) (by unfold maxLen; omega) _ _ _ rfl rfl (keyOf_int_mk Tryz.underlying3 hwf) _ [] unitElem_mk ?_; intro w4 hown4 hg4; go_frame))
     have hE4 := (HE2.out.alloc _).putSeen (hown.alloc _) HH.out hown4 hg4 (hasB_drop_cons hxl HX.out)
     clear hown4 hg4 hown
     have p2 := hE4.c2
     have HE4 := Lib.hid hE4; clear hE4
     have HCALL := Lib.hid (later_any _ _ _ (spansOf l span) (l[m].2 / span) w4.drew HE4.out.drew.box (by rw [spansOf_length]; omega) HE4.out.drew.sps)
     have hwn : (Lit.int .i64 l[m].1).wf = true := WalkArith.wf_i64 (by have := HB.out m hj; omega)
     have hkb : keepB l span spans m = decide (((dcount (fun x => decide (l[m].2 / span < x)) (spansOf l span) : Nat) : Int) < spans) := by
      unfold keepB; rw [HLO.out, getD_snap (show m < l.length from hj)]; rfl
     have HKB := Lib.hid hkb; clear hkb
     by_cases hls : ((dcount (fun x => decide (l[m].2 / span < x)) (spansOf l span) : Nat) : Int) < spans
     ·have hK := HK.out
      rw [show keepB l span spans m = true from by rw [HKB.out]; simp [hls], if_pos rfl] at hK
      have HKK := Lib.hid hK; clear hK
      go_region_with (go_at_call 99; refine HCALL.out.mono ?_; rintro e w5 ⟨rfl, hb5⟩; have p2' := (HE4.out.drew.later hb5).c2)
      all_goals
       have hE5 := HE4.out.drew.later hb5
       have q1 := (hE5.below.cell Y21).trans (H.out m hj).1.1
       have HE5 := Lib.hid hE5
       obtain ⟨D2, hown2, hhas2⟩ := hE5.outs
       have HH2 := Lib.hid hhas2; clear hhas2 hE5 hb5
       go_wp2_with (at_mapUpdate; refine wpList_mapUpdate_own _ rfl _ _ _ 120 rfl 3 122 lawInt Tryz.underlying120 (unitElem (H := Unit)) (w.heap.size + 1) _ D2 rfl hown2 (by unfold maxLen; omega) _ _ _ rfl rfl (keyOf_int_mk Tryz.underlying3 hwn) _ [] unitElem_mk ?_; intro w6 hown6 hg6; go_frame)
       have hE6 := (HE5.out.putOuts hown2 HH2.out hown6 hg6).mono (show _ ≤ l.length + 2 * (l.length - m) by omega)
       clear hown6 hg6 hown2
       have HE6 := Lib.hid hE6; clear hE6
       go_wp2
       go_roundw
       case rel => exact ⟨m, by omega, by go_num, by rw [HKK.out]; exact HE6.out⟩
       case measure => simp [intOf]
     have hK := HK.out
     rw [show keepB l span spans m = false from by rw [HKB.out]; simp; omega, if_neg (by simp)] at hK
     have HKK := Lib.hid hK; clear hK
     go_region_with (go_at_call 99; refine HCALL.out.mono ?_; rintro e w5 ⟨rfl, hb5⟩; have p2' := (HE4.out.drew.later hb5).c2)
     all_goals
      have HE6 := Lib.hid ((HE4.out.drew.later hb5).mono (show _ ≤ l.length + 2 * (l.length - m) by omega))
      clear hb5
      go_wp2
      go_roundw
      case rel => exact ⟨m, by omega, by go_num, by rw [HKK.out]; exact HE6.out⟩
      case measure => simp [intOf]
    rw [hsee] at hlo
    have HLO := Lib.hid hlo; have HSEE := Lib.hid hsee; clear hlo hsee
    go_wp2_with (at_lookup; refine wpList_lookup_own_unit _ rfl _ _ 120 rfl 3 122 lawInt Tryz.underlying120 (zeroUnit _) (w.heap.size + 1 + 1) _ D rfl hown _ _ rfl (keyOf_int_mk Tryz.underlying3 hwf) ?_; rw [HH.out, HSEE.out])
    have hK := HK.out
    rw [show keepB l span spans m = false from by unfold keepB; rw [HLO.out]; rfl] at hK
    have HE5 := Lib.hid ((((HE2.out.alloc (.cells #[] 122)).seenAs (hasB_drop_seen hxl HX.out HSEE.out))).mono (show _ ≤ l.length + 2 * (l.length - m) by omega))
    clear hown
    go_roundw
    case rel => exact ⟨m, by omega, by go_num, by rw [hK]; exact HE5.out⟩
    case measure => simp [intOf]
   obtain rfl : j = 0 := by omega
   go_wp2
   go_ret
   have hro := hE.room
   refine ⟨w.heap.size + 1, l.length + 2 * (l.length - 0), rfl, by omega, by omega, ?_, hE.below⟩
   have h2 := hE.outs
   rw [show outsM l span spans = outsAt l span spans 0 from by unfold outsM outsAt; rw [if_neg (by omega)]; rfl]
   exact h2
end Go.Proofs.YtakeannapfaodaaGreat
set_option linter.unusedVariables false
set_option linter.unusedSimpArgs false
set_option maxRecDepth 100000
namespace Go.Proofs.YtakeannapfaodaaGreat
open Go.RowKit Go.Maps
def staysP (l : List Snap) (last : Int) (outs : List Int) (i : Nat) : Bool := hasB outs (l.getD i (0, 0)).1 || (decide ((i : Int) = (l.length : Int) - 1) || decide ((l.length : Int) - last ≤ (i : Int)))
theorem SetIs.look {w : World} {b n : Nat} {xs : List Int} (h : SetIs Tryz.prog 3 w b n xs) {x : Int} (hx : (Lit.int .i64 x).wf = true) :
 (Instr.lookup 120 (.map (some b)) (.int .i64 x) true).run Tryz.prog w = .ok (.tuple #[.agg #[], .bool (hasB xs x)]) w := by
 obtain ⟨D, h1, h2⟩ := h
 obtain ⟨v, ps, hrun, hv⟩ := h1.look_ok lawInt Tryz.underlying120 (zeroUnit _) unitElem_mk (keyOf_int_mk Tryz.underlying3 hx)
 obtain ⟨rfl, _⟩ := unitElem_inv hv
 rw [h2] at hrun
 exact hrun
set_option maxHeartbeats 1000000 in
theorem stays_any (B : Nat) (v : Value) (l : List Snap) (last : Int) (outs : List Int) (i : Nat) (w : World) (b1 b2 b3 mb n : Nat) (hB : B ≤ w.heap.size) (hv : SlPair B w v l) (hl : l.length ≤ 1000) (hi : i < l.length) (hlast : 0 ≤ last ∧ last ≤ 64)
 (c1 : w.cell? ⟨b1, 0, none⟩ = some (.map (some mb))) (c2 : w.cell? ⟨b2, 0, none⟩ = some v) (c3 : w.cell? ⟨b3, 0, none⟩ = some (.int .i64 last)) (hset : SetIs Tryz.prog 3 w mb n outs) :
 Calls Tryz.prog 80 #[.int .i64 i, .pointer (some ⟨b1, 0, none⟩), .pointer (some ⟨b2, 0, none⟩), .pointer (some ⟨b3, 0, none⟩)] w fun e w' => e = .returned (.bool (staysP l last outs i)) ∧ Below w.heap.size w w' := by
 obtain ⟨a, b, off, cap, rfl, hcap, hm, -, ha, hc⟩ := hv
 have hbB := (ha (by omega)).2
 obtain rfl := (ha (by omega)).1
 have hcell := (hc i hi).1.1
 have hwf := (hc i hi).1.2.wf
 clear hc ha
 unfold maxLen at hm
 have hrun := SetIs.look (w := w.drew) (hset.below ((Below.refl _ _).drew) hset.lt) hwf
 have hrun2 := SetIs.look (w := (w.alloc (.cells #[] 122)).drew) (hset.below (((Below.refl _ _).alloc (Nat.le_refl _) _).drew) hset.lt) hwf
 have d1 := fun o => ((Below.refl _ w).alloc (Nat.le_refl _) o).cell (p := ⟨b1, 0, none⟩) (cell_lt c1)
 have d2 := fun o => ((Below.refl _ w).alloc (Nat.le_refl _) o).cell (p := ⟨b2, 0, none⟩) (cell_lt c2)
 have d3 := fun o => ((Below.refl _ w).alloc (Nat.le_refl _) o).cell (p := ⟨b3, 0, none⟩) (cell_lt c3)
 have d4 := fun o => ((Below.refl _ w).alloc (Nat.le_refl _) o).cell (p := ⟨b, off + i * 2, none⟩) (cell_lt hcell)
 rw [c1] at d1; rw [c2] at d2; rw [c3] at d3; rw [hcell] at d4
 cases hh : hasB outs l[i].1
 all_goals
  have HH := Lib.hid hh
  rw [hh] at hrun hrun2
  clear hh hset
  go_enter Tryz.func80, Tryz.ntmps80
  go_wp2_with fail
  go_region
  all_goals
   have hG := getD_snap hi
   have HG := Lib.hid hG; clear hG
 all_goals
  by_cases e1 : (i : Int) = (l.length : Int) - 1
  ·have t1 : ((i : Int) == (l.length : Int) - 1) = true := by simpa using e1
   have E1 := Lib.hid e1; clear e1
   go_wp2
   go_ret
   refine ⟨ret_bool ?_, ?_⟩
   ·unfold staysP; rw [HG.out, HH.out]; simp [E1.out]
   exact ((Below.refl _ _).alloc (Nat.le_refl _) _).drew
  have t1 : ((i : Int) == (l.length : Int) - 1) = false := by simpa using e1
  have E1 := Lib.hid e1; clear e1
  by_cases e2 : (l.length : Int) - last ≤ (i : Int)
  all_goals
   have E2 := Lib.hid e2
   go_wp2
   go_ret
   refine ⟨ret_bool ?_, ?_⟩
   ·unfold staysP; rw [HG.out, HH.out]; simp [E1.out]; try omega
   exact ((Below.refl _ _).alloc (Nat.le_refl _) _).drew
end Go.Proofs.YtakeannapfaodaaGreat
set_option linter.unusedVariables false
set_option linter.unusedSimpArgs false
set_option maxRecDepth 100000
namespace Go.Proofs.YtakeannapfaodaaGreat
open Go.RowKit Go.Maps
theorem soundFrom_lt {l : List Snap} : ∀ {last : Int}, soundFrom last l = true → ∀ i j (hi : i < l.length) (hj : j < l.length), i < j → l[i].1 < l[j].1 := by
 induction l with
 | nil => intro last _ i j hi; simp at hi
 | cons s r ih =>
  intro last h i j hi hj hij
  simp only [soundFrom, Bool.and_eq_true] at h
  cases j with
  | zero => omega
  | succ j =>
   cases i with
   | zero =>
    have hj' : j < r.length := by rw [List.length_cons] at hj; omega
    have := soundFrom_bounds h.2 r[j] (List.getElem_mem hj')
    simp only [List.getElem_cons_zero, List.getElem_cons_succ]; omega
   | succ i =>
    have := ih h.2 i j (by simpa using hi) (by simpa using hj) (by omega)
    simpa using this
theorem soundM_inj {l : List Snap} (h : soundM l = true) (i j : Nat) (hi : i < l.length) (hj : j < l.length) (e : l[i].1 = l[j].1) : i = j := by
 rcases Nat.lt_trichotomy i j with h1 | h1 | h1
 ·have := soundFrom_lt h i j hi hj h1; omega
 ·exact h1
 have := soundFrom_lt h j i hj hi h1; omega
theorem mem_outsTo (l : List Snap) (span spans : Int) (x : Int) : ∀ c, c ≤ l.length → (x ∈ outsTo l span spans c ↔ ∃ j, ∃ hj : j < l.length, l.length - c ≤ j ∧ keepB l span spans j = true ∧ l[j].1 = x) := by
 intro c
 induction c with
 | zero => intro _; simp only [outsTo, List.not_mem_nil, false_iff]; rintro ⟨j, hj, h, _⟩; omega
 | succ c ih =>
  intro hc
  have hlt : l.length - (c + 1) < l.length := by omega
  have ih := ih (by omega)
  unfold outsTo
  rw [getD_snap hlt]
  constructor
  ·intro h
   split at h
   ·rename_i hk
    rcases List.mem_cons.1 h with h | h
    ·exact ⟨_, hlt, Nat.le_refl _, hk, h.symm⟩
    obtain ⟨j, hj, h1, h2⟩ := ih.1 h
    exact ⟨j, hj, by omega, h2⟩
   obtain ⟨j, hj, h1, h2⟩ := ih.1 h
   exact ⟨j, hj, by omega, h2⟩
  rintro ⟨j, hj, h1, hk, h2⟩
  by_cases e : j = l.length - (c + 1)
  ·subst e
   rw [if_pos hk, h2]; exact List.mem_cons_self
  have := ih.2 ⟨j, hj, by omega, hk, h2⟩
  split
  ·exact List.mem_cons_of_mem _ this
  exact this
theorem hasB_outs {l : List Snap} (hs : soundM l = true) (span spans : Int) (i : Nat) (hi : i < l.length) : hasB (outsM l span spans) l[i].1 = (!decide (span = 0) && keepB l span spans i) := by
 unfold outsM
 by_cases h0 : span = 0
 ·rw [if_pos h0]; simp [hasB, h0]
 rw [if_neg h0, Bool.eq_iff_iff]
 unfold hasB
 rw [List.contains_iff_mem, mem_outsTo _ _ _ _ _ (Nat.le_refl _)]
 simp only [h0, decide_false, Bool.not_false, Bool.true_and]
 constructor
 ·rintro ⟨j, hj, _, hk, e⟩
  rw [← soundM_inj hs j i hj hi e]; exact hk
 intro hk
 exact ⟨i, hi, by omega, hk, rfl⟩
theorem staysP_eq {l : List Snap} (hs : soundM l = true) (last span spans : Int) (i : Nat) (hi : i < l.length) : staysP l last (outsM l span spans) i = staysM l last span spans i := by
 unfold staysP staysM
 rw [getD_snap hi, hasB_outs hs span spans i hi]
 have e1 : decide ((i : Int) = (l.length : Int) - 1) = decide ((l.length : Int) - 1 - i = 0) := by rw [decide_eq_decide]; omega
 have e2 : decide ((l.length : Int) - last ≤ (i : Int)) = decide ((l.length : Int) - 1 - i < last) := by rw [decide_eq_decide]; omega
 have e3 : keepB l span spans i = (lastIn l span i && decide ((laterM l span (l[i].2 / span) : Int) < spans)) := by unfold keepB; rw [getD_snap hi]
 rw [e1, e2, e3, Bool.or_comm]
end Go.Proofs.YtakeannapfaodaaGreat
namespace Go.Proofs.YtakeannapfaodaaGreat
open Go.RowKit
set_option linter.unusedVariables false
set_option linter.unusedSimpArgs false
set_option maxRecDepth 100000
set_option maxHeartbeats 400000 in
theorem within_any (n lo hi : Int) (w : World) :
 Calls Tryz.prog 98 #[.int .i64 n, .int .i64 lo, .int .i64 hi] w fun e w' => e = .returned (.bool (withinB n lo hi)) ∧ w = w' := by
 have H := Lib.hid (show withinB n lo hi = (decide (lo ≤ n) && decide (n ≤ hi)) from rfl)
 go_enter Tryz.func98, Tryz.ntmps98
 by_cases h : lo ≤ n
 ·go_wp2
  go_ret
  exact ⟨by rw [H.out]; simp [h], rfl⟩
 go_wp2
 go_ret
 exact ⟨by rw [H.out]; simp; omega, rfl⟩
set_option maxHeartbeats 400000 in
theorem withinR_any (n lo hi : Int) (w : World) :
 Calls Tryz.prog 100 #[.int .i64 n, .int .i64 lo, .int .i64 hi] w fun e w' => e = .returned (.bool (withinB n lo hi)) ∧ w = w' := by
 have H := Lib.hid (show withinB n lo hi = (decide (lo ≤ n) && decide (n ≤ hi)) from rfl)
 go_enter Tryz.func100, Tryz.ntmps100
 by_cases h : lo ≤ n
 ·go_wp2
  go_ret
  exact ⟨by rw [H.out]; simp [h], rfl⟩
 go_wp2
 go_ret
 exact ⟨by rw [H.out]; simp; omega, rfl⟩
set_option maxHeartbeats 400000 in
theorem check_any (last span spans : Int) (w : World) :
 Calls Tryz.prog 77 #[.agg #[.int .i64 last, .int .i64 span, .int .i64 spans]] w fun e w' => e = .returned (.int .i64 (polM last span spans)) ∧ Below w.heap.size w w' := by
 have H := Lib.hid (show polM last span spans = if withinB last 0 64 && withinB spans 0 64 && withinB span 0 2147483647 then 0 else 5 from rfl)
 cases h1 : withinB last 0 64 <;> cases h2 : withinB spans 0 64 <;> cases h3 : withinB span 0 2147483647
 all_goals
  have H1 := Lib.hid h1; have H2 := Lib.hid h2; have H3 := Lib.hid h3
  clear h1 h2 h3
  go_enter Tryz.func77, Tryz.ntmps77
  go_wp2_with (go_at_call 98; refine (within_any _ _ _ _).mono ?_; rintro e w' ⟨rfl, rfl⟩; simp only [H1.out, H2.out, H3.out])
  go_ret
  exact ⟨ret_int (by rw [H.out, H1.out, H2.out, H3.out]; rfl), (Below.refl _ _).alloc (Nat.le_refl _) _⟩
set_option maxHeartbeats 400000 in
theorem checkR_any (last span spans : Int) (w : World) :
 Calls Tryz.prog 81 #[.agg #[.int .i64 last, .int .i64 span, .int .i64 spans]] w fun e w' => e = .returned (.int .i64 (polM last span spans)) ∧ Below w.heap.size w w' := by
 have H := Lib.hid (show polM last span spans = if withinB last 0 64 && withinB spans 0 64 && withinB span 0 2147483647 then 0 else 5 from rfl)
 cases h1 : withinB last 0 64 <;> cases h2 : withinB spans 0 64 <;> cases h3 : withinB span 0 2147483647
 all_goals
  have H1 := Lib.hid h1; have H2 := Lib.hid h2; have H3 := Lib.hid h3
  clear h1 h2 h3
  go_enter Tryz.func81, Tryz.ntmps81
  go_wp2_with (go_at_call 100; refine (withinR_any _ _ _ _).mono ?_; rintro e w' ⟨rfl, rfl⟩; simp only [H1.out, H2.out, H3.out])
  go_ret
  exact ⟨ret_int (by rw [H.out, H1.out, H2.out, H3.out]; rfl), (Below.refl _ _).alloc (Nat.le_refl _) _⟩
set_option maxHeartbeats 1000000 in
theorem sound_any (B : Nat) (v : Value) (l : List Snap) (w : World) (hB : B ≤ w.heap.size) (hv : SlPair B w v l) :
 Calls Tryz.prog 78 #[v] w fun e w' => e = .returned (.bool (soundM l)) ∧ Below w.heap.size w w' := by
 obtain ⟨a, b, off, cap, rfl, hcap, hm, -, ha, hc⟩ := hv
 have H := Lib.hid hc; clear hc
 have HA := Lib.hid ha; clear ha
 unfold maxLen at hm
 go_enter Tryz.func78, Tryz.ntmps78
 go_wp2_with fail
 go_loopw [3, 8] (fun last i wr => ∃ k : Nat, k ≤ l.length ∧ i = .int .i64 k ∧ last = .int .i64 (nthLast 0 (l.take k)) ∧ soundFrom 0 (l.take k) = true ∧ Below w.heap.size w wr) (fun _ i _ => l.length - (intOf i).toNat)
 case atStart => exact ⟨0, Nat.zero_le _, rfl, rfl, rfl, Below.refl _ _⟩
 case round =>
  obtain ⟨k, hk, rfl, rfl, hs, hb⟩ := hrel
  have HS := Lib.hid hs; clear hs
  by_cases hlt : k < l.length
  ·have e := (HA.out (by omega)).1
   have hbB := (HA.out (by omega)).2
   subst e
   have c1 := (hb.cell Y21).trans (H.out k hlt).1.1
   have c2 := (hb.cell Y21).trans (H.out k hlt).2.1
   have hsz := hb.size
   have HN := Lib.hid (soundFrom_take_succ l k hlt)
   have HL := Lib.hid (nthLast_take_succ l k hlt)
   have HB := Lib.hid hb; clear hb
   cases h3 : withinB l[k].2 0 2147483647
   all_goals
    have H3 := Lib.hid h3
    clear h3
    go_wp2_with (go_at_call 98; refine (within_any _ _ _ _).mono ?_; rintro e w' ⟨rfl, rfl⟩; simp only [H3.out])
   case roundEnd =>
    go_roundw
    case rel =>
     refine ⟨k + 1, by omega, by go_num, by rw [HL.out], ?_, HB.out.alloc hsz _⟩
     rw [HN.out, HS.out, H3.out]; simp; omega
    case measure => simp [intOf]; omega
   all_goals
    go_ret
    refine ⟨ret_bool ?_, HB.out.alloc hsz _⟩
    rw [soundFrom_take l (k + 1)]
    rw [HN.out, HS.out, H3.out]
    simp
    try omega
  go_wp2
  go_ret
  exact ⟨ret_bool (by rw [soundM_eq l k (by omega), HS.out]), hb⟩
end Go.Proofs.YtakeannapfaodaaGreat
