/- Merged of ZH, ZI, ZJ, ZK, VS, ZL, ZM, ZN, ZO, ZP, ZQ, ZS, ZU, SA, SB, SC. Conditions: none. -/
import Derived.Test.YtngbglhmiefcpaaGreatLe
set_option maxRecDepth 20000
namespace Go.Proofs.YtngbglhmiefcpaaGreat
open Go.RowKit
set_option linter.unusedVariables false
set_option linter.unusedSimpArgs false
section
variable {P : Program} {n : Nat} {w0 : World} {S : Nat → Prop} {l : Fr} {m : List Ck} {Q : Exit → Act → World → Prop} {K : Act → World → Prop}
 {dst : Option Tmp} {ty : TypeId} {pos : String} {after : Array Edge} {g : Option (Nat × Bool)}
theorem pv_ixAr1 {len : Nat} {j : Int} {kd : IntKind} {k : Nat} {t e : TypeId} {x i : Operand} {d : TypeDesc} {cs : Array Value} {v : Value} (hu : P.underlying t = some (.array len e)) (hsz : (P.info? e).map (·.size) = some 1) (hd : P.underlying e = some d) (hr : d.isRow = false) (hx : ev l x = some (.agg cs)) (hi : ev l i = some (.int kd j)) (hj : j = (k : Int)) (hk : k < len) (hv : cs[k]? = some v) :
 PV P n w0 S l m ⟨dst, .index t x i, ty, pos, after, g⟩ v := fun act w ha _ => by
 show ((Instr.index t (act.eval x) (act.eval i)) >>= fun x => pure (Next.value x)).run P w = _
 rw [ha.eval hx, ha.eval hi]
 refine run_v ?_
 subst hj
 obtain ⟨ie, hie, hie2⟩ := Option.map_eq_some_iff.1 hsz
 have hs : ∀ w, (sizeOf e).run P w = .ok 1 w := fun w => by
  simp [sizeOf, typeInfo, program, Sem.run, Sem.run_bind, hie, hie2, Result.andThen, Sem.run_pure]
 have hag : ∀ w, (isAgg e).run P w = .ok false w := fun w => by
  unfold isAgg
  simp only [Sem.run_bind, run_underlying hd, Result.andThen]
  cases d <;> first | rfl | cases hr
 have h1 : (0 : Int) ≤ (k : Int) := by omega
 have h2 : ((k : Int) < (len : Int)) := by omega
 simp [Instr.index, part, asAgg, asIntOf, Sem.run_bind, run_underlying hu, Result.andThen, Sem.run_pure, h1, hk, hag, hs, hv]
theorem G.cSv {X : Type} {J : X → Prop} {V : X → Value} {M M' : X → List Ck} {o : Oper} {d : Nat} {x : Operand} {f : FuncId} {first captured args : Array Value} {xs : List Operand} {ts : Array TypeId} {vs : List Value} {ro pre r : List Ck} (hd : o.dst = some d) (hn : Nat.blt d n = true)
 (ho : o.op = .call { callee := .value x, args := xs.toArray, argTypes := ts }) (hv : ev l x = some (.func (.func f) first captured)) (hx : evs l xs = some vs) (hf : ∃ fn c, P.funcs[f]? = some fn ∧ fn.body = some c ∧ (fn.name == "runtime.NumGoroutine") = false)
 (hargs : first ++ vs.toArray ++ captured = args) (hm : Sub m pre r) (hro : ∀ c ∈ ro, May w0 S r c) (ht : Tr P f args ro pre (TX J V M)) (hM : Ap M r M') (h : ∀ x, J x → G n w0 S ((d, V x) :: l) (M' x) K) : G n w0 S l m (fun a w => o.wp P a w K Q) := by
 obtain ⟨fn, c, h1, h2, h3⟩ := hf
 exact G.trP hd hn (hargs ▸ pe_val ho hv hx h1 h2 h3) ht hm hro fun v m' ⟨x, hJ, hv, hm'⟩ => by
  subst hv
  subst hm'
  rw [hM.eq x]
  exact h x hJ
end
theorem jdBuilt : Tryz.prog.built 155 [(1, .func (.func 97) #[] #[]), (2, .func (.func 98) #[] #[]), (3, .func (.func 99) #[] #[]), (4, .func (.func 100) #[] #[]), (5, .func (.func 101) #[] #[])] = some #[.nilFunc, .func (.func 97) #[] #[], .func (.func 98) #[] #[], .func (.func 99) #[] #[], .func (.func 100) #[] #[], .func (.func 101) #[] #[]] := by kernel_rfl
theorem stBuilt : Tryz.prog.built 128 [(1, .func (.func 102) #[] #[]), (2, .func (.func 103) #[] #[]), (3, .func (.func 104) #[] #[]), (4, .func (.func 105) #[] #[]), (5, .func (.func 106) #[] #[])] = some #[.nilFunc, .func (.func 102) #[] #[], .func (.func 103) #[] #[], .func (.func 104) #[] #[], .func (.func 105) #[] #[], .func (.func 106) #[] #[]] := by kernel_rfl
theorem jd_at {ph : Nat} (h : 1 ≤ ph ∧ ph ≤ 5) : (#[.nilFunc, .func (.func 97) #[] #[], .func (.func 98) #[] #[], .func (.func 99) #[] #[], .func (.func 100) #[] #[], .func (.func 101) #[] #[]] : Array Value)[ph]? = some (.func (.func (jdF ph)) #[] #[]) := by
 rcases (show ph = 1 ∨ ph = 2 ∨ ph = 3 ∨ ph = 4 ∨ ph = 5 by omega) with rfl | rfl | rfl | rfl | rfl <;> rfl
theorem st_at {ph : Nat} (h : 1 ≤ ph ∧ ph ≤ 5) : (#[.nilFunc, .func (.func 102) #[] #[], .func (.func 103) #[] #[], .func (.func 104) #[] #[], .func (.func 105) #[] #[], .func (.func 106) #[] #[]] : Array Value)[ph]? = some (.func (.func (stF ph)) #[] #[]) := by
 rcases (show ph = 1 ∨ ph = 2 ∨ ph = 3 ∨ ph = 4 ∨ ph = 5 by omega) with rfl | rfl | rfl | rfl | rfl <;> rfl
theorem jd_fn {ph : Nat} (h : 1 ≤ ph ∧ ph ≤ 5) : ∃ fn c, Tryz.prog.funcs[jdF ph]? = some fn ∧ fn.body = some c ∧ (fn.name == "runtime.NumGoroutine") = false := by
 rcases (show ph = 1 ∨ ph = 2 ∨ ph = 3 ∨ ph = 4 ∨ ph = 5 by omega) with rfl | rfl | rfl | rfl | rfl
 ·exact ⟨_, _, Tryz.func97, rfl, by rfl⟩
 ·exact ⟨_, _, Tryz.func98, rfl, by rfl⟩
 ·exact ⟨_, _, Tryz.func99, rfl, by rfl⟩
 ·exact ⟨_, _, Tryz.func100, rfl, by rfl⟩
 exact ⟨_, _, Tryz.func101, rfl, by rfl⟩
theorem st_fn {ph : Nat} (h : 1 ≤ ph ∧ ph ≤ 5) : ∃ fn c, Tryz.prog.funcs[stF ph]? = some fn ∧ fn.body = some c ∧ (fn.name == "runtime.NumGoroutine") = false := by
 rcases (show ph = 1 ∨ ph = 2 ∨ ph = 3 ∨ ph = 4 ∨ ph = 5 by omega) with rfl | rfl | rfl | rfl | rfl
 ·exact ⟨_, _, Tryz.func102, rfl, by rfl⟩
 ·exact ⟨_, _, Tryz.func103, rfl, by rfl⟩
 ·exact ⟨_, _, Tryz.func104, rfl, by rfl⟩
 ·exact ⟨_, _, Tryz.func105, rfl, by rfl⟩
 exact ⟨_, _, Tryz.func106, rfl, by rfl⟩
def judP (ph : Nat) (p : PM) (x y : Nt) : Bool × PM := match ph with
 | 1 => begunP p x y
 | 2 => partedP p x y
 | 3 => hadP p x y
 | 4 => tookP p x y
 | _ => committedP p x y
def XOk (ph : Nat) (p : PM) (x : Nt) : Prop := (ph = 2 → ∃ a : Nat, x.ns = [(a : Int)] ∧ a ≤ 100000000) ∧ (ph = 3 → p.asked + x.ids.length ≤ p.l.length) ∧ (ph = 4 → x.ids.length = 1)
theorem judge_tr {F : Nat → Prop} {W : World} {Pv1 Pv2 Pv3 : Nat → Prop} (k : Int) (v1 v2 v3 : Value) (ns : List Int) (ids : List (List UInt8)) (bs : List UInt8) (D : Nat) (z : PZ) (x : NV) (ph : Nat) (hph : 1 ≤ ph ∧ ph ≤ 5) (hz : PvOk F W z) (hx : NvOk F W x) (hy : YOk ⟨k, ns, ids, bs⟩) (ho : XOk ph z.pm x.n) (hl : z.l.length ≤ 10000000) (hlk : z.lacks.length ≤ 10000000) : Tr Tryz.prog (jdF ph) #[.pointer (some ⟨D, 0, none⟩), .agg #[.int .i64 x.n.k, x.vN, x.vI, x.vB], .agg #[.int .i64 k, v1, v2, v3]] [slc rInt Pv1 v1 ns, slc rID Pv2 v2 ids, slc rByte Pv3 v3 bs] [blk D 85 [.bool z.made, z.bv, z.lv, .int .i64 z.cm, .int .i64 z.tk, .int .i64 (z.ph : Nat), z.leftv, z.waitv, .int .i64 (z.asked : Nat), z.lacksv, .int .i64 (z.rounds : Nat), .bool z.over, .int .i64 z.num, .int .i64 z.e], frz F W, que 92 5 z.waitv z.wait.length (z.wait.flatMap awC), own 54 17 z.lacksv z.lacks.length (z.lacks.flatMap chC)]
 (TX (fun z' : PZ => PvOk F W z' ∧ z'.pm = (judP ph z.pm x.n ⟨k, ns, ids, bs⟩).2) (fun _ => .bool (judP ph z.pm x.n ⟨k, ns, ids, bs⟩).1) (fun z' => [blk D 85 [.bool z'.made, z'.bv, z'.lv, .int .i64 z'.cm, .int .i64 z'.tk, .int .i64 (z'.ph : Nat), z'.leftv, z'.waitv, .int .i64 (z'.asked : Nat), z'.lacksv, .int .i64 (z'.rounds : Nat), .bool z'.over, .int .i64 z'.num, .int .i64 z'.e], frz F W, que 92 5 z'.waitv z'.wait.length (z'.wait.flatMap awC), own 54 17 z'.lacksv z'.lacks.length (z'.lacks.flatMap chC)])) := by
 rcases (show ph = 1 ∨ ph = 2 ∨ ph = 3 ∨ ph = 4 ∨ ph = 5 by omega) with rfl | rfl | rfl | rfl | rfl
 ·exact begun_tr k v1 v2 v3 ns ids bs D z x hz hx hy
 ·exact parted_tr k v1 v2 v3 ns ids bs D z x hz hx hy (ho.1 rfl)
 ·exact had_tr k v1 v2 v3 ns ids bs D z x hz hx (by have := ho.2.1 rfl; rwa [pm_l] at this) hl hlk
 ·exact took_tr k v1 v2 v3 ns ids bs D z x hz hx hy (ho.2.2 rfl)
 exact committed_tr k v1 v2 v3 ns ids bs D z x hz hx hy
set_option maxHeartbeats 4000000 in
theorem judgeF_tr (ph : Nat) (h : 1 ≤ ph ∧ ph ≤ 5) : Tr Tryz.prog 67 #[.int .i64 (ph : Int)] [] [] (T0 (.func (.func (jdF ph)) #[] #[])) := by
 refine Tr.of (l := [(0, .int .i64 (ph : Int))]) Tryz.func67 rfl (n := 6) rfl (.cons rfl .nil) (fun w0 hro => ?_)
 refine go [9,10,1,7,8,9,10] ?_
 refine G.op rfl (G.val rfl rfl (pv_build (ps := [(1, .func (.func 97) #[] #[]), (2, .func (.func 98) #[] #[]), (3, .func (.func 99) #[] #[]), (4, .func (.func 100) #[] #[]), (5, .func (.func 101) #[] #[])]) (fun a ha => ha.pevs (xs := [(1, .func 97), (2, .func 98), (3, .func 99), (4, .func 100), (5, .func 101)]) rfl) jdBuilt) ?_)
 refine go [0] ?_
 refine G.op rfl (G.val rfl rfl (pv_ixAr1 (k := ph) Tryz.underlying155 kr Tryz.underlying124 rfl rfl rfl rfl (by omega) (jd_at h)) ?_)
 refine go [1,7,8,11] ?_
 exact G.done0G rfl (Rv.tmp rfl Rv.nil) Y7
set_option maxHeartbeats 4000000 in
theorem phases_tr : Tr Tryz.prog 68 #[] [] [] (T0 (.agg #[.nilFunc, .func (.func 102) #[] #[], .func (.func 103) #[] #[], .func (.func 104) #[] #[], .func (.func 105) #[] #[], .func (.func 106) #[] #[]])) := by
 refine Tr.of (l := []) Tryz.func68 rfl (n := 2) rfl Fa.nil (fun w0 hro => ?_)
 refine go [9,10] ?_
 refine G.op rfl (G.alloc (z := .agg #[.nilFunc, .nilFunc, .nilFunc, .nilFunc, .nilFunc, .nilFunc]) (cs := [.nilFunc, .nilFunc, .nilFunc, .nilFunc, .nilFunc, .nilFunc]) rfl kr rfl ?_)
 intro b0
 refine go [7,8,9,10] ?_
 refine G.op rfl (G.val rfl rfl (pv_build (ps := [(1, .func (.func 102) #[] #[]), (2, .func (.func 103) #[] #[]), (3, .func (.func 104) #[] #[]), (4, .func (.func 105) #[] #[]), (5, .func (.func 106) #[] #[])]) (fun a ha => ha.pevs (xs := [(1, .func 102), (2, .func 103), (3, .func 104), (4, .func 105), (5, .func 106)]) rfl) stBuilt) ?_)
 refine G.op rfl (G.storeN (vs := [.nilFunc, .func (.func 102) #[] #[], .func (.func 103) #[] #[], .func (.func 104) #[] #[], .func (.func 105) #[] #[], .func (.func 106) #[] #[]]) kr rfl rfl rfl selT (by simp) ?_)
 refine go [7,8,11] ?_
 exact G.done0G rfl (Rv.cellN (cs := [_, _, _, _, _, _]) rfl Tryz.underlying128 rfl kr (by first | exact blk_range (k := 6) selD (by rfl)) Rv.nil) Y7
set_option maxHeartbeats 4000000 in
theorem enter1_tr {F : Nat → Prop} {W : World} {Pv1 Pv2 Pv3 : Nat → Prop} (k : Int) (v1 v2 v3 : Value) (ns : List Int) (ids : List (List UInt8)) (bs : List UInt8) (D : Nat) (z : PZ) (x : Aw) (hph : 1 ≤ x.ph ∧ x.ph ≤ 5) (hz : PvOk F W z) (hx : AwOk F W x) (hy : YOk ⟨k, ns, ids, bs⟩) (ho : XOk x.ph z.pm x.nv.n) (hl : z.l.length ≤ 10000000) (hlk : z.lacks.length ≤ 10000000) : Tr Tryz.prog 69 #[.pointer (some ⟨D, 0, none⟩), .agg #[.int .i64 k, v1, v2, v3], .pointer (some ⟨x.bj, 0, none⟩), .pointer (some ⟨x.bx, 0, none⟩)] [slc rInt Pv1 v1 ns, slc rID Pv2 v2 ids, slc rByte Pv3 v3 bs] [blk D 85 [.bool z.made, z.bv, z.lv, .int .i64 z.cm, .int .i64 z.tk, .int .i64 (z.ph : Nat), z.leftv, z.waitv, .int .i64 (z.asked : Nat), z.lacksv, .int .i64 (z.rounds : Nat), .bool z.over, .int .i64 z.num, .int .i64 z.e], frz F W, que 92 5 z.waitv z.wait.length (z.wait.flatMap awC), own 54 17 z.lacksv z.lacks.length (z.lacks.flatMap chC)]
 (TX (fun z' : PZ => PvOk F W z' ∧ z'.pm = (judP x.ph z.pm x.nv.n ⟨k, ns, ids, bs⟩).2) (fun _ => .bool (judP x.ph z.pm x.nv.n ⟨k, ns, ids, bs⟩).1) (fun z' => [blk D 85 [.bool z'.made, z'.bv, z'.lv, .int .i64 z'.cm, .int .i64 z'.tk, .int .i64 (z'.ph : Nat), z'.leftv, z'.waitv, .int .i64 (z'.asked : Nat), z'.lacksv, .int .i64 (z'.rounds : Nat), .bool z'.over, .int .i64 z'.num, .int .i64 z'.e], frz F W, que 92 5 z'.waitv z'.wait.length (z'.wait.flatMap awC), own 54 17 z'.lacksv z'.lacks.length (z'.lacks.flatMap chC)])) := by
 refine Tr.of (l := [(0, .pointer (some ⟨D, 0, none⟩)), (1, .agg #[.int .i64 k, v1, v2, v3]), (2, .pointer (some ⟨x.bj, 0, none⟩)), (3, .pointer (some ⟨x.bx, 0, none⟩))]) Tryz.func69 rfl (n := 12) rfl (.cons rfl (.cons rfl (.cons rfl (.cons rfl .nil)))) (fun w0 hro => ?_)
 obtain ⟨hA, hB, hC⟩ := ro3 hro
 refine go [9,10,60,2] ?_
 intro b5
 refine go [1,7,8,9,10] ?_
 refine G.op rfl (G.val rfl rfl (pv_load (v := .func (.func (jdF x.ph)) #[] #[]) Tryz.underlying124 rfl rfl (frz_cell selD hx.2.1.1 hx.2.1.2)) ?_)
 refine go [0] ?_
 refine G.op rfl (G.val rfl rfl (pv_loadN (cs := nvC x.nv) Tryz.underlying33 rfl kr rfl (frz_rng selD hx.2.2.1 hx.2.2.2)) ?_)
 refine go [2,50,8] ?_
 refine G.op rfl (G.cSv (J := fun z' : PZ => PvOk F W z' ∧ z'.pm = (judP x.ph z.pm x.nv.n ⟨k, ns, ids, bs⟩).2) rfl rfl rfl rfl rfl (jd_fn hph) rfl subT (may3 (.old hA) (.old hB) (.old hC)) (judge_tr k v1 v2 v3 ns ids bs D z x.nv x.ph hph hz hx.1 hy ho hl hlk) apT ?_)
 intro z1 hJ
 try dsimp only at hJ
 try dsimp only
 refine go [1,7,8,11] ?_
 exact G.doneX1 (z1) Y30 rfl rfl rfl subT
def entF : Nat → PM → Nat → PM
 | 0, p, _ => p
 | f + 1, p, k => if (phsM { p with ph := k } k).2 = [] then entF f (phsM { p with ph := k } k).1 (k + 1) else { (phsM { p with ph := k } k).1 with left := (phsM { p with ph := k } k).2 }
def enterM (p : PM) (k : Nat) : PM := entF (6 - k) { p with left := [], wait := [], asked := 0 } k
def PZ.at (y : PZ) (q : Nat) : PZ := { y with leftv := .slice none 0 0, waitv := .slice none 0 0, left := [], wait := [], asked := 0, ph := q }
theorem at_ok {F : Nat → Prop} {W : World} {y : PZ} (h : PvOk F W y) (q : Nat) : PvOk F W (y.at q) :=
 ⟨h.b, h.l, h.lk, IsSl.nil _ _ _, (fun x hx => by cases hx), (fun x hx => by cases hx), h.lacks⟩
theorem st_tr {F : Nat → Prop} {W : World} (D : Nat) (z : PZ) (ph : Nat) (h : 1 ≤ ph ∧ ph ≤ 5) (hz : PvOk F W z) (hg : PgOk z) : Tr Tryz.prog (stF ph) #[.pointer (some ⟨D, 0, none⟩)] [] [blk D 85 [.bool z.made, z.bv, z.lv, .int .i64 z.cm, .int .i64 z.tk, .int .i64 (z.ph : Nat), z.leftv, z.waitv, .int .i64 (z.asked : Nat), z.lacksv, .int .i64 (z.rounds : Nat), .bool z.over, .int .i64 z.num, .int .i64 z.e], frz F W, que 92 5 z.waitv z.wait.length (z.wait.flatMap awC), own 54 17 z.lacksv z.lacks.length (z.lacks.flatMap chC)]
 (TX (fun x : StO => StJ F W z ph x) (fun x => x.v) (fun x => [blk D 85 [.bool x.z.made, x.z.bv, x.z.lv, .int .i64 x.z.cm, .int .i64 x.z.tk, .int .i64 (x.z.ph : Nat), x.z.leftv, x.z.waitv, .int .i64 (x.z.asked : Nat), x.z.lacksv, .int .i64 (x.z.rounds : Nat), .bool x.z.over, .int .i64 x.z.num, .int .i64 x.z.e], frz x.F x.W, que 92 5 x.z.waitv x.z.wait.length (x.z.wait.flatMap awC), own 54 17 x.z.lacksv x.z.lacks.length (x.z.lacks.flatMap chC), own 33 4 x.v x.xs.length (x.xs.flatMap nvC)])) := by
 rcases (show ph = 1 ∨ ph = 2 ∨ ph = 3 ∨ ph = 4 ∨ ph = 5 by omega) with rfl | rfl | rfl | rfl | rfl
 ·exact st_begin D z hz hg
 ·exact st_parts D z hz hg
 ·exact st_queries D z hz hg
 ·exact st_gives D z hz hg
 exact st_commit D z hz hg
theorem phsM_lacks (p : PM) (k : Nat) : (phsM p k).1.lacks.length ≤ p.lacks.length ∧ (phsM p k).1.rounds ≤ p.rounds + 1 := by
 unfold phsM
 split <;> simp
theorem phs5 {p : PM} {k : Nat} (h1 : 1 ≤ k ∧ k ≤ 5) (h : (phsM p k).2 = []) : k ≤ 4 := by
 rcases (show k ≤ 4 ∨ k = 5 by omega) with h2 | rfl
 ·exact h2
 cases h
theorem entF_go {f k : Nat} {p : PM} (hp : p.ph = k) (h : (phsM p k).2 = []) : entF (f + 1) p k = entF f (phsM p k).1 (k + 1) := by
 subst hp
 exact if_pos h
theorem entF_end {f k : Nat} {p : PM} (hp : p.ph = k) (h : ¬ (phsM p k).2 = []) : entF (f + 1) p k = { (phsM p k).1 with left := (phsM p k).2 } := by
 subst hp
 exact if_neg h
theorem phsM_few {z : PZ} {k : Nat} (hg : PgOk z) : (phsM z.pm k).2.length ≤ 100000000 := by
 have h1 := hg.b
 have h2 := hg.l
 have h3 := hg.lacks
 unfold phsM partsL partsT queriesL
 split <;> simp [PZ.pm, cks] <;> omega
theorem nvs_few {z : PZ} {k : Nat} {xs : List NV} (h : nvs xs = (phsM z.pm k).2) (hg : PgOk z) : xs.length ≤ 100000000 := by
 rw [← nvs_length xs, h]
 exact phsM_few hg
theorem blk_φ_cell {b o : Nat} {T : TypeId} {cs : List Value} {v : Value} {W : World} (h : (blk b T cs).φ W) (hv : cs[o]? = some v) : W.cell? ⟨b, o, none⟩ = some v := by
 rw [cell_of_row _ _ _ _ _ _ h, List.getElem?_toArray, hv]
theorem blk_φ_rng {b : Nat} {T : TypeId} {cs : List Value} {W : World} (h : (blk b T cs).φ W) : W.rangeAt b 0 cs := fun j v hj => by
 rw [Nat.zero_add]
 exact blk_φ_cell h hj
theorem aw_all {F F' : Nat → Prop} {W W' : World} {q : Nat} {xs : List Aw} {x : Aw} (hU : Up F W F' W') (h : ∀ a ∈ xs, AwOk F W a ∧ a.ph = q) (hx : AwOk F' W' x) (hq : x.ph = q := by rfl) : ∀ a ∈ xs ++ [x], AwOk F' W' a ∧ a.ph = q := fun a ha => by
 rcases List.mem_append.1 ha with ha | ha
 ·exact ⟨(h a ha).1.up hU, (h a ha).2⟩
 obtain rfl : a = x := by simpa using ha
 exact ⟨hx, hq⟩
theorem Tryz.infoAw : (Tryz.prog.info? 92).map (fun i => (i.zero.map (·.cells.size), i.size, i.bytes)) = some (some 5, 5, 88) := by kernel_rfl
theorem awC_app (xs : List Aw) (x : Aw) : xs.flatMap awC ++ awC x = (xs ++ [x]).flatMap awC := by simp [List.flatMap_append]
theorem frz_aws {e : TypeId} {F : Nat → Prop} {W : World} {v : Value} (az : List Aw) (h : (own e 5 v az.length (az.flatMap awC)).φ W ∧ ∀ b, (own e 5 v az.length (az.flatMap awC)).S b → F b) (hA : ∀ a ∈ az, AwOk F W a) : IsSl rAw F W v az :=
 rows_sl (E := rAw) awC_len rfl h.1 (fun b hb => h.2 b hb) (fun b o x hx hP hr => ⟨hP, hr, hA x hx⟩)
set_option maxHeartbeats 4000000 in
theorem enter_tr {F : Nat → Prop} {W : World} (D : Nat) (z : PZ) (k : Nat) (hk1 : 1 ≤ k ∧ k ≤ 5) (hz : PvOk F W z) (hg : PgOk z) (hr : z.rounds ≤ 3) : Tr Tryz.prog 49 #[.pointer (some ⟨D, 0, none⟩), .int .i64 (k : Int)] [] [blk D 85 [.bool z.made, z.bv, z.lv, .int .i64 z.cm, .int .i64 z.tk, .int .i64 (z.ph : Nat), z.leftv, z.waitv, .int .i64 (z.asked : Nat), z.lacksv, .int .i64 (z.rounds : Nat), .bool z.over, .int .i64 z.num, .int .i64 z.e], frz F W, que 92 5 z.waitv z.wait.length (z.wait.flatMap awC), own 54 17 z.lacksv z.lacks.length (z.lacks.flatMap chC)]
 (TX (fun x : PZ × (Nat → Prop) × World => Up F W x.2.1 x.2.2 ∧ PvOk x.2.1 x.2.2 x.1 ∧ x.1.pm = enterM z.pm k) (fun _ => .tuple #[]) (fun x => [blk D 85 [.bool x.1.made, x.1.bv, x.1.lv, .int .i64 x.1.cm, .int .i64 x.1.tk, .int .i64 (x.1.ph : Nat), x.1.leftv, x.1.waitv, .int .i64 (x.1.asked : Nat), x.1.lacksv, .int .i64 (x.1.rounds : Nat), .bool x.1.over, .int .i64 x.1.num, .int .i64 x.1.e], frz x.2.1 x.2.2, que 92 5 x.1.waitv x.1.wait.length (x.1.wait.flatMap awC), own 54 17 x.1.lacksv x.1.lacks.length (x.1.lacks.flatMap chC)])) := by
 refine Tr.of (l := [(0, .pointer (some ⟨D, 0, none⟩)), (1, .int .i64 (k : Int))]) Tryz.func49 rfl (n := 64) rfl (.cons rfl (.cons rfl .nil)) (fun w0 hro => ?_)
 refine go [9,10,0,0,0,2,8,2,3,6,21,2,8,2,3,7,21,2,8,2,3,8,21,7,8,9,10,0,0,2,8,2,3,5,21,7,8,15] ?_
 refine G.queNil 92 5 ?_
 refine G.loopK (X := Nat × PZ × (Nat → Prop) × World) (ts := [0]) (fun st => (1 ≤ st.1 ∧ st.1 ≤ 5) ∧ Up F W st.2.2.1 st.2.2.2 ∧ PvOk st.2.2.1 st.2.2.2 (st.2.1.at st.1) ∧ PgOk (st.2.1.at st.1) ∧ st.2.1.rounds ≤ 3 + st.1 ∧ enterM z.pm k = entF (6 - st.1) (st.2.1.at st.1).pm st.1) (fun st => []) (fun st => [blk D 85 [.bool (st.2.1.at st.1).made, (st.2.1.at st.1).bv, (st.2.1.at st.1).lv, .int .i64 (st.2.1.at st.1).cm, .int .i64 (st.2.1.at st.1).tk, .int .i64 ((st.2.1.at st.1).ph : Nat), (st.2.1.at st.1).leftv, (st.2.1.at st.1).waitv, .int .i64 ((st.2.1.at st.1).asked : Nat), (st.2.1.at st.1).lacksv, .int .i64 ((st.2.1.at st.1).rounds : Nat), .bool (st.2.1.at st.1).over, .int .i64 (st.2.1.at st.1).num, .int .i64 (st.2.1.at st.1).e], frz st.2.2.1 st.2.2.2, own 54 17 st.2.1.lacksv st.2.1.lacks.length (st.2.1.lacks.flatMap chC)]) (fun st => 6 - st.1) (x0 := (k, z, F, W)) (.cons rfl .nil) subT Ap.nil apT (by first | exact trivial | ((try dsimp only) <;> exact ⟨hk1, Up.refl _ _, at_ok hz k, ⟨hg.cm, hg.tk, hg.b, hg.l, hg.lacks, hg.rounds⟩, by omega, (by unfold enterM; rw [show 6 - k = (5 - k) + 1 from by omega]; rfl)⟩)) .nil (fun st hJ => ?_)
 obtain ⟨q, y, F1, W1⟩ := st
 try dsimp only at hJ
 try dsimp only
 obtain ⟨hq, hU1, hy, hgy, hyr, hE⟩ := hJ
 refine go [9,15,9,10,0,2,8,2,3,5,2,50,0] ?_
 refine G.op rfl (G.cR rfl rfl rfl rfl Tryz.func67 rfl rfl may0 (judgeF_tr q hq) ?_)
 refine G.op rfl (G.alloc (z := .nilFunc) (cs := [.nilFunc]) rfl kr rfl ?_)
 intro b4
 refine go [21] ?_
 refine G.freeze (p := [blk b4 _ _]) selT subT (fun F2 W2 hU2 hC2 => ?_)
 have hj : F2 b4 ∧ W2.cell? ⟨b4, 0, none⟩ = some (.func (.func (jdF q)) #[] #[]) := ⟨(hC2 _ (List.mem_singleton.2 rfl)).2 _ rfl, blk_φ_cell (hC2 _ (List.mem_singleton.2 rfl)).1 rfl⟩
 have hy' := hy.up hU2
 refine go [7,8,9,9] ?_
 refine G.cutK (X := PZ × (List NV) × Value × (Nat → Prop) × World) (ts := [0, 4]) (p := [blk D 85 _, frz F2 W2, own 54 17 _ _ _]) (fun st => Up F2 W2 st.2.2.2.1 st.2.2.2.2 ∧ PvOk st.2.2.2.1 st.2.2.2.2 (st.1.at q) ∧ PgOk (st.1.at q) ∧ st.1.rounds ≤ 3 + q + 1 ∧ (∀ x ∈ st.2.1, NvOk st.2.2.2.1 st.2.2.2.2 x) ∧ (st.1.at q).pm = (phsM (y.at q).pm q).1 ∧ nvs st.2.1 = (phsM (y.at q).pm q).2) (fun st => [(39, st.2.2.1), (40, .int .i64 (st.2.1.length : Int)), (41, .int .i64 0)]) (fun st => [blk D 85 [.bool (st.1.at q).made, (st.1.at q).bv, (st.1.at q).lv, .int .i64 (st.1.at q).cm, .int .i64 (st.1.at q).tk, .int .i64 ((st.1.at q).ph : Nat), (st.1.at q).leftv, (st.1.at q).waitv, .int .i64 ((st.1.at q).asked : Nat), (st.1.at q).lacksv, .int .i64 ((st.1.at q).rounds : Nat), .bool (st.1.at q).over, .int .i64 (st.1.at q).num, .int .i64 (st.1.at q).e], frz st.2.2.2.1 st.2.2.2.2, own 54 17 st.1.lacksv st.1.lacks.length (st.1.lacks.flatMap chC), own 33 4 st.2.2.1 st.2.1.length (st.2.1.flatMap nvC)]) (.cons rfl (.cons rfl .nil)) subT (.cons (.cons (.cons .nil))) apT ?_ ?_
 ·refine G.drawT (nn := 10) (p := [blk D 85 _, frz F2 W2, own 54 17 _ _ _]) (rem := 1023) [0, 0, 2, 4, 8, 17, 0, 97, 128, 0] [0, 0, 2, 4, 8, 17, 0, 96, 128, 0] kr ⟨rfl, by kernel_rfl, by kernel_rfl⟩ subT kr (fun hT4 => ?_)
  refine go [22,1,1021,0,22,2,1017,8,22,3,1009,3,5,22,6,945,0,22,9,433,0] ?_
  refine G.twoT hT4 (i := 0) (j := 4) (rem' := 432) (rem'' := 417) kr kr kr ?_ ?_
  ·refine G.turnOp rfl rfl (G.cR rfl rfl rfl rfl Tryz.func68 rfl rfl may0 (phases_tr) ?_)
   refine go [26,24,4,416,25,50,0,26] ?_
   refine G.takeT hT4 (i := 5) (rem' := 384) rfl rfl rfl kr (fun _ _ _ h => h) rfl (pv_ixAr1 (k := q) Tryz.underlying128 kr Tryz.underlying127 rfl rfl rfl rfl (by omega) (st_at hq)) subT ?_
   refine go [24,7,256] ?_
   refine G.turnOp rfl rfl (G.cSv (J := fun x : StO => StJ F2 W2 (y.at q) q x) rfl rfl rfl rfl rfl (st_fn hq) rfl subT may0 (st_tr D (y.at q) q hq hy' hgy) apT ?_)
   rintro ⟨nz, nxs, nv, nF, nW⟩ hJ
   try dsimp only at hJ
   obtain ⟨vk, lk, rk, hkp⟩ := hJ.keep
   dsimp only at hkp
   subst hkp
   have hln : lk.length ≤ 20000000 ∧ rk ≤ 3 + q + 1 := by have h1 := phsM_lacks (y.at q).pm q; rw [← hJ.pm] at h1; have h2 := h1.1; have h3 := h1.2; have h4 := hgy.lacks; simp only [PZ.pm, PZ.at, cks, List.length_map] at h2 h3 h4; exact ⟨by omega, by omega⟩
   try dsimp only
   refine G.ownOpen (v := nv) selT (fun oa oc hov _ _ => ?_)
   subst hov
   refine go [26,22,8,0,5,27] ?_
   exact G.meet ({ y with lacksv := vk, lacks := lk, rounds := rk }, nxs, .slice oa nxs.length oc, nF, nW) (by first | exact trivial | ((try dsimp only) <;> exact ⟨hJ.up, hJ.ok, ⟨hgy.cm, hgy.tk, hgy.b, hgy.l, hln.1, by have := hln.2; show rk ≤ 1000; omega⟩, hln.2, hJ.all, hJ.pm, hJ.nt⟩)) (.consE rfl veqT (.consE rfl veqT (.consE rfl veqT (.cons rfl (.cons rfl .nil))))) subT
  refine go [25,50,0,26,24,0,416] ?_
  refine G.turnOp rfl rfl (G.cR rfl rfl rfl rfl Tryz.func68 rfl rfl may0 (phases_tr) ?_)
  refine go [26] ?_
  refine G.takeT hT4 (i := 5) (rem' := 384) rfl rfl rfl kr (fun _ _ _ h => h) rfl (pv_ixAr1 (k := q) Tryz.underlying128 kr Tryz.underlying127 rfl rfl rfl rfl (by omega) (st_at hq)) subT ?_
  refine go [24,7,256] ?_
  refine G.turnOp rfl rfl (G.cSv (J := fun x : StO => StJ F2 W2 (y.at q) q x) rfl rfl rfl rfl rfl (st_fn hq) rfl subT may0 (st_tr D (y.at q) q hq hy' hgy) apT ?_)
  rintro ⟨nz, nxs, nv, nF, nW⟩ hJ
  try dsimp only at hJ
  obtain ⟨vk, lk, rk, hkp⟩ := hJ.keep
  dsimp only at hkp
  subst hkp
  have hln : lk.length ≤ 20000000 ∧ rk ≤ 3 + q + 1 := by have h1 := phsM_lacks (y.at q).pm q; rw [← hJ.pm] at h1; have h2 := h1.1; have h3 := h1.2; have h4 := hgy.lacks; simp only [PZ.pm, PZ.at, cks, List.length_map] at h2 h3 h4; exact ⟨by omega, by omega⟩
  try dsimp only
  refine G.ownOpen (v := nv) selT (fun oa oc hov _ _ => ?_)
  subst hov
  refine go [26,22,8,0,5,27] ?_
  exact G.meet ({ y with lacksv := vk, lacks := lk, rounds := rk }, nxs, .slice oa nxs.length oc, nF, nW) (by first | exact trivial | ((try dsimp only) <;> exact ⟨hJ.up, hJ.ok, ⟨hgy.cm, hgy.tk, hgy.b, hgy.l, hln.1, by have := hln.2; show rk ≤ 1000; omega⟩, hln.2, hJ.all, hJ.pm, hJ.nt⟩)) (.consE rfl veqT (.consE rfl veqT (.consE rfl veqT (.cons rfl (.cons rfl .nil))))) subT
 intro st hJ
 obtain ⟨y2, xs, vo, F3, W3⟩ := st
 try dsimp only at hJ
 try dsimp only
 obtain ⟨hU3, hy2, hg2, hr2, hxA, hpm2, hnt2⟩ := hJ
 refine G.ownNews (v := vo) selT (fun na nc nb hnv hnk hnm hnd hnn hnews => ?_)
 subst hnv
 refine G.block ?_
 refine G.ownNil 92 5 ?_
 refine G.loopK (X := Nat × Value × (List Aw) × (Nat → Prop) × World) (ts := [0, 4, 39, 40]) (fun st => st.1 ≤ xs.length ∧ (Up F3 W3 st.2.2.2.1 st.2.2.2.2 ∧ (∀ a ∈ st.2.2.1, AwOk st.2.2.2.1 st.2.2.2.2 a ∧ a.ph = q) ∧ st.2.2.1.length = st.1 ∧ st.2.2.1.map (·.nv) = xs.take st.1 ∧ (st.1 = 0 → st.2.1 = .slice none 0 0))) (fun st => [(41, .int .i64 (st.1 : Int))]) (fun st => [blk D 85 [.bool (y2.at q).made, (y2.at q).bv, (y2.at q).lv, .int .i64 (y2.at q).cm, .int .i64 (y2.at q).tk, .int .i64 ((y2.at q).ph : Nat), st.2.1, (y2.at q).waitv, .int .i64 ((y2.at q).asked : Nat), (y2.at q).lacksv, .int .i64 ((y2.at q).rounds : Nat), .bool (y2.at q).over, .int .i64 (y2.at q).num, .int .i64 (y2.at q).e], frz st.2.2.2.1 st.2.2.2.2, own 92 5 st.2.1 st.2.2.1.length (st.2.2.1.flatMap awC)]) (fun st => xs.length - st.1) (x0 := (0, .slice none 0 0, [], F3, W3)) (.cons rfl (.cons rfl (.cons rfl (.cons rfl .nil)))) subT (.cons .nil) apT (by first | exact trivial | ((try dsimp only) <;> exact ⟨Nat.zero_le _, ⟨Up.refl _ _, (fun a ha => by cases ha), rfl, rfl, fun _ => rfl⟩⟩)) (.consE rfl veqT .nil) (fun st hJ => ?_)
 obtain ⟨i, vl, az, F4, W4⟩ := st
 try dsimp only at hJ
 try dsimp only
 obtain ⟨hki, hJ⟩ := hJ
 obtain ⟨hU4, hA4, hal, ham, hvl0⟩ := hJ
 refine go [9,10,2,9,7,8,9] ?_
 refine G.condP rfl (fun h42 => ?_) (fun h42 => ?_)
 ·have hlt : i < xs.length := by omega
  have hxo := hxA _ (List.getElem_mem hlt)
  have hx1 := hxo.1.one
  have hx2 := hxo.2.1.one
  have hx3 := hxo.2.2.1.one
  have hbig := nvs_few hnt2 hgy
  refine go [13,8,9,15,9,10] ?_
  refine G.op rfl (G.val rfl rfl (pv_ixSl (sz := 4) (k := i) Tryz.underlying55 kr rfl rfl hnd rfl (by omega)) ?_)
  refine G.op rfl (G.val rfl rfl (pv_loadN (cs := nvC xs[i]) Tryz.underlying33 rfl kr rfl (fun w hw => news_row nvC_len (hnews selT w hw) hlt)) ?_)
  refine go [60,5] ?_
  intro b6
  refine G.op rfl (G.storeN (vs := nvC xs[i]) kr rfl rfl (List.all_eq_true.2 (nvC_one hxo)) selT (by show 0 + 4 ≤ 4; omega) ?_)
  rw [show putN [.int .i64 0, .slice none 0 0, .slice none 0 0, .slice none 0 0] 0 (nvC xs[i]) = nvC xs[i] from rfl]
  refine go [7,8] ?_
  refine G.drawE (nn := 13) (p := [own 92 5 vl _ _]) (rem := 1023) [0, 0, 2, 4, 8, 0, 0, 96, 128, 272, 1023, 2047, 3071] [0, 0, 2, 4, 8, 0, 0, 96, 128, 272, 1, 1024, 2560] [12, 11, 10] [4095, 2047, 1023] 10 kr ⟨rfl, by kernel_rfl, by kernel_rfl⟩ kr kr kr subT (fun hT7 => ?_)
  refine go [22,0,1022,0,22,1,1020,0,22,2,1016,8,22,3,1008,3,6,22,6,944,26,22,4,928,50,0,24,5,896] ?_
  refine G.turnOp rfl rfl (G.val rfl rfl (pv_loadN (cs := nvC xs[i]) Tryz.underlying33 rfl kr rfl (blk_range (k := 4) selD rfl)) ?_)
  refine go [26] ?_
  refine G.takeT hT7 (i := 7) (rem' := 768) rfl rfl rfl kr (fun _ _ _ h => h) rfl (pv_buildSt (z := [.int .i64 0, .slice none 0 0, .slice none 0 0, .slice none 0 0, .nilFunc]) (pl := [(0, 4), (4, 1)]) Tryz.underlying92 kr kr rfl flT) subT ?_
  refine go [24,8,512] ?_
  refine G.turnOp rfl rfl (G.buildSlice (z := .agg #[.int .i64 0, .slice none 0 0, .slice none 0 0, .slice none 0 0, .nilFunc]) (sz := 5) (cs := awC (⟨xs[i], q, b4, b6⟩ : Aw)) rfl Tryz.underlying83 kr (by decide) (by decide) rfl kr ?_)
  intro b53
  refine go [26,24,9,0] ?_
  refine G.turnOp rfl rfl (G.append (k := az.length) (j := 1) (cs := az.flatMap awC) (news := awC (⟨xs[i], q, b4, b6⟩ : Aw)) (b := b53) (off := 0) rfl Tryz.underlying83 Tryz.infoAw rfl rfl rfl selT (fun _ => rfl) (fun h => by cases h) rfl (blk_news (k := 5) selT rfl) (fun u hu => by simp only [awC, List.mem_cons, List.not_mem_nil, or_false] at hu; rcases hu with rfl | rfl | rfl | rfl | rfl <;> first | rfl | assumption) (by omega) (by omega) ?_)
  intro vn
  rw [awC_app, show az.length + 1 = (az ++ [(⟨xs[i], q, b4, b6⟩ : Aw)]).length from by rw [List.length_append]; rfl]
  refine G.ownFact (v := vn) selT (fun hvn _ => ?_)
  refine go [26,27] ?_
  refine G.tailS [12, 11] 10 rfl ?_
  refine go [25,8] ?_
  refine G.tailS [12] 11 rfl ?_
  refine go [25,3,6] ?_
  refine G.tailS [] 12 rfl ?_
  refine go [30,60,6,16,8,10] ?_
  refine G.freeze (p := [blk b6 _ _]) selT subT (fun F5 W5 hU5 hC5 => ?_)
  have hUj := (hU3.trans hU4).trans hU5
  have hok : AwOk F5 W5 (⟨xs[i], q, b4, b6⟩ : Aw) := ⟨hxo.up (hU4.trans hU5), ⟨hUj.1 _ hj.1, hUj.cell hj.1 hj.2⟩, (hC5 _ (List.mem_singleton.2 rfl)).2 _ rfl, blk_φ_rng (hC5 _ (List.mem_singleton.2 rfl)).1⟩
  refine go [2,6,0,7] ?_
  exact G.next ((i + 1, vn, az ++ [(⟨xs[i], q, b4, b6⟩ : Aw)], F5, W5)) (by first | exact trivial | ((try dsimp only) <;> exact ⟨by omega, ⟨hU4.trans hU5, aw_all hU5 hA4 hok, by rw [List.length_append, hal]; rfl, by rw [List.map_append, ham, List.take_succ_eq_append_getElem hlt]; rfl, fun h => by omega⟩⟩)) (by (try dsimp only); omega) (.consE rfl veqT (.cons rfl (.cons rfl (.cons rfl (.cons rfl .nil))))) subT
 obtain rfl : i = xs.length := by omega
 rw [List.take_length] at ham
 refine go [18,14,14,19,8,9,10,0,2,8,2,3,6] ?_
 refine G.ownOpen (v := vl) selT (fun la lc hlv _ _ => ?_)
 subst hlv
 refine go [2,50,0,2,5,2,10,7,8] ?_
 refine G.condP rfl (fun h63 => ?_) (fun h63 => ?_)
 ·refine go [11,17,12,12,17] ?_
  have hne : ¬ (phsM (y.at q).pm q).2 = [] := fun h => by rw [← hnt2] at h; have h1 := nvs_length xs; rw [h] at h1; have h2 := congrArg List.length ham; rw [List.length_map] at h2; have h3 : 0 = xs.length := h1; omega
  refine G.freeze (p := [own 92 5 _ _ _]) selT subT (fun F6 W6 hU6 hC6 => ?_)
  have hy6 := hy2.up (hU4.trans hU6)
  have hls := frz_aws az (hC6 _ (List.mem_singleton.2 rfl)) (fun a ha => (hA4 a ha).1.up hU6)
  exact G.doneX0 (({ y2.at q with leftv := .slice la az.length lc, left := az }, F6, W6)) (by first | exact trivial | ((try dsimp only) <;> exact ⟨hU1.trans (hU2.trans (hU3.trans (hU4.trans hU6))), ⟨hy6.b, hy6.l, hy6.lk, hls, (fun a ha => ⟨(hA4 a ha).1.up hU6, (hA4 a ha).2⟩), hy6.wait, hy6.lacks⟩, by rw [hE, show 6 - q = (5 - q) + 1 from by omega, entF_end (k := q) rfl hne, ← hpm2, ← hnt2, ← ham]; show PZ.pm _ = _; unfold PZ.pm aws nvs; rw [List.map_map]; rfl⟩)) rfl rfl subT
 have ha0 : az = [] := List.eq_nil_of_length_eq_zero (by omega)
 have hx0 : xs = [] := by rw [← ham, ha0]; rfl
 have hn0 : (phsM (y.at q).pm q).2 = [] := by rw [← hnt2, hx0]; rfl
 have hq4 := phs5 hq hn0
 have hvl := hvl0 (by rw [hx0]; rfl)
 injection hvl with hv1 hv2 hv3
 subst hv1
 subst hv3
 have hE2 : enterM z.pm k = entF (6 - (q + 1)) (y2.at (q + 1)).pm (q + 1) := by rw [hE, show 6 - q = (5 - q) + 1 from by omega, entF_go (k := q) rfl hn0, ← hpm2, show 6 - (q + 1) = (4 - q) + 1 from by omega, show 5 - q = (4 - q) + 1 from by omega]; rfl
 subst ha0
 refine go [13,16,8,10,0,2,8,2,3,5,2,50,0] ?_
 have hph9 : (y2.at q).ph = q := rfl
 refine go [2,6,2,8,2,3,5,21,7] ?_
 exact G.next (q + 1, y2, F4, W4) (by first | exact trivial | ((try dsimp only) <;> exact ⟨by omega, hU1.trans (hU2.trans (hU3.trans hU4)), at_ok (y := y2.at q) (hy2.up hU4) (q + 1), ⟨hg2.cm, hg2.tk, hg2.b, hg2.l, hg2.lacks, hg2.rounds⟩, by omega, hE2⟩)) (by (try dsimp only); omega) (.cons rfl .nil) subT
def ntz : Nt := ⟨0, [], [], []⟩
def sendP (p : PM) : Option Nt × PM := if p.left = [] ∨ 8 ≤ p.wait.length then (none, p) else (p.left.head?, { p with left := p.left.tail, wait := p.wait ++ p.left.head?.toList })
def sentN (p : PM) : Nt := (sendP p).1.getD ntz
theorem sendP_no {p : PM} (h : p.left = [] ∨ 8 ≤ p.wait.length) : sendP p = (none, p) := if_pos h
theorem aws_nil {xs : List Aw} (h : xs.length = 0) : aws xs = [] := by
 rw [List.eq_nil_of_length_eq_zero h]
 rfl
theorem pm_wait (z : PZ) : z.pm.wait.length = z.wait.length := aws_length _
theorem sendP_yes {z : PZ} {X : Aw} {t : List Aw} (e : z.left = X :: t) (h : ¬ 8 ≤ z.wait.length) : sendP z.pm = (some X.nv.n, { z.pm with left := aws t, wait := aws (z.wait ++ [X]) }) := by
 unfold sendP
 rw [if_neg (by rw [pm_wait]; show ¬ (aws z.left = [] ∨ _); rw [e]; intro hh; rcases hh with hh | hh; cases hh; exact h hh)]
 show ((aws z.left).head?, _) = _
 unfold PZ.pm aws
 rw [e]
 simp
theorem sub_tail {F : Nat → Prop} {W : World} {ad : Option Addr} {cap : Nat} {X : Aw} {t : List Aw} (h : IsSl rAw F W (.slice ad (t.length + 1) cap) (X :: t)) : IsSl rAw F W (subV 5 ad 1 (t.length + 1) cap) t := by
 have := IsSl.sub (i := 1) (j := t.length + 1) h (by omega) (by simp)
 have e : ((X :: t).take (t.length + 1)).drop 1 = t := by simp
 rwa [e] at this
theorem sub_one1 (sz : Nat) (ad : Option Addr) (i j cap : Nat) : (subV sz ad i j cap).oneCell' = true := by
 unfold subV
 split <;> rfl
set_option maxHeartbeats 4000000 in
theorem send_tr {F : Nat → Prop} {W : World} (D : Nat) (z : PZ) (hz : PvOk F W z) : Tr Tryz.prog 21 #[.pointer (some ⟨D, 0, none⟩)] [] [blk D 85 [.bool z.made, z.bv, z.lv, .int .i64 z.cm, .int .i64 z.tk, .int .i64 (z.ph : Nat), z.leftv, z.waitv, .int .i64 (z.asked : Nat), z.lacksv, .int .i64 (z.rounds : Nat), .bool z.over, .int .i64 z.num, .int .i64 z.e], frz F W, que 92 5 z.waitv z.wait.length (z.wait.flatMap awC), own 54 17 z.lacksv z.lacks.length (z.lacks.flatMap chC)]
 (TX (fun x : PZ × Value × Value × Value => PvOk F W x.1 ∧ x.1.pm = (sendP z.pm).2) (fun x => .tuple #[.agg #[.int .i64 (sentN z.pm).k, x.2.1, x.2.2.1, x.2.2.2], .bool (sendP z.pm).1.isSome]) (fun x => [blk D 85 [.bool x.1.made, x.1.bv, x.1.lv, .int .i64 x.1.cm, .int .i64 x.1.tk, .int .i64 (x.1.ph : Nat), x.1.leftv, x.1.waitv, .int .i64 (x.1.asked : Nat), x.1.lacksv, .int .i64 (x.1.rounds : Nat), .bool x.1.over, .int .i64 x.1.num, .int .i64 x.1.e], frz F W, que 92 5 x.1.waitv x.1.wait.length (x.1.wait.flatMap awC), own 54 17 x.1.lacksv x.1.lacks.length (x.1.lacks.flatMap chC), own 3 1 x.2.1 (sentN z.pm).ns.length ((sentN z.pm).ns.map vInt), own 52 16 x.2.2.1 (sentN z.pm).ids.length (flatI (sentN z.pm).ids), own 5 1 x.2.2.2 (sentN z.pm).bs.length ((sentN z.pm).bs.map vByte)])) := by
 refine Tr.of (l := [(0, .pointer (some ⟨D, 0, none⟩))]) Tryz.func21 rfl (n := 64) rfl (.cons rfl .nil) (fun w0 hro => ?_)
 obtain ⟨cL, dL, eL, fL, hvL, _, _, hnL, hLd, hLe⟩ := hz.left.open
 refine G.queFact (v := z.waitv) selT (fun _ hql qad qcap hvw => ?_)
 refine go [9,10,60,5] ?_
 intro b2
 refine go [1,7,8,9,9,10,0,2,50,4,0,3,0,3,8,3,3,6] ?_
 refine G.want rfl rfl rfl (G.val rfl rfl ((pv_load (v := z.leftv) Tryz.underlying83 rfl rfl (by exact blk_cell selD (by rfl))).cast hvL) ?_)
 refine go [3,5,3,13,2,2,0] ?_
 refine G.partP (t := 16) rfl (fun h16 => ?_) (fun h16 => ?_)
 ·refine go [4,4,4,4,4,4,2,2,7,8,60,1,9,10,2,50,2,20,1,7,8,11,12] ?_
  rw [show sentN z.pm = ntz from by unfold sentN; rw [sendP_no (Or.inl (aws_nil (by omega)))]; rfl, sendP_no (Or.inl (aws_nil (by omega)))]
  refine go [60,7,60,4] ?_
  refine G.ownNil 5 1 ?_
  exact G.doneG ((z, .slice none 0 0, .slice none 0 0, .slice none 0 0)) Y26 rfl (Rv.cellN (cs := [_, _, _, _]) rfl Tryz.underlying33 rfl kr Y23 (Rv.tmp rfl Rv.nil)) rfl subT
 refine go [3,0,3,8,3,3,7] ?_
 refine G.want rfl rfl rfl (G.val rfl rfl ((pv_load (v := z.waitv) Tryz.underlying83 rfl rfl (by exact blk_cell selD (by rfl))).cast hvw) ?_)
 refine go [3,5,3,12,2,2,7,8] ?_
 refine G.condP rfl (fun h23 => ?_) (fun h23 => ?_)
 ·refine go [9,10,2,50,2,20,1,7,8,11,12] ?_
  rw [show sentN z.pm = ntz from by unfold sentN; rw [sendP_no (Or.inr (by rw [pm_wait]; omega))]; rfl, sendP_no (Or.inr (by rw [pm_wait]; omega))]
  refine go [60,7,60,4] ?_
  refine G.ownNil 5 1 ?_
  exact G.doneG ((z, .slice none 0 0, .slice none 0 0, .slice none 0 0)) Y26 rfl (Rv.cellN (cs := [_, _, _, _]) rfl Tryz.underlying33 rfl kr Y23 (Rv.tmp rfl Rv.nil)) rfl subT
 have hw8 : ¬ 8 ≤ z.wait.length := by omega
 obtain ⟨X, t, hXt⟩ : ∃ X t, z.left = X :: t := by cases e : z.left with | nil => (exfalso; have h0 := congrArg List.length e; rw [List.length_nil] at h0; omega) | cons X t => exact ⟨X, t, rfl⟩
 have hXl : z.left.length = t.length + 1 := by rw [hXt]; rfl
 have hR := hLe 0 (by omega)
 rw [show z.left[0] = X from by simp [hXt]] at hR
 have hX := hR.2.2
 refine go [13,8,9,10,0,2,8,2,3,6] ?_
 refine G.op rfl (G.val rfl rfl ((pv_load (v := z.leftv) Tryz.underlying83 rfl rfl (by exact blk_cell selD (by rfl))).cast hvL) ?_)
 refine G.op rfl (G.val rfl rfl (pv_ixSl (sz := 5) (k := 0) Tryz.underlying83 kr rfl rfl hLd rfl (by omega)) ?_)
 refine G.op rfl (G.val rfl rfl (pv_loadN (cs := awC X) Tryz.underlying92 rfl kr rfl (frz_rng selT hR.1 hR.2.1)) ?_)
 refine go [60,23] ?_
 intro b4
 refine G.op rfl (G.storeN (vs := awC X) kr rfl rfl (List.all_eq_true.2 (awC_one hR.2.2)) selT (by show 0 + 5 ≤ 5; omega) ?_)
 rw [show putN [.int .i64 0, .slice none 0 0, .slice none 0 0, .slice none 0 0, .nilFunc] 0 (awC X) = awC X from rfl]
 refine go [7,8,9,10,0,0,2,8,2,3,6] ?_
 refine G.op rfl (G.val rfl rfl ((pv_load (v := z.leftv) Tryz.underlying83 rfl rfl (by exact blk_cell selD (by rfl))).cast hvL) ?_)
 refine go [2,50,16,2,8,2,3,6] ?_
 refine G.op rfl (G.store kr rfl rfl (sub_one1 _ _ _ _ _) selT leT ?_)
 refine go [7,8,9] ?_
 refine G.drawE (nn := 11) (p := [que 92 5 _ _ _]) (rem := 255) [0, 0, 2, 4, 8, 0, 32, 80, 255, 511, 767] [0, 0, 2, 4, 8, 0, 32, 80, 1, 256, 640] [10, 9, 8] [1023, 511, 255] 8 kr ⟨rfl, by kernel_rfl, by kernel_rfl⟩ kr kr kr subT (fun hT5 => ?_)
 refine go [22,0,254,0,22,1,252,0,22,2,248,8,22,3,240,3,7,22,4,224,50,0,24,5,192] ?_
 refine G.turnOp rfl rfl (G.val rfl rfl (pv_loadN (cs := awC X) Tryz.underlying92 rfl kr rfl (blk_range (k := 5) selD rfl)) ?_)
 refine go [26,24,6,128] ?_
 refine G.turnOp rfl rfl (G.buildSlice (z := .agg #[.int .i64 0, .slice none 0 0, .slice none 0 0, .slice none 0 0, .nilFunc]) (sz := 5) (cs := awC X) rfl Tryz.underlying83 kr (by decide) (by decide) rfl kr ?_)
 intro b45
 refine go [26,24,7,0] ?_
 refine G.turnOp rfl rfl (G.appendQ (k := z.wait.length) (j := 1) (cs := z.wait.flatMap awC) (news := awC X) (b := b45) (off := 0) rfl Tryz.underlying83 Tryz.infoAw rfl rfl rfl selT (by omega) rfl (blk_news (k := 5) selT rfl) (awC_one hX) (by omega) (by omega) ?_)
 intro vq
 rw [awC_app, show z.wait.length + 1 = (z.wait ++ [X]).length from by rw [List.length_append]; rfl]
 refine G.queFact (v := vq) selT (fun hvq _ _ _ _ => ?_)
 refine go [26,27] ?_
 refine G.tailS [10, 9] 8 rfl ?_
 refine go [25,8] ?_
 refine G.tailS [10] 9 rfl ?_
 refine go [25,3,7] ?_
 refine G.tailS [] 10 rfl ?_
 refine go [30,60,6,8,9,10,2,3,0] ?_
 refine G.op rfl (G.val rfl rfl (pv_loadN (cs := nvC X.nv) Tryz.underlying33 rfl kr rfl (blk_range (k := 4) selT rfl)) ?_)
 refine go [60,5] ?_
 intro b5
 refine G.op rfl (G.storeN (vs := nvC X.nv) kr rfl rfl (List.all_eq_true.2 (nvC_one hX.1)) selT (by show 0 + 4 ≤ 4; omega) ?_)
 rw [show putN [.int .i64 0, .slice none 0 0, .slice none 0 0, .slice none 0 0] 0 (nvC X.nv) = [.int .i64 X.nv.n.k, X.nv.vN, X.nv.vI, X.nv.vB] from rfl]
 obtain ⟨hx1, hx2, hx3, hx4, hx5, hx6, hx7⟩ := hX.1
 refine go [7,8,9] ?_
 refine G.drawE (nn := 15) (p := []) (rem := 1023) [0, 1, 2, 0, 8, 20, 0, 64, 160, 223, 991, 1791, 3839, 8191, 16383] [0, 1, 2, 0, 8, 16, 0, 64, 128, 0, 516, 0, 2080, 0, 8448] [14, 13, 12, 11, 10] [16383, 8191, 4095, 2047, 1023] 10 kr ⟨rfl, by kernel_rfl, by kernel_rfl⟩ kr kr kr subT (fun hT7 => ?_)
 refine go [22,0,1022,3,1,22,3,1014,3,2,22,6,950,3,3,22,1,948,50,0,22,4,932,50,0,22,7,804,50,0,24,2,800,60,7] ?_
 refine G.turnOp rfl rfl (G.appendS (k := 0) (cs := []) (xs := X.nv.n.ns) (f := vInt) (p := I64) (Ps := F) rfl Tryz.underlying29 Tryz.infoInt' rfl rfl selT (frz_sl selT hx1) (vInt_one _) (by omega) (by omega) ?_)
 intro vN
 rw [Nat.zero_add X.nv.n.ns.length, List.nil_append]
 refine G.ownFact (v := vN) selT (fun hvN _ => ?_)
 refine go [26,22,9,288,3,1,24,5,256,60,4] ?_
 refine G.turnOp rfl rfl (G.appendI (k := 0) (cs := []) (ids := X.nv.n.ids) (Ps := F) rfl Tryz.underlying30 Tryz.infoID' rfl rfl selT (frz_sl selT hx2) (by omega) ?_)
 intro vI
 rw [Nat.zero_add X.nv.n.ids.length, List.nil_append]
 refine G.ownFact (v := vI) selT (fun hvI _ => ?_)
 refine go [26,24,8,0] ?_
 refine G.ownNil 5 1 ?_
 refine G.turnOp rfl rfl (G.appendS (k := 0) (cs := []) (xs := X.nv.n.bs) (f := vByte) (p := fun _ => True) (Ps := F) rfl Tryz.underlying31 Tryz.infoByte' rfl rfl selT (frz_sl selT hx3) (vByte_one _) (by omega) (by omega) ?_)
 intro vB
 rw [Nat.zero_add X.nv.n.bs.length, List.nil_append]
 refine G.ownFact (v := vB) selT (fun hvB _ => ?_)
 refine go [26,27] ?_
 refine G.tailS [14, 13, 12, 11] 10 rfl ?_
 refine go [30] ?_
 refine G.tailS [14, 13, 12] 11 rfl ?_
 refine go [25,3,2] ?_
 refine G.tailS [14, 13] 12 rfl ?_
 refine go [30] ?_
 refine G.tailS [14] 13 rfl ?_
 refine go [25,3,3] ?_
 refine G.tailS [] 14 rfl ?_
 refine go [30,60,6,8,9,10,2,50,8,20,1,7,8,11] ?_
 rw [show sentN z.pm = X.nv.n from by unfold sentN; rw [sendP_yes hXt hw8]; rfl, sendP_yes hXt hw8]
 exact G.doneG (({ z with leftv := subV 5 cL 1 z.left.length dL, left := t, waitv := vq, wait := z.wait ++ [X] }, vN, vI, vB)) (by first | exact trivial | ((try dsimp only) <;> exact ⟨⟨hz.b, hz.l, hz.lk, (by have h0 := hz.left; rw [hvL, hXt] at h0; have := sub_tail h0; rwa [← hXl] at this), (fun y hy => hz.leftO y (by rw [hXt]; exact List.mem_cons_of_mem _ hy)), (fun y hy => by rcases List.mem_append.1 hy with hy | hy; exact hz.wait y hy; obtain rfl : y = X := (by simpa using hy); exact hz.leftO _ (by rw [hXt]; exact List.mem_cons_self ..)), hz.lacks⟩, rfl⟩)) rfl (Rv.cellN (cs := [_, _, _, _]) rfl Tryz.underlying33 rfl kr Y23 (Rv.tmp rfl Rv.nil)) rfl subT
theorem checkS_zero {s : Sh} {ns : List Int} {il bl : Nat} (h : checkS s ns il bl = 0) : s.n ≤ (ns.length : Int) ∧ (ns.length : Int) ≤ s.ns ∧ s.i ≤ (il : Int) ∧ (il : Int) ≤ s.is ∧ s.b ≤ (bl : Int) ∧ (bl : Int) ≤ s.bs ∧ ns.all okN = true := by
 unfold checkS at h
 split at h
 ·cases h
 rename_i h1
 split at h
 ·rename_i h2
  exact ⟨by omega, by omega, by omega, by omega, by omega, by omega, h2⟩
 cases h
theorem check_some {k : Int} {ns : List Int} {il bl : Nat} (h : ncheckM k ns il bl = 0) : ∃ s, shM k = some s ∧ checkS s ns il bl = 0 := by
 unfold ncheckM at h
 cases e : shM k with
 | none => rw [e] at h; cases h
 | some s => rw [e] at h; exact ⟨s, rfl, h⟩
theorem sh16 : (shM 16).map (·.n) = some 1 := by kernel_rfl
theorem sh18 : (shM 18).map (·.i) = some 1 := by kernel_rfl
theorem sh19 : (shM 19).map (·.n) = some 1 := by kernel_rfl
theorem sh20 : (shM 20).map (·.n) = some 2 := by kernel_rfl
theorem check_y {k : Int} {ns : List Int} {ids : List (List UInt8)} {bs : List UInt8} (h : ncheckM k ns ids.length bs.length = 0) : YOk ⟨k, ns, ids, bs⟩ := by
 obtain ⟨s, h1, h2⟩ := check_some h
 have h3 := checkS_zero h2
 refine ⟨fun hk => ?_, fun hk => ?_⟩
 ·have hs : s.n = 1 ∨ s.n = 2 := by
   rcases hk with hk | hk | hk
   ·have := sh16
    rw [← (show k = 16 from hk), h1] at this
    exact .inl (Option.some.inj this)
   ·have := sh19
    rw [← (show k = 19 from hk), h1] at this
    exact .inl (Option.some.inj this)
   have := sh20
   rw [← (show k = 20 from hk), h1] at this
   exact .inr (Option.some.inj this)
  show 0 < ns.length
  omega
 have hs : s.i = 1 := by
  have := sh18
  rw [← (show k = 18 from hk), h1] at this
  exact Option.some.inj this
 show 0 < ids.length
 omega
def takeB (p : PM) (x y : Nt) : PM :=
 if ncheckM y.k y.ns y.ids.length y.bs.length ≠ 0 then endP p 0 370
 else if y.k = 20 ∧ againP p y = true then enterM p 3
 else if y.k = 20 ∧ n0 y.ns ≠ 0 then endP p 0 (n0 y.ns)
 else if (judP p.ph p x y).1 = false then endP (judP p.ph p x y).2 0 370
 else if (judP p.ph p x y).2.over = false ∧ (judP p.ph p x y).2.left.length + (judP p.ph p x y).2.wait.length = 0 then enterM (judP p.ph p x y).2 ((judP p.ph p x y).2.ph + 1)
 else (judP p.ph p x y).2
def takeM (p : PM) (y : Nt) : Int × PM := if p.over = true ∨ p.wait = [] then (9, p) else (0, takeB { p with wait := p.wait.tail } (p.wait.headD ntz) y)
theorem takeM_no {p : PM} {y : Nt} (h : p.over = true ∨ p.wait = []) : takeM p y = (9, p) := if_pos h
theorem takeM_go {z : PZ} {X : Aw} {t : List Aw} {y : Nt} (v : Value) (h : z.over = false) (e : z.wait = X :: t) : takeM z.pm y = (0, takeB ({ z with waitv := v, wait := t } : PZ).pm X.nv.n y) := by
 unfold takeM
 rw [if_neg (by show ¬ (z.over = true ∨ aws z.wait = []); rw [h, e]; intro hh; rcases hh with hh | hh <;> cases hh)]
 show ((0 : Int), takeB { z.pm with wait := (aws z.wait).tail } ((aws z.wait).headD ntz) y) = _
 rw [e]
 rfl
section
variable {p : PM} {x y : Nt}
theorem takeB_bad (h : ncheckM y.k y.ns y.ids.length y.bs.length ≠ 0) : takeB p x y = endP p 0 370 := if_pos h
theorem takeB_again (h : ncheckM y.k y.ns y.ids.length y.bs.length = 0) (h1 : y.k = 20 ∧ againP p y = true) : takeB p x y = enterM p 3 := (if_neg (not_not_intro h)).trans (if_pos h1)
theorem takeB_fail (h : ncheckM y.k y.ns y.ids.length y.bs.length = 0) (h1 : ¬ (y.k = 20 ∧ againP p y = true)) (h2 : y.k = 20 ∧ n0 y.ns ≠ 0) : takeB p x y = endP p 0 (n0 y.ns) := (if_neg (not_not_intro h)).trans ((if_neg h1).trans (if_pos h2))
theorem takeB_jud (h : ncheckM y.k y.ns y.ids.length y.bs.length = 0) (h1 : ¬ (y.k = 20 ∧ againP p y = true)) (h2 : ¬ (y.k = 20 ∧ n0 y.ns ≠ 0)) : takeB p x y =
 if (judP p.ph p x y).1 = false then endP (judP p.ph p x y).2 0 370
 else if (judP p.ph p x y).2.over = false ∧ (judP p.ph p x y).2.left.length + (judP p.ph p x y).2.wait.length = 0 then enterM (judP p.ph p x y).2 ((judP p.ph p x y).2.ph + 1)
 else (judP p.ph p x y).2 := (if_neg (not_not_intro h)).trans ((if_neg h1).trans (if_neg h2))
theorem judP_same (ph : Nat) (p : PM) (x y : Nt) : (judP ph p x y).2.rounds = p.rounds ∧ (judP ph p x y).2.cm = p.cm ∧ (judP ph p x y).2.tk = p.tk ∧ (judP ph p x y).2.b = p.b ∧ (judP ph p x y).2.l = p.l ∧ (judP ph p x y).2.made = p.made ∧ (judP ph p x y).2.ph = p.ph ∧ (judP ph p x y).2.lacks.length ≤ p.lacks.length + x.ids.length ∧ (judP ph p x y).2.left.length + (judP ph p x y).2.wait.length ≤ p.left.length + p.wait.length := by
 have hh : (hadP p x y).2.lacks.length ≤ p.lacks.length + x.ids.length := by
  unfold hadP
  split
  ·exact Nat.le_add_right _ _
  split
  ·exact Nat.le_add_right _ _
  rename_i h1 _
  have h2 := lackT_len p.lacks p.l p.asked y.ns y.ns.length
  show (lackT p.lacks p.l p.asked y.ns y.ns.length).length ≤ _
  omega
 unfold judP
 split
 ·unfold begunP; split <;> exact ⟨rfl, rfl, rfl, rfl, rfl, rfl, rfl, Nat.le_add_right _ _, by first | exact Nat.le_refl _ | exact Nat.zero_le _⟩
 ·exact ⟨rfl, rfl, rfl, rfl, rfl, rfl, rfl, Nat.le_add_right _ _, by first | exact Nat.le_refl _ | exact Nat.zero_le _⟩
 ·refine ⟨?_, ?_, ?_, ?_, ?_, ?_, ?_, hh, ?_⟩ <;> unfold hadP <;> split <;> first | rfl | exact Nat.le_refl _ | (split <;> first | rfl | exact Nat.le_refl _)
 ·exact ⟨rfl, rfl, rfl, rfl, rfl, rfl, rfl, Nat.le_add_right _ _, by first | exact Nat.le_refl _ | exact Nat.zero_le _⟩
 unfold committedP; dsimp only; split <;> exact ⟨rfl, rfl, rfl, rfl, rfl, rfl, rfl, Nat.le_add_right _ _, by first | exact Nat.le_refl _ | exact Nat.zero_le _⟩
theorem jud5 {ph : Nat} (h1 : 1 ≤ ph ∧ ph ≤ 5) (h : (judP ph p x y).1 = true) (ho : (judP ph p x y).2.over = false) : ph ≤ 4 := by
 rcases (show ph ≤ 4 ∨ ph = 5 by omega) with h2 | rfl
 ·exact h2
 exfalso
 change (committedP p x y).1 = true at h
 change (committedP p x y).2.over = false at ho
 by_cases hk : y.k = 19
 ·rw [committedP_done hk] at ho
  cases ho
 rw [committedP_on hk] at h
 cases h
end
theorem mid_row (pre a b sp : List Value) (h : a.length = 5) : ((pre ++ ((a ++ b) ++ sp)).drop (pre.length + 0 * 5)).take 5 = a := by
 rw [Nat.zero_mul, Nat.add_zero, List.drop_left, List.append_assoc]
 exact List.take_left' h
theorem G.recast {n : Nat} {w0 : World} {S : Nat → Prop} {l : Fr} {m : List Ck} {K : Act → World → Prop} {c c' : Ck} {r : List Ck} (e : c = c') (hs : Sel m c r) (h : G n w0 S l (c' :: r) K) : G n w0 S l m K := fun a w ha hw => h a w ha (e ▸ hw.sel hs)
theorem pm_pg {z : PZ} (h : PmOk z.pm) (hl : z.l.length ≤ 10000000) : PgOk z := ⟨h.cm, h.tk, h.b, hl, by have := h.lacks; rw [pm_l] at this; simp only [PZ.pm, cks, List.length_map] at this; omega, by have := h.rounds; show z.rounds ≤ 1000; exact Nat.le_trans this (by omega)⟩
theorem pm_zero {z : PZ} (h : z.over = false ∧ z.left.length + z.wait.length = 0) : z.pm.over = false ∧ z.pm.left.length + z.pm.wait.length = 0 := ⟨h.1, by show (aws z.left).length + (aws z.wait).length = 0; rw [aws_length, aws_length]; exact h.2⟩
theorem pm_zero' {z : PZ} (h : z.pm.over = false ∧ z.pm.left.length + z.pm.wait.length = 0) : z.over = false ∧ z.left.length + z.wait.length = 0 := ⟨h.1, by have := h.2; change (aws z.left).length + (aws z.wait).length = 0 at this; rwa [aws_length, aws_length] at this⟩
theorem pg_jud {z z2 : PZ} {x y : Nt} {ph : Nat} (hg : PgOk z) (hpm : z2.pm = (judP ph z.pm x y).2) (hlk : z.lacks.length + x.ids.length ≤ 20000000) : PgOk z2 := by
 have hs := judP_same ph z.pm x y
 rw [← hpm] at hs
 obtain ⟨h1, h2, h3, h4, h5, -, -, h6, -⟩ := hs
 have e1 : z2.rounds = z.rounds := h1
 have e2 : z2.cm = z.cm := h2
 have e3 : z2.tk = z.tk := h3
 have e4 : z2.b = z.b := h4
 have e5 : z2.l.length = z.l.length := by rw [← pm_l z2, ← pm_l z, h5]
 have e6 : z2.lacks.length ≤ z.lacks.length + x.ids.length := by
  have h7 : (cks z2.lacks).length ≤ (cks z.lacks).length + x.ids.length := h6
  simpa [cks] using h7
 exact ⟨by rw [e2]; exact hg.cm, by rw [e3]; exact hg.tk, by rw [e4]; exact hg.b, by rw [e5]; exact hg.l, by omega, by rw [e1]; exact hg.rounds⟩
theorem head_ok {z : PZ} {X : Aw} {t : List Aw} {v : Value} (h : PmOk z.pm) (ho : z.over = false) (e : z.wait = X :: t) : XOk z.ph ({ z with waitv := v, wait := t } : PZ).pm X.nv.n := by
 have hm : X.nv.n ∈ z.pm.left ++ z.pm.wait := List.mem_append_right _ (by show X.nv.n ∈ aws z.wait; rw [e]; exact List.mem_cons_self ..)
 refine ⟨fun hp => h.two hp _ hm, fun hp => ?_, fun hp => h.four hp _ hm⟩
 have h3 := (h.three ho hp).1
 have : z.pm.wait = X.nv.n :: aws t := by show aws z.wait = _; rw [e]; rfl
 rw [this, List.cons_append, List.map_cons, List.sum_cons] at h3
 show z.asked + X.nv.n.ids.length ≤ z.pm.l.length
 change z.asked + _ = _ at h3
 omega
set_option maxHeartbeats 4000000 in
theorem ptake_tr {F : Nat → Prop} {W : World} {Pv1 Pv2 Pv3 : Nat → Prop} (k : Int) (v1 v2 v3 : Value) (ns : List Int) (ids : List (List UInt8)) (bs : List UInt8) (D : Nat) (z : PZ) (hz : PvOk F W z) (hp : PmOk z.pm) (hl : z.l.length ≤ 10000000) : Tr Tryz.prog 14 #[.pointer (some ⟨D, 0, none⟩), .agg #[.int .i64 k, v1, v2, v3]] [slc rInt Pv1 v1 ns, slc rID Pv2 v2 ids, slc rByte Pv3 v3 bs] [blk D 85 [.bool z.made, z.bv, z.lv, .int .i64 z.cm, .int .i64 z.tk, .int .i64 (z.ph : Nat), z.leftv, z.waitv, .int .i64 (z.asked : Nat), z.lacksv, .int .i64 (z.rounds : Nat), .bool z.over, .int .i64 z.num, .int .i64 z.e], frz F W, que 92 5 z.waitv z.wait.length (z.wait.flatMap awC), own 54 17 z.lacksv z.lacks.length (z.lacks.flatMap chC)]
 (TX (fun x : PZ × (Nat → Prop) × World => Up F W x.2.1 x.2.2 ∧ PvOk x.2.1 x.2.2 x.1 ∧ x.1.pm = (takeM z.pm ⟨k, ns, ids, bs⟩).2) (fun _ => .int .i64 (takeM z.pm ⟨k, ns, ids, bs⟩).1) (fun x => [blk D 85 [.bool x.1.made, x.1.bv, x.1.lv, .int .i64 x.1.cm, .int .i64 x.1.tk, .int .i64 (x.1.ph : Nat), x.1.leftv, x.1.waitv, .int .i64 (x.1.asked : Nat), x.1.lacksv, .int .i64 (x.1.rounds : Nat), .bool x.1.over, .int .i64 x.1.num, .int .i64 x.1.e], frz x.2.1 x.2.2, que 92 5 x.1.waitv x.1.wait.length (x.1.wait.flatMap awC), own 54 17 x.1.lacksv x.1.lacks.length (x.1.lacks.flatMap chC)])) := by
 refine Tr.of (l := [(0, .pointer (some ⟨D, 0, none⟩)), (1, .agg #[.int .i64 k, v1, v2, v3])]) Tryz.func14 rfl (n := 113) rfl (.cons rfl (.cons rfl .nil)) (fun w0 hro => ?_)
 obtain ⟨hA, hB, hC⟩ := ro3 hro
 have oa := Ro.open hA
 have ob := Ro.open hB
 have oc := Ro.open hC
 obtain ⟨aa, ca, qa, oa', rfl, hca, hma, -, had, hel⟩ := oa
 obtain ⟨ab, cb, qb, ob', rfl, hcb, hmb, -, hbd, hbl⟩ := ob
 obtain ⟨ac, cc, qc, oc', rfl, hcc, -⟩ := oc
 refine G.queFact (v := z.waitv) selT (fun _ hql qad qcap hvw => ?_)
 have hm : z.made = true := hp.made
 have hph5 : 1 ≤ z.ph ∧ z.ph ≤ 5 := hp.ph
 have hr3 : z.rounds ≤ 3 := hp.rounds
 refine go [9,10,60,2] ?_
 intro b3
 refine go [1,7,8,9,15,9,10,0,2,50,4,0,3,0,3,8,3,3,0] ?_
 refine G.want rfl rfl rfl (G.val rfl rfl ((pv_load (v := .bool z.made) Tryz.underlying4 rfl rfl (by exact blk_cell selD (by rfl))).cast (congrArg Value.bool hm)) ?_)
 refine go [3,25,2,2,1,7,8,60,0,9,10,0,2,8,2,3,11,2,50,0,0] ?_
 refine G.part (t := 21) rfl (fun h21 => ?_) (fun h21 => ?_)
 ·refine go [4,4,4,4,4,4,2,2,1,7,8,60,1,9,10,1,7,8,11,17,12] ?_
  rw [takeM_no (Or.inl (show z.over = true from by simpa using h21))]
  exact G.doneX1 ((z, F, W)) Y54 rfl rfl rfl subT
 have hov : z.over = false := by simpa using h21
 refine go [3,0,3,8,3,3,7] ?_
 refine G.want rfl rfl rfl (G.val rfl rfl ((pv_load (v := z.waitv) Tryz.underlying83 rfl rfl (by exact blk_cell selD (by rfl))).cast hvw) ?_)
 refine go [3,5,3,13,2,2,1,7,8] ?_
 refine G.condP rfl (fun h16 => ?_) (fun h16 => ?_)
 ·refine go [9,10,1,7,8,11,17,12] ?_
  rw [takeM_no (Or.inr (aws_nil (by omega)))]
  exact G.doneX1 ((z, F, W)) Y54 rfl rfl rfl subT
 obtain ⟨X, t, hXt⟩ : ∃ X t, z.wait = X :: t := by cases e : z.wait with | nil => (exfalso; have h0 := congrArg List.length e; rw [List.length_nil] at h0; omega) | cons X t => exact ⟨X, t, rfl⟩
 obtain ⟨hX, hXp⟩ := hz.wait X (by rw [hXt]; exact List.mem_cons_self ..)
 refine G.recast (c := que 92 5 z.waitv z.wait.length (z.wait.flatMap awC)) (c' := que 92 5 z.waitv (t.length + 1) (awC X ++ t.flatMap awC)) (by rw [hXt]; rfl) selT ?_
 refine G.queTo (v := z.waitv) selT (by omega) (fun qg qc qp qs hqv hq1 hq2 hq3 hq4 => ?_)
 refine go [13,16,8,9,10,0,2,8,2,3,7] ?_
 refine G.op rfl (G.val rfl rfl ((pv_load (v := z.waitv) Tryz.underlying83 rfl rfl (by exact blk_cell selD (by rfl))).cast hqv) ?_)
 refine G.op rfl (G.val rfl rfl (pv_ixSl (sz := 5) (k := 0) Tryz.underlying83 kr rfl rfl (fun _ => rfl) rfl (by omega)) ?_)
 refine G.op rfl (G.val rfl rfl (pv_loadN (cs := awC X) Tryz.underlying92 rfl kr rfl (blk_range (k := 5) selT (mid_row _ _ _ _ rfl))) ?_)
 refine go [60,23] ?_
 intro b5
 refine G.op rfl (G.storeN (vs := awC X) kr rfl rfl (List.all_eq_true.2 (awC_one hX)) selT (by show 0 + 5 ≤ 5; omega) ?_)
 rw [show putN [.int .i64 0, .slice none 0 0, .slice none 0 0, .slice none 0 0, .nilFunc] 0 (awC X) = awC X from rfl]
 refine go [7,8,9,10,0,0,2,8,2,3,7] ?_
 refine G.op rfl (G.val rfl rfl ((pv_load (v := z.waitv) Tryz.underlying83 rfl rfl (by exact blk_cell selD (by rfl))).cast hqv) ?_)
 refine go [2,50,16,2,8,2,3,7] ?_
 refine G.op rfl (G.store kr rfl rfl (sub_one1 _ _ _ _ _) selT leT ?_)
 refine G.queTail (e := 92) (sz := 5) (k := t.length) (c1 := awC X) selT rfl hq4 hq1 hq2 hq3 ?_
 obtain ⟨z1, hz1⟩ : ∃ z1 : PZ, z1 = { z with waitv := subV 5 (some ⟨qg, qp.length, none⟩) 1 (t.length + 1) qc, wait := t } := ⟨_, rfl⟩
 refine G.recast (c := blk D 85 _) (c' := blk D 85 [.bool z1.made, z1.bv, z1.lv, .int .i64 z1.cm, .int .i64 z1.tk, .int .i64 (z1.ph : Nat), z1.leftv, z1.waitv, .int .i64 (z1.asked : Nat), z1.lacksv, .int .i64 (z1.rounds : Nat), .bool z1.over, .int .i64 z1.num, .int .i64 z1.e]) (by rw [hz1]) selT ?_
 refine G.recast (c := que 92 5 _ _ _) (c' := que 92 5 z1.waitv z1.wait.length (z1.wait.flatMap awC)) (by rw [hz1]) selT ?_
 refine G.recast (c := own 54 17 _ _ _) (c' := own 54 17 z1.lacksv z1.lacks.length (z1.lacks.flatMap chC)) (by rw [hz1]) selT ?_
 have hz1ok : PvOk F W z1 := by rw [hz1]; exact ⟨hz.b, hz.l, hz.lk, hz.left, hz.leftO, fun y hy => hz.wait y (by rw [hXt]; exact List.mem_cons_of_mem _ hy), hz.lacks⟩
 have hT : takeM z.pm ⟨k, ns, ids, bs⟩ = (0, takeB z1.pm X.nv.n ⟨k, ns, ids, bs⟩) := by rw [hz1]; exact takeM_go _ hov hXt
 have hph1 : z1.ph = z.ph := by rw [hz1]
 have hov1 : z1.over = false := by rw [hz1]; exact hov
 have hr1 : z1.rounds ≤ 3 := by rw [hz1]; exact hr3
 have hl1 : z1.l.length ≤ 10000000 := by rw [hz1]; exact hl
 have hg1 : PgOk z1 := by have := pm_pg hp hl; rw [hz1]; exact ⟨this.cm, this.tk, this.b, this.l, this.lacks, this.rounds⟩
 have hxo : XOk X.ph z1.pm X.nv.n := by rw [hXp, hz1]; exact head_ok hp hov hXt
 have hfew : z1.left.length + z1.wait.length ≤ 200000000 := by have := hp.few; have h1 := aws_length z.left; have h2 := aws_length z.wait; change (aws z.left).length + (aws z.wait).length ≤ _ at this; rw [hz1]; show z.left.length + t.length ≤ _; have h3 : z.wait.length = t.length + 1 := (by rw [hXt]; rfl); omega
 have hlk1 : z1.lacks.length ≤ 10000000 := by have := hp.lacks; rw [pm_l] at this; have h2 : (cks z.lacks).length ≤ z.l.length := this; rw [hz1]; show z.lacks.length ≤ _; simp only [cks, List.length_map] at h2; omega
 have hlk2 : z1.lacks.length + X.nv.n.ids.length ≤ 20000000 := by have := hX.1.2.2.2.2.2.1; omega
 have hX5 : 1 ≤ X.ph ∧ X.ph ≤ 5 := by rw [hXp]; exact hph5
 have hXp1 : X.ph = z1.ph := hXp.trans hph1.symm
 clear hz1
 refine go [7,8,9,15,9,10,2,50,8] ?_
 refine G.op rfl (G.cR rfl rfl rfl rfl Tryz.func46 rfl rfl (may3 Y8 Y8 Y8) (checkF k _ _ _ ns ids bs) ?_)
 refine go [2,14,1,7,8] ?_
 refine G.condP rfl (fun h43 => ?_) (fun h43 => ?_)
 ·refine go [10,0] ?_
  refine G.op rfl (G.cS rfl rfl rfl rfl Tryz.func47 rfl rfl subT may0 (pend_tr D z1 0 370) apT ?_)
  intro x48 hJ
  try dsimp only at hJ
  try dsimp only
  refine go [7,16,8,9,10,1,7,8,11] ?_
  rw [hT, takeB_bad (show ncheckM k ns ids.length bs.length ≠ 0 from by omega)]
  exact G.doneX1 ((z1.end 0 370, F, W)) (by first | exact trivial | ((try dsimp only) <;> exact ⟨Up.refl _ _, end_ok hz1ok _ _, rfl⟩)) rfl rfl rfl subT
 have hck : ncheckM k ns ids.length bs.length = 0 := by omega
 have hy : YOk ⟨k, ns, ids, bs⟩ := check_y hck
 refine G.seq ?_
 refine G.cutK (X := Unit) (ts := [0, 3, 4, 5]) (p := []) (fun _ => True) (fun _ => [(49, .bool (decide (k = 20 ∧ againP z1.pm ⟨k, ns, ids, bs⟩ = true)))]) (fun _ => []) (.cons rfl (.cons rfl (.cons rfl (.cons rfl .nil)))) subT (.cons .nil) apT ?_ ?_
 ·refine go [10,2,3,0,2,50,0,2,13,0] ?_
  refine G.partP (t := 53) rfl (fun h53 => ?_) (fun h53 => ?_)
  ·have hlt : 0 < ns.length := hy.1 (Or.inr (Or.inr (by assumption)))
   refine go [3,0,3,50,8] ?_
   refine G.want rfl rfl rfl (G.cR rfl rfl rfl rfl Tryz.func48 rfl rfl (may4 (Sel.may selT) (.old hA) (.old hB) (.old hC)) (again_tr (F := F) (W := W) k _ _ _ ns ids bs D z1 hz1ok hlt) ?_)
   refine go [2,2,1,7] ?_
   exact G.meet (()) trT (.consE rfl (congrArg Value.bool (by have h9 : k = 20 := (by assumption); simp [h9])) (.cons rfl (.cons rfl (.cons rfl (.cons rfl .nil))))) subT
  refine go [4,4,4,2,2,1,7] ?_
  exact G.meet (()) trT (.consE rfl (congrArg Value.bool (by have h9 : ¬ k = 20 := (by assumption); simp [h9])) (.cons rfl (.cons rfl (.cons rfl (.cons rfl .nil))))) subT
 intro _ hJ
 try dsimp only at hJ
 try dsimp only
 refine G.condP rfl (fun h49 => ?_) (fun h49 => ?_)
 ·refine go [10,0] ?_
  refine G.op rfl (G.cS rfl rfl rfl rfl Tryz.func49 rfl rfl subT may0 (enter_tr (F := F) (W := W) D z1 3 (by omega) hz1ok hg1 hr1) apT ?_)
  intro x59 hJ
  obtain ⟨z3, F3, W3⟩ := x59
  try dsimp only at hJ
  try dsimp only
  refine go [7,16,8,9,10,1,7,8,11] ?_
  rw [hT, takeB_again hck (by assumption)]
  exact G.doneX1 ((z3, F3, W3)) Y30 rfl rfl rfl subT
 have hna : ¬ (k = 20 ∧ againP z1.pm ⟨k, ns, ids, bs⟩ = true) := by assumption
 refine G.seq ?_
 refine G.cutK (X := Unit) (ts := [0, 3, 4, 5]) (p := []) (fun _ => True) (fun _ => [(60, .bool (decide (k = 20 ∧ n0 ns ≠ 0)))]) (fun _ => []) (.cons rfl (.cons rfl (.cons rfl (.cons rfl .nil)))) subT (.cons .nil) apT ?_ ?_
 ·refine go [10,2,3,0,2,50,0,2,13,0] ?_
  refine G.partP (t := 64) rfl (fun h64 => ?_) (fun h64 => ?_)
  ·have hlt : 0 < ns.length := hy.1 (Or.inr (Or.inr (by assumption)))
   have hE := hel 0 hlt
   have h0 : n0 ns = ns[0] := n0_eq hlt
   refine go [3,3,1,3,50,0] ?_
   refine G.want rfl rfl rfl (G.val rfl rfl (pv_ixSl (sz := 1) (k := 0) Tryz.underlying29 kr rfl rfl had rfl (by omega)) ?_)
   refine G.want rfl rfl rfl (G.val rfl rfl (pv_load (v := .int .i64 ns[0]) Tryz.underlying3 rfl rfl (ro_int hE)) ?_)
   refine go [3,14,2,2,1,7] ?_
   exact G.meet (()) trT (.consE rfl (congrArg Value.bool (by have h9 : k = 20 := (by assumption); simp [h9, h0])) (.cons rfl (.cons rfl (.cons rfl (.cons rfl .nil))))) subT
  refine go [4,4,4,4,4,2,2,1,7] ?_
  exact G.meet (()) trT (.consE rfl (congrArg Value.bool (by have h9 : ¬ k = 20 := (by assumption); simp [h9])) (.cons rfl (.cons rfl (.cons rfl (.cons rfl .nil))))) subT
 intro _ hJ
 try dsimp only at hJ
 try dsimp only
 refine G.condP rfl (fun h60 => ?_) (fun h60 => ?_)
 ·have hf : k = 20 ∧ n0 ns ≠ 0 := by assumption
  have hlt : 0 < ns.length := hy.1 (Or.inr (Or.inr hf.1))
  have hE := hel 0 hlt
  have h0 : n0 ns = ns[0] := n0_eq hlt
  refine go [10,0,2,3,1,2,50,0] ?_
  refine G.op rfl (G.val rfl rfl (pv_ixSl (sz := 1) (k := 0) Tryz.underlying29 kr rfl rfl had rfl (by omega)) ?_)
  refine G.op rfl (G.val rfl rfl (pv_load (v := .int .i64 ns[0]) Tryz.underlying3 rfl rfl (ro_int hE)) ?_)
  refine G.op rfl (G.cS rfl rfl rfl rfl Tryz.func47 rfl rfl subT may0 (pend_tr D z1 0 ns[0]) apT ?_)
  intro x76 hJ
  try dsimp only at hJ
  try dsimp only
  refine go [7,16,8,9,10,1,7,8,11] ?_
  rw [hT, takeB_fail hck hna hf]
  try dsimp only
  rw [h0]
  exact G.doneX1 ((z1.end 0 ns[0], F, W)) (by first | exact trivial | ((try dsimp only) <;> exact ⟨Up.refl _ _, end_ok hz1ok _ _, rfl⟩)) rfl rfl rfl subT
 have hnf : ¬ (k = 20 ∧ n0 ns ≠ 0) := by assumption
 refine go [9,10,2,3,4] ?_
 refine G.op rfl (G.val rfl rfl (pv_load (v := awF X) Tryz.underlying90 rfl rfl (blk_cell selT rfl)) ?_)
 refine go [0,2,50,8] ?_
 refine G.op rfl (G.cSv (J := fun z' : PZ => PvOk F W z' ∧ z'.pm = (judP X.ph z1.pm X.nv.n ⟨k, ns, ids, bs⟩).2) rfl rfl rfl rfl rfl ⟨_, _, Tryz.func69, rfl, by rfl⟩ rfl subT (may3 (.old hA) (.old hB) (.old hC)) (enter1_tr k _ _ _ ns ids bs D z1 X hX5 hz1ok hX hy hxo hl1 hlk1) apT ?_)
 intro z2 hJ
 try dsimp only at hJ
 try dsimp only
 rw [hXp1] at hJ
 rw [hXp1]
 obtain ⟨hz2, hpm2⟩ := hJ
 have hs2 := judP_same z1.ph z1.pm X.nv.n ⟨k, ns, ids, bs⟩
 have hj5 := jud5 (ph := z1.ph) (p := z1.pm) (x := X.nv.n) (y := ⟨k, ns, ids, bs⟩) (hXp1 ▸ hX5)
 rw [← hpm2] at hs2 hj5
 obtain ⟨jb, hjb⟩ : ∃ c, (judP z1.ph z1.pm X.nv.n ⟨k, ns, ids, bs⟩).1 = c := ⟨_, rfl⟩
 rw [hjb] at hj5
 rw [hjb]
 refine go [2,25,1,7,8] ?_
 refine G.cond rfl (fun h77 => ?_) (fun h77 => ?_)
 ·have hjf : jb = false := by simpa using h77
  refine go [10,0] ?_
  refine G.op rfl (G.cS rfl rfl rfl rfl Tryz.func47 rfl rfl subT may0 (pend_tr D z2 0 370) apT ?_)
  intro x85 hJ
  try dsimp only at hJ
  try dsimp only
  refine go [7,16,8,9,10,1,7,8,11] ?_
  rw [hT, takeB_jud hck hna hnf, if_pos (by rw [← hjf]; exact hjb)]
  exact G.doneX1 ((z2.end 0 370, F, W)) (by first | exact trivial | ((try dsimp only) <;> exact ⟨Up.refl _ _, end_ok hz2 _ _, (end_pm z2 0 370).trans (by rw [hpm2]; rfl)⟩)) rfl rfl rfl subT
 have hjt : jb = true := by simpa using h77
 obtain ⟨cL, dL, eL, fL, hvL, _⟩ := hz2.left.open
 refine G.queFact (v := z2.waitv) selT (fun _ _ qad2 qcap2 hvw2 => ?_)
 have hfew2 : z2.left.length + z2.wait.length ≤ 200000000 := by have h1 := hs2.2.2.2.2.2.2.2.2; change (aws z2.left).length + (aws z2.wait).length ≤ (aws z1.left).length + (aws z1.wait).length at h1; rw [aws_length, aws_length, aws_length, aws_length] at h1; omega
 refine G.seq ?_
 refine G.cutK (X := Unit) (ts := [0, 4]) (p := []) (fun _ => True) (fun _ => [(86, .bool (decide (z2.over = false ∧ z2.left.length + z2.wait.length = 0)))]) (fun _ => []) (.cons rfl (.cons rfl .nil)) subT (.cons .nil) apT ?_ ?_
 ·refine G.drawT (nn := 20) (p := []) (rem := 1048575) [0, 1, 2, 4, 8, 16, 32, 96, 160, 288, 544, 32, 2080, 4128, 8224, 16416, 33824, 65568, 131104, 262176] [0, 1, 2, 4, 8, 16, 32, 96, 160, 288, 544, 32, 2080, 4128, 8224, 16416, 33824, 65568, 131104, 262144] kr ⟨rfl, by kernel_rfl, by kernel_rfl⟩ subT kr (fun hT15 => ?_)
  refine go [22,0,1048574,0,22,1,1048572,8,22,2,1048568,3,11,24,3,1048560,25,50,0,26,22,4,1048544,25,22,5,1048512,0] ?_
  refine G.part (t := 92) rfl (fun h92 => ?_) (fun h92 => ?_)
  ·refine go [22,6,1048448,0,22,7,1048320,8,22,8,1048064,3,6] ?_
   refine G.takeT hT15 (i := 9) (rem' := 1047552) rfl rfl rfl kr (fun _ _ _ h => h) rfl ((pv_load (v := z2.leftv) Tryz.underlying83 rfl rfl (by exact blk_cell selD (by rfl))).cast hvL) subT ?_
   refine go [22,10,1046528,5,22,11,1044480,0,22,12,1040384,8,22,13,1032192,3,7,24,14,1015808] ?_
   refine G.turnOp rfl rfl (G.val rfl rfl ((pv_load (v := z2.waitv) Tryz.underlying83 rfl rfl (by exact blk_cell selD (by rfl))).cast hvw2) ?_)
   refine go [26,22,15,983040,5,22,16,917504,6,22,17,786432,13,22,18,524288,2,22,19,0,1,27] ?_
   exact G.meet (()) trT (.consE rfl (congrArg Value.bool (by have h9 : z2.over = false := (by simpa using h92); rw [decide_eq_decide]; simp only [h9, true_and]; omega)) (.cons rfl (.cons rfl .nil))) subT
  refine go [23,6,1048448,23,7,1048320,23,8,1048064,23,9,1047552,23,10,1046528,23,11,1044480,23,12,1040384,23,13,1032192,23,14,1015808,23,15,983040,23,16,917504,23,17,786432,22,18,524288,2,22,19,0,1,27] ?_
  exact G.meet (()) trT (.consE rfl (congrArg Value.bool (by have h9 : z2.over = true := (by simpa using h92); simp [h9])) (.cons rfl (.cons rfl .nil))) subT
 intro _ hJ
 try dsimp only at hJ
 try dsimp only
 refine G.condP rfl (fun h86 => ?_) (fun h86 => ?_)
 ·have hnx : z2.over = false ∧ z2.left.length + z2.wait.length = 0 := by assumption
  have hq4 : z2.ph ≤ 4 := by have h1 := hj5 hjt hnx.1; have h2 : z2.ph = z1.ph := hs2.2.2.2.2.2.2.1; omega
  have hq1' : 1 ≤ z2.ph := by have h2 : z2.ph = z1.ph := hs2.2.2.2.2.2.2.1; omega
  have hg2 : PgOk z2 := pg_jud hg1 hpm2 hlk2
  refine go [10,0,0,2,8,2,3,5,2,50,0] ?_
  refine G.op rfl (G.val rfl rfl ((pv_add64 rfl rfl (by omega)).cast (v' := .int .i64 ((z2.ph + 1 : Nat) : Int)) (congrArg _ (by omega))) ?_)
  refine G.op rfl (G.cS rfl rfl rfl rfl Tryz.func49 rfl rfl subT may0 (enter_tr (F := F) (W := W) D z2 (z2.ph + 1) (by omega) hz2 hg2 (by have := hs2.1; change z2.rounds = z1.rounds at this; omega)) apT ?_)
  intro x112 hJ
  obtain ⟨z3, F3, W3⟩ := x112
  try dsimp only at hJ
  try dsimp only
  refine go [7,16,8,9,10,1,7,8,11] ?_
  rw [hT, takeB_jud hck hna hnf, if_neg (by rw [show (judP z1.pm.ph z1.pm X.nv.n ⟨k, ns, ids, bs⟩).1 = jb from hjb, hjt]; exact fun h => by cases h), if_pos (by rw [show (judP z1.pm.ph z1.pm X.nv.n ⟨k, ns, ids, bs⟩).2 = z2.pm from hpm2.symm]; exact pm_zero hnx)]
  exact G.doneX1 ((z3, F3, W3)) (by first | exact trivial | ((try dsimp only) <;> exact ⟨hJ.1, hJ.2.1, hJ.2.2.trans (by show enterM z2.pm (z2.pm.ph + 1) = _; rw [hpm2]; rfl)⟩)) rfl rfl rfl subT
 have hnn : ¬ (z2.over = false ∧ z2.left.length + z2.wait.length = 0) := by assumption
 refine go [13,16,8,9,10,1,7,8,11] ?_
 rw [hT, takeB_jud hck hna hnf, if_neg (by rw [show (judP z1.pm.ph z1.pm X.nv.n ⟨k, ns, ids, bs⟩).1 = jb from hjb, hjt]; exact fun h => by cases h), if_neg (by rw [show (judP z1.pm.ph z1.pm X.nv.n ⟨k, ns, ids, bs⟩).2 = z2.pm from hpm2.symm]; exact fun h => hnn (pm_zero' h))]
 exact G.doneX1 ((z2, F, W)) (by first | exact trivial | ((try dsimp only) <;> exact ⟨Up.refl _ _, hz2, hpm2⟩)) rfl rfl rfl subT
set_option maxHeartbeats 4000000 in
theorem mmakeX_tr {Ps : Nat → Prop} (c k t : Int) (v : Value) (xs : List ET) (hd : ∀ x ∈ xs, x.1.data.length ≤ 1048576) : Tr Tryz.prog 16 #[.int .i64 c, .int .i64 k, .int .i64 t, v] [slc rEV Ps v xs] []
 (TX (fun z : (Value × List IT) × Value × List CT => its z.1.2 = (mkM (⟨c, k, 0, t⟩ : Mh) (ens xs)).1.2 ∧ cks z.2.2 = (mkM (⟨c, k, 0, t⟩ : Mh) (ens xs)).2.1) (fun z => .tuple #[.agg #[.int .i64 (mkM (⟨c, k, 0, t⟩ : Mh) (ens xs)).1.1.c, .int .i64 (mkM (⟨c, k, 0, t⟩ : Mh) (ens xs)).1.1.k, .int .i64 (mkM (⟨c, k, 0, t⟩ : Mh) (ens xs)).1.1.n, .int .i64 (mkM (⟨c, k, 0, t⟩ : Mh) (ens xs)).1.1.t, z.1.1], z.2.1, .int .i64 (mkM (⟨c, k, 0, t⟩ : Mh) (ens xs)).2.2]) (fun z => [own 104 6 z.1.1 z.1.2.length (z.1.2.flatMap itC), datI 52 z.1.2, own 54 17 z.2.1 z.2.2.length (z.2.2.flatMap chC), datD 5 z.2.2])) := by
 refine Tr.of (l := [(0, .int .i64 c), (1, .int .i64 k), (2, .int .i64 t), (3, v)]) Tryz.func16 rfl (n := 64) rfl (.cons rfl (.cons rfl (.cons rfl (.cons rfl .nil)))) (fun w0 hro => ?_)
 have hv := ro1 hro
 have hv' := hv
 obtain ⟨av, cv, bv, fv, rfl, hcapv, hmaxv, hnilv, hadv, helv⟩ := Ro.openT hv
 have hel' := ens_length xs
 have hEn : ∀ e ∈ ens xs, EnOk e ∧ e.data.length ≤ 1048576 := fun e he => by obtain ⟨x, hx, rfl⟩ := List.mem_map.1 he; obtain ⟨q, hq, rfl⟩ := List.getElem_of_mem hx; exact ⟨Ro.evOk (helv q hq), hd _ hx⟩
 refine go [9,10,60,10] ?_
 intro b8
 refine go [1,1,7,8,9,9,10,0] ?_
 refine G.op rfl (G.cR rfl rfl rfl rfl Tryz.func50 rfl rfl (may1 (.old hv)) (tcheck_tr _ xs) ?_)
 refine go [0,2,7,2,7,1,1,7,8,9,10,0,2,14,7,8] ?_
 refine G.condP rfl (fun h25 => ?_) (fun h25 => ?_)
 ·refine go [9,10,2,50,11,0,20,1,1,7,8,11,12] ?_
  rw [mkM_bad (by assumption)]
  refine G.ownNil 104 6 ?_
  refine G.datINil 52 ?_
  refine go [60,11] ?_
  refine G.datDNil 5 ?_
  exact G.doneG (((.slice none 0 0, []), .slice none 0 0, [])) Y48 rfl (Rv.cellN (cs := [_, _, _, _, _]) rfl Tryz.underlying39 rfl kr Y46 (Rv.tmp rfl (Rv.tmp rfl Rv.nil))) rfl subT
 obtain ⟨h200, -, -⟩ := checkT_zero (es := ens xs) (by omega)
 have hz0 : (checkT (ens xs)).1 = 0 := by omega
 refine go [13,8,9,10] ?_
 refine G.op rfl (G.mapNew vID ok16 rfl ?_)
 intro bm
 refine G.op rfl (G.val rfl rfl (pv_buildSt (z := [.map none, .slice none 0 0]) (pl := [(0, 1), (1, 1)]) Tryz.underlying100 kr kr rfl flT) ?_)
 refine G.op rfl (G.box rfl rfl (cs := [_, _]) rfl ?_)
 intro b30
 refine go [1,7,8,9,10,0,0,0,2,50,11,60,10] ?_
 intro b14
 refine go [20,7,8,9,9,10,0,2,5,0,7,8,15] ?_
 refine G.ownNil 104 6 ?_
 refine G.datINil 52 ?_
 refine go [60,11] ?_
 refine G.datDNil 5 ?_
 refine G.loopK (X := Nat × Value × (List CT) × Value × (List IT)) (ts := [8, 9, 10, 13, 14, 35, 36]) (fun st => st.1 ≤ xs.length ∧ (cks st.2.2.1 = makeC ((ens xs).take st.1) ∧ its st.2.2.2.2 = ((ens xs).take st.1).map mkI ∧ st.2.2.1.length ≤ st.1 * 1048600 ∧ st.2.2.2.2.length = st.1)) (fun st => [(37, .int .i64 (st.1 : Int))]) (fun st => [blk b30 100 [.map (some bm), st.2.1], mpc vID ok16 bm (setL (nmsC st.2.2.1)), own 54 17 st.2.1 st.2.2.1.length (st.2.2.1.flatMap chC), datD 5 st.2.2.1, own 104 6 st.2.2.2.1 st.2.2.2.2.length (st.2.2.2.2.flatMap itC), datI 52 st.2.2.2.2, blk b14 39 [.int .i64 c, .int .i64 k, .int .i64 0, .int .i64 t, st.2.2.2.1]]) (fun st => xs.length - st.1) (x0 := (0, .slice none 0 0, [], .slice none 0 0, [])) (.cons rfl (.cons rfl (.cons rfl (.cons rfl (.cons rfl (.cons rfl (.cons rfl .nil))))))) subT (.cons .nil) apT (by first | exact trivial | ((try dsimp only) <;> exact ⟨Nat.zero_le _, ⟨rfl, rfl, Nat.zero_le _, rfl⟩⟩)) (.consE rfl veqT .nil) (fun st hJ => ?_)
 obtain ⟨i, vk, cks', vw, ys⟩ := st
 try dsimp only at hJ
 try dsimp only
 obtain ⟨hki, hJ⟩ := hJ
 obtain ⟨hck, hys, hcl, hyl⟩ := hJ
 refine go [9,10,2,9,7,8,9] ?_
 refine G.condP rfl (fun h38 => ?_) (fun h38 => ?_)
 ·have hlt : i < xs.length := by omega
  have hlt' : i < (ens xs).length := by omega
  have hdi := hd _ (List.getElem_mem hlt)
  have hmk : ((ens xs).take (i + 1)).map mkI = ((ens xs).take i).map mkI ++ [mkI xs[i].1] := by rw [List.take_succ_eq_append_getElem hlt', List.map_append, ens_get hlt]; rfl
  have hcm := makeC_take hlt'
  rw [ens_get hlt] at hcm
  have hEv := helv i hlt
  have hRv := Ro.evRng hEv
  have hDv := Ro.evDat hEv
  obtain ⟨hk1v, hk2v, hlpv, hldv, hltv⟩ := Ro.evOk hEv
  have hCv := Ro.one1 hDv
  refine go [13,8,9,15,9,10] ?_
  refine G.op rfl (G.val rfl rfl (pv_ixSl (sz := 5) (k := i) Tryz.underlying35 kr rfl rfl Y32 (by omega) (by omega)) ?_)
  refine go [2,50,5] ?_
  refine G.op rfl (G.alloc (z := .agg #[.string ⟨#[]⟩, .int .i64 0, .int .i64 0, .slice none 0 0, .string ⟨#[]⟩]) (cs := [.string ⟨#[]⟩, .int .i64 0, .int .i64 0, .slice none 0 0, .string ⟨#[]⟩]) rfl kr rfl ?_)
  intro b16
  refine go [20,7,8] ?_
  refine G.drawT (nn := 9) (p := [blk b30 _ _, mpc vID ok16 bm _, own 54 17 _ _ _, own 104 6 _ _ _, datI 52 _, datD 5 _, blk b14 _ _]) (rem := 511) [0, 1, 0, 0, 12, 16, 50, 127, 255] [0, 1, 0, 0, 12, 16, 34, 0, 192] kr ⟨rfl, by kernel_rfl, by kernel_rfl⟩ subT kr (fun hT9 => ?_)
  refine go [22,0,510,3,4,22,2,506,0] ?_
  refine G.twoT hT9 (i := 1) (j := 3) (rem' := 504) (rem'' := 498) kr kr kr ?_ ?_
  ·refine go [25,4,26,24,3,496,25,50,5,26,24,4,480] ?_
   refine G.turnOp rfl rfl (G.cS rfl rfl rfl rfl Tryz.func51 rfl rfl subT (may1 Y3) (citem_tr b30 bm _ _ cks' xs[i].1 (by omega) hdi) apT ?_)
   intro x45 hJ
   obtain ⟨vk2, ck2, vI2⟩ := x45
   try dsimp only at hJ
   try dsimp only
   obtain ⟨hc1, hc2⟩ : cks ck2 = collC (cks cks') (chunksC xs[i].1.data) ∧ ck2.length ≤ cks'.length + xs[i].1.data.length + 1 := hJ
   obtain ⟨it, hit⟩ : ∃ c, mkI xs[i].1 = c := ⟨_, rfl⟩
   rw [hit]
   refine G.ownFact (v := vI2) selT (fun h39 _ => ?_)
   refine go [26,24,5,448] ?_
   refine G.turnOp rfl rfl (G.buildSlice (z := .agg #[.string ⟨#[]⟩, .int .i64 0, .int .i64 0, .int .i64 0, .string ⟨#[]⟩, .slice none 0 0]) (sz := 6) (cs := itC (it, vI2)) rfl Tryz.underlying37 kr (by decide) (by decide) rfl kr ?_)
   intro b46
   refine go [26,24,6,384] ?_
   refine G.turnOp rfl rfl (G.append (k := ys.length) (j := 1) (cs := ys.flatMap itC) (news := itC (it, vI2)) (b := b46) (off := 0) rfl Tryz.underlying37 Tryz.infoIt rfl rfl rfl selT (fun _ => rfl) (fun h => by cases h) rfl (blk_news (k := 6) selT rfl) (itC_one h39) (by omega) (by omega) ?_)
   intro vn
   rw [itC_snoc ys (it, vI2), show ys.length + 1 = (ys ++ [(it, vI2)]).length from by rw [List.length_append]; rfl]
   refine G.datISnoc (ys := ys) (x := (it, vI2)) selT selT ?_
   refine G.ownFact (v := vn) selT (fun hvn _ => ?_)
   refine go [26,22,7,256,3,4,24,8,0,30,26,27,16,8,10,2,6,0,7] ?_
   exact G.next ((i + 1, (vk2, ck2, vn, ys ++ [(it, vI2)]))) Y34 (by (try dsimp only); omega) (.consE rfl veqT (.cons rfl (.cons rfl (.cons rfl (.cons rfl (.cons rfl (.cons rfl (.cons rfl .nil)))))))) subT
  refine go [25,50,5,26] ?_
  refine G.twoT hT9 (i := 1) (j := 4) (rem' := 496) (rem'' := 482) kr kr kr ?_ ?_
  ·refine go [25,4,26,24,4,480] ?_
   refine G.turnOp rfl rfl (G.cS rfl rfl rfl rfl Tryz.func51 rfl rfl subT (may1 Y3) (citem_tr b30 bm _ _ cks' xs[i].1 (by omega) hdi) apT ?_)
   intro x45 hJ
   obtain ⟨vk2, ck2, vI2⟩ := x45
   try dsimp only at hJ
   try dsimp only
   obtain ⟨hc1, hc2⟩ : cks ck2 = collC (cks cks') (chunksC xs[i].1.data) ∧ ck2.length ≤ cks'.length + xs[i].1.data.length + 1 := hJ
   obtain ⟨it, hit⟩ : ∃ c, mkI xs[i].1 = c := ⟨_, rfl⟩
   rw [hit]
   refine G.ownFact (v := vI2) selT (fun h39 _ => ?_)
   refine go [26,24,5,448] ?_
   refine G.turnOp rfl rfl (G.buildSlice (z := .agg #[.string ⟨#[]⟩, .int .i64 0, .int .i64 0, .int .i64 0, .string ⟨#[]⟩, .slice none 0 0]) (sz := 6) (cs := itC (it, vI2)) rfl Tryz.underlying37 kr (by decide) (by decide) rfl kr ?_)
   intro b46
   refine go [26,24,6,384] ?_
   refine G.turnOp rfl rfl (G.append (k := ys.length) (j := 1) (cs := ys.flatMap itC) (news := itC (it, vI2)) (b := b46) (off := 0) rfl Tryz.underlying37 Tryz.infoIt rfl rfl rfl selT (fun _ => rfl) (fun h => by cases h) rfl (blk_news (k := 6) selT rfl) (itC_one h39) (by omega) (by omega) ?_)
   intro vn
   rw [itC_snoc ys (it, vI2), show ys.length + 1 = (ys ++ [(it, vI2)]).length from by rw [List.length_append]; rfl]
   refine G.datISnoc (ys := ys) (x := (it, vI2)) selT selT ?_
   refine G.ownFact (v := vn) selT (fun hvn _ => ?_)
   refine go [26,22,7,256,3,4,24,8,0,30,26,27,16,8,10,2,6,0,7] ?_
   exact G.next ((i + 1, (vk2, ck2, vn, ys ++ [(it, vI2)]))) Y34 (by (try dsimp only); omega) (.consE rfl veqT (.cons rfl (.cons rfl (.cons rfl (.cons rfl (.cons rfl (.cons rfl (.cons rfl .nil)))))))) subT
  refine G.turnOp rfl rfl (G.cS rfl rfl rfl rfl Tryz.func51 rfl rfl subT (may1 Y3) (citem_tr b30 bm _ _ cks' xs[i].1 (by omega) hdi) apT ?_)
  intro x45 hJ
  obtain ⟨vk2, ck2, vI2⟩ := x45
  try dsimp only at hJ
  try dsimp only
  obtain ⟨hc1, hc2⟩ : cks ck2 = collC (cks cks') (chunksC xs[i].1.data) ∧ ck2.length ≤ cks'.length + xs[i].1.data.length + 1 := hJ
  obtain ⟨it, hit⟩ : ∃ c, mkI xs[i].1 = c := ⟨_, rfl⟩
  rw [hit]
  refine G.ownFact (v := vI2) selT (fun h39 _ => ?_)
  refine go [26] ?_
  refine G.twoT hT9 (i := 1) (j := 5) (rem' := 480) (rem'' := 450) kr kr kr ?_ ?_
  ·refine go [25,4,26,24,5,448] ?_
   refine G.turnOp rfl rfl (G.buildSlice (z := .agg #[.string ⟨#[]⟩, .int .i64 0, .int .i64 0, .int .i64 0, .string ⟨#[]⟩, .slice none 0 0]) (sz := 6) (cs := itC (it, vI2)) rfl Tryz.underlying37 kr (by decide) (by decide) rfl kr ?_)
   intro b46
   refine go [26,24,6,384] ?_
   refine G.turnOp rfl rfl (G.append (k := ys.length) (j := 1) (cs := ys.flatMap itC) (news := itC (it, vI2)) (b := b46) (off := 0) rfl Tryz.underlying37 Tryz.infoIt rfl rfl rfl selT (fun _ => rfl) (fun h => by cases h) rfl (blk_news (k := 6) selT rfl) (itC_one h39) (by omega) (by omega) ?_)
   intro vn
   rw [itC_snoc ys (it, vI2), show ys.length + 1 = (ys ++ [(it, vI2)]).length from by rw [List.length_append]; rfl]
   refine G.datISnoc (ys := ys) (x := (it, vI2)) selT selT ?_
   refine G.ownFact (v := vn) selT (fun hvn _ => ?_)
   refine go [26,22,7,256,3,4,24,8,0,30,26,27,16,8,10,2,6,0,7] ?_
   exact G.next ((i + 1, (vk2, ck2, vn, ys ++ [(it, vI2)]))) Y34 (by (try dsimp only); omega) (.consE rfl veqT (.cons rfl (.cons rfl (.cons rfl (.cons rfl (.cons rfl (.cons rfl (.cons rfl .nil)))))))) subT
  refine G.turnOp rfl rfl (G.buildSlice (z := .agg #[.string ⟨#[]⟩, .int .i64 0, .int .i64 0, .int .i64 0, .string ⟨#[]⟩, .slice none 0 0]) (sz := 6) (cs := itC (it, vI2)) rfl Tryz.underlying37 kr (by decide) (by decide) rfl kr ?_)
  intro b46
  refine go [26,24,1,448,25,4,26,24,6,384] ?_
  refine G.turnOp rfl rfl (G.append (k := ys.length) (j := 1) (cs := ys.flatMap itC) (news := itC (it, vI2)) (b := b46) (off := 0) rfl Tryz.underlying37 Tryz.infoIt rfl rfl rfl selT (fun _ => rfl) (fun h => by cases h) rfl (blk_news (k := 6) selT rfl) (itC_one h39) (by omega) (by omega) ?_)
  intro vn
  rw [itC_snoc ys (it, vI2), show ys.length + 1 = (ys ++ [(it, vI2)]).length from by rw [List.length_append]; rfl]
  refine G.datISnoc (ys := ys) (x := (it, vI2)) selT selT ?_
  refine G.ownFact (v := vn) selT (fun hvn _ => ?_)
  refine go [26,22,7,256,3,4,24,8,0,30,26,27,16,8,10,2,6,0,7] ?_
  exact G.next ((i + 1, (vk2, ck2, vn, ys ++ [(it, vI2)]))) Y34 (by (try dsimp only); omega) (.consE rfl veqT (.cons rfl (.cons rfl (.cons rfl (.cons rfl (.cons rfl (.cons rfl (.cons rfl .nil)))))))) subT
 obtain rfl : i = xs.length := by omega
 rw [← hel', List.take_length] at hck hys
 refine G.ownFact (v := vw) selT (fun hvw _ => ?_)
 refine G.ownFact (v := vk) selT (fun hvk _ => ?_)
 have hok : ∀ x ∈ ys, ItOk x.1 ∧ all16 x.1.ids := fun x hx => by have h1 : x.1 ∈ its ys := List.mem_map.2 ⟨x, hx, rfl⟩; rw [hys] at h1; obtain ⟨e, he, h2⟩ := List.mem_map.1 h1; rw [← h2]; exact ⟨mkI_okX (hEn e he).1 (hEn e he).2, mkI_16 e⟩
 refine go [18,14,14,19,8,9,9,10,2,50,5] ?_
 refine G.op rfl (G.cS rfl rfl rfl rfl Tryz.func17 rfl rfl subT (may1 (may_items selT selT hok)) (mbytes_tr (⟨c, k, 0, t⟩ : Mh) _ ys) apT ?_)
 intro x52 hJ
 try dsimp only at hJ
 try dsimp only
 refine go [0,2,7,2,7,1,1,7,8,9,10,0,2,14,7,8] ?_
 refine G.condP rfl (fun h56 => ?_) (fun h56 => ?_)
 ·refine go [9,10,2,50,11,0,20,1,1,7,8,11,12] ?_
  rw [mkM_no hz0 (by rw [← hys]; assumption), ← hys]
  refine G.ownNil 104 6 ?_
  refine G.datINil 52 ?_
  refine go [60,11] ?_
  refine G.datDNil 5 ?_
  exact G.doneG (((.slice none 0 0, []), .slice none 0 0, [])) Y48 rfl (Rv.cellN (cs := [_, _, _, _, _]) rfl Tryz.underlying39 rfl kr Y46 (Rv.tmp rfl (Rv.tmp rfl Rv.nil))) rfl subT
 refine go [13,8,9] ?_
 refine G.drawT (nn := 8) (p := [blk b8 _ _]) (rem := 255) [0, 0, 2, 4, 8, 1, 63, 127] [0, 0, 2, 4, 8, 1, 16, 0] kr ⟨rfl, by kernel_rfl, by kernel_rfl⟩ subT kr (fun hT14 => ?_)
 refine go [22,1,253,0,22,2,249,8,22,3,241,3,1,22,0,240,50,5,22,4,224,4,24,5,192,29,26,22,6,128,1,22,7,0,1,27,8,11] ?_
 rw [mkM_ok hz0 (by rw [← hys]; omega)]
 exact G.doneG (((vw, ys), vk, cks')) (by first | exact trivial | ((try dsimp only) <;> exact ⟨hys, hck⟩)) rfl (Rv.cellN (cs := [_, _, _, _, _]) rfl Tryz.underlying39 rfl kr Y46 (Rv.tmp rfl (Rv.tmp rfl Rv.nil))) rfl subT
set_option maxHeartbeats 4000000 in
theorem mmake_bad {Ps : Nat → Prop} (c k t : Int) (v : Value) (xs : List ET) (hbad : ¬ (checkT (ens xs)).1 = 0) : Tr Tryz.prog 16 #[.int .i64 c, .int .i64 k, .int .i64 t, v] [slc rEV Ps v xs] []
 (TX (fun z : (Value × List IT) × Value × List CT => its z.1.2 = (mkM (⟨c, k, 0, t⟩ : Mh) (ens xs)).1.2 ∧ cks z.2.2 = (mkM (⟨c, k, 0, t⟩ : Mh) (ens xs)).2.1) (fun z => .tuple #[.agg #[.int .i64 (mkM (⟨c, k, 0, t⟩ : Mh) (ens xs)).1.1.c, .int .i64 (mkM (⟨c, k, 0, t⟩ : Mh) (ens xs)).1.1.k, .int .i64 (mkM (⟨c, k, 0, t⟩ : Mh) (ens xs)).1.1.n, .int .i64 (mkM (⟨c, k, 0, t⟩ : Mh) (ens xs)).1.1.t, z.1.1], z.2.1, .int .i64 (mkM (⟨c, k, 0, t⟩ : Mh) (ens xs)).2.2]) (fun z => [own 104 6 z.1.1 z.1.2.length (z.1.2.flatMap itC), datI 52 z.1.2, own 54 17 z.2.1 z.2.2.length (z.2.2.flatMap chC), datD 5 z.2.2])) := by
 refine Tr.of (l := [(0, .int .i64 c), (1, .int .i64 k), (2, .int .i64 t), (3, v)]) Tryz.func16 rfl (n := 64) rfl (.cons rfl (.cons rfl (.cons rfl (.cons rfl .nil)))) (fun w0 hro => ?_)
 have hv := ro1 hro
 refine go [9,10,60,10] ?_
 intro b8
 refine go [1,1,7,8,9,9,10,0] ?_
 refine G.op rfl (G.cR rfl rfl rfl rfl Tryz.func50 rfl rfl (may1 (.old hv)) (tcheck_tr _ xs) ?_)
 refine go [0,2,7,2,7,1,1,7,8,9,10,0,2,14,7,8] ?_
 refine G.condP rfl (fun h25 => ?_) (fun h25 => ?_)
 ·refine go [9,10,2,50,11,0,20,1,1,7,8,11,12] ?_
  rw [mkM_bad (by assumption)]
  refine G.ownNil 104 6 ?_
  refine G.datINil 52 ?_
  refine go [60,11] ?_
  refine G.datDNil 5 ?_
  exact G.doneG (((.slice none 0 0, []), .slice none 0 0, [])) Y48 rfl (Rv.cellN (cs := [_, _, _, _, _]) rfl Tryz.underlying39 rfl kr Y46 (Rv.tmp rfl (Rv.tmp rfl Rv.nil))) rfl subT
 exfalso; omega
theorem errT_data {es : List En} {i : Nat} (h : i < es.length) (he : errT es i = 0) : es[i].data.length ≤ 1048576 := by
 rw [errT_get h] at he
 have h1 : oneM es[i] = 0 := by
  split at he
  ·cases he
  split at he
  ·cases he
  exact he
 unfold oneM at h1
 split at h1
 ·cases h1
 split at h1
 ·cases h1
 split at h1
 ·cases h1
 omega
theorem check_data {es : List En} (h : (checkT es).1 = 0) : ∀ e ∈ es, e.data.length ≤ 1048576 := fun e he => by
 obtain ⟨q, hq, rfl⟩ := List.getElem_of_mem he
 have h1 := (checkT_zero h).2.1 q hq
 exact errT_data hq h1
theorem mmakeA_tr {Ps : Nat → Prop} (c k t : Int) (v : Value) (xs : List ET) : Tr Tryz.prog 16 #[.int .i64 c, .int .i64 k, .int .i64 t, v] [slc rEV Ps v xs] []
 (TX (fun z : (Value × List IT) × Value × List CT => its z.1.2 = (mkM (⟨c, k, 0, t⟩ : Mh) (ens xs)).1.2 ∧ cks z.2.2 = (mkM (⟨c, k, 0, t⟩ : Mh) (ens xs)).2.1) (fun z => .tuple #[.agg #[.int .i64 (mkM (⟨c, k, 0, t⟩ : Mh) (ens xs)).1.1.c, .int .i64 (mkM (⟨c, k, 0, t⟩ : Mh) (ens xs)).1.1.k, .int .i64 (mkM (⟨c, k, 0, t⟩ : Mh) (ens xs)).1.1.n, .int .i64 (mkM (⟨c, k, 0, t⟩ : Mh) (ens xs)).1.1.t, z.1.1], z.2.1, .int .i64 (mkM (⟨c, k, 0, t⟩ : Mh) (ens xs)).2.2]) (fun z => [own 104 6 z.1.1 z.1.2.length (z.1.2.flatMap itC), datI 52 z.1.2, own 54 17 z.2.1 z.2.2.length (z.2.2.flatMap chC), datD 5 z.2.2])) := by
 by_cases h : (checkT (ens xs)).1 = 0
 ·exact mmakeX_tr c k t v xs fun x hx => check_data h x.1 (List.mem_map.2 ⟨x, hx, rfl⟩)
 exact mmake_bad c k t v xs h
theorem collC_all {Q : List UInt8 × List UInt8 → Prop} : ∀ (l : List (List UInt8)) (acc : List (List UInt8 × List UInt8)), (∀ p ∈ acc, Q p) → (∀ b ∈ l, Q (nameM b, b)) → ∀ p ∈ collC acc l, Q p
 | [], _, h, _ => h
 | b :: l, acc, h, hb => by
  refine collC_all l (takeC acc b) (fun p hp => ?_) fun c hc => hb c (List.mem_cons_of_mem _ hc)
  unfold takeC at hp
  split at hp
  ·exact h p hp
  rcases List.mem_append.1 hp with hp | hp
  ·exact h p hp
  obtain rfl : p = _ := by simpa using hp
  exact hb b (List.mem_cons_self ..)
theorem collC_few : ∀ (l : List (List UInt8)) (acc : List (List UInt8 × List UInt8)), (collC acc l).length ≤ acc.length + l.length
 | [], _ => Nat.le_refl _
 | b :: l, acc => by
  have h1 := collC_few l (takeC acc b)
  have h2 : (takeC acc b).length ≤ acc.length + 1 := by
   unfold takeC
   split
   ·omega
   rw [List.length_append]; exact Nat.le_refl _
  have h3 : collC acc (b :: l) = collC (takeC acc b) l := rfl
  rw [h3, List.length_cons]
  omega
theorem makeC_all {es : List En} {n : Nat} (hd : ∀ e ∈ es, e.data.length ≤ n) : ∀ p ∈ makeC es, p.1 = nameM p.2 ∧ p.2.length ≤ n := by
 refine collC_all _ _ (fun p hp => by cases hp) fun b hb => ?_
 obtain ⟨e, he, hb⟩ := List.mem_flatMap.1 hb
 exact ⟨rfl, Nat.le_trans (chunksC_le hb) (hd e he)⟩
theorem flat_few {n : Nat} : ∀ {es : List En}, (∀ e ∈ es, e.data.length ≤ n) → (es.flatMap fun e => chunksC e.data).length ≤ es.length * (n + 1)
 | [], _ => Nat.zero_le _
 | e :: es, h => by
  have h1 := flat_few (es := es) fun x hx => h x (List.mem_cons_of_mem _ hx)
  have h2 := chunksC_len e.data
  have h3 := h e (List.mem_cons_self ..)
  rw [List.flatMap_cons, List.length_append, List.length_cons, Nat.add_mul, Nat.one_mul]
  omega
theorem makeC_few {es : List En} {n : Nat} (hd : ∀ e ∈ es, e.data.length ≤ n) : (makeC es).length ≤ es.length * (n + 1) := Nat.le_trans (collC_few _ _) (by have := flat_few hd; simpa using this)
theorem mkM_zero {a : Mh} {es : List En} (h : (mkM a es).2.2 = 0) : mkM a es = ((a, es.map mkI), makeC es, 0) ∧ (checkT es).1 = 0 ∧ bytesE a (es.map mkI) = 0 := by
 by_cases h1 : (checkT es).1 = 0
 ·by_cases h2 : bytesE a (es.map mkI) = 0
  ·exact ⟨mkM_ok h1 h2, h1, h2⟩
  rw [mkM_no h1 h2] at h
  exact absurd h h2
 rw [mkM_bad h1] at h
 exact absurd h h1
theorem bytesO_len {a : Mh} {ms : List It} (ha : a.n = 0) (h : bytesE a ms = 0) : bytesO a ms = manB a ms ∧ 0 < (manB a ms).length ∧ (manB a ms).length ≤ 262144 := by
 refine ⟨if_pos h, ?_, ?_⟩
 ·have h1 : 0 < (hdM a ms.length).length := by
   rw [← hdM_app, ha]
   have h0 : (putM 0).length = 1 := (putM_length 0).trans rfl
   simp only [List.length_append, h0]
   omega
  unfold manB
  rw [List.length_append]
  omega
 unfold bytesE at h
 split at h
 ·split at h
  ·cases h
  omega
 rename_i h1
 exact absurd h h1
def newQ (c k t : Int) (es : List En) : PM := ⟨true, bytesO (mkM (⟨c, k, 0, t⟩ : Mh) es).1.1 (mkM (⟨c, k, 0, t⟩ : Mh) es).1.2, (mkM (⟨c, k, 0, t⟩ : Mh) es).2.1, k, t, 0, [], [], 0, [], 0, false, 0, 0⟩
def newP (c k t : Int) (es : List En) : PM := enterM (newQ c k t es) 1
theorem frz_cks {e e2 : TypeId} {F : Nat → Prop} {W : World} {v : Value} (ck : List CT) (h1 : (own e 17 v ck.length (ck.flatMap chC)).φ W ∧ ∀ b, (own e 17 v ck.length (ck.flatMap chC)).S b → F b) (h2 : (datD e2 ck).φ W ∧ ∀ b, (datD e2 ck).S b → F b) (hok : ∀ x ∈ ck, x.1.1.length = 16 ∧ x.1.2.length ≤ 140737488355328) : IsSl rCT F W v ck :=
 rows_sl (E := rCT) chC_len rfl h1.1 (fun b hb => h1.2 b hb) (fun b o x hx hP hr => ⟨hP, hr, (datD_sl h2.1 x hx).mono h2.2, hok x hx⟩)
theorem frz_ownB {e : TypeId} {F : Nat → Prop} {W : World} {v : Value} (xs : List UInt8) (h : (ownB e v xs).φ W ∧ ∀ b, (ownB e v xs).S b → F b) : IsSl rByte F W v xs := (own_isSl' (OwnB.own h.1) rfl fun _ _ => trivial).mono h.2
set_option maxHeartbeats 4000000 in
theorem pnew_bad {Ps : Nat → Prop} (c k t : Int) (v : Value) (xs : List ET) (hd : ∀ x ∈ xs, x.1.data.length ≤ 12000) (h : ¬ (mkM (⟨c, k, 0, t⟩ : Mh) (ens xs)).2.2 = 0) : Tr Tryz.prog 19 #[.int .i64 c, .int .i64 k, .int .i64 t, v] [slc rEV Ps v xs] []
 (T0 (.tuple #[.pointer none, .int .i64 (mkM (⟨c, k, 0, t⟩ : Mh) (ens xs)).2.2])) := by
 refine Tr.of (l := [(0, .int .i64 c), (1, .int .i64 k), (2, .int .i64 t), (3, v)]) Tryz.func19 rfl (n := 42) rfl (.cons rfl (.cons rfl (.cons rfl (.cons rfl .nil)))) (fun w0 hro => ?_)
 have hv := ro1 hro
 refine go [9,10,1,1,7,8,9,10,0,0,0,0] ?_
 refine G.op rfl (G.cS rfl rfl rfl rfl Tryz.func16 rfl rfl subT (may1 (.old hv)) (mmakeX_tr c k t _ xs (fun x hx => Nat.le_trans (hd x hx) (by omega))) apT ?_)
 intro x19 hJ
 obtain ⟨⟨vz, ys⟩, vk, ck⟩ := x19
 try dsimp only at hJ
 try dsimp only
 refine G.ownFact (v := vz) selT (fun hvz _ => ?_)
 refine G.ownFact (v := vk) selT (fun hvk _ => ?_)
 refine go [0] ?_
 refine G.op rfl (G.val rfl rfl (pv_extract (v := .agg #[.int .i64 (mkM (⟨c, k, 0, t⟩ : Mh) (ens xs)).1.1.c, .int .i64 (mkM (⟨c, k, 0, t⟩ : Mh) (ens xs)).1.1.k, .int .i64 (mkM (⟨c, k, 0, t⟩ : Mh) (ens xs)).1.1.n, .int .i64 (mkM (⟨c, k, 0, t⟩ : Mh) (ens xs)).1.1.t, vz]) rfl rfl) ?_)
 refine G.op rfl (G.val rfl rfl (pv_extract (v := vk) rfl rfl) ?_)
 refine G.op rfl (G.val rfl rfl (pv_extract (v := .int .i64 (mkM (⟨c, k, 0, t⟩ : Mh) (ens xs)).2.2) rfl rfl) ?_)
 refine go [60,10] ?_
 intro b10
 refine go [20,1,1,7,8,9,9,10,0,2,14,7,8] ?_
 refine G.condP rfl (fun h24 => ?_) (fun h24 => ?_)
 ·refine go [9,10,0,1,1,7,8,11,12] ?_
  exact G.done0G rfl (Rv.tmp rfl (Rv.tmp rfl Rv.nil)) Y7
 exfalso; omega
set_option maxHeartbeats 4000000 in
theorem pnew_ok {Ps : Nat → Prop} (c k t : Int) (v : Value) (xs : List ET) (hd : ∀ x ∈ xs, x.1.data.length ≤ 12000) (hn : xs.length ≤ 500) (hk : I64 k) (ht : I64 t) (h : (mkM (⟨c, k, 0, t⟩ : Mh) (ens xs)).2.2 = 0) : Tr Tryz.prog 19 #[.int .i64 c, .int .i64 k, .int .i64 t, v] [slc rEV Ps v xs] []
 (TX (fun x : PZ × Nat × (Nat → Prop) × World => PvOk x.2.2.1 x.2.2.2 x.1 ∧ x.1.pm = newP c k t (ens xs)) (fun x => .tuple #[.pointer (some ⟨x.2.1, 0, none⟩), .int .i64 0]) (fun x => [blk x.2.1 85 [.bool x.1.made, x.1.bv, x.1.lv, .int .i64 x.1.cm, .int .i64 x.1.tk, .int .i64 (x.1.ph : Nat), x.1.leftv, x.1.waitv, .int .i64 (x.1.asked : Nat), x.1.lacksv, .int .i64 (x.1.rounds : Nat), .bool x.1.over, .int .i64 x.1.num, .int .i64 x.1.e], frz x.2.2.1 x.2.2.2, que 92 5 x.1.waitv x.1.wait.length (x.1.wait.flatMap awC), own 54 17 x.1.lacksv x.1.lacks.length (x.1.lacks.flatMap chC)])) := by
 refine Tr.of (l := [(0, .int .i64 c), (1, .int .i64 k), (2, .int .i64 t), (3, v)]) Tryz.func19 rfl (n := 42) rfl (.cons rfl (.cons rfl (.cons rfl (.cons rfl .nil)))) (fun w0 hro => ?_)
 have hv := ro1 hro
 have hel' := ens_length xs
 obtain ⟨hmk, hz0, hb0⟩ := mkM_zero h
 obtain ⟨hbo, hb1, hb2⟩ := bytesO_len (by rfl) hb0
 obtain ⟨av, cv, bv, fv, rfl, _, _, _, _, hel⟩ := Ro.openT hv
 have hEn : ∀ e ∈ ens xs, EnOk e ∧ e.data.length ≤ 12000 := fun e he => by obtain ⟨x, hx, rfl⟩ := List.mem_map.1 he; obtain ⟨q, hq, rfl⟩ := List.getElem_of_mem hx; exact ⟨Ro.evOk (hel q hq), hd _ hx⟩
 refine go [9,10,1,1,7,8,9,10,0,0,0,0] ?_
 refine G.op rfl (G.cS rfl rfl rfl rfl Tryz.func16 rfl rfl subT (may1 (.old hv)) (mmakeX_tr c k t _ xs (fun x hx => Nat.le_trans (hd x hx) (by omega))) apT ?_)
 intro x19 hJ
 obtain ⟨⟨vz, ys⟩, vk, ck⟩ := x19
 try dsimp only at hJ
 try dsimp only
 rw [hmk] at hJ
 rw [hmk]
 obtain ⟨hys, hck⟩ := hJ
 refine G.ownFact (v := vz) selT (fun hvz _ => ?_)
 refine G.ownFact (v := vk) selT (fun hvk _ => ?_)
 have hok : ∀ x ∈ ys, ItOk x.1 ∧ all16 x.1.ids := fun x hx => by have h1 : x.1 ∈ its ys := List.mem_map.2 ⟨x, hx, rfl⟩; rw [hys] at h1; obtain ⟨e, he, h2⟩ := List.mem_map.1 h1; rw [← h2]; exact ⟨mkI_okX (hEn e he).1 (by have := (hEn e he).2; omega), mkI_16 e⟩
 have hcA : ∀ x ∈ ck, x.1.1 = nameM x.1.2 ∧ x.1.2.length ≤ 12000 := fun x hx => makeC_all (fun e he => (hEn e he).2) x.1 (by have hcc : cks ck = makeC (ens xs) := hck; rw [← hcc]; exact List.mem_map.2 ⟨x, hx, rfl⟩)
 have hcl : ck.length ≤ 10000000 := by have h1 := makeC_few (n := 12000) (fun e he => (hEn e he).2); have hcc : cks ck = makeC (ens xs) := hck; rw [← hcc, hel'] at h1; simp only [cks, List.length_map] at h1; omega
 refine go [0] ?_
 refine G.op rfl (G.val rfl rfl (pv_extract (v := .agg #[.int .i64 (⟨c, k, 0, t⟩ : Mh).c, .int .i64 (⟨c, k, 0, t⟩ : Mh).k, .int .i64 (⟨c, k, 0, t⟩ : Mh).n, .int .i64 (⟨c, k, 0, t⟩ : Mh).t, vz]) rfl rfl) ?_)
 refine G.op rfl (G.val rfl rfl (pv_extract (v := vk) rfl rfl) ?_)
 refine go [2,50,12,60,10] ?_
 intro b10
 refine go [20,1,1,7,8,9,9,10,0,2,14,7,8,60,0,13,8,9,10,0,0,0] ?_
 refine G.op rfl (G.val rfl rfl (pv_buildSt (z := [.bool false, .slice none 0 0, .slice none 0 0, .int .i64 0, .int .i64 0, .int .i64 0, .slice none 0 0, .slice none 0 0, .int .i64 0, .slice none 0 0, .int .i64 0, .bool false, .int .i64 0, .int .i64 0]) (pl := [(0, 1), (1, 1), (2, 1), (3, 1), (4, 1), (5, 1), (6, 1), (7, 1), (8, 1), (9, 1), (10, 1), (11, 1), (12, 1), (13, 1)]) Tryz.underlying85 kr kr rfl flT) ?_)
 refine G.op rfl (G.box rfl rfl (cs := [_, _, _, _, _, _, _, _, _, _, _, _, _, _]) rfl ?_)
 intro b30
 refine go [1,7,8,9,10,0,2,50,5] ?_
 refine G.op rfl (G.cS rfl rfl rfl rfl Tryz.func17 rfl rfl subT (may1 (may_items selT selT hok)) (mbytes_tr (⟨c, k, 0, t⟩ : Mh) _ ys) apT ?_)
 intro x34 hJ
 try dsimp only at hJ
 try dsimp only
 rw [show its ys = (ens xs).map mkI from hys, hbo]
 refine G.ownBFact (v := x34) selT (fun hvb => ?_)
 refine go [0] ?_
 refine G.op rfl (G.val rfl rfl (pv_extract (v := x34) rfl rfl) ?_)
 refine go [2,7,2,8,2,3,1,21,7,8,9,10] ?_
 refine G.frz0 (fun W9 => ?_)
 refine G.freeze (F := fun _ => False) (W := W9) (p := [own 54 17 vk ck.length (ck.flatMap chC), datD 5 ck, ownB 5 x34 _]) selT subT (fun F1 W1 hU hC => ?_)
 have q1 := hC _ (List.mem_cons_self ..)
 have q2 := hC _ (List.mem_cons_of_mem _ (List.mem_cons_self ..))
 have q3 := hC _ (List.mem_cons_of_mem _ (List.mem_cons_of_mem _ (List.mem_cons_self ..)))
 have h16 : ∀ x ∈ ck, x.1.1.length = 16 := fun x hx => by rw [(hcA x hx).1]; exact nameM_len _
 have hzz : PvOk F1 W1 (⟨true, x34, vk, k, t, 0, .slice none 0 0, .slice none 0 0, 0, .slice none 0 0, 0, false, 0, 0, manB (⟨c, k, 0, t⟩ : Mh) ((ens xs).map mkI), ck, [], [], []⟩ : PZ) := ⟨frz_ownB _ q3, frz_cks ck q1 q2 (fun x hx => ⟨h16 x hx, by have := (hcA x hx).2; omega⟩), (fun x hx => ⟨(datD_sl q2.1 x hx).mono q2.2, h16 x hx, by have := (hcA x hx).2; omega⟩), IsSl.nil _ _ _, (fun x hx => by cases hx), (fun x hx => by cases hx), (fun x hx => by cases hx)⟩
 have hgg : PgOk (⟨true, x34, vk, k, t, 0, .slice none 0 0, .slice none 0 0, 0, .slice none 0 0, 0, false, 0, 0, manB (⟨c, k, 0, t⟩ : Mh) ((ens xs).map mkI), ck, [], [], []⟩ : PZ) := ⟨hk, ht, by show (manB _ _).length ≤ _; omega, hcl, Nat.zero_le _, Nat.zero_le _⟩
 refine G.queNil 92 5 ?_
 refine go [60,11,0] ?_
 refine G.op rfl (G.cS rfl rfl rfl rfl Tryz.func49 rfl rfl subT may0 (enter_tr (F := F1) (W := W1) b30 (⟨true, x34, vk, k, t, 0, .slice none 0 0, .slice none 0 0, 0, .slice none 0 0, 0, false, 0, 0, manB (⟨c, k, 0, t⟩ : Mh) ((ens xs).map mkI), ck, [], [], []⟩ : PZ) 1 (by omega) hzz hgg (Nat.zero_le _)) apT ?_)
 intro x40 hJ
 obtain ⟨z3, F3, W3⟩ := x40
 try dsimp only at hJ
 try dsimp only
 refine go [7,8,9,10,0,1,1,7,8,11] ?_
 exact G.doneX2 ((z3, b30, F3, W3)) (by first | exact trivial | ((try dsimp only) <;> exact ⟨hJ.2.1, hJ.2.2.trans (by unfold newP newQ; rw [hmk]; show enterM (PZ.pm _) 1 = _; unfold PZ.pm; dsimp only; rw [hbo, show cks ck = makeC (ens xs) from hck]; rfl)⟩)) rfl rfl rfl rfl subT
theorem core_end {p : PM} (h : PcOk p) (n e : Int) : PmOk (endP p n e) :=
 ⟨⟨h.made, h.cm, h.tk, h.b0, h.b, h.l, h.ph, h.rounds, h.r0, h.asked, h.lacks⟩, (fun _ n hn => by simp [endP] at hn), (fun _ n hn => by simp [endP] at hn), (fun ho => by cases ho), (fun _ => ⟨rfl, rfl⟩), Nat.zero_le _⟩
theorem core_pop {p : PM} (h : PcOk p) (w : List Nt) : PcOk { p with wait := w } := ⟨h.made, h.cm, h.tk, h.b0, h.b, h.l, h.ph, h.rounds, h.r0, h.asked, h.lacks⟩
theorem core_jud {ph : Nat} {p : PM} {x y : Nt} (h : PcOk p) (hx : ph = 3 → p.asked + x.ids.length ≤ p.l.length ∧ p.lacks.length ≤ p.asked) : PcOk (judP ph p x y).2 := by
 obtain ⟨h1, h2, h3, h4, h5, h6, h7, h8, h9⟩ := judP_same ph p x y
 have ha : (judP ph p x y).2.asked ≤ p.l.length ∧ (judP ph p x y).2.lacks.length ≤ p.l.length := by
  unfold judP
  split
  ·unfold begunP; split <;> exact ⟨h.asked, h.lacks⟩
  ·exact ⟨h.asked, h.lacks⟩
  ·have h3 := hx rfl
   unfold hadP
   split
   ·exact ⟨h.asked, h.lacks⟩
   split
   ·exact ⟨h.asked, h.lacks⟩
   rename_i h1 _
   have h2 := lackT_len p.lacks p.l p.asked y.ns y.ns.length
   exact ⟨h3.1, by show (lackT p.lacks p.l p.asked y.ns y.ns.length).length ≤ _; omega⟩
  ·exact ⟨h.asked, h.lacks⟩
  unfold committedP; dsimp only; split <;> exact ⟨h.asked, h.lacks⟩
 exact ⟨h6.trans h.made, by rw [h2]; exact h.cm, by rw [h3]; exact h.tk, by rw [h4]; exact h.b0, by rw [h4]; exact h.b, by rw [h5]; exact h.l, by rw [h7]; exact h.ph, by rw [h1]; exact h.rounds, by rw [h7, h1]; exact h.r0, by rw [h5]; exact ha.1, by rw [h5]; exact ha.2⟩
theorem sum_batch (ids : List (List UInt8)) : ∀ c, 16 * c ≤ ids.length + 15 → (((List.range c).map (batch ids)).map fun n => n.ids.length).sum = min (16 * c) ids.length
 | 0, _ => by simp
 | c + 1, h => by
  rw [batch_app, List.map_append, List.sum_append, sum_batch ids c (by omega)]
  show _ + (((ids.drop (16 * c)).take 16).length + 0) = _
  rw [List.length_take, List.length_drop]
  omega
theorem sum_queries (ids : List (List UInt8)) : ((queriesL ids).map fun n => n.ids.length).sum = ids.length := by
 unfold queriesL
 rw [sum_batch ids _ (by omega)]
 omega
theorem phs_few {p : PM} (h : PcOk p) (k : Nat) : (phsM p k).2.length ≤ 100000000 := by
 have h1 := h.b
 have h2 := h.l
 have h3 := h.lacks
 unfold phsM partsL partsT queriesL
 split <;> simp <;> omega
theorem ent_ok : ∀ (f : Nat) (p : PM) (k : Nat), PcOk { p with ph := k } → p.left = [] → p.wait = [] → p.asked = 0 → p.over = false → k + f = 6 → 1 ≤ k → k ≤ 5 → (k = 3 → p.rounds ≤ 2) → PmOk (entF f p k)
 | 0, _, k, _, _, _, _, _, h, _, h2, _ => by omega
 | f + 1, p, k, hc, hl, hw, ha, ho, hk, h1, h2, hr => by
  have hfew := phs_few hc k
  have hw0 : p.wait.length = 0 := by rw [hw]; rfl
  by_cases hn : (phsM { p with ph := k } k).2 = []
  ·have e : entF (f + 1) p k = entF f (phsM { p with ph := k } k).1 (k + 1) := if_pos hn
   rw [e]
   rcases (show k = 1 ∨ k = 2 ∨ k = 3 ∨ k = 4 ∨ k = 5 by omega) with rfl | rfl | rfl | rfl | rfl
   ·cases hn
   ·exfalso
    have h3 := congrArg List.length hn
    have h4 := hc.b0
    simp [phsM, partsL, partsT] at h3
    change 0 < p.b.length at h4
    omega
   ·exact ent_ok f _ 4 ⟨hc.made, hc.cm, hc.tk, hc.b0, hc.b, hc.l, ⟨by show 1 ≤ 4; omega, by show 4 ≤ 5; omega⟩, by have := hr rfl; show p.rounds + 1 ≤ 3; omega, fun h => by change 4 ≤ 2 at h; omega, hc.asked, Nat.zero_le _⟩ hl hw ha ho (by omega) (by omega) (by omega) (fun h => by omega)
   ·exact ent_ok f _ 5 ⟨hc.made, hc.cm, hc.tk, hc.b0, hc.b, hc.l, ⟨by show 1 ≤ 5; omega, by show 5 ≤ 5; omega⟩, hc.rounds, fun h => by change 5 ≤ 2 at h; omega, hc.asked, hc.lacks⟩ hl hw ha ho (by omega) (by omega) (by omega) (fun h => by omega)
   cases hn
  have e : entF (f + 1) p k = { (phsM { p with ph := k } k).1 with left := (phsM { p with ph := k } k).2 } := if_neg hn
  rw [e]
  rcases (show k = 1 ∨ k = 2 ∨ k = 3 ∨ k = 4 ∨ k = 5 by omega) with rfl | rfl | rfl | rfl | rfl
  ·exact ⟨⟨hc.made, hc.cm, hc.tk, hc.b0, hc.b, hc.l, hc.ph, hc.rounds, hc.r0, hc.asked, hc.lacks⟩, (fun h => by cases h), (fun h => by cases h), (fun _ h => by cases h), (fun h => absurd (ho.symm.trans h) (by simp)), Nat.le_trans (Nat.add_le_add hfew (Nat.le_of_eq hw0)) (by omega)⟩
  ·refine ⟨⟨hc.made, hc.cm, hc.tk, hc.b0, hc.b, hc.l, hc.ph, hc.rounds, hc.r0, hc.asked, hc.lacks⟩, (fun _ n hn => ?_), (fun h => by cases h), (fun _ h => by cases h), (fun h => absurd (ho.symm.trans h) (by simp)), Nat.le_trans (Nat.add_le_add hfew (Nat.le_of_eq hw0)) (by omega)⟩
   change n ∈ partsL p.b ++ p.wait at hn
   rw [hw, List.append_nil] at hn
   obtain ⟨i, hi, rfl⟩ := List.mem_map.1 hn
   have h3 := List.mem_range.1 hi
   have h4 : p.b.length ≤ 100000000 := hc.b
   exact ⟨1000 * i, rfl, by omega⟩
  ·refine ⟨⟨hc.made, hc.cm, hc.tk, hc.b0, hc.b, hc.l, hc.ph, by have := hr rfl; show p.rounds + 1 ≤ 3; omega, fun h => by change 3 ≤ 2 at h; omega, hc.asked, Nat.zero_le _⟩, (fun h => by cases h), (fun h => by cases h), (fun _ _ => ⟨?_, Nat.zero_le _⟩), (fun h => absurd (ho.symm.trans h) (by simp)), Nat.le_trans (Nat.add_le_add hfew (Nat.le_of_eq hw0)) (by omega)⟩
   show p.asked + ((p.wait ++ queriesL (p.l.map (·.1))).map fun n => n.ids.length).sum = p.l.length
   rw [hw, ha, List.nil_append, sum_queries, List.length_map, Nat.zero_add]
  ·refine ⟨⟨hc.made, hc.cm, hc.tk, hc.b0, hc.b, hc.l, hc.ph, hc.rounds, hc.r0, hc.asked, hc.lacks⟩, (fun h => by cases h), (fun _ n hn => ?_), (fun _ h => by cases h), (fun h => absurd (ho.symm.trans h) (by simp)), Nat.le_trans (Nat.add_le_add hfew (Nat.le_of_eq hw0)) (by omega)⟩
   change n ∈ p.lacks.map give ++ p.wait at hn
   rw [hw, List.append_nil] at hn
   obtain ⟨c, hc, rfl⟩ := List.mem_map.1 hn
   rfl
  exact ⟨⟨hc.made, hc.cm, hc.tk, hc.b0, hc.b, hc.l, hc.ph, hc.rounds, hc.r0, hc.asked, hc.lacks⟩, (fun h => by cases h), (fun h => by cases h), (fun _ h => by cases h), (fun h => absurd (ho.symm.trans h) (by simp)), Nat.le_trans (Nat.add_le_add hfew (Nat.le_of_eq hw0)) (by omega)⟩
theorem enter_ok {p : PM} {k : Nat} (h : PcOk p) (ho : p.over = false) (h1 : 1 ≤ k) (h2 : k ≤ 5) (hr : k = 3 → p.rounds ≤ 2) (hr0 : k ≤ 2 → p.rounds = 0) : PmOk (enterM p k) :=
 ent_ok (6 - k) _ k ⟨h.made, h.cm, h.tk, h.b0, h.b, h.l, ⟨h1, h2⟩, h.rounds, hr0, Nat.zero_le _, h.lacks⟩ rfl rfl rfl ho (by omega) h1 h2 hr
theorem send_ok {p : PM} (h : PmOk p) : PmOk (sendP p).2 := by
 unfold sendP
 split
 ·exact h
 rename_i hn
 cases e : p.left with
 | nil => exact absurd (.inl e) hn
 | cons x t =>
  have hm : ∀ n, n ∈ t ++ (p.wait ++ [x]) → n ∈ p.left ++ p.wait := fun n hn => by
   rw [e]
   simp only [List.mem_append, List.mem_cons, List.not_mem_nil, or_false] at hn ⊢
   rcases hn with h | h | h
   ·exact .inl (.inr h)
   ·exact .inr h
   exact .inl (.inl h)
  refine ⟨⟨h.made, h.cm, h.tk, h.b0, h.b, h.l, h.ph, h.rounds, h.r0, h.asked, h.lacks⟩, (fun hp n hn => h.two hp n (hm n hn)), (fun hp n hn => h.four hp n (hm n hn)), (fun ho hp => ?_), (fun ho => ?_), ?_⟩
  ·have h3 := h.three ho hp
   rw [e] at h3
   refine ⟨?_, h3.2⟩
   show p.asked + (((p.wait ++ [x]) ++ t).map fun n => n.ids.length).sum = p.l.length
   rw [List.append_assoc]
   exact h3.1
  ·have := (h.over ho).1
   rw [e] at this
   cases this
  have := h.few
  rw [e] at this
  show t.length + (p.wait ++ [x]).length ≤ _
  rw [List.length_cons] at this
  rw [List.length_append, List.length_singleton]
  omega
theorem judP_over {ph : Nat} {p : PM} {x y : Nt} (ho : p.over = false) (h : (judP ph p x y).2.over = true) : (judP ph p x y).2.left = [] ∧ (judP ph p x y).2.wait = [] := by
 unfold judP at h ⊢
 split at h
 ·unfold begunP at h ⊢
  split at h
  ·rename_i hk; rw [if_pos hk]; exact ⟨rfl, rfl⟩
  rw [ho] at h; cases h
 ·change p.over = true at h; rw [ho] at h; cases h
 ·unfold hadP at h
  split at h
  ·rw [ho] at h; cases h
  split at h
  ·rw [ho] at h; cases h
  change p.over = true at h; rw [ho] at h; cases h
 ·change p.over = true at h; rw [ho] at h; cases h
 unfold committedP at h ⊢
 dsimp only at h ⊢
 split at h
 ·rename_i hk; rw [if_pos hk]; exact ⟨rfl, rfl⟩
 rw [ho] at h; cases h
theorem judP_lists {ph : Nat} {p : PM} {x y : Nt} (h : (judP ph p x y).2.over = false) : (judP ph p x y).2.left = p.left ∧ (judP ph p x y).2.wait = p.wait ∧ p.over = false := by
 unfold judP at h ⊢
 split at h
 ·unfold begunP at h ⊢
  split at h
  ·cases h
  rename_i hk; rw [if_neg hk]; exact ⟨rfl, rfl, h⟩
 ·exact ⟨rfl, rfl, h⟩
 ·unfold hadP at h ⊢
  split at h
  ·rename_i hk; rw [if_pos hk]; exact ⟨rfl, rfl, h⟩
  rename_i hk
  rw [if_neg hk]
  split at h
  ·rename_i hk2; rw [if_pos hk2]; exact ⟨rfl, rfl, h⟩
  rename_i hk2; rw [if_neg hk2]; exact ⟨rfl, rfl, h⟩
 ·exact ⟨rfl, rfl, h⟩
 unfold committedP at h ⊢
 dsimp only at h ⊢
 split at h
 ·cases h
 rename_i hk; rw [if_neg hk]; exact ⟨rfl, rfl, h⟩
theorem judP_had {ph : Nat} {p : PM} {x y : Nt} (h : ph = 3) : judP ph p x y = hadP p x y := by
 subst h
 rfl
theorem had_true {p : PM} {x y : Nt} (h : (hadP p x y).1 = true) : (hadP p x y).2.asked = p.asked + x.ids.length ∧ (hadP p x y).2.lacks.length ≤ p.lacks.length + x.ids.length := by
 unfold hadP at h ⊢
 split at h
 ·cases h
 rename_i hk
 rw [if_neg hk]
 split at h
 ·cases h
 rename_i hk2
 rw [if_neg hk2]
 have h2 := lackT_len p.lacks p.l p.asked y.ns y.ns.length
 exact ⟨rfl, by show (lackT p.lacks p.l p.asked y.ns y.ns.length).length ≤ _; omega⟩
theorem take_ok {p : PM} (y : Nt) (h : PmOk p) : PmOk (takeM p y).2 := by
 unfold takeM
 split
 ·exact h
 rename_i hn
 have ho : p.over = false := by
  cases e : p.over with
  | false => rfl
  | true => exact absurd (.inl e) hn
 cases e : p.wait with
 | nil => exact absurd (.inr e) hn
 | cons x t =>
  show PmOk (takeB { p with wait := t } x y)
  have hc := core_pop h.toPcOk t
  have hx : p.ph = 3 → p.asked + x.ids.length ≤ p.l.length ∧ p.lacks.length ≤ p.asked := fun hp => by
   have h3 := h.three ho hp
   rw [e, List.cons_append, List.map_cons, List.sum_cons] at h3
   exact ⟨by omega, h3.2⟩
  unfold takeB
  split
  ·exact core_end hc _ _
  split
  ·rename_i h1
   have h2 := of_decide_eq_true h1.2
   exact enter_ok hc ho (by omega) (by omega) (fun _ => by have := h2.2.2.1; change p.rounds ≤ 2; change p.rounds < 3 at this; omega) (fun h => by omega)
  split
  ·exact core_end hc _ _
  have hj : PcOk (judP p.ph { p with wait := t } x y).2 := core_jud hc hx
  obtain ⟨s1, -, -, -, s5, -, s7, -, s9⟩ := judP_same p.ph { p with wait := t } x y
  split
  ·exact core_end hj _ _
  rename_i hjt
  have hjt : (judP p.ph { p with wait := t } x y).1 = true := by simpa using hjt
  split
  ·rename_i h1
   have h2 := jud5 h.ph hjt h1.1
   exact enter_ok hj h1.1 (by omega) (by rw [s7]; show p.ph + 1 ≤ 5; omega) (fun hk => by
    rw [s7] at hk
    change p.ph + 1 = 3 at hk
    rw [s1]
    have := h.r0 (by omega)
    show p.rounds ≤ 2
    omega) (fun hk => by
    rw [s7] at hk
    change p.ph + 1 ≤ 2 at hk
    rw [s1]
    exact h.r0 (by omega))
  have hjo := judP_over (ph := p.ph) (p := { p with wait := t }) (x := x) (y := y) ho
  have hjl := judP_lists (ph := p.ph) (p := { p with wait := t }) (x := x) (y := y)
  have hfew := h.few
  rw [e, List.length_cons] at hfew
  have hm : ∀ n, n ∈ p.left ++ t → n ∈ p.left ++ p.wait := fun n hn => by
   rw [e]
   rcases List.mem_append.1 hn with h | h
   ·exact List.mem_append_left _ h
   exact List.mem_append_right _ (List.mem_cons_of_mem _ h)
  generalize hq : (judP p.ph { p with wait := t } x y).2 = q at *
  have hin : ∀ n, n ∈ q.left ++ q.wait → n ∈ p.left ++ p.wait := fun n hn => by
   cases hov : q.over with
   | true =>
    have := hjo hov
    rw [this.1, this.2] at hn
    cases hn
   | false =>
    have := hjl hov
    rw [this.1, this.2.1] at hn
    exact hm n hn
  refine ⟨hj, (fun hp n hn => h.two (by rw [← hp, s7]) n (hin n hn)), (fun hp n hn => h.four (by rw [← hp, s7]) n (hin n hn)), (fun hov hp => ?_), hjo, ?_⟩
  ·have h3 : p.ph = 3 := by rw [← hp, s7]
   have h4 := h.three ho h3
   have h5 := hjl hov
   rw [e, List.cons_append, List.map_cons, List.sum_cons] at h4
   rw [judP_had h3] at hjt hq
   have h6 := had_true (p := { p with wait := t }) (x := x) (y := y) hjt
   rw [hq] at h6
   rw [h5.1, h5.2.1, h6.1, s5]
   refine ⟨?_, ?_⟩
   ·show p.asked + x.ids.length + ((t ++ p.left).map fun n => n.ids.length).sum = p.l.length
    omega
   have := h6.2
   change q.lacks.length ≤ p.lacks.length + x.ids.length at this
   show _ ≤ p.asked + x.ids.length
   omega
  change q.left.length + q.wait.length ≤ p.left.length + t.length at s9
  omega
theorem new_ok {c k t : Int} {es : List En} (hk : I64 k) (ht : I64 t) (hd : ∀ e ∈ es, e.data.length ≤ 12000) (hn : es.length ≤ 500) (h : (mkM ⟨c, k, 0, t⟩ es).2.2 = 0) : PmOk (newP c k t es) := by
 obtain ⟨hmk, hz0, hb0⟩ := mkM_zero h
 obtain ⟨hbo, hb1, hb2⟩ := bytesO_len (by rfl) hb0
 have hl := makeC_few hd
 refine ent_ok 5 _ 1 ⟨rfl, hk, ht, ?_, ?_, ?_, ⟨by show 1 ≤ 1; omega, by show 1 ≤ 5; omega⟩, Nat.zero_le _, fun _ => rfl, Nat.zero_le _, Nat.zero_le _⟩ rfl rfl rfl rfl (by omega) (by omega) (by omega) (fun h => by omega)
 all_goals simp only [newQ, hmk]
 ·show 0 < (bytesO _ _).length
  rw [hbo]
  exact hb1
 ·show (bytesO _ _).length ≤ _
  rw [hbo]
  omega
 show (makeC es).length ≤ _
 omega
theorem may_nilZ {w0 : World} {S : Nat → Prop} {m : List Ck} {α : Type} {E : Rdr α} : May w0 S m (slc E (fun _ => False) (.slice none 0 0) []) := .old ⟨IsSl.nil _ _ _, fun b hb => hb.elim⟩
def en1 : En := ⟨[120], 2, 0, [120], []⟩
def a1 : Mh := ⟨1, 2, 0, 3⟩
def oneT (b : Nat) : List ET := [(en1, .slice (some ⟨b, 0, none⟩) 1 1)]
def oneB (b : Nat) : Ck := slc rByte (· = b) (.slice (some ⟨b, 0, none⟩) 1 1) [120]
theorem oneT_ens (b : Nat) : ens (oneT b) = [en1] := rfl
theorem oneT_ok {b : Nat} : ∀ x ∈ oneT b, EnOk x.1 := fun x hx => by
 obtain rfl : x = (en1, .slice (some ⟨b, 0, none⟩) 1 1) := by simpa [oneT] using hx
 exact (show EnOk en1 from ⟨⟨by decide, by decide⟩, ⟨by decide, by decide⟩, by decide, by decide, by decide⟩)
theorem oneT_small (b : Nat) : ∀ x ∈ oneT b, x.1.data.length ≤ 12000 := fun x hx => by
 obtain rfl : x = (en1, .slice (some ⟨b, 0, none⟩) 1 1) := by simpa [oneT] using hx
 show 1 ≤ 12000
 decide
theorem oneT_dat {b : Nat} {w : World} (h : (oneB b).φ w) : ∀ x ∈ oneT b, IsSl rByte (oneB b).S w x.2 x.1.data := fun x hx => by
 obtain rfl : x = (en1, .slice (some ⟨b, 0, none⟩) 1 1) := by simpa [oneT] using hx
 exact h
section
variable {P : Program} {n : Nat} {w0 : World} {S : Nat → Prop} {l : Fr} {m : List Ck} {Q : Exit → Act → World → Prop} {K : Act → World → Prop}
theorem may_treeZ {e : TypeId} {c : Ck} {v : Value} {xs : List ET} {r r' : List Ck} (h : Sel m (ownT e v xs) r) (h' : Sel m c r') (hok : ∀ x ∈ xs, EnOk x.1) (hd : ∀ w, c.φ w → ∀ x ∈ xs, IsSl rByte c.S w x.2 x.1.data) : May w0 S m (slc rEV (fun b => v.ownBlock = some b ∨ c.S b) v xs) :=
 .mix (fun w hw => ownT_sl (hw.holds _ h.mem) (fun b hb => .inl hb) hok fun x hx => (hd w (hw.holds _ h'.mem) x hx).mono fun k hk => .inr hk) fun b hb => .inr (by
  rcases hb with hb | hb
  ·exact ⟨_, h.mem, hb⟩
  exact ⟨_, h'.mem, hb⟩)
end
def sendsP (p : PM) (kd : Int) (ns : List Int) : Bool := (sendP p).1.isSome && (decide ((sentN p).k = kd) && decide ((sentN p).ns = ns))
def takesP (p : PM) (kd : Int) (ns : List Int) : Bool := decide ((takeM p ⟨kd, ns, [], []⟩).1 = 0)
def overP (p : PM) (n e : Int) : Bool := p.over && (decide (p.num = n) && decide (p.e = e))
set_option maxHeartbeats 4000000 in
theorem one27_tr : Tr Tryz.prog 43 #[] [] [] (TX (fun _ : Nat × Nat => True) (fun z => .slice (some ⟨z.1, 0, none⟩) 1 1) (fun z => [ownT 102 (.slice (some ⟨z.1, 0, none⟩) 1 1) (oneT z.2), oneB z.2])) := by
 refine Tr.of (l := []) Tryz.func43 rfl (n := 5) rfl Fa.nil (fun w0 hro => ?_)
 refine go [9,10,1,7,8,9,10] ?_
 refine G.op rfl (G.lit1 (vs := [.int .u8 120]) rfl Tryz.underlying31 kr rfl (by decide) (by decide) rfl rfl ?_)
 intro b2
 refine G.op rfl (G.constB (b := b2) (xs := [120]) rfl Tryz.underlying31 Tryz.underlying5 rfl (by decide) selT ?_)
 refine G.op rfl (G.val rfl rfl (pv_buildSt (z := [.string ⟨#[]⟩, .int .i64 0, .int .i64 0, .slice none 0 0, .string ⟨#[]⟩]) (pl := [(0, 1), (1, 1), (2, 1), (3, 1), (4, 1)]) Tryz.underlying102 kr kr rfl flT) ?_)
 refine G.op rfl (G.buildSlice (z := .agg #[.string ⟨#[]⟩, .int .i64 0, .int .i64 0, .slice none 0 0, .string ⟨#[]⟩]) (sz := 5) (cs := flatT (oneT b2)) rfl Tryz.underlying35 kr (by decide) (by decide) rfl kr ?_)
 intro b5
 refine G.ownBlk (b := b5) (k := 1) (sz := 5) selT rfl (by omega) ?_
 refine go [1,7,8,11] ?_
 exact G.doneX1 ((b5, b2)) trT rfl rfl rfl subT
def id1 : List UInt8 := nameM [120]
def it1 : It := ⟨[120], 2, 0, 1, [], [id1]⟩
theorem mk1 : mkM a1 [en1] = ((a1, [it1]), [(id1, [120])], 0) := by kernel_rfl
theorem mk1_0 : (mkM ⟨1, 2, 0, 3⟩ [en1]).2.2 = 0 := by
 show (mkM a1 [en1]).2.2 = 0
 rw [mk1]
def B1 : List UInt8 := bytesO a1 [it1]
theorem its1_ok {ys : List IT} (h : its ys = [it1]) : ∀ x ∈ ys, ItOk x.1 ∧ all16 x.1.ids := fun x hx => by
 have h1 : x.1 ∈ its ys := List.mem_map.2 ⟨x, hx, rfl⟩
 rw [h] at h1
 have h2 : x.1 = it1 := by simpa using h1
 have h3 : it1 = mkI en1 := by kernel_rfl
 rw [h2, h3]
 exact ⟨mkI_okX (show EnOk en1 from ⟨⟨by decide, by decide⟩, ⟨by decide, by decide⟩, by decide, by decide, by decide⟩) (by show 1 ≤ 1048576; decide), mkI_16 en1⟩
theorem B1_len : B1.length = 28 := by kernel_rfl
def pA : PM := newP 1 2 3 [en1]
theorem pA_ok : PmOk pA := new_ok ⟨by decide, by decide⟩ ⟨by decide, by decide⟩ (fun e he => by obtain rfl : e = en1 := (by simpa using he); show 1 ≤ 12000; decide) (by show 1 ≤ 500; decide) (by show (mkM a1 [en1]).2.2 = 0; rw [mk1])
set_option maxHeartbeats 4000000 in
theorem begun27_tr : Tr Tryz.prog 9 #[] [] [] (TX (fun x : PZ × Nat × (Nat → Prop) × World => PvOk x.2.2.1 x.2.2.2 x.1 ∧ x.1.pm = pA) (fun x => .pointer (some ⟨x.2.1, 0, none⟩)) (fun x => [blk x.2.1 85 [.bool x.1.made, x.1.bv, x.1.lv, .int .i64 x.1.cm, .int .i64 x.1.tk, .int .i64 (x.1.ph : Nat), x.1.leftv, x.1.waitv, .int .i64 (x.1.asked : Nat), x.1.lacksv, .int .i64 (x.1.rounds : Nat), .bool x.1.over, .int .i64 x.1.num, .int .i64 x.1.e], frz x.2.2.1 x.2.2.2, que 92 5 x.1.waitv x.1.wait.length (x.1.wait.flatMap awC), own 54 17 x.1.lacksv x.1.lacks.length (x.1.lacks.flatMap chC)])) := by
 refine Tr.of (l := []) Tryz.func9 rfl (n := 11) rfl Fa.nil (fun w0 hro => ?_)
 refine go [9,10,1,7,8,9,10] ?_
 refine G.op rfl (G.cS rfl rfl rfl rfl Tryz.func43 rfl rfl subT may0 (one27_tr) apT ?_)
 intro x4 hJ
 obtain ⟨bo, bd⟩ := x4
 try dsimp only at hJ
 try dsimp only
 refine G.op rfl (G.cS rfl rfl rfl rfl Tryz.func19 rfl rfl subT (may1 (may_treeZ (c := oneB bd) selT selT oneT_ok (fun w h => oneT_dat h))) (pnew_ok 1 2 3 _ (oneT bd) (oneT_small bd) (by show 1 ≤ 500; decide) ⟨by decide, by decide⟩ ⟨by decide, by decide⟩ (by rw [oneT_ens]; exact mk1_0)) apT ?_)
 intro x5 hJ
 obtain ⟨z1, D1, F1, W1⟩ := x5
 try dsimp only at hJ
 try dsimp only
 refine go [0] ?_
 refine G.op rfl (G.val rfl rfl (pv_extract (v := .pointer (some ⟨D1, 0, none⟩)) rfl rfl) ?_)
 refine go [2,50,12,1,1,7,8,9,9,10,0,2,14,7,8,60,0,13,8,9,10,0,1,7,8,11] ?_
 exact G.doneX1 ((z1, D1, F1, W1)) Y30 rfl rfl rfl subT
theorem sent_i64 {F : Nat → Prop} {W : World} {z : PZ} (hz : PvOk F W z) : ∀ x ∈ (sentN z.pm).ns, I64 x := fun x hx => by
 unfold sentN sendP at hx
 split at hx
 ·cases hx
 change x ∈ ((aws z.left).head?.getD ntz).ns at hx
 cases e : z.left with
 | nil => rw [e] at hx; cases hx
 | cons X t =>
  rw [e] at hx
  obtain ⟨h1, -⟩ := (hz.leftO X (by rw [e]; exact List.mem_cons_self ..)).1
  obtain ⟨ad, cap, b, off, h2, -, -, -, -, h3⟩ := h1.1.open
  obtain ⟨i, hi, rfl⟩ := List.getElem_of_mem (show x ∈ X.nv.n.ns from hx)
  exact (h3 i hi).2.2
theorem sent_16 {F : Nat → Prop} {W : World} {z : PZ} (hz : PvOk F W z) : all16 (sentN z.pm).ids := fun x hx => by
 unfold sentN sendP at hx
 split at hx
 ·cases hx
 change x ∈ ((aws z.left).head?.getD ntz).ids at hx
 cases e : z.left with
 | nil => rw [e] at hx; cases hx
 | cons X t =>
  rw [e] at hx
  obtain ⟨h1, -⟩ := (hz.leftO X (by rw [e]; exact List.mem_cons_self ..)).1
  obtain ⟨ad, cap, b, off, h2, -, -, -, -, h3⟩ := h1.2.1.open
  obtain ⟨i, hi, rfl⟩ := List.getElem_of_mem (show x ∈ X.nv.n.ids from hx)
  exact (h3 i hi).1
set_option maxHeartbeats 4000000 in
theorem sends_tr {F Pv : Nat → Prop} {W : World} (D : Nat) (z : PZ) (kd : Int) (v : Value) (ns : List Int) (hz : PvOk F W z) : Tr Tryz.prog 11 #[.pointer (some ⟨D, 0, none⟩), .int .i64 kd, v] [slc rInt Pv v ns] [blk D 85 [.bool z.made, z.bv, z.lv, .int .i64 z.cm, .int .i64 z.tk, .int .i64 (z.ph : Nat), z.leftv, z.waitv, .int .i64 (z.asked : Nat), z.lacksv, .int .i64 (z.rounds : Nat), .bool z.over, .int .i64 z.num, .int .i64 z.e], frz F W, que 92 5 z.waitv z.wait.length (z.wait.flatMap awC), own 54 17 z.lacksv z.lacks.length (z.lacks.flatMap chC)]
 (TX (fun x : PZ => PvOk F W x ∧ x.pm = (sendP z.pm).2) (fun _ => .bool (sendsP z.pm kd ns)) (fun x => [blk D 85 [.bool x.made, x.bv, x.lv, .int .i64 x.cm, .int .i64 x.tk, .int .i64 (x.ph : Nat), x.leftv, x.waitv, .int .i64 (x.asked : Nat), x.lacksv, .int .i64 (x.rounds : Nat), .bool x.over, .int .i64 x.num, .int .i64 x.e], frz F W, que 92 5 x.waitv x.wait.length (x.wait.flatMap awC), own 54 17 x.lacksv x.lacks.length (x.lacks.flatMap chC)])) := by
 refine Tr.of (l := [(0, .pointer (some ⟨D, 0, none⟩)), (1, .int .i64 kd), (2, v)]) Tryz.func11 rfl (n := 27) rfl (.cons rfl (.cons rfl (.cons rfl .nil))) (fun w0 hro => ?_)
 have hv := ro1 hro
 have h64 := sent_i64 hz
 refine go [9,10,1,7,8,9,10,0] ?_
 refine G.op rfl (G.cS rfl rfl rfl rfl Tryz.func21 rfl rfl subT may0 (send_tr (F := F) (W := W) D z hz) apT ?_)
 intro x11 hJ
 obtain ⟨z1, uN, uI, uB⟩ := x11
 try dsimp only at hJ
 try dsimp only
 refine G.ownFact (v := uN) selT (fun huN _ => ?_)
 refine G.ownFact (v := uI) selT (fun huI _ => ?_)
 refine G.ownFact (v := uB) selT (fun huB _ => ?_)
 obtain ⟨sb, hsb⟩ : ∃ c, (sendP z.pm).1.isSome = c := ⟨_, rfl⟩
 rw [hsb]
 refine go [0] ?_
 refine G.op rfl (G.val rfl rfl (pv_extract (v := .agg #[.int .i64 (sentN z.pm).k, uN, uI, uB]) rfl rfl) ?_)
 refine G.op rfl (G.val rfl rfl (pv_extract (v := .bool sb) rfl rfl) ?_)
 refine go [60,5] ?_
 intro b7
 refine go [20,1,7,8,9,10,0,0] ?_
 refine G.part (t := 15) rfl (fun h15 => ?_) (fun h15 => ?_)
 ·refine go [3,3,0,3,4,3,0,3,13,2,2,0] ?_
  refine G.partP (t := 21) rfl (fun h21 => ?_) (fun h21 => ?_)
  ·refine go [3,3,1,3,4,3,0] ?_
   refine G.want rfl rfl rfl (G.cR rfl rfl rfl rfl Tryz.func45 rfl rfl (may2 (may_ownN selT h64) (.old hv)) (sameInts_tr _ _ (sentN z.pm).ns ns) ?_)
   refine go [2,2,1,7,8,11] ?_
   exact G.doneX1 (z1) Y30 rfl rfl (by show Value.bool _ = Value.bool (sendsP z.pm kd ns); unfold sendsP; rw [hsb]; simp [*]) subT
  refine go [4,4,4,4,2,2,1,7,8,11] ?_
  exact G.doneX1 (z1) Y30 rfl rfl (by show Value.bool _ = Value.bool (sendsP z.pm kd ns); unfold sendsP; rw [hsb]; simp [*]) subT
 refine go [4,4,4,4,2,2,0,4,4,4,4,2,2,1,7,8,11] ?_
 exact G.doneX1 (z1) Y30 rfl rfl (by show Value.bool _ = Value.bool (sendsP z.pm kd ns); unfold sendsP; rw [hsb]; simp [*]) subT
set_option maxHeartbeats 4000000 in
theorem takes_tr {F Pv : Nat → Prop} {W : World} (D : Nat) (z : PZ) (kd : Int) (v : Value) (ns : List Int) (hz : PvOk F W z) (hp : PmOk z.pm) : Tr Tryz.prog 10 #[.pointer (some ⟨D, 0, none⟩), .int .i64 kd, v] [slc rInt Pv v ns] [blk D 85 [.bool z.made, z.bv, z.lv, .int .i64 z.cm, .int .i64 z.tk, .int .i64 (z.ph : Nat), z.leftv, z.waitv, .int .i64 (z.asked : Nat), z.lacksv, .int .i64 (z.rounds : Nat), .bool z.over, .int .i64 z.num, .int .i64 z.e], frz F W, que 92 5 z.waitv z.wait.length (z.wait.flatMap awC), own 54 17 z.lacksv z.lacks.length (z.lacks.flatMap chC)]
 (TX (fun x : PZ × (Nat → Prop) × World => Up F W x.2.1 x.2.2 ∧ PvOk x.2.1 x.2.2 x.1 ∧ x.1.pm = (takeM z.pm ⟨kd, ns, [], []⟩).2) (fun _ => .bool (takesP z.pm kd ns)) (fun x => [blk D 85 [.bool x.1.made, x.1.bv, x.1.lv, .int .i64 x.1.cm, .int .i64 x.1.tk, .int .i64 (x.1.ph : Nat), x.1.leftv, x.1.waitv, .int .i64 (x.1.asked : Nat), x.1.lacksv, .int .i64 (x.1.rounds : Nat), .bool x.1.over, .int .i64 x.1.num, .int .i64 x.1.e], frz x.2.1 x.2.2, que 92 5 x.1.waitv x.1.wait.length (x.1.wait.flatMap awC), own 54 17 x.1.lacksv x.1.lacks.length (x.1.lacks.flatMap chC)])) := by
 refine Tr.of (l := [(0, .pointer (some ⟨D, 0, none⟩)), (1, .int .i64 kd), (2, v)]) Tryz.func10 rfl (n := 13) rfl (.cons rfl (.cons rfl (.cons rfl .nil))) (fun w0 hro => ?_)
 have hv := ro1 hro
 have hvv := hv
 obtain ⟨av, cv, bv, fv, rfl, _⟩ := Ro.open hvv
 refine go [9,10,1,7,8,9,10,0,0,0,2,50,2] ?_
 refine G.op rfl (G.cS rfl rfl rfl rfl Tryz.func14 rfl rfl subT (may3 (.old hv) may_nilZ may_nilZ) (ptake_tr (F := F) (W := W) kd _ _ _ ns [] [] D z hz hp (by have := hp.l; rwa [pm_l] at this)) apT ?_)
 intro x11 hJ
 obtain ⟨z1, F1, W1⟩ := x11
 try dsimp only at hJ
 try dsimp only
 refine go [2,13,1,7,8,11] ?_
 exact G.doneX1 ((z1, F1, W1)) Y30 rfl rfl rfl subT
set_option maxHeartbeats 4000000 in
theorem over27_tr (D : Nat) (z : PZ) (n e : Int) : Tr Tryz.prog 13 #[.pointer (some ⟨D, 0, none⟩), .int .i64 n, .int .i64 e] [blk D 85 [.bool z.made, z.bv, z.lv, .int .i64 z.cm, .int .i64 z.tk, .int .i64 (z.ph : Nat), z.leftv, z.waitv, .int .i64 (z.asked : Nat), z.lacksv, .int .i64 (z.rounds : Nat), .bool z.over, .int .i64 z.num, .int .i64 z.e]] [] (T0 (.bool (overP z.pm n e))) := by
 refine Tr.of (l := [(0, .pointer (some ⟨D, 0, none⟩)), (1, .int .i64 n), (2, .int .i64 e)]) Tryz.func13 rfl (n := 27) rfl (.cons rfl (.cons rfl (.cons rfl .nil))) (fun w0 hro => ?_)
 have hP := ro1 hro
 refine go [9,10,1,7,8,9,10,0] ?_
 refine G.op rfl (G.cR rfl rfl rfl rfl Tryz.func28 rfl rfl (may1 (.old hP)) (done_tr D z) ?_)
 refine go [0] ?_
 refine G.op rfl (G.val rfl rfl (pv_extract (v := .int .i64 z.num) rfl rfl) ?_)
 refine G.op rfl (G.val rfl rfl (pv_extract (v := .int .i64 z.e) rfl rfl) ?_)
 refine G.op rfl (G.val rfl rfl (pv_extract (v := .bool z.over) rfl rfl) ?_)
 refine go [1,1,1,7,8,9,10,0,0] ?_
 refine G.part (t := 17) rfl (fun h17 => ?_) (fun h17 => ?_)
 ·refine go [3,0,3,0,3,13,2,2,0] ?_
  refine G.partP (t := 22) rfl (fun h22 => ?_) (fun h22 => ?_)
  ·refine go [3,0,3,0,3,13,2,2,1,7,8,11] ?_
   exact G.done0G rfl (Rv.tmp rfl Rv.nil) Y45
  refine go [4,4,4,2,2,1,7,8,11] ?_
  exact G.done0G rfl (Rv.tmp rfl Rv.nil) Y45
 refine go [4,4,4,2,2,0,4,4,4,2,2,1,7,8,11] ?_
 exact G.done0G rfl (Rv.tmp rfl Rv.nil) Y45
def ans (k : Int) (ns : List Int) : Nt := ⟨k, ns, [], []⟩
def pB : PM := (sendP pA).2
def pC : PM := (takeM pB (ans 16 [0])).2
def pD : PM := (sendP pC).2
def pE : PM := (takeM pD (ans 16 [28])).2
def pF : PM := (sendP pE).2
def pG : PM := (takeM pF (ans 17 [0])).2
def pH : PM := (sendP pG).2
def pI : PM := (takeM pH ⟨18, [], [id1], []⟩).2
def pJ : PM := (sendP pI).2
def pK : PM := (takeM pJ (ans 19 [9])).2
theorem pB_ok : PmOk pB := send_ok pA_ok
theorem pC_ok : PmOk pC := take_ok _ pB_ok
theorem pD_ok : PmOk pD := send_ok pC_ok
theorem pE_ok : PmOk pE := take_ok _ pD_ok
theorem pF_ok : PmOk pF := send_ok pE_ok
theorem pG_ok : PmOk pG := take_ok _ pF_ok
theorem pH_ok : PmOk pH := send_ok pG_ok
theorem pI_ok : PmOk pI := take_ok _ pH_ok
theorem pJ_ok : PmOk pJ := send_ok pI_ok
theorem id1_len : id1.length = 16 := nameM_len _
theorem news_id {w : World} {b : Nat} {x : List UInt8} (h : News w b 0 (flatI [x])) : w.rangeAt b (0 + 0 * 16) (x.map vByte) := fun j v hj => by
 have := h j v (by simpa [flatI] using hj)
 simpa using this
theorem all_i64 (l : List Int) (h : (l.all fun x => decide (-9223372036854775808 ≤ x) && decide (x ≤ 9223372036854775807)) = true) : ∀ x ∈ l, I64 x := fun x hx => by
 have := List.all_eq_true.1 h x hx
 rw [Bool.and_eq_true] at this
 exact ⟨of_decide_eq_true this.1, of_decide_eq_true this.2⟩
theorem kA1 : sendsP pA 1 [2, 3, 28] = true := by kernel_rfl
theorem kB0 : (sendP pB).1.isSome = false := by kernel_rfl
theorem kB1 : (sendP pB).2 = pB := by kernel_rfl
theorem kB2 : takesP pB 16 [0] = true := by kernel_rfl
theorem kC1 : sendsP pC 2 [0] = true := by kernel_rfl
theorem kD1 : takesP pD 16 [28] = true := by kernel_rfl
theorem kE0 : (sendP pE).1.isSome = true := by kernel_rfl
theorem kE1 : (sentN pE).k = 3 := by kernel_rfl
theorem kE2 : (sentN pE).ids = [id1] := by kernel_rfl
theorem kF1 : takesP pF 17 [0] = true := by kernel_rfl
theorem kG0 : (sendP pG).1.isSome = true := by kernel_rfl
theorem kG1 : (sentN pG).k = 4 := by kernel_rfl
theorem kG2 : (sentN pG).ids = [id1] := by kernel_rfl
theorem kG3 : (sentN pG).bs = [120] := by kernel_rfl
theorem kH1 : (takeM pH ⟨18, [], [id1], []⟩).1 = 0 := by kernel_rfl
theorem kI1 : sendsP pI 5 [] = true := by kernel_rfl
theorem kJ1 : takesP pJ 19 [9] = true := by kernel_rfl
theorem kK1 : overP pK 9 0 = true := by kernel_rfl
set_option maxHeartbeats 4000000 in
theorem asked27_tr : Tr Tryz.prog 8 #[] [] [] (TX (fun x : PZ × Nat × (Nat → Prop) × World => PvOk x.2.2.1 x.2.2.2 x.1 ∧ x.1.pm = pF) (fun x => .pointer (some ⟨x.2.1, 0, none⟩)) (fun x => [blk x.2.1 85 [.bool x.1.made, x.1.bv, x.1.lv, .int .i64 x.1.cm, .int .i64 x.1.tk, .int .i64 (x.1.ph : Nat), x.1.leftv, x.1.waitv, .int .i64 (x.1.asked : Nat), x.1.lacksv, .int .i64 (x.1.rounds : Nat), .bool x.1.over, .int .i64 x.1.num, .int .i64 x.1.e], frz x.2.2.1 x.2.2.2, que 92 5 x.1.waitv x.1.wait.length (x.1.wait.flatMap awC), own 54 17 x.1.lacksv x.1.lacks.length (x.1.lacks.flatMap chC)])) := by
 refine Tr.of (l := []) Tryz.func8 rfl (n := 96) rfl Fa.nil (fun w0 hro => ?_)
 refine go [9,10,1,7,8,9,10] ?_
 refine G.op rfl (G.cS rfl rfl rfl rfl Tryz.func43 rfl rfl subT may0 (one27_tr) apT ?_)
 intro x12 hJ
 obtain ⟨bo, bd⟩ := x12
 try dsimp only at hJ
 try dsimp only
 refine G.op rfl (G.cS rfl rfl rfl rfl Tryz.func16 rfl rfl subT (may1 (may_treeZ (c := oneB bd) selT selT oneT_ok (fun w h => oneT_dat h))) (mmakeA_tr 1 2 3 _ (oneT bd)) apT ?_)
 intro x13 hJ
 obtain ⟨⟨vz, ys⟩, vk, ck⟩ := x13
 try dsimp only at hJ
 try dsimp only
 rw [oneT_ens, show ((⟨1, 2, 0, 3⟩ : Mh)) = a1 from rfl, mk1] at hJ
 rw [oneT_ens, show ((⟨1, 2, 0, 3⟩ : Mh)) = a1 from rfl, mk1]
 obtain ⟨hys, hck⟩ := hJ
 refine G.ownFact (v := vz) selT (fun hvz _ => ?_)
 refine G.ownFact (v := vk) selT (fun hvk _ => ?_)
 have hok := its1_ok hys
 refine go [0] ?_
 refine G.op rfl (G.val rfl rfl (pv_extract (v := .agg #[.int .i64 1, .int .i64 2, .int .i64 0, .int .i64 3, vz]) rfl rfl) ?_)
 refine G.op rfl (G.val rfl rfl (pv_extract (v := vk) rfl rfl) ?_)
 refine go [2,50,12,60,10] ?_
 intro b1
 refine go [20,1,1,7,8,9,10,2,50,5] ?_
 refine G.op rfl (G.cS rfl rfl rfl rfl Tryz.func17 rfl rfl subT (may1 (may_items selT selT hok)) (mbytes_tr a1 _ ys) apT ?_)
 intro x19 hJ
 try dsimp only at hJ
 try dsimp only
 rw [show its ys = [it1] from hys, show bytesE a1 [it1] = 0 from by kernel_rfl]
 refine G.ownBSl (v := x19) selT (fun ad19 cap19 hx19 => ?_)
 rw [show (bytesO a1 [it1]).length = 28 from B1_len] at hx19
 subst hx19
 refine go [0] ?_
 refine G.op rfl (G.val rfl rfl (pv_extract (v := .slice ad19 28 cap19) rfl rfl) ?_)
 refine go [2,50,12,1,1,7,8,9,10] ?_
 refine G.op rfl (G.cS rfl rfl rfl rfl Tryz.func9 rfl rfl subT may0 (begun27_tr) apT ?_)
 intro x22 hJ
 obtain ⟨zA, DA, FA, WA⟩ := x22
 try dsimp only at hJ
 try dsimp only
 obtain ⟨hzA, hpzA⟩ := hJ
 refine go [1,7,8,9,9,10,0,2,14,0,3,0,3,14,2,2,0,3,0,3,50,4,2,2,0,3,0,3,0,3,5] ?_
 refine G.want rfl rfl rfl (G.lit1 (vs := [_, _, _]) rfl Tryz.underlying29 kr rfl (by decide) (by decide) rfl rfl ?_)
 intro b37
 refine G.ownBlk (b := b37) (k := 3) (sz := 1) selT rfl (by omega) ?_
 refine G.want rfl rfl rfl (G.cS rfl rfl rfl rfl Tryz.func11 rfl rfl subT (may1 (may_ownN selT (all_i64 _ (by decide)))) (sends_tr (F := FA) (W := WA) DA zA 1 _ [2, 3, 28] hzA) apT ?_)
 intro x38 hJ
 try dsimp only at hJ
 try dsimp only
 rw [hpzA, kA1]
 obtain ⟨hx38, hpx38⟩ := hJ
 replace hpx38 : x38.pm = pB := hpx38.trans (by rw [hpzA]; try rfl)
 refine go [3,25,2,2,7,8,60,0,13,8,9,10,0] ?_
 refine G.op rfl (G.cS rfl rfl rfl rfl Tryz.func21 rfl rfl subT may0 (send_tr (F := FA) (W := WA) DA x38 hx38) apT ?_)
 intro x43 hJ
 obtain ⟨z2, uNz2, uIz2, uBz2⟩ := x43
 try dsimp only at hJ
 try dsimp only
 have h16z2 := sent_16 hx38
 have h64z2 := sent_i64 hx38
 rw [hpx38] at h16z2 h64z2
 rw [hpx38, kB0]
 obtain ⟨hz2, hpz2⟩ := hJ
 replace hpz2 : z2.pm = pB := hpz2.trans (by rw [hpx38]; first | rfl | exact kB1)
 refine G.ownFact (v := uNz2) selT (fun huNz2 _ => ?_)
 refine G.ownFact (v := uBz2) selT (fun huBz2 _ => ?_)
 refine G.ownFact (v := uIz2) selT (fun huIz2 _ => ?_)
 refine go [0] ?_
 refine G.op rfl (G.val rfl rfl (pv_extract (v := .agg #[.int .i64 (sentN pB).k, uNz2, uIz2, uBz2]) rfl rfl) ?_)
 refine G.op rfl (G.val rfl rfl (pv_extract (v := .bool false) rfl rfl) ?_)
 refine go [60,5] ?_
 intro b7
 refine go [20,1,7,8,9,9,10,0,0,3,0,60,19] ?_
 intro b49
 refine G.ownBlk (b := b49) (k := 1) (sz := 1) selT rfl (by omega) ?_
 refine G.want rfl rfl rfl (G.cS rfl rfl rfl rfl Tryz.func10 rfl rfl subT (may1 (may_ownN selT (all_i64 _ (by decide)))) (takes_tr (F := FA) (W := WA) DA z2 16 _ [0] hz2 (by rw [hpz2]; exact pB_ok)) apT ?_)
 intro x50 hJ
 obtain ⟨z3, Fz3, Wz3⟩ := x50
 try dsimp only at hJ
 try dsimp only
 rw [hpz2, kB2]
 obtain ⟨hUz3, hz3, hpz3⟩ := hJ
 replace hpz3 : z3.pm = pC := hpz3.trans (by rw [hpz2]; try rfl)
 refine go [3,25,2,2,0,3,0,60,19] ?_
 intro b55
 refine G.ownBlk (b := b55) (k := 1) (sz := 1) selT rfl (by omega) ?_
 refine G.want rfl rfl rfl (G.cS rfl rfl rfl rfl Tryz.func11 rfl rfl subT (may1 (may_ownN selT (all_i64 _ (by decide)))) (sends_tr (F := Fz3) (W := Wz3) DA z3 2 _ [0] hz3) apT ?_)
 intro x56 hJ
 try dsimp only at hJ
 try dsimp only
 rw [hpz3, kC1]
 obtain ⟨hx56, hpx56⟩ := hJ
 replace hpx56 : x56.pm = pD := hpx56.trans (by rw [hpz3]; try rfl)
 refine go [3,25,2,2,0,3,0,3,0,3,5,60,19] ?_
 intro b63
 refine G.ownBlk (b := b63) (k := 1) (sz := 1) selT rfl (by omega) ?_
 refine G.want rfl rfl rfl (G.cS rfl rfl rfl rfl Tryz.func10 rfl rfl subT (may1 (may_ownN selT (all_i64 _ (by decide)))) (takes_tr (F := Fz3) (W := Wz3) DA x56 16 _ [28] hx56 (by rw [hpx56]; exact pD_ok)) apT ?_)
 intro x64 hJ
 obtain ⟨z5, Fz5, Wz5⟩ := x64
 try dsimp only at hJ
 try dsimp only
 rw [hpx56, kD1]
 obtain ⟨hUz5, hz5, hpz5⟩ := hJ
 replace hpz5 : z5.pm = pE := hpz5.trans (by rw [hpx56]; try rfl)
 refine go [3,25,2,2,7,8,60,0,13,8,9,10,0] ?_
 refine G.op rfl (G.cS rfl rfl rfl rfl Tryz.func21 rfl rfl subT may0 (send_tr (F := Fz5) (W := Wz5) DA z5 hz5) apT ?_)
 intro x69 hJ
 obtain ⟨z6, uNz6, uIz6, uBz6⟩ := x69
 try dsimp only at hJ
 try dsimp only
 have h16z6 := sent_16 hz5
 have h64z6 := sent_i64 hz5
 rw [hpz5] at h16z6 h64z6
 rw [hpz5, kE0]
 obtain ⟨hz6, hpz6⟩ := hJ
 replace hpz6 : z6.pm = pF := hpz6.trans (by rw [hpz5]; first | rfl | exact kB1)
 refine G.ownFact (v := uNz6) selT (fun huNz6 _ => ?_)
 refine G.ownFact (v := uBz6) selT (fun huBz6 _ => ?_)
 refine G.ownFact (v := uIz6) selT (fun huIz6 _ => ?_)
 rw [kE1, kE2]
 refine G.ownNews (v := uIz6) selT (fun na nc nb hnv hnk hnm hnd hnn hnews => ?_)
 subst hnv
 refine go [0] ?_
 refine G.op rfl (G.val rfl rfl (pv_extract (v := .agg #[.int .i64 3, uNz6, .slice na [id1].length nc, uBz6]) rfl rfl) ?_)
 refine G.op rfl (G.val rfl rfl (pv_extract (v := .bool true) rfl rfl) ?_)
 refine go [60,5] ?_
 intro b9
 refine go [20,1,7,8,9,9] ?_
 refine G.drawT (nn := 23) (p := []) (rem := 8388607) [0, 1, 2, 4, 12, 20, 36, 68, 128, 384, 640, 1152, 2176, 4224, 8192, 24576, 40960, 73728, 8192, 270336, 532480, 1187840, 2105344] [0, 1, 2, 4, 12, 20, 36, 64, 128, 384, 640, 1152, 2176, 4096, 8192, 24576, 40960, 73728, 8192, 270336, 532480, 1187840, 2105344] kr ⟨rfl, by kernel_rfl, by kernel_rfl⟩ subT kr (fun hT10 => ?_)
 refine go [22,0,8388606,0,22,1,8388604,25,22,2,8388600,0,22,3,8388592,3,0,24,4,8388576,25,4,26,22,5,8388544,14,22,6,8388480,2,22,7,8388352,0,22,8,8388096,3,2,24,9,8387584,25,4,26,22,10,8386560,5,22,11,8384512,14,22,12,8380416,2,22,13,8372224,0,22,14,8355840,3,2,22,15,8323072,4] ?_
 refine G.takeT hT10 (i := 16) (rem' := 8257536) rfl rfl rfl kr (fun _ _ _ h => h) rfl (pv_ixSl (sz := 16) (k := 0) Tryz.underlying30 kr rfl rfl hnd rfl (by show 0 < 1; omega)) subT ?_
 refine G.takeT hT10 (i := 17) (rem' := 8126464) rfl rfl rfl kr (fun _ _ _ h => h) rfl (pv_loadN (cs := id1.map vByte) Tryz.underlying52 rfl (by rw [List.length_map, id1_len]; kernel_rfl) rfl (fun w hw => news_id (hnews selD w hw))) subT ?_
 refine go [24,18,7864320] ?_
 refine G.turnOp rfl rfl (G.lit1 (vs := [.int .u8 120]) rfl Tryz.underlying31 kr rfl (by decide) (by decide) rfl rfl ?_)
 intro b90
 refine go [26,24,19,7340032] ?_
 refine G.turnOp rfl rfl (G.constB (b := b90) (xs := [120]) rfl Tryz.underlying31 Tryz.underlying5 rfl (by decide) selT ?_)
 refine go [26,24,20,6291456] ?_
 refine G.turnOp rfl rfl (G.cR rfl rfl rfl rfl Tryz.func44 rfl rfl (may1 (Sel.may selT)) (name_tr (Pu := (· = b90)) _ [120] (by decide)) ?_)
 refine go [26] ?_
 refine G.takeT hT10 (i := 21) (rem' := 4194304) rfl rfl rfl kr (fun _ _ _ h => h) rfl ((pv_neqAr8 (a := id1) (b := id1) Tryz.underlying52 rfl kr Tryz.underlying5 kr rfl rfl id1_len id1_len).cast (v' := .bool false) (congrArg Value.bool (by simp))) subT ?_
 refine go [22,22,0,2,27,8,60,0,13,8,9,10,0,1,7,8,11] ?_
 exact G.doneX1 ((z6, DA, Fz5, Wz5)) (by first | exact trivial | ((try dsimp only) <;> exact ⟨hz6, hpz6⟩)) rfl rfl rfl subT
set_option maxHeartbeats 4000000 in
theorem awake27_tr : Tr Tryz.prog 15 #[] [] [] (T0 (.bool true)) := by
 refine Tr.of (l := []) Tryz.func15 rfl (n := 52) rfl Fa.nil (fun w0 hro => ?_)
 refine go [9,10,1,7,8,9,10] ?_
 refine G.op rfl (G.cS rfl rfl rfl rfl Tryz.func8 rfl rfl subT may0 (asked27_tr) apT ?_)
 intro x4 hJ
 obtain ⟨zF, DF, FF, WF⟩ := x4
 try dsimp only at hJ
 try dsimp only
 obtain ⟨hzF, hpzF⟩ := hJ
 refine go [1,7,8,9,9,10,0,2,50,4,0,3,0,60,19] ?_
 intro b9
 refine G.ownBlk (b := b9) (k := 1) (sz := 1) selT rfl (by omega) ?_
 refine G.want rfl rfl rfl (G.cS rfl rfl rfl rfl Tryz.func10 rfl rfl subT (may1 (may_ownN selT (all_i64 _ (by decide)))) (takes_tr (F := FF) (W := WF) DF zF 17 _ [0] hzF (by rw [hpzF]; exact pF_ok)) apT ?_)
 intro x10 hJ
 obtain ⟨z1, Fz1, Wz1⟩ := x10
 try dsimp only at hJ
 try dsimp only
 rw [hpzF, kF1]
 obtain ⟨hUz1, hz1, hpz1⟩ := hJ
 replace hpz1 : z1.pm = pG := hpz1.trans (by rw [hpzF]; try rfl)
 refine go [3,25,2,2,7,8,60,0,13,8,9,10,0] ?_
 refine G.op rfl (G.cS rfl rfl rfl rfl Tryz.func21 rfl rfl subT may0 (send_tr (F := Fz1) (W := Wz1) DF z1 hz1) apT ?_)
 intro x15 hJ
 obtain ⟨z2, uNz2, uIz2, uBz2⟩ := x15
 try dsimp only at hJ
 try dsimp only
 have h16z2 := sent_16 hz1
 have h64z2 := sent_i64 hz1
 rw [hpz1] at h16z2 h64z2
 rw [hpz1, kG0]
 obtain ⟨hz2, hpz2⟩ := hJ
 replace hpz2 : z2.pm = pH := hpz2.trans (by rw [hpz1]; first | rfl | exact kB1)
 refine G.ownFact (v := uNz2) selT (fun huNz2 _ => ?_)
 refine G.ownFact (v := uBz2) selT (fun huBz2 _ => ?_)
 refine G.ownFact (v := uIz2) selT (fun huIz2 _ => ?_)
 rw [kG2] at h16z2
 rw [kG1, kG2, kG3]
 refine go [0] ?_
 refine G.op rfl (G.val rfl rfl (pv_extract (v := .agg #[.int .i64 4, uNz2, uIz2, uBz2]) rfl rfl) ?_)
 refine G.op rfl (G.val rfl rfl (pv_extract (v := .bool true) rfl rfl) ?_)
 refine go [60,5] ?_
 intro b2
 refine go [20,1,7,8,9,10,0,0,3,3,0,3,4] ?_
 refine G.want rfl rfl rfl (G.val rfl rfl ((pv_eql rfl rfl).cast (v' := .bool true) (congrArg Value.bool (by exact decide_eq_true rfl))) ?_)
 refine go [2,2,0,3,3,3,3,4] ?_
 refine G.want rfl rfl rfl (G.lit1 (vs := [.int .u8 120]) rfl Tryz.underlying31 kr rfl (by decide) (by decide) rfl rfl ?_)
 intro b27
 refine G.want rfl rfl rfl (G.constB (b := b27) (xs := [120]) rfl Tryz.underlying31 Tryz.underlying5 rfl (by decide) selT ?_)
 refine G.want rfl rfl rfl (G.cR rfl rfl rfl rfl Tryz.func24 rfl rfl (may2 (may_own selT rfl (fun _ _ => trivial)) (Sel.may selT)) (same_tr _ _ [120] [120]) ?_)
 rw [show decide (([120] : List UInt8) = [120]) = true from decide_eq_true rfl]
 refine go [2,2,0,3,0,3,3,2,3,4,3,50,2] ?_
 refine G.want rfl rfl rfl (G.cS rfl rfl rfl rfl Tryz.func14 rfl rfl subT (may3 may_nilZ (may_ownI selT h16z2) may_nilZ) (ptake_tr (F := Fz1) (W := Wz1) 18 _ _ _ [] [id1] [] DF z2 hz2 (by rw [hpz2]; exact pH_ok) (by have := pH_ok.l; rw [← hpz2, pm_l] at this; exact this)) apT ?_)
 intro x36 hJ
 obtain ⟨z3, Fz3, Wz3⟩ := x36
 try dsimp only at hJ
 try dsimp only
 rw [hpz2, kH1]
 obtain ⟨hUz3, hz3, hpz3⟩ := hJ
 replace hpz3 : z3.pm = pI := hpz3.trans (by rw [hpz2]; try rfl)
 refine G.want rfl rfl rfl (G.val rfl rfl ((pv_eql rfl rfl).cast (v' := .bool true) (congrArg Value.bool (by exact decide_eq_true rfl))) ?_)
 refine go [2,2,0,3,0] ?_
 refine G.want rfl rfl rfl (G.cS rfl rfl rfl rfl Tryz.func11 rfl rfl subT (may1 may_nilZ) (sends_tr (F := Fz3) (W := Wz3) DF z3 5 _ [] hz3) apT ?_)
 intro x41 hJ
 try dsimp only at hJ
 try dsimp only
 rw [hpz3, kI1]
 obtain ⟨hx41, hpx41⟩ := hJ
 replace hpx41 : x41.pm = pJ := hpx41.trans (by rw [hpz3]; try rfl)
 refine go [2,2,0,3,0,60,19] ?_
 intro b45
 refine G.ownBlk (b := b45) (k := 1) (sz := 1) selT rfl (by omega) ?_
 refine G.want rfl rfl rfl (G.cS rfl rfl rfl rfl Tryz.func10 rfl rfl subT (may1 (may_ownN selT (all_i64 _ (by decide)))) (takes_tr (F := Fz3) (W := Wz3) DF x41 19 _ [9] hx41 (by rw [hpx41]; exact pJ_ok)) apT ?_)
 intro x46 hJ
 obtain ⟨z5, Fz5, Wz5⟩ := x46
 try dsimp only at hJ
 try dsimp only
 rw [hpx41, kJ1]
 obtain ⟨hUz5, hz5, hpz5⟩ := hJ
 replace hpz5 : z5.pm = pK := hpz5.trans (by rw [hpx41]; try rfl)
 refine go [2,2,0,3,0] ?_
 refine G.want rfl rfl rfl (G.cR rfl rfl rfl rfl Tryz.func13 rfl rfl (may1 (Sel.may selT)) (over27_tr DF z5 9 0) ?_)
 rw [hpz5, kK1]
 refine go [2,2,1,7,8,11] ?_
 exact G.done0G rfl (Rv.tmp rfl Rv.nil) Y7
structure At27 where
 kd : Int
 bits : Int
 n : Nt
 v1 : Value
 v2 : Value
 v3 : Value
def atC7 (x : At27) : List Value := [.int .i64 x.kd, .int .i64 x.bits, .int .i64 x.n.k, x.v1, x.v2, x.v3]
def rA27 : Rdr At27 where
 sz := 6
 R := fun Ps w b o x => Ps b ∧ w.rangeAt b o (atC7 x) ∧ IsSl rInt Ps w x.v1 x.n.ns ∧ IsSl rID Ps w x.v2 x.n.ids ∧ IsSl rByte Ps w x.v3 x.n.bs ∧ I64 x.kd ∧ I64 x.bits ∧ I64 x.n.k
 loc := fun h ⟨h1, h2, h3, h4, h5, h6⟩ => ⟨h1, rangeAt_loc (h _ h1) h2, h3.loc h, h4.loc h, h5.loc h, h6⟩
 mono := fun h ⟨h1, h2, h3, h4, h5, h6⟩ => ⟨h _ h1, h2, h3.mono h, h4.mono h, h5.mono h, h6⟩
section
variable {w0 : World} {S : Nat → Prop}
theorem Ro.a7Rng {Ps : Nat → Prop} {b o : Nat} {x : At27} (h : Ro w0 S (elc rA27 Ps b o x)) : Ro w0 S (rng b o (atC7 x)) := ⟨h.1.2.1, fun k hk => h.2 k (by obtain rfl : k = b := hk; exact h.1.1)⟩
theorem Ro.a7N {Ps : Nat → Prop} {b o : Nat} {x : At27} (h : Ro w0 S (elc rA27 Ps b o x)) : Ro w0 S (slc rInt Ps x.v1 x.n.ns) := ⟨h.1.2.2.1, h.2⟩
theorem Ro.a7I {Ps : Nat → Prop} {b o : Nat} {x : At27} (h : Ro w0 S (elc rA27 Ps b o x)) : Ro w0 S (slc rID Ps x.v2 x.n.ids) := ⟨h.1.2.2.2.1, h.2⟩
theorem Ro.a7B {Ps : Nat → Prop} {b o : Nat} {x : At27} (h : Ro w0 S (elc rA27 Ps b o x)) : Ro w0 S (slc rByte Ps x.v3 x.n.bs) := ⟨h.1.2.2.2.2.1, h.2⟩
theorem Ro.a7Ok {Ps : Nat → Prop} {b o : Nat} {x : At27} (h : Ro w0 S (elc rA27 Ps b o x)) : I64 x.kd ∧ I64 x.bits ∧ I64 x.n.k := h.1.2.2.2.2.2
end
def longP (n : Nt) : Prop := 200 < n.ns.length ∨ 40 < n.ids.length ∨ 2000 < n.bs.length
def largeP (xs : List At27) : Prop := (∃ x ∈ xs.take 81, longP x.n) ∨ 80 < xs.length
theorem take_none {α : Type} {p : α → Prop} {l : List α} {i : Nat} (h : ∀ x ∈ l.take i, ¬ p x) (hi : i < l.length) (hx : ¬ p l[i]) : ∀ x ∈ l.take (i + 1), ¬ p x := fun x hm => by
 rw [List.take_succ_eq_append_getElem hi] at hm
 rcases List.mem_append.1 hm with hm | hm
 ·exact h x hm
 obtain rfl : x = l[i] := by simpa using hm
 exact hx
def bitsL (n : Int) (c : Nat) : List Int := (List.range c).map fun i => n / 2 ^ i % 2
theorem bitsL_next (n : Int) (c : Nat) : bitsL n (c + 1) = bitsL n c ++ [n / 2 ^ c % 2] := by
 unfold bitsL
 rw [List.range_succ, List.map_append]
 rfl
theorem bitsL_len (n : Int) (c : Nat) : (bitsL n c).length = c := by simp [bitsL]
def fitP (q : Nt) (kd bits : Int) : Nt :=
 if q.k = 1 then ⟨16, [0], [], []⟩ else if q.k = 2 then ⟨16, [n0 q.ns + q.bs.length], [], []⟩ else if q.k = 4 then ⟨18, [], q.ids, []⟩ else if q.k = 3 then ⟨17, bitsL (pickM bits 1073741824) q.ids.length, [], []⟩ else if kd = 4 then ⟨20, [6, 1], [], []⟩ else ⟨19, [pickM bits 1073741824], [], []⟩
theorem pick_in (n : Int) : 0 ≤ pickM n 1073741824 ∧ pickM n 1073741824 < 1073741824 := by
 unfold pickM
 rw [if_neg (by omega)]
 exact ⟨Int.emod_nonneg _ (by omega), Int.emod_lt_of_pos _ (by omega)⟩
set_option maxHeartbeats 4000000 in
theorem large27_tr {Pv : Nat → Prop} (v : Value) (xs : List At27) : Tr Tryz.prog 26 #[v] [slc rA27 Pv v xs] [] (TX (fun r : Bool => (r = true ↔ largeP xs)) (fun r => .bool r) (fun _ => [])) := by
 refine Tr.of (l := [(0, v)]) Tryz.func26 rfl (n := 23) rfl (.cons rfl .nil) (fun w0 hro => ?_)
 have hv := ro1 hro
 obtain ⟨av, cv, bv, fv, rfl, hcap, hmax, hnil, had, hel⟩ := Ro.open hv
 refine go [9,10,1,7,8,9,9,10,1,7,8,15] ?_
 refine G.loopK (X := Nat) (ts := [0]) (fun i => i ≤ xs.length ∧ i ≤ 81 ∧ ∀ x ∈ xs.take i, ¬ longP x.n) (fun i => [(3, .int .i64 (i : Int))]) (fun i => []) (fun i => 81 - i) (x0 := 0) (.cons rfl .nil) subT (.cons .nil) apT (by first | exact trivial | ((try dsimp only) <;> exact ⟨Nat.zero_le _, by omega, by simp⟩)) (.consE rfl veqT .nil) (fun i hJ => ?_)
 try dsimp only at hJ
 try dsimp only
 obtain ⟨hi1, hi2, hno⟩ := hJ
 refine go [9,9,10,0,0,2,5,2,9,0] ?_
 refine G.partP (t := 8) rfl (fun h8 => ?_) (fun h8 => ?_)
 ·refine go [3,0,3,9,2,2,7,8] ?_
  refine G.condP rfl (fun h11 => ?_) (fun h11 => ?_)
  ·have hlt : i < xs.length := by omega
   have hE := hel i hlt
   have hR := Ro.a7Rng hE
   refine go [13,8,9,15,9,10,0,0] ?_
   refine G.op rfl (G.val rfl rfl (pv_ixSl (sz := 6) (k := i) Tryz.underlying63 kr rfl rfl had rfl (by omega)) ?_)
   refine go [2,3,2] ?_
   refine G.op rfl (G.val rfl rfl (pv_loadN (cs := [.int .i64 xs[i].n.k, xs[i].v1, xs[i].v2, xs[i].v3]) Tryz.underlying33 rfl kr rfl (ro_rngR (k := 4) hR (by rfl))) ?_)
   refine G.op rfl (G.cR rfl rfl rfl rfl Tryz.func42 rfl rfl (may3 (.old (Ro.a7N hE)) (.old (Ro.a7I hE)) (.old (Ro.a7B hE))) (longNote_tr _ _ _ _ xs[i].n.ns xs[i].n.ids xs[i].n.bs) ?_)
   refine go [7,8] ?_
   refine G.condP rfl (fun h19 => ?_) (fun h19 => ?_)
   ·refine go [9,10,1,7,8,11,17,12,12,17,12] ?_
    exact G.doneX1 (true) (by first | exact trivial | ((try dsimp only) <;> exact ⟨fun _ => .inl ⟨xs[i], List.mem_take_iff_getElem.2 ⟨i, by omega, rfl⟩, by assumption⟩, fun _ => rfl⟩)) rfl rfl rfl subT
   refine go [13,16,8,10,0,2,6,1,7] ?_
   exact G.next (i + 1) (by first | exact trivial | ((try dsimp only) <;> exact ⟨by omega, by omega, take_none hno hlt (by assumption)⟩)) (by (try dsimp only); omega) (.consE rfl veqT (.cons rfl .nil)) subT
  refine go [18,14,14,19,8,9,10,0,2,5,2,10,1,7,8,11] ?_
  exact G.doneX1 ((decide (80 < xs.length))) (by first | exact trivial | ((try dsimp only) <;> exact (by rw [decide_eq_true_iff]; refine ⟨.inr, fun h => ?_⟩; rcases h with ⟨x, hx, hl⟩ | h; (exact absurd hl (hno x (by rwa [show i = min 81 xs.length from by omega, List.take_eq_take_min.symm] ))); exact h))) rfl rfl (by show Value.bool _ = Value.bool _; congr 1; rw [decide_eq_decide]; omega) subT
 refine go [4,4,2,2,7,8,60,0,18,14,14,19,8,9,10,0,2,5,2,10,1,7,8,11] ?_
 exact G.doneX1 ((decide (80 < xs.length))) (by first | exact trivial | ((try dsimp only) <;> exact (by rw [decide_eq_true_iff]; refine ⟨.inr, fun h => ?_⟩; rcases h with ⟨x, hx, hl⟩ | h; (exact absurd hl (hno x (by rwa [show i = min 81 xs.length from by omega, List.take_eq_take_min.symm] ))); exact h))) rfl rfl (by show Value.bool _ = Value.bool _; congr 1; rw [decide_eq_decide]; omega) subT
set_option maxHeartbeats 4000000 in
theorem fitting_tr {Pq1 Pq2 Pq3 : Nat → Prop} (q : Nt) (q1 q2 q3 : Value) (x : At27) (hb : I64 x.bits) (h2 : q.k = 2 → ∃ a : Nat, q.ns = [(a : Int)] ∧ a ≤ 100000000) (hl1 : q.ids.length ≤ 64) (hl2 : q.bs.length ≤ 1000000) : Tr Tryz.prog 27 #[.agg #[.int .i64 q.k, q1, q2, q3], .agg #[.int .i64 x.kd, .int .i64 x.bits, .int .i64 x.n.k, x.v1, x.v2, x.v3]] [slc rInt Pq1 q1 q.ns, slc rID Pq2 q2 q.ids, slc rByte Pq3 q3 q.bs] []
 (TX (fun _ : Value × Value => True) (fun z => .agg #[.int .i64 (fitP q x.kd x.bits).k, z.1, z.2, .slice none 0 0]) (fun z => [own 3 1 z.1 (fitP q x.kd x.bits).ns.length ((fitP q x.kd x.bits).ns.map vInt), own 52 16 z.2 (fitP q x.kd x.bits).ids.length (flatI (fitP q x.kd x.bits).ids)])) := by
 refine Tr.of (l := [(0, .agg #[.int .i64 q.k, q1, q2, q3]), (1, .agg #[.int .i64 x.kd, .int .i64 x.bits, .int .i64 x.n.k, x.v1, x.v2, x.v3])]) Tryz.func27 rfl (n := 64) rfl (.cons rfl (.cons rfl .nil)) (fun w0 hro => ?_)
 obtain ⟨hA, hB, hC⟩ := ro3 hro
 have oa := Ro.open hA
 have ob := Ro.open hB
 have oc := Ro.open hC
 obtain ⟨aa, ca, qa, oa', rfl, hca, hma, -, had, hel⟩ := oa
 obtain ⟨ab, cb, qb, ob', rfl, hcb, hmb, -, hbd, hbl⟩ := ob
 obtain ⟨ac, cc, qc, oc', rfl, hcc, -⟩ := oc
 have hpk := pick_in x.bits
 refine go [9,10,60,2] ?_
 intro b2
 refine go [60,16] ?_
 intro b3
 refine go [60,5] ?_
 intro b4
 refine go [7,8,9,10,2,3,1,2,4] ?_
 refine G.op rfl (G.cR rfl rfl rfl rfl Tryz.func20 rfl rfl may0 (pick_tr x.bits 1073741824 hb ⟨by decide, by decide⟩) ?_)
 obtain ⟨pk, hpkE⟩ : ∃ c, pickM x.bits 1073741824 = c := ⟨_, rfl⟩
 rw [hpkE] at hpk
 have hfE : fitP q x.kd x.bits = if q.k = 1 then ⟨16, [0], [], []⟩ else if q.k = 2 then ⟨16, [n0 q.ns + q.bs.length], [], []⟩ else if q.k = 4 then ⟨18, [], q.ids, []⟩ else if q.k = 3 then ⟨17, bitsL pk q.ids.length, [], []⟩ else if x.kd = 4 then ⟨20, [6, 1], [], []⟩ else ⟨19, [pk], [], []⟩ := by unfold fitP; rw [hpkE]
 rw [hpkE]
 refine go [1,7,8,9,9,10,2,3,0,2,4,7,8,15,9,10,2,13,1,7,8] ?_
 refine G.condP rfl (fun h13 => ?_) (fun h13 => ?_)
 ·refine go [9,10,60,12] ?_
  intro b15
  refine go [2,50,2,20,7,8,11,17,12] ?_
  rw [hfE, if_pos (by assumption)]
  refine G.ownBlk (b := b15) (k := 1) (sz := 1) selT rfl (by omega) ?_
  refine go [60,4] ?_
  exact G.doneG ((.slice (some ⟨b15, 0, none⟩) 1 1, .slice none 0 0)) trT rfl (Rv.cellN (cs := [_, _, _, _]) rfl Tryz.underlying33 rfl kr Y23 Rv.nil) rfl subT
 refine go [9,10,2,13,1,7,8] ?_
 refine G.condP rfl (fun h17 => ?_) (fun h17 => ?_)
 ·have hk2 : q.k = 2 := by assumption
  obtain ⟨qn, hqn, hqa⟩ := h2 hk2
  have hql : 0 < q.ns.length := by rw [hqn]; exact Nat.one_pos
  have hE := hel 0 hql
  have hq0 : q.ns[0] = (qn : Int) := by simp [hqn]
  have hn0 : n0 q.ns = (qn : Int) := by rw [n0_eq hql, hq0]
  rw [hq0] at hE
  refine G.seq ?_
  refine G.drawT (nn := 11) (p := [blk b4 _ _]) (rem := 2047) [0, 1, 2, 4, 0, 16, 32, 72, 128, 256, 1023] [0, 1, 2, 4, 0, 16, 32, 72, 128, 256, 512] kr ⟨rfl, by kernel_rfl, by kernel_rfl⟩ subT kr (fun hT6 => ?_)
  refine go [22,0,2046,3,1,22,4,2030,3,3,22,1,2028,4] ?_
  refine G.takeT hT6 (i := 2) (rem' := 2024) rfl rfl rfl kr (fun _ _ _ h => h) rfl (pv_ixSl (sz := 1) (k := 0) Tryz.underlying29 kr rfl rfl had rfl (by omega)) subT ?_
  refine G.takeT hT6 (i := 3) (rem' := 2016) rfl rfl rfl kr (fun _ _ _ h => h) rfl (pv_load (v := .int .i64 (qn : Int)) Tryz.underlying3 rfl rfl (ro_int hE)) subT ?_
  refine go [24,5,1984,25,4,26,22,6,1920,5,22,7,1792,6,24,8,1536,60,18] ?_
  intro b27
  refine go [26,22,9,1024,50,2,24,10,0,29,26,27,8,11,17,12] ?_
  rw [hfE, if_neg (by omega), if_pos hk2, hn0]
  refine G.ownBlk (b := b27) (k := 1) (sz := 1) selT rfl (by omega) ?_
  refine go [60,4] ?_
  exact G.doneG ((.slice (some ⟨b27, 0, none⟩) 1 1, .slice none 0 0)) trT rfl (Rv.cellN (cs := [_, _, _, _]) rfl Tryz.underlying33 rfl kr Y23 Rv.nil) rfl subT
 refine go [9,10,2,13,1,7,8] ?_
 refine G.condP rfl (fun h29 => ?_) (fun h29 => ?_)
 ·refine go [9,10] ?_
  refine G.op rfl (G.lit0 rfl Tryz.underlying30 kr rfl ?_)
  intro b31
  refine G.ownBlk (b := b31) (k := 0) (sz := 16) selT rfl (by omega) ?_
  refine go [2,3,2,2,4] ?_
  refine G.op rfl (G.appendI (k := 0) (cs := []) (ids := q.ids) (Ps := Pq2) rfl Tryz.underlying30 Tryz.infoID' rfl rfl selT (ro_sl hB) (by omega) ?_)
  intro vI
  rw [Nat.zero_add q.ids.length, List.nil_append]
  refine G.ownFact (v := vI) selT (fun hvI _ => ?_)
  refine go [2,50,2,20,7,8,11,17,12] ?_
  rw [hfE, if_neg (by omega), if_neg (by omega), if_pos (by assumption)]
  refine go [60,7] ?_
  exact G.doneG ((.slice none 0 0, vI)) trT rfl (Rv.cellN (cs := [_, _, _, _]) rfl Tryz.underlying33 rfl kr Y23 Rv.nil) rfl subT
 refine go [9,10,2,13,1,7,8] ?_
 refine G.condP rfl (fun h36 => ?_) (fun h36 => ?_)
 ·refine go [9,10,2,50,2,60,5] ?_
  intro b6
  refine go [20,7,8,9,9,10,1,7,8,15,60,7] ?_
  refine G.loopK (X := Nat × Value) (ts := [2, 3, 4, 5, 6]) (fun st => st.1 ≤ q.ids.length) (fun st => [(7, .int .i64 (st.1 : Int))]) (fun st => [blk b6 33 [.int .i64 17, st.2, .slice none 0 0, .slice none 0 0], own 3 1 st.2 (bitsL pk st.1).length ((bitsL pk st.1).map vInt)]) (fun st => q.ids.length - st.1) (x0 := (0, .slice none 0 0)) (.cons rfl (.cons rfl (.cons rfl (.cons rfl (.cons rfl .nil))))) subT (.cons .nil) apT Y27 (.consE rfl veqT .nil) (fun st hJ => ?_)
  obtain ⟨i, vn⟩ := st
  try dsimp only at hJ
  try dsimp only
  have hki := hJ
  have hbl9 := bitsL_len pk i
  refine go [9,9,10,0,2,3,2,2,4,2,5,2,9,7,8] ?_
  refine G.condP rfl (fun h43 => ?_) (fun h43 => ?_)
  ·have hlt : i < q.ids.length := by omega
   have hp9 : 0 ≤ pk / 2 ^ i := Int.ediv_nonneg hpk.1 (Int.le_of_lt (Int.pow_pos (by decide)))
   have hp8 : pk / 2 ^ i ≤ pk := Int.ediv_le_self _ hpk.1
   refine go [13,8,9,15] ?_
   refine G.drawE (nn := 10) (p := [own 3 1 vn _ _]) (rem := 255) [0, 1, 0, 0, 12, 16, 32, 66, 255, 511] [0, 1, 0, 0, 12, 16, 32, 66, 0, 384] [9, 8] [511, 255] 8 kr ⟨rfl, by kernel_rfl, by kernel_rfl⟩ kr kr kr subT (fun hT14 => ?_)
   refine go [22,0,254,3,1,22,2,250,0,22,3,242,0] ?_
   refine G.takeT hT14 (i := 4) (rem' := 226) rfl rfl rfl kr (fun _ _ _ h => h) rfl (pv_shr (s := i) rfl rfl (by show i ≤ 64; omega)) subT ?_
   refine go [22,5,194,50,13,22,1,192,4,24,6,128,60,18] ?_
   intro b52
   refine go [26,24,7,0] ?_
   refine G.turnOp rfl rfl (G.append (k := (bitsL pk i).length) (j := 1) (cs := (bitsL pk i).map vInt) (news := [vInt (pk / 2 ^ i % 2)]) (b := b52) (off := 0) rfl Tryz.underlying29 Tryz.infoInt' rfl rfl rfl selT (fun _ => rfl) (fun h => by cases h) rfl (blk_news (k := 1) selT rfl) (by intro u hu; obtain rfl : u = _ := (by simpa using hu); rfl) (by omega) (by omega) ?_)
   intro vm
   rw [show (bitsL pk i).map vInt ++ [vInt (pk / 2 ^ i % 2)] = (bitsL pk (i + 1)).map vInt from by rw [bitsL_next, List.map_append]; rfl, show (bitsL pk i).length + 1 = (bitsL pk (i + 1)).length from by rw [bitsL_len, bitsL_len]]
   refine G.ownFact (v := vm) selT (fun hvm _ => ?_)
   refine go [26,27] ?_
   refine G.tailS [9] 8 rfl ?_
   refine go [25,3,1] ?_
   refine G.tailS [] 9 rfl ?_
   refine go [30,60,6,16,8,10,0,2,6,1,7] ?_
   exact G.next ((i + 1, vm)) Y25 (by (try dsimp only); omega) (.consE rfl veqT (.cons rfl (.cons rfl (.cons rfl (.cons rfl (.cons rfl .nil)))))) subT
  obtain rfl : i = q.ids.length := by omega
  refine G.ownFact (v := vn) selT (fun hvn9 _ => ?_)
  refine go [18,14,14,19,8,9,10,2,50,9,20,7,8,11,17,12] ?_
  rw [hfE, if_neg (by omega), if_neg (by omega), if_neg (by omega), if_pos (by assumption)]
  refine go [60,4] ?_
  exact G.doneG ((vn, .slice none 0 0)) trT rfl (Rv.cellN (cs := [_, _, _, _]) rfl Tryz.underlying33 rfl kr Y23 Rv.nil) rfl subT
 refine go [13,16,8,9,9,10,2,3,0,2,4,2,13,7,8] ?_
 refine G.condP rfl (fun h58 => ?_) (fun h58 => ?_)
 ·refine go [9,10] ?_
  refine G.op rfl (G.lit1 (vs := [_, _]) rfl Tryz.underlying29 kr rfl (by decide) (by decide) rfl rfl ?_)
  intro b59
  refine go [2,50,2,20,7,8,11,12] ?_
  rw [hfE, if_neg (by omega), if_neg (by omega), if_neg (by omega), if_neg (by omega), if_pos (by assumption)]
  refine G.ownBlk (b := b59) (k := 2) (sz := 1) selT rfl (by omega) ?_
  refine go [60,4] ?_
  exact G.doneG ((.slice (some ⟨b59, 0, none⟩) 2 2, .slice none 0 0)) trT rfl (Rv.cellN (cs := [_, _, _, _]) rfl Tryz.underlying33 rfl kr Y23 Rv.nil) rfl subT
 refine go [13,8,9,10,0,60,12] ?_
 intro b62
 refine go [2,50,2,20,7,8,11] ?_
 rw [hfE, if_neg (by omega), if_neg (by omega), if_neg (by omega), if_neg (by omega), if_neg (by assumption)]
 refine G.ownBlk (b := b62) (k := 1) (sz := 1) selT rfl (by omega) ?_
 refine go [60,4] ?_
 exact G.doneG ((.slice (some ⟨b62, 0, none⟩) 1 1, .slice none 0 0)) trT rfl (Rv.cellN (cs := [_, _, _, _]) rfl Tryz.underlying33 rfl kr Y23 Rv.nil) rfl subT
theorem tot_geZ {es : List En} {e : En} (h : e ∈ es) : e.data.length ≤ totM es := by
 induction es with
 | nil => cases h
 | cons x es ih =>
  have e1 : totM (x :: es) = (x.path.length + x.data.length + x.to.length) + totM es := by simp [totM]
  rcases List.mem_cons.1 h with rfl | h
  ·omega
  have := ih h
  omega
theorem data_smallZ {xs : List ET} {k r : Int} (h : ¬ bigM (ens xs) k r) : ∀ x ∈ xs, (x.1.data.length : Int) ≤ r := fun x hx => by
 have h1 := tot_geZ (es := ens xs) (List.mem_map.2 ⟨x, hx, rfl⟩)
 unfold bigM at h
 omega
theorem fit_i64 {q : Nt} {kd bits : Int} (h2 : q.k = 2 → ∃ a : Nat, q.ns = [(a : Int)] ∧ a ≤ 100000000) (hl2 : q.bs.length ≤ 1000000) : ∀ x ∈ (fitP q kd bits).ns, I64 x := fun x hx => by
 have hpk := pick_in bits
 unfold fitP at hx
 split at hx
 ·obtain rfl : x = 0 := by simpa using hx
  exact ⟨by decide, by decide⟩
 split at hx
 ·rename_i hk
  obtain ⟨a, ha, hb⟩ := h2 hk
  obtain rfl : x = _ := by simpa using hx
  have : n0 q.ns = (a : Int) := by rw [ha]; rfl
  rw [this]
  exact ⟨by omega, by omega⟩
 split at hx
 ·cases hx
 split at hx
 ·obtain ⟨i, -, rfl⟩ := List.mem_map.1 hx
  have := Int.emod_two_eq (pickM bits 1073741824 / 2 ^ i)
  exact ⟨by omega, by omega⟩
 split at hx
 ·have : x = 6 ∨ x = 1 := by simpa using hx
  rcases this with rfl | rfl <;> exact ⟨by decide, by decide⟩
 obtain rfl : x = _ := by simpa using hx
 exact ⟨by omega, by omega⟩
theorem fit_16 {q : Nt} {kd bits : Int} (h : all16 q.ids) : all16 (fitP q kd bits).ids := by
 unfold fitP
 split
 ·exact fun x hx => by cases hx
 split
 ·exact fun x hx => by cases hx
 split
 ·exact h
 split
 ·exact fun x hx => by cases hx
 split <;> exact fun x hx => by cases hx
theorem fit_bs (q : Nt) (kd bits : Int) : (fitP q kd bits).bs = [] := by
 unfold fitP
 split
 ·rfl
 split
 ·rfl
 split
 ·rfl
 split
 ·rfl
 split <;> rfl
def vN (n : Nat) : Value := .int .i64 (n : Int)
theorem vN_one (xs : List Nat) : ∀ u ∈ xs.map vN, u.oneCell' = true := fun u hu => by
 obtain ⟨x, _, rfl⟩ := List.mem_map.1 hu
 rfl
structure RZ where
 bv : Value
 lv : Value
 cm : Int
 tk : Int
 ph : Nat
 notesv : Value
 sent : Nat
 told : Nat
 lacksv : Value
 rounds : Nat
 over : Bool
 num : Int
 e : Int
 b : List UInt8
 l : List CT
 notes : List NV
 lacks : List Nat
structure RP where
 b : List UInt8
 l : List (List UInt8 × List UInt8)
 cm : Int
 tk : Int
 ph : Nat
 notes : List Nt
 sent : Nat
 told : Nat
 lacks : List Nat
 rounds : Nat
 over : Bool
 num : Int
 e : Int
def RZ.rp (z : RZ) : RP := ⟨z.b, cks z.l, z.cm, z.tk, z.ph, nvs z.notes, z.sent, z.told, z.lacks, z.rounds, z.over, z.num, z.e⟩
structure RvOk (F : Nat → Prop) (W : World) (z : RZ) : Prop where
 b : IsSl rByte F W z.bv z.b
 l : IsSl rCT F W z.lv z.l
 lk : ∀ x ∈ z.l, CkOk F W x
 notes : IsSl rNV F W z.notesv z.notes
theorem RvOk.up {F F' : Nat → Prop} {W W' : World} {z : RZ} (h : Up F W F' W') (k : RvOk F W z) : RvOk F' W' z := ⟨h.sl k.b, h.sl k.l, fun x hx => (k.lk x hx).up h, h.sl k.notes⟩
structure RgOk (r : RP) : Prop where
 cm : I64 r.cm
 tk : I64 r.tk
 b0 : 0 < r.b.length
 b : r.b.length ≤ 100000000
 l : r.l.length ≤ 10000000
 lks : ∀ i ∈ r.lacks, i < r.l.length
 lacks : r.lacks.length ≤ 20000000
structure RcOk (r : RP) : Prop extends RgOk r where
 rounds : r.rounds ≤ 1000
 told : r.told ≤ r.sent
 sent : r.sent ≤ r.notes.length
 few : r.notes.length ≤ 200000000
theorem rp_l (z : RZ) : z.rp.l.length = z.l.length := by simp [RZ.rp, cks]
theorem rp_notes (z : RZ) : z.rp.notes.length = z.notes.length := by simp [RZ.rp, nvs]
def endR (r : RP) (n e : Int) : RP := { r with over := true, num := n, e := e }
def RZ.end (z : RZ) (n e : Int) : RZ := { z with over := true, num := n, e := e }
theorem rend_ok {F : Nat → Prop} {W : World} {z : RZ} (h : RvOk F W z) (n e : Int) : RvOk F W (z.end n e) := ⟨h.b, h.l, h.lk, h.notes⟩
def openR (r : RP) : Int := if r.over = true then 0 else (r.sent : Int) - r.told
def phaseR (r : RP) : Int := if r.over = true then 0 else (r.ph : Int)
set_option maxHeartbeats 4000000 in
theorem rend_tr (D : Nat) (z : RZ) (n e : Int) : Tr Tryz.prog 91 #[.pointer (some ⟨D, 0, none⟩), .int .i64 n, .int .i64 e] [] [blk D 80 [z.bv, z.lv, .int .i64 z.cm, .int .i64 z.tk, .int .i64 (z.ph : Nat), z.notesv, .int .i64 (z.sent : Nat), .int .i64 (z.told : Nat), z.lacksv, .int .i64 (z.rounds : Nat), .bool z.over, .int .i64 z.num, .int .i64 z.e]]
 (TX (fun _ : Unit => True) (fun _ => .tuple #[]) (fun _ => [blk D 80 [(z.end n e).bv, (z.end n e).lv, .int .i64 (z.end n e).cm, .int .i64 (z.end n e).tk, .int .i64 ((z.end n e).ph : Nat), (z.end n e).notesv, .int .i64 ((z.end n e).sent : Nat), .int .i64 ((z.end n e).told : Nat), (z.end n e).lacksv, .int .i64 ((z.end n e).rounds : Nat), .bool (z.end n e).over, .int .i64 (z.end n e).num, .int .i64 (z.end n e).e]])) := by
 refine Tr.of (l := [(0, .pointer (some ⟨D, 0, none⟩)), (1, .int .i64 n), (2, .int .i64 e)]) Tryz.func91 rfl (n := 17) rfl (.cons rfl (.cons rfl (.cons rfl .nil))) (fun w0 hro => ?_)
 refine go [9,10,0,2,8,2,3,10,21,7,8,9,10,0,0,2,8,2,3,11,21,7,8,10,0,0,2,8,2,3,12,21,7] ?_
 exact G.doneXE (()) trT rfl rfl subT
set_option maxHeartbeats 4000000 in
theorem rdone_tr (D : Nat) (z : RZ) : Tr Tryz.prog 39 #[.pointer (some ⟨D, 0, none⟩)] [blk D 80 [z.bv, z.lv, .int .i64 z.cm, .int .i64 z.tk, .int .i64 (z.ph : Nat), z.notesv, .int .i64 (z.sent : Nat), .int .i64 (z.told : Nat), z.lacksv, .int .i64 (z.rounds : Nat), .bool z.over, .int .i64 z.num, .int .i64 z.e]] [] (T0 (.tuple #[.int .i64 z.num, .int .i64 z.e, .bool z.over])) := by
 refine Tr.of (l := [(0, .pointer (some ⟨D, 0, none⟩))]) Tryz.func39 rfl (n := 17) rfl (.cons rfl .nil) (fun w0 hro => ?_)
 have hP := ro1 hro
 refine go [9,10,1,1,1,7,8,9] ?_
 refine G.drawT (nn := 15) (p := []) (rem := 32767) [0, 1, 2, 4, 0, 16, 32, 64, 0, 256, 512, 1024, 15, 4351, 16383] [0, 1, 2, 4, 0, 16, 32, 64, 0, 256, 512, 1024, 8, 128, 2048] kr ⟨rfl, by kernel_rfl, by kernel_rfl⟩ subT kr (fun hT1 => ?_)
 refine go [22,0,32766,0,22,1,32764,8,22,2,32760,3,11,22,4,32744,0,22,5,32712,8,22,6,32648,3,12,22,8,32392,0,22,9,31880,8,22,10,30856,3,10] ?_
 refine G.takeT hT1 (i := 3) (rem' := 30848) rfl rfl rfl kr (fun _ _ _ h => h) rfl (pv_load (v := .int .i64 z.num) Tryz.underlying3 rfl rfl (ro_blk hP (by rfl))) subT ?_
 refine go [22,12,26752,1] ?_
 refine G.takeT hT1 (i := 7) (rem' := 26624) rfl rfl rfl kr (fun _ _ _ h => h) rfl (pv_load (v := .int .i64 z.e) Tryz.underlying27 rfl rfl (ro_blk hP (by rfl))) subT ?_
 refine go [22,13,18432,1,24,11,16384] ?_
 refine G.turnOp rfl rfl (G.val rfl rfl (pv_load (v := .bool z.over) Tryz.underlying4 rfl rfl (ro_blk hP (by rfl))) ?_)
 refine go [26,22,14,0,1,27,8,11] ?_
 exact G.done0G rfl (Rv.tmp rfl (Rv.tmp rfl (Rv.tmp rfl Rv.nil))) Y7
set_option maxHeartbeats 4000000 in
theorem ropen_tr (D : Nat) (z : RZ) (hs : z.sent ≤ 200000000) (ht : z.told ≤ z.sent) : Tr Tryz.prog 36 #[.pointer (some ⟨D, 0, none⟩)] [blk D 80 [z.bv, z.lv, .int .i64 z.cm, .int .i64 z.tk, .int .i64 (z.ph : Nat), z.notesv, .int .i64 (z.sent : Nat), .int .i64 (z.told : Nat), z.lacksv, .int .i64 (z.rounds : Nat), .bool z.over, .int .i64 z.num, .int .i64 z.e]] [] (T0 (.int .i64 (openR z.rp))) := by
 refine Tr.of (l := [(0, .pointer (some ⟨D, 0, none⟩))]) Tryz.func36 rfl (n := 16) rfl (.cons rfl .nil) (fun w0 hro => ?_)
 have hP := ro1 hro
 refine go [9,10,1,7,8,9,9,10,0,2,8,2,3,10] ?_
 refine G.op rfl (G.val rfl rfl (pv_load (v := .bool z.over) Tryz.underlying4 rfl rfl (ro_blk hP (by rfl))) ?_)
 refine go [7,8] ?_
 refine G.cond rfl (fun h6 => ?_) (fun h6 => ?_)
 ·refine go [9,10,1,7,8,11,12] ?_
  exact G.done0G rfl (Rv.tmp rfl Rv.nil) (by show Value.int .i64 0 = Value.int .i64 (if z.over = true then 0 else _); rw [if_pos (by assumption)])
 refine go [13,8,9] ?_
 refine G.drawT (nn := 10) (p := []) (rem := 1023) [0, 1, 2, 4, 0, 16, 32, 64, 136, 511] [0, 1, 2, 4, 0, 16, 32, 64, 136, 256] kr ⟨rfl, by kernel_rfl, by kernel_rfl⟩ subT kr (fun hT3 => ?_)
 refine go [22,0,1022,0,22,1,1020,8,22,2,1016,3,6,22,4,1000,0,22,5,968,8,22,6,904,3,7] ?_
 refine G.takeT hT3 (i := 3) (rem' := 896) rfl rfl rfl kr (fun _ _ _ h => h) rfl (pv_load (v := .int .i64 (z.sent : Int)) Tryz.underlying3 rfl rfl (ro_blk hP (by rfl))) subT ?_
 refine go [24,7,768] ?_
 refine G.turnOp rfl rfl (G.val rfl rfl (pv_load (v := .int .i64 (z.told : Int)) Tryz.underlying3 rfl rfl (ro_blk hP (by rfl))) ?_)
 refine go [26,22,8,512,19,22,9,0,1,27,8,11] ?_
 exact G.done0G rfl (Rv.tmp rfl Rv.nil) (by show Value.int .i64 _ = Value.int .i64 (if z.over = true then 0 else (z.sent : Int) - z.told); rw [if_neg (by simp [*])])
set_option maxHeartbeats 4000000 in
theorem rphase_tr (D : Nat) (z : RZ) : Tr Tryz.prog 41 #[.pointer (some ⟨D, 0, none⟩)] [blk D 80 [z.bv, z.lv, .int .i64 z.cm, .int .i64 z.tk, .int .i64 (z.ph : Nat), z.notesv, .int .i64 (z.sent : Nat), .int .i64 (z.told : Nat), z.lacksv, .int .i64 (z.rounds : Nat), .bool z.over, .int .i64 z.num, .int .i64 z.e]] [] (T0 (.int .i64 (phaseR z.rp))) := by
 refine Tr.of (l := [(0, .pointer (some ⟨D, 0, none⟩))]) Tryz.func41 rfl (n := 11) rfl (.cons rfl .nil) (fun w0 hro => ?_)
 have hP := ro1 hro
 refine go [9,10,1,7,8,9,9,10,0,2,8,2,3,10] ?_
 refine G.op rfl (G.val rfl rfl (pv_load (v := .bool z.over) Tryz.underlying4 rfl rfl (ro_blk hP (by rfl))) ?_)
 refine go [7,8] ?_
 refine G.cond rfl (fun h6 => ?_) (fun h6 => ?_)
 ·refine go [9,10,1,7,8,11,12] ?_
  exact G.done0G rfl (Rv.tmp rfl Rv.nil) (by show Value.int .i64 0 = Value.int .i64 (if z.over = true then 0 else _); rw [if_pos (by assumption)])
 refine go [13,8,9,10,0,2,8,2,3,4] ?_
 refine G.op rfl (G.val rfl rfl (pv_load (v := .int .i64 (z.ph : Int)) Tryz.underlying3 rfl rfl (ro_blk hP (by rfl))) ?_)
 refine go [1,7,8,11] ?_
 exact G.done0G rfl (Rv.tmp rfl Rv.nil) (by show Value.int .i64 _ = Value.int .i64 (if z.over = true then 0 else _); show _ = Value.int .i64 (if z.over = true then 0 else (z.ph : Int)); rw [if_neg (by simp [*])])
set_option maxHeartbeats 4000000 in
theorem is_tr {Pm : Nat → Prop} {Pv1 Pv2 Pv3 : Nat → Prop} (k : Int) (v1 v2 v3 : Value) (ns : List Int) (ids : List (List UInt8)) (bs : List UInt8) (kd : Int) (u : Value) (ms : List Int) : Tr Tryz.prog 131 #[.agg #[.int .i64 k, v1, v2, v3], .int .i64 kd, u] [slc rInt Pv1 v1 ns, slc rID Pv2 v2 ids, slc rByte Pv3 v3 bs, slc rInt Pm u ms] [] (T0 (.bool (decide (k = kd ∧ ns = ms)))) := by
 refine Tr.of (l := [(0, .agg #[.int .i64 k, v1, v2, v3]), (1, .int .i64 kd), (2, u)]) Tryz.func131 rfl (n := 36) rfl (.cons rfl (.cons rfl (.cons rfl .nil))) (fun w0 hro => ?_)
 obtain ⟨hA, hB, hC, hm⟩ := ro4 hro
 have oa := Ro.open hA
 have ob := Ro.open hB
 have oc := Ro.open hC
 obtain ⟨aa, ca, qa, oa', rfl, hca, hma, -, had, hel⟩ := oa
 obtain ⟨ab, cb, qb, ob', rfl, hcb, hmb, -, hbd, hbl⟩ := ob
 obtain ⟨ac, cc, qc, oc', rfl, hcc, -⟩ := oc
 obtain ⟨am, cm, bm, om, rfl, hcm, hmm, -, hmd, heb⟩ := Ro.open hm
 refine go [9,10,60,2] ?_
 intro b3
 refine go [1,7,8,9,9,10,2,3,0,2,50,0,0,2,14,0] ?_
 refine G.partP (t := 12) rfl (fun h12 => ?_) (fun h12 => ?_)
 ·refine go [4,4,4,4,4,4,2,2,7,8,60,1,9,10,1,7,8,11,12] ?_
  exact G.done1 rfl rfl .nil ⟨congrArg Value.bool (by exact (decide_eq_false (fun h => by first | omega | (have := congrArg List.length h.2; omega))).symm), rfl⟩
 refine go [3,3,1,3,50,0,3,5,3,0,3,5,3,14,2,2,7,8] ?_
 refine G.condP rfl (fun h19 => ?_) (fun h19 => ?_)
 ·refine go [9,10,1,7,8,11,12] ?_
  exact G.done1 rfl rfl .nil ⟨congrArg Value.bool (by exact (decide_eq_false (fun h => by first | omega | (have := congrArg List.length h.2; omega))).symm), rfl⟩
 have hk : k = kd := by omega
 have hl : ns.length = ms.length := by omega
 refine go [13,8,9,9,10,1,7,8,15] ?_
 refine G.loopK (X := Nat) (ts := [2, 3]) (fun i => i ≤ ms.length ∧ (ns.take i = ms.take i)) (fun i => [(7, .int .i64 (i : Int))]) (fun i => []) (fun i => ms.length - i) (x0 := 0) (.cons rfl (.cons rfl .nil)) subT (.cons .nil) apT Y56 (.consE rfl veqT .nil) (fun i hJ => ?_)
 try dsimp only at hJ
 try dsimp only
 obtain ⟨hki, hJ⟩ := hJ
 refine go [9,9,10,0,0,2,5,2,9,7,8] ?_
 refine G.condP rfl (fun h23 => ?_) (fun h23 => ?_)
 ·have hka : i < ns.length := by omega
  have hkb : i < ms.length := by omega
  have hAe := hel i hka
  have hBe := heb i hkb
  refine go [13,8,9,15,9] ?_
  refine G.drawT (nn := 10) (p := []) (rem := 1023) [0, 1, 0, 6, 8, 0, 0, 96, 128, 272] [0, 1, 0, 6, 8, 0, 0, 96, 128, 272] kr ⟨rfl, by kernel_rfl, by kernel_rfl⟩ subT kr (fun hT6 => ?_)
  refine go [22,0,1022,3,1,22,2,1018,0,22,5,986,0,22,6,922,0] ?_
  refine G.takeT hT6 (i := 7) (rem' := 794) rfl rfl rfl kr (fun _ _ _ h => h) rfl (pv_ixSl (sz := 1) (k := i) Tryz.underlying29 kr rfl rfl hmd rfl (by omega)) subT ?_
  refine go [22,1,792,50,0] ?_
  refine G.takeT hT6 (i := 3) (rem' := 784) rfl rfl rfl kr (fun _ _ _ h => h) rfl (pv_ixSl (sz := 1) (k := i) Tryz.underlying29 kr rfl rfl had rfl (by omega)) subT ?_
  refine G.takeT hT6 (i := 4) (rem' := 768) rfl rfl rfl kr (fun _ _ _ h => h) rfl (pv_load (v := .int .i64 ns[i]) Tryz.underlying3 rfl rfl (ro_int hAe)) subT ?_
  refine go [24,8,512] ?_
  refine G.turnOp rfl rfl (G.val rfl rfl (pv_load (v := .int .i64 ms[i]) Tryz.underlying3 rfl rfl (ro_int hBe)) ?_)
  refine go [26,22,9,0,14,27,8] ?_
  refine G.condP rfl (fun h35 => ?_) (fun h35 => ?_)
  ·refine go [9,10,1,7,8,11,17,12,12,17,12] ?_
   exact G.done1 rfl rfl .nil ⟨congrArg Value.bool (by exact (decide_eq_false (fun h => takes_off hka hkb (by assumption) h.2)).symm), rfl⟩
  refine go [13,16,8,10,0,2,6,1,7] ?_
  exact G.next (i + 1) (by first | exact trivial | ((try dsimp only) <;> exact ⟨by omega, takes_next hJ hka hkb (by first | assumption | omega)⟩)) (by (try dsimp only); omega) (.consE rfl veqT (.cons rfl (.cons rfl .nil))) subT
 obtain rfl : i = ms.length := by omega
 refine go [18,14,14,19,8,9,10,1,7,8,11] ?_
 exact G.done1 rfl rfl .nil ⟨congrArg Value.bool (by exact (decide_eq_true ⟨hk, takes_all hJ (by omega) (by omega)⟩).symm), rfl⟩
structure RtO where
 xs : List NV
 v : Value
 F : Nat → Prop
 W : World
structure RtJ (F : Nat → Prop) (W : World) (L : List Nt) (x : RtO) : Prop where
 up : Up F W x.F x.W
 all : ∀ y ∈ x.xs, NvOk x.F x.W y
 nt : nvs x.xs = L
theorem news1 {α : Type} {f : α → Value} {w : World} {b i : Nat} {xs : List α} (h : News w b 0 (xs.map f)) (hi : i < xs.length) : w.cell? ⟨b, 0 + i * 1, none⟩ = some (f xs[i]) := by
 have h1 := h i (f xs[i]) (by rw [List.getElem?_map, List.getElem?_eq_getElem hi]; rfl)
 rwa [show 0 + i * 1 = 0 + i from by omega]
theorem ck_sub {W : World} {b o : Nat} {x : CT} (h : W.rangeAt b o (chC x)) (h16 : x.1.1.length = 16) : W.rangeAt b o (x.1.1.map vByte) := fun j v hj => by
 refine h j v ?_
 have hj16 : j < 16 := by
  have := (List.getElem?_eq_some_iff.1 hj).1
  rwa [List.length_map, h16] at this
 have h2 := chC_id h16
 rw [List.drop_zero] at h2
 rw [← List.getElem?_take_of_lt hj16, h2]
 exact hj
def gvL (l : List (List UInt8 × List UInt8)) (lk : List Nat) : List Nt := lk.map fun i => give ((l[i]?).getD ([], []))
theorem gvL_next {l : List CT} {lk : List Nat} {i : Nat} (hi : i < lk.length) (hk : lk[i] < l.length) : gvL (cks l) (lk.take (i + 1)) = gvL (cks l) (lk.take i) ++ [give l[lk[i]].1] := by
 unfold gvL
 rw [List.take_succ_eq_append_getElem hi, List.map_append]
 congr 1
 simp only [List.map_cons, List.map_nil, cks, List.getElem?_map, List.getElem?_eq_getElem hk, Option.map_some, Option.getD_some]
def cutI (ids : List (List UInt8)) (q i : Nat) : List (List UInt8) := (ids.take i).drop (16 * q)
theorem cutI_nil (ids : List (List UInt8)) (q : Nat) : cutI ids q (16 * q) = [] := List.drop_eq_nil_of_le (by rw [List.length_take]; omega)
theorem cutI_next {ids : List (List UInt8)} {q i : Nat} (h : i < ids.length) (hq : 16 * q ≤ i) : cutI ids q (i + 1) = cutI ids q i ++ [ids[i]] := by
 unfold cutI
 rw [List.take_succ_eq_append_getElem h, List.drop_append_of_le_length (by rw [List.length_take]; omega)]
theorem cutI_full {ids : List (List UInt8)} {q i : Nat} (hi : i ≤ ids.length) (h : i = 16 * q + 16 ∨ i = ids.length) (hq : i ≤ 16 * q + 16) : cutI ids q i = (batch ids q).ids := by
 show (ids.take i).drop _ = (ids.drop _).take 16
 rw [List.drop_take]
 rcases h with rfl | h
 ·rw [show 16 * q + 16 - 16 * q = 16 from by omega]
 rw [List.take_of_length_le (by rw [List.length_drop]; omega), List.take_of_length_le (by rw [List.length_drop]; omega)]
theorem cutI_len {ids : List (List UInt8)} {q i : Nat} (h : i ≤ 16 * q + 16) : (cutI ids q i).length ≤ 16 := by
 unfold cutI
 rw [List.length_drop, List.length_take]
 omega
set_option maxHeartbeats 4000000 in
theorem rt_parts {F : Nat → Prop} {W : World} (D : Nat) (z : RZ) (hz : RvOk F W z) (hg : RgOk z.rp) : Tr Tryz.prog 87 #[.pointer (some ⟨D, 0, none⟩)] [] [frz F W, blk D 80 [z.bv, z.lv, .int .i64 z.cm, .int .i64 z.tk, .int .i64 (z.ph : Nat), z.notesv, .int .i64 (z.sent : Nat), .int .i64 (z.told : Nat), z.lacksv, .int .i64 (z.rounds : Nat), .bool z.over, .int .i64 z.num, .int .i64 z.e]]
 (TX (fun x : RtO => RtJ F W (partsL z.b) x) (fun x => x.v) (fun x => [frz x.F x.W, blk D 80 [z.bv, z.lv, .int .i64 z.cm, .int .i64 z.tk, .int .i64 (z.ph : Nat), z.notesv, .int .i64 (z.sent : Nat), .int .i64 (z.told : Nat), z.lacksv, .int .i64 (z.rounds : Nat), .bool z.over, .int .i64 z.num, .int .i64 z.e], own 33 4 x.v x.xs.length (x.xs.flatMap nvC)])) := by
 refine Tr.of (l := [(0, .pointer (some ⟨D, 0, none⟩))]) Tryz.func87 rfl (n := 37) rfl (.cons rfl .nil) (fun w0 hro => ?_)
 obtain ⟨cB, dB, eB, fB, hvB, hBc, hBm, _⟩ := hz.b.open
 have hbl : z.b.length ≤ 100000000 := hg.b
 refine go [9,10,1,7,8,9,10,1,7,8,9,9,10,1,7,8,15] ?_
 refine G.ownNil 33 4 ?_
 refine G.loopK (X := Nat × Value × (List NV) × (Nat → Prop) × World) (ts := [0, 2]) (fun st => Up F W st.2.2.2.1 st.2.2.2.2 ∧ (∀ y ∈ st.2.2.1, NvOk st.2.2.2.1 st.2.2.2.2 y) ∧ nvs st.2.2.1 = partsT z.b st.1 ∧ 1000 * st.1 < z.b.length + 1000 ∧ st.2.2.1.length = st.1) (fun st => [(4, .int .i64 ((1000 * st.1 : Nat) : Int)), (3, st.2.1)]) (fun st => [frz st.2.2.2.1 st.2.2.2.2, own 33 4 st.2.1 st.2.2.1.length (st.2.2.1.flatMap nvC)]) (fun st => z.b.length + 1000 - 1000 * st.1) (x0 := (0, .slice none 0 0, [], F, W)) (.cons rfl (.cons rfl .nil)) subT (.cons (.cons .nil)) apT Y55 (.consE rfl veqT (.consE rfl veqT .nil)) (fun st hJ => ?_)
 obtain ⟨i, vo, xs, F1, W1⟩ := st
 try dsimp only at hJ
 try dsimp only
 obtain ⟨hU1, hA1, hN1, hi1, hx1⟩ := hJ
 refine go [9,9,10,0,0,2,8,2,3,0] ?_
 refine G.op rfl (G.val rfl rfl ((pv_load (v := z.bv) Tryz.underlying31 rfl rfl (by exact blk_cell selD (by rfl))).cast hvB) ?_)
 refine go [2,5,2,9,7,8] ?_
 refine G.condP rfl (fun h12 => ?_) (fun h12 => ?_)
 ·have hlt : 1000 * i < z.b.length := by omega
  refine go [13,8,9,15,9,10,0,2,6,0,2,8,2,3,0] ?_
  refine G.op rfl (G.val rfl rfl ((pv_load (v := z.bv) Tryz.underlying31 rfl rfl (by exact blk_cell selD (by rfl))).cast hvB) ?_)
  refine go [2,5] ?_
  refine G.op rfl (G.val rfl rfl (pv_min rfl rfl) ?_)
  refine go [1,7,8,10,0,0,60,12] ?_
  intro b25
  refine go [0,2,8,2,3,0] ?_
  refine G.op rfl (G.val rfl rfl ((pv_load (v := z.bv) Tryz.underlying31 rfl rfl (by exact blk_cell selD (by rfl))).cast hvB) ?_)
  refine go [0,0] ?_
  refine G.op rfl (G.val rfl rfl (pv_subLH (sz := 1) (k := 1000 * i) (k' := min (1000 * i + 1000) z.b.length) Tryz.underlying31 kr rfl rfl rfl rfl (by omega) (by omega) (by omega)) ?_)
  refine go [2,50,2] ?_
  refine G.op rfl (G.buildSlice (z := .agg #[.int .i64 0, .slice none 0 0, .slice none 0 0, .slice none 0 0]) (sz := 4) (cs := nvC (⟨piece z.b i, .slice (some ⟨b25, 0, none⟩) 1 1, .slice none 0 0, subV 1 cB (1000 * i) (min (1000 * i + 1000) z.b.length) dB⟩ : NV)) rfl Tryz.underlying55 kr (by decide) (by decide) rfl kr ?_)
  intro b34
  refine G.op rfl (G.append (k := xs.length) (j := 1) (cs := xs.flatMap nvC) (news := nvC (⟨piece z.b i, .slice (some ⟨b25, 0, none⟩) 1 1, .slice none 0 0, subV 1 cB (1000 * i) (min (1000 * i + 1000) z.b.length) dB⟩ : NV)) (b := b34) (off := 0) rfl Tryz.underlying55 Tryz.infoNo rfl rfl rfl selT (fun _ => rfl) (fun h => by cases h) rfl (blk_news (k := 4) selT rfl) (fun u hu => by simp only [nvC, List.mem_cons, List.not_mem_nil, or_false] at hu; rcases hu with rfl | rfl | rfl | rfl <;> first | rfl | exact sub_one _ _ _ _ _ | assumption) (by omega) (by omega) ?_)
  intro vn
  rw [nvC_app, show xs.length + 1 = (xs ++ [(⟨piece z.b i, .slice (some ⟨b25, 0, none⟩) 1 1, .slice none 0 0, subV 1 cB (1000 * i) (min (1000 * i + 1000) z.b.length) dB⟩ : NV)]).length from by rw [List.length_append]; rfl]
  refine G.ownFact (v := vn) selT (fun hvn _ => ?_)
  refine go [1,7,16,8,10] ?_
  refine G.ownBlk (b := b25) (k := 1) (sz := 1) selT rfl (by omega) ?_
  refine G.freeze (p := [own 3 1 _ _ _]) selT subT (fun F2 W2 hU hC => ?_)
  have h1 := frz_own1 (p := I64) (f := vInt) [((1000 * i : Nat) : Int)] (hC _ (List.mem_singleton.2 rfl)) rfl (by intro x hx; obtain rfl : x = _ := (by simpa using hx); exact ⟨by omega, by omega⟩)
  have hbv : IsSl rByte F1 W1 (.slice cB z.b.length dB) z.b := by have := (hz.up hU1).b; rwa [hvB] at this
  have hok : NvOk F2 W2 (⟨piece z.b i, .slice (some ⟨b25, 0, none⟩) 1 1, .slice none 0 0, subV 1 cB (1000 * i) (min (1000 * i + 1000) z.b.length) dB⟩ : NV) := ⟨h1, IsSl.nil _ _ _, (hU.sl (IsSl.sub hbv (i := 1000 * i) (j := min (1000 * i + 1000) z.b.length) (by omega) (by omega)) : _), i64_2, by show 1 ≤ 1000; omega, by show 0 ≤ 1000; omega, by show ((z.b.take _).drop _).length ≤ 1000000; rw [List.length_drop, List.length_take]; omega⟩
  refine go [0,2,6,1,7] ?_
  exact G.next (i + 1, vn, xs ++ [(⟨piece z.b i, .slice (some ⟨b25, 0, none⟩) 1 1, .slice none 0 0, subV 1 cB (1000 * i) (min (1000 * i + 1000) z.b.length) dB⟩ : NV)], F2, W2) (by first | exact trivial | ((try dsimp only) <;> exact ⟨hU1.trans hU, nv_all hU hA1 hok, by rw [nvs_app, hN1, partsT_next], by omega, by rw [List.length_append, hx1]; rfl⟩)) (by (try dsimp only); omega) (.consE rfl veqT (.consE rfl veqT (.cons rfl (.cons rfl .nil)))) subT
 have hge : ¬ 1000 * i < z.b.length := by omega
 refine go [18,14,14,19,8,9,10,0,1,7,8,11] ?_
 exact G.doneX1 (⟨xs, vo, F1, W1⟩) (by first | exact trivial | ((try dsimp only) <;> exact ⟨hU1, hA1, hN1.trans (congrArg (partsT z.b) (by show i = (z.b.length + 999) / 1000; omega))⟩)) rfl rfl rfl subT
set_option maxHeartbeats 4000000 in
theorem rt_gives {F : Nat → Prop} {W : World} (D : Nat) (z : RZ) (hz : RvOk F W z) (hg : RgOk z.rp) : Tr Tryz.prog 89 #[.pointer (some ⟨D, 0, none⟩)] [] [frz F W, blk D 80 [z.bv, z.lv, .int .i64 z.cm, .int .i64 z.tk, .int .i64 (z.ph : Nat), z.notesv, .int .i64 (z.sent : Nat), .int .i64 (z.told : Nat), z.lacksv, .int .i64 (z.rounds : Nat), .bool z.over, .int .i64 z.num, .int .i64 z.e], own 3 1 z.lacksv z.lacks.length (z.lacks.map vN)]
 (TX (fun x : RtO => RtJ F W (gvL (cks z.l) z.lacks) x) (fun x => x.v) (fun x => [frz x.F x.W, blk D 80 [z.bv, z.lv, .int .i64 z.cm, .int .i64 z.tk, .int .i64 (z.ph : Nat), z.notesv, .int .i64 (z.sent : Nat), .int .i64 (z.told : Nat), z.lacksv, .int .i64 (z.rounds : Nat), .bool z.over, .int .i64 z.num, .int .i64 z.e], own 3 1 z.lacksv z.lacks.length (z.lacks.map vN), own 33 4 x.v x.xs.length (x.xs.flatMap nvC)])) := by
 refine Tr.of (l := [(0, .pointer (some ⟨D, 0, none⟩))]) Tryz.func89 rfl (n := 38) rfl (.cons rfl .nil) (fun w0 hro => ?_)
 refine G.ownNews (v := z.lacksv) selT (fun za zc zk hzv hkz hmz hadz hnilz hnewz => ?_)
 have hll : z.lacks.length ≤ 20000000 := hg.lacks
 obtain ⟨cL, dL, eL, fL, hvL, _, _, hnL, hLd, hLe⟩ := hz.l.open
 refine go [9,10,1,7,8,9,10,1,7,8,9,9,10,1,7,8,15] ?_
 refine G.ownNil 33 4 ?_
 refine G.loopK (X := Nat × Value × (List NV) × (Nat → Prop) × World) (ts := [0, 2]) (fun st => st.1 ≤ z.lacks.length ∧ (Up F W st.2.2.2.1 st.2.2.2.2 ∧ (∀ y ∈ st.2.2.1, NvOk st.2.2.2.1 st.2.2.2.2 y) ∧ nvs st.2.2.1 = gvL (cks z.l) (z.lacks.take st.1) ∧ st.2.2.1.length = st.1)) (fun st => [(4, .int .i64 (st.1 : Int)), (3, st.2.1)]) (fun st => [frz st.2.2.2.1 st.2.2.2.2, own 33 4 st.2.1 st.2.2.1.length (st.2.2.1.flatMap nvC)]) (fun st => z.lacks.length - st.1) (x0 := (0, .slice none 0 0, [], F, W)) (.cons rfl (.cons rfl .nil)) subT (.cons (.cons .nil)) apT (by first | exact trivial | ((try dsimp only) <;> exact ⟨Nat.zero_le _, ⟨Up.refl _ _, (fun y hy => by cases hy), rfl, rfl⟩⟩)) (.consE rfl veqT (.consE rfl veqT .nil)) (fun st hJ => ?_)
 obtain ⟨i, vo, xs, F1, W1⟩ := st
 try dsimp only at hJ
 try dsimp only
 obtain ⟨hki, hJ⟩ := hJ
 obtain ⟨hU1, hA1, hN1, hx1⟩ := hJ
 refine go [9,9,10,0,0,2,8,2,3,8] ?_
 refine G.op rfl (G.val rfl rfl ((pv_load (v := z.lacksv) Tryz.underlying29 rfl rfl (by exact blk_cell selD (by rfl))).cast hzv) ?_)
 refine go [2,5,2,9,7,8] ?_
 refine G.condP rfl (fun h12 => ?_) (fun h12 => ?_)
 ·have hlt : i < z.lacks.length := by omega
  have hkl : z.lacks[i] < z.l.length := by have := hg.lks _ (List.getElem_mem hlt); rwa [rp_l] at this
  have hck := hz.lk _ (List.getElem_mem hkl)
  have hdo := hck.1.one
  have lq := hck.2.1
  have hR0 := hU1.el (hLe (z.lacks[i]) hkl)
  refine go [13,8,9,15,9] ?_
  refine G.drawT (nn := 15) (p := []) (rem := 32767) [0, 1, 2, 4, 0, 16, 32, 64, 0, 384, 512, 1032, 2048, 0, 16383] [0, 1, 2, 4, 0, 16, 32, 64, 0, 384, 512, 1032, 2048, 0, 12288] kr ⟨rfl, by kernel_rfl, by kernel_rfl⟩ subT kr (fun hT5 => ?_)
  refine go [22,0,32766,0,22,1,32764,8,22,2,32760,3,1,22,4,32744,0,22,5,32712,8,22,6,32648,3,8,22,8,32392,0] ?_
  refine G.takeT hT5 (i := 3) (rem' := 32384) rfl rfl rfl kr (fun _ _ _ h => h) rfl ((pv_load (v := z.lv) Tryz.underlying40 rfl rfl (by exact blk_cell selD (by rfl))).cast hvL) subT ?_
  refine G.takeT hT5 (i := 7) (rem' := 32256) rfl rfl rfl kr (fun _ _ _ h => h) rfl ((pv_load (v := z.lacksv) Tryz.underlying29 rfl rfl (by exact blk_cell selD (by rfl))).cast hzv) subT ?_
  refine G.takeT hT5 (i := 9) (rem' := 31744) rfl rfl rfl kr (fun _ _ _ h => h) rfl (pv_ixSl (sz := 1) (k := i) Tryz.underlying29 kr rfl rfl hadz rfl (by omega)) subT ?_
  refine G.takeT hT5 (i := 10) (rem' := 30720) rfl rfl rfl kr (fun _ _ _ h => h) rfl (pv_load (v := vN z.lacks[i]) Tryz.underlying3 rfl rfl (fun w hw => news1 (hnewz selD w hw) hlt)) subT ?_
  refine G.takeT hT5 (i := 11) (rem' := 28672) rfl rfl rfl kr (fun _ _ _ h => h) rfl (pv_ixSl (sz := 17) (k := z.lacks[i]) Tryz.underlying40 kr rfl rfl hLd rfl (by omega)) subT ?_
  refine G.takeT hT5 (i := 12) (rem' := 24576) rfl rfl rfl kr (fun _ _ _ h => h) rfl (pv_loadN (cs := chC z.l[z.lacks[i]]) Tryz.underlying54 rfl (by rw [chC_len]; kernel_rfl) rfl (frz_rng selD hR0.1 hR0.2.1)) subT ?_
  refine go [24,13,16384] ?_
  refine G.turnOp rfl rfl (G.alloc (z := .agg #[.int .u8 0, .int .u8 0, .int .u8 0, .int .u8 0, .int .u8 0, .int .u8 0, .int .u8 0, .int .u8 0, .int .u8 0, .int .u8 0, .int .u8 0, .int .u8 0, .int .u8 0, .int .u8 0, .int .u8 0, .int .u8 0, .slice none 0 0]) (cs := [.int .u8 0, .int .u8 0, .int .u8 0, .int .u8 0, .int .u8 0, .int .u8 0, .int .u8 0, .int .u8 0, .int .u8 0, .int .u8 0, .int .u8 0, .int .u8 0, .int .u8 0, .int .u8 0, .int .u8 0, .int .u8 0, .slice none 0 0]) rfl kr rfl ?_)
  intro b5
  refine go [26,24,14,0] ?_
  refine G.turnOp rfl rfl (G.storeN (vs := chC z.l[z.lacks[i]]) (by rw [chC_len]; kernel_rfl) rfl rfl (List.all_eq_true.2 (chC_one hdo)) selT (by rw [chC_len]; simp) ?_)
  rw [show putN ([.int .u8 0, .int .u8 0, .int .u8 0, .int .u8 0, .int .u8 0, .int .u8 0, .int .u8 0, .int .u8 0, .int .u8 0, .int .u8 0, .int .u8 0, .int .u8 0, .int .u8 0, .int .u8 0, .int .u8 0, .int .u8 0, .slice none 0 0] : List Value) 0 (chC z.l[z.lacks[i]]) = chC z.l[z.lacks[i]] from putN_all _ _ [] (by rw [chC_len]; rfl)]
  refine go [26,27,8,10,0,2,3,0] ?_
  refine G.op rfl (G.val rfl rfl (pv_loadN (cs := z.l[z.lacks[i]].1.1.map vByte) Tryz.underlying52 rfl Y19 rfl (blk_range (k := 16) selT (chC_id lq))) ?_)
  refine G.op rfl (G.buildSlice (sz := 16) (cs := z.l[z.lacks[i]].1.1.map vByte) rfl Tryz.underlying30 Tryz.infoIDfill (by decide) (by decide) rfl (fillID _ (by rw [List.length_map, lq])) ?_)
  intro b31
  refine go [2,3,16] ?_
  refine G.op rfl (G.val rfl rfl (pv_load (v := z.l[z.lacks[i]].2) Tryz.underlying31 rfl rfl (blk_cell selT (chC_dat _))) ?_)
  refine go [2,50,2] ?_
  refine G.op rfl (G.buildSlice (z := .agg #[.int .i64 0, .slice none 0 0, .slice none 0 0, .slice none 0 0]) (sz := 4) (cs := nvC (⟨give z.l[z.lacks[i]].1, .slice none 0 0, .slice (some ⟨b31, 0, none⟩) 1 1, z.l[z.lacks[i]].2⟩ : NV)) rfl Tryz.underlying55 kr (by decide) (by decide) rfl kr ?_)
  intro b35
  refine G.op rfl (G.append (k := xs.length) (j := 1) (cs := xs.flatMap nvC) (news := nvC (⟨give z.l[z.lacks[i]].1, .slice none 0 0, .slice (some ⟨b31, 0, none⟩) 1 1, z.l[z.lacks[i]].2⟩ : NV)) (b := b35) (off := 0) rfl Tryz.underlying55 Tryz.infoNo rfl rfl rfl selT (fun _ => rfl) (fun h => by cases h) rfl (blk_news (k := 4) selT rfl) (fun u hu => by simp only [nvC, List.mem_cons, List.not_mem_nil, or_false] at hu; rcases hu with rfl | rfl | rfl | rfl <;> first | rfl | exact sub_one _ _ _ _ _ | assumption) (by omega) (by omega) ?_)
  intro vn
  rw [nvC_app, show xs.length + 1 = (xs ++ [(⟨give z.l[z.lacks[i]].1, .slice none 0 0, .slice (some ⟨b31, 0, none⟩) 1 1, z.l[z.lacks[i]].2⟩ : NV)]).length from by rw [List.length_append]; rfl]
  refine G.ownFact (v := vn) selT (fun hvn _ => ?_)
  refine go [1,7,16,8,10] ?_
  refine G.ownBlk (b := b31) (k := 1) (sz := 16) selT (by rw [List.length_map, lq]) (by omega) ?_
  refine G.freeze (p := [own 52 16 _ _ _]) selT subT (fun F2 W2 hU hC => ?_)
  have h1 := frz_ownI [z.l[z.lacks[i]].1.1] (by rw [show flatI [z.l[z.lacks[i]].1.1] = z.l[z.lacks[i]].1.1.map vByte from by simp [flatI]]; exact hC _ (List.mem_singleton.2 rfl)) rfl (by intro x hx; obtain rfl : x = _ := (by simpa using hx); exact lq)
  have hok : NvOk F2 W2 (⟨give z.l[z.lacks[i]].1, .slice none 0 0, .slice (some ⟨b31, 0, none⟩) 1 1, z.l[z.lacks[i]].2⟩ : NV) := ⟨IsSl.nil _ _ _, h1, (hck.up (hU1.trans hU)).1, i64_4, by show 0 ≤ 1000; omega, by show 1 ≤ 1000; omega, hck.2.2⟩
  refine go [0,2,6,1,7] ?_
  exact G.next ((i + 1, vn, xs ++ [(⟨give z.l[z.lacks[i]].1, .slice none 0 0, .slice (some ⟨b31, 0, none⟩) 1 1, z.l[z.lacks[i]].2⟩ : NV)], F2, W2)) (by first | exact trivial | ((try dsimp only) <;> exact ⟨by omega, ⟨hU1.trans hU, nv_all hU hA1 hok, by rw [nvs_app, hN1, gvL_next hlt hkl], by rw [List.length_append, hx1]; rfl⟩⟩)) (by (try dsimp only); omega) (.consE rfl veqT (.consE rfl veqT (.cons rfl (.cons rfl .nil)))) subT
 obtain rfl : i = z.lacks.length := by omega
 rw [List.take_length] at hN1
 refine go [18,14,14,19,8,9,10,0,1,7,8,11] ?_
 exact G.doneX1 (⟨xs, vo, F1, W1⟩) (by first | exact trivial | ((try dsimp only) <;> exact ⟨hU1, hA1, hN1⟩)) rfl rfl rfl subT
set_option maxHeartbeats 4000000 in
theorem rt_queries {F : Nat → Prop} {W : World} (D : Nat) (z : RZ) (hz : RvOk F W z) (hg : RgOk z.rp) : Tr Tryz.prog 88 #[.pointer (some ⟨D, 0, none⟩)] [] [frz F W, blk D 80 [z.bv, z.lv, .int .i64 z.cm, .int .i64 z.tk, .int .i64 (z.ph : Nat), z.notesv, .int .i64 (z.sent : Nat), .int .i64 (z.told : Nat), z.lacksv, .int .i64 (z.rounds : Nat), .bool z.over, .int .i64 z.num, .int .i64 z.e]]
 (TX (fun x : RtO => RtJ F W (queriesL (z.rp.l.map (·.1))) x) (fun x => x.v) (fun x => [frz x.F x.W, blk D 80 [z.bv, z.lv, .int .i64 z.cm, .int .i64 z.tk, .int .i64 (z.ph : Nat), z.notesv, .int .i64 (z.sent : Nat), .int .i64 (z.told : Nat), z.lacksv, .int .i64 (z.rounds : Nat), .bool z.over, .int .i64 z.num, .int .i64 z.e], own 33 4 x.v x.xs.length (x.xs.flatMap nvC)])) := by
 refine Tr.of (l := [(0, .pointer (some ⟨D, 0, none⟩))]) Tryz.func88 rfl (n := 51) rfl (.cons rfl .nil) (fun w0 hro => ?_)
 obtain ⟨cL, dL, eL, fL, hvL, _, _, hnL, hLd, hLe⟩ := hz.l.open
 have hgl : z.l.length ≤ 10000000 := by have := hg.l; rwa [rp_l] at this
 obtain ⟨ids, hids⟩ : ∃ ids, z.l.map (·.1.1) = ids := ⟨_, rfl⟩
 have hids2 : z.rp.l.map (·.1) = ids := by rw [← hids]; simp [RZ.rp, cks]
 rw [hids2]
 have hidl : ids.length = z.l.length := by rw [← hids, List.length_map]
 have h16 : all16 ids := fun x hx => by rw [← hids] at hx; obtain ⟨c, hc, rfl⟩ := List.mem_map.1 hx; exact (hz.lk c hc).2.1
 refine go [9,10,1,7,8,9,10,1,7,8,9,9,10,1,7,8,15] ?_
 refine G.ownNil 33 4 ?_
 refine G.loopK (X := Nat × Value × (List NV) × (Nat → Prop) × World) (ts := [0, 2]) (fun st => Up F W st.2.2.2.1 st.2.2.2.2 ∧ (∀ y ∈ st.2.2.1, NvOk st.2.2.2.1 st.2.2.2.2 y) ∧ nvs st.2.2.1 = (List.range st.1).map (batch ids) ∧ 16 * st.1 < z.l.length + 16 ∧ st.2.2.1.length = st.1) (fun st => [(4, .int .i64 ((16 * st.1 : Nat) : Int)), (3, st.2.1)]) (fun st => [frz st.2.2.2.1 st.2.2.2.2, own 33 4 st.2.1 st.2.2.1.length (st.2.2.1.flatMap nvC)]) (fun st => z.l.length + 16 - 16 * st.1) (x0 := (0, .slice none 0 0, [], F, W)) (.cons rfl (.cons rfl .nil)) subT (.cons (.cons .nil)) apT Y55 (.consE rfl veqT (.consE rfl veqT .nil)) (fun st hJ => ?_)
 obtain ⟨q, vo, xs, F1, W1⟩ := st
 try dsimp only at hJ
 try dsimp only
 obtain ⟨hU1, hA1, hN1, hq1, hx1⟩ := hJ
 refine go [9,9,10,0,0,2,8,2,3,1] ?_
 refine G.op rfl (G.val rfl rfl ((pv_load (v := z.lv) Tryz.underlying40 rfl rfl (by exact blk_cell selD (by rfl))).cast hvL) ?_)
 refine go [2,5,2,9,7,8] ?_
 refine G.condP rfl (fun h13 => ?_) (fun h13 => ?_)
 ·have hlt : 16 * q < z.l.length := by omega
  refine go [13,8,9,15,9,10,2,50,2,60,5] ?_
  intro b5
  refine go [20,7,8,9,9,10,0,1,7,8,15,60,4] ?_
  rw [show own 52 16 (.slice none 0 0) 0 [] = own 52 16 (.slice none 0 0) (cutI ids q (16 * q)).length (flatI (cutI ids q (16 * q))) from by rw [cutI_nil]; rfl]
  refine G.loopK (X := Nat × Value) (ts := [0, 2, 3, 4, 5]) (fun st => 16 * q ≤ st.1 ∧ st.1 ≤ z.l.length ∧ st.1 ≤ 16 * q + 16) (fun st => [(6, .int .i64 (st.1 : Int))]) (fun st => [blk b5 33 [.int .i64 3, .slice none 0 0, st.2, .slice none 0 0], own 52 16 st.2 (cutI ids q st.1).length (flatI (cutI ids q st.1))]) (fun st => z.l.length - st.1) (x0 := ((16 * q), .slice none 0 0)) (.cons rfl (.cons rfl (.cons rfl (.cons rfl (.cons rfl .nil))))) subT (.cons .nil) apT (by first | exact trivial | ((try dsimp only) <;> exact ⟨by omega, by omega, by omega⟩)) (.consE rfl veqT .nil) (fun st hJ => ?_)
  obtain ⟨i, vI⟩ := st
  try dsimp only at hJ
  try dsimp only
  obtain ⟨hi1, hi2, hi3⟩ := hJ
  have hcl := cutI_len (ids := ids) hi3
  refine go [9,9,10,0,0,2,8,2,3,1] ?_
  refine G.op rfl (G.val rfl rfl ((pv_load (v := z.lv) Tryz.underlying40 rfl rfl (by exact blk_cell selD (by rfl))).cast hvL) ?_)
  refine go [2,5,2,9,0] ?_
  refine G.partP (t := 25) rfl (fun h25 => ?_) (fun h25 => ?_)
  ·refine go [3,0,3,0,3,6,3,9,2,2,7,8] ?_
   refine G.condP rfl (fun h30 => ?_) (fun h30 => ?_)
   ·have hlti : i < z.l.length := by omega
    have hlt16 : i < 16 * q + 16 := by omega
    have hltd : i < ids.length := by omega
    have hR0 := hU1.el (hLe i hlti)
    have lq := hR0.2.2.2.1
    have hidq : ids[i] = z.l[i].1.1 := by simp [← hids]
    refine go [13,8,9,15] ?_
    refine G.drawE (nn := 14) (p := [own 52 16 vI _ _]) (rem := 4095) [0, 1, 0, 4, 8, 16, 0, 96, 128, 256, 512, 1026, 4095, 8191] [0, 1, 0, 4, 8, 16, 0, 96, 128, 256, 512, 1026, 0, 6144] [13, 12] [8191, 4095] 12 kr ⟨rfl, by kernel_rfl, by kernel_rfl⟩ kr kr kr subT (fun hT9 => ?_)
    refine go [22,0,4094,3,2,22,2,4090,0,22,3,4082,8,22,4,4066,3,1,22,6,4002,0] ?_
    refine G.takeT hT9 (i := 1) (rem' := 4000) rfl rfl rfl kr (fun _ _ _ h => h) rfl (pv_load (v := vI) Tryz.underlying30 rfl rfl (blk_cell selD (by rfl))) subT ?_
    refine go [24,5,3968] ?_
    refine G.turnOp rfl rfl (G.val rfl rfl ((pv_load (v := z.lv) Tryz.underlying40 rfl rfl (by exact blk_cell selD (by rfl))).cast hvL) ?_)
    refine go [26] ?_
    refine G.takeT hT9 (i := 7) (rem' := 3840) rfl rfl rfl kr (fun _ _ _ h => h) rfl (pv_ixSl (sz := 17) (k := i) Tryz.underlying40 kr rfl rfl hLd rfl (by omega)) subT ?_
    refine go [22,8,3584,3,0,24,9,3072] ?_
    refine G.turnOp rfl rfl (G.val rfl rfl (pv_loadN (cs := z.l[i].1.1.map vByte) Tryz.underlying52 rfl Y19 rfl (frz_rng selD hR0.1 (ck_sub hR0.2.1 lq))) ?_)
    refine go [26,24,10,2048] ?_
    refine G.turnOp rfl rfl (G.buildSlice (sz := 16) (cs := z.l[i].1.1.map vByte) rfl Tryz.underlying30 Tryz.infoIDfill (by decide) (by decide) rfl (fillID _ (by rw [List.length_map, lq])) ?_)
    intro b43
    refine go [26,24,11,0] ?_
    refine G.turnOp rfl rfl (G.append (k := (cutI ids q i).length) (j := 1) (cs := flatI (cutI ids q i)) (news := z.l[i].1.1.map vByte) (b := b43) (off := 0) rfl Tryz.underlying30 Tryz.infoID' rfl rfl rfl selT (fun _ => rfl) (fun h => by cases h) (by rw [List.length_map, lq]) (blk_news (k := 16) selT (List.take_of_length_le Y16)) (vByte_one _) (by omega) (by omega) ?_)
    intro v2
    rw [own_oneI, ← hidq, ← cutI_next hltd hi1]
    refine G.ownFact (v := v2) selT (fun hv2 _ => ?_)
    refine go [26,27] ?_
    refine G.tailS [13] 12 rfl ?_
    refine go [25,3,2] ?_
    refine G.tailS [] 13 rfl ?_
    refine go [30,60,6,16,8,10,0,2,6,1,7] ?_
    exact G.next (i + 1, v2) (by first | exact trivial | ((try dsimp only) <;> exact ⟨by omega, by omega, by omega⟩)) (by (try dsimp only); omega) (.consE rfl veqT (.cons rfl (.cons rfl (.cons rfl (.cons rfl (.cons rfl .nil)))))) subT
   have hcf : cutI ids q i = (batch ids q).ids := cutI_full (by omega) (by omega) hi3
   refine go [18,14,14,19,8,10,0] ?_
   refine G.op rfl (G.val rfl rfl (pv_loadN (cs := nvC (⟨batch ids q, .slice none 0 0, vI, .slice none 0 0⟩ : NV)) Tryz.underlying33 rfl kr rfl (blk_range (k := 4) selT rfl)) ?_)
   refine G.ownFact (v := vI) selT (fun hvI1 _ => ?_)
   refine G.op rfl (G.buildSlice (z := .agg #[.int .i64 0, .slice none 0 0, .slice none 0 0, .slice none 0 0]) (sz := 4) (cs := nvC (⟨batch ids q, .slice none 0 0, vI, .slice none 0 0⟩ : NV)) rfl Tryz.underlying55 kr (by decide) (by decide) rfl kr ?_)
   intro b48
   refine G.op rfl (G.append (k := xs.length) (j := 1) (cs := xs.flatMap nvC) (news := nvC (⟨batch ids q, .slice none 0 0, vI, .slice none 0 0⟩ : NV)) (b := b48) (off := 0) rfl Tryz.underlying55 Tryz.infoNo rfl rfl rfl selT (fun _ => rfl) (fun h => by cases h) rfl (blk_news (k := 4) selT rfl) (fun u hu => by simp only [nvC, List.mem_cons, List.not_mem_nil, or_false] at hu; rcases hu with rfl | rfl | rfl | rfl <;> first | rfl | exact sub_one _ _ _ _ _ | assumption) (by omega) (by omega) ?_)
   intro vn
   rw [nvC_app, show xs.length + 1 = (xs ++ [(⟨batch ids q, .slice none 0 0, vI, .slice none 0 0⟩ : NV)]).length from by rw [List.length_append]; rfl]
   refine G.ownFact (v := vn) selT (fun hvn _ => ?_)
   refine go [1,7,16,8,10] ?_
   rw [hcf]
   refine G.freeze (p := [own 52 16 _ _ _]) selT subT (fun F2 W2 hU hC => ?_)
   have hI := frz_ownI (batch ids q).ids (hC _ (List.mem_singleton.2 rfl)) rfl (fun x hx => h16 x (List.mem_of_mem_drop (List.mem_of_mem_take hx)))
   have hbl : (batch ids q).ids.length ≤ 16 := by rw [← hcf]; exact hcl
   have hok : NvOk F2 W2 (⟨batch ids q, .slice none 0 0, vI, .slice none 0 0⟩ : NV) := ⟨IsSl.nil _ _ _, hI, IsSl.nil _ _ _, i64_3, Nat.zero_le _, Nat.le_trans hbl (by omega), Nat.zero_le _⟩
   refine go [0,2,6,1,7] ?_
   exact G.next (q + 1, vn, xs ++ [(⟨batch ids q, .slice none 0 0, vI, .slice none 0 0⟩ : NV)], F2, W2) (by first | exact trivial | ((try dsimp only) <;> exact ⟨hU1.trans hU, nv_all hU hA1 hok, by rw [nvs_app, hN1, batch_app], by omega, by rw [List.length_append, hx1]; rfl⟩)) (by (try dsimp only); omega) (.consE rfl veqT (.consE rfl veqT (.cons rfl (.cons rfl .nil)))) subT
  refine go [4,4,4,4,2,2,7,8,60,0] ?_
  have hcf : cutI ids q i = (batch ids q).ids := cutI_full (by omega) (by omega) hi3
  refine go [18,14,14,19,8,10,0] ?_
  refine G.op rfl (G.val rfl rfl (pv_loadN (cs := nvC (⟨batch ids q, .slice none 0 0, vI, .slice none 0 0⟩ : NV)) Tryz.underlying33 rfl kr rfl (blk_range (k := 4) selT rfl)) ?_)
  refine G.ownFact (v := vI) selT (fun hvI1 _ => ?_)
  refine G.op rfl (G.buildSlice (z := .agg #[.int .i64 0, .slice none 0 0, .slice none 0 0, .slice none 0 0]) (sz := 4) (cs := nvC (⟨batch ids q, .slice none 0 0, vI, .slice none 0 0⟩ : NV)) rfl Tryz.underlying55 kr (by decide) (by decide) rfl kr ?_)
  intro b48
  refine G.op rfl (G.append (k := xs.length) (j := 1) (cs := xs.flatMap nvC) (news := nvC (⟨batch ids q, .slice none 0 0, vI, .slice none 0 0⟩ : NV)) (b := b48) (off := 0) rfl Tryz.underlying55 Tryz.infoNo rfl rfl rfl selT (fun _ => rfl) (fun h => by cases h) rfl (blk_news (k := 4) selT rfl) (fun u hu => by simp only [nvC, List.mem_cons, List.not_mem_nil, or_false] at hu; rcases hu with rfl | rfl | rfl | rfl <;> first | rfl | exact sub_one _ _ _ _ _ | assumption) (by omega) (by omega) ?_)
  intro vn
  rw [nvC_app, show xs.length + 1 = (xs ++ [(⟨batch ids q, .slice none 0 0, vI, .slice none 0 0⟩ : NV)]).length from by rw [List.length_append]; rfl]
  refine G.ownFact (v := vn) selT (fun hvn _ => ?_)
  refine go [1,7,16,8,10] ?_
  rw [hcf]
  refine G.freeze (p := [own 52 16 _ _ _]) selT subT (fun F2 W2 hU hC => ?_)
  have hI := frz_ownI (batch ids q).ids (hC _ (List.mem_singleton.2 rfl)) rfl (fun x hx => h16 x (List.mem_of_mem_drop (List.mem_of_mem_take hx)))
  have hbl : (batch ids q).ids.length ≤ 16 := by rw [← hcf]; exact hcl
  have hok : NvOk F2 W2 (⟨batch ids q, .slice none 0 0, vI, .slice none 0 0⟩ : NV) := ⟨IsSl.nil _ _ _, hI, IsSl.nil _ _ _, i64_3, Nat.zero_le _, Nat.le_trans hbl (by omega), Nat.zero_le _⟩
  refine go [0,2,6,1,7] ?_
  exact G.next (q + 1, vn, xs ++ [(⟨batch ids q, .slice none 0 0, vI, .slice none 0 0⟩ : NV)], F2, W2) (by first | exact trivial | ((try dsimp only) <;> exact ⟨hU1.trans hU, nv_all hU hA1 hok, by rw [nvs_app, hN1, batch_app], by omega, by rw [List.length_append, hx1]; rfl⟩)) (by (try dsimp only); omega) (.consE rfl veqT (.consE rfl veqT (.cons rfl (.cons rfl .nil)))) subT
 have hge : ¬ 16 * q < z.l.length := by omega
 refine go [18,14,14,19,8,9,10,0,1,7,8,11] ?_
 exact G.doneX1 (⟨xs, vo, F1, W1⟩) (by first | exact trivial | ((try dsimp only) <;> exact ⟨hU1, hA1, by rw [hN1]; unfold queriesL; rw [hidl, show q = (z.l.length + 15) / 16 from by omega]⟩)) rfl rfl rfl subT
def entR5 (r : RP) : RP := { r with ph := 5, sent := 0, told := 0, notes := [⟨5, [], [], []⟩] }
def entR4 (r : RP) : RP := if gvL r.l r.lacks = [] then entR5 r else { r with ph := 4, sent := 0, told := 0, notes := gvL r.l r.lacks }
def entR3 (r : RP) : RP := if queriesL (r.l.map (·.1)) = [] then entR4 { r with lacks := [], rounds := r.rounds + 1 } else { r with ph := 3, sent := 0, told := 0, notes := queriesL (r.l.map (·.1)), lacks := [], rounds := r.rounds + 1 }
def entR2 (r : RP) : RP := { r with ph := 2, sent := 0, told := 0, notes := partsL r.b }
def entR1 (r : RP) : RP := { r with ph := 1, sent := 0, told := 0, notes := [⟨1, [r.cm, r.tk, (r.b.length : Int)], [], []⟩] }
def entR (r : RP) : Nat → RP
 | 1 => entR1 r
 | 2 => entR2 r
 | 3 => entR3 r
 | 4 => entR4 r
 | _ => entR5 r
theorem frz_nvs {e : TypeId} {F : Nat → Prop} {W : World} {v : Value} (xs : List NV) (h : (own e 4 v xs.length (xs.flatMap nvC)).φ W ∧ ∀ b, (own e 4 v xs.length (xs.flatMap nvC)).S b → F b) (hA : ∀ a ∈ xs, NvOk F W a) : IsSl rNV F W v xs :=
 rows_sl (E := rNV) nvC_len rfl h.1 (fun b hb => h.2 b hb) (fun b o x hx hP hr => ⟨hP, hr, hA x hx⟩)
theorem nv_up {F F' : Nat → Prop} {W W' : World} {xs : List NV} (hU : Up F W F' W') (h : ∀ y ∈ xs, NvOk F W y) : ∀ y ∈ xs, NvOk F' W' y := fun y hy => (h y hy).up hU
theorem nvs_zero {xs : List NV} {L : List Nt} (h : nvs xs = L) (h0 : xs.length = 0) : L = [] := by
 rw [← h, List.eq_nil_of_length_eq_zero h0]
 rfl
theorem nvs_some {xs : List NV} {L : List Nt} (h : nvs xs = L) (h0 : ¬ xs.length = 0) : ¬ L = [] := fun e => h0 (by rw [← nvs_length xs, h, e]; rfl)
theorem nvs_ne {xs : List NV} {L : List Nt} (h : nvs xs = L) (h0 : ¬ L = []) : ¬ xs.length = 0 := fun e => h0 (nvs_zero h e)
theorem parts_ne {b : List UInt8} (h : 0 < b.length) : ¬ partsL b = [] := fun e => by
 have h3 := congrArg List.length e
 simp [partsL, partsT] at h3
 omega
theorem parts_few {b : List UInt8} (h : b.length ≤ 100000000) : (partsL b).length ≤ 100000000 := by
 unfold partsL partsT
 rw [List.length_map, List.length_range]
 omega
theorem queries_few {ids : List (List UInt8)} (h : ids.length ≤ 10000000) : (queriesL ids).length ≤ 100000000 := by
 unfold queriesL
 rw [List.length_map, List.length_range]
 omega
theorem gv_few {l : List (List UInt8 × List UInt8)} {lk : List Nat} (h : lk.length ≤ 20000000) : (gvL l lk).length ≤ 100000000 := by
 unfold gvL
 rw [List.length_map]
 omega
theorem entR4_go {r : RP} (h : gvL r.l r.lacks = []) : entR4 r = entR5 r := if_pos h
theorem entR4_end {r : RP} (h : ¬ gvL r.l r.lacks = []) : entR4 r = { r with ph := 4, sent := 0, told := 0, notes := gvL r.l r.lacks } := if_neg h
theorem entR3_go {r : RP} (h : queriesL (r.l.map (·.1)) = []) : entR3 r = entR4 { r with lacks := [], rounds := r.rounds + 1 } := if_pos h
theorem entR3_end {r : RP} (h : ¬ queriesL (r.l.map (·.1)) = []) : entR3 r = { r with ph := 3, sent := 0, told := 0, notes := queriesL (r.l.map (·.1)), lacks := [], rounds := r.rounds + 1 } := if_neg h
set_option maxHeartbeats 4000000 in
theorem renter5_tr {F : Nat → Prop} {W : World} (D : Nat) (z : RZ) (hz : RvOk F W z) (hg : RgOk z.rp) (hr : z.rounds ≤ 1001) : Tr Tryz.prog 61 #[.pointer (some ⟨D, 0, none⟩), .int .i64 5] [] [blk D 80 [z.bv, z.lv, .int .i64 z.cm, .int .i64 z.tk, .int .i64 (z.ph : Nat), z.notesv, .int .i64 (z.sent : Nat), .int .i64 (z.told : Nat), z.lacksv, .int .i64 (z.rounds : Nat), .bool z.over, .int .i64 z.num, .int .i64 z.e], frz F W, own 3 1 z.lacksv z.lacks.length (z.lacks.map vN)]
 (TX (fun x : RZ × (Nat → Prop) × World => Up F W x.2.1 x.2.2 ∧ RvOk x.2.1 x.2.2 x.1 ∧ x.1.rp = entR5 z.rp) (fun _ => .tuple #[]) (fun x => [blk D 80 [x.1.bv, x.1.lv, .int .i64 x.1.cm, .int .i64 x.1.tk, .int .i64 (x.1.ph : Nat), x.1.notesv, .int .i64 (x.1.sent : Nat), .int .i64 (x.1.told : Nat), x.1.lacksv, .int .i64 (x.1.rounds : Nat), .bool x.1.over, .int .i64 x.1.num, .int .i64 x.1.e], frz x.2.1 x.2.2, own 3 1 x.1.lacksv x.1.lacks.length (x.1.lacks.map vN)])) := by
 refine Tr.of (l := [(0, .pointer (some ⟨D, 0, none⟩)), (1, .int .i64 5)]) Tryz.func61 rfl (n := 82) rfl (.cons rfl (.cons rfl .nil)) (fun w0 hro => ?_)
 refine go [9,10,0,0,2,8,2,3,4,21,7,8,9,10,0,2,8,2,3,6,21,7,8,9,10,0,2,8,2,3,7,21,7,8,9,9,10,0,7,8,15,9,10,2,13,1,7,8,60,0,9,10,2,13,1,7,8,60,0,9,10,2,13,1,7,8,60,0,9,10,2,13,1,7,8,60,0,10,0,2,50,2] ?_
 refine G.op rfl (G.buildSlice (z := .agg #[.int .i64 0, .slice none 0 0, .slice none 0 0, .slice none 0 0]) (sz := 4) (cs := [.int .i64 5, .slice none 0 0, .slice none 0 0, .slice none 0 0]) rfl Tryz.underlying55 kr (by decide) (by decide) rfl kr ?_)
 intro b17
 refine go [2,8,2,3,5,21,7,16,8,9,10,0,2,8,2,3,5,2,50,0,2,5,2,13,7,8,60,0,13] ?_
 refine G.ownBlk (b := b17) (k := 1) (sz := 4) selT rfl (by omega) ?_
 refine G.freeze (p := [own 33 4 _ _ _]) selT subT (fun F2 W2 hU2 hC2 => ?_)
 have hNt := frz_nvs [(⟨⟨5, [], [], []⟩, .slice none 0 0, .slice none 0 0, .slice none 0 0⟩ : NV)] (hC2 _ (List.mem_singleton.2 rfl)) (fun y hy => by obtain rfl : y = _ := (by simpa using hy); exact ⟨IsSl.nil _ _ _, IsSl.nil _ _ _, IsSl.nil _ _ _, i64_5, by show 0 ≤ 1000; omega, by show 0 ≤ 1000; omega, by show 0 ≤ 1000000; omega⟩)
 have hz2 := hz.up hU2
 exact G.doneXE (({ z with ph := 5, sent := 0, told := 0, notesv := .slice (some ⟨b17, 0, none⟩) 1 1, notes := [(⟨⟨5, [], [], []⟩, .slice none 0 0, .slice none 0 0, .slice none 0 0⟩ : NV)] }, F2, W2)) (by first | exact trivial | ((try dsimp only) <;> exact ⟨hU2, ⟨hz2.b, hz2.l, hz2.lk, hNt⟩, rfl⟩)) rfl rfl subT
set_option maxHeartbeats 4000000 in
theorem renter4_tr {F : Nat → Prop} {W : World} (D : Nat) (z : RZ) (hz : RvOk F W z) (hg : RgOk z.rp) (hr : z.rounds ≤ 1001) : Tr Tryz.prog 61 #[.pointer (some ⟨D, 0, none⟩), .int .i64 4] [] [blk D 80 [z.bv, z.lv, .int .i64 z.cm, .int .i64 z.tk, .int .i64 (z.ph : Nat), z.notesv, .int .i64 (z.sent : Nat), .int .i64 (z.told : Nat), z.lacksv, .int .i64 (z.rounds : Nat), .bool z.over, .int .i64 z.num, .int .i64 z.e], frz F W, own 3 1 z.lacksv z.lacks.length (z.lacks.map vN)]
 (TX (fun x : RZ × (Nat → Prop) × World => Up F W x.2.1 x.2.2 ∧ RvOk x.2.1 x.2.2 x.1 ∧ x.1.rp = entR4 z.rp) (fun _ => .tuple #[]) (fun x => [blk D 80 [x.1.bv, x.1.lv, .int .i64 x.1.cm, .int .i64 x.1.tk, .int .i64 (x.1.ph : Nat), x.1.notesv, .int .i64 (x.1.sent : Nat), .int .i64 (x.1.told : Nat), x.1.lacksv, .int .i64 (x.1.rounds : Nat), .bool x.1.over, .int .i64 x.1.num, .int .i64 x.1.e], frz x.2.1 x.2.2, own 3 1 x.1.lacksv x.1.lacks.length (x.1.lacks.map vN)])) := by
 refine Tr.of (l := [(0, .pointer (some ⟨D, 0, none⟩)), (1, .int .i64 4)]) Tryz.func61 rfl (n := 82) rfl (.cons rfl (.cons rfl .nil)) (fun w0 hro => ?_)
 refine go [9,10,0,0,2,8,2,3,4,21,7,8,9,10,0,2,8,2,3,6,21,7,8,9,10,0,2,8,2,3,7,21,7,8,9,9,10,0,7,8,15,9,10,2,13,1,7,8,60,0,9,10,2,13,1,7,8,60,0,9,10,2,13,1,7,8,60,0,9,10,2,13,1,7,8,60,1,10,0,0] ?_
 refine G.op rfl (G.cS rfl rfl rfl rfl Tryz.func89 rfl rfl subT may0 (rt_gives (F := F) (W := W) D { z with ph := 4, sent := 0, told := 0 } ⟨hz.b, hz.l, hz.lk, hz.notes⟩ ⟨hg.cm, hg.tk, hg.b0, hg.b, hg.l, hg.lks, hg.lacks⟩) apT ?_)
 intro x69 hJ
 obtain ⟨ys, vo, F1, W1⟩ := x69
 try dsimp only at hJ
 try dsimp only
 obtain ⟨hU1, hA1, hN1⟩ := hJ
 replace hN1 : nvs ys = gvL z.rp.l z.rp.lacks := hN1
 replace hA1 : ∀ y ∈ ys, NvOk F1 W1 y := hA1
 refine G.freeze (p := [own 33 4 _ _ _]) selT subT (fun F2 W2 hU2 hC2 => ?_)
 have hNt := frz_nvs ys (hC2 _ (List.mem_singleton.2 rfl)) (nv_up hU2 hA1)
 have hz2 := hz.up (hU1.trans hU2)
 obtain ⟨aN, cN, bN, oN, hvN, _⟩ := hNt.open
 have hv1 := hNt.one
 have hfw : ys.length ≤ 100000000 := by have := gv_few (l := cks z.l) (lk := z.lacks) hg.lacks; rw [← nvs_length ys, hN1]; exact this
 refine go [2,8,2,3,5,21,7,16,8,9,10,0,2,8,2,3,5] ?_
 refine G.op rfl (G.val rfl rfl ((pv_load (v := vo) Tryz.underlying55 rfl rfl (by exact blk_cell selD (by rfl))).cast hvN) ?_)
 refine go [2,5,2,13,7,8] ?_
 refine G.condP rfl (fun h77 => ?_) (fun h77 => ?_)
 ·refine go [10,0,0,2,6] ?_
  refine G.op rfl (G.cS rfl rfl rfl rfl Tryz.func61 rfl rfl subT may0 (renter5_tr (F := F2) (W := W2) D { z with ph := 4, sent := 0, told := 0, notesv := vo, notes := ys } ⟨hz2.b, hz2.l, hz2.lk, hNt⟩ ⟨hg.cm, hg.tk, hg.b0, hg.b, hg.l, hg.lks, hg.lacks⟩ hr) apT ?_)
  intro x81 hJ
  obtain ⟨z3, F3, W3⟩ := x81
  try dsimp only at hJ
  try dsimp only
  refine G.nil ?_
  exact G.doneXE ((z3, F3, W3)) (by first | exact trivial | ((try dsimp only) <;> exact ⟨hU1.trans (hU2.trans hJ.1), hJ.2.1, hJ.2.2.trans (by rw [entR4_go (nvs_zero hN1 (by omega))]; rfl)⟩)) rfl rfl subT
 refine G.skip ?_
 exact G.doneXE (({ z with ph := 4, sent := 0, told := 0, notesv := vo, notes := ys }, F2, W2)) (by first | exact trivial | ((try dsimp only) <;> exact ⟨hU1.trans hU2, ⟨hz2.b, hz2.l, hz2.lk, hNt⟩, (by rw [entR4_end (nvs_some hN1 (by omega))]; show RP.mk .. = RP.mk ..; rw [hN1]; rfl)⟩)) rfl rfl subT
set_option maxHeartbeats 4000000 in
theorem renter3_tr {F : Nat → Prop} {W : World} (D : Nat) (z : RZ) (hz : RvOk F W z) (hg : RgOk z.rp) (hr : z.rounds ≤ 1000) : Tr Tryz.prog 61 #[.pointer (some ⟨D, 0, none⟩), .int .i64 3] [] [blk D 80 [z.bv, z.lv, .int .i64 z.cm, .int .i64 z.tk, .int .i64 (z.ph : Nat), z.notesv, .int .i64 (z.sent : Nat), .int .i64 (z.told : Nat), z.lacksv, .int .i64 (z.rounds : Nat), .bool z.over, .int .i64 z.num, .int .i64 z.e], frz F W, own 3 1 z.lacksv z.lacks.length (z.lacks.map vN)]
 (TX (fun x : RZ × (Nat → Prop) × World => Up F W x.2.1 x.2.2 ∧ RvOk x.2.1 x.2.2 x.1 ∧ x.1.rp = entR3 z.rp) (fun _ => .tuple #[]) (fun x => [blk D 80 [x.1.bv, x.1.lv, .int .i64 x.1.cm, .int .i64 x.1.tk, .int .i64 (x.1.ph : Nat), x.1.notesv, .int .i64 (x.1.sent : Nat), .int .i64 (x.1.told : Nat), x.1.lacksv, .int .i64 (x.1.rounds : Nat), .bool x.1.over, .int .i64 x.1.num, .int .i64 x.1.e], frz x.2.1 x.2.2, own 3 1 x.1.lacksv x.1.lacks.length (x.1.lacks.map vN)])) := by
 refine Tr.of (l := [(0, .pointer (some ⟨D, 0, none⟩)), (1, .int .i64 3)]) Tryz.func61 rfl (n := 82) rfl (.cons rfl (.cons rfl .nil)) (fun w0 hro => ?_)
 refine go [9,10,0,0,2,8,2,3,4,21,7,8,9,10,0,2,8,2,3,6,21,7,8,9,10,0,2,8,2,3,7,21,7,8,9,9,10,0,7,8,15,9,10,2,13,1,7,8,60,0,9,10,2,13,1,7,8,60,0,9,10,2,13,1,7,8,60,1,9,10,0,2,8,2,3,8,21,7,8,9,10,0,2,8,2,3,9,2,50,0] ?_
 refine G.op rfl (G.val rfl rfl ((pv_add64 rfl rfl (by omega)).cast (v' := .int .i64 ((z.rounds + 1 : Nat) : Int)) (congrArg _ (by omega))) ?_)
 refine go [2,8,2,3,9,21,7,8,10,0,0] ?_
 refine G.op rfl (G.cS rfl rfl rfl rfl Tryz.func88 rfl rfl subT may0 (rt_queries (F := F) (W := W) D { z with ph := 3, sent := 0, told := 0, lacksv := .slice none 0 0, lacks := [], rounds := z.rounds + 1 } ⟨hz.b, hz.l, hz.lk, hz.notes⟩ ⟨hg.cm, hg.tk, hg.b0, hg.b, hg.l, fun i hi => (by cases hi), Nat.zero_le _⟩) apT ?_)
 intro x62 hJ
 obtain ⟨ys, vo, F1, W1⟩ := x62
 try dsimp only at hJ
 try dsimp only
 obtain ⟨hU1, hA1, hN1⟩ := hJ
 replace hN1 : nvs ys = queriesL (z.rp.l.map (·.1)) := hN1
 replace hA1 : ∀ y ∈ ys, NvOk F1 W1 y := hA1
 refine G.freeze (p := [own 33 4 _ _ _]) selT subT (fun F2 W2 hU2 hC2 => ?_)
 have hNt := frz_nvs ys (hC2 _ (List.mem_singleton.2 rfl)) (nv_up hU2 hA1)
 have hz2 := hz.up (hU1.trans hU2)
 obtain ⟨aN, cN, bN, oN, hvN, _⟩ := hNt.open
 have hv1 := hNt.one
 have hfw : ys.length ≤ 100000000 := by have := queries_few (ids := z.rp.l.map (·.1)) (by rw [List.length_map]; exact hg.l); rw [← nvs_length ys, hN1]; exact this
 refine go [2,8,2,3,5,21,7,16,8,9,10,0,2,8,2,3,5] ?_
 refine G.op rfl (G.val rfl rfl ((pv_load (v := vo) Tryz.underlying55 rfl rfl (by exact blk_cell selD (by rfl))).cast hvN) ?_)
 refine go [2,5,2,13,7,8] ?_
 refine G.condP rfl (fun h77 => ?_) (fun h77 => ?_)
 ·refine go [10,0,0,2,6,60,7] ?_
  refine G.op rfl (G.cS rfl rfl rfl rfl Tryz.func61 rfl rfl subT may0 (renter4_tr (F := F2) (W := W2) D { z with ph := 3, sent := 0, told := 0, notesv := vo, notes := ys, lacksv := .slice none 0 0, lacks := [], rounds := z.rounds + 1 } ⟨hz2.b, hz2.l, hz2.lk, hNt⟩ ⟨hg.cm, hg.tk, hg.b0, hg.b, hg.l, fun i hi => (by cases hi), Nat.zero_le _⟩ (by show z.rounds + 1 ≤ 1001; omega)) apT ?_)
  intro x81 hJ
  obtain ⟨z3, F3, W3⟩ := x81
  try dsimp only at hJ
  try dsimp only
  refine G.nil ?_
  exact G.doneXE ((z3, F3, W3)) (by first | exact trivial | ((try dsimp only) <;> exact ⟨hU1.trans (hU2.trans hJ.1), hJ.2.1, hJ.2.2.trans (by rw [entR3_go (nvs_zero hN1 (by omega))]; rfl)⟩)) rfl rfl subT
 refine go [13,60,7] ?_
 exact G.doneXE (({ z with ph := 3, sent := 0, told := 0, notesv := vo, notes := ys, lacksv := .slice none 0 0, lacks := [], rounds := z.rounds + 1 }, F2, W2)) (by first | exact trivial | ((try dsimp only) <;> exact ⟨hU1.trans hU2, ⟨hz2.b, hz2.l, hz2.lk, hNt⟩, (by rw [entR3_end (nvs_some hN1 (by omega))]; show RP.mk .. = RP.mk ..; rw [hN1]; rfl)⟩)) rfl rfl subT
set_option maxHeartbeats 4000000 in
theorem renter2_tr {F : Nat → Prop} {W : World} (D : Nat) (z : RZ) (hz : RvOk F W z) (hg : RgOk z.rp) (hr : z.rounds ≤ 1000) : Tr Tryz.prog 61 #[.pointer (some ⟨D, 0, none⟩), .int .i64 2] [] [blk D 80 [z.bv, z.lv, .int .i64 z.cm, .int .i64 z.tk, .int .i64 (z.ph : Nat), z.notesv, .int .i64 (z.sent : Nat), .int .i64 (z.told : Nat), z.lacksv, .int .i64 (z.rounds : Nat), .bool z.over, .int .i64 z.num, .int .i64 z.e], frz F W, own 3 1 z.lacksv z.lacks.length (z.lacks.map vN)]
 (TX (fun x : RZ × (Nat → Prop) × World => Up F W x.2.1 x.2.2 ∧ RvOk x.2.1 x.2.2 x.1 ∧ x.1.rp = entR2 z.rp) (fun _ => .tuple #[]) (fun x => [blk D 80 [x.1.bv, x.1.lv, .int .i64 x.1.cm, .int .i64 x.1.tk, .int .i64 (x.1.ph : Nat), x.1.notesv, .int .i64 (x.1.sent : Nat), .int .i64 (x.1.told : Nat), x.1.lacksv, .int .i64 (x.1.rounds : Nat), .bool x.1.over, .int .i64 x.1.num, .int .i64 x.1.e], frz x.2.1 x.2.2, own 3 1 x.1.lacksv x.1.lacks.length (x.1.lacks.map vN)])) := by
 refine Tr.of (l := [(0, .pointer (some ⟨D, 0, none⟩)), (1, .int .i64 2)]) Tryz.func61 rfl (n := 82) rfl (.cons rfl (.cons rfl .nil)) (fun w0 hro => ?_)
 refine go [9,10,0,0,2,8,2,3,4,21,7,8,9,10,0,2,8,2,3,6,21,7,8,9,10,0,2,8,2,3,7,21,7,8,9,9,10,0,7,8,15,9,10,2,13,1,7,8,60,0,9,10,2,13,1,7,8,60,1,10,0,0] ?_
 refine G.op rfl (G.cS rfl rfl rfl rfl Tryz.func87 rfl rfl subT may0 (rt_parts (F := F) (W := W) D { z with ph := 2, sent := 0, told := 0 } ⟨hz.b, hz.l, hz.lk, hz.notes⟩ ⟨hg.cm, hg.tk, hg.b0, hg.b, hg.l, hg.lks, hg.lacks⟩) apT ?_)
 intro x45 hJ
 obtain ⟨ys, vo, F1, W1⟩ := x45
 try dsimp only at hJ
 try dsimp only
 obtain ⟨hU1, hA1, hN1⟩ := hJ
 replace hN1 : nvs ys = partsL z.b := hN1
 replace hA1 : ∀ y ∈ ys, NvOk F1 W1 y := hA1
 refine G.freeze (p := [own 33 4 _ _ _]) selT subT (fun F2 W2 hU2 hC2 => ?_)
 have hNt := frz_nvs ys (hC2 _ (List.mem_singleton.2 rfl)) (nv_up hU2 hA1)
 have hz2 := hz.up (hU1.trans hU2)
 obtain ⟨aN, cN, bN, oN, hvN, _⟩ := hNt.open
 have hv1 := hNt.one
 have hfw : ys.length ≤ 100000000 := by have := parts_few (b := z.b) hg.b; rw [← nvs_length ys, hN1]; exact this
 have hne : ¬ ys.length = 0 := nvs_ne hN1 (parts_ne hg.b0)
 refine go [2,8,2,3,5,21,7,16,8,9,10,0,2,8,2,3,5] ?_
 refine G.op rfl (G.val rfl rfl ((pv_load (v := vo) Tryz.underlying55 rfl rfl (by exact blk_cell selD (by rfl))).cast hvN) ?_)
 refine go [2,5] ?_
 refine G.op rfl (G.val rfl rfl ((pv_eql rfl rfl).cast (v' := .bool false) (congrArg Value.bool (by exact decide_eq_false (by omega)))) ?_)
 refine go [7,8,60,0,13] ?_
 exact G.doneXE (({ z with ph := 2, sent := 0, told := 0, notesv := vo, notes := ys }, F2, W2)) (by first | exact trivial | ((try dsimp only) <;> exact ⟨hU1.trans hU2, ⟨hz2.b, hz2.l, hz2.lk, hNt⟩, (by show RP.mk .. = RP.mk ..; rw [hN1]; rfl)⟩)) rfl rfl subT
set_option maxHeartbeats 4000000 in
theorem renter1_tr {F : Nat → Prop} {W : World} (D : Nat) (z : RZ) (hz : RvOk F W z) (hg : RgOk z.rp) (hr : z.rounds ≤ 1000) : Tr Tryz.prog 61 #[.pointer (some ⟨D, 0, none⟩), .int .i64 1] [] [blk D 80 [z.bv, z.lv, .int .i64 z.cm, .int .i64 z.tk, .int .i64 (z.ph : Nat), z.notesv, .int .i64 (z.sent : Nat), .int .i64 (z.told : Nat), z.lacksv, .int .i64 (z.rounds : Nat), .bool z.over, .int .i64 z.num, .int .i64 z.e], frz F W, own 3 1 z.lacksv z.lacks.length (z.lacks.map vN)]
 (TX (fun x : RZ × (Nat → Prop) × World => Up F W x.2.1 x.2.2 ∧ RvOk x.2.1 x.2.2 x.1 ∧ x.1.rp = entR1 z.rp) (fun _ => .tuple #[]) (fun x => [blk D 80 [x.1.bv, x.1.lv, .int .i64 x.1.cm, .int .i64 x.1.tk, .int .i64 (x.1.ph : Nat), x.1.notesv, .int .i64 (x.1.sent : Nat), .int .i64 (x.1.told : Nat), x.1.lacksv, .int .i64 (x.1.rounds : Nat), .bool x.1.over, .int .i64 x.1.num, .int .i64 x.1.e], frz x.2.1 x.2.2, own 3 1 x.1.lacksv x.1.lacks.length (x.1.lacks.map vN)])) := by
 refine Tr.of (l := [(0, .pointer (some ⟨D, 0, none⟩)), (1, .int .i64 1)]) Tryz.func61 rfl (n := 82) rfl (.cons rfl (.cons rfl .nil)) (fun w0 hro => ?_)
 obtain ⟨cB, dB, eB, fB, hvB, _⟩ := hz.b.open
 refine go [9,10,0,0,2,8,2,3,4,21,7,8,9,10,0,2,8,2,3,6,21,7,8,9,10,0,2,8,2,3,7,21,7,8,9,9,10,0,7,8,15,9,10,2,13,1,7,8,60,1] ?_
 refine G.drawE (nn := 20) (p := []) (rem := 131071) [0, 0, 2, 4, 8, 0, 32, 64, 128, 0, 512, 1024, 2048, 4096, 8464, 16384, 32768, 131071, 262143, 393215] [0, 0, 2, 4, 8, 0, 32, 64, 128, 0, 512, 1024, 2048, 4096, 8464, 16384, 32768, 1, 131072, 327680] [19, 18, 17] [524287, 262143, 131071] 17 kr ⟨rfl, by kernel_rfl, by kernel_rfl⟩ kr kr kr subT (fun hT6 => ?_)
 refine go [22,0,131070,0,22,1,131068,0,22,2,131064,8,22,3,131056,3,2,22,5,131024,0,22,6,130960,8,22,7,130832,3,3,22,9,130320,0,22,10,129296,8,22,11,127248,3,0,22,4,127232,50,0,22,8,126976,50,0,24,12,122880] ?_
 refine G.turnOp rfl rfl (G.val rfl rfl ((pv_load (v := z.bv) Tryz.underlying31 rfl rfl (by exact blk_cell selD (by rfl))).cast hvB) ?_)
 refine go [26,22,13,114688,5,24,14,98304] ?_
 refine G.turnOp rfl rfl (G.lit1 (vs := [_, _, _]) rfl Tryz.underlying29 kr rfl (by decide) (by decide) rfl rfl ?_)
 intro b36
 refine go [26,22,15,65536,50,2,24,16,0] ?_
 refine G.turnOp rfl rfl (G.buildSlice (z := .agg #[.int .i64 0, .slice none 0 0, .slice none 0 0, .slice none 0 0]) (sz := 4) (cs := [.int .i64 1, .slice (some ⟨b36, 0, none⟩) 3 3, .slice none 0 0, .slice none 0 0]) rfl Tryz.underlying55 kr (by decide) (by decide) rfl kr ?_)
 intro b38
 refine go [26,27] ?_
 refine G.tailS [19, 18] 17 rfl ?_
 refine go [25,8] ?_
 refine G.tailS [19] 18 rfl ?_
 refine go [25,3,5] ?_
 refine G.tailS [] 19 rfl ?_
 refine go [30,60,6,16,8,9,10,0,2,8,2,3,5,2,50,0,2,5,2,13,7,8,60,0,13] ?_
 refine G.ownBlk (b := b36) (k := 3) (sz := 1) selT rfl (by omega) ?_
 refine G.ownBlk (b := b38) (k := 1) (sz := 4) selT rfl (by omega) ?_
 refine G.freeze (p := [own 3 1 _ _ _]) selT subT (fun F1 W1 hU hC => ?_)
 have h1 := frz_own1 (p := I64) (f := vInt) [z.cm, z.tk, (z.b.length : Int)] (hC _ (List.mem_singleton.2 rfl)) rfl (by intro x hx; simp only [List.mem_cons, List.not_mem_nil, or_false] at hx; have hb9 : z.b.length ≤ 100000000 := hg.b; rcases hx with rfl | rfl | rfl; exact hg.cm; exact hg.tk; exact ⟨by omega, by omega⟩)
 refine G.freeze (p := [own 33 4 _ _ _]) selT subT (fun F2 W2 hU2 hC2 => ?_)
 have hNt := frz_nvs [(⟨⟨1, [z.cm, z.tk, (z.b.length : Int)], [], []⟩, .slice (some ⟨b36, 0, none⟩) 3 3, .slice none 0 0, .slice none 0 0⟩ : NV)] (hC2 _ (List.mem_singleton.2 rfl)) (fun y hy => by obtain rfl : y = _ := (by simpa using hy); exact ⟨hU2.sl h1, IsSl.nil _ _ _, IsSl.nil _ _ _, i64_1, by show 3 ≤ 1000; omega, by show 0 ≤ 1000; omega, by show 0 ≤ 1000000; omega⟩)
 have hz2 := hz.up (hU.trans hU2)
 exact G.doneXE (({ z with ph := 1, sent := 0, told := 0, notesv := .slice (some ⟨b38, 0, none⟩) 1 1, notes := [(⟨⟨1, [z.cm, z.tk, (z.b.length : Int)], [], []⟩, .slice (some ⟨b36, 0, none⟩) 3 3, .slice none 0 0, .slice none 0 0⟩ : NV)] }, F2, W2)) (by first | exact trivial | ((try dsimp only) <;> exact ⟨hU.trans hU2, ⟨hz2.b, hz2.l, hz2.lk, hNt⟩, rfl⟩)) rfl rfl subT
end Go.Proofs.YtngbglhmiefcpaaGreat
