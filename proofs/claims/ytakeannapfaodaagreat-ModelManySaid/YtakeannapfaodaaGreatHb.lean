/- Merged of Bk, FrameG, Law, Opg, PA, Shelf, PB, PC, PE, PF, PG, PH, PI, PJ, PL, PQ, KB, TreeA, TA, TB, TC, TD, TE, TF. Conditions: none. -/
import Derived.Test.YtakeannapfaodaaGreatHa
import Derived.ProofKit
import Derived.OpenShut
import Derived.SizedLaws
import Derived.JoinedCond
import Derived.Deep.CondSized
import Derived.Deep.SlicePairs
import Derived.ChangeSlices
import Derived.Lib.SmallJoins
import Derived.Test.YtakeannapfaodaaGreatRows
import Derived.Deep.Slices
import Derived.Shelf.Small.Bits
import Derived.Shelf.Small.Wraps
import Derived.Shelf.Strconv.Itoa0
import Derived.Shelf.Strings.Search1
import Derived.Shelf.Strings.Search2
import Derived.Shelf.Strings.Cut
import Derived.Shelf.LaysM
import Derived.Shelf.Strings.Shaped
import Derived.Shelf.Sort.Plain
import Derived.Shelf.Strings.LastIndex
import Derived.Ground.Names2Prog
import Derived.Shelf.Slices.SearchI
import Derived.Shelf.Slices.In.SortNone
import Derived.Test.YtakeannapfaodaaGreatProg
set_option maxRecDepth 100000
namespace Go.Proofs.YtakeannapfaodaaGreat
open Go.RowKit
section
open Go.RowKit
variable {w0 : World} {S : Nat → Prop} {m : List Ck}
theorem subT {p r : List Ck} (h : Sub m p r := by repeat (first | exact Sub.nil | (apply Sub.cons; (repeat (first | with_reducible exact Sel.here | exact Sel.here | apply Sel.there))))) : Sub m p r := h
theorem selD {c : Ck} {r : List Ck} (h : Sel m c r := by (repeat (first | with_reducible exact Sel.here | exact Sel.here | apply Sel.there)); done) : Sel m c r := h
theorem selT {c : Ck} {r : List Ck} (h : Sel m c r := by repeat (first | with_reducible exact Sel.here | exact Sel.here | apply Sel.there)) : Sel m c r := h
theorem celT {b o : Nat} {v : Value} (h : ∀ w, Hp w0 S w m → w.cell? ⟨b, o, none⟩ = some v := by first | exact blk_cell (by (repeat (first | with_reducible exact Sel.here | exact Sel.here | apply Sel.there)); done) (by rfl) | exact rng_cell (by (repeat (first | with_reducible exact Sel.here | exact Sel.here | apply Sel.there)); done) (by rfl) | exact ro_blk (by assumption) (by rfl) | exact ro_rngC (by assumption) (by rfl) | exact ro_int (by assumption) | exact ro_byte (by assumption) | exact ro_str (by assumption) | with_reducible assumption | assumption) : ∀ w, Hp w0 S w m → w.cell? ⟨b, o, none⟩ = some v := h
theorem flT {pl : List (Nat × Nat)} {cs cs' : List Value} {ps : List (Nat × Value)} (h : Fl pl cs ps cs' := by repeat (first | exact Fl.nil | (apply Fl.cons; exact rfl; (first | exact cells_of (by first | rfl | with_reducible assumption) | exact rfl); exact rfl; exact rfl; repeat (first | exact Sn.nil | (apply Sn.cons; repeat (first | exact St.zero | apply St.succ)))))) : Fl pl cs ps cs' := h
theorem veqT {a b : Value} (h : a = b := by first | rfl | exact int_eq (by first | omega | (dsimp only; omega)) | exact congrArg _ (by omega)) : a = b := h
theorem allT {vs : List Value} (h : vs.all (·.oneCell') = true := by first | ((repeat (first | exact all1_nil | (apply all1_cons; first | rfl | with_reducible assumption))); done) | exact List.all_eq_true.2 (vByte_one _) | rfl) : vs.all (·.oneCell') = true := h
theorem eqT {α : Sort _} {a b : α} (h : a = b := by first | rfl | with_reducible assumption) : a = b := h
theorem leT {a b : Nat} (h : a ≤ b := by first | (simp; done) | exact Nat.le_of_ble_eq_true rfl) : a ≤ b := h
theorem trT {p : Prop} (h : p := by first | exact trivial | ((try dsimp only) <;> exact trivial)) : p := h
theorem kr {α : Sort _} {a b : α} (h : a = b := by kernel_rfl) : a = b := h
theorem apT {X α : Type} {a c : X → List α} {b : List α} (h : Ap a b c := by repeat (first | exact Ap.nil | apply Ap.cons)) : Ap a b c := h
end
section
open Go.RowKit
variable {P : Program} {n : Nat} {w0 : World} {S : Nat → Prop} {l : Fr} {m : List Ck} {Q : Exit → Act → World → Prop} {ty : TypeId} {pos : String} {after : Array Edge}
theorem G.mvT {ops : Array Oper} {d : Nat} {x : Operand} {v : Value} {rest : List Oper} (hn : Nat.blt d n = true) (hx : ev l x = some v) (h : G n w0 S ((d, v) :: l) m (wpList P ops Q rest)) : G n w0 S l m (wpList P ops Q (⟨some d, .move x, ty, pos, after, none⟩ :: rest)) := G.op rfl (G.val rfl hn (pv_move hx) h)
theorem G.asT {ops : Array Oper} {d : Nat} {x : Operand} {v : Value} {rest : List Oper} (hn : Nat.blt d n = true) (hx : ev l x = some v) (h : G n w0 S ((d, v) :: l) m (wpList P ops Q rest)) : G n w0 S l m (wpList P ops Q (⟨some d, .assign x, ty, pos, after, none⟩ :: rest)) := G.op rfl (G.val rfl hn (pv_assign hx) h)
end
section
open Go.RowKit
structure Ar (cs : List Nat) (p q : Prop) : Prop where
 go : q → p
variable {P : Program} {n : Nat} {w0 : World} {S : Nat → Prop} {l : Fr} {m mS r : List Ck} {Q : Exit → Act → World → Prop} {K : Act → World → Prop} {ty : TypeId} {pos : String} {after : Array Edge} {cs c1 : List Nat} {q : Prop}
 {dst : Option Tmp} {g : Option (Nat × Bool)} {rest : List Oper} {ops : Array Oper} {o oi : Oper} {d i j t nn fuel rem rem' : Nat} {v : Value} {deps frs : List Nat}
def szB (P : Program) (t : TypeId) : Bool := match P.info? t with
 | some i => Nat.blt 0 i.size
 | none => false
theorem szB_spec (h : szB P t = true) : ∃ s, (P.info? t).map (·.size) = some (s + 1) := by
 unfold szB at h
 split at h
 ·rename_i i e
  have h2 : 0 < i.size := by simpa using h
  exact ⟨i.size - 1, by rw [e]; simp; omega⟩
 ·cases h
structure Pc (c c1 : List Nat) (P : Program) (n : Nat) (w0 : World) (S : Nat → Prop) (l : Fr) (m : List Ck) (o : Oper) (v : Value) : Prop where
 pv : PV P n w0 S l m o v
theorem Pc.mv {x : Operand} (hx : ev l x = some v) : Pc (0 :: cs) cs P n w0 S l m ⟨dst, .move x, ty, pos, after, g⟩ v := ⟨pv_move hx⟩
theorem Pc.as {x : Operand} (hx : ev l x = some v) : Pc (1 :: cs) cs P n w0 S l m ⟨dst, .assign x, ty, pos, after, g⟩ v := ⟨pv_assign hx⟩
theorem Pc.pk {c x y : Operand} {b : Bool} (hc : ev l c = some (.bool b)) (hv : ev l (if b then x else y) = some v) : Pc (2 :: cs) cs P n w0 S l m ⟨dst, .pick c x y, ty, pos, after, g⟩ v := ⟨pv_pick hc hv⟩
theorem Pc.fk {b o i k : Nat} {t : TypeId} {x : Operand} {fs : Array Field} {f : Field} (hu : P.underlying t = some (.struct fs)) (hf : fs[i]? = some f) (hsz : szB P f.type = true) (hx : ev l x = some (.pointer (some ⟨b, o, none⟩))) (hk : f.offset = k) : Pc (3 :: k :: cs) cs P n w0 S l m ⟨dst, .fieldAddr t x i, ty, pos, after, g⟩ (.pointer (some ⟨b, o + k, none⟩)) := by
 obtain ⟨s, hs⟩ := szB_spec hsz
 exact ⟨pv_fieldAddrK hu hf hs hx hk⟩
theorem Pc.ld {t : TypeId} {x : Operand} {b o : Nat} {d : TypeDesc} (hu : P.underlying t = some d) (hd : d.isRow = false) (hx : ev l x = some (.pointer (some ⟨b, o, none⟩))) (hc : ∀ w, Hp w0 S w m → w.cell? ⟨b, o, none⟩ = some v) : Pc (4 :: cs) cs P n w0 S l m ⟨dst, .load t x, ty, pos, after, g⟩ v := ⟨pv_load hu hd hx hc⟩
theorem Pc.ln {ad : Option Addr} {len cap : Nat} {t e : TypeId} {x : Operand} (hu : P.underlying t = some (.slice e)) (hx : ev l x = some (.slice ad len cap)) : Pc (5 :: cs) cs P n w0 S l m ⟨dst, .call ⟨.builtin .len, #[x], #[t]⟩, ty, pos, after, g⟩ (.int .i64 len) := ⟨pv_lenSl hu hx⟩
theorem Pc.ad {a b : Int} {t u : TypeId} {x y : Operand} (hx : ev l x = some (.int .i64 a)) (hy : ev l y = some (.int .i64 b)) (h : -9223372036854775808 ≤ a + b ∧ a + b ≤ 9223372036854775807) : Pc (6 :: cs) cs P n w0 S l m ⟨dst, .binOp .add t x y u, ty, pos, after, g⟩ (.int .i64 (a + b)) := ⟨pv_add64 hx hy h⟩
theorem Pc.ex {x : Operand} {i : Nat} {vs : Array Value} (hx : ev l x = some (.tuple vs)) (hi : vs[i]? = some v) : Pc (7 :: cs) cs P n w0 S l m ⟨dst, .extract x i, ty, pos, after, g⟩ v := ⟨pv_extract hx hi⟩
theorem Pc.nc {x : Operand} {ad : Addr} (hx : ev l x = some (.pointer (some ad))) : Pc (8 :: cs) cs P n w0 S l m ⟨dst, .nilCheck x, ty, pos, after, g⟩ (.pointer (some ad)) := ⟨pv_nilCheck hx⟩
theorem Pc.lss {k : IntKind} {a b : Int} {t u : TypeId} {x y : Operand} (hx : ev l x = some (.int k a)) (hy : ev l y = some (.int k b)) : Pc (9 :: cs) cs P n w0 S l m ⟨dst, .binOp .lss t x y u, ty, pos, after, g⟩ (.bool (decide (a < b))) := ⟨pv_lss hx hy⟩
theorem Pc.gtr {k : IntKind} {a b : Int} {t u : TypeId} {x y : Operand} (hx : ev l x = some (.int k a)) (hy : ev l y = some (.int k b)) : Pc (10 :: cs) cs P n w0 S l m ⟨dst, .binOp .gtr t x y u, ty, pos, after, g⟩ (.bool (decide (b < a))) := ⟨pv_gtr hx hy⟩
theorem Pc.leq {k : IntKind} {a b : Int} {t u : TypeId} {x y : Operand} (hx : ev l x = some (.int k a)) (hy : ev l y = some (.int k b)) : Pc (11 :: cs) cs P n w0 S l m ⟨dst, .binOp .leq t x y u, ty, pos, after, g⟩ (.bool (decide (a ≤ b))) := ⟨pv_leq hx hy⟩
theorem Pc.geq {k : IntKind} {a b : Int} {t u : TypeId} {x y : Operand} (hx : ev l x = some (.int k a)) (hy : ev l y = some (.int k b)) : Pc (12 :: cs) cs P n w0 S l m ⟨dst, .binOp .geq t x y u, ty, pos, after, g⟩ (.bool (decide (b ≤ a))) := ⟨pv_geq hx hy⟩
theorem Pc.eql {k : IntKind} {a b : Int} {t u : TypeId} {x y : Operand} (hx : ev l x = some (.int k a)) (hy : ev l y = some (.int k b)) : Pc (13 :: cs) cs P n w0 S l m ⟨dst, .binOp .eql t x y u, ty, pos, after, g⟩ (.bool (decide (a = b))) := ⟨pv_eql hx hy⟩
theorem Pc.neq {k : IntKind} {a b : Int} {t u : TypeId} {x y : Operand} (hx : ev l x = some (.int k a)) (hy : ev l y = some (.int k b)) : Pc (14 :: cs) cs P n w0 S l m ⟨dst, .binOp .neq t x y u, ty, pos, after, g⟩ (.bool (decide (a ≠ b))) := ⟨pv_neq hx hy⟩
theorem Pc.np {p : Prop} [Decidable p] {t : TypeId} {x : Operand} (hx : ev l x = some (.bool (decide p))) : Pc (15 :: cs) cs P n w0 S l m ⟨dst, .unOp .not t x, ty, pos, after, g⟩ (.bool (decide (¬ p))) := ⟨pv_notP hx⟩
theorem Pc.su {a b : Int} {t u : TypeId} {x y : Operand} (hx : ev l x = some (.int .i64 a)) (hy : ev l y = some (.int .i64 b)) (h : -9223372036854775808 ≤ a - b ∧ a - b ≤ 9223372036854775807) : Pc (19 :: cs) cs P n w0 S l m ⟨dst, .binOp .sub t x y u, ty, pos, after, g⟩ (.int .i64 (a - b)) := ⟨pv_sub64 hx hy h⟩
theorem Pc.ix {b off len cap k : Nat} (sz : Nat) {ad : Option Addr} {j : Int} {kd : IntKind} {t e : TypeId} {x i : Operand} (hu : P.underlying t = some (.slice e)) (hsz : (P.info? e).map (·.size) = some sz) (hx : ev l x = some (.slice ad len cap)) (hi : ev l i = some (.int kd j)) (ha' : 0 < len → ad = some ⟨b, off, none⟩) (hj : j = (k : Int)) (hk : k < len) : Pc (20 :: sz :: cs) cs P n w0 S l m ⟨dst, .indexAddr t x i, ty, pos, after, g⟩ (.pointer (some ⟨b, off + k * sz, none⟩)) := ⟨pv_ixSl hu hsz hx hi ha' hj hk⟩
theorem Pc.lS {a : List UInt8} {t : TypeId} {x : Operand} (hu : P.underlying t = some .string) (hx : ev l x = some (.string (sB a))) : Pc (21 :: cs) cs P n w0 S l m ⟨dst, .call ⟨.builtin .len, #[x], #[t]⟩, ty, pos, after, g⟩ (.int .i64 a.length) := ⟨pv_lenS hu hx⟩
theorem Pc.xS {a : List UInt8} {k : Nat} {j : Int} {kd : IntKind} {t : TypeId} {x i : Operand} (hu : P.underlying t = some .string) (hx : ev l x = some (.string (sB a))) (hi : ev l i = some (.int kd j)) (hj : j = (k : Int)) (hk : k < a.length) : Pc (22 :: cs) cs P n w0 S l m ⟨dst, .index t x i, ty, pos, after, g⟩ (.int .u8 (a[k].toNat : Int)) := ⟨pv_ixS hu hx hi hj hk⟩
theorem Pc.nS {a b : List UInt8} {t u : TypeId} {x y : Operand} (hx : ev l x = some (.string (sB a))) (hy : ev l y = some (.string (sB b))) : Pc (23 :: cs) cs P n w0 S l m ⟨dst, .binOp .neq t x y u, ty, pos, after, g⟩ (.bool (decide (a ≠ b))) := ⟨pv_neqS hx hy⟩
theorem Pc.eS {a b : List UInt8} {t u : TypeId} {x y : Operand} (hx : ev l x = some (.string (sB a))) (hy : ev l y = some (.string (sB b))) : Pc (24 :: cs) cs P n w0 S l m ⟨dst, .binOp .eql t x y u, ty, pos, after, g⟩ (.bool (decide (a = b))) := ⟨pv_eqlS hx hy⟩
theorem Pc.no {b : Bool} {t : TypeId} {x : Operand} (hx : ev l x = some (.bool b)) : Pc (25 :: cs) cs P n w0 S l m ⟨dst, .unOp .not t x, ty, pos, after, g⟩ (.bool (!b)) := ⟨pv_not hx⟩
theorem Pc.mf {fn : Fn} {first captured : Array Operand} {vs us : List Value} (h1 : evs l first.toList = some vs) (h2 : evs l captured.toList = some us) : Pc (26 :: cs) cs P n w0 S l m ⟨dst, .makeFunc fn first captured, ty, pos, after, g⟩ (.func fn vs.toArray us.toArray) := ⟨pv_makeFunc h1 h2⟩
theorem Ar.nil {p : Prop} : Ar [] p p := ⟨id⟩
theorem Ar.mv {x : Operand} (hn : Nat.blt d n = true) (hx : ev l x = some v) (h : Ar cs (G n w0 S ((d, v) :: l) m (wpList P ops Q rest)) q) : Ar (0 :: cs) (G n w0 S l m (wpList P ops Q (⟨some d, .move x, ty, pos, after, none⟩ :: rest))) q := ⟨fun k => G.mvT hn hx (h.go k)⟩
theorem Ar.as {x : Operand} (hn : Nat.blt d n = true) (hx : ev l x = some v) (h : Ar cs (G n w0 S ((d, v) :: l) m (wpList P ops Q rest)) q) : Ar (1 :: cs) (G n w0 S l m (wpList P ops Q (⟨some d, .assign x, ty, pos, after, none⟩ :: rest))) q := ⟨fun k => G.asT hn hx (h.go k)⟩
theorem Ar.op (hg : o.guard = none) (hd : o.dst = some d) (hn : Nat.blt d n = true) (hv : Pc cs c1 P n w0 S l m o v) (h : Ar c1 (G n w0 S ((d, v) :: l) m (wpList P ops Q rest)) q) : Ar (2 :: cs) (G n w0 S l m (wpList P ops Q (o :: rest))) q := ⟨fun k => G.op hg (G.val hd hn hv.pv (h.go k))⟩
theorem Ar.wa {b : Bool} (hg : o.guard = some (j, b)) (hj : (ops[j]?).bind (·.dst) = some t) (ht : Fr.get l t = some (.bool b)) (hd : o.dst = some d) (hn : Nat.blt d n = true) (hv : Pc cs c1 P n w0 S l m o v) (h : Ar c1 (G n w0 S ((d, v) :: l) m (wpList P ops Q rest)) q) : Ar (3 :: cs) (G n w0 S l m (wpList P ops Q (o :: rest))) q := ⟨fun k => G.want hg hj ht (G.val hd hn hv.pv (h.go k))⟩
theorem Ar.pa {b c : Bool} (hg : o.guard = some (j, b)) (hj : (ops[j]?).bind (·.dst) = some t) (ht : Fr.get l t = some (.bool c)) (hbc : Bool.xor b c = true) (hd : o.dst = some d) (hn : Nat.blt d n = true) (h : Ar cs (G n w0 S ((d, undef) :: l) m (wpList P ops Q rest)) q) : Ar (4 :: cs) (G n w0 S l m (wpList P ops Q (o :: rest))) q := ⟨fun k => G.pass hg hj ht hbc hd hn (h.go k)⟩
theorem Ar.pu {b : Bool} (hg : o.guard = some (j, b)) (hj : (ops[j]?).bind (·.dst) = some t) (ht : Fr.get l t = some undef) (hd : o.dst = some d) (hn : Nat.blt d n = true) (h : Ar cs (G n w0 S ((d, undef) :: l) m (wpList P ops Q rest)) q) : Ar (6 :: cs) (G n w0 S l m (wpList P ops Q (o :: rest))) q := ⟨fun k => G.passU hg hj ht hd hn (h.go k)⟩
theorem Ar.nl (h : Ar cs (G n w0 S l m (Q .normal)) q) : Ar (7 :: cs) (G n w0 S l m (wpList P ops Q [])) q := ⟨fun k => G.nil (h.go k)⟩
theorem Ar.nt (h : Ar cs (G n w0 S l m K) q) : Ar (8 :: cs) (G n w0 S l m (Exit.then K Q .normal)) q := ⟨fun k => G.nThen (h.go k)⟩
theorem Ar.sq {x y : Code} (h : Ar cs (G n w0 S l m (x.wp P (Exit.then (y.wp P Q) Q))) q) : Ar (9 :: cs) (G n w0 S l m ((Code.seq x y).wp P Q)) q := ⟨fun k => G.seq (h.go k)⟩
theorem Ar.rg {id : Nat} {ops : List Oper} (h : Ar cs (G n w0 S l m (wpList P ops.toArray Q ops)) q) : Ar (10 :: cs) (G n w0 S l m ((Code.region id ops.toArray false).wp P Q)) q := ⟨fun k => G.region (h.go k)⟩
theorem Ar.re (h : Ar cs (G n w0 S l m (Q .ret)) q) : Ar (11 :: cs) (G n w0 S l m (Code.ret.wp P Q)) q := ⟨fun k => G.ret (h.go k)⟩
theorem Ar.rt (h : Ar cs (G n w0 S l m (Q .ret)) q) : Ar (12 :: cs) (G n w0 S l m (Exit.then K Q .ret)) q := ⟨fun k => G.rThen (h.go k)⟩
theorem Ar.sk (h : Ar cs (G n w0 S l m (Q .normal)) q) : Ar (13 :: cs) (G n w0 S l m (Code.skip.wp P Q)) q := ⟨fun k => G.skip (h.go k)⟩
theorem Ar.et {id : Nat} (h : Ar cs (G n w0 S l m (Q (.exit id))) q) : Ar (14 :: cs) (G n w0 S l m (Exit.then K Q (.exit id))) q := ⟨fun k => G.eThen (h.go k)⟩
theorem Ar.bl {id : Nat} {c : Code} (h : Ar cs (G n w0 S l m (c.wp P (Exit.inBlock id Q))) q) : Ar (15 :: cs) (G n w0 S l m ((Code.block id c).wp P Q)) q := ⟨fun k => G.block (h.go k)⟩
theorem Ar.nb {id : Nat} (h : Ar cs (G n w0 S l m (Q .normal)) q) : Ar (16 :: cs) (G n w0 S l m (Exit.inBlock id Q .normal)) q := ⟨fun k => G.nBlock (h.go k)⟩
theorem Ar.rb {id : Nat} (h : Ar cs (G n w0 S l m (Q .ret)) q) : Ar (17 :: cs) (G n w0 S l m (Exit.inBlock id Q .ret)) q := ⟨fun k => G.rBlock (h.go k)⟩
theorem Ar.xi {id : Nat} (h : Ar cs (G n w0 S l m (Q (.exit id))) q) : Ar (18 :: cs) (G n w0 S l m ((Code.exit id).wp P Q)) q := ⟨fun k => G.exit (h.go k)⟩
theorem Ar.eb {id : Nat} (h : Ar cs (G n w0 S l m (Q .normal)) q) : Ar (19 :: cs) (G n w0 S l m (Exit.inBlock id Q (.exit id))) q := ⟨fun k => G.eBlock (h.go k)⟩
theorem Ar.sN {t : TypeId} {x y : Operand} {b o : Nat} {T : TypeId} {us vs : List Value} (hi : (P.info? t).map (·.size) = some vs.length) (hx : ev l x = some (.pointer (some ⟨b, o, none⟩))) (hy : ev l y = some (.agg vs.toArray)) (hv : vs.all (·.oneCell') = true) (hs : Sel m (blk b T us) r) (ho : o + vs.length ≤ us.length)
 (h : Ar cs (G n w0 S l (blk b T (putN us o vs) :: r) (wpList P ops Q rest)) q) : Ar (20 :: cs) (G n w0 S l m (wpList P ops Q (⟨none, .store t x y, ty, pos, after, none⟩ :: rest))) q := ⟨fun k => G.op rfl (G.storeN hi hx hy hv hs ho (h.go k))⟩
theorem Ar.so {t : TypeId} {x y : Operand} {b o : Nat} {T : TypeId} {us : List Value} (hi : (P.info? t).map (·.size) = some 1) (hx : ev l x = some (.pointer (some ⟨b, o, none⟩))) (hy : ev l y = some v) (hv : v.oneCell' = true) (hs : Sel m (blk b T us) r) (ho : o < us.length)
 (h : Ar cs (G n w0 S l (blk b T (us.set o v) :: r) (wpList P ops Q rest)) q) : Ar (21 :: cs) (G n w0 S l m (wpList P ops Q (⟨none, .store t x y, ty, pos, after, none⟩ :: rest))) q := ⟨fun k => G.op rfl (G.store hi hx hy hv hs ho (h.go k))⟩
theorem Ar.tk (i rem' : Nat) (hT : Tab ops deps frs nn) (hi : ops[i]? = some oi) (hd : oi.dst = some d) (hn : Nat.blt d n = true) (hk : tkB deps frs rem i rem' = true) (hQ : ∀ c a w, Q (.panic c) (a.put oi.dst v) w → Q (.panic c) a w) (hw : wantB ops l oi = some true) (hv : Pc cs c1 P n w0 S l mS oi v) (hs : Sub m mS r)
 (h : Ar c1 (G n w0 S ((d, v) :: l) m (GA P ops Q (fun w => Hp w0 S w mS) nn fuel rem')) q) : Ar (22 :: i :: rem' :: cs) (G n w0 S l m (GA P ops Q (fun w => Hp w0 S w mS) nn (fuel + 1) rem)) q := ⟨fun k => G.takeT hT hi hd hn hk hQ hw hv.pv hs (h.go k)⟩
theorem Ar.tf (i rem' : Nat) (hT : Tab ops deps frs nn) (hi : ops[i]? = some oi) (hd : oi.dst = some d) (hn : Nat.blt d n = true) (hk : tkB deps frs rem i rem' = true) (hQ : ∀ c a w, Q (.panic c) (a.put oi.dst undef) w → Q (.panic c) a w) (hw : wantB ops l oi = some false) (hs : Sub m mS r)
 (h : Ar cs (G n w0 S ((d, undef) :: l) m (GA P ops Q (fun w => Hp w0 S w mS) nn fuel rem')) q) : Ar (23 :: i :: rem' :: cs) (G n w0 S l m (GA P ops Q (fun w => Hp w0 S w mS) nn (fuel + 1) rem)) q := ⟨fun k => G.takeFT hT hi hd hn hk hQ hw hs (h.go k)⟩
theorem Ar.on {Sx : World → Prop} (i rem' : Nat) (hT : Tab ops deps frs nn) (hr : rdB deps rem [i] = true) (hb : rmB rem i rem' = true) (h : Ar cs (G n w0 S l m (wpOp P ops Q i (fun a w => Sx w ∧ GA P ops Q Sx nn fuel rem' a w))) q) : Ar (24 :: i :: rem' :: cs) (G n w0 S l m (GA P ops Q Sx nn (fuel + 1) rem)) q := ⟨fun k => G.oneT hT hr hb (h.go k)⟩
theorem Ar.tu (hi : ops[i]? = some oi) (hw : wantB ops l oi = some true) (hd : oi.dst = some d) (hn : Nat.blt d n = true) (hv : Pc cs c1 P n w0 S l m oi v) (h : Ar c1 (G n w0 S ((d, v) :: l) m K) q) : Ar (25 :: cs) (G n w0 S l m (wpOp P ops Q i K)) q := ⟨fun k => G.turnOp hi hw (G.val hd hn hv.pv (h.go k))⟩
theorem Ar.bk (hs : Sub m mS r) (h : Ar cs (G n w0 S l m K) q) : Ar (26 :: cs) (G n w0 S l m (fun a w => Hp w0 S w mS ∧ K a w)) q := ⟨fun k => G.back hs (h.go k)⟩
theorem Ar.ov {Sx : World → Prop} (hT : Tab ops deps frs nn) (hr : rdB deps rem [] = true) (h : Ar cs (G n w0 S l m (Q .normal)) q) : Ar (27 :: cs) (G n w0 S l m (GA P ops Q Sx nn fuel rem)) q := ⟨fun k => G.overT hT hr (h.go k)⟩
theorem Ar.ts {t : TypeId} {x y : Operand} {b o : Nat} {T : TypeId} {us : List Value} (ho' : ops[i]? = some ⟨none, .store t x y, ty, pos, after, g⟩) (hw : wantB ops l ⟨none, .store t x y, ty, pos, after, g⟩ = some true) (hi : (P.info? t).map (·.size) = some 1) (hx : ev l x = some (.pointer (some ⟨b, o, none⟩))) (hy : ev l y = some v) (hv : v.oneCell' = true) (hs : Sel m (blk b T us) r) (ho : o < us.length)
 (h : Ar cs (G n w0 S l (blk b T (us.set o v) :: r) K) q) : Ar (30 :: cs) (G n w0 S l m (wpOp P ops Q i K)) q := ⟨fun k => G.turnOp ho' hw (G.store hi hx hy hv hs ho (h.go k))⟩
section
variable {ds : List Deferred} {rr : Option Nat}
theorem Ar.inT (h : Ar cs (G n w0 S l m (dq ds K)) q) : Ar (31 :: cs) (G n w0 S l m (dq ds (Exit.then K Q .normal))) q := ⟨fun k => I.nThen (h.go k)⟩
theorem Ar.iS {x y : Code} (h : Ar cs (G n w0 S l m (dq ds (x.wpIn (fR rr) 0 P (Exit.then (y.wpIn (fR rr) 0 P Q) Q)))) q) : Ar (32 :: cs) (G n w0 S l m (dq ds ((Code.seq x y).wpIn (fR rr) 0 P Q))) q := ⟨fun k => I.seq (h.go k)⟩
theorem Ar.iR {id : Nat} {ops : List Oper} (hd : ops.all noDefer = true) (hQ : ¬ LetsOut Q) (h : Ar cs (G n w0 S l m (wpList P ops.toArray (dqq ds Q) ops)) q) : Ar (33 :: cs) (G n w0 S l m (dq ds ((Code.region id ops.toArray false).wpIn (fR rr) 0 P Q))) q := ⟨fun k => I.region hd hQ (h.go k)⟩
theorem Ar.iN (h : Ar cs (G n w0 S l m (dq ds (Q .normal))) q) : Ar (34 :: cs) (G n w0 S l m (wpList P ops (dqq ds Q) [])) q := ⟨fun k => I.nil (h.go k)⟩
theorem Ar.irT (h : Ar cs (G n w0 S l m (dq ds (Q .ret))) q) : Ar (35 :: cs) (G n w0 S l m (dq ds (Exit.then K Q .ret))) q := ⟨fun k => I.rThen (h.go k)⟩
theorem Ar.irB {id : Nat} (h : Ar cs (G n w0 S l m (dq ds (Q .ret))) q) : Ar (36 :: cs) (G n w0 S l m (dq ds (Exit.inBlock id Q .ret))) q := ⟨fun k => I.rBlock (h.go k)⟩
theorem Ar.iRe (h : Ar cs (G n w0 S l m (dq ds (Q .ret))) q) : Ar (37 :: cs) (G n w0 S l m (dq ds (Code.ret.wpIn (fR rr) 0 P Q))) q := ⟨fun k => I.ret (h.go k)⟩
theorem Ar.iB {id : Nat} {c : Code} (h : Ar cs (G n w0 S l m (dq ds (c.wpIn (fR rr) 0 P (Exit.inBlock id Q)))) q) : Ar (38 :: cs) (G n w0 S l m (dq ds ((Code.block id c).wpIn (fR rr) 0 P Q))) q := ⟨fun k => I.block (h.go k)⟩
theorem Ar.iSk (h : Ar cs (G n w0 S l m (dq ds (Q .normal))) q) : Ar (39 :: cs) (G n w0 S l m (dq ds (Code.skip.wpIn (fR rr) 0 P Q))) q := ⟨fun k => I.skip (h.go k)⟩
theorem Ar.inB {id : Nat} (h : Ar cs (G n w0 S l m (dq ds (Q .normal))) q) : Ar (40 :: cs) (G n w0 S l m (dq ds (Exit.inBlock id Q .normal))) q := ⟨fun k => I.nBlock (h.go k)⟩
theorem Ar.ieT {id : Nat} (h : Ar cs (G n w0 S l m (dq ds (Q (.exit id)))) q) : Ar (41 :: cs) (G n w0 S l m (dq ds (Exit.then K Q (.exit id)))) q := ⟨fun k => I.eThen (h.go k)⟩
theorem Ar.iX {id : Nat} (h : Ar cs (G n w0 S l m (dq ds (Q (.exit id)))) q) : Ar (42 :: cs) (G n w0 S l m (dq ds ((Code.exit id).wpIn (fR rr) 0 P Q))) q := ⟨fun k => I.exit (h.go k)⟩
theorem Ar.ieB {id : Nat} (h : Ar cs (G n w0 S l m (dq ds (Q .normal))) q) : Ar (43 :: cs) (G n w0 S l m (dq ds (Exit.inBlock id Q (.exit id)))) q := ⟨fun k => I.eBlock (h.go k)⟩
end
theorem Pc.ck (c : Nat) (h : Pc (c :: cs) c1 P n w0 S l m o v) : Pc (c :: cs) c1 P n w0 S l m o v := h
theorem Ar.ck (c : Nat) {p : Prop} (h : Ar (c :: cs) p q) : Ar (c :: cs) p q := h
theorem Ar.cz (c : Nat) {p : Prop} (h : Ar (60 :: c :: cs) p q) : Ar (60 :: c :: cs) p q := h
theorem Pc.cu (i : Nat) (h : PV P n w0 S l m o v) : Pc (50 :: i :: cs) cs P n w0 S l m o v := ⟨h⟩
theorem Ar.cu {p p1 : Prop} (i : Nat) (f : p1 → p) (h : Ar cs p1 q) : Ar (60 :: i :: cs) p q := ⟨fun k => f (h.go k)⟩
end
theorem adT {p : Prop} (h : p := by first | with_reducible assumption | assumption | exact fun _ => rfl) : p := h
theorem noT {p : Prop} (h : p := by rintro ⟨_, _, h⟩; first | exact h | exact noOut h) : p := h
theorem Y0 {p : Prop} (h : p := by first | (apply May.old; first | with_reducible assumption | assumption) | (apply Sel.may; (repeat (first | with_reducible exact Sel.here | exact Sel.here | apply Sel.there)); done) | (apply may_own; (repeat (first | with_reducible exact Sel.here | exact Sel.here | apply Sel.there)); exact rfl; exact (fun _ _ => trivial); done) | (apply may_ownB; (repeat (first | with_reducible exact Sel.here | exact Sel.here | apply Sel.there)); done) | (apply may_tree; (repeat (first | with_reducible exact Sel.here | exact Sel.here | apply Sel.there)); (repeat (first | with_reducible exact Sel.here | exact Sel.here | apply Sel.there)); assumption; done)) : p := h
theorem Y1 {p : Prop} (h : p := by first | (apply May.old; first | with_reducible assumption | assumption) | (apply Sel.may; (repeat (first | with_reducible exact Sel.here | exact Sel.here | apply Sel.there)); done) | (apply may_own; (repeat (first | with_reducible exact Sel.here | exact Sel.here | apply Sel.there)); exact rfl; exact (fun _ _ => trivial); done) | (apply may_ownB; (repeat (first | with_reducible exact Sel.here | exact Sel.here | apply Sel.there)); done) | (apply may_tree; (repeat (first | with_reducible exact Sel.here | exact Sel.here | apply Sel.there)); (repeat (first | with_reducible exact Sel.here | exact Sel.here | apply Sel.there)); assumption; done) | (apply may_snaps; (repeat (first | with_reducible exact Sel.here | exact Sel.here | apply Sel.there)); done)) : p := h
theorem Y2 {p : Prop} (h : p := by first | exact dec_t (by unfold argP; omega) | exact dec_f (by unfold argP; omega) | exact dec_e (by unfold argP; omega) | exact dec_n (bne_dec.trans (by unfold argP; rw [hto]; omega)) | (rw [show _ = true from by assumption]; exact dec_t (by have h := bne_dec.1 (by assumption); rw [hto] at h; unfold argP; omega))) : p := h
theorem Y3 {p : Prop} (h : p := by first | exact blk_range (k := 5) selD (by rfl) | exact ro_rng0 (by assumption) | exact rng_range (k := 5) selD (by rfl) | exact ro_range (k := 5) (by assumption) (by rfl) | exact ro_rngR (k := 5) (by assumption) (by rfl)) : p := h
theorem Y4 {p : Prop} (h : p := by first | exact dec_t (by unfold badP2 linkP; omega) | exact dec_f (by unfold badP2 linkP; omega) | exact dec_e (by unfold badP2 linkP; omega)) : p := h
theorem Y5 {p : Prop} (h : p := by first | exact dec_t (by omega) | exact dec_f (by omega) | exact dec_e (by omega)) : p := h
theorem Y6 {p : Prop} (h : p := by first | exact trivial | ((try dsimp only) <;> exact by omega)) : p := h
theorem Y7 {p : Prop} (h : p := by first | exact trivial | ((try dsimp only) <;> exact rfl)) : p := h
theorem Y8 {p : Prop} (h : p := by first | rfl | exact int_eq (by omega) | (simp; done)) : p := h
theorem Y9 {p : Prop} (h : p := by first | exact trivial | ((try dsimp only) <;> exact Nat.zero_le _)) : p := h
theorem Y10 {p : Prop} (h : p := by first | exact blk_range (k := 3) selD (by rfl) | exact ro_rng0 (by assumption) | exact rng_range (k := 3) selD (by rfl) | exact ro_range (k := 3) (by assumption) (by rfl) | exact ro_rngR (k := 3) (by assumption) (by rfl)) : p := h
theorem Y11 {p : Prop} (h : p := by first | exact dec_t (by rw [ne_eq, he]; simp_all) | exact dec_e (by rw [ne_eq ys[i].1, he] at *; simp_all) | exact dec_e (by rw [ne_eq xs[i].1, he]; simp_all)) : p := h
theorem Y12 {p : Prop} (h : p := by first | exact dec_e (by omega) | exact dec_f (by omega)) : p := h
theorem Y13 {p : Prop} (h : p := by first | exact trivial | ((try dsimp only) <;> exact ⟨Nat.zero_le _, fun q _ h => absurd h (by omega)⟩)) : p := h
theorem Y14 {p : Prop} (h : p := by first | (simp; done) | (simp; omega)) : p := h
theorem Y15 {p : Prop} (h : p := by first | exact trivial | ((try dsimp only) <;> exact ⟨by omega, fun q hq hqi => by rcases Nat.lt_or_ge q i with h1 | h1; exact hJ0 q hq h1; obtain rfl : q = i := (by omega); exact hng⟩)) : p := h
theorem Y16 {p : Prop} (h : p := by (repeat (first | with_reducible exact Sel.here | exact Sel.here | apply Sel.there))) : p := h
theorem Y17 {p : Prop} (h : p := by first | exact trivial | ((try dsimp only) <;> exact (by rw [pl_set, hpl]; show plSet _ _ (n, sps (zs ++ [_])) = _; unfold sps; rw [List.map_append]; show plSet _ _ (n, _ ++ [⟨n, k, t, ens l'⟩]) = _; rw [hel]))) : p := h
theorem Y18 {p : Prop} (h : p := by first | with_reducible assumption | assumption) : p := h
theorem Y19 {p : Prop} (h : p := by first | exact blk_range (k := 2) selD (by rfl)) : p := h
theorem Y20 {p : Prop} (h : p := by first | exact dec_t (by unfold numP; omega) | exact dec_f (by unfold numP; omega) | exact dec_e (by unfold numP; omega)) : p := h
theorem Y21 {p : Prop} (h : p := by exact Nat.lt_of_lt_of_le hbB hB) : p := h
theorem Y22 {p : Prop} (h : p := by first | exact trivial | ((try dsimp only) <;> exact ⟨by omega, fun q hq => by rcases Nat.lt_or_ge q i with h1 | h1; exact hJ0 q h1; obtain rfl : q = i := (by omega); exact hok0⟩)) : p := h
theorem Y23 {p : Prop} (h : p := by first | exact dec_e ⟨fun h => ⟨by assumption, hpv.2 h⟩, fun h => hpv.1 h.2⟩ | exact dec_f (fun h => absurd h.1 (by assumption)) | exact dec_f (fun h => prev_zero (by omega) h.2)) : p := h
theorem Y24 {p : Prop} (h : p := by first | exact trivial | ((try dsimp only) <;> exact (by show (plR (L ++ [_]), putT c n ts) = (plR L ++ [_], putT c n ts); unfold plR; rw [List.map_append, ← hel]; rfl))) : p := h
theorem Y25 {p : Prop} (h : p := by rw [ord_eq hx hy (by assumption)]; simp_all [retV1]) : p := h
theorem Y26 {p : Prop} (h : p := by simp_all [compareM, okP, retV1]) : p := h
theorem Y27 {p : Prop} (h : p := by first | exact dec_t (by unfold linkP; omega) | exact dec_f (by unfold linkP; omega) | exact dec_e (by unfold linkP; omega)) : p := h
theorem Y28 {p : Prop} (h : p := by first | exact trivial | ((try dsimp only) <;> exact hJ)) : p := h
theorem Y29 {p : Prop} (h : p := by rw [List.length_append, flatT_length, List.length_set]; rw [List.length_append, flatT_length] at hl; exact hl) : p := h
theorem Y30 {p : Prop} (h : p := by obtain rfl : k = b := hk; exact h.1.1) : p := h
theorem Y31 {p : Prop} (h : p := by first | exact trivial | ((try dsimp only) <;> exact ⟨Nat.zero_le _, ⟨rfl, fun q _ _ _ => rfl⟩⟩)) : p := h
theorem und {P : Program} {t : TypeId} {d : TypeDesc} (h : P.underlying t = some d := by first | exact Tryz.underlying3 | exact Tryz.underlying4 | exact Tryz.underlying5 | exact Tryz.underlying9 | exact Tryz.underlying22 | exact Tryz.underlying23 | exact Tryz.underlying26 | exact Tryz.underlying27 | exact Tryz.underlying29 | exact Tryz.underlying32 | exact Tryz.underlying34 | exact Tryz.underlying36 | exact Tryz.underlying41 | exact Tryz.underlying43 | exact Tryz.underlying46 | exact Tryz.underlying53 | exact Tryz.underlying60 | exact Tryz.underlying66 | exact Tryz.underlying67 | exact Tryz.underlying69 | exact Tryz.underlying71 | exact Tryz.underlying73 | exact Tryz.underlying75 | exact Tryz.underlying77 | exact Tryz.underlying79 | exact Tryz.underlying82 | exact Tryz.underlying90 | exact Tryz.underlying92 | exact Tryz.underlying95 | exact Tryz.underlying120 | exact Tryz.underlying128 | exact Tryz.underlying130 | exact Tryz.underlying136) : P.underlying t = some d := h
section
open Go.RowKit
variable {P : Program} {n : Nat} {w0 : World} {S : Nat → Prop} {l : Fr} {m : List Ck} {o : Oper} {v : Value} {c c1 : List Nat} {p q : Prop}
theorem pcT (h : Pc c c1 P n w0 S l m o v := by first | (apply Pc.ck 0; exact Pc.mv rfl) | (apply Pc.ck 1; exact Pc.as rfl) | (apply Pc.ck 2; exact Pc.pk rfl rfl) | (apply Pc.ck 3; exact Pc.fk und rfl kr rfl rfl) | (apply Pc.ck 4; exact Pc.ld und rfl rfl celT) | (apply Pc.ck 5; exact Pc.ln und rfl) | (apply Pc.ck 6; exact Pc.ad rfl rfl (by omega)) | (apply Pc.ck 7; exact Pc.ex rfl rfl) | (apply Pc.ck 8; exact Pc.nc rfl) | (apply Pc.ck 9; exact Pc.lss rfl rfl) | (apply Pc.ck 10; exact Pc.gtr rfl rfl) | (apply Pc.ck 11; exact Pc.leq rfl rfl) | (apply Pc.ck 12; exact Pc.geq rfl rfl) | (apply Pc.ck 13; exact Pc.eql rfl rfl) | (apply Pc.ck 14; exact Pc.neq rfl rfl) | (apply Pc.ck 15; exact Pc.np rfl) | (apply Pc.ck 19; exact Pc.su rfl rfl (by omega)) | (apply Pc.ck 20; exact Pc.ix _ und kr rfl rfl adT rfl (by omega)) | (apply Pc.ck 21; exact Pc.lS und rfl) | (apply Pc.ck 22; exact Pc.xS und rfl rfl rfl (by omega)) | (apply Pc.ck 23; exact Pc.nS rfl rfl) | (apply Pc.ck 24; exact Pc.eS rfl rfl) | (apply Pc.ck 25; exact Pc.no rfl) | (apply Pc.ck 26; exact Pc.mf rfl rfl) | (apply Pc.cu 0; exact pv_buildSt (z := [.int .i64 0, .int .i64 0]) (pl := [(0, 1), (1, 1)]) und kr kr rfl flT) | (apply Pc.cu 1; exact pv_loadN (cs := [_, _, _, _, _]) und rfl kr rfl Y3) | (apply Pc.cu 2; exact pv_buildSt (z := [.int .i64 0, .int .i64 0, .int .i64 0, .bool false]) (pl := [(0, 1), (1, 1), (2, 1), (3, 1)]) und kr kr rfl flT) | (apply Pc.cu 3; exact pv_loadN (cs := [_, _, _]) und rfl kr rfl Y10) | (apply Pc.cu 4; exact pv_buildSt (z := [.int .i64 0, .int .i64 0, .int .i64 0, .int .i64 0, .int .i64 0, .slice none 0 0, .int .i64 0, .int .i64 0, .int .i64 0]) (pl := [(0, 1), (1, 1), (2, 1), (3, 1), (4, 1), (5, 1), (6, 3)]) und kr kr rfl flT)) : Pc c c1 P n w0 S l m o v := h
theorem go (cs : List Nat) (k : q) (h : Ar cs p q := by repeat (first | exact Ar.nil | (apply Ar.ck 0; apply Ar.mv; exact rfl; exact rfl) | (apply Ar.ck 1; apply Ar.as; exact rfl; exact rfl) | (apply Ar.ck 2; apply Ar.op; exact rfl; exact rfl; exact rfl; exact pcT) | (apply Ar.ck 3; apply Ar.wa; exact rfl; exact rfl; exact rfl; exact rfl; exact rfl; exact pcT) | (apply Ar.ck 4; apply Ar.pa; exact rfl; exact rfl; exact rfl; exact rfl; exact rfl; exact rfl) | (apply Ar.ck 7; apply Ar.nl) | (apply Ar.ck 8; apply Ar.nt) | (apply Ar.ck 9; apply Ar.sq) | (apply Ar.ck 10; apply Ar.rg) | (apply Ar.ck 22; apply Ar.tk; exact (by with_reducible assumption); exact rfl; exact rfl; exact rfl; exact kr; exact (fun _ _ _ h => h); exact rfl; exact pcT; exact subT) | (apply Ar.ck 23; apply Ar.tf; exact (by with_reducible assumption); exact rfl; exact rfl; exact rfl; exact kr; exact (fun _ _ _ h => h); exact rfl; exact subT) | (apply Ar.ck 24; apply Ar.on; exact (by with_reducible assumption); exact kr; exact kr) | (apply Ar.ck 25; apply Ar.tu; exact rfl; exact rfl; exact rfl; exact rfl; exact pcT) | (apply Ar.ck 26; apply Ar.bk; exact subT) | (apply Ar.ck 27; apply Ar.ov; exact (by with_reducible assumption); exact kr) | (apply Ar.ck 11; apply Ar.re) | (apply Ar.ck 12; apply Ar.rt) | (apply Ar.ck 13; apply Ar.sk) | (apply Ar.ck 14; apply Ar.et) | (apply Ar.ck 15; apply Ar.bl) | (apply Ar.ck 16; apply Ar.nb) | (apply Ar.ck 17; apply Ar.rb) | (apply Ar.ck 18; apply Ar.xi) | (apply Ar.ck 19; apply Ar.eb) | (apply Ar.ck 6; apply Ar.pu; exact rfl; exact rfl; exact rfl; exact rfl; exact rfl) | (apply Ar.ck 20; apply Ar.sN; exact kr; exact rfl; exact rfl; exact allT; exact selT; exact leT) | (apply Ar.ck 21; apply Ar.so; exact kr; exact rfl; exact rfl; exact eqT; exact selT; exact leT) | (apply Ar.ck 30; apply Ar.ts; exact rfl; exact rfl; exact kr; exact rfl; exact rfl; exact eqT; exact selT; exact leT) | (apply Ar.ck 31; apply Ar.inT) | (apply Ar.ck 32; apply Ar.iS) | (apply Ar.ck 33; apply Ar.iR; exact kr; exact noT) | (apply Ar.ck 34; apply Ar.iN) | (apply Ar.ck 35; apply Ar.irT) | (apply Ar.ck 36; apply Ar.irB) | (apply Ar.ck 37; apply Ar.iRe) | (apply Ar.ck 38; apply Ar.iB) | (apply Ar.ck 39; apply Ar.iSk) | (apply Ar.ck 40; apply Ar.inB) | (apply Ar.ck 41; apply Ar.ieT) | (apply Ar.ck 42; apply Ar.iX) | (apply Ar.ck 43; apply Ar.ieB) | (apply Ar.cz 0; apply Ar.cu 0; exact fun k => G.condF rfl (rfl) k) | (apply Ar.cz 1; apply Ar.cu 1; exact fun k => G.condT rfl (rfl) k) | (apply Ar.cz 2; apply Ar.cu 2; exact fun k => IL.op rfl (IL.lift kr (G.val rfl rfl (pv_move rfl) k))) | (apply Ar.cz 3; apply Ar.cu 3; exact fun k => G.op rfl (G.box rfl rfl (cs := [_]) rfl k)) | (apply Ar.cz 4; apply Ar.cu 4; exact fun k => G.op rfl (G.lit0 rfl und kr rfl k)) | (apply Ar.cz 5; apply Ar.cu 5; exact fun k => G.op rfl (G.box rfl rfl (cs := [_, _, _, _, _]) rfl k)) | (apply Ar.cz 6; apply Ar.cu 6; exact fun k => G.op rfl (G.alloc (z := .agg #[.int .i64 0, .int .i64 0, .int .i64 0, .slice none 0 0]) (cs := [.int .i64 0, .int .i64 0, .int .i64 0, .slice none 0 0]) rfl kr rfl k)) | (apply Ar.cz 7; apply Ar.cu 7; exact fun k => G.op rfl (G.alloc (z := .int .i64 0) (cs := [.int .i64 0]) rfl kr rfl k)))) : p := h.go k
end
end Go.Proofs.YtakeannapfaodaaGreat
set_option maxRecDepth 100000
set_option linter.unusedVariables false
set_option linter.unusedSimpArgs false
namespace Go.Proofs.YtakeannapfaodaaGreat
open Go.ChangeShapes Go.WideShapes Go.ChangeAt Go.RowKit Go.Deep
theorem Tryz.own : ownKnob Tryz.prog.godebug = none := by kernel_rfl
theorem Tryz.laidOut : laidOutB Tryz.prog = true := by kernel_rfl
theorem trodAll_below {H : Type} {enc : TypeId × Value → H} {W W' : World} (hb : Below W.heap.size W W') : ∀ (ts : List TypeId) (vs : List Value) (ds : List (DataW H)) (ps : List MemPlace),
 (∀ t ∈ ts, Tryz.prog.readableRec t = true ∧ t < Tryz.prog.types.size) → DataW.TrodAll enc Tryz.prog W 0 (fun _ => true) true ts vs ds ps → (∀ x ∈ ps, x.block < W.heap.size) →
 DataW.TrodAll enc Tryz.prog W' 0 (fun b => decide (b < W.heap.size)) true ts vs ds ps
 | [], [], [], ps, _, h, _ => h
 | t :: ts, v :: vs, d :: ds, ps, ht, h, hlt => by
  obtain ⟨p, q, h1, h2, rfl⟩ := h
  have h3 := ht t (by simp)
  exact ⟨p, q, Below.trod Tryz.laidOut h3.1 h3.2 h1 hb (fun x hx => hlt x (by simp [hx])), trodAll_below hb ts vs ds q (fun t' h' => ht t' (by simp [h'])) h2 (fun x hx => hlt x (by simp [hx])), rfl⟩
 | [], _ :: _, _, _, _, h, _ => h.elim
 | [], [], _ :: _, _, _, h, _ => h.elim
 | _ :: _, [], _, _, _, h, _ => h.elim
 | _ :: _, _ :: _, [], _, _, h, _ => h.elim
theorem law_post {H : Type} {enc : TypeId × Value → H} {s : ChangeSpec} {fn : Func} {W W' : World} {args : Array Value} {ds gs : List (DataW H)} {before : List MemPlace}
 (hW : DataW.Whole enc Tryz.prog fn.params.toList s.vars false W args.toList ds gs before) (hts : ∀ t ∈ fn.params.toList, Tryz.prog.readableRec t = true ∧ t < Tryz.prog.types.size) (hv : s.vars = []) (hres : fn.resultTypes = #[4])
 (hr : (s.fn H (ds ++ gs)).results = [.lit (.bool true)]) (ha : (s.fn H (ds ++ gs)).args = ds) (hvv : (s.fn H (ds ++ gs)).vars = []) (hb : Below W.heap.size W W') :
 s.post enc Tryz.prog fn false true false false W args (.bool true) W' := by
 have hlt := hW.lt
 obtain ⟨p, q, hA, hV, hpq, _, _⟩ := id hW
 refine ⟨ds, gs, before, [], p, [], hW, ?_, ?_, ?_, hb.frame _, fun h => by cases h⟩
 ·rw [hr, hres]
  exact trodAll_mk1 (shut_bool Tryz.underlying4 true)
 ·rw [ha]
  exact trodAll_below hb _ _ _ _ hts hA fun x hx => hlt x (by rw [hpq]; simp [hx])
 rw [hv, hvv]; rfl
section
variable {H : Type} {enc : TypeId × Value → H} {W : World}
theorem add_none {a : Addr} {v : Value} {b o : Nat} {n : Nat} (h : W.cell? (a.add n) = some v) (e : a = ⟨b, o, none⟩) : W.cell? ⟨b, o + n, none⟩ = some v := by
 subst e
 unfold Addr.add at h
 split at h
 ·subst_vars; exact h
 exact h
theorem spot_none {a : Addr} {v : Value} (h : W.cell? a = some v) : a = ⟨a.block, a.off, none⟩ := by
 have := World.cell?_spot h
 cases a
 simp at this
 subst this
 rfl
theorem wf_I64 {x : Int} (h : (Lit.int .i64 x).wf = true) : I64 x := by
 simp only [Lit.wf, Bool.and_eq_true, decide_eq_true_eq] at h
 exact ⟨h.1, h.2⟩
theorem open_intv {r : Reach} {base : Nat} {v : Value} {d : DataW H} {p : List MemPlace} (hok : Value.okWide Tryz.prog W r base 3 v) (h : DataW.Trod enc Tryz.prog W 0 (fun _ => true) true 3 v d p) :
 ∃ x : Int, v = .int .i64 x ∧ I64 x := by
 obtain ⟨x, rfl, _, _, w⟩ := open_int Tryz.underlying3 hok h
 exact ⟨x, rfl, wf_I64 w⟩
end
end Go.Proofs.YtakeannapfaodaaGreat
namespace Go.Proofs.YtakeannapfaodaaGreat
open Go.RowKit
set_option linter.unusedVariables false
set_option linter.unusedSimpArgs false
set_option maxRecDepth 100000
theorem U_nil : U [] = fun _ => False := by
 funext b
 simp [U]
theorem law_callsR {P : Program} {f : FuncId} {args : Array Value} {ro : List Ck} (h : Tr P f args ro [] (T0 (.bool true))) (w : World) (hro : ∀ c ∈ ro, Ro w (fun _ => False) c) : Calls P f args w fun e w' => e = .returned (.bool true) ∧ Below w.heap.size w w' := by
 refine (h w (fun c hc => by rw [U_nil]; exact hro c hc) ⟨Chg.refl _ _, by simp, by simp, .nil⟩).mono ?_
 rintro e w' ⟨v, m', he, ⟨hv, -⟩, hw⟩
 have hc := hw.chg
 rw [U_nil] at hc
 exact ⟨by rw [he, hv], Chg.below_of_none hc⟩
theorem ro_new {c : Ck} {w : World} (h : c.φ w) (hb : ∀ b, c.S b → b < w.heap.size) : Ro w (fun _ => False) c := ⟨h, fun b hc => ⟨hb b hc, id⟩⟩
end Go.Proofs.YtakeannapfaodaaGreat
set_option maxRecDepth 100000
set_option linter.unusedVariables false
set_option linter.unusedSimpArgs false
namespace Go.Proofs.YtakeannapfaodaaGreat
open Go.ChangeShapes Go.WideShapes Go.ChangeAt Go.RowKit Go.Deep
def rUnit : Rdr Unit := ⟨0, fun _ _ _ _ _ => True, fun _ h => h, fun _ h => h⟩
def rProd {α β : Type} (E : Rdr α) (F : Rdr β) : Rdr (α × β) where
 sz := E.sz + F.sz
 R := fun Ps w b o x => E.R Ps w b o x.1 ∧ F.R Ps w b (o + E.sz) x.2
 loc := fun h ⟨h1, h2⟩ => ⟨E.loc h h1, F.loc h h2⟩
 mono := fun h ⟨h1, h2⟩ => ⟨E.mono h h1, F.mono h h2⟩
def rStrB : Rdr (List UInt8) := r1 vStr fun x => x.length ≤ 140737488355328
def rSlB {α : Type} (E : Rdr α) : Rdr (List α) where
 sz := 1
 R := fun Ps w b o xs => (rSl E).R Ps w b o xs ∧ xs.length ≤ 140737488355328
 loc := fun h ⟨h1, h2⟩ => ⟨(rSl E).loc h h1, h2⟩
 mono := fun h ⟨h1, h2⟩ => ⟨(rSl E).mono h h1, h2⟩
section
variable {H : Type} {enc : TypeId × Value → H} {P : Program} {W : World}
def At0 (w : World) (b o : Nat) (cs : List Value) : Prop := ∀ (j : Nat) v, cs[j]? = some v → w.cell? ⟨b, o + j, none⟩ = some v
theorem At0.drop {w : World} {b o : Nat} {cs : List Value} (h : At0 w b o cs) (k n : Nat) : At0 w b (o + k) ((cs.drop k).take n) := fun j v hj => by
 rw [List.getElem?_take] at hj
 split at hj
 ·rw [List.getElem?_drop] at hj
  rw [Nat.add_assoc]
  exact h _ v hj
 cases hj
theorem list_of_each {α : Type} {q : Nat → α → Prop} : ∀ n : Nat, (∀ i, i < n → ∃ y, q i y) → ∃ ys : List α, ys.length = n ∧ ∀ i (h : i < ys.length), q i ys[i]
 | 0, _ => ⟨[], rfl, fun i h => absurd h (by simp)⟩
 | n + 1, h => by
  obtain ⟨ys, hl, hy⟩ := list_of_each n fun i hi => h i (by omega)
  obtain ⟨y, hn⟩ := h n (by omega)
  refine ⟨ys ++ [y], by simp [hl], fun i hi => ?_⟩
  rcases Nat.lt_or_ge i n with hlt | hge
  ·rw [List.getElem_append_left (by omega)]
   exact hy i (by omega)
  have hin : i = n := by simp [hl] at hi; omega
  subst hin
  rw [List.getElem_append_right (by omega)]
  simpa [hl] using hn
structure Opn (H : Type) (enc : TypeId × Value → H) (P : Program) (W : World) {α : Type} (t : TypeId) (E : Rdr α) : Prop where
 sz : P.cellsOf t = E.sz
 mem : ∀ fuel cs x b o, DataW.trod enc P W 0 (fun _ => true) true fuel t cs = some x → (∀ k ∈ DataW.weights P t x.1, k ≤ reachBytes) → At0 W b o cs → b < W.heap.size → ∃ a, E.R (· < W.heap.size) W b o a
theorem weightsAll_memG {e : TypeId} : ∀ {l : List (DataW H)} {d : DataW H}, d ∈ l → ∀ n ∈ d.weights P e, n ∈ DataW.weightsAll P e l
 | x :: l, d, hd, n, hn => by
  simp only [DataW.weightsAll, List.mem_append]
  rcases List.mem_cons.1 hd with rfl | h
  ·exact Or.inl hn
  exact Or.inr (weightsAll_memG h n hn)
theorem opn_int {t : TypeId} (ht : P.underlying t = some (.int .i64)) (hc : P.cellsOf t = 1) : Opn H enc P W t rInt := ⟨hc, fun fuel cs x b o h hwt hA hb => by
 obtain ⟨n, rfl, _, hw⟩ := DataW.trod_int ht h
 exact ⟨n, hb, by show W.cell? ⟨b, o, none⟩ = some (.int .i64 n); simpa using hA 0 _ rfl, wf_I64 hw⟩⟩
theorem opn_byte {t : TypeId} (ht : P.underlying t = some (.int .u8)) (hc : P.cellsOf t = 1) : Opn H enc P W t rByte := ⟨hc, fun fuel cs x b o h hwt hA hb => by
 obtain ⟨n, rfl, _, hw⟩ := DataW.trod_int ht h
 simp only [Lit.wf, Bool.and_eq_true, decide_eq_true_eq] at hw
 have h0 : (0 : Int) ≤ n := hw.1
 have h1 : n ≤ 255 := hw.2
 refine ⟨UInt8.ofNat n.toNat, hb, ?_, trivial⟩
 have e : vByte (UInt8.ofNat n.toNat) = .int .u8 n := by
  unfold vByte
  congr 1
  rw [UInt8.toNat_ofNat']
  omega
 rw [e]
 simpa using hA 0 _ rfl⟩
theorem opn_str {t : TypeId} (ht : P.underlying t = some .string) (hc : P.cellsOf t = 1) : Opn H enc P W t rStrB := ⟨hc, fun fuel cs x b o h hwt hA hb => by
 obtain ⟨s, rfl, rfl, hs⟩ := DataW.trod_string ht h
 refine ⟨s.data.toList, hb, ?_, by have := hwt s.data.toList.length (by simp [DataW.weights]); unfold reachBytes at this; show s.data.toList.length ≤ _; omega⟩
 have := hA 0 _ rfl
 simpa [vStr, sB] using this⟩
theorem opn_slice {α : Type} {t e : TypeId} {E : Rdr α} (ht : P.underlying t = some (.slice e)) (hby : 0 < P.bytesOf e) (hE : Opn H enc P W e E) (hpos : 0 < E.sz) : ∀ fuel cs x, DataW.trod enc P W 0 (fun _ => true) true fuel t cs = some x → (∀ k ∈ DataW.weights P t x.1, k ≤ reachBytes) → ∃ v xs, cs = [v] ∧ IsSl E (· < W.heap.size) W v xs ∧ xs.length ≤ 140737488355328 := fun fuel cs x h hwt => by
 rcases open_slice ht h with ⟨rfl, rfl⟩ | ⟨a, len, cap, m, n, D, Pl, rfl, _, hl, hm, hmm, rfl, hx⟩
 ·exact ⟨_, [], rfl, ⟨none, 0, 0, 0, rfl, Nat.le_refl _, by omega, fun _ => rfl, fun h => absurd h (by simp), fun i hi => absurd hi (by simp)⟩, by simp⟩
 simp only [if_true] at hmm
 subst hmm
 rw [hE.sz] at hx
 have e0 : a.add 0 = a := by unfold Addr.add; simp
 simp only [DataW.weights, ht] at hwt
 have hlen := hwt _ (List.mem_cons_self ..)
 have each : ∀ i, i < len → ∃ y, E.R (· < W.heap.size) W a.block (a.off + i * E.sz) y := fun i hi => by
  obtain ⟨c0, h0, _⟩ := hx 0 (by omega)
  rw [Nat.zero_mul, e0] at h0
  obtain ⟨cs', h1, h2⟩ := hx i (by omega)
  obtain ⟨_, hl0, hc0⟩ := World.cells?_some h0
  obtain ⟨_, hl1, hc1⟩ := World.cells?_some h1
  have g0 := (hc0 0 (by omega)).trans (List.getElem?_eq_getElem (by omega))
  rw [e0] at g0
  have hs := spot_none g0
  refine hE.mem _ cs' _ _ _ h2 (fun k hk => hwt k (List.mem_cons_of_mem _ (List.mem_append_left _ (weightsAll_memG (List.mem_map.2 ⟨i, List.mem_range.2 hi, rfl⟩) k hk)))) (fun j v hj => ?_) (cell_lt g0)
  have hjl : j < cs'.length := (List.getElem?_eq_some_iff.1 hj).1
  have := (hc1 j (by omega)).trans hj
  rw [add_add] at this
  have := add_none this hs
  rw [show a.off + i * E.sz + j = a.off + (i * E.sz + j) by omega]
  exact this
 obtain ⟨ys, hyl, hy⟩ := list_of_each len each
 refine ⟨_, ys, rfl, ⟨some a, m, a.block, a.off, by rw [hyl], by rw [hyl]; exact hl, by unfold maxLen at hm; omega, by simp, fun h0 => ?_, hy⟩, ?_⟩
 ·have h0' : 0 < len := by rw [hyl] at h0; exact h0
  obtain ⟨c0, h1, _⟩ := hx 0 (by omega)
  rw [Nat.zero_mul, e0] at h1
  obtain ⟨_, hl0, hc0⟩ := World.cells?_some h1
  have g0 := (hc0 0 (by omega)).trans (List.getElem?_eq_getElem (by omega))
  rw [e0] at g0
  exact congrArg some (spot_none g0)
 rw [hyl]
 simp only [List.length_map, List.length_range] at hlen
 unfold reachBytes at hlen
 have := Nat.le_mul_of_pos_right (len + (m - len)) hby
 omega
theorem opn_rSl {α : Type} {t e : TypeId} {E : Rdr α} (ht : P.underlying t = some (.slice e)) (hc : P.cellsOf t = 1) (hby : 0 < P.bytesOf e) (hE : Opn H enc P W e E) (hpos : 0 < E.sz) : Opn H enc P W t (rSlB E) := ⟨hc, fun fuel cs x b o h hwt hA hb => by
 obtain ⟨v, xs, rfl, hs, hl⟩ := opn_slice ht hby hE hpos fuel cs x h hwt
 exact ⟨xs, ⟨hb, v, by simpa using hA 0 _ rfl, hs⟩, hl⟩⟩
inductive OpnFs (H : Type) (enc : TypeId × Value → H) (P : Program) (W : World) : {α : Type} → List Field → Nat → Rdr α → Prop
 | nil {off : Nat} : OpnFs H enc P W [] off rUnit
 | cons {α β : Type} {f : Field} {fs : List Field} {E : Rdr α} {F : Rdr β} {off : Nat} (h : Opn H enc P W f.type E) (ho : f.offset = off) (r : OpnFs H enc P W fs (off + E.sz) F) : OpnFs H enc P W (f :: fs) off (rProd E F)
theorem opn_fields {α : Type} {fs : List Field} {off : Nat} {F : Rdr α} (h : OpnFs H enc P W fs off F) : ∀ {fuel : Nat} {cs : List Value} {b o : Nat} {xs : List (DataW H × List MemPlace)}, xs.length = fs.length → (∀ (i : Nat) (f : Field), fs[i]? = some f → DataW.trod enc P W 0 (fun _ => true) true fuel f.type ((cs.drop f.offset).take (P.cellsOf f.type)) = xs[i]?) →
 (∀ k ∈ DataW.weightsEach P (fs.map (·.type)) (xs.map (·.1)), k ≤ reachBytes) → At0 W b o cs → b < W.heap.size → ∃ a, F.R (· < W.heap.size) W b (o + off) a := by
 induction h with
 | nil => intro fuel cs b o xs _ _ _ _ _; exact ⟨(), trivial⟩
 | cons h ho r ih =>
  intro fuel cs b o xs hl hx hwt hA hb
  cases xs with
  | nil => simp at hl
  | cons y ys =>
   simp only [List.map_cons, DataW.weightsEach, List.mem_append] at hwt
   have h0 := hx 0 _ rfl
   obtain ⟨a, ha⟩ := h.mem _ _ _ _ _ h0 (fun k hk => hwt k (.inl hk)) (hA.drop _ _) hb
   obtain ⟨c, hc⟩ := ih (by simpa using hl) (fun i f hf => hx (i + 1) f hf) (fun k hk => hwt k (.inr hk)) hA hb
   rw [ho] at ha
   exact ⟨(a, c), ha, by rw [Nat.add_assoc]; exact hc⟩
theorem opn_struct {α : Type} {t : TypeId} {fs : Array Field} {F : Rdr α} (ht : P.underlying t = some (.struct fs)) (hc : P.cellsOf t = F.sz) (h : OpnFs H enc P W fs.toList 0 F) : Opn H enc P W t F := ⟨hc, fun fuel cs x b o hx hwt hA hb => by
 obtain ⟨xs, k, rfl, rfl, hl, hxl, hxx⟩ := DataW.trod_struct ht hx
 simp only [DataW.weights, ht] at hwt
 have := opn_fields h (xs := xs) (by simpa using hxl) (fun i f hf => hxx i f (by simpa using hf)) hwt hA hb
 simpa using this⟩
theorem opn_arg {α : Type} {t e : TypeId} {E : Rdr α} {v : Value} {d : DataW H} {p : List MemPlace} {r : Reach} {base : Nat} (ht : P.underlying t = some (.slice e)) (hby : 0 < P.bytesOf e) (hE : Opn H enc P W e E) (hpos : 0 < E.sz) (hok : Value.okWide P W r base t v) (h : DataW.Trod enc P W 0 (fun _ => true) true t v d p)
 {ts : List TypeId} {ds : List (DataW H)} {j : Nat} (hsz : (DataW.weightsEach P ts ds).all (· ≤ reachBytes) = true) (hts : ts[j]? = some t) (hds : ds[j]? = some d) :
 ∃ xs : List α, Ro W (fun _ => False) (slc E (· < W.heap.size) v xs) ∧ xs.length ≤ 140737488355328 := by
 obtain ⟨a1, len, cap, rfl⟩ := okWide_slice ht hok
 obtain ⟨fuel, hf⟩ := h
 obtain ⟨v, xs, e1, hs, hl⟩ := opn_slice ht hby hE hpos fuel _ _ hf fun k hk => of_decide_eq_true (List.all_eq_true.1 hsz k (DataW.weights_mem_each hts hds k hk))
 simp [Value.cells] at e1
 exact ⟨xs, ro_new (e1 ▸ hs) (fun b hb => hb), hl⟩
end
section
variable {w0 : World} {S : Nat → Prop} {Ps : Nat → Prop} {b o : Nat}
end
end Go.Proofs.YtakeannapfaodaaGreat
namespace Go.Proofs.YtakeannapfaodaaGreat
open Go.RowKit
set_option linter.unusedVariables false
set_option linter.unusedSimpArgs false
def badP (c : UInt8) : Bool := decide (c.toNat < 33) || decide (126 < c.toNat) || decide (c.toNat = 47)
def stepB (bad : UInt8 → Bool) (s : List UInt8) : Int × Int :=
 if s = [] ∨ s = [46] ∨ s = [46, 46] then (2, 0)
 else if s.findIdx bad < s.length then (4, s.findIdx bad)
 else if 60 < s.length then (3, 60) else (0, 0)
def badR (c : UInt8) : Bool := decide (c.toNat < 33) || decide (126 < c.toNat)
theorem stepJ {s : List UInt8} {k : Nat} (h : ∀ j, j < k → ∀ h : j < s.length, badP s[j] = false) (hk : k < s.length) (h1 : ¬ ((s[k].toNat : Int) < 33)) (h2 : ¬ ((126 : Int) < s[k].toNat)) (h3 : ¬ ((s[k].toNat : Int) = 47)) : ∀ j, j < k + 1 → ∀ h : j < s.length, badP s[j] = false := fun j hj hl => by
 rcases Nat.lt_or_ge j k with h4 | h4
 ·exact h j h4 hl
 obtain rfl : j = k := by omega
 unfold badP
 simp
 omega
theorem stepJR {s : List UInt8} {k : Nat} (h : ∀ j, j < k → ∀ h : j < s.length, badR s[j] = false) (hk : k < s.length) (h1 : ¬ ((s[k].toNat : Int) < 33)) (h2 : ¬ ((126 : Int) < s[k].toNat)) : ∀ j, j < k + 1 → ∀ h : j < s.length, badR s[j] = false := fun j hj hl => by
 rcases Nat.lt_or_ge j k with h4 | h4
 ·exact h j h4 hl
 obtain rfl : j = k := by omega
 unfold badR
 simp
 omega
theorem stepArg {bad : UInt8 → Bool} {s : List UInt8} (h : s = [] ∨ s = [46] ∨ s = [46, 46]) : stepB bad s = (2, 0) := if_pos h
theorem stepBad {bad : UInt8 → Bool} {s : List UInt8} {k : Nat} (h1 : ¬ s = []) (h2 : ¬ s = [46]) (h3 : ¬ s = [46, 46]) (h : ∀ j, j < k → ∀ h : j < s.length, bad s[j] = false) (hk : k < s.length) (hb : bad s[k] = true) : stepB bad s = (4, (k : Int)) := by
 have e : s.findIdx bad = k := (List.findIdx_eq hk).2 ⟨hb, fun j hj => h j hj (by omega)⟩
 unfold stepB
 rw [if_neg (by simp [h1, h2, h3]), e, if_pos hk]
theorem stepAll {bad : UInt8 → Bool} {s : List UInt8} {k : Nat} (h : ∀ j, j < k → ∀ h : j < s.length, bad s[j] = false) (hk : s.length ≤ k) : s.findIdx bad = s.length := List.findIdx_eq_length_of_false fun x hx => by
 obtain ⟨j, hj, rfl⟩ := List.getElem_of_mem hx
 exact h j (by omega) hj
theorem stepLong {bad : UInt8 → Bool} {s : List UInt8} {k : Nat} (h1 : ¬ s = []) (h2 : ¬ s = [46]) (h3 : ¬ s = [46, 46]) (h : ∀ j, j < k → ∀ h : j < s.length, bad s[j] = false) (hk : s.length ≤ k) (hl : 60 < s.length) : stepB bad s = (3, 60) := by
 unfold stepB
 rw [if_neg (by simp [h1, h2, h3]), stepAll h hk, if_neg (by omega), if_pos hl]
theorem stepOk {bad : UInt8 → Bool} {s : List UInt8} {k : Nat} (h1 : ¬ s = []) (h2 : ¬ s = [46]) (h3 : ¬ s = [46, 46]) (h : ∀ j, j < k → ∀ h : j < s.length, bad s[j] = false) (hk : s.length ≤ k) (hl : ¬ 60 < s.length) : stepB bad s = (0, 0) := by
 unfold stepB
 rw [if_neg (by simp [h1, h2, h3]), stepAll h hk, if_neg (by omega), if_neg hl]
theorem bad1 {c : UInt8} (h : (c.toNat : Int) < 33) : badP c = true := by unfold badP; simp; omega
theorem bad2 {c : UInt8} (h : (126 : Int) < c.toNat) : badP c = true := by unfold badP; simp; omega
theorem badR1 {c : UInt8} (h : (c.toNat : Int) < 33) : badR c = true := by unfold badR; simp; omega
theorem badR2 {c : UInt8} (h : (126 : Int) < c.toNat) : badR c = true := by unfold badR; simp; omega
theorem bad3 {c : UInt8} (h : (c.toNat : Int) = 47) : badP c = true := by unfold badP; simp; omega
set_option maxRecDepth 20000 in
set_option maxHeartbeats 4000000 in
theorem step_tr (s : List UInt8) (hs : s.length ≤ 1000000000) : Tr Tryz.prog 114 #[.string (sB s)] [] [] (T0 (.tuple #[.int .i64 (stepB badP s).1, .int .i64 (stepB badP s).2])) := by
 refine Tr.of (l := [(0, .string (sB s))]) Tryz.func114 rfl (n := 41) rfl (.cons rfl .nil) (fun w0 hro => ?_)
 refine go [9,10,1,1,7,8,9,9,10,0,2,24,0] ?_
 refine G.partP (t := 7) rfl (fun h7 => ?_) (fun h7 => ?_)
 ·refine go [4,4,2,2,0,4,4,2,2,7,8,60,1,9,10,1,1,7,8,11,12] ?_
  exact G.done0G rfl (Rv.tmp rfl (Rv.tmp rfl Rv.nil)) (by rw [stepArg (.inl (by assumption))]; rfl)
 refine go [3,0,3,24,2,2,0] ?_
 refine G.partP (t := 11) rfl (fun h11 => ?_) (fun h11 => ?_)
 ·refine go [4,4,2,2,7,8,60,1,9,10,1,1,7,8,11,12] ?_
  exact G.done0G rfl (Rv.tmp rfl (Rv.tmp rfl Rv.nil)) (by rw [stepArg (.inr (.inl (by assumption)))]; rfl)
 refine go [3,0,3,24,2,2,7,8] ?_
 refine G.condP rfl (fun h14 => ?_) (fun h14 => ?_)
 ·refine go [9,10,1,1,7,8,11,12] ?_
  exact G.done0G rfl (Rv.tmp rfl (Rv.tmp rfl Rv.nil)) (by rw [stepArg (.inr (.inr (by assumption)))]; rfl)
 refine go [13,8,9,9,10,0,2,21,0,7,8,15] ?_
 refine G.loopK (X := Nat) (ts := [0, 16]) (fun k => k ≤ s.length ∧ (∀ j, j < k → ∀ h : j < s.length, badP s[j] = false)) (fun k => [(17, .int .i64 (k : Int))]) (fun k => []) (fun k => s.length - k) (x0 := 0) (.cons rfl (.cons rfl .nil)) subT (.cons .nil) apT (by first | exact trivial | ((try dsimp only) <;> exact ⟨Nat.zero_le _, fun j h => absurd h (by omega)⟩)) (.consE rfl veqT .nil) (fun k hJ => ?_)
 try dsimp only at hJ
 try dsimp only
 obtain ⟨hkk, hJ⟩ := hJ
 refine go [9,10,2,9,7,8,9] ?_
 refine G.condP rfl (fun h18 => ?_) (fun h18 => ?_)
 ·refine go [13,8,9,15,9,10,0,1,7,8,9,10,0,0,2,22,2,9,0] ?_
  refine G.partP (t := 24) rfl (fun h24 => ?_) (fun h24 => ?_)
  ·refine go [4,4,4,4,2,2,0,4,4,4,4,2,2,7,8,60,1,9,10,0,1,1,7,8,11,17,12,12,17,12] ?_
   exact G.done0G rfl (Rv.tmp rfl (Rv.tmp rfl Rv.nil)) (by rw [stepBad (by assumption) (by assumption) (by assumption) hJ (by omega) (bad1 (by assumption))]; rfl)
  refine go [3,0,3,0,3,22,3,10,2,2,0] ?_
  refine G.partP (t := 30) rfl (fun h30 => ?_) (fun h30 => ?_)
  ·refine go [4,4,4,4,2,2,7,8,60,1,9,10,0,1,1,7,8,11,17,12,12,17,12] ?_
   exact G.done0G rfl (Rv.tmp rfl (Rv.tmp rfl Rv.nil)) (by rw [stepBad (by assumption) (by assumption) (by assumption) hJ (by omega) (bad2 (by assumption))]; rfl)
  refine go [3,0,3,0,3,22,3,13,2,2,7,8] ?_
  refine G.condP rfl (fun h35 => ?_) (fun h35 => ?_)
  ·refine go [9,10,0,1,1,7,8,11,17,12,12,17,12] ?_
   exact G.done0G rfl (Rv.tmp rfl (Rv.tmp rfl Rv.nil)) (by rw [stepBad (by assumption) (by assumption) (by assumption) hJ (by omega) (bad3 (by assumption))]; rfl)
  refine go [13,16,8,10,2,6,0,7] ?_
  exact G.next (k + 1) (by first | exact trivial | ((try dsimp only) <;> exact ⟨by omega, stepJ hJ (by omega) (by assumption) (by assumption) (by assumption)⟩)) (by (try dsimp only); omega) (.consE rfl veqT (.cons rfl (.cons rfl .nil))) subT
 refine go [18,14,14,19,8,9,9,10,0,2,21,2,10,7,8] ?_
 refine G.condP rfl (fun h40 => ?_) (fun h40 => ?_)
 ·refine go [9,10,1,1,7,8,11,12] ?_
  exact G.done0G rfl (Rv.tmp rfl (Rv.tmp rfl Rv.nil)) (by rw [stepLong (by assumption) (by assumption) (by assumption) hJ (by omega) (by omega)]; rfl)
 refine go [13,8,9,10,1,1,7,8,11] ?_
 exact G.done0G rfl (Rv.tmp rfl (Rv.tmp rfl Rv.nil)) (by rw [stepOk (by assumption) (by assumption) (by assumption) hJ (by omega) (by omega)]; rfl)
set_option maxRecDepth 20000 in
set_option maxHeartbeats 4000000 in
theorem part_tr (s : List UInt8) (hs : s.length ≤ 1000000000) : Tr Tryz.prog 128 #[.string (sB s)] [] [] (T0 (.tuple #[.int .i64 (stepB badR s).1, .int .i64 (stepB badR s).2])) := by
 refine Tr.of (l := [(0, .string (sB s))]) Tryz.func128 rfl (n := 35) rfl (.cons rfl .nil) (fun w0 hro => ?_)
 refine go [9,10,1,1,7,8,9,9,10,0,2,24,0] ?_
 refine G.partP (t := 7) rfl (fun h7 => ?_) (fun h7 => ?_)
 ·refine go [4,4,2,2,0,4,4,2,2,7,8,60,1,9,10,1,1,7,8,11,12] ?_
  exact G.done0G rfl (Rv.tmp rfl (Rv.tmp rfl Rv.nil)) (by rw [stepArg (.inl (by assumption))]; rfl)
 refine go [3,0,3,24,2,2,0] ?_
 refine G.partP (t := 11) rfl (fun h11 => ?_) (fun h11 => ?_)
 ·refine go [4,4,2,2,7,8,60,1,9,10,1,1,7,8,11,12] ?_
  exact G.done0G rfl (Rv.tmp rfl (Rv.tmp rfl Rv.nil)) (by rw [stepArg (.inr (.inl (by assumption)))]; rfl)
 refine go [3,0,3,24,2,2,7,8] ?_
 refine G.condP rfl (fun h14 => ?_) (fun h14 => ?_)
 ·refine go [9,10,1,1,7,8,11,12] ?_
  exact G.done0G rfl (Rv.tmp rfl (Rv.tmp rfl Rv.nil)) (by rw [stepArg (.inr (.inr (by assumption)))]; rfl)
 refine go [13,8,9,9,10,1,7,8,15] ?_
 refine G.loopK (X := Nat) (ts := [0]) (fun k => k ≤ s.length ∧ (∀ j, j < k → ∀ h : j < s.length, badR s[j] = false)) (fun k => [(4, .int .i64 (k : Int))]) (fun k => []) (fun k => s.length - k) (x0 := 0) (.cons rfl .nil) subT (.cons .nil) apT (by first | exact trivial | ((try dsimp only) <;> exact ⟨Nat.zero_le _, fun j h => absurd h (by omega)⟩)) (.consE rfl veqT .nil) (fun k hJ => ?_)
 try dsimp only at hJ
 try dsimp only
 obtain ⟨hkk, hJ⟩ := hJ
 refine go [9,9,10,0,0,2,21,2,9,7,8] ?_
 refine G.condP rfl (fun h18 => ?_) (fun h18 => ?_)
 ·refine go [13,8,9,15,9,10,0,0,2,22,2,9,0] ?_
  refine G.partP (t := 25) rfl (fun h25 => ?_) (fun h25 => ?_)
  ·refine go [4,4,4,4,2,2,7,8,60,1,9,10,0,1,1,7,8,11,17,12,12,17,12] ?_
   exact G.done0G rfl (Rv.tmp rfl (Rv.tmp rfl Rv.nil)) (by rw [stepBad (by assumption) (by assumption) (by assumption) hJ (by omega) (badR1 (by assumption))]; rfl)
  refine go [3,0,3,0,3,22,3,10,2,2,7,8] ?_
  refine G.condP rfl (fun h30 => ?_) (fun h30 => ?_)
  ·refine go [9,10,0,1,1,7,8,11,17,12,12,17,12] ?_
   exact G.done0G rfl (Rv.tmp rfl (Rv.tmp rfl Rv.nil)) (by rw [stepBad (by assumption) (by assumption) (by assumption) hJ (by omega) (badR2 (by assumption))]; rfl)
  refine go [13,16,8,10,0,2,6,1,7] ?_
  exact G.next (k + 1) (by first | exact trivial | ((try dsimp only) <;> exact ⟨by omega, stepJR hJ (by omega) (by assumption) (by assumption)⟩)) (by (try dsimp only); omega) (.consE rfl veqT (.cons rfl .nil)) subT
 refine go [18,14,14,19,8,9,9,10,0,2,21,2,10,7,8] ?_
 refine G.condP rfl (fun h34 => ?_) (fun h34 => ?_)
 ·refine go [9,10,1,1,7,8,11,12] ?_
  exact G.done0G rfl (Rv.tmp rfl (Rv.tmp rfl Rv.nil)) (by rw [stepLong (by assumption) (by assumption) (by assumption) hJ (by omega) (by omega)]; rfl)
 refine go [13,8,9,10,1,1,7,8,11] ?_
 exact G.done0G rfl (Rv.tmp rfl (Rv.tmp rfl Rv.nil)) (by rw [stepOk (by assumption) (by assumption) (by assumption) hJ (by omega) (by omega)]; rfl)
end Go.Proofs.YtakeannapfaodaaGreat
namespace Go.Proofs
open Go.Shelf
def Tryz.lays219_ren : Go.Shelf.Ren := ⟨fun | 219 => 130 | 217 => 131 | 225 => 132 | 224 => 133 | 267 => 134 | 266 => 135 | 314 => 136 | n => n, fun | 9 => 9 | 3 => 3 | 4 => 4 | 5 => 5 | 46 => 128 | 146 => 167 | 51 => 148 | n => n, fun | 1 => 0 | n => n⟩
theorem Tryz.lays219 : Go.Proofs.Lays.n219 Tryz.prog Tryz.lays219_ren := {
  mixed := by kernel_rfl
  f217 := Tryz.func131.trans (congrArg some (by kernel_rfl))
  f219 := Tryz.func130.trans (congrArg some (by kernel_rfl))
  f224 := Tryz.func133.trans (congrArg some (by kernel_rfl))
  f225 := Tryz.func132.trans (congrArg some (by kernel_rfl))
  f266 := Tryz.func135.trans (congrArg some (by kernel_rfl))
  f267 := Tryz.func134.trans (congrArg some (by kernel_rfl))
  f314 := Tryz.func136.trans (congrArg some (by kernel_rfl))
  t3 := Tryz.underlying3
  a3 := Tryz.isAgg3
  z3 := Tryz.sizeOf3
  v3 := Tryz.zeroValue3
  t4 := Tryz.underlying4
  a4 := Tryz.isAgg4
  z4 := Tryz.sizeOf4
  v4 := Tryz.zeroValue4
  t5 := Tryz.underlying5
  a5 := Tryz.isAgg5
  z5 := Tryz.sizeOf5
  v5 := Tryz.zeroValue5
  t9 := Tryz.underlying9
  a9 := Tryz.isAgg9
  z9 := Tryz.sizeOf9
  v9 := Tryz.zeroValue9
  t46 := Tryz.underlying128
  a46 := Tryz.isAgg128
  z46 := Tryz.sizeOf128
  v46 := Tryz.zeroValue128
  t51 := Tryz.underlying148
  a51 := Tryz.isAgg148
  z51 := Tryz.sizeOf148
  v51 := Tryz.zeroValue148
  t146 := Tryz.underlying167
  a146 := Tryz.isAgg167
  z146 := Tryz.sizeOf167
  v146 := Tryz.zeroValue167
  g1 := by kernel_rfl }
open Go.RowKit Go.Lib in
/-- internal/stringslite.Index (what strings.Index calls) AT A substr OF ONE BYTE c: IT RETURNS 'Lib.indexByte s c'; the world is as it was. (LAID: no walk: one application.) -/
theorem Tryz.stringslite_Index_one (s : ByteArray) (c : UInt8) (w : World) :
    Calls Tryz.prog 130 #[.string s, .string ⟨#[c]⟩] w fun e w' => e = .returned (.int .i64 (Lib.indexByte s.data.toList c)) ∧ w' = w := Any.stringslite_Index_one Tryz.lays219 s c w
end Go.Proofs
namespace Go.Proofs.YtakeannapfaodaaGreat
open Go.RowKit
set_option linter.unusedVariables false
set_option linter.unusedSimpArgs false
def at1 (s : List UInt8) : Nat := s.findIdx (· == 47)
def cutM (s : List UInt8) : List UInt8 × List UInt8 × Bool := if at1 s < s.length then (s.take (at1 s), s.drop (at1 s + 1), true) else (s, [], false)
theorem at1_le (s : List UInt8) : at1 s ≤ s.length := List.findIdx_le_length
theorem index1 : ∀ s : List UInt8, Lib.indexByte s 47 = if at1 s < s.length then (at1 s : Int) else -1
 | [] => rfl
 | b :: l => by
  have ih := index1 l
  have hle := at1_le l
  unfold Lib.indexByte
  by_cases h : b = 47
  ·subst h
   have e : at1 (47 :: l) = 0 := by simp [at1, List.findIdx_cons]
   rw [e]
   simp
  have hb : (b == 47) = false := by simpa using h
  have e : at1 (b :: l) = at1 l + 1 := by simp [at1, List.findIdx_cons, hb]
  rw [e, hb, ih]
  by_cases hlt : at1 l < l.length
  ·rw [if_pos hlt, if_pos (show at1 l + 1 < (b :: l).length by simp; omega), if_neg (by simp), if_neg (by rw [beq_iff_eq]; omega)]
   rfl
  rw [if_neg hlt, if_neg (show ¬ at1 l + 1 < (b :: l).length by simp; omega)]
  simp
theorem Tr.ofQ {P : Program} {f : FuncId} {args : Array Value} {v : Value} (h : ∀ w, Calls P f args w fun e w' => e = .returned v ∧ w' = w) : Tr P f args [] [] (T0 v) := fun w _ _ =>
 (h w).mono fun e w' ⟨he, hb⟩ => ⟨v, [], he, ⟨rfl, rfl⟩, ⟨(Chg.none_of_below (hb ▸ Below.refl _ _)).mono fun b hb => hb.elim, by simp, by simp, .nil⟩⟩
theorem index_tr (s : List UInt8) : Tr Tryz.prog 130 #[.string (sB s), .string (sB [47])] [] [] (T0 (.int .i64 (if at1 s < s.length then (at1 s : Int) else -1))) := Tr.ofQ fun w => by
 have h := Tryz.stringslite_Index_one (sB s) 47 w
 rw [show (sB s).data.toList = s by simp [sB], index1 s] at h
 exact h
theorem index_tr1 (s : List UInt8) (ha : at1 s < s.length) : Tr Tryz.prog 130 #[.string (sB s), .string (sB [47])] [] [] (T0 (.int .i64 (at1 s : Int))) := by
 have h := index_tr s
 rwa [if_pos ha] at h
theorem index_tr0 (s : List UInt8) (ha : ¬ at1 s < s.length) : Tr Tryz.prog 130 #[.string (sB s), .string (sB [47])] [] [] (T0 (.int .i64 (-1))) := by
 have h := index_tr s
 rwa [if_neg ha] at h
set_option maxRecDepth 20000 in
set_option maxHeartbeats 4000000 in
theorem scut1 (s : List UInt8) (hs : s.length ≤ 1000000000) (ha : at1 s < s.length) : Tr Tryz.prog 127 #[.string (sB s), .string (sB [47])] [] [] (T0 (.tuple #[.string (sB (s.take (at1 s))), .string (sB (s.drop (at1 s + 1))), .bool true])) := by
 refine Tr.of (l := [(0, .string (sB s)), (1, .string (sB [47]))]) Tryz.func127 rfl (n := 23) rfl (.cons rfl (.cons rfl .nil)) (fun w0 hro => ?_)
 have h47 : ([47] : List UInt8).length = 1 := rfl
 refine go [9,10,1,1,1,7,8,9,9,10,0,0] ?_
 refine G.op rfl (G.cR rfl rfl rfl rfl Tryz.func130 rfl rfl may0 (index_tr1 s ha) ?_)
 refine go [1,7,8,9,10,0,2,12,7,8] ?_
 refine G.condP rfl (fun h12 => ?_) (fun h12 => ?_)
 ·refine G.seq ?_
  refine G.drawT (nn := 12) (p := []) (rem := 4095) [0, 0, 3, 0, 0, 0, 32, 80, 136, 7, 1023, 2047] [0, 0, 3, 0, 0, 0, 32, 80, 136, 4, 256, 0] kr ⟨rfl, by kernel_rfl, by kernel_rfl⟩ subT kr (fun hT3 => ?_)
  refine go [22,0,4094,0,22,1,4092,0] ?_
  refine G.takeT hT3 (i := 2) (rem' := 4088) rfl rfl rfl kr (fun _ _ _ h => h) rfl (pv_strH Tryz.underlying9 rfl rfl rfl (by omega)) subT ?_
  refine go [22,3,4080,0,22,4,4064,0,22,5,4032,0,22,6,3968,21,22,7,3840,6] ?_
  refine G.takeT hT3 (i := 8) (rem' := 3584) rfl rfl rfl kr (fun _ _ _ h => h) rfl (pv_strL Tryz.underlying9 rfl rfl rfl (by omega)) subT ?_
  refine go [22,9,3072,1,22,10,2048,1,22,11,0,1,27,8,11,12] ?_
  exact G.done0G rfl (Rv.tmp rfl (Rv.tmp rfl (Rv.tmp rfl Rv.nil))) Y8
 exfalso; omega
set_option maxRecDepth 20000 in
set_option maxHeartbeats 4000000 in
theorem scut0 (s : List UInt8) (hs : s.length ≤ 1000000000) (ha : ¬ at1 s < s.length) : Tr Tryz.prog 127 #[.string (sB s), .string (sB [47])] [] [] (T0 (.tuple #[.string (sB s), .string (sB []), .bool false])) := by
 refine Tr.of (l := [(0, .string (sB s)), (1, .string (sB [47]))]) Tryz.func127 rfl (n := 23) rfl (.cons rfl (.cons rfl .nil)) (fun w0 hro => ?_)
 refine go [9,10,1,1,1,7,8,9,9,10,0,0] ?_
 refine G.op rfl (G.cR rfl rfl rfl rfl Tryz.func130 rfl rfl may0 (index_tr0 s ha) ?_)
 refine go [1,7,8,9,10,0,2,12,7,8] ?_
 refine G.condP rfl (fun h12 => ?_) (fun h12 => ?_)
 ·exfalso; omega
 refine go [13,8,9,10,0,1,1,1,7,8,11] ?_
 exact G.done0G rfl (Rv.tmp rfl (Rv.tmp rfl (Rv.tmp rfl Rv.nil))) Y8
theorem scut_tr (s : List UInt8) (hs : s.length ≤ 1000000000) : Tr Tryz.prog 127 #[.string (sB s), .string (sB [47])] [] [] (T0 (.tuple #[.string (sB (cutM s).1), .string (sB (cutM s).2.1), .bool (cutM s).2.2])) := by
 unfold cutM
 split
 ·exact scut1 s hs (by assumption)
 exact scut0 s hs (by assumption)
set_option maxRecDepth 20000 in
set_option maxHeartbeats 4000000 in
theorem cut_tr (s : List UInt8) (hs : s.length ≤ 1000000000) : Tr Tryz.prog 115 #[.string (sB s), .string (sB [47])] [] [] (T0 (.tuple #[.string (sB (cutM s).1), .string (sB (cutM s).2.1), .bool (cutM s).2.2])) := by
 refine Tr.of (l := [(0, .string (sB s)), (1, .string (sB [47]))]) Tryz.func115 rfl (n := 13) rfl (.cons rfl (.cons rfl .nil)) (fun w0 hro => ?_)
 refine go [9,10,1,1,1,7,8,9,10,0,0] ?_
 refine G.op rfl (G.cR rfl rfl rfl rfl Tryz.func127 rfl rfl may0 (scut_tr s (by omega)) ?_)
 refine go [2,7,2,7,2,7,1,1,1,7,8,11] ?_
 exact G.done0G rfl (Rv.tmp rfl (Rv.tmp rfl (Rv.tmp rfl Rv.nil))) Y8
set_option maxRecDepth 20000 in
set_option maxHeartbeats 4000000 in
theorem isNaN_tr (s : List UInt8) : Tr Tryz.prog 116 #[.string (sB s)] [] [] (T0 (.bool false)) := by
 refine Tr.of (l := [(0, .string (sB s))]) Tryz.func116 rfl (n := 6) rfl (.cons rfl .nil) (fun w0 hro => ?_)
 refine go [9,10,1,7,8,9,10,0,0,2,23,1,7,8,11] ?_
 exact G.done0G rfl (Rv.tmp rfl Rv.nil) (by simp; rfl)
def bytesC (a b : List UInt8) : Int := if Op.bytesLess a b then -1 else if !(Op.bytesLess a b || decide (a = b)) then 1 else 0
theorem bytes_lt {a b : List UInt8} (h : Op.bytesLess a b = true) : bytesC a b = -1 := if_pos h
theorem bytes_gt {a b : List UInt8} (h : Op.bytesLess a b = false) (h2 : (!(Op.bytesLess a b || decide (a = b))) = true) : bytesC a b = 1 := by
 unfold bytesC
 rw [if_neg (by rw [h]; decide), if_pos h2]
theorem bytes_eq {a b : List UInt8} (h : Op.bytesLess a b = false) (h2 : (!(Op.bytesLess a b || decide (a = b))) = false) : bytesC a b = 0 := by
 unfold bytesC
 rw [if_neg (by rw [h]; decide), if_neg (by rw [h2]; decide)]
set_option maxRecDepth 20000 in
set_option maxHeartbeats 4000000 in
theorem cmp_tr (a b : List UInt8) : Tr Tryz.prog 90 #[.string (sB a), .string (sB b)] [] [] (T0 (.int .i64 (bytesC a b))) := by
 refine Tr.of (l := [(0, .string (sB a)), (1, .string (sB b))]) Tryz.func90 rfl (n := 20) rfl (.cons rfl (.cons rfl .nil)) (fun w0 hro => ?_)
 refine go [9,10,1,7,8,9,10,0] ?_
 refine G.op rfl (G.cR rfl rfl rfl rfl Tryz.func116 rfl rfl may0 (isNaN_tr a) ?_)
 refine go [1,7,8,9,10,0] ?_
 refine G.op rfl (G.cR rfl rfl rfl rfl Tryz.func116 rfl rfl may0 (isNaN_tr b) ?_)
 refine go [1,7,8,9,9,10,0,7,8,60,0,13,8,9,9,10,0,7,8,60,0,13,8,9,9,10,0,0] ?_
 refine G.op rfl (G.val rfl rfl (pv_lssS rfl rfl) ?_)
 refine go [7,8] ?_
 refine G.cond rfl (fun h16 => ?_) (fun h16 => ?_)
 ·refine go [9,10,1,7,8,11,12] ?_
  exact G.done0G rfl (Rv.tmp rfl Rv.nil) (by rw [bytes_lt (by assumption)]; rfl)
 refine go [13,8,9,9,10,0,0] ?_
 refine G.op rfl (G.val rfl rfl (pv_gtrS rfl rfl) ?_)
 refine go [7,8] ?_
 refine G.cond rfl (fun h19 => ?_) (fun h19 => ?_)
 ·refine go [9,10,1,7,8,11,12] ?_
  exact G.done0G rfl (Rv.tmp rfl Rv.nil) (by rw [bytes_gt (by assumption) (by assumption)]; rfl)
 refine go [13,8,9,10,1,7,8,11] ?_
 exact G.done0G rfl (Rv.tmp rfl Rv.nil) (by rw [bytes_eq (by assumption) (by assumption)]; rfl)
set_option maxRecDepth 20000 in
set_option maxHeartbeats 4000000 in
theorem bytesC_tr (a b : List UInt8) : Tr Tryz.prog 95 #[.string (sB a), .string (sB b)] [] [] (T0 (.int .i64 (bytesC a b))) := by
 refine Tr.of (l := [(0, .string (sB a)), (1, .string (sB b))]) Tryz.func95 rfl (n := 11) rfl (.cons rfl (.cons rfl .nil)) (fun w0 hro => ?_)
 refine go [9,10,1,7,8,9,9,10,0,0] ?_
 refine G.op rfl (G.val rfl rfl (pv_lssS rfl rfl) ?_)
 refine go [7,8] ?_
 refine G.cond rfl (fun h7 => ?_) (fun h7 => ?_)
 ·refine go [9,10,1,7,8,11,12] ?_
  exact G.done0G rfl (Rv.tmp rfl Rv.nil) (by rw [bytes_lt (by assumption)]; rfl)
 refine go [13,8,9,9,10,0,0] ?_
 refine G.op rfl (G.val rfl rfl (pv_gtrS rfl rfl) ?_)
 refine go [7,8] ?_
 refine G.cond rfl (fun h10 => ?_) (fun h10 => ?_)
 ·refine go [9,10,1,7,8,11,12] ?_
  exact G.done0G rfl (Rv.tmp rfl Rv.nil) (by rw [bytes_gt (by assumption) (by assumption)]; rfl)
 refine go [13,8,9,10,1,7,8,11] ?_
 exact G.done0G rfl (Rv.tmp rfl Rv.nil) (by rw [bytes_eq (by assumption) (by assumption)]; rfl)
def lastM (s : List UInt8) : Nat → Nat
 | 0 => 0
 | k + 1 => if s[k]? = some 47 then k + 1 else lastM s k
theorem last_yes {s : List UInt8} {k : Nat} (h0 : 0 < k) (hk : k - 1 < s.length) (h : (s[k - 1].toNat : Int) = 47) : lastM s k = k := by
 obtain ⟨j, rfl⟩ : ∃ j, k = j + 1 := ⟨k - 1, by omega⟩
 have hj : j < s.length := hk
 have h' : (s[j].toNat : Int) = 47 := h
 have e : s[j] = 47 := UInt8.toNat_inj.1 (show s[j].toNat = 47 by omega)
 unfold lastM
 rw [if_pos (by rw [List.getElem?_eq_getElem hj, e])]
theorem last_no {s : List UInt8} {k : Nat} (h0 : 0 < k) (hk : k - 1 < s.length) (h : ¬ (s[k - 1].toNat : Int) = 47) : lastM s k = lastM s (k - 1) := by
 obtain ⟨j, rfl⟩ : ∃ j, k = j + 1 := ⟨k - 1, by omega⟩
 have hj : j < s.length := by omega
 rw [lastM.eq_2, if_neg]
 ·rfl
 rw [List.getElem?_eq_getElem hj]
 intro e
 injection e with e
 exact h (by show ((s[j].toNat : Nat) : Int) = 47; rw [e]; rfl)
set_option maxRecDepth 20000 in
set_option maxHeartbeats 4000000 in
theorem last0 (s : List UInt8) (hs : s.length ≤ 9223372036854775807) : Tr Tryz.prog 117 #[.string (sB s), .int .u8 47] [] [] (T0 (.int .i64 ((lastM s s.length : Int) - 1))) := by
 refine Tr.of (l := [(0, .string (sB s)), (1, .int .u8 47)]) Tryz.func117 rfl (n := 19) rfl (.cons rfl (.cons rfl .nil)) (fun w0 hro => ?_)
 refine go [9,10,1,7,8,9,9,10,0,2,21,2,19,1,7,8,15] ?_
 refine G.loopK (X := Nat) (ts := [0, 1]) (fun k => k ≤ s.length ∧ lastM s s.length = lastM s k) (fun k => [(5, .int .i64 ((k : Int) - 1))]) (fun k => []) (fun k => k) (x0 := s.length) (.cons rfl (.cons rfl .nil)) subT (.cons .nil) apT (by first | exact trivial | ((try dsimp only) <;> exact ⟨Nat.le_refl _, rfl⟩)) (.consE rfl veqT .nil) (fun k hJ => ?_)
 try dsimp only at hJ
 try dsimp only
 obtain ⟨hk1, hk2⟩ := hJ
 refine go [9,9,10,0,2,12,7,8] ?_
 refine G.condP rfl (fun h10 => ?_) (fun h10 => ?_)
 ·refine go [13,8,9,15,9,10,0,0] ?_
  refine G.op rfl (G.val rfl rfl (pv_ixS Tryz.underlying9 (k := k - 1) rfl rfl (by omega) (by omega)) ?_)
  refine go [0,2,13,7,8] ?_
  refine G.condP rfl (fun h17 => ?_) (fun h17 => ?_)
  ·refine go [9,10,0,1,7,8,11,17,12,12,17,12] ?_
   exact G.done0G rfl (Rv.tmp rfl Rv.nil) (by rw [hk2, last_yes (by omega) (by omega) (by assumption)]; rfl)
  refine go [13,16,8,10,0,2,19,1,7] ?_
  exact G.next (k - 1) (by first | exact trivial | ((try dsimp only) <;> exact ⟨by omega, by rw [hk2]; exact last_no (by omega) (by omega) (by assumption)⟩)) (by (try dsimp only); omega) (.consE rfl veqT (.cons rfl (.cons rfl .nil))) subT
 refine go [18,14,14,19,8,9,10,1,7,8,11] ?_
 exact G.done0G rfl (Rv.tmp rfl Rv.nil) (by rw [hk2, show k = 0 by omega]; rfl)
set_option maxRecDepth 20000 in
set_option maxHeartbeats 4000000 in
theorem last_tr (s : List UInt8) (hs : s.length ≤ 9223372036854775807) : Tr Tryz.prog 91 #[.string (sB s), .int .u8 47] [] [] (T0 (.int .i64 ((lastM s s.length : Int) - 1))) := by
 refine Tr.of (l := [(0, .string (sB s)), (1, .int .u8 47)]) Tryz.func91 rfl (n := 8) rfl (.cons rfl (.cons rfl .nil)) (fun w0 hro => ?_)
 refine go [9,10,1,7,8,9,10,0,0] ?_
 refine G.op rfl (G.cR rfl rfl rfl rfl Tryz.func117 rfl rfl may0 (last0 s hs) ?_)
 refine go [1,7,8,11] ?_
 exact G.done0G rfl (Rv.tmp rfl Rv.nil) Y8
def headP (c : UInt8) : List (List UInt8) → List (List UInt8)
 | [] => [[c]]
 | p :: r => (c :: p) :: r
def splitM : List UInt8 → List (List UInt8)
 | [] => [[]]
 | c :: s => if c = 47 then [] :: splitM s else headP c (splitM s)
theorem splitM_stroke (s : List UInt8) : splitM (47 :: s) = [] :: splitM s := if_pos rfl
theorem splitM_char {c : UInt8} (h : ¬ c = 47) (s : List UInt8) : splitM (c :: s) = headP c (splitM s) := if_neg h
theorem splitM_ne : ∀ s, splitM s ≠ []
 | [] => by unfold splitM; simp
 | c :: s => by
  unfold splitM
  split
  ·simp
  cases h : splitM s <;> simp [headP]
theorem splitM_cut : ∀ s, splitM s = if (cutM s).2.2 then (cutM s).1 :: splitM (cutM s).2.1 else [(cutM s).1]
 | [] => rfl
 | c :: s => by
  have ih := splitM_cut s
  by_cases hc : c = 47
  ·subst hc
   have e : at1 (47 :: s) = 0 := by simp [at1, List.findIdx_cons]
   have e2 : cutM (47 :: s) = ([], s, true) := by
    unfold cutM
    rw [e, if_pos (by simp)]
    rfl
   rw [e2, splitM_stroke]
   rfl
  have hb : (c == 47) = false := by simpa using hc
  have e : at1 (c :: s) = at1 s + 1 := by simp [at1, List.findIdx_cons, hb]
  have e2 : cutM (c :: s) = (c :: (cutM s).1, (cutM s).2.1, (cutM s).2.2) := by
   unfold cutM
   rw [e]
   by_cases h : at1 s < s.length
   ·rw [if_pos h, if_pos (show at1 s + 1 < (c :: s).length by simp; omega)]
    rfl
   rw [if_neg h, if_neg (show ¬ at1 s + 1 < (c :: s).length by simp; omega)]
  rw [e2, splitM_char hc, ih]
  cases h : (cutM s).2.2 <;> simp [headP]
def atL (ps : List (List UInt8)) (i : Nat) : Nat := ((ps.take i).map fun p => p.length + 1).sum
theorem atL_zero (ps : List (List UInt8)) : atL ps 0 = 0 := by simp [atL]
theorem atL_succ {ps : List (List UInt8)} {i : Nat} (h : i < ps.length) : atL ps (i + 1) = atL ps i + (ps[i].length + 1) := by
 unfold atL
 rw [List.take_succ_eq_append_getElem h, List.map_append, List.sum_append]
 simp
theorem splitM_sum : ∀ s, ((splitM s).map fun p => p.length + 1).sum = s.length + 1
 | [] => rfl
 | c :: s => by
  have ih := splitM_sum s
  unfold splitM
  split
  ·simp [ih]; omega
  cases h : splitM s with
  | nil => exact absurd h (splitM_ne s)
  | cons p r =>
   rw [h] at ih
   simp [headP] at ih ⊢
   omega
theorem sum_take_le (l : List Nat) (i : Nat) : (l.take i).sum ≤ l.sum := by
 have := congrArg List.sum (List.take_append_drop i l)
 rw [List.sum_append] at this
 omega
theorem atL_le (s : List UInt8) (i : Nat) : atL (splitM s) i ≤ s.length + 1 := by
 unfold atL
 rw [List.map_take, ← splitM_sum s]
 exact sum_take_le _ i
theorem part_le {s : List UInt8} {i : Nat} (h : i < (splitM s).length) : atL (splitM s) i + ((splitM s)[i].length + 1) ≤ s.length + 1 := by
 rw [← atL_succ h]
 exact atL_le s _
def getL (ps : List (List UInt8)) (i : Nat) : List UInt8 := ps.getD i []
theorem getL_eq {ps : List (List UInt8)} {i : Nat} (h : i < ps.length) : getL ps i = ps[i] := by
 unfold getL
 rw [List.getD_eq_getElem?_getD, List.getElem?_eq_getElem h]
 rfl
theorem cutM_len (t : List UInt8) : (cutM t).2.1.length ≤ t.length := by
 unfold cutM
 split
 ·simp
 simp
theorem cut_drop {ps : List (List UInt8)} {t : List UInt8} {i : Nat} (hi : i < ps.length) (h : splitM t = ps.drop i) : ∃ t', cutM t = (getL ps i, t', decide (i + 1 < ps.length)) ∧ t'.length ≤ t.length ∧ (i + 1 < ps.length → splitM t' = ps.drop (i + 1)) := by
 refine ⟨(cutM t).2.1, ?_, cutM_len t, ?_⟩
 ·rw [splitM_cut, List.drop_eq_getElem_cons hi] at h
  rw [getL_eq hi]
  cases hm : (cutM t).2.2 with
  | true =>
   rw [hm, if_pos rfl] at h
   injection h with h1 h2
   have : i + 1 < ps.length := by
    rcases Nat.lt_or_ge (i + 1) ps.length with h3 | h3
    ·exact h3
    rw [List.drop_eq_nil_of_le h3] at h2
    exact absurd h2 (splitM_ne _)
   rw [decide_eq_true this, ← h1, ← hm]
  | false =>
   rw [hm, if_neg (by simp)] at h
   injection h with h1 h2
   have : ¬ i + 1 < ps.length := fun h3 => by
    rw [List.drop_eq_getElem_cons h3] at h2
    cases h2
   rw [decide_eq_false this, ← h1, ← hm]
 intro h3
 rw [splitM_cut, List.drop_eq_getElem_cons hi] at h
 cases hm : (cutM t).2.2 with
 | true =>
  rw [hm, if_pos rfl] at h
  injection h
 | false =>
  rw [hm, if_neg (by simp)] at h
  injection h with h1 h2
  rw [List.drop_eq_getElem_cons h3] at h2
  cases h2
theorem cut_at (t p t' : List UInt8) (m : Bool) (ht : t.length ≤ 1000000000) (h : cutM t = (p, t', m)) : Tr Tryz.prog 115 #[.string (sB t), .string (sB [47])] [] [] (T0 (.tuple #[.string (sB p), .string (sB t'), .bool m])) := by
 have := cut_tr t ht
 rwa [h] at this
set_option maxRecDepth 20000 in
set_option maxHeartbeats 4000000 in
theorem steps_seq (s : List UInt8) (hs : s.length ≤ 1000000000) (b : Nat) : SeqT Tryz.prog 126 #[.pointer (some ⟨b, 0, none⟩)] [] [blk b 9 [.string (sB s)]] (splitM s).length (fun i => [.int .i64 (atL (splitM s) i : Int), .string (sB (getL (splitM s) i))]) := by
 intro lp X J C x0 h0 hY
 show Tr _ _ #[.func (.yield lp) #[] #[], .pointer (some ⟨b, 0, none⟩)] _ _ _
 refine Tr.ofI (l := [(0, .func (.yield lp) #[] #[]), (1, .pointer (some ⟨b, 0, none⟩))]) Tryz.func126 rfl (n := 23) rfl (.cons rfl (.cons rfl .nil)) (fun w0 hro => ?_)
 refine go [32,33,1,1,34,31,38] ?_
 have hpos : 0 < (splitM s).length := List.length_pos_iff.2 (splitM_ne s)
 refine I.loopK (X := Nat × (List UInt8) × X) (ts := [0, 1]) (fun st => st.1 ≤ (splitM s).length ∧ st.2.1.length ≤ s.length ∧ (st.1 < (splitM s).length → splitM st.2.1 = (splitM s).drop st.1) ∧ J true st.1 st.2.2) (fun st => [(3, .int .i64 (atL (splitM s) st.1 : Int)), (4, .bool (decide (st.1 < (splitM s).length)))]) (fun st => [blk b 9 [.string (sB st.2.1)], C true st.1 st.2.2]) (fun st => (splitM s).length - st.1) (x0 := (0, s, x0)) (.cons rfl (.cons rfl .nil)) subT (.cons (.cons .nil)) apT (by first | exact trivial | ((try dsimp only) <;> exact ⟨Nat.zero_le _, Nat.le_refl _, fun _ => rfl, h0⟩)) (.consE rfl (by first | rfl | exact int_eq (by rw [atL_zero]; rfl)) (.consE rfl (by rw [decide_eq_true hpos]) .nil)) (fun st hJ => ?_)
 obtain ⟨i, t, x⟩ := st
 try dsimp only at hJ
 try dsimp only
 obtain ⟨hi, ht, hsp, hJ0⟩ := hJ
 refine go [32,32,33,0,34,31] ?_
 refine I.condP rfl (fun h6 => ?_) (fun h6 => ?_)
 ·have hil : i < (splitM s).length := by assumption
  obtain ⟨t', hcut, ht', hsp'⟩ := cut_drop hil (hsp hil)
  refine go [39,31,38,32,33,1,34,31,32,33,2,4] ?_
  refine G.op rfl (G.cR rfl rfl rfl rfl Tryz.func115 rfl rfl may0 (cut_at t _ t' _ (by omega) hcut) ?_)
  refine go [0,2,7,2,7,2,7,1,21,1,34,31,32,32] ?_
  refine IL.region ?_
  refine go [60,2,60,2,60,2] ?_
  refine IL.op rfl (IL.yield rfl rfl rfl rfl rfl subT (hY i x hil hJ0) apT ?_)
  intro x16 hJ
  obtain ⟨v, y⟩ := x16
  try dsimp only at hJ
  try dsimp only
  have hJ2 := hJ
  refine IL.op rfl (IL.lift kr (G.val rfl rfl (pv_not rfl) ?_))
  refine IL.nil ?_
  refine I.nThen ?_
  have hlen := part_le hil
  rw [← getL_eq hil] at hlen
  have hat := atL_succ hil
  rw [← getL_eq hil] at hat
  refine I.cond rfl (fun h17 => ?_) (fun h17 => ?_)
  ·obtain rfl : v = false := by cases v <;> simp_all
   refine go [37,35,36,35,36] ?_
   exact I.doneIr ((false, i + 1, y)) (by first | exact trivial | ((try dsimp only) <;> exact ⟨hJ2, hil, fun h => by cases h⟩)) rfl rfl subT
  obtain rfl : v = true := by cases v <;> simp_all
  refine go [39,31,33,0,0,2,21,2,6,2,6,1,34,40] ?_
  exact I.next ((i + 1, t', y)) (by first | exact trivial | ((try dsimp only) <;> exact ⟨by omega, by omega, hsp', hJ2⟩)) (by (try dsimp only); omega) (.consE rfl veqT (.consE rfl veqT (.cons rfl (.cons rfl .nil)))) subT
 refine go [42,41,41,43] ?_
 exact I.doneI ((true, i, x)) (by first | exact trivial | ((try dsimp only) <;> exact ⟨hJ0, hi, fun _ => by omega⟩)) rfl rfl subT
set_option maxRecDepth 20000 in
set_option maxHeartbeats 4000000 in
theorem steps_tr (s : List UInt8) : Tr Tryz.prog 113 #[.string (sB s)] [] [] (TX (fun _ : Nat => True) (fun b => .func (.func 126) #[] #[.pointer (some ⟨b, 0, none⟩)]) (fun b => [blk b 9 [.string (sB s)]])) := by
 refine Tr.of (l := [(0, .string (sB s))]) Tryz.func113 rfl (n := 4) rfl (.cons rfl .nil) (fun w0 hro => ?_)
 refine go [9,10,60,3] ?_
 intro b1
 refine go [1,7,8,9,10,2,26,1,7,8,11] ?_
 exact G.doneX1 (b1) trT rfl rfl rfl subT
theorem badR_of {c : UInt8} (h : ¬ c = 47) : badP c = badR c := by
 unfold badP badR
 have : c.toNat ≠ 47 := fun e => h (UInt8.toNat_inj.1 e)
 simp [this]
theorem findIdx_congr {p q : UInt8 → Bool} : ∀ {l : List UInt8}, (∀ x ∈ l, p x = q x) → l.findIdx p = l.findIdx q
 | [], _ => rfl
 | x :: l, h => by
  rw [List.findIdx_cons, List.findIdx_cons, h x (List.mem_cons_self ..), findIdx_congr fun y hy => h y (List.mem_cons_of_mem _ hy)]
theorem stepB_eq {s : List UInt8} (h : ∀ x ∈ s, ¬ x = 47) : stepB badP s = stepB badR s := by
 unfold stepB
 rw [findIdx_congr (p := badP) (q := badR) fun x hx => badR_of (h x hx)]
theorem step_at (s : List UInt8) (h : ∀ x ∈ s, ¬ x = 47) (hs : s.length ≤ 1000000000) : Tr Tryz.prog 114 #[.string (sB s)] [] [] (T0 (.tuple #[.int .i64 (stepB badR s).1, .int .i64 (stepB badR s).2])) := by
 have := step_tr s hs
 rwa [stepB_eq h] at this
theorem splitM_no : ∀ s, ∀ p ∈ splitM s, ∀ x ∈ p, ¬ x = 47
 | [], p, hp, x, hx => by
  have : p = [] := by simpa [splitM] using hp
  subst this
  cases hx
 | c :: s, p, hp, x, hx => by
  have ih := splitM_no s
  by_cases hc : c = 47
  ·subst hc
   rw [splitM_stroke] at hp
   rcases List.mem_cons.1 hp with rfl | hp
   ·cases hx
   exact ih p hp x hx
  rw [splitM_char hc] at hp
  cases h : splitM s with
  | nil => exact absurd h (splitM_ne s)
  | cons q r =>
   rw [h] at hp ih
   rcases List.mem_cons.1 hp with rfl | hp
   ·rcases List.mem_cons.1 hx with rfl | hx
    ·exact hc
    exact ih q (List.mem_cons_self ..) x hx
   exact ih p (List.mem_cons_of_mem _ hp) x hx
theorem stepB_pos (bad : UInt8 → Bool) (s : List UInt8) : 0 ≤ (stepB bad s).2 ∧ (stepB bad s).2 ≤ s.length + 60 ∧ 0 ≤ (stepB bad s).1 ∧ (stepB bad s).1 ≤ 4 := by
 unfold stepB
 have := @List.findIdx_le_length _ bad s
 split
 ·simp; omega
 split
 ·simp; omega
 split <;> simp <;> omega
def checkL : List (List UInt8) → Nat → Nat → Int × Int
 | [], _, _ => (0, 0)
 | p :: r, i, o => if i = 20 then (3, (o : Int)) else if (stepB badR p).1 = 0 then checkL r (i + 1) (o + (p.length + 1)) else ((stepB badR p).1, (o : Int) + (stepB badR p).2)
def checkM (s : List UInt8) : Int × Int := if s = [] then (2, 0) else if 200 < s.length then (3, 200) else checkL (splitM s) 0 0
theorem checkM_nil {s : List UInt8} (h : s = []) : checkM s = (2, 0) := if_pos h
theorem checkM_long {s : List UInt8} (h0 : ¬ s = []) (h : (200 : Int) < s.length) : checkM s = (3, 200) := by
 unfold checkM
 rw [if_neg h0, if_pos (by omega)]
theorem checkM_parts {s : List UInt8} (h0 : ¬ s = []) (h : ¬ (200 : Int) < s.length) : checkM s = checkL (splitM s) 0 0 := by
 unfold checkM
 rw [if_neg h0, if_neg (by omega)]
theorem checkL_many {ps : List (List UInt8)} {i : Nat} (hi : i < ps.length) (h : i = 20) : checkL (ps.drop i) i (atL ps i) = (3, (atL ps i : Int)) := by
 rw [List.drop_eq_getElem_cons hi]
 exact if_pos h
theorem checkL_next {ps : List (List UInt8)} {i : Nat} (hi : i < ps.length) (h : ¬ i = 20) (hs : (stepB badR (getL ps i)).1 = 0) : checkL (ps.drop i) i (atL ps i) = checkL (ps.drop (i + 1)) (i + 1) (atL ps (i + 1)) := by
 rw [getL_eq hi] at hs
 rw [List.drop_eq_getElem_cons hi, atL_succ hi]
 unfold checkL
 rw [if_neg h, if_pos hs]
 cases ps.drop (i + 1) <;> rfl
theorem checkL_bad {ps : List (List UInt8)} {i : Nat} (hi : i < ps.length) (h : ¬ i = 20) (hs : ¬ (stepB badR (getL ps i)).1 = 0) : checkL (ps.drop i) i (atL ps i) = ((stepB badR (getL ps i)).1, (atL ps i : Int) + (stepB badR (getL ps i)).2) := by
 rw [getL_eq hi] at hs ⊢
 rw [List.drop_eq_getElem_cons hi]
 unfold checkL
 rw [if_neg h, if_neg hs]
theorem okP_len {s : List UInt8} (h : (checkM s).1 = 0) : s.length ≤ 200 := by
 unfold checkM at h
 split at h
 ·cases h
 split at h
 ·cases h
 omega
set_option maxRecDepth 20000 in
set_option maxHeartbeats 4000000 in
theorem check_tr (s : List UInt8) (hs : s.length ≤ 9223372036854775807) : Tr Tryz.prog 87 #[.string (sB s)] [] [] (T0 (.agg #[.int .i64 (checkM s).1, .int .i64 (checkM s).2])) := by
 refine Tr.ofM (l := [(0, .string (sB s))]) Tryz.func87 rfl (n := 40) rfl (.cons rfl .nil) (fun w0 hro => ?_)
 refine go [32,33] ?_
 refine G.op rfl (G.alloc (z := .agg #[.int .i64 0, .int .i64 0]) (cs := [.int .i64 0, .int .i64 0]) rfl kr rfl ?_)
 intro b2
 refine go [34,31,32,38,32,33,0,2,24,1,34,31] ?_
 refine I.condP rfl (fun h8 => ?_) (fun h8 => ?_)
 ·refine go [32,33,2,50,0,20,34,31,37,36,35] ?_
  exact I.doneT0 rfl (Rv.cellN (cs := [_, _]) rfl Tryz.underlying130 rfl kr Y19 Rv.nil) (by rw [checkM_nil (by assumption)]; rfl)
 refine go [32,33,0,2,21,2,10,1,34,31] ?_
 refine I.condP rfl (fun h12 => ?_) (fun h12 => ?_)
 ·refine go [32,33,2,50,0,20,34,31,37,36,35] ?_
  exact I.doneT0 rfl (Rv.cellN (cs := [_, _]) rfl Tryz.underlying130 rfl kr Y19 Rv.nil) (by rw [checkM_long (by assumption) (by assumption)]; rfl)
 refine go [39,40,31,32,33,60,7] ?_
 intro b3
 refine go [21,34,31,32,32,33,0] ?_
 refine G.op rfl (G.cS rfl rfl rfl rfl Tryz.func113 rfl rfl subT may0 (steps_tr _) apT ?_)
 intro x18 hJ
 try dsimp only at hJ
 try dsimp only
 refine go [34,31,38] ?_
 refine I.rangeK (X := Int × Int) (encs := fun i => (.int .i64 (atL (splitM s) i : Int), .string (sB (getL (splitM s) i)))) (ts := [2, 3]) (fun b i st => (b = true → st.1 = 0 ∧ st.2 = 0 ∧ i ≤ 20 ∧ checkL (splitM s) 0 0 = checkL ((splitM s).drop i) i (atL (splitM s) i)) ∧ (b = false → checkL (splitM s) 0 0 = (st.1, st.2))) (fun b i st => [blk b2 130 [.int .i64 st.1, .int .i64 st.2], blk b3 3 [.int .i64 (i : Int)]]) (fun st => .ret) (fun i => [(4, .int .i64 (atL (splitM s) i : Int)), (5, .string (sB (getL (splitM s) i)))]) (x0 := (0, 0)) rfl Tryz.func126 rfl rfl (steps_seq s (by omega) x18) (by show Sub _ [blk b2 130 [.int .i64 0, .int .i64 0], blk b3 3 [.int .i64 0], blk x18 9 [.string (sB s)]] _; repeat (first | exact Sub.nil | (apply Sub.cons; (repeat (first | with_reducible exact Sel.here | exact Sel.here | apply Sel.there))))) may0 (by first | exact trivial | (exact ⟨fun _ => ⟨rfl, rfl, by omega, rfl⟩, fun h => (by cases h)⟩)) rfl rfl (.cons rfl (.cons rfl .nil)) (.cons (.cons .nil)) ?_ ?_ ?_ ?_
 ·intro w1 S1 lp m1 i hi
  try dsimp only at hJ
  try dsimp only
  refine go [32,33,1,34,31,33,1,34] ?_
  exact I.asg (.consE rfl veqT (.consE rfl veqT (.cons rfl (.cons rfl .nil))))
 ·intro w1 S1 lp c i st hi hJ
  obtain ⟨x, y⟩ := st
  try dsimp only at hJ
  try dsimp only
  obtain ⟨hT, -⟩ := hJ
  obtain ⟨rfl, rfl, hi20, hck⟩ := hT rfl
  have hlen := part_le hi
  rw [← getL_eq hi] at hlen
  have hno : ∀ c ∈ getL (splitM s) i, ¬ c = 47 := by rw [getL_eq hi]; exact splitM_no s _ (List.getElem_mem hi)
  have hb := stepB_pos badR (getL (splitM s) i)
  refine go [38,32,33,2,4] ?_
  refine G.op rfl (G.val rfl rfl ((pv_add64 rfl rfl (by omega)).int (b := ((i + 1 : Nat) : Int)) (by omega)) ?_)
  refine go [21,34,31,32,32,33,2,4,2,10,34,31] ?_
  refine I.condP rfl (fun h24 => ?_) (fun h24 => ?_)
  ·refine go [32,33,0,2,50,0,20,34,31,37,35,36] ?_
   exact I.rR ((3, (atL (splitM s) i : Int))) (by first | exact trivial | ((try dsimp only) <;> exact ⟨fun h => (by cases h), fun _ => hck.trans (checkL_many hi (by omega))⟩)) rfl subT
  refine go [39,31,32,33,0] ?_
  refine G.op rfl (G.cR rfl rfl rfl rfl Tryz.func114 rfl rfl may0 (step_at (getL (splitM s) i) hno (by omega)) ?_)
  refine go [0,2,7,2,7,1,1,34,31,32,33,0,2,14,34,31] ?_
  refine I.condP rfl (fun h33 => ?_) (fun h33 => ?_)
  ·refine go [32,33,0,0,0,2,6,2,50,0,20,34,31,37,36] ?_
   exact I.rR (((stepB badR (getL (splitM s) i)).1, (atL (splitM s) i : Int) + (stepB badR (getL (splitM s) i)).2)) (by first | exact trivial | ((try dsimp only) <;> exact ⟨fun h => (by cases h), fun _ => hck.trans (checkL_bad hi (by omega) (by omega))⟩)) rfl subT
  refine go [39,40] ?_
  exact I.rN ((0, 0)) (by first | exact trivial | ((try dsimp only) <;> exact ⟨fun _ => ⟨rfl, rfl, by omega, hck.trans (checkL_next hi (by omega) (by omega))⟩, fun h => (by cases h)⟩)) subT
 ·intro D st hJ
  obtain ⟨x, y⟩ := st
  try dsimp only at hJ
  try dsimp only
  obtain ⟨hT, -⟩ := hJ
  obtain ⟨rfl, rfl, hi20, hck⟩ := hT rfl
  refine go [40,31,32,33,2,50,0,20,34,31,37] ?_
  exact I.doneT rfl Y16 (Rv.cellN (cs := [_, _]) rfl Tryz.underlying130 rfl kr Y19 Rv.nil) (by rw [checkM_parts (by assumption) (by assumption), hck, List.drop_length]; rfl)
 intro D i st hle hJ
 obtain ⟨x, y⟩ := st
 try dsimp only at hJ
 try dsimp only
 obtain ⟨-, hF⟩ := hJ
 have hxy := hF rfl
 refine go [37,36,35] ?_
 exact I.doneT rfl Y16 (Rv.cellN (cs := [_, _]) rfl Tryz.underlying130 rfl kr Y19 Rv.nil) (by rw [checkM_parts (by assumption) (by assumption), hxy]; rfl)
set_option maxRecDepth 20000 in
set_option maxHeartbeats 4000000 in
theorem valid_tr (s : List UInt8) (hs : s.length ≤ 9223372036854775807) : Tr Tryz.prog 88 #[.string (sB s)] [] [] (T0 (.bool (decide ((checkM s).1 = 0)))) := by
 refine Tr.of (l := [(0, .string (sB s))]) Tryz.func88 rfl (n := 7) rfl (.cons rfl .nil) (fun w0 hro => ?_)
 refine go [9,10,1,7,8,9,10,0] ?_
 refine G.op rfl (G.cR rfl rfl rfl rfl Tryz.func87 rfl rfl may0 (check_tr _ (by omega)) ?_)
 refine G.op rfl (G.val rfl rfl (pv_field1 Tryz.underlying130 rfl Tryz.underlying46 rfl rfl rfl) ?_)
 refine go [2,13,1,7,8,11] ?_
 exact G.done0G rfl (Rv.tmp rfl Rv.nil) Y8
theorem splitM_snoc47 : ∀ s, splitM (s ++ [47]) = splitM s ++ [[]]
 | [] => rfl
 | c :: s => by
  have ih := splitM_snoc47 s
  rw [List.cons_append]
  by_cases hc : c = 47
  ·subst hc
   rw [splitM_stroke, splitM_stroke, ih]
   rfl
  rw [splitM_char hc, splitM_char hc, ih]
  cases h : splitM s with
  | nil => exact absurd h (splitM_ne s)
  | cons p r => rfl
theorem splitM_snoc {c : UInt8} (hc : ¬ c = 47) : ∀ (s : List UInt8) (ini : List (List UInt8)) (p : List UInt8), splitM s = ini ++ [p] → splitM (s ++ [c]) = ini ++ [p ++ [c]]
 | [], ini, p, h => by
  have h : [[]] = ini ++ [p] := h
  have h1 : ini = [] := by
   cases ini with
   | nil => rfl
   | cons a l => simp at h
  subst h1
  have h2 : p = [] := by simpa using h.symm
  subst h2
  show splitM [c] = _
  rw [splitM_char hc]
  rfl
 | d :: s, ini, p, h => by
  rw [List.cons_append]
  by_cases hd : d = 47
  ·subst hd
   rw [splitM_stroke] at h ⊢
   cases ini with
   | nil =>
    have h2 : splitM s = [] := by
     have := congrArg List.tail h
     simpa using this
    exact absurd h2 (splitM_ne s)
   | cons a l =>
    rw [List.cons_append] at h
    injection h with h1 h2
    rw [splitM_snoc hc s l p h2, ← h1]
    rfl
  rw [splitM_char hd] at h ⊢
  obtain ⟨i2, q, hq⟩ : ∃ i2 q, splitM s = i2 ++ [q] := ⟨_, _, (List.dropLast_concat_getLast (splitM_ne s)).symm⟩
  rw [splitM_snoc hc s i2 q hq]
  rw [hq] at h
  cases i2 with
  | nil =>
   have h : [d :: q] = ini ++ [p] := h
   have h1 : ini = [] := by
    cases ini with
    | nil => rfl
    | cons a l => simp at h
   subst h1
   have h2 : p = d :: q := by simpa using h.symm
   subst h2
   rfl
  | cons a l =>
   have h : (d :: a) :: (l ++ [q]) = ini ++ [p] := h
   have e : ((d :: a) :: l) ++ [q] = ini ++ [p] := h
   have e1 := List.append_inj' e rfl
   have e2 : q = p := by simpa using e1.2
   rw [← e1.1, ← e2]
   rfl
theorem splitM_last (s : List UInt8) : ∃ ini p, splitM s = ini ++ [p] := ⟨_, _, (List.dropLast_concat_getLast (splitM_ne s)).symm⟩
theorem splitM_len (s : List UInt8) : (splitM s).length ≤ s.length + 1 := by
 have h := splitM_sum s
 have : ∀ l : List (List UInt8), l.length ≤ (l.map fun p => p.length + 1).sum := by
  intro l
  induction l with
  | nil => simp
  | cons a l ih => simp; omega
 have := this (splitM s)
 omega
theorem mem_len {s p : List UInt8} (h : p ∈ splitM s) : p.length ≤ s.length := by
 have h1 := splitM_sum s
 have : ∀ l : List (List UInt8), p ∈ l → p.length + 1 ≤ (l.map fun p => p.length + 1).sum := by
  intro l
  induction l with
  | nil => intro h; cases h
  | cons a l ih =>
   intro h
   rcases List.mem_cons.1 h with rfl | h
   ·simp
   have := ih h
   simp; omega
 have := this _ h
 omega
theorem Tryz.infoStr' : (Tryz.prog.info? 9).map (fun i => (i.zero.map (·.cells.size), i.size, i.bytes)) = some (some 1, 1, 16) := by kernel_rfl
theorem own_str {e : TypeId} {v : Value} {k : Nat} {ps qs : List (List UInt8)} (h : qs = ps) (hk : k = ps.length) : own e 1 v k (ps.map vStr) = own e 1 v qs.length (qs.map vStr) := by
 subst h
 rw [hk]
theorem own_str1 {e : TypeId} {v : Value} {ps qs : List (List UInt8)} {p : List UInt8} (h : qs = ps ++ [p]) : own e 1 v (ps.length + 1) (ps.map vStr ++ [vStr p]) = own e 1 v qs.length (qs.map vStr) := by
 subst h
 simp
theorem rdLast {ini : List (List UInt8)} {p : List UInt8} {sp : List Value} : ((ini ++ [p]).map vStr ++ sp)[0 + ini.length * 1]? = some (.string (sB p)) := by
 rw [Nat.zero_add, Nat.mul_one, List.map_append, List.append_assoc, List.getElem?_append_right (by simp)]
 simp
 rfl
theorem setLast {ini : List (List UInt8)} {p q : List UInt8} {sp : List Value} : ((ini ++ [p]).map vStr ++ sp).set (0 + ini.length * 1) (.string (sB q)) = (ini ++ [q]).map vStr ++ sp := by
 rw [Nat.zero_add, Nat.mul_one, List.map_append, List.append_assoc, List.set_append_right _ _ (by simp), List.map_append, List.append_assoc]
 simp
 rfl
theorem take_succ_app {s : List UInt8} {k : Nat} (h : k < s.length) : s.take (k + 1) = s.take k ++ [s[k]] := List.take_succ_eq_append_getElem h
theorem take_drop_one {s : List UInt8} {k : Nat} (h : k < s.length) : (s.take (k + 1)).drop k = [s[k]] := by
 rw [take_succ_app h, List.drop_append_of_le_length (by simp; omega), List.drop_of_length_le (by simp; omega), List.nil_append]
theorem split47 {s : List UInt8} {k : Nat} (hk : k < s.length) (h : (s[k].toNat : Int) = 47) : splitM (s.take (k + 1)) = splitM (s.take k) ++ [[]] := by
 have e : s[k] = 47 := UInt8.toNat_inj.1 (show s[k].toNat = 47 by omega)
 rw [take_succ_app hk, e, splitM_snoc47]
theorem splitC {s : List UInt8} {k : Nat} {ini : List (List UInt8)} {p : List UInt8} (hk : k < s.length) (h : ¬ (s[k].toNat : Int) = 47) (hi : splitM (s.take k) = ini ++ [p]) : splitM (s.take (k + 1)) = ini ++ [p ++ [s[k]]] := by
 have e : ¬ s[k] = 47 := fun e => h (by rw [e]; rfl)
 rw [take_succ_app hk]
 exact splitM_snoc e _ _ _ hi
set_option maxRecDepth 20000 in
set_option maxHeartbeats 4000000 in
theorem split_tr (s : List UInt8) (hs : s.length ≤ 1000000) : Tr Tryz.prog 96 #[.string (sB s)] [] [] (TX (fun _ : Value => True) (fun v => v) (fun v => [own 9 1 v (splitM s).length ((splitM s).map vStr)])) := by
 refine Tr.of (l := [(0, .string (sB s))]) Tryz.func96 rfl (n := 37) rfl (.cons rfl .nil) (fun w0 hro => ?_)
 refine go [9,10,1,7,8,9,10] ?_
 refine G.op rfl (G.lit1 (vs := [_]) rfl Tryz.underlying136 kr rfl (by decide) (by decide) rfl rfl ?_)
 intro b5
 refine go [1,7,8,9,9,10,1,7,8,15] ?_
 refine G.ownBlk (b := b5) (k := 1) (sz := 1) selT rfl (by omega) ?_
 refine G.loopK (X := Nat × Value) (ts := [0, 2]) (fun st => st.1 ≤ s.length) (fun st => [(4, .int .i64 (st.1 : Int)), (3, st.2)]) (fun st => [own 9 1 st.2 (splitM (s.take st.1)).length ((splitM (s.take st.1)).map vStr)]) (fun st => s.length - st.1) (x0 := (0, .slice (some ⟨b5, 0, none⟩) 1 1)) (.cons rfl (.cons rfl .nil)) (by show Sub _ [own 9 1 (.slice (some ⟨b5, 0, none⟩) 1 1) 1 [vStr []]] _; repeat (first | exact Sub.nil | (apply Sub.cons; (repeat (first | with_reducible exact Sel.here | exact Sel.here | apply Sel.there))))) (.cons (.cons .nil)) apT Y9 (.consE rfl veqT (.consE rfl veqT .nil)) (fun st hJ => ?_)
 obtain ⟨k, v⟩ := st
 try dsimp only at hJ
 try dsimp only
 have hkk := hJ
 have hle := splitM_len (s.take k)
 have htk : (s.take k).length ≤ k := by simp; omega
 refine go [9,9,10,0,0,2,21,2,9,7,8] ?_
 refine G.condP rfl (fun h9 => ?_) (fun h9 => ?_)
 ·refine go [13,8,9,15,9,9,10,0,0,2,22,2,13,7,8] ?_
  have hkl : k < s.length := by omega
  refine G.condP rfl (fun h15 => ?_) (fun h15 => ?_)
  ·refine go [9,10,0] ?_
   refine G.op rfl (G.lit1 (vs := [_]) rfl Tryz.underlying136 kr rfl (by decide) (by decide) rfl rfl ?_)
   intro b17
   refine G.op rfl (G.append (k := (splitM (s.take k)).length) (j := 1) (cs := (splitM (s.take k)).map vStr) (news := [vStr []]) (b := b17) (off := 0) rfl Tryz.underlying136 Tryz.infoStr' rfl rfl rfl selT (fun _ => rfl) (fun h => by cases h) rfl (blk_news (k := 1) selT rfl) (by intro u hu; obtain rfl : u = _ := (by simpa using hu); rfl) (by omega) (by omega) ?_)
   intro vn
   rw [own_str1 (split47 hkl (by assumption))]
   refine go [1,7,8,18,14,19,8,10,0,2,6,1,7] ?_
   exact G.next ((k + 1, vn)) Y6 (by (try dsimp only); omega) (.consE rfl veqT (.consE rfl veqT (.cons rfl (.cons rfl .nil)))) subT
  refine go [13,8] ?_
  obtain ⟨ini, p, hip⟩ := splitM_last (s.take k)
  have hpl : p.length ≤ (s.take k).length := mem_len (by rw [hip]; simp)
  rw [hip] at hle
  rw [hip]
  have hn : (ini ++ [p]).length = ini.length + 1 := by simp
  refine G.ownTo selT (by omega) (fun g cap sp hv hkc hmx hl hlen => ?_)
  subst hv
  rw [hn] at hkc ⊢
  refine G.drawT (nn := 18) (p := [blk g _ _]) (rem := 262143) [0, 0, 2, 4, 0, 0, 32, 64, 144, 256, 0, 0, 0, 4096, 11264, 16896, 65535, 131071] [0, 0, 2, 4, 0, 0, 32, 64, 144, 256, 0, 0, 0, 4096, 11264, 16896, 9, 98304] kr ⟨rfl, by kernel_rfl, by kernel_rfl⟩ subT kr (fun hT7 => ?_)
  refine go [22,0,262142,0,22,1,262140,0,22,2,262136,5,22,3,262128,19,22,4,262112,0,22,5,262080,0,22,6,262016,5,22,7,261888,19] ?_
  refine G.takeT hT7 (i := 8) (rem' := 261632) rfl rfl rfl kr (fun _ _ _ h => h) rfl (pv_ixSl (sz := 1) (k := ini.length) Tryz.underlying136 kr rfl rfl (fun _ => rfl) (by omega) (by omega)) subT ?_
  refine go [22,10,260608,0,22,11,258560,0,22,12,254464,0,22,13,246272,6] ?_
  refine G.takeT hT7 (i := 14) (rem' := 229888) rfl rfl rfl kr (fun _ _ _ h => h) rfl ((pv_strLH (k := k) (k' := k + 1) Tryz.underlying9 rfl rfl rfl rfl (by omega) (by omega) (by omega)).cast (congrArg (fun x => Value.string (sB x)) (take_drop_one hkl))) subT ?_
  refine go [24,9,229376] ?_
  refine G.turnOp rfl rfl (G.val rfl rfl (pv_load (v := .string (sB p)) Tryz.underlying9 rfl rfl (blk_cell selD rdLast)) ?_)
  refine go [26] ?_
  refine G.takeT hT7 (i := 15) (rem' := 196608) rfl rfl rfl kr (fun _ _ _ h => h) rfl (pv_addS rfl rfl (by simp; omega)) subT ?_
  refine G.takeT hT7 (i := 16) (rem' := 131072) rfl rfl rfl kr (fun _ _ _ h => h) rfl (pv_ixSl (sz := 1) (k := ini.length) Tryz.underlying136 kr rfl rfl (fun _ => rfl) (by omega) (by omega)) subT ?_
  refine go [24,17,0] ?_
  refine G.turnOp rfl rfl (G.store kr rfl rfl rfl selT (by simp) ?_)
  rw [setLast]
  refine go [26,27,16,8,10,0,2,6,1,7] ?_
  refine G.ownOf (sz := 1) (k := ini.length + 1) (cs := (ini ++ [p ++ [s[k]]]).map vStr) (sp := sp) selT (by simp) hkc hmx (by simpa using hl) ?_
  rw [own_str (splitC hkl (by assumption) hip) (by simp)]
  exact G.next ((k + 1, .slice (some ⟨g, 0, none⟩) (ini.length + 1) cap)) Y6 (by (try dsimp only); omega) (.consE rfl veqT (.consE rfl veqT (.cons rfl (.cons rfl .nil)))) subT
 refine go [18,14,14,19,8,9,10,0,1,7,8,11] ?_
 obtain rfl : k = s.length := by omega
 rw [List.take_length]
 exact G.doneX1 (v) trT rfl rfl rfl subT
theorem splitM_pos (s : List UInt8) : 0 < (splitM s).length := List.length_pos_iff.2 (splitM_ne s)
set_option maxRecDepth 20000 in
set_option maxHeartbeats 4000000 in
theorem checkR_tr (s : List UInt8) (hs : s.length ≤ 9223372036854775807) : Tr Tryz.prog 118 #[.string (sB s)] [] [] (T0 (.agg #[.int .i64 (checkM s).1, .int .i64 (checkM s).2])) := by
 refine Tr.of (l := [(0, .string (sB s))]) Tryz.func118 rfl (n := 51) rfl (.cons rfl .nil) (fun w0 hro => ?_)
 refine go [9,10] ?_
 refine G.op rfl (G.alloc (z := .agg #[.int .i64 0, .int .i64 0]) (cs := [.int .i64 0, .int .i64 0]) rfl kr rfl ?_)
 intro b2
 refine go [7,8,9,9,10,0,2,24,7,8] ?_
 refine G.condP rfl (fun h9 => ?_) (fun h9 => ?_)
 ·refine go [9,10,2,50,0,20,7,8,11,12] ?_
  exact G.done0G rfl (Rv.cellN (cs := [_, _]) rfl Tryz.underlying130 rfl kr Y19 Rv.nil) (by rw [checkM_nil (by assumption)]; rfl)
 refine go [13,8,9,9,10,0,2,21,2,10,7,8] ?_
 refine G.condP rfl (fun h13 => ?_) (fun h13 => ?_)
 ·refine go [9,10,2,50,0,20,7,8,11,12] ?_
  exact G.done0G rfl (Rv.cellN (cs := [_, _]) rfl Tryz.underlying130 rfl kr Y19 Rv.nil) (by rw [checkM_long (by assumption) (by assumption)]; rfl)
 refine go [13,8,9,10,0] ?_
 refine G.op rfl (G.cS rfl rfl rfl rfl Tryz.func96 rfl rfl subT may0 (split_tr s (by omega)) apT ?_)
 intro x16 hJ
 try dsimp only at hJ
 try dsimp only
 have hpos := splitM_pos s
 have hlen := splitM_len s
 refine G.ownTo selT hpos (fun g cap sp hv hkc hmx hl hlen2 => ?_)
 subst hv
 refine go [1,7,8,9,10,1,7,8,9,9,10,1,7,8,15] ?_
 refine G.loopK (X := Nat) (ts := [2, 3]) (fun i => i ≤ (splitM s).length ∧ (i ≤ 20 ∧ checkL (splitM s) 0 0 = checkL ((splitM s).drop i) i (atL (splitM s) i))) (fun i => [(5, .int .i64 (i : Int)), (4, .int .i64 (atL (splitM s) i : Int))]) (fun i => []) (fun i => (splitM s).length - i) (x0 := 0) (.cons rfl (.cons rfl .nil)) subT (.cons (.cons .nil)) apT (by first | exact trivial | ((try dsimp only) <;> exact ⟨Nat.zero_le _, ⟨by omega, rfl⟩⟩)) (.consE rfl veqT (.consE rfl veqT .nil)) (fun i hJ => ?_)
 try dsimp only at hJ
 try dsimp only
 obtain ⟨hki, hJ⟩ := hJ
 refine go [9,9,10,0,0,2,5,2,9,7,8] ?_
 refine G.condP rfl (fun h20 => ?_) (fun h20 => ?_)
 ·obtain ⟨hi20, hck⟩ := hJ
  have hil : i < (splitM s).length := by omega
  have hpl := part_le hil
  have hge := getL_eq hil
  have hb := stepB_pos badR (getL (splitM s) i)
  have hat := atL_succ hil
  rw [← hge] at hpl hat
  refine go [13,8,9,15,9,9,10,0,2,13,7,8] ?_
  refine G.condP rfl (fun h24 => ?_) (fun h24 => ?_)
  ·refine go [9,10,0,2,50,0,20,7,8,11,12,17,12,12,17,12] ?_
   exact G.done0G rfl (Rv.cellN (cs := [_, _]) rfl Tryz.underlying130 rfl kr Y19 Rv.nil) (by rw [checkM_parts (by assumption) (by assumption), hck, checkL_many hil (by omega)]; rfl)
  refine go [13,8,9,10,0,0,2,20,1] ?_
  refine G.op rfl (G.val rfl rfl (pv_load (v := .string (sB (getL (splitM s) i))) Tryz.underlying9 rfl rfl (blk_cell selD (by rw [hge]; exact rd1 hil))) ?_)
  refine G.op rfl (G.cR rfl rfl rfl rfl Tryz.func128 rfl rfl may0 (part_tr _ (by omega)) ?_)
  refine go [0,2,7,2,7,1,1,7,8,9,9,10,0,2,14,7,8] ?_
  refine G.condP rfl (fun h36 => ?_) (fun h36 => ?_)
  ·refine go [9,10,0,0,0,2,6,2,50,0,20,7,8,11,12,17,12,12,17,12] ?_
   exact G.done0G rfl (Rv.cellN (cs := [_, _]) rfl Tryz.underlying130 rfl kr Y19 Rv.nil) (by rw [checkM_parts (by assumption) (by assumption), hck, checkL_bad hil (by omega) (by omega)]; rfl)
  refine go [13,8,10,0,0,0,2,20,1] ?_
  refine G.op rfl (G.val rfl rfl (pv_load (v := .string (sB (getL (splitM s) i))) Tryz.underlying9 rfl rfl (blk_cell selD (by rw [hge]; exact rd1 hil))) ?_)
  refine go [2,21,2,6,2,6,1,7,16,8,10,0,2,6,1,7] ?_
  exact G.next (i + 1) (by first | exact trivial | ((try dsimp only) <;> exact ⟨by omega, ⟨by omega, hck.trans (checkL_next hil (by omega) (by omega))⟩⟩)) (by (try dsimp only); omega) (.consE rfl veqT (.consE rfl veqT (.cons rfl (.cons rfl .nil)))) subT
 refine go [18,14,14,19,8,9,10,2,50,0,20,7,8,11] ?_
 obtain ⟨hi20, hck⟩ := hJ
 obtain rfl : i = (splitM s).length := by omega
 exact G.done0G rfl (Rv.cellN (cs := [_, _]) rfl Tryz.underlying130 rfl kr Y19 Rv.nil) (by rw [checkM_parts (by assumption) (by assumption), hck, List.drop_length]; rfl)
set_option maxRecDepth 20000 in
set_option maxHeartbeats 4000000 in
theorem validR_tr (s : List UInt8) (hs : s.length ≤ 9223372036854775807) : Tr Tryz.prog 94 #[.string (sB s)] [] [] (T0 (.bool (decide ((checkM s).1 = 0)))) := by
 refine Tr.of (l := [(0, .string (sB s))]) Tryz.func94 rfl (n := 7) rfl (.cons rfl .nil) (fun w0 hro => ?_)
 refine go [9,10,1,7,8,9,10,0] ?_
 refine G.op rfl (G.cR rfl rfl rfl rfl Tryz.func118 rfl rfl may0 (checkR_tr s hs) ?_)
 refine G.op rfl (G.val rfl rfl (pv_field1 Tryz.underlying130 rfl Tryz.underlying46 rfl rfl rfl) ?_)
 refine go [2,13,1,7,8,11] ?_
 exact G.done0G rfl (Rv.tmp rfl Rv.nil) Y8
theorem retV1 (v : Value) : retV [v] = v := rfl
theorem retV2 (a b : Value) : retV [a, b] = .tuple #[a, b] := rfl
def okP (s : List UInt8) : Prop := (checkM s).1 = 0
instance (s : List UInt8) : Decidable (okP s) := inferInstanceAs (Decidable (_ = _))
def cmpL : List (List UInt8) → List (List UInt8) → Int
 | [], [] => 0
 | [], _ :: _ => -1
 | _ :: _, [] => 1
 | x :: xs, y :: ys => if x = y then cmpL xs ys else bytesC x y
theorem cut_split {t p t' : List UInt8} {m : Bool} (h : cutM t = (p, t', m)) : splitM t = if m then p :: splitM t' else [p] := by
 rw [splitM_cut, h]
theorem cutM_lt {t p t' : List UInt8} (h : cutM t = (p, t', true)) : t'.length < t.length ∧ p.length ≤ t.length := by
 unfold cutM at h
 split at h
 ·injection h with h1 h2
  injection h2 with h2 h3
  rw [← h1, ← h2]
  simp
  omega
 injection h with h1 h2
 injection h2 with h2 h3
 cases h3
theorem ord_ne {x y a b : List UInt8} {m k : Bool} {s t : List UInt8} (hs : cutM s = (x, a, m)) (ht : cutM t = (y, b, k)) (h : x ≠ y) : cmpL (splitM s) (splitM t) = bytesC x y := by
 rw [cut_split hs, cut_split ht]
 cases m <;> cases k <;> exact if_neg h
theorem ord_eq {x y a b : List UInt8} {m k : Bool} {s t : List UInt8} (hs : cutM s = (x, a, m)) (ht : cutM t = (y, b, k)) (h : ¬ x ≠ y) : cmpL (splitM s) (splitM t) = if m then (if k then cmpL (splitM a) (splitM b) else 1) else if k then -1 else 0 := by
 have h : x = y := Decidable.of_not_not h
 rw [cut_split hs, cut_split ht]
 have e : ∀ xs ys, cmpL (x :: xs) (y :: ys) = cmpL xs ys := fun xs ys => if_pos h
 cases m <;> cases k <;> simp [e]
 ·rfl
 ·cases h2 : splitM b with
  | nil => exact absurd h2 (splitM_ne b)
  | cons p r => rfl
 cases h2 : splitM a with
 | nil => exact absurd h2 (splitM_ne a)
 | cons p r => rfl
set_option maxRecDepth 20000 in
set_option maxHeartbeats 4000000 in
theorem order_all (k : Nat) : ∀ a b : List UInt8, a.length = k → a.length ≤ 1000000 → b.length ≤ 1000000 → Tr Tryz.prog 89 #[.string (sB a), .string (sB b)] [] [] (T0 (.int .i64 (cmpL (splitM a) (splitM b)))) := by
 induction k using Nat.strongRecOn
 rename_i k ih
 intro a b hk ha hb
 obtain ⟨x, a', m, hx⟩ : ∃ x a' m, cutM a = (x, a', m) := ⟨_, _, _, rfl⟩
 obtain ⟨y, b', j, hy⟩ : ∃ y b' j, cutM b = (y, b', j) := ⟨_, _, _, rfl⟩
 have hbl := cutM_len b
 rw [hy] at hbl
 have hbl : b'.length ≤ b.length := hbl
 refine Tr.of (l := [(0, .string (sB a)), (1, .string (sB b))]) Tryz.func89 rfl (n := 40) rfl (.cons rfl (.cons rfl .nil)) (fun w0 hro => ?_)
 refine go [9,10,1,7,8,9,10,0] ?_
 refine G.op rfl (G.cR rfl rfl rfl rfl Tryz.func115 rfl rfl may0 (cut_at a _ _ _ (by omega) hx) ?_)
 refine go [0,2,7,2,7,2,7,1,1,1,7,8,9,10,0] ?_
 refine G.op rfl (G.cR rfl rfl rfl rfl Tryz.func115 rfl rfl may0 (cut_at b _ _ _ (by omega) hy) ?_)
 refine go [0,2,7,2,7,2,7,1,1,1,7,8,9,15,9,10,0,0,2,23,1,7,8] ?_
 refine G.condP rfl (fun h21 => ?_) (fun h21 => ?_)
 ·refine go [9,10,0,0] ?_
  refine G.op rfl (G.cR rfl rfl rfl rfl Tryz.func90 rfl rfl may0 (cmp_tr _ _) ?_)
  refine go [1,7,8,11,17,12] ?_
  exact G.done0G rfl (Rv.tmp rfl Rv.nil) (by rw [ord_ne hx hy (by assumption)]; rfl)
 refine go [9,10,0,0] ?_
 refine G.part (t := 30) rfl (fun h30 => ?_) (fun h30 => ?_)
 ·refine go [3,0,2,2,1,7,8] ?_
  refine G.cond rfl (fun h28 => ?_) (fun h28 => ?_)
  ·refine go [9,10,0,0] ?_
   have hm : m = true := by simp_all
   subst hm
   have hal := (cutM_lt hx).1
   refine G.op rfl (G.cR rfl rfl rfl rfl Tryz.func89 rfl rfl may0 (ih a'.length (by have := (cutM_lt (by assumption)).1; omega) a' b' rfl (by have := (cutM_lt (by assumption)).1; omega) (by omega)) ?_)
   refine go [1,7,8,11,17,12] ?_
   exact G.done0G rfl (Rv.tmp rfl Rv.nil) Y25
  refine go [9,10,0,1,7,8] ?_
  refine G.cond rfl (fun h36 => ?_) (fun h36 => ?_)
  ·refine go [9,10,1,7,8,11,17,12] ?_
   exact G.done0G rfl (Rv.tmp rfl Rv.nil) Y25
  refine go [9,10,0,1,7,8] ?_
  refine G.cond rfl (fun h38 => ?_) (fun h38 => ?_)
  ·refine go [9,10,1,7,8,11,17,12] ?_
   exact G.done0G rfl (Rv.tmp rfl Rv.nil) Y25
  refine go [13,16,8,9,10,1,7,8,11] ?_
  exact G.done0G rfl (Rv.tmp rfl Rv.nil) Y25
 refine go [4,2,2,1,7,8,60,0,9,10,0,1,7,8] ?_
 refine G.cond rfl (fun h36 => ?_) (fun h36 => ?_)
 ·refine go [9,10,1,7,8,11,17,12] ?_
  exact G.done0G rfl (Rv.tmp rfl Rv.nil) Y25
 refine go [9,10,0,1,7,8] ?_
 refine G.cond rfl (fun h38 => ?_) (fun h38 => ?_)
 ·refine go [9,10,1,7,8,11,17,12] ?_
  exact G.done0G rfl (Rv.tmp rfl Rv.nil) Y25
 refine go [13,16,8,9,10,1,7,8,11] ?_
 exact G.done0G rfl (Rv.tmp rfl Rv.nil) Y25
theorem order_tr (a b : List UInt8) (ha : a.length ≤ 1000000) (hb : b.length ≤ 1000000) : Tr Tryz.prog 89 #[.string (sB a), .string (sB b)] [] [] (T0 (.int .i64 (cmpL (splitM a) (splitM b)))) := order_all _ a b rfl ha hb
def compareM (a b : List UInt8) : Int := if okP a then (if okP b then cmpL (splitM a) (splitM b) else 1) else if okP b then -1 else bytesC a b
def parentM (s : List UInt8) : List UInt8 × Bool := if 0 < lastM s s.length ∧ okP s then (s.take (lastM s s.length - 1), true) else ([], false)
theorem lastM_le (s : List UInt8) : ∀ k, lastM s k ≤ k
 | 0 => Nat.le_refl _
 | k + 1 => by
  unfold lastM
  split
  ·exact Nat.le_refl _
  have := lastM_le s k
  omega
set_option maxRecDepth 20000 in
set_option maxHeartbeats 4000000 in
theorem compare_tr (a b : List UInt8) (ha : a.length ≤ 9223372036854775807) (hb : b.length ≤ 9223372036854775807) : Tr Tryz.prog 71 #[.string (sB a), .string (sB b)] [] [] (T0 (.int .i64 (compareM a b))) := by
 refine Tr.of (l := [(0, .string (sB a)), (1, .string (sB b))]) Tryz.func71 rfl (n := 26) rfl (.cons rfl (.cons rfl .nil)) (fun w0 hro => ?_)
 refine go [9,10,1,7,8,9,10,0] ?_
 refine G.op rfl (G.cR rfl rfl rfl rfl Tryz.func88 rfl rfl may0 (valid_tr _ (by omega)) ?_)
 refine go [0] ?_
 refine G.op rfl (G.cR rfl rfl rfl rfl Tryz.func88 rfl rfl may0 (valid_tr _ (by omega)) ?_)
 refine go [1,1,7,8,9,15,9,10,0,0] ?_
 refine G.partP (t := 13) rfl (fun h13 => ?_) (fun h13 => ?_)
 ·refine go [3,0,2,2,1,7,8] ?_
  refine G.condP rfl (fun h11 => ?_) (fun h11 => ?_)
  ·refine go [9,10,0,0] ?_
   refine G.op rfl (G.cR rfl rfl rfl rfl Tryz.func89 rfl rfl may0 (order_tr _ _ (by have := okP_len (s := a) (by assumption); omega) (by have := okP_len (s := b) (by assumption); omega)) ?_)
   refine go [1,7,8,11,17,12] ?_
   exact G.done0G rfl (Rv.tmp rfl Rv.nil) Y26
  refine go [9,10,0,1,7,8] ?_
  refine G.condP rfl (fun h19 => ?_) (fun h19 => ?_)
  ·refine go [9,10,1,7,8,11,17,12] ?_
   exact G.done0G rfl (Rv.tmp rfl Rv.nil) Y26
  refine go [9,10,0,1,7,8] ?_
  refine G.condP rfl (fun h21 => ?_) (fun h21 => ?_)
  ·refine go [9,10,1,7,8,11,17,12] ?_
   exact G.done0G rfl (Rv.tmp rfl Rv.nil) Y26
  refine go [13,16,8,9,10,0,0] ?_
  refine G.op rfl (G.cR rfl rfl rfl rfl Tryz.func90 rfl rfl may0 (cmp_tr _ _) ?_)
  refine go [1,7,8,11] ?_
  exact G.done0G rfl (Rv.tmp rfl Rv.nil) Y26
 refine go [4,2,2,1,7,8,60,0,9,10,0,1,7,8] ?_
 refine G.condP rfl (fun h19 => ?_) (fun h19 => ?_)
 ·refine go [9,10,1,7,8,11,17,12] ?_
  exact G.done0G rfl (Rv.tmp rfl Rv.nil) Y26
 refine go [9,10,0,1,7,8] ?_
 refine G.condP rfl (fun h21 => ?_) (fun h21 => ?_)
 ·refine go [9,10,1,7,8,11,17,12] ?_
  exact G.done0G rfl (Rv.tmp rfl Rv.nil) Y26
 refine go [13,16,8,9,10,0,0] ?_
 refine G.op rfl (G.cR rfl rfl rfl rfl Tryz.func90 rfl rfl may0 (cmp_tr _ _) ?_)
 refine go [1,7,8,11] ?_
 exact G.done0G rfl (Rv.tmp rfl Rv.nil) Y26
set_option maxRecDepth 20000 in
set_option maxHeartbeats 4000000 in
theorem parent_tr (s : List UInt8) (hs : s.length ≤ 9223372036854775807) : Tr Tryz.prog 72 #[.string (sB s)] [] [] (T0 (.tuple #[.string (sB (parentM s).1), .bool (parentM s).2])) := by
 refine Tr.of (l := [(0, .string (sB s))]) Tryz.func72 rfl (n := 17) rfl (.cons rfl .nil) (fun w0 hro => ?_)
 have hlast := lastM_le s s.length
 refine go [9,10,1,1,7,8,9,10,0] ?_
 refine G.op rfl (G.cR rfl rfl rfl rfl Tryz.func91 rfl rfl may0 (last_tr _ (by omega)) ?_)
 refine go [1,7,8,9,9,10,0,2,9,0] ?_
 refine G.partP (t := 9) rfl (fun h9 => ?_) (fun h9 => ?_)
 ·refine go [4,4,4,2,2,7,8,60,1,9,10,1,1,7,8,11,12] ?_
  exact G.done0G rfl (Rv.tmp rfl (Rv.tmp rfl Rv.nil)) (by unfold parentM; rw [if_neg (show ¬ (0 < lastM s s.length ∧ okP s) from fun h => by first | omega | exact absurd h.2 (by assumption))]; rfl)
 refine go [3,0] ?_
 refine G.want rfl rfl rfl (G.cR rfl rfl rfl rfl Tryz.func88 rfl rfl may0 (valid_tr _ (by omega)) ?_)
 refine go [3,15,2,2,7,8] ?_
 refine G.condP rfl (fun h13 => ?_) (fun h13 => ?_)
 ·refine go [9,10,1,1,7,8,11,12] ?_
  exact G.done0G rfl (Rv.tmp rfl (Rv.tmp rfl Rv.nil)) (by unfold parentM; rw [if_neg (show ¬ (0 < lastM s s.length ∧ okP s) from fun h => by first | omega | exact absurd h.2 (by assumption))]; rfl)
 refine go [13,8,9,10,0,0] ?_
 refine G.op rfl (G.val rfl rfl (pv_strH (k := lastM s s.length - 1) Tryz.underlying9 rfl rfl (by omega) (by omega)) ?_)
 refine go [1,1,7,8,11] ?_
 exact G.done0G rfl (Rv.tmp rfl (Rv.tmp rfl Rv.nil)) (by unfold parentM; rw [if_pos (show 0 < lastM s s.length ∧ okP s from ⟨by omega, Decidable.of_not_not (by assumption)⟩)]; rfl)
theorem cmp_ne {xs ys : List (List UInt8)} {i : Nat} (hx : i < xs.length) (hy : i < ys.length) (h : xs[i] ≠ ys[i]) : cmpL (xs.drop i) (ys.drop i) = bytesC xs[i] ys[i] := by
 rw [List.drop_eq_getElem_cons hx, List.drop_eq_getElem_cons hy]
 exact if_neg h
theorem cmp_next {xs ys : List (List UInt8)} {i : Nat} (hx : i < xs.length) (hy : i < ys.length) (h : ¬ xs[i] ≠ ys[i]) : cmpL (xs.drop i) (ys.drop i) = cmpL (xs.drop (i + 1)) (ys.drop (i + 1)) := by
 rw [List.drop_eq_getElem_cons hx, List.drop_eq_getElem_cons hy]
 exact if_pos (Decidable.of_not_not h)
theorem cmp_end {xs ys : List (List UInt8)} {i : Nat} (hx : i ≤ xs.length) (hy : i ≤ ys.length) (h : ¬ (i < xs.length ∧ i < ys.length)) : cmpL (xs.drop i) (ys.drop i) = if xs.length < ys.length then -1 else if ys.length < xs.length then 1 else 0 := by
 rcases Nat.lt_or_ge i xs.length with h1 | h1
 ·have h2 : ys.length ≤ i := by omega
  rw [List.drop_of_length_le h2, if_neg (by omega), if_pos (by omega), List.drop_eq_getElem_cons h1]
  rfl
 rw [List.drop_of_length_le h1]
 rcases Nat.lt_or_ge i ys.length with h2 | h2
 ·rw [if_pos (by omega), List.drop_eq_getElem_cons h2]
  rfl
 rw [List.drop_of_length_le h2, if_neg (by omega), if_neg (by omega)]
 rfl
theorem split_one {p : List UInt8} (h : ∀ x ∈ p, ¬ x = 47) : splitM p = [p] := by
 induction p with
 | nil => rfl
 | cons c s ih =>
  rw [splitM_char (h c (List.mem_cons_self ..)), ih fun x hx => h x (List.mem_cons_of_mem _ hx)]
  rfl
theorem headP_len {c : UInt8} {ps : List (List UInt8)} (h : ps ≠ []) : (headP c ps).length = ps.length := by
 cases ps with
 | nil => exact absurd rfl h
 | cons p r => rfl
theorem split_one' : ∀ {p : List UInt8}, (splitM p).length = 1 → ∀ x ∈ p, ¬ x = 47
 | [], _, x, hx => by cases hx
 | c :: s, h, x, hx => by
  by_cases hc : c = 47
  ·subst hc
   rw [splitM_stroke] at h
   have := splitM_pos s
   have h : (splitM s).length + 1 = 1 := h
   omega
  rw [splitM_char hc, headP_len (splitM_ne s)] at h
  rcases List.mem_cons.1 hx with rfl | hx
  ·exact hc
  exact split_one' h x hx
set_option maxRecDepth 20000 in
set_option maxHeartbeats 4000000 in
theorem compareR_tr (a b : List UInt8) (ha : a.length ≤ 9223372036854775807) (hb : b.length ≤ 9223372036854775807) : Tr Tryz.prog 75 #[.string (sB a), .string (sB b)] [] [] (T0 (.int .i64 (compareM a b))) := by
 refine Tr.of (l := [(0, .string (sB a)), (1, .string (sB b))]) Tryz.func75 rfl (n := 71) rfl (.cons rfl (.cons rfl .nil)) (fun w0 hro => ?_)
 have hla := splitM_len a
 have hlb := splitM_len b
 refine go [9,10,1,7,8,9,10,0] ?_
 refine G.op rfl (G.cR rfl rfl rfl rfl Tryz.func94 rfl rfl may0 (validR_tr _ (by omega)) ?_)
 refine go [0] ?_
 refine G.op rfl (G.cR rfl rfl rfl rfl Tryz.func94 rfl rfl may0 (validR_tr _ (by omega)) ?_)
 refine go [1,1,7,8,9,9] ?_
 refine G.cutK (X := Unit) (ts := [0, 1, 4, 5, 6]) (p := []) (fun _ => True) (fun _ => [(19, .bool (decide (¬ (checkM a).1 = 0 ∧ ¬ (checkM b).1 = 0)))]) (fun _ => []) (.cons rfl (.cons rfl (.cons rfl (.cons rfl (.cons rfl .nil))))) subT (.cons .nil) apT ?_ ?_
 ·refine go [10,0,2,15,0] ?_
  refine G.partP (t := 16) rfl (fun h16 => ?_) (fun h16 => ?_)
  ·refine go [3,0,3,15,2,2,7] ?_
   exact G.meet (()) trT (.consE rfl (congrArg Value.bool (by simp_all)) (.cons rfl (.cons rfl (.cons rfl (.cons rfl (.cons rfl .nil)))))) subT
  refine go [4,4,2,2,7] ?_
  exact G.meet (()) trT (.consE rfl (congrArg Value.bool (by simp_all)) (.cons rfl (.cons rfl (.cons rfl (.cons rfl (.cons rfl .nil)))))) subT
 intro _ hJ
 try dsimp only at hJ
 try dsimp only
 refine G.condP rfl (fun h19 => ?_) (fun h19 => ?_)
 ·refine go [9,10,0,0] ?_
  refine G.op rfl (G.cR rfl rfl rfl rfl Tryz.func95 rfl rfl may0 (bytesC_tr _ _) ?_)
  refine go [1,7,8,11,12] ?_
  exact G.done0G rfl (Rv.tmp rfl Rv.nil) Y26
 refine go [13,8,9,9,10,0,2,15,7,8] ?_
 refine G.condP rfl (fun h24 => ?_) (fun h24 => ?_)
 ·refine go [9,10,1,7,8,11,12] ?_
  exact G.done0G rfl (Rv.tmp rfl Rv.nil) Y26
 refine go [13,8,9,9,10,0,2,15,7,8] ?_
 refine G.condP rfl (fun h26 => ?_) (fun h26 => ?_)
 ·refine go [9,10,1,7,8,11,12] ?_
  exact G.done0G rfl (Rv.tmp rfl Rv.nil) Y26
 refine go [13,8,9,10] ?_
 have hal := okP_len (s := a) (by first | assumption | exact Decidable.of_not_not (by assumption))
 have hbl := okP_len (s := b) (by first | assumption | exact Decidable.of_not_not (by assumption))
 refine go [0] ?_
 refine G.op rfl (G.cS rfl rfl rfl rfl Tryz.func96 rfl rfl subT may0 (split_tr _ (by omega)) apT ?_)
 intro x28 hJ
 try dsimp only at hJ
 try dsimp only
 refine G.ownTo selT (splitM_pos _) (fun g1 cap1 sp1 hv1 hkc1 hmx1 hl1 hlen1 => ?_)
 subst hv1
 refine go [0] ?_
 refine G.op rfl (G.cS rfl rfl rfl rfl Tryz.func96 rfl rfl subT may0 (split_tr _ (by omega)) apT ?_)
 intro x30 hJ
 try dsimp only at hJ
 try dsimp only
 refine G.ownTo selT (splitM_pos _) (fun g2 cap2 sp2 hv2 hkc2 hmx2 hl2 hlen2 => ?_)
 subst hv2
 refine go [1,1,7,8,9,9,10,1,7,8,15] ?_
 have hcmp : compareM a b = cmpL (splitM a) (splitM b) := (if_pos (show okP a from by first | assumption | exact Decidable.of_not_not (by assumption))).trans (if_pos (show okP b from by first | assumption | exact Decidable.of_not_not (by assumption)))
 refine G.loopK (X := Nat) (ts := [7, 8]) (fun i => i ≤ (splitM a).length ∧ i ≤ (splitM b).length ∧ cmpL (splitM a) (splitM b) = cmpL ((splitM a).drop i) ((splitM b).drop i)) (fun i => [(9, .int .i64 (i : Int))]) (fun i => []) (fun i => (splitM a).length - i) (x0 := 0) (.cons rfl (.cons rfl .nil)) subT (.cons .nil) apT (by first | exact trivial | ((try dsimp only) <;> exact ⟨Nat.zero_le _, Nat.zero_le _, rfl⟩)) (.consE rfl veqT .nil) (fun i hJ => ?_)
 try dsimp only at hJ
 try dsimp only
 refine go [9,9] ?_
 have hJ9 := hJ
 refine G.cutK (X := Unit) (ts := [7, 8, 9]) (p := []) (fun _ => True) (fun _ => [(40, .bool (decide (i < (splitM a).length ∧ i < (splitM b).length)))]) (fun _ => []) (.cons rfl (.cons rfl (.cons rfl .nil))) subT (.cons .nil) apT ?_ ?_
 ·refine go [10,0,0,2,5,2,9,0] ?_
  refine G.partP (t := 35) rfl (fun h35 => ?_) (fun h35 => ?_)
  ·refine go [3,0,3,0,3,5,3,9,2,2,7] ?_
   exact G.meet (()) trT (.consE rfl (congrArg Value.bool (by simp_all; try omega)) (.cons rfl (.cons rfl (.cons rfl .nil)))) subT
  refine go [4,4,4,4,2,2,7] ?_
  exact G.meet (()) trT (.consE rfl (congrArg Value.bool (by simp_all; try omega)) (.cons rfl (.cons rfl (.cons rfl .nil)))) subT
 intro _ hJ
 try dsimp only at hJ
 try dsimp only
 have hJ := hJ9
 refine G.condP rfl (fun h40 => ?_) (fun h40 => ?_)
 ·refine go [13,8,9,15,9] ?_
  refine G.drawT (nn := 9) (p := []) (rem := 511) [0, 0, 3, 4, 0, 0, 48, 64, 136] [0, 0, 3, 4, 0, 0, 48, 64, 136] kr ⟨rfl, by kernel_rfl, by kernel_rfl⟩ subT kr (fun hT12 => ?_)
  refine go [22,0,510,0,22,1,508,0,22,2,504,20,1,22,4,488,0,22,5,456,0,22,6,392,20,1] ?_
  refine G.takeT hT12 (i := 3) (rem' := 384) rfl rfl rfl kr (fun _ _ _ h => h) rfl (pv_load (v := .string (sB (splitM a)[i])) Tryz.underlying9 rfl rfl (blk_cell selD (by exact rd1 (by omega)))) subT ?_
  refine go [24,7,256] ?_
  refine G.turnOp rfl rfl (G.val rfl rfl (pv_load (v := .string (sB (splitM b)[i])) Tryz.underlying9 rfl rfl (blk_cell selD (by exact rd1 (by omega)))) ?_)
  refine go [26,22,8,0,23,27,8] ?_
  refine G.condP rfl (fun h51 => ?_) (fun h51 => ?_)
  ·refine G.seq ?_
   refine G.drawT (nn := 10) (p := []) (rem := 1023) [0, 0, 3, 4, 0, 0, 48, 64, 136, 511] [0, 0, 3, 4, 0, 0, 48, 64, 136, 256] kr ⟨rfl, by kernel_rfl, by kernel_rfl⟩ subT kr (fun hT13 => ?_)
   refine go [22,0,1022,0,22,1,1020,0,22,2,1016,20,1,22,4,1000,0,22,5,968,0,22,6,904,20,1] ?_
   refine G.takeT hT13 (i := 3) (rem' := 896) rfl rfl rfl kr (fun _ _ _ h => h) rfl (pv_load (v := .string (sB (splitM a)[i])) Tryz.underlying9 rfl rfl (blk_cell selD (by exact rd1 (by omega)))) subT ?_
   refine go [24,7,768] ?_
   refine G.turnOp rfl rfl (G.val rfl rfl (pv_load (v := .string (sB (splitM b)[i])) Tryz.underlying9 rfl rfl (blk_cell selD (by exact rd1 (by omega)))) ?_)
   refine go [26,24,8,512] ?_
   refine G.turnOp rfl rfl (G.cR rfl rfl rfl rfl Tryz.func95 rfl rfl may0 (bytesC_tr _ _) ?_)
   refine go [26,22,9,0,1,27,8,11,17,12,12,17,12] ?_
   obtain ⟨hi1, hi2, hck⟩ := hJ
   exact G.done0G rfl (Rv.tmp rfl Rv.nil) (by rw [hcmp, hck, cmp_ne (by omega) (by omega) (by assumption)]; rfl)
  refine go [13,16,8,10,0,2,6,1,7] ?_
  obtain ⟨hi1, hi2, hck⟩ := hJ
  exact G.next (i + 1) (by first | exact trivial | ((try dsimp only) <;> exact ⟨by omega, by omega, hck.trans (cmp_next (by omega) (by omega) (by assumption))⟩)) (by (try dsimp only); omega) (.consE rfl veqT (.cons rfl (.cons rfl .nil))) subT
 refine go [18,14,14,19,8,9,9,10,0,2,5,0,2,5,2,9,7,8] ?_
 refine G.condP rfl (fun h65 => ?_) (fun h65 => ?_)
 ·refine go [9,10,1,7,8,11,12] ?_
  obtain ⟨hi1, hi2, hck⟩ := hJ
  have hend := cmp_end (xs := splitM a) (ys := splitM b) (i := i) hi1 hi2 (by assumption)
  exact G.done0G rfl (Rv.tmp rfl Rv.nil) (by rw [hcmp, hck, hend, if_pos (by omega)]; rfl)
 refine go [13,8,9,9,10,0,2,5,0,2,5,2,10,7,8] ?_
 refine G.condP rfl (fun h70 => ?_) (fun h70 => ?_)
 ·refine go [9,10,1,7,8,11,12] ?_
  obtain ⟨hi1, hi2, hck⟩ := hJ
  have hend := cmp_end (xs := splitM a) (ys := splitM b) (i := i) hi1 hi2 (by assumption)
  exact G.done0G rfl (Rv.tmp rfl Rv.nil) (by rw [hcmp, hck, hend, if_neg (by omega), if_pos (by omega)]; rfl)
 refine go [13,8,9,10,1,7,8,11] ?_
 obtain ⟨hi1, hi2, hck⟩ := hJ
 have hend := cmp_end (xs := splitM a) (ys := splitM b) (i := i) hi1 hi2 (by assumption)
 exact G.done0G rfl (Rv.tmp rfl Rv.nil) (by rw [hcmp, hck, hend, if_neg (by omega), if_neg (by omega)]; rfl)
theorem bl_irrefl : ∀ a, Op.bytesLess a a = false
 | [] => rfl
 | a :: x => by
  have h := bl_irrefl x
  simp [Op.bytesLess, h]
theorem bl_cons {a b : UInt8} {x y : List UInt8} : Op.bytesLess (a :: x) (b :: y) = true ↔ a.toNat < b.toNat ∨ (a = b ∧ Op.bytesLess x y = true) := by
 simp only [Op.bytesLess, Bool.or_eq_true, decide_eq_true_eq, Bool.and_eq_true, beq_iff_eq, UInt8.lt_iff_toNat_lt]
theorem bl_asymm : ∀ a b, Op.bytesLess a b = true → Op.bytesLess b a = true → False
 | a, [], h, _ => by cases a <;> cases h
 | [], b :: y, _, h => by cases h
 | a :: x, b :: y, h, k => by
  rcases bl_cons.1 h with h | ⟨rfl, h2⟩
  ·rcases bl_cons.1 k with k | ⟨rfl, k⟩
   ·omega
   omega
  rcases bl_cons.1 k with k | ⟨_, k2⟩
  ·omega
  exact bl_asymm x y h2 k2
theorem bl_trans : ∀ a b c, Op.bytesLess a b = true → Op.bytesLess b c = true → Op.bytesLess a c = true
 | a, [], c, h, _ => by cases a <;> cases h
 | a, b :: y, [], _, k => by cases k
 | [], b :: y, c :: z, _, _ => rfl
 | a :: x, b :: y, c :: z, h, k => by
  refine bl_cons.2 ?_
  rcases bl_cons.1 h with h1 | ⟨rfl, h2⟩
  ·rcases bl_cons.1 k with k1 | ⟨rfl, k2⟩
   ·exact .inl (by omega)
   exact .inl h1
  rcases bl_cons.1 k with k1 | ⟨rfl, k2⟩
  ·exact .inl k1
  exact .inr ⟨rfl, bl_trans x y z h2 k2⟩
theorem bl_total : ∀ a b, Op.bytesLess a b = false → Op.bytesLess b a = false → a = b
 | [], [], _, _ => rfl
 | [], b :: y, h, _ => by cases h
 | a :: x, [], _, h => by cases h
 | a :: x, b :: y, h, k => by
  have h' : ¬ (a.toNat < b.toNat ∨ (a = b ∧ Op.bytesLess x y = true)) := fun e => by rw [bl_cons.2 e] at h; cases h
  have k' : ¬ (b.toNat < a.toNat ∨ (b = a ∧ Op.bytesLess y x = true)) := fun e => by rw [bl_cons.2 e] at k; cases k
  have e : a = b := UInt8.toNat_inj.1 (by omega)
  subst e
  have h2 : Op.bytesLess x y = false := by
   cases hh : Op.bytesLess x y with
   | false => rfl
   | true => exact absurd (.inr ⟨rfl, hh⟩) h'
  have k2 : Op.bytesLess y x = false := by
   cases hh : Op.bytesLess y x with
   | false => rfl
   | true => exact absurd (.inr ⟨rfl, hh⟩) k'
  rw [bl_total x y h2 k2]
structure OrdF {α : Type} (f : α → α → Int) : Prop where
 rng : ∀ a b, f a b = -1 ∨ f a b = 0 ∨ f a b = 1
 zero : ∀ a b, f a b = 0 ↔ a = b
 anti : ∀ a b, f b a = - f a b
 trans : ∀ a b c, f a b = -1 → f b c = -1 → f a c = -1
theorem bytesM_neg {a b : List UInt8} : bytesC a b = -1 ↔ Op.bytesLess a b = true := by
 unfold bytesC
 cases h : Op.bytesLess a b <;> simp
 by_cases e : a = b <;> simp [e]
theorem bytesM_eq {a b : List UInt8} (h : Op.bytesLess a b = false) : bytesC a b = if a = b then 0 else 1 := by
 unfold bytesC
 rw [h]
 by_cases e : a = b <;> simp [e]
theorem bytesM_ord : OrdF bytesC where
 rng a b := by
  cases h : Op.bytesLess a b with
  | true => exact .inl (bytesM_neg.2 h)
  | false =>
   rw [bytesM_eq h]
   by_cases e : a = b <;> simp [e]
 zero a b := by
  cases h : Op.bytesLess a b with
  | true =>
   rw [bytesM_neg.2 h]
   constructor
   ·intro h; cases h
   rintro rfl
   rw [bl_irrefl] at h
   cases h
  | false =>
   rw [bytesM_eq h]
   by_cases e : a = b <;> simp [e]
 anti a b := by
  cases h : Op.bytesLess a b with
  | true =>
   have h2 : Op.bytesLess b a = false := by
    cases k : Op.bytesLess b a with
    | false => rfl
    | true => exact (bl_asymm _ _ h k).elim
   have h3 : ¬ b = a := fun e => by
    subst e
    rw [bl_irrefl] at h
    cases h
   rw [bytesM_neg.2 h, bytesM_eq h2, if_neg h3]
   rfl
  | false =>
   cases k : Op.bytesLess b a with
   | true =>
    have h3 : ¬ a = b := fun e => by
     subst e
     rw [bl_irrefl] at k
     cases k
    rw [bytesM_neg.2 k, bytesM_eq h, if_neg h3]
   | false =>
    have := bl_total _ _ h k
    subst this
    rw [bytesM_eq h, if_pos rfl]
    rfl
 trans a b c h k := bytesM_neg.2 (bl_trans _ _ _ (bytesM_neg.1 h) (bytesM_neg.1 k))
theorem OrdF.self {α : Type} {f : α → α → Int} (h : OrdF f) (a : α) : f a a = 0 := (h.zero a a).2 rfl
theorem cmpL_cons_eq {x : List UInt8} {xs ys : List (List UInt8)} : cmpL (x :: xs) (x :: ys) = cmpL xs ys := if_pos rfl
theorem cmpL_cons_ne {x y : List UInt8} {xs ys : List (List UInt8)} (h : ¬ x = y) : cmpL (x :: xs) (y :: ys) = bytesC x y := if_neg h
theorem cmpL_rng : ∀ a b, cmpL a b = -1 ∨ cmpL a b = 0 ∨ cmpL a b = 1
 | [], [] => .inr (.inl rfl)
 | [], _ :: _ => .inl rfl
 | _ :: _, [] => .inr (.inr rfl)
 | x :: xs, y :: ys => by
  by_cases h : x = y
  ·subst h
   rw [cmpL_cons_eq]
   exact cmpL_rng xs ys
  rw [cmpL_cons_ne h]
  exact bytesM_ord.rng x y
theorem cmpL_zero : ∀ a b, cmpL a b = 0 ↔ a = b
 | [], [] => ⟨fun _ => rfl, fun _ => rfl⟩
 | [], _ :: _ => ⟨fun h => (by cases h), fun h => (by cases h)⟩
 | _ :: _, [] => ⟨fun h => (by cases h), fun h => (by cases h)⟩
 | x :: xs, y :: ys => by
  by_cases h : x = y
  ·subst h
   rw [cmpL_cons_eq, cmpL_zero xs ys]
   simp
  rw [cmpL_cons_ne h, bytesM_ord.zero]
  simp [h]
theorem cmpL_anti : ∀ a b, cmpL b a = - cmpL a b
 | [], [] => rfl
 | [], _ :: _ => rfl
 | _ :: _, [] => rfl
 | x :: xs, y :: ys => by
  by_cases h : x = y
  ·subst h
   rw [cmpL_cons_eq, cmpL_cons_eq]
   exact cmpL_anti xs ys
  rw [cmpL_cons_ne h, cmpL_cons_ne (fun e => h e.symm)]
  exact bytesM_ord.anti x y
theorem cmpL_trans : ∀ a b c, cmpL a b = -1 → cmpL b c = -1 → cmpL a c = -1
 | [], [], _, h, _ => by cases h
 | _ :: _, [], _, h, _ => by cases h
 | _, _ :: _, [], _, k => by cases k
 | [], _ :: _, _ :: _, _, _ => rfl
 | x :: xs, y :: ys, z :: zs, h, k => by
  by_cases e : x = y
  ·subst e
   rw [cmpL_cons_eq] at h
   by_cases e2 : x = z
   ·subst e2
    rw [cmpL_cons_eq] at k ⊢
    exact cmpL_trans xs ys zs h k
   rw [cmpL_cons_ne e2] at k ⊢
   exact k
  rw [cmpL_cons_ne e] at h
  by_cases e2 : y = z
  ·subst e2
   rw [cmpL_cons_ne e]
   exact h
  rw [cmpL_cons_ne e2] at k
  have h3 := bytesM_ord.trans x y z h k
  have e3 : ¬ x = z := fun e => by
   subst e
   rw [bytesM_ord.self] at h3
   cases h3
  rw [cmpL_cons_ne e3]
  exact h3
def joinL : List (List UInt8) → List UInt8
 | [] => []
 | [p] => p
 | p :: q :: r => p ++ 47 :: joinL (q :: r)
theorem joinL_cons {p : List UInt8} {r : List (List UInt8)} (h : r ≠ []) : joinL (p :: r) = p ++ 47 :: joinL r := by
 cases r with
 | nil => exact absurd rfl h
 | cons q r => rfl
theorem joinL_head {c : UInt8} {ps : List (List UInt8)} (h : ps ≠ []) : joinL (headP c ps) = c :: joinL ps := by
 cases ps with
 | nil => exact absurd rfl h
 | cons p r => cases r <;> rfl
theorem joinL_split : ∀ s, joinL (splitM s) = s
 | [] => rfl
 | c :: s => by
  have ih := joinL_split s
  by_cases h : c = 47
  ·subst h
   rw [splitM_stroke, joinL_cons (splitM_ne s), ih]
   rfl
  rw [splitM_char h, joinL_head (splitM_ne s), ih]
theorem split_inj {a b : List UInt8} (h : splitM a = splitM b) : a = b := by
 rw [← joinL_split a, h, joinL_split]
theorem split_app : ∀ d t, splitM (d ++ 47 :: t) = splitM d ++ splitM t
 | [], t => splitM_stroke t
 | c :: d, t => by
  have ih := split_app d t
  rw [List.cons_append]
  by_cases h : c = 47
  ·subst h
   rw [splitM_stroke, splitM_stroke, ih]
   rfl
  rw [splitM_char h, splitM_char h, ih]
  cases e : splitM d with
  | nil => exact absurd e (splitM_ne d)
  | cons p r => rfl
theorem joinL_app : ∀ {a b : List (List UInt8)}, a ≠ [] → b ≠ [] → joinL (a ++ b) = joinL a ++ 47 :: joinL b
 | [], _, h, _ => absurd rfl h
 | [p], b, _, hb => joinL_cons hb
 | p :: q :: r, b, _, hb => by
  have ih := joinL_app (a := q :: r) (b := b) (by simp) hb
  show p ++ 47 :: joinL (q :: r ++ b) = _
  rw [ih]
  show _ = (p ++ 47 :: joinL (q :: r)) ++ 47 :: joinL b
  simp
theorem last_at {a p : List UInt8} (hp : ∀ x ∈ p, ¬ x = 47) (ha : a = [] ∨ ∃ a', a = a' ++ [47]) : ∀ k, a.length ≤ k → k ≤ (a ++ p).length → lastM (a ++ p) k = a.length
 | 0, h, _ => by
  unfold lastM
  omega
 | k + 1, h, h2 => by
  rw [lastM.eq_2]
  by_cases e : a.length = k + 1
  ·rcases ha with rfl | ⟨a', rfl⟩
   ·simp at e
   have e2 : a'.length = k := by simpa using e
   rw [if_pos]
   ·exact e.symm
   rw [List.getElem?_append_left (by omega), List.getElem?_append_right (by omega), e2]
   simp
  have hk : k - a.length < p.length := by
   simp at h2
   omega
  rw [if_neg, last_at hp ha k (by omega) (by omega)]
  rw [List.getElem?_append_right (by omega), List.getElem?_eq_getElem hk]
  intro e3
  injection e3 with e3
  exact hp _ (List.getElem_mem hk) e3
theorem last_none {s p : List UInt8} (h : splitM s = [p]) : lastM s s.length = 0 ∧ s = p := by
 have e : s = p := by
  have := joinL_split s
  rw [h] at this
  exact this.symm
 subst e
 exact ⟨last_at (a := []) (split_one' (by rw [h]; rfl)) (.inl rfl) s.length (Nat.zero_le _) (Nat.le_refl _), rfl⟩
theorem last_some {s p : List UInt8} {ini : List (List UInt8)} (h : splitM s = ini ++ [p]) (hi : ini ≠ []) : s = joinL ini ++ 47 :: p ∧ lastM s s.length = (joinL ini).length + 1 ∧ splitM (joinL ini) = ini := by
 have e : s = joinL ini ++ 47 :: p := by
  have := joinL_app hi (b := [p]) (by simp)
  rw [← h, joinL_split] at this
  exact this
 have hno : ∀ x ∈ p, ¬ x = 47 := splitM_no s p (by rw [h]; simp)
 refine ⟨e, ?_, ?_⟩
 ·have := last_at (a := joinL ini ++ [47]) hno (.inr ⟨_, rfl⟩) (joinL ini ++ [47] ++ p).length (by simp) (Nat.le_refl _)
  have e2 : joinL ini ++ [47] ++ p = s := by rw [e]; simp
  rw [e2] at this
  rw [this]
  simp
 have e3 := split_app (joinL ini) p
 rw [← e, split_one hno, h] at e3
 exact (List.append_inj' e3 rfl).1.symm
theorem parent_some {s p : List UInt8} {ini : List (List UInt8)} (hs : okP s) (h : splitM s = ini ++ [p]) (hi : ini ≠ []) : parentM s = (joinL ini, true) := by
 obtain ⟨e, e2, _⟩ := last_some h hi
 unfold parentM
 rw [if_pos ⟨by omega, hs⟩, e2, Nat.add_sub_cancel]
 congr 1
 conv => lhs; rw [e]
 simp
theorem parent_none {s p : List UInt8} (h : splitM s = [p]) : parentM s = ([], false) := by
 unfold parentM
 rw [if_neg (fun h2 => by rw [(last_none h).1] at h2; omega)]
theorem parentM_len (s : List UInt8) : (parentM s).1.length ≤ s.length := by
 unfold parentM
 split
 ·simp
  omega
 simp
theorem compareM_ok {a b : List UInt8} (ha : okP a) (hb : okP b) : compareM a b = cmpL (splitM a) (splitM b) := (if_pos ha).trans (if_pos hb)
theorem compareM_l {a b : List UInt8} (ha : okP a) (hb : ¬ okP b) : compareM a b = 1 := (if_pos ha).trans (if_neg hb)
theorem compareM_r {a b : List UInt8} (ha : ¬ okP a) (hb : okP b) : compareM a b = -1 := (if_neg ha).trans (if_pos hb)
theorem compareM_no {a b : List UInt8} (ha : ¬ okP a) (hb : ¬ okP b) : compareM a b = bytesC a b := (if_neg ha).trans (if_neg hb)
theorem compareM_ord : OrdF compareM where
 rng a b := by
  by_cases ha : okP a <;> by_cases hb : okP b
  ·rw [compareM_ok ha hb]; exact cmpL_rng _ _
  ·rw [compareM_l ha hb]; simp
  ·rw [compareM_r ha hb]; simp
  rw [compareM_no ha hb]; exact bytesM_ord.rng _ _
 zero a b := by
  by_cases ha : okP a <;> by_cases hb : okP b
  ·rw [compareM_ok ha hb, cmpL_zero]
   exact ⟨split_inj, fun h => by rw [h]⟩
  ·rw [compareM_l ha hb]
   exact ⟨fun h => (by cases h), fun h => absurd (h ▸ ha) hb⟩
  ·rw [compareM_r ha hb]
   exact ⟨fun h => (by cases h), fun h => absurd (h ▸ hb) ha⟩
  rw [compareM_no ha hb]; exact bytesM_ord.zero _ _
 anti a b := by
  by_cases ha : okP a <;> by_cases hb : okP b
  ·rw [compareM_ok ha hb, compareM_ok hb ha]; exact cmpL_anti _ _
  ·rw [compareM_l ha hb, compareM_r hb ha]
  ·rw [compareM_r ha hb, compareM_l hb ha]; rfl
  rw [compareM_no ha hb, compareM_no hb ha]; exact bytesM_ord.anti _ _
 trans a b c h k := by
  by_cases ha : okP a
  ·by_cases hb : okP b
   ·rw [compareM_ok ha hb] at h
    by_cases hc : okP c
    ·rw [compareM_ok hb hc] at k
     rw [compareM_ok ha hc]
     exact cmpL_trans _ _ _ h k
    rw [compareM_l hb hc] at k
    cases k
   rw [compareM_l ha hb] at h
   cases h
  by_cases hc : okP c
  ·exact compareM_r ha hc
  by_cases hb : okP b
  ·rw [compareM_l hb hc] at k
   cases k
  rw [compareM_no ha hb] at h
  rw [compareM_no hb hc] at k
  rw [compareM_no ha hc]
  exact bytesM_ord.trans _ _ _ h k
def partsM (s : List UInt8) : List (List UInt8) := if okP s then splitM s else []
theorem parent_ref {s : List UInt8} (hs : okP s) (h : 1 < (splitM s).length) : parentM s = (s.take (s.length - ((splitM s)[(splitM s).length - 1]'(by omega)).length - 1), true) ∧ ((splitM s)[(splitM s).length - 1]'(by omega)).length + 1 ≤ s.length := by
 obtain ⟨ini, p, e⟩ := splitM_last s
 have hi : ini ≠ [] := fun h0 => by
  subst h0
  rw [e] at h
  simp at h
 have e2 : (splitM s)[(splitM s).length - 1]'(by omega) = p := by
  have : ∀ (l : List (List UInt8)) (h : l = ini ++ [p]) (hl : l.length - 1 < l.length), l[l.length - 1] = p := by
   rintro l rfl hl
   simp
  exact this _ e (by omega)
 obtain ⟨h1, h2, h3⟩ := last_some e hi
 have hlen : s.length = (joinL ini).length + 1 + p.length := by
  conv => lhs; rw [h1]
  simp
  omega
 refine ⟨?_, by rw [e2]; omega⟩
 rw [parent_some hs e hi]
 congr 1
 rw [e2, show s.length - p.length - 1 = (joinL ini).length by omega]
 conv => rhs; rw [h1]
 simp
theorem parent_one {s : List UInt8} (h : ¬ (1 < (partsM s).length)) : parentM s = ([], false) := by
 unfold partsM at h
 by_cases hs : okP s
 ·rw [if_pos hs] at h
  have := splitM_pos s
  obtain ⟨ini, p, e⟩ := splitM_last s
  have hi : ini = [] := by
   rw [e] at h
   simp at h
   exact h
  subst hi
  exact parent_none e
 unfold parentM
 rw [if_neg (fun h => hs h.2)]
set_option maxRecDepth 20000 in
set_option maxHeartbeats 4000000 in
theorem partsR_tr (s : List UInt8) (hs : s.length ≤ 9223372036854775807) : Tr Tryz.prog 119 #[.string (sB s)] [] [] (TX (fun _ : Value => True) (fun v => v) (fun v => [own 9 1 v (partsM s).length ((partsM s).map vStr)])) := by
 refine Tr.of (l := [(0, .string (sB s))]) Tryz.func119 rfl (n := 8) rfl (.cons rfl .nil) (fun w0 hro => ?_)
 refine go [9,10,1,7,8,9,9,10,0] ?_
 refine G.op rfl (G.cR rfl rfl rfl rfl Tryz.func94 rfl rfl may0 (validR_tr _ (by omega)) ?_)
 refine go [2,15,7,8] ?_
 refine G.condP rfl (fun h5 => ?_) (fun h5 => ?_)
 ·refine go [9,10,1,7,8,11,12] ?_
  rw [show partsM s = [] from if_neg (show ¬ okP s from by assumption)]
  refine G.ownNil 9 1 ?_
  exact G.doneX1 (.slice none 0 0) trT rfl rfl rfl subT
 refine go [13,8,9,10,0] ?_
 refine G.op rfl (G.cS rfl rfl rfl rfl Tryz.func96 rfl rfl subT may0 (split_tr s (by have := okP_len (s := s) (Decidable.of_not_not (by assumption)); omega)) apT ?_)
 intro x7 hJ
 try dsimp only at hJ
 try dsimp only
 refine go [1,7,8,11] ?_
 rw [show partsM s = splitM s from if_pos (show okP s from Decidable.of_not_not (by assumption))]
 exact G.doneX1 (x7) trT rfl rfl rfl subT
set_option maxRecDepth 20000 in
set_option maxHeartbeats 4000000 in
theorem parentR_tr (s : List UInt8) (hs : s.length ≤ 9223372036854775807) : Tr Tryz.prog 97 #[.string (sB s)] [] [] (T0 (.tuple #[.string (sB (parentM s).1), .bool (parentM s).2])) := by
 refine Tr.of (l := [(0, .string (sB s))]) Tryz.func97 rfl (n := 23) rfl (.cons rfl .nil) (fun w0 hro => ?_)
 refine go [9,10,1,1,7,8,9,10,0] ?_
 refine G.op rfl (G.cS rfl rfl rfl rfl Tryz.func119 rfl rfl subT may0 (partsR_tr _ (by omega)) apT ?_)
 intro x6 hJ
 try dsimp only at hJ
 try dsimp only
 refine G.ownOpen (v := x6) selT (fun ad cap hv hk hm => ?_)
 have hv' := hv
 refine go [1,7,8,9,9,10,0] ?_
 rw [hv]
 refine go [2,5,2,9,7,8] ?_
 refine G.condP rfl (fun h9 => ?_) (fun h9 => ?_)
 ·refine go [9,10,1,1,7,8,11,12] ?_
  exact G.done0G rfl (Rv.tmp rfl (Rv.tmp rfl Rv.nil)) (by rw [parent_one (by omega)]; rfl)
 have h1 : 1 < (partsM s).length := by omega
 have hok : okP s := Decidable.of_not_not fun h => by rw [show partsM s = [] from if_neg h] at h1; simp at h1
 have hps : partsM s = splitM s := if_pos hok
 rw [hps] at h1 hk ⊢
 rw [hps] at hv
 rw [← hv]
 obtain ⟨hpr, hpl⟩ := parent_ref hok h1
 have hlen := splitM_len s
 have hs2 := okP_len hok
 refine G.ownTo selT (by omega) (fun g cap2 sp hv2 hkc hmx hl hlen2 => ?_)
 rw [hv2]
 refine go [13,8,9,10,0,0,2,21,0,0,2,5,2,19] ?_
 refine G.op rfl (G.val rfl rfl (pv_ixSl (sz := 1) (k := (splitM s).length - 1) Tryz.underlying136 kr rfl rfl (fun _ => rfl) (by omega) (by omega)) ?_)
 refine G.op rfl (G.val rfl rfl (pv_load (v := .string (sB ((splitM s)[(splitM s).length - 1]'(by omega)))) Tryz.underlying9 rfl rfl (blk_cell selD (by exact rd1 (by omega)))) ?_)
 refine go [2,21,2,19,2,19] ?_
 refine G.op rfl (G.val rfl rfl (pv_strH (k := s.length - ((splitM s)[(splitM s).length - 1]'(by omega)).length - 1) Tryz.underlying9 rfl rfl (by omega) (by omega)) ?_)
 refine go [1,1,7,8,11] ?_
 exact G.done0G rfl (Rv.tmp rfl (Rv.tmp rfl Rv.nil)) (by rw [hpr]; rfl)
theorem Tryz.infoByte : (Tryz.prog.info? 5).map (fun i => (i.zero, i.size, i.bytes)) = some (some (.int .u8 0), 1, 1) := by kernel_rfl
theorem Tryz.sizeByte : (Tryz.prog.info? 5).map (·.size) = some 1 := by kernel_rfl
set_option maxRecDepth 20000 in
theorem same_tr {Pv Pu : Nat → Prop} (v u : Value) (a b : List UInt8) : Tr Tryz.prog 43 #[v, u] [slc rByte Pv v a, slc rByte Pu u b] [] (T0 (.bool (decide (a = b)))) := by
 refine Tr.of (l := [(0, v), (1, u)]) Tryz.func43 rfl (n := 10) rfl (.cons rfl (.cons rfl .nil)) (fun w0 hro => ?_)
 obtain ⟨hv, hu⟩ := ro2 hro
 refine go [9,10,1,7,8,9,10,0] ?_
 refine G.op rfl (G.val rfl rfl (pv_toStr Tryz.underlying67 Tryz.underlying5 Tryz.underlying9 rfl (by first | exact ro_sl (by assumption) | assumption)) ?_)
 refine go [0] ?_
 refine G.op rfl (G.val rfl rfl (pv_toStr Tryz.underlying67 Tryz.underlying5 Tryz.underlying9 rfl (by first | exact ro_sl (by assumption) | assumption)) ?_)
 refine go [2,24,1,7,8,11] ?_
 exact G.done1 rfl rfl .nil ⟨rfl, rfl⟩
theorem xor90 (x : UInt8) : bits .xor .u8 (x.toNat : Int) 90 = ((x ^^^ 90).toNat : Int) := by
 have : ∀ a : Fin 256, bits .xor .u8 (a.val : Int) 90 = (((UInt8.ofNat a.val) ^^^ 90).toNat : Int) := by decide +kernel
 have h := this ⟨x.toNat, x.toNat_lt⟩
 simpa using h
set_option maxRecDepth 20000 in
theorem over_tr (b len cap : Nat) (a : List UInt8) (hc : a.length = cap) (hm : cap ≤ 9223372036854775807) (hl : len ≤ cap) : Tr Tryz.prog 44 #[.slice (some ⟨b, 0, none⟩) len cap] [] [blk b 5 (a.map vByte)] (TX (fun a' : List UInt8 => a'.length = cap) (fun _ => .tuple #[]) (fun a' => [blk b 5 (a'.map vByte)])) := by
 refine Tr.of (l := [(0, .slice (some ⟨b, 0, none⟩) len cap)]) Tryz.func44 rfl (n := 22) rfl (.cons rfl .nil) (fun w0 hro => ?_)
 refine go [9,10,0,0] ?_
 refine G.op rfl (G.val rfl rfl (pv_capSl Tryz.underlying67 rfl) ?_)
 refine G.op rfl (G.val rfl rfl (pv_subH (sz := 1) (k := cap) Tryz.underlying67 Tryz.sizeByte rfl rfl rfl (Nat.le_refl _)) ?_)
 refine go [1,7,8,9,10,1,7,8,15] ?_
 refine G.loop (X := Nat × List UInt8) (fun (k, a') => k ≤ cap ∧ a'.length = cap) (fun (k, a') => [(2, .slice (some ⟨b, 0, none⟩) cap cap), (3, .int .i64 k)]) (fun (k, a') => [blk b 5 (a'.map vByte)]) (fun (k, a') => cap - k) (x0 := (0, a)) (⟨Nat.zero_le _, hc⟩) (.consE rfl veqT (.consE rfl veqT .nil)) (.cons selT .nil) (fun ⟨k, a'⟩ hJ => ?_)
 show G _ _ _ [(2, .slice (some ⟨b, 0, none⟩) cap cap), (3, .int .i64 k)] [blk b 5 (a'.map vByte)] _
 obtain ⟨hk, hlen⟩ := hJ
 refine go [9,9,10,0,0,2,5,2,9,7,8] ?_
 refine G.condP rfl (fun h11 => ?_) (fun h11 => ?_)
 ·have hk' : k < a'.length := by omega
  refine go [13,8,9,15,10,0,0,0,0] ?_
  refine G.op rfl (G.val rfl rfl (pv_ixSl (sz := 1) (k := k) Tryz.underlying67 Tryz.sizeByte rfl rfl (fun _ => rfl) rfl (by omega)) ?_)
  refine G.op rfl (G.val rfl rfl (pv_load (v := vByte a'[k]) Tryz.underlying5 rfl rfl (blk_cell (o := 0 + k * 1) .here (by simp [hk']))) ?_)
  refine G.op rfl (G.val rfl rfl ((pv_xor rfl rfl).int (xor90 a'[k])) ?_)
  refine G.op rfl (G.val rfl rfl (pv_ixSl (sz := 1) (k := k) Tryz.underlying67 Tryz.sizeByte rfl rfl (fun _ => rfl) rfl (by omega)) ?_)
  refine G.op rfl (G.store (o := k) Tryz.sizeByte (by simp [ev, Fr.get]) rfl rfl .here (by simp; omega) ?_)
  refine go [7,16,8,10,0,2,6,1,7] ?_
  exact G.next ((k + 1, a'.set k (a'[k] ^^^ 0x5A))) (by exact ⟨by omega, by simpa using hlen⟩) (by dsimp only; omega) (.consE rfl veqT (.consE rfl veqT .nil)) (.cons (by rw [List.map_set]; exact .here) .nil)
 refine go [18,14,14,19] ?_
 exact G.doneE (m' := [blk b 5 (a'.map vByte)]) rfl (.cons .here .nil) ⟨a', hlen, rfl, rfl⟩
set_option maxRecDepth 100000
structure En where
 path : List UInt8
 kind : Int
 mode : Int
 data : List UInt8
 to : List UInt8
abbrev ET := En × Value
def evC (x : ET) : List Value := [vStr x.1.path, vInt x.1.kind, vInt x.1.mode, x.2, vStr x.1.to]
def EnOk (e : En) : Prop := I64 e.kind ∧ I64 e.mode ∧ e.path.length ≤ 140737488355328 ∧ e.data.length ≤ 140737488355328 ∧ e.to.length ≤ 140737488355328
theorem rangeAt_loc {w w' : World} {b o : Nat} {cs : List Value} (h : w'.heap[b]? = w.heap[b]?) (hw : w.rangeAt b o cs) : w'.rangeAt b o cs := fun j v hj => (World.cell?_of_block h).trans (hw j v hj)
def rEV : Rdr ET where
 sz := 5
 R := fun Ps w b o x => Ps b ∧ w.rangeAt b o (evC x) ∧ IsSl rByte Ps w x.2 x.1.data ∧ EnOk x.1
 loc := fun h ⟨h1, h2, h3, h4⟩ => ⟨h1, rangeAt_loc (h _ h1) h2, h3.loc h, h4⟩
 mono := fun h ⟨h1, h2, h3, h4⟩ => ⟨h _ h1, h2, h3.mono h, h4⟩
def flatT (xs : List ET) : List Value := xs.flatMap evC
theorem evC_length (x : ET) : (evC x).length = 5 := rfl
theorem flatT_length (xs : List ET) : (flatT xs).length = xs.length * 5 := flatMap_length evC 5 evC_length xs
theorem flatT_get {xs : List ET} {i j : Nat} (hi : i < xs.length) (hj : j < 5) : (flatT xs)[i * 5 + j]? = (evC xs[i])[j]? := flatMap_get evC 5 evC_length xs i j hi hj
theorem flatT_app (xs ys : List ET) : flatT (xs ++ ys) = flatT xs ++ flatT ys := List.flatMap_append ..
theorem flatT_one (x : ET) : flatT [x] = evC x := by simp [flatT]
def ens (xs : List ET) : List En := xs.map (·.1)
theorem ens_length (xs : List ET) : (ens xs).length = xs.length := List.length_map ..
theorem ens_get {xs : List ET} {i : Nat} (h : i < xs.length) : (ens xs)[i]'(by rw [ens_length]; exact h) = xs[i].1 := List.getElem_map ..
theorem flat_at {xs : List ET} {sp : List Value} {i : Nat} (h : i < xs.length) (j : Nat) (hj : j < 5) : (flatT xs ++ sp)[0 + i * 5 + j]? = (evC xs[i])[j]? := by
 rw [List.getElem?_append_left (by rw [flatT_length]; omega), show 0 + i * 5 + j = i * 5 + j by omega]
 exact flatT_get h hj
theorem flat_set {xs : List ET} {sp : List Value} {i : Nat} (h : i < xs.length) (d : Value) : (flatT xs ++ sp).set (0 + i * 5 + 3) d = flatT (xs.set i (xs[i].1, d)) ++ sp := by
 have hl : (flatT (xs.set i (xs[i].1, d))).length = xs.length * 5 := by rw [flatT_length, List.length_set]
 apply List.ext_getElem?
 intro j
 rcases Nat.lt_or_ge j (xs.length * 5) with hj | hj
 ·obtain ⟨q, r, rfl, hr, hq⟩ : ∃ q r, j = q * 5 + r ∧ r < 5 ∧ q < xs.length := ⟨j / 5, j % 5, by omega, by omega, by omega⟩
  rw [List.getElem?_append_left (by rw [hl]; omega), flatT_get (by rw [List.length_set]; exact hq) hr]
  by_cases hiq : i = q
  ·subst hiq
   rw [List.getElem_set_self]
   by_cases hr3 : r = 3
   ·subst hr3
    rw [show 0 + i * 5 + 3 = i * 5 + 3 by omega, List.getElem?_set_self (by rw [List.length_append, flatT_length]; omega)]
    rfl
   rw [List.getElem?_set_ne (by omega), List.getElem?_append_left (by rw [flatT_length]; omega), flatT_get hq hr]
   have : r = 0 ∨ r = 1 ∨ r = 2 ∨ r = 4 := by omega
   rcases this with rfl | rfl | rfl | rfl <;> rfl
  rw [List.getElem_set_ne hiq, List.getElem?_set_ne (by omega), List.getElem?_append_left (by rw [flatT_length]; omega), flatT_get hq hr]
 rw [List.getElem?_set_ne (by omega), List.getElem?_append_right (by rw [flatT_length]; omega), List.getElem?_append_right (by rw [hl]; omega), flatT_length, hl]
def ownT (e : TypeId) (v : Value) (xs : List ET) : Ck := own e 5 v xs.length (flatT xs)
def datC (e : TypeId) (xs : List ET) : Ck := star (xs.map fun x => ownB e x.2 x.1.data)
section
variable {P : Program} {n : Nat} {w0 : World} {S : Nat → Prop} {l : Fr} {m : List Ck} {Q : Exit → Act → World → Prop} {K : Act → World → Prop}
theorem Ro.openT {Ps : Nat → Prop} {v : Value} {xs : List ET} (h : Ro w0 S (slc rEV Ps v xs)) : ∃ ad cap b off, v = .slice ad xs.length cap ∧ xs.length ≤ cap ∧ cap ≤ 9223372036854775807 ∧ (ad = none → cap = 0) ∧ (0 < xs.length → ad = some ⟨b, off, none⟩) ∧ ∀ i (hi : i < xs.length), Ro w0 S (elc rEV Ps b (off + i * 5) xs[i]) := h.open
theorem Ro.evRng {Ps : Nat → Prop} {b o : Nat} {x : ET} (h : Ro w0 S (elc rEV Ps b o x)) : Ro w0 S (rng b o [.string (sB x.1.path), .int .i64 x.1.kind, .int .i64 x.1.mode, x.2, .string (sB x.1.to)]) :=
 ⟨h.1.2.1, fun k hk => h.2 k Y30⟩
theorem Ro.evDat {Ps : Nat → Prop} {b o : Nat} {x : ET} (h : Ro w0 S (elc rEV Ps b o x)) : Ro w0 S (slc rByte Ps x.2 x.1.data) := ⟨h.1.2.2.1, h.2⟩
theorem Ro.evOk {Ps : Nat → Prop} {b o : Nat} {x : ET} (h : Ro w0 S (elc rEV Ps b o x)) : EnOk x.1 := h.1.2.2.2
theorem Ro.slv {α : Type} {E : Rdr α} {Ps : Nat → Prop} {v : Value} {xs : List α} (h : Ro w0 S (slc E Ps v xs)) : ∃ ad cap, v = .slice ad xs.length cap := by
 obtain ⟨⟨ad, cap, b, off, e, _⟩, _⟩ := h
 exact ⟨ad, cap, e⟩
theorem ownT_sl {e : TypeId} {v : Value} {xs : List ET} {w : World} {Ps : Nat → Prop} (h : w.ownsRow 0 e 5 v xs.length (flatT xs)) (hP : ∀ b, v.ownBlock = some b → Ps b) (hok : ∀ x ∈ xs, EnOk x.1) (hd : ∀ x ∈ xs, IsSl rByte Ps w x.2 x.1.data) : IsSl rEV Ps w v xs := by
 obtain ⟨ad, cap, b, hv, had, hnil, hnw⟩ := own_news h
 obtain ⟨h1, h2⟩ := h
 have hb : xs.length ≤ cap ∧ cap ≤ 9223372036854775807 := by
  rcases h2 with ⟨rfl, h0⟩ | ⟨g, cap', cur, rfl, _, _, hc, hm, _⟩
  ·injection hv with e1 e2 e3
   subst e3
   omega
  injection hv with e1 e2 e3
  subst e3
  exact ⟨hc, by unfold maxLen at hm; omega⟩
 refine ⟨ad, cap, b, 0, hv, hb.1, hb.2, hnil, had, fun i hi => ⟨hP b ?_, fun j u hj => ?_, hd _ (List.getElem_mem hi), hok _ (List.getElem_mem hi)⟩⟩
 ·rw [hv, had (by omega)]
  rfl
 have hj5 : j < 5 := (List.getElem?_eq_some_iff.1 hj).1
 have := hnw (i * 5 + j) u (by rw [flatT_get hi hj5]; exact hj)
 rw [show 0 + i * rEV.sz + j = 0 + (i * 5 + j) from by show 0 + i * 5 + j = _; omega]
 exact this
theorem datC_dat {w : World} {e : TypeId} {xs : List ET} (h : (datC e xs).φ w) : ∀ x ∈ xs, IsSl rByte (datC e xs).S w x.2 x.1.data := fun x hx => by
 have h1 : (ownB e x.2 x.1.data).φ w := h.1 _ (List.mem_map.2 ⟨x, hx, rfl⟩)
 exact (own_isSl' (p := fun _ => True) (OwnB.own h1) rfl (fun _ _ => trivial)).mono fun k hk => ⟨_, List.mem_map.2 ⟨x, hx, rfl⟩, hk⟩
theorem may_tree {e e2 : TypeId} {v : Value} {xs : List ET} {r r' : List Ck} (h : Sel m (ownT e v xs) r) (h' : Sel m (datC e2 xs) r') (hok : ∀ x ∈ xs, EnOk x.1) : May w0 S m (slc rEV (fun b => v.ownBlock = some b ∨ (datC e2 xs).S b) v xs) :=
 .mix (fun w hw => ownT_sl (hw.holds _ h.mem) (fun b hb => .inl hb) hok fun x hx => (datC_dat (hw.holds _ h'.mem) x hx).mono fun k hk => .inr hk) fun b hb => .inr (by
  rcases hb with hb | hb
  ·exact ⟨_, h.mem, hb⟩
  exact ⟨_, h'.mem, hb⟩)
end
theorem U_eq {c d : Ck} (h : ∀ b, c.S b ↔ d.S b) : U [c] = U [d] := by
 funext b
 simp [U, h]
theorem G.blkOwnB {n : Nat} {w0 : World} {S : Nat → Prop} {l : Fr} {m : List Ck} {K : Act → World → Prop} {b e : Nat} {xs : List UInt8} {r : List Ck} (hs : Sel m (blk b e (xs.map vByte)) r) (hm : xs.length ≤ 9223372036854775807) (h : G n w0 S l (ownB e (.slice (some ⟨b, 0, none⟩) xs.length xs.length) xs :: r) K) : G n w0 S l m K := fun a w ha hw =>
 h a w ha (hp_view (c := blk b e (xs.map vByte)) (d := ownB e (.slice (some ⟨b, 0, none⟩) xs.length xs.length) xs) (hw.sel hs) (fun hg => .inr ⟨b, [], by simp, by simpa using hm, by rw [List.append_nil]; exact hg⟩) fun k hk => by
  have : some b = some k := hk
  exact (Option.some.inj this).symm)
set_option maxRecDepth 20000 in
set_option maxHeartbeats 4000000 in
theorem over_nil : Tr Tryz.prog 44 #[.slice none 0 0] [] [] (TX (fun _ : Unit => True) (fun _ => .tuple #[]) (fun _ => [])) := by
 refine Tr.of (l := [(0, .slice none 0 0)]) Tryz.func44 rfl (n := 22) rfl (.cons rfl .nil) (fun w0 hro => ?_)
 refine go [9,10,0,0] ?_
 refine G.op rfl (G.val rfl rfl (pv_capSl Tryz.underlying67 rfl) ?_)
 refine G.op rfl (G.val rfl rfl (pv_subH (sz := 1) (k := 0) Tryz.underlying67 Tryz.sizeByte rfl rfl rfl (Nat.le_refl _)) ?_)
 refine go [1,7,8,9,10,1,7,8,15] ?_
 refine G.loopK (X := Unit) (ts := [2]) (fun _ => True) (fun _ => [(3, .int .i64 0)]) (fun _ => []) (fun _ => 0) (x0 := ()) (.cons rfl .nil) subT (.cons .nil) apT trT (.consE rfl veqT .nil) (fun _ hJ => ?_)
 try dsimp only at hJ
 try dsimp only
 refine go [9,9,10,0,0,2,5,2,9,7,8] ?_
 refine G.condF rfl (decide_eq_false (by omega)) ?_
 refine go [18,14,14,19] ?_
 exact G.doneXE (()) trT rfl Y8 subT
theorem overB_tr (v : Value) (xs : List UInt8) : Tr Tryz.prog 44 #[v] [] [ownB 5 v xs] (TX (fun _ : Unit => True) (fun _ => .tuple #[]) (fun _ => [])) := fun w hro hw => by
 rcases hw.holds _ (List.mem_cons_self ..) with ⟨rfl, rfl⟩ | ⟨b, sp, rfl, hm, hg⟩
 ·refine (over_nil w (by simp) ⟨Chg.refl _ _, by simp, by simp, .nil⟩).mono ?_
  rintro e w' ⟨u, m', he, ⟨x, hJ, hu, hm⟩, hw'⟩
  subst hm
  exact ⟨u, [], he, ⟨(), trivial, hu, rfl⟩, ⟨hw'.chg.mono fun b hb => by rw [U_nil] at hb; exact hb.elim, by simp, by simp, .nil⟩⟩
 have hU : U [ownB 5 (.slice (some ⟨b, 0, none⟩) xs.length (xs.length + sp.length)) xs] = U [blk b 5 ((xs ++ sp).map vByte)] := U_eq fun k => by
  show some b = some k ↔ k = b
  constructor <;> intro h
  ·exact (Option.some.inj h).symm
  rw [h]
 have hw2 : Hp w (U [blk b 5 ((xs ++ sp).map vByte)]) w [blk b 5 ((xs ++ sp).map vByte)] := by
  rw [hU] at hw
  exact hp_view hw (fun _ => hg) fun k hk => by obtain rfl : k = b := hk; rfl
 refine (over_tr b xs.length (xs.length + sp.length) (xs ++ sp) (by simp) hm (by omega) w (by simp) hw2).mono ?_
 rintro e w' ⟨u, m', he, ⟨x, hJ, hu, hm'⟩, hw'⟩
 refine ⟨u, [], he, ⟨(), trivial, hu, rfl⟩, ?_⟩
 rw [hU]
 exact hw'.sub (List.nil_sublist _)
set_option maxRecDepth 20000 in
set_option maxHeartbeats 4000000 in
theorem copyB_tr {Pv : Nat → Prop} (v : Value) (a : List UInt8) (ha : a.length ≤ 140737488355328) : Tr Tryz.prog 34 #[v] [slc rByte Pv v a] [] (TX (fun _ : Value => True) (fun x => x) (fun x => [ownB 5 x a])) := by
 refine Tr.of (l := [(0, v)]) Tryz.func34 rfl (n := 6) rfl (.cons rfl .nil) (fun w0 hro => ?_)
 have hv := ro1 hro
 obtain ⟨av, cv, qv, ov, rfl, hcv, hmv, hnil, hadv, -⟩ := Ro.open hv
 refine go [9,10,1,7,8,9,10,60,4] ?_
 intro b3
 refine G.blkOwnB (b := b3) (xs := []) selT (by decide) ?_
 refine go [0] ?_
 refine G.op rfl (G.appendB (xs := []) (ys := a) (Ps := Pv) rfl Tryz.underlying67 Tryz.infoByte rfl rfl selT (ro_sl hv) (by simp; omega) (by simp; omega) ?_)
 intro v'
 rw [List.nil_append a]
 refine go [1,7,8,11] ?_
 exact G.doneX1 (v') trT rfl rfl rfl subT
set_option maxRecDepth 20000 in
set_option maxHeartbeats 4000000 in
theorem cloneB_tr {Pv : Nat → Prop} (v : Value) (a : List UInt8) (ha : a.length ≤ 140737488355328) : Tr Tryz.prog 57 #[v] [slc rByte Pv v a] [] (TX (fun _ : Value => True) (fun x => x) (fun x => [ownB 5 x a])) := by
 refine Tr.of (l := [(0, v)]) Tryz.func57 rfl (n := 8) rfl (.cons rfl .nil) (fun w0 hro => ?_)
 have hv := ro1 hro
 obtain ⟨av, cv, qv, ov, rfl, hcv, hmv, hnil, hadv, -⟩ := Ro.open hv
 refine go [9,10,1,7,8,9,9,10,0] ?_
 refine G.op rfl (G.val rfl rfl (pv_eqlSl0 Tryz.underlying67 rfl rfl) ?_)
 refine go [7,8] ?_
 refine G.cond rfl (fun h4 => ?_) (fun h4 => ?_)
 ·have hn : av = none := by simpa using h4
  have hc0 := hnil hn
  obtain rfl : a = [] := List.eq_nil_of_length_eq_zero (by omega)
  refine go [9,10,1,7,8,11,12] ?_
  refine G.ownBNil 5 ?_
  exact G.doneX1 (.slice none 0 0) trT rfl rfl rfl subT
 refine go [13,8,9,10,60,4] ?_
 intro b5
 refine G.blkOwnB (b := b5) (xs := []) selT (by decide) ?_
 refine go [0] ?_
 refine G.op rfl (G.appendB (xs := []) (ys := a) (Ps := Pv) rfl Tryz.underlying67 Tryz.infoByte rfl rfl selT (ro_sl hv) (by simp; omega) (by simp; omega) ?_)
 intro v'
 rw [List.nil_append a]
 refine go [1,7,8,11] ?_
 exact G.doneX1 (v') trT rfl rfl rfl subT
def argP (e : En) : Prop := e.kind < 1 ∨ 3 < e.kind ∨ e.mode < 0 ∨ 511 < e.mode ∨ (0 < e.data.length ∧ e.kind ≠ 2) ∨ (e.kind = 3 ∧ e.to.length = 0) ∨ (e.kind ≠ 3 ∧ 0 < e.to.length) ∨ 200 < e.to.length
instance (e : En) : Decidable (argP e) := inferInstanceAs (Decidable (_ ∨ _))
def oneM (e : En) : Int := if ¬ okP e.path then 4 else if argP e then 2 else if 1048576 < e.data.length then 3 else 0
theorem one_bytes {e : En} (h : ¬ okP e.path) : oneM e = 4 := if_pos h
theorem one_arg {e : En} (h : okP e.path) (h2 : argP e) : oneM e = 2 := (if_neg (fun k => k h)).trans (if_pos h2)
theorem one_long {e : En} (h : okP e.path) (h2 : ¬ argP e) (h3 : 1048576 < e.data.length) : oneM e = 3 := (if_neg (fun k => k h)).trans ((if_neg h2).trans (if_pos h3))
theorem one_ok {e : En} (h : okP e.path) (h2 : ¬ argP e) (h3 : ¬ 1048576 < e.data.length) : oneM e = 0 := (if_neg (fun k => k h)).trans ((if_neg h2).trans (if_neg h3))
theorem nil_len {s : List UInt8} : s = [] ↔ s.length = 0 := List.length_eq_zero_iff.symm
theorem dec_t {p : Prop} [Decidable p] (h : p) : Value.bool true = .bool (decide p) := by rw [decide_eq_true h]
theorem dec_f {p : Prop} [Decidable p] (h : ¬ p) : Value.bool false = .bool (decide p) := by rw [decide_eq_false h]
theorem dec_e {p q : Prop} [Decidable p] [Decidable q] (h : p ↔ q) : Value.bool (decide p) = .bool (decide q) := by rw [decide_eq_decide.2 h]
theorem dec_n {p : Prop} [Decidable p] {a b : Bool} (h : (!(a == b)) = true ↔ p) : Value.bool (!(a == b)) = .bool (decide p) := by
 congr 1
 cases hh : (!(a == b)) with
 | true => exact (decide_eq_true (h.1 hh)).symm
 | false => exact (decide_eq_false fun k => by rw [h.2 k] at hh; cases hh).symm
theorem bne_dec {p q : Prop} [Decidable p] [Decidable q] : (!(decide p == decide q)) = true ↔ ¬ (p ↔ q) := by
 by_cases hp : p <;> by_cases hq : q <;> simp [hp, hq]
set_option maxRecDepth 20000 in
set_option maxHeartbeats 4000000 in
theorem one_tr {Pd : Nat → Prop} (e : En) (d : Value) (hl : e.path.length ≤ 9223372036854775807) : Tr Tryz.prog 70 #[.agg #[.string (sB e.path), .int .i64 e.kind, .int .i64 e.mode, d, .string (sB e.to)]] [slc rByte Pd d e.data] [] (T0 (.int .i64 (oneM e))) := by
 refine Tr.of (l := [(0, .agg #[.string (sB e.path), .int .i64 e.kind, .int .i64 e.mode, d, .string (sB e.to)])]) Tryz.func70 rfl (n := 58) rfl (.cons rfl .nil) (fun w0 hro => ?_)
 have hd := ro1 hro
 obtain ⟨ad, cap, rfl⟩ := Ro.slv hd
 have hto := nil_len (s := e.to)
 refine go [9,10,60,5] ?_
 intro b1
 refine go [1,7,8,9] ?_
 refine G.drawT (nn := 8) (p := []) (rem := 255) [0, 1, 2, 0, 8, 16, 7, 127] [0, 1, 2, 0, 8, 16, 4, 32] kr ⟨rfl, by kernel_rfl, by kernel_rfl⟩ subT kr (fun hT1 => ?_)
 refine go [22,0,254,3,1,22,3,246,3,1,22,1,244,4,22,2,240,13,22,6,176,1,24,4,160,25,4,26,22,5,128,13,22,7,0,1,27,8,9,15,9,10,2,3,0,2,4] ?_
 refine G.op rfl (G.cR rfl rfl rfl rfl Tryz.func87 rfl rfl may0 (check_tr _ (by omega)) ?_)
 refine G.op rfl (G.val rfl rfl (pv_field1 Tryz.underlying130 rfl Tryz.underlying46 rfl rfl rfl) ?_)
 refine go [2,14,1,7,8] ?_
 refine G.condP rfl (fun h11 => ?_) (fun h11 => ?_)
 ·refine go [9,10,1,7,8,11,17,12] ?_
  exact G.done0G rfl (Rv.tmp rfl Rv.nil) (by rw [one_bytes (by assumption)]; rfl)
 have hok : okP e.path := Decidable.of_not_not (by assumption)
 refine G.seq ?_
 refine G.cutK (X := Unit) (ts := [1, 2]) (p := []) (fun _ => True) (fun _ => [(17, .bool (decide (argP e)))]) (fun _ => []) (.cons rfl (.cons rfl .nil)) subT (.cons .nil) apT ?_ ?_
 ·refine go [9,10,2,3,1,2,4,2,9,0] ?_
  refine G.partP (t := 21) rfl (fun h21 => ?_) (fun h21 => ?_)
  ·refine go [4,4,4,2,2,1,7,8,60,1,13] ?_
   exact G.meet (()) trT (.consE rfl Y2 (.cons rfl (.cons rfl .nil))) subT
  refine go [3,3,1,3,4,3,10,2,2,1,7,8] ?_
  refine G.condP rfl (fun h17 => ?_) (fun h17 => ?_)
  ·refine G.skip ?_
   exact G.meet (()) trT (.consE rfl Y2 (.cons rfl (.cons rfl .nil))) subT
  refine go [9,10,2,3,2,2,4,2,9,0] ?_
  refine G.partP (t := 29) rfl (fun h29 => ?_) (fun h29 => ?_)
  ·refine go [4,4,4,2,2,1,7,8,60,1,13] ?_
   exact G.meet (()) trT (.consE rfl Y2 (.cons rfl (.cons rfl .nil))) subT
  refine go [3,3,2,3,4,3,10,2,2,1,7,8] ?_
  refine G.condP rfl (fun h17 => ?_) (fun h17 => ?_)
  ·refine G.skip ?_
   exact G.meet (()) trT (.consE rfl Y2 (.cons rfl (.cons rfl .nil))) subT
  refine go [9,10,2,3,3,2,4,2,5,2,10,0] ?_
  refine G.partP (t := 38) rfl (fun h38 => ?_) (fun h38 => ?_)
  ·refine go [3,0,3,15,2,2,1,7,8] ?_
   refine G.condP rfl (fun h17 => ?_) (fun h17 => ?_)
   ·refine G.skip ?_
    exact G.meet (()) trT (.consE rfl Y2 (.cons rfl (.cons rfl .nil))) subT
   refine go [10,0,2,3,4,2,4,2,23] ?_
   refine G.op rfl (G.val rfl rfl (pv_neqB Tryz.underlying4 rfl rfl) ?_)
   refine go [0] ?_
   refine G.part (t := 47) rfl (fun h47 => ?_) (fun h47 => ?_)
   ·have hb := bne_dec.1 h47
    rw [ne_eq, hto] at hb
    refine go [4,4,4,4,2,2,1,7] ?_
    exact G.meet (()) trT (.consE rfl Y2 (.cons rfl (.cons rfl .nil))) subT
   have hb : ¬ ¬ (e.kind = 3 ↔ ¬ e.to.length = 0) := fun h => by have := bne_dec.2 (show ¬ (e.kind = 3 ↔ e.to ≠ []) by rw [ne_eq, hto]; exact h); rw [h47] at this; cases this
   refine go [3,3,4,3,4,3,21,3,10,2,2,1,7] ?_
   exact G.meet (()) trT (.consE rfl Y2 (.cons rfl (.cons rfl .nil))) subT
  refine go [4,4,2,2,1,7,8,60,0,10,0,2,3,4,2,4,2,23] ?_
  refine G.op rfl (G.val rfl rfl (pv_neqB Tryz.underlying4 rfl rfl) ?_)
  refine go [0] ?_
  refine G.part (t := 47) rfl (fun h47 => ?_) (fun h47 => ?_)
  ·have hb := bne_dec.1 h47
   rw [ne_eq, hto] at hb
   refine go [4,4,4,4,2,2,1,7] ?_
   exact G.meet (()) trT (.consE rfl Y2 (.cons rfl (.cons rfl .nil))) subT
  have hb : ¬ ¬ (e.kind = 3 ↔ ¬ e.to.length = 0) := fun h => by have := bne_dec.2 (show ¬ (e.kind = 3 ↔ e.to ≠ []) by rw [ne_eq, hto]; exact h); rw [h47] at this; cases this
  refine go [3,3,4,3,4,3,21,3,10,2,2,1,7] ?_
  exact G.meet (()) trT (.consE rfl Y2 (.cons rfl (.cons rfl .nil))) subT
 intro _ hJ
 try dsimp only at hJ
 try dsimp only
 refine G.condP rfl (fun h17 => ?_) (fun h17 => ?_)
 ·refine go [9,10,1,7,8,11,17,12] ?_
  exact G.done0G rfl (Rv.tmp rfl Rv.nil) (by rw [one_arg hok (by assumption)]; rfl)
 refine go [9,10,2,3,3,2,4,2,5,2,10,1,7,8] ?_
 refine G.condP rfl (fun h53 => ?_) (fun h53 => ?_)
 ·refine go [9,10,1,7,8,11,17,12] ?_
  exact G.done0G rfl (Rv.tmp rfl Rv.nil) (by rw [one_long hok (by assumption) (by omega)]; rfl)
 refine go [13,16,8,9,10,1,7,8,11] ?_
 exact G.done0G rfl (Rv.tmp rfl Rv.nil) (by rw [one_ok hok (by assumption) (by omega)]; rfl)
def linkP (e : En) : Prop := e.kind = 3 ∧ 1 ≤ e.to.length ∧ e.to.length ≤ 200
instance (e : En) : Decidable (linkP e) := inferInstanceAs (Decidable (_ ∧ _))
def numP (e : En) : Prop := e.kind < 1 ∨ 3 < e.kind ∨ e.mode < 0 ∨ 511 < e.mode
instance (e : En) : Decidable (numP e) := inferInstanceAs (Decidable (_ ∨ _))
def badP2 (e : En) : Prop := (0 < e.data.length ∧ e.kind ≠ 2) ∨ (0 < e.to.length ∧ e.kind ≠ 3) ∨ (e.kind = 3 ∧ ¬ linkP e)
instance (e : En) : Decidable (badP2 e) := inferInstanceAs (Decidable (_ ∨ _))
theorem argP_iff (e : En) : argP e ↔ numP e ∨ badP2 e := by
 unfold argP numP badP2 linkP
 omega
instance : DecidableEq En := fun a b => decidable_of_iff (a.path = b.path ∧ a.kind = b.kind ∧ a.mode = b.mode ∧ a.data = b.data ∧ a.to = b.to) (by
 cases a
 cases b
 simp)
theorem en_eq {a b : En} : a = b ↔ a.path = b.path ∧ a.kind = b.kind ∧ a.mode = b.mode ∧ a.data = b.data ∧ a.to = b.to := by
 cases a
 cases b
 simp
def pickM (n k : Int) : Int := if k < 1 then 0 else n % k
theorem tmod_low {n k : Int} (hk : ¬ k < 1) : - k < n.tmod k ∧ (n < 0 → n.tmod k ≤ 0) := by
 rcases Int.lt_or_le n 0 with hn | hn
 ·have h1 := Int.neg_tmod (a := -n) (b := k)
  rw [Int.neg_neg] at h1
  have h2 := Int.tmod_nonneg k (show 0 ≤ -n by omega)
  have h3 := Int.tmod_lt_of_pos (-n) (show 0 < k by omega)
  omega
 have h2 := Int.tmod_nonneg k hn
 omega
theorem tmod_pos {n k : Int} (hk : ¬ k < 1) (h : ¬ n.tmod k < 0) : n.tmod k = n % k := by
 rcases Int.lt_or_le n 0 with hn | hn
 ·have h2 : n.tmod k = 0 := by
   have := (tmod_low hk).2 hn
   omega
  have h3 : k ∣ n := Int.dvd_of_tmod_eq_zero h2
  rw [h2, Int.emod_eq_zero_of_dvd h3]
 exact Int.tmod_eq_emod_of_nonneg hn
theorem tmod_neg {n k : Int} (hk : ¬ k < 1) (h : n.tmod k < 0) : n.tmod k + k = n % k := by
 have hn : n < 0 := by
  rcases Int.lt_or_le n 0 with hn | hn
  ·exact hn
  have := Int.tmod_nonneg k hn
  omega
 have hd : ¬ k ∣ n := fun h2 => by
  have := Int.tmod_eq_zero_of_dvd h2
  omega
 have h1 := Int.tmod_eq_emod (a := n) (b := k)
 rw [h1]
 simp [hd, hn, show ¬ (0 ≤ n) by omega]
 omega
set_option maxRecDepth 20000 in
set_option maxHeartbeats 4000000 in
theorem oneR_tr {Pd : Nat → Prop} (e : En) (d : Value) (hl : e.path.length ≤ 9223372036854775807) : Tr Tryz.prog 74 #[.agg #[.string (sB e.path), .int .i64 e.kind, .int .i64 e.mode, d, .string (sB e.to)]] [slc rByte Pd d e.data] [] (T0 (.int .i64 (oneM e))) := by
 refine Tr.of (l := [(0, .agg #[.string (sB e.path), .int .i64 e.kind, .int .i64 e.mode, d, .string (sB e.to)])]) Tryz.func74 rfl (n := 74) rfl (.cons rfl .nil) (fun w0 hro => ?_)
 have hd := ro1 hro
 obtain ⟨ad, cap, rfl⟩ := Ro.slv hd
 have hto := nil_len (s := e.to)
 refine go [9,10,60,5] ?_
 intro b1
 refine go [1,7,8,9,9,10,2,3,0,2,4] ?_
 refine G.op rfl (G.cR rfl rfl rfl rfl Tryz.func94 rfl rfl may0 (validR_tr _ (by omega)) ?_)
 refine go [2,15,7,8] ?_
 refine G.condP rfl (fun h7 => ?_) (fun h7 => ?_)
 ·refine go [9,10,1,7,8,11,12] ?_
  exact G.done0G rfl (Rv.tmp rfl Rv.nil) (by rw [one_bytes (by assumption)]; rfl)
 have hok : okP e.path := Decidable.of_not_not (by assumption)
 refine go [13,8,9,9] ?_
 refine G.cutK (X := Unit) (ts := [1, 2]) (p := []) (fun _ => True) (fun _ => [(25, .bool (decide (numP e)))]) (fun _ => []) (.cons rfl (.cons rfl .nil)) subT (.cons .nil) apT ?_ ?_
 ·refine go [10,2,3,1,2,4,2,9,0] ?_
  refine G.partP (t := 11) rfl (fun h11 => ?_) (fun h11 => ?_)
  ·refine go [4,4,4,2,2,0,4,4,4,2,2,0,4,4,4,2,2,7] ?_
   exact G.meet (()) trT (.consE rfl Y20 (.cons rfl (.cons rfl .nil))) subT
  refine go [3,3,1,3,4,3,10,2,2,0] ?_
  refine G.partP (t := 16) rfl (fun h16 => ?_) (fun h16 => ?_)
  ·refine go [4,4,4,2,2,0,4,4,4,2,2,7] ?_
   exact G.meet (()) trT (.consE rfl Y20 (.cons rfl (.cons rfl .nil))) subT
  refine go [3,3,2,3,4,3,9,2,2,0] ?_
  refine G.partP (t := 21) rfl (fun h21 => ?_) (fun h21 => ?_)
  ·refine go [4,4,4,2,2,7] ?_
   exact G.meet (()) trT (.consE rfl Y20 (.cons rfl (.cons rfl .nil))) subT
  refine go [3,3,2,3,4,3,10,2,2,7] ?_
  exact G.meet (()) trT (.consE rfl Y20 (.cons rfl (.cons rfl .nil))) subT
 intro _ hJ
 try dsimp only at hJ
 try dsimp only
 refine G.condP rfl (fun h25 => ?_) (fun h25 => ?_)
 ·refine go [9,10,1,7,8,11,12] ?_
  exact G.done0G rfl (Rv.tmp rfl Rv.nil) (by rw [one_arg hok ((argP_iff e).2 (.inl (by assumption)))]; rfl)
 refine go [13,8,9] ?_
 refine G.cutK (X := Unit) (ts := [1, 2]) (p := []) (fun _ => True) (fun _ => [(3, .bool (decide (linkP e)))]) (fun _ => []) (.cons rfl (.cons rfl .nil)) subT (.cons .nil) apT ?_ ?_
 ·refine go [10,2,3,1,2,4,2,13,0] ?_
  refine G.partP (t := 29) rfl (fun h29 => ?_) (fun h29 => ?_)
  ·refine go [3,3,4,3,4,3,21,3,12,2,2,0] ?_
   refine G.partP (t := 35) rfl (fun h35 => ?_) (fun h35 => ?_)
   ·refine go [3,3,4,3,4,3,21,3,11,2,2,1,7] ?_
    exact G.meet (()) trT (.consE rfl Y27 (.cons rfl (.cons rfl .nil))) subT
   refine go [4,4,4,4,2,2,1,7] ?_
   exact G.meet (()) trT (.consE rfl Y27 (.cons rfl (.cons rfl .nil))) subT
  refine go [4,4,4,4,2,2,0,4,4,4,4,2,2,1,7] ?_
  exact G.meet (()) trT (.consE rfl Y27 (.cons rfl (.cons rfl .nil))) subT
 intro _ hJ
 try dsimp only at hJ
 try dsimp only
 refine go [9,9] ?_
 refine G.cutK (X := Unit) (ts := [1, 2]) (p := []) (fun _ => True) (fun _ => [(69, .bool (decide (badP2 e)))]) (fun _ => []) (.cons rfl (.cons rfl .nil)) subT (.cons .nil) apT ?_ ?_
 ·refine go [10,2,3,3,2,4,2,5,2,10,0] ?_
  refine G.partP (t := 45) rfl (fun h45 => ?_) (fun h45 => ?_)
  ·refine go [3,3,1,3,4,3,14,2,2,0] ?_
   refine G.partP (t := 50) rfl (fun h50 => ?_) (fun h50 => ?_)
   ·refine go [4,4,4,4,4,6,6,6,4,2,2,0,4,4,4,4,6,6,4,2,2,7] ?_
    exact G.meet (()) trT (.consE rfl Y4 (.cons rfl (.cons rfl .nil))) subT
   refine go [3,3,4,3,4,3,21,3,10,3,0] ?_
   refine G.partP (t := 55) rfl (fun h55 => ?_) (fun h55 => ?_)
   ·refine go [3,3,1,3,4,3,14,3,2,2,2,0] ?_
    refine G.partP (t := 61) rfl (fun h61 => ?_) (fun h61 => ?_)
    ·refine go [4,4,4,4,6,6,4,2,2,7] ?_
     exact G.meet (()) trT (.consE rfl Y4 (.cons rfl (.cons rfl .nil))) subT
    refine go [3,3,1,3,4,3,13,3,0] ?_
    refine G.partP (t := 65) rfl (fun h65 => ?_) (fun h65 => ?_)
    ·refine go [3,0,3,15,3,2,2,2,7] ?_
     exact G.meet (()) trT (.consE rfl Y4 (.cons rfl (.cons rfl .nil))) subT
    refine go [4,4,3,2,2,2,7] ?_
    exact G.meet (()) trT (.consE rfl Y4 (.cons rfl (.cons rfl .nil))) subT
   refine go [4,4,4,3,2,2,2,0,3,3,1,3,4,3,13,3,0] ?_
   refine G.partP (t := 65) rfl (fun h65 => ?_) (fun h65 => ?_)
   ·refine go [3,0,3,15,3,2,2,2,7] ?_
    exact G.meet (()) trT (.consE rfl Y4 (.cons rfl (.cons rfl .nil))) subT
   refine go [4,4,3,2,2,2,7] ?_
   exact G.meet (()) trT (.consE rfl Y4 (.cons rfl (.cons rfl .nil))) subT
  refine go [4,4,4,2,2,0,3,3,4,3,4,3,21,3,10,3,0] ?_
  refine G.partP (t := 55) rfl (fun h55 => ?_) (fun h55 => ?_)
  ·refine go [3,3,1,3,4,3,14,3,2,2,2,0] ?_
   refine G.partP (t := 61) rfl (fun h61 => ?_) (fun h61 => ?_)
   ·refine go [4,4,4,4,6,6,4,2,2,7] ?_
    exact G.meet (()) trT (.consE rfl Y4 (.cons rfl (.cons rfl .nil))) subT
   refine go [3,3,1,3,4,3,13,3,0] ?_
   refine G.partP (t := 65) rfl (fun h65 => ?_) (fun h65 => ?_)
   ·refine go [3,0,3,15,3,2,2,2,7] ?_
    exact G.meet (()) trT (.consE rfl Y4 (.cons rfl (.cons rfl .nil))) subT
   refine go [4,4,3,2,2,2,7] ?_
   exact G.meet (()) trT (.consE rfl Y4 (.cons rfl (.cons rfl .nil))) subT
  refine go [4,4,4,3,2,2,2,0,3,3,1,3,4,3,13,3,0] ?_
  refine G.partP (t := 65) rfl (fun h65 => ?_) (fun h65 => ?_)
  ·refine go [3,0,3,15,3,2,2,2,7] ?_
   exact G.meet (()) trT (.consE rfl Y4 (.cons rfl (.cons rfl .nil))) subT
  refine go [4,4,3,2,2,2,7] ?_
  exact G.meet (()) trT (.consE rfl Y4 (.cons rfl (.cons rfl .nil))) subT
 intro _ hJ
 try dsimp only at hJ
 try dsimp only
 refine G.condP rfl (fun h69 => ?_) (fun h69 => ?_)
 ·refine go [9,10,1,7,8,11,12] ?_
  exact G.done0G rfl (Rv.tmp rfl Rv.nil) (by rw [one_arg hok ((argP_iff e).2 (.inr (by assumption)))]; rfl)
 have hna : ¬ argP e := fun h => ((argP_iff e).1 h).elim (by assumption) (by assumption)
 refine go [13,8,9,9,10,2,3,3,2,4,2,5,2,10,7,8] ?_
 refine G.condP rfl (fun h73 => ?_) (fun h73 => ?_)
 ·refine go [9,10,1,7,8,11,12] ?_
  exact G.done0G rfl (Rv.tmp rfl Rv.nil) (by rw [one_long hok hna (by omega)]; rfl)
 refine go [13,8,9,10,1,7,8,11] ?_
 exact G.done0G rfl (Rv.tmp rfl Rv.nil) (by rw [one_ok hok hna (by omega)]; rfl)
set_option maxRecDepth 20000 in
set_option maxHeartbeats 4000000 in
theorem pick_tr (n k : Int) (hn : I64 n) (hk : I64 k) : Tr Tryz.prog 10 #[.int .i64 n, .int .i64 k] [] [] (T0 (.int .i64 (pickM n k))) := by
 refine Tr.of (l := [(0, .int .i64 n), (1, .int .i64 k)]) Tryz.func10 rfl (n := 16) rfl (.cons rfl (.cons rfl .nil)) (fun w0 hro => ?_)
 obtain ⟨hn1, hn2⟩ := hn
 obtain ⟨hk1, hk2⟩ := hk
 refine go [9,10,1,7,8,9,9,10,0,2,9,7,8] ?_
 refine G.condP rfl (fun h6 => ?_) (fun h6 => ?_)
 ·refine go [9,10,1,7,8,11,12] ?_
  exact G.done0G rfl (Rv.tmp rfl Rv.nil) (by unfold pickM; rw [if_pos (by assumption)]; rfl)
 refine go [13,8,9,10,0,0] ?_
 refine G.op rfl (G.val rfl rfl (pv_remk rfl rfl (by omega)) ?_)
 have ht := Int.tmod_lt_of_pos n (show 0 < k by omega)
 have ht2 := (tmod_low (n := n) (k := k) (by omega)).1
 refine go [1,7,8,9,9,10,0,2,9,7,8] ?_
 refine G.condP rfl (fun h11 => ?_) (fun h11 => ?_)
 ·refine go [10,0,0,2,6,1,7,8,9,10,0,1,7,8,11] ?_
  exact G.done0G rfl (Rv.tmp rfl Rv.nil) (by unfold pickM; rw [if_neg (by assumption), ← tmod_neg (by assumption) (by assumption)]; rfl)
 refine go [13,8,9,10,0,1,7,8,11] ?_
 exact G.done0G rfl (Rv.tmp rfl Rv.nil) (by unfold pickM; rw [if_neg (by assumption), ← tmod_pos (by assumption) (by assumption)]; rfl)
theorem Ro.one1 {w0 : World} {S Ps : Nat → Prop} {v : Value} {a : List UInt8} (h : Ro w0 S (slc rByte Ps v a)) : v.oneCell' = true := by
 obtain ⟨ad, cap, rfl⟩ := Ro.slv h
 rfl
def SortT (es : List En) : Prop := es.Pairwise fun a b => compareM a.path b.path = -1
def placeK (es : List En) (s : List UInt8) : Nat := es.findIdx fun e => ! decide (compareM e.path s < 0)
def isAt (es : List En) (s : List UInt8) : Prop := ∃ e ∈ es, e.path = s
instance (es : List En) (s : List UInt8) : Decidable (isAt es s) := inferInstanceAs (Decidable (∃ e ∈ es, e.path = s))
theorem cmp_lt_iff (a b : List UInt8) : compareM a b < 0 ↔ compareM a b = -1 := by
 have := compareM_ord.rng a b
 omega
theorem sort_mono {es : List En} (h : SortT es) {s : List UInt8} {q r : Nat} (hr : r < es.length) (hq : q ≤ r) (hc : compareM es[r].path s < 0) : compareM (es[q]'(by omega)).path s < 0 := by
 rcases Nat.lt_or_ge q r with h1 | h1
 ·have h2 := (List.pairwise_iff_getElem.1 h) q r (by omega) hr h1
  rw [cmp_lt_iff] at hc ⊢
  exact compareM_ord.trans _ _ _ h2 hc
 obtain rfl : q = r := by omega
 exact hc
theorem placeK_at {es : List En} {s : List UInt8} {k : Nat} (hk : k ≤ es.length) (h1 : ∀ q (hq : q < es.length), q < k → compareM es[q].path s < 0) (h2 : ∀ q (hq : q < es.length), k ≤ q → ¬ compareM es[q].path s < 0) : placeK es s = k := by
 unfold placeK
 rcases Nat.lt_or_ge k es.length with h | h
 ·refine (List.findIdx_eq h).2 ⟨by simpa using h2 k h (Nat.le_refl _), fun j hj => ?_⟩
  simpa using h1 j (by omega) hj
 obtain rfl : k = es.length := by omega
 exact List.findIdx_eq_length_of_false fun x hx => by
  obtain ⟨j, hj, rfl⟩ := List.getElem_of_mem hx
  simpa using h1 j hj hj
theorem isAt_iff {es : List En} (hs : SortT es) {s : List UInt8} {k : Nat} (h1 : ∀ q (hq : q < es.length), q < k → compareM es[q].path s < 0) (hk : k < es.length) (h2 : ¬ compareM es[k].path s < 0) : isAt es s ↔ compareM es[k].path s = 0 := by
 constructor
 ·rintro ⟨e, he, rfl⟩
  obtain ⟨j, hj, rfl⟩ := List.getElem_of_mem he
  have hjj : compareM es[j].path es[j].path = 0 := (compareM_ord.zero _ _).2 rfl
  rcases Nat.lt_or_ge j k with h | h
  ·have := h1 j hj h
   omega
  rcases Nat.lt_or_ge k j with h3 | h3
  ·have := (List.pairwise_iff_getElem.1 hs) k j hk hj h3
   omega
  obtain rfl : j = k := by omega
  exact hjj
 intro h
 exact ⟨es[k], List.getElem_mem hk, (compareM_ord.zero _ _).1 h⟩
theorem isAt_none {es : List En} {s : List UInt8} (h1 : ∀ q (hq : q < es.length), compareM es[q].path s < 0) : ¬ isAt es s := by
 rintro ⟨e, he, rfl⟩
 obtain ⟨j, hj, rfl⟩ := List.getElem_of_mem he
 have := h1 j hj
 have : compareM es[j].path es[j].path = 0 := (compareM_ord.zero _ _).2 rfl
 omega
theorem search_end {xs : List ET} {s : List UInt8} {i : Nat} (hso : SortT (ens xs)) (hlt : i < xs.length) (hlo : ∀ q (hq : q < xs.length), q < i → compareM xs[q].1.path s < 0) (hhi : ∀ q (hq : q < xs.length), i ≤ q → ¬ compareM xs[q].1.path s < 0) : placeK (ens xs) s = i ∧ (isAt (ens xs) s ↔ compareM xs[i].1.path s = 0) := by
 have hl := ens_length xs
 have g1 : ∀ q (hq : q < (ens xs).length), q < i → compareM (ens xs)[q].path s < 0 := fun q hq hqi => by
  rw [ens_get (by omega)]
  exact hlo q (by omega) hqi
 have g2 : ∀ q (hq : q < (ens xs).length), i ≤ q → ¬ compareM (ens xs)[q].path s < 0 := fun q hq hqi => by
  rw [ens_get (by omega)]
  exact hhi q (by omega) hqi
 have h := isAt_iff hso g1 (show i < (ens xs).length by omega) (g2 i (by omega) (Nat.le_refl _))
 rw [ens_get hlt] at h
 exact ⟨placeK_at (by omega) g1 g2, h⟩
theorem search_none {xs : List ET} {s : List UInt8} (hlo : ∀ q (hq : q < xs.length), q < xs.length → compareM xs[q].1.path s < 0) : placeK (ens xs) s = xs.length ∧ ¬ isAt (ens xs) s := by
 have hl := ens_length xs
 have g1 : ∀ q (hq : q < (ens xs).length), compareM (ens xs)[q].path s < 0 := fun q hq => by
  rw [ens_get (by omega)]
  exact hlo q (by omega) (by omega)
 exact ⟨placeK_at (by omega) (fun q hq _ => g1 q hq) (fun q hq h => by omega), isAt_none g1⟩
set_option maxRecDepth 20000 in
set_option maxHeartbeats 4000000 in
theorem place1_tr (e : En) (d : Value) (s : List UInt8) (hl : e.path.length ≤ 9223372036854775807) (hs : s.length ≤ 9223372036854775807) : Tr Tryz.prog 93 #[.agg #[.string (sB e.path), .int .i64 e.kind, .int .i64 e.mode, d, .string (sB e.to)], .string (sB s)] [] [] (T0 (.int .i64 (compareM e.path s))) := by
 refine Tr.of (l := [(0, .agg #[.string (sB e.path), .int .i64 e.kind, .int .i64 e.mode, d, .string (sB e.to)]), (1, .string (sB s))]) Tryz.func93 rfl (n := 9) rfl (.cons rfl (.cons rfl .nil)) (fun w0 hro => ?_)
 refine go [9,10,60,5] ?_
 intro b2
 refine go [1,7,8,9,10,2,3,0,2,4,0] ?_
 refine G.op rfl (G.cR rfl rfl rfl rfl Tryz.func71 rfl rfl may0 (compare_tr _ _ (by omega) (by omega)) ?_)
 refine go [1,7,8,11] ?_
 exact G.done0G rfl (Rv.tmp rfl Rv.nil) Y8
set_option maxRecDepth 20000 in
set_option maxHeartbeats 4000000 in
theorem search_tr {Ps : Nat → Prop} (v : Value) (xs : List ET) (s : List UInt8) (hs : s.length ≤ 9223372036854775807) (hn : xs.length ≤ 1000000) (hso : SortT (ens xs)) : Tr Tryz.prog 92 #[v, .string (sB s), .func (.func 93) #[] #[]] [slc rEV Ps v xs] [] (T0 (.tuple #[.int .i64 (placeK (ens xs) s : Int), .bool (decide (isAt (ens xs) s))])) := by
 refine Tr.of (l := [(0, v), (1, .string (sB s)), (2, .func (.func 93) #[] #[])]) Tryz.func92 rfl (n := 49) rfl (.cons rfl (.cons rfl (.cons rfl .nil))) (fun w0 hro => ?_)
 have hv := ro1 hro
 have hv' := hv
 obtain ⟨av, cv, bv, fv, rfl, hcapv, hmaxv, hnilv, hadv, helv⟩ := Ro.openT hv
 have hel' := ens_length xs
 refine go [9,10,1,1,7,8,9,10,0,2,5,1,7,8,9,10,0,1,1,7,8,9,15] ?_
 refine G.loopK (X := Nat × Nat) (ts := [0, 1, 2, 6, 7, 8]) (fun st => st.1 ≤ st.2 ∧ st.2 ≤ xs.length ∧ (∀ q (hq : q < xs.length), q < st.1 → compareM xs[q].1.path s < 0) ∧ (∀ q (hq : q < xs.length), st.2 ≤ q → ¬ compareM xs[q].1.path s < 0)) (fun st => [(9, .int .i64 (st.1 : Int)), (10, .int .i64 (st.2 : Int))]) (fun st => []) (fun st => st.2 - st.1) (x0 := (0, xs.length)) (.cons rfl (.cons rfl (.cons rfl (.cons rfl (.cons rfl (.cons rfl .nil)))))) subT (.cons (.cons .nil)) apT (by first | exact trivial | ((try dsimp only) <;> exact ⟨Nat.zero_le _, Nat.le_refl _, fun q _ h => absurd h (by omega), fun q h1 h2 => absurd h1 (by omega)⟩)) (.consE rfl veqT (.consE rfl veqT .nil)) (fun st hJ => ?_)
 obtain ⟨i, j⟩ := st
 try dsimp only at hJ
 try dsimp only
 obtain ⟨hij, hj, hlo, hhi⟩ := hJ
 refine go [9,9,10,0,0,2,9,7,8] ?_
 refine G.condP rfl (fun h17 => ?_) (fun h17 => ?_)
 ·have hlt : (i + j) / 2 < xs.length := by omega
  have hEv := helv ((i + j) / 2) hlt
  have hRv := Ro.evRng hEv
  have hDv := Ro.evDat hEv
  obtain ⟨hk1v, hk2v, hlpv, hldv, hltv⟩ := Ro.evOk hEv
  have hCv := Ro.one1 hDv
  refine go [13,8,15,9,10,0,0,2,6] ?_
  refine G.op rfl (G.val rfl rfl ((pv_conv (by rw [Tryz.underlying3]; rfl) Tryz.underlying128 rfl).int (b := ((i + j : Nat) : Int)) (by rw [IntWalk.u64_in _ (by omega)]; omega)) ?_)
  refine G.op rfl (G.val rfl rfl ((pv_shr (s := 1) rfl rfl (by decide)).int (b := (((i + j) / 2 : Nat) : Int)) (by omega)) ?_)
  refine G.op rfl (G.val rfl rfl ((pv_conv (by rw [Tryz.underlying128]; rfl) Tryz.underlying3 rfl).int (b := (((i + j) / 2 : Nat) : Int)) (by rw [IntWalk.i64_in _ (by omega)])) ?_)
  refine go [1,7,8,9,10,0,0,0,2,20,5,2,50,1,0] ?_
  refine G.op rfl (G.cRv rfl rfl rfl rfl rfl Tryz.func93 rfl rfl (by rfl) may0 (place1_tr xs[(i + j) / 2].1 _ s (by omega) hs) ?_)
  refine go [2,9,7,8] ?_
  refine G.condP rfl (fun h31 => ?_) (fun h31 => ?_)
  ·have hneg := h31
   refine go [10,0,2,6,1,7,16] ?_
   exact G.next (((i + j) / 2 + 1, j)) (by first | exact trivial | ((try dsimp only) <;> exact ⟨by omega, hj, fun q hq hqi => by have := sort_mono hso (r := (i + j) / 2) (q := q) (s := s) (by omega) (by omega) (by rw [ens_get hlt]; exact hneg); rwa [ens_get hq] at this, hhi⟩)) (by (try dsimp only); omega) (.consE rfl veqT (.consE rfl veqT (.cons rfl (.cons rfl (.cons rfl (.cons rfl (.cons rfl (.cons rfl .nil)))))))) subT
  have hneg := h31
  refine go [10,0,1,7,16] ?_
  exact G.next ((i, (i + j) / 2)) (by first | exact trivial | ((try dsimp only) <;> exact ⟨by omega, by omega, hlo, fun q hq hqi h => hneg (by have := sort_mono hso (r := q) (q := (i + j) / 2) (s := s) (by omega) hqi (by rw [ens_get hq]; exact h); rwa [ens_get hlt] at this)⟩)) (by (try dsimp only); omega) (.consE rfl veqT (.consE rfl veqT (.cons rfl (.cons rfl (.cons rfl (.cons rfl (.cons rfl (.cons rfl .nil)))))))) subT
 refine go [18,14,14,19,8,9,10,0,0,0,2,9,0] ?_
 refine G.partP (t := 39) rfl (fun h39 => ?_) (fun h39 => ?_)
 ·obtain rfl : i = j := by omega
  have hlt : i < xs.length := by omega
  have hEv := helv i hlt
  have hRv := Ro.evRng hEv
  have hDv := Ro.evDat hEv
  obtain ⟨hk1v, hk2v, hlpv, hldv, hltv⟩ := Ro.evOk hEv
  have hCv := Ro.one1 hDv
  refine go [3,0,3,0,3,0,3,20,5,3,50,1,3,0] ?_
  refine G.want rfl rfl rfl (G.cRv rfl rfl rfl rfl rfl Tryz.func93 rfl rfl (by rfl) may0 (place1_tr xs[i].1 _ s (by omega) hs) ?_)
  refine go [3,13,2,2,1,1,7,8,11] ?_
  obtain ⟨hp, hi⟩ := search_end hso hlt hlo hhi
  exact G.done0G rfl (Rv.tmp rfl (Rv.tmp rfl Rv.nil)) (by rw [hp]; simp [retV2, hi])
 refine go [4,4,4,4,4,4,4,4,2,2,1,1,7,8,11] ?_
 obtain rfl : i = xs.length := by omega
 obtain ⟨hp, hi⟩ := search_none (s := s) hlo
 exact G.done0G rfl (Rv.tmp rfl (Rv.tmp rfl Rv.nil)) (by rw [hp, decide_eq_false hi]; rfl)
set_option maxRecDepth 20000 in
set_option maxHeartbeats 4000000 in
theorem place_tr {Ps : Nat → Prop} (v : Value) (xs : List ET) (s : List UInt8) (hn : xs.length ≤ 1000000) (hso : SortT (ens xs)) (hs : s.length ≤ 9223372036854775807) : Tr Tryz.prog 73 #[v, .string (sB s)] [slc rEV Ps v xs] [] (T0 (.tuple #[.int .i64 (placeK (ens xs) s : Int), .bool (decide (isAt (ens xs) s))])) := by
 refine Tr.of (l := [(0, v), (1, .string (sB s))]) Tryz.func73 rfl (n := 11) rfl (.cons rfl (.cons rfl .nil)) (fun w0 hro => ?_)
 have hv := ro1 hro
 refine go [9,10,1,1,7,8,9,10,0,0] ?_
 refine G.op rfl (G.cR rfl rfl rfl rfl Tryz.func92 rfl rfl (may1 Y0) (search_tr _ xs s hs hn hso) ?_)
 refine go [2,7,2,7,1,1,7,8,11] ?_
 exact G.done0G rfl (Rv.tmp rfl (Rv.tmp rfl Rv.nil)) Y8
def heldM (l : List En) (e : En) : Prop := (parentM e.path).2 = false ∨ ∃ x ∈ l, x.path = (parentM e.path).1 ∧ x.kind = 1
instance (l : List En) (e : En) : Decidable (heldM l e) := inferInstanceAs (Decidable (_ ∨ _))
def prevBad (es : List En) (i : Nat) : Prop := 0 < i ∧ match es[i - 1]?, es[i]? with
 | some p, some e => 0 ≤ compareM p.path e.path
 | _, _ => False
instance (es : List En) (i : Nat) : Decidable (prevBad es i) := by
 unfold prevBad
 cases es[i - 1]? <;> cases es[i]? <;> exact inferInstance
theorem prev_pos {es : List En} {i : Nat} (h0 : 0 < i) (h : i < es.length) : prevBad es i ↔ 0 ≤ compareM (es[i - 1]'(by omega)).path es[i].path := by
 unfold prevBad
 rw [List.getElem?_eq_getElem h, List.getElem?_eq_getElem (show i - 1 < es.length by omega)]
 simp [h0]
theorem prev_zero {es : List En} {i : Nat} (h0 : ¬ 0 < i) : ¬ prevBad es i := fun h => h0 h.1
def errT (es : List En) (i : Nat) : Int := match es[i]? with
 | none => 0
 | some e => if (if oneM e = 0 ∧ prevBad es i then 7 else oneM e) = 0 ∧ ¬ heldM (es.take i) e then 6 else (if oneM e = 0 ∧ prevBad es i then 7 else oneM e)
theorem errT_get {es : List En} {i : Nat} (h : i < es.length) : errT es i = if (if oneM es[i] = 0 ∧ prevBad es i then 7 else oneM es[i]) = 0 ∧ ¬ heldM (es.take i) es[i] then 6 else (if oneM es[i] = 0 ∧ prevBad es i then 7 else oneM es[i]) := by
 unfold errT
 rw [List.getElem?_eq_getElem h]
theorem err_one {es : List En} {i : Nat} (h : i < es.length) (h1 : ¬ oneM es[i] = 0) : errT es i = oneM es[i] := by
 rw [errT_get h, if_neg (fun k => by rw [if_neg (fun k => h1 k.1)] at k; exact h1 k.1), if_neg (fun k => h1 k.1)]
theorem err_prev {es : List En} {i : Nat} (h : i < es.length) (h1 : oneM es[i] = 0) (h2 : prevBad es i) : errT es i = 7 := by
 rw [errT_get h, if_neg (fun k => by rw [if_pos ⟨h1, h2⟩] at k; cases k.1), if_pos ⟨h1, h2⟩]
theorem err_held {es : List En} {i : Nat} (h : i < es.length) (h1 : oneM es[i] = 0) (h2 : ¬ prevBad es i) (h3 : ¬ heldM (es.take i) es[i]) : errT es i = 6 := by
 rw [errT_get h, if_pos ⟨by rw [if_neg (fun k => h2 k.2), h1], h3⟩]
theorem err_ok {es : List En} {i : Nat} (h : i < es.length) (h1 : oneM es[i] = 0) (h2 : ¬ prevBad es i) (h3 : heldM (es.take i) es[i]) : errT es i = 0 := by
 rw [errT_get h, if_neg (fun k => k.2 h3), if_neg (fun k => h2 k.2), h1]
theorem err_zero {es : List En} {i : Nat} (h : i < es.length) (h0 : errT es i = 0) : oneM es[i] = 0 ∧ ¬ prevBad es i ∧ heldM (es.take i) es[i] := by
 have a : oneM es[i] = 0 := Decidable.byContradiction fun k => by rw [err_one h k] at h0; exact k h0
 have b : ¬ prevBad es i := fun k => by rw [err_prev h a k] at h0; cases h0
 exact ⟨a, b, Decidable.byContradiction fun k => by rw [err_held h a b k] at h0; cases h0⟩
def checkT (es : List En) : Int × Int := if 200 < es.length then (3, 0) else
 let k := (List.range es.length).findIdx fun i => ! decide (errT es i = 0)
 (errT es k, if errT es k = 0 then 0 else (k : Int))
theorem checkT_many {es : List En} (h : 200 < es.length) : checkT es = (3, 0) := if_pos h
theorem range_idx {p : Nat → Bool} {n i : Nat} (hi : i < n) (hp : p i = true) (h : ∀ q, q < i → p q = false) : (List.range n).findIdx p = i := by
 refine (List.findIdx_eq (by simpa using hi)).2 ⟨by simpa using hp, fun j hj => ?_⟩
 simpa using h j hj
theorem checkT_bad {es : List En} {i : Nat} {e : Int} (h200 : ¬ 200 < es.length) (hi : i < es.length) (h : ∀ q, q < i → errT es q = 0) (he : errT es i = e) (h0 : ¬ e = 0) : checkT es = (e, (i : Int)) := by
 unfold checkT
 rw [if_neg h200]
 have e1 : (List.range es.length).findIdx (fun i => ! decide (errT es i = 0)) = i := range_idx hi (by simp [he, h0]) (fun q hq => by simp [h q hq])
 simp only [e1, he, if_neg h0]
theorem checkT_ok {es : List En} (h200 : ¬ 200 < es.length) (h : ∀ q, q < es.length → errT es q = 0) : checkT es = (0, 0) := by
 unfold checkT
 rw [if_neg h200]
 have e1 : (List.range es.length).findIdx (fun i => ! decide (errT es i = 0)) = es.length := by
  have := List.findIdx_eq_length_of_false (p := fun i => ! decide (errT es i = 0)) (xs := List.range es.length) (fun x hx => by
   have := h x (by simpa using hx)
   simp [this])
  simpa using this
 have e2 : errT es es.length = 0 := by
  unfold errT
  rw [List.getElem?_eq_none (Nat.le_refl _)]
 simp only [e1, e2, if_true]
theorem checkT_zero {es : List En} (h : (checkT es).1 = 0) : es.length ≤ 200 ∧ (∀ q, q < es.length → errT es q = 0) ∧ checkT es = (0, 0) := by
 by_cases h200 : 200 < es.length
 ·rw [checkT_many h200] at h
  cases h
 have all : ∀ q, q < es.length → errT es q = 0 := by
  intro q
  induction q using Nat.strongRecOn with
  | _ q ih =>
   intro hq
   exact Decidable.byContradiction fun k => by
    rw [checkT_bad h200 hq (fun r hr => ih r hr (by omega)) rfl k] at h
    exact k h
 exact ⟨by omega, all, checkT_ok h200 all⟩
theorem sort_take {es : List En} {i : Nat} (hi : i ≤ es.length) (h : ∀ q, q < i → errT es q = 0) : SortT (es.take i) := by
 have step : ∀ q (hq : q + 1 < i), compareM (es[q]'(by omega)).path (es[q + 1]'(by omega)).path = -1 := fun q hq => by
  have h1 := (err_zero (show q + 1 < es.length by omega) (h (q + 1) hq)).2.1
  rw [prev_pos (by omega) (by omega)] at h1
  have := compareM_ord.rng (es[q]'(by omega)).path (es[q + 1]'(by omega)).path
  simp only [Nat.add_sub_cancel] at h1
  omega
 have all : ∀ r q (hr : r < i) (hqr : q < r), compareM (es[q]'(by omega)).path (es[r]'(by omega)).path = -1 := by
  intro r
  induction r with
  | zero => intro q hr hq; omega
  | succ r ih =>
   intro q hr hq
   rcases Nat.lt_or_ge q r with h1 | h1
   ·exact compareM_ord.trans _ _ _ (ih q (by omega) h1) (step r hr)
   obtain rfl : q = r := by omega
   exact step q hr
 refine List.pairwise_iff_getElem.2 fun q r hq hr hqr => ?_
 simp only [List.length_take] at hq hr
 rw [List.getElem_take, List.getElem_take]
 exact all r q (by omega) hqr
theorem placeK_spec {es : List En} (hs : SortT es) {s : List UInt8} (h : isAt es s) : ∃ hk : placeK es s < es.length, es[placeK es s].path = s := by
 obtain ⟨e, he, rfl⟩ := h
 obtain ⟨j, hj, rfl⟩ := List.getElem_of_mem he
 have hp : placeK es es[j].path = j := placeK_at (by omega) (fun q hq hqj => by rw [cmp_lt_iff]; exact (List.pairwise_iff_getElem.1 hs) q j hq hj hqj) (fun q hq hjq => by
  rcases Nat.lt_or_ge j q with h1 | h1
  ·have h2 := (List.pairwise_iff_getElem.1 hs) j q hj hq h1
   have := compareM_ord.anti es[j].path es[q].path
   omega
  obtain rfl : j = q := by omega
  rw [(compareM_ord.zero _ _).2 rfl]
  omega)
 refine ⟨by omega, ?_⟩
 simp only [hp]
theorem sort_inj {es : List En} (hs : SortT es) {a b : En} (ha : a ∈ es) (hb : b ∈ es) (h : a.path = b.path) : a = b := by
 obtain ⟨i, hi, rfl⟩ := List.getElem_of_mem ha
 obtain ⟨j, hj, rfl⟩ := List.getElem_of_mem hb
 have hz : compareM es[i].path es[j].path = 0 := (compareM_ord.zero _ _).2 h
 rcases Nat.lt_trichotomy i j with h1 | h1 | h1
 ·have := (List.pairwise_iff_getElem.1 hs) i j hi hj h1
  omega
 ·subst h1
  rfl
 have h2 := (List.pairwise_iff_getElem.1 hs) j i hj hi h1
 have := compareM_ord.anti es[i].path es[j].path
 omega
theorem held_none {l : List En} {e : En} (h : (parentM e.path).2 = true) (h2 : ¬ isAt l (parentM e.path).1) : ¬ heldM l e := fun k => by
 rcases k with k | ⟨x, hx, k1, k2⟩
 ·rw [h] at k
  cases k
 exact h2 ⟨x, hx, k1⟩
theorem held_kind {l : List En} {e : En} (hs : SortT l) (h : (parentM e.path).2 = true) (h2 : isAt l (parentM e.path).1) {x : En} (hx : l[placeK l (parentM e.path).1]? = some x) : heldM l e ↔ x.kind = 1 := by
 obtain ⟨hk, hp⟩ := placeK_spec hs h2
 rw [List.getElem?_eq_getElem hk] at hx
 injection hx with hx
 constructor
 ·rintro (k | ⟨y, hy, k1, k2⟩)
  ·rw [h] at k
   cases k
  have : x = y := sort_inj hs (hx ▸ List.getElem_mem hk) hy (by rw [← hx, hp, k1])
  rw [this]
  exact k2
 intro k
 exact .inr ⟨x, hx ▸ List.getElem_mem hk, by rw [← hx, hp], k⟩
theorem Ro.takeT {α : Type} {E : Rdr α} {w0 : World} {S Ps : Nat → Prop} {ad : Option Addr} {len cap i : Nat} {xs : List α} (h : Ro w0 S (slc E Ps (.slice ad len cap) xs)) (hi : i ≤ xs.length) : Ro w0 S (slc E Ps (.slice ad i cap) (xs.take i)) := by
 have := Ro.sub h (Nat.zero_le i) hi
 rwa [subV_zero, List.drop_zero] at this
theorem ens_take (xs : List ET) (i : Nat) : ens (xs.take i) = (ens xs).take i := by simp [ens, List.map_take]
theorem ens_at {xs : List ET} {i : Nat} (h : i < xs.length) : (ens xs)[i]? = some xs[i].1 := by simp [ens, h]
set_option maxRecDepth 20000 in
set_option maxHeartbeats 4000000 in
theorem tcheck_tr {Ps : Nat → Prop} (v : Value) (xs : List ET) : Tr Tryz.prog 55 #[v] [slc rEV Ps v xs] [] (T0 (.tuple #[.int .i64 (checkT (ens xs)).1, .int .i64 (checkT (ens xs)).2])) := by
 refine Tr.of (l := [(0, v)]) Tryz.func55 rfl (n := 69) rfl (.cons rfl .nil) (fun w0 hro => ?_)
 have hv := ro1 hro
 have hv' := hv
 obtain ⟨av, cv, bv, fv, rfl, hcapv, hmaxv, hnilv, hadv, helv⟩ := Ro.openT hv
 have hel' := ens_length xs
 refine go [9,10,1,1,7,8,9,9,10,0,2,5,2,10,7,8] ?_
 refine G.condP rfl (fun h13 => ?_) (fun h13 => ?_)
 ·refine go [9,10,1,1,7,8,11,12] ?_
  exact G.done0G rfl (Rv.tmp rfl (Rv.tmp rfl Rv.nil)) (by rw [checkT_many (by omega)]; rfl)
 refine go [13,8,9,9,10,0,2,5,0,7,8,15] ?_
 refine G.loopK (X := Nat) (ts := [0, 14, 15]) (fun i => i ≤ xs.length ∧ (∀ q, q < i → errT (ens xs) q = 0)) (fun i => [(16, .int .i64 (i : Int))]) (fun i => []) (fun i => xs.length - i) (x0 := 0) (.cons rfl (.cons rfl (.cons rfl .nil))) subT (.cons .nil) apT (by first | exact trivial | ((try dsimp only) <;> exact ⟨Nat.zero_le _, fun q h => absurd h (by omega)⟩)) (.consE rfl veqT .nil) (fun i hJ => ?_)
 try dsimp only at hJ
 try dsimp only
 obtain ⟨hki, hJ⟩ := hJ
 refine go [9,10,2,9,7,8,9] ?_
 refine G.condP rfl (fun h17 => ?_) (fun h17 => ?_)
 ·have hJ0 := hJ
  have hlt : i < xs.length := by omega
  have hlt' : i < (ens xs).length := by omega
  have hg := ens_get hlt
  have hso := sort_take (es := ens xs) (i := i) (by omega) hJ
  have hTk := Ro.takeT hv' (i := i) (by omega)
  have hEv := helv i hlt
  have hRv := Ro.evRng hEv
  have hDv := Ro.evDat hEv
  obtain ⟨hk1v, hk2v, hlpv, hldv, hltv⟩ := Ro.evOk hEv
  have hCv := Ro.one1 hDv
  refine go [13,8,9,15,9,10,0,2,20,5,2,50,1] ?_
  refine G.op rfl (G.alloc (z := .agg #[.string ⟨#[]⟩, .int .i64 0, .int .i64 0, .slice none 0 0, .string ⟨#[]⟩]) (cs := [.string ⟨#[]⟩, .int .i64 0, .int .i64 0, .slice none 0 0, .string ⟨#[]⟩]) rfl kr rfl ?_)
  intro b5
  refine go [1,20,7,8,9,9,10,2,50,1] ?_
  refine G.op rfl (G.cR rfl rfl rfl rfl Tryz.func70 rfl rfl (may1 Y0) (one_tr _ _ (by omega)) ?_)
  refine go [1,7,8,9,10,0,2,14,7,8] ?_
  refine G.condP rfl (fun h24 => ?_) (fun h24 => ?_)
  ·refine go [9,10,0,0,1,1,7,8,11,12,17,12,12,17,12] ?_
   exact G.done0G rfl (Rv.tmp rfl (Rv.tmp rfl Rv.nil)) (by rw [checkT_bad (by omega) hlt' hJ0 (err_one hlt' (by rw [hg]; assumption)) (by rw [hg]; assumption), hg]; rfl)
  have h1 : oneM (ens xs)[i] = 0 := by rw [hg]; omega
  refine go [13,8,9,9] ?_
  refine G.cutK (X := Unit) (ts := [0, 4, 5, 14, 15, 16]) (p := []) (fun _ => True) (fun _ => [(40, .bool (decide (prevBad (ens xs) i)))]) (fun _ => []) (.cons rfl (.cons rfl (.cons rfl (.cons rfl (.cons rfl (.cons rfl .nil)))))) subT (.cons .nil) apT ?_ ?_
  ·refine G.drawT (nn := 14) (p := []) (rem := 16383) [0, 1, 2, 4, 4, 20, 44, 68, 132, 4, 516, 1284, 2052, 4100] [0, 1, 2, 4, 4, 20, 44, 68, 132, 4, 516, 1284, 2052, 4100] kr ⟨rfl, by kernel_rfl, by kernel_rfl⟩ subT kr (fun hT9 => ?_)
   refine go [22,0,16382,0,22,1,16380,10,22,2,16376,0] ?_
   refine G.partP (t := 29) rfl (fun h29 => ?_) (fun h29 => ?_)
   ·have hi0 : 0 < i := by omega
    have hEp := helv (i - 1) (by omega)
    have hRp := Ro.evRng hEp
    have hDp := Ro.evDat hEp
    obtain ⟨hk1p, hk2p, hlpp, hldp, hltp⟩ := Ro.evOk hEp
    have hCp := Ro.one1 hDp
    have hpv := prev_pos hi0 hlt'
    rw [hg, ens_get (show i - 1 < xs.length by omega)] at hpv
    refine go [22,3,16368,0,22,4,16352,0,22,5,16320,19] ?_
    refine G.takeT hT9 (i := 6) (rem' := 16256) rfl rfl rfl kr (fun _ _ _ h => h) rfl (pv_ixSl (sz := 5) (k := i - 1) Tryz.underlying32 kr rfl rfl Y18 (by omega) (by omega)) subT ?_
    refine go [22,7,16128,3,0,22,8,15872,4,22,9,15360,3,0,24,10,14336,25,4,26,24,11,12288] ?_
    refine G.turnOp rfl rfl (G.cR rfl rfl rfl rfl Tryz.func71 rfl rfl may0 (compare_tr _ _ (by omega) (by omega)) ?_)
    refine go [26,22,12,8192,12,22,13,0,2,27] ?_
    exact G.meet (()) trT (.consE rfl (dec_e hpv.symm) (.cons rfl (.cons rfl (.cons rfl (.cons rfl (.cons rfl (.cons rfl .nil))))))) subT
   refine go [23,3,16368,23,4,16352,23,5,16320,23,6,16256,23,7,16128,23,8,15872,23,9,15360,23,10,14336,23,11,12288,23,12,8192,22,13,0,2,27] ?_
   exact G.meet (()) trT (.consE rfl (dec_f (prev_zero (by omega))) (.cons rfl (.cons rfl (.cons rfl (.cons rfl (.cons rfl (.cons rfl .nil))))))) subT
  intro _ hJ
  try dsimp only at hJ
  try dsimp only
  refine G.condP rfl (fun h40 => ?_) (fun h40 => ?_)
  ·refine go [9,10,0,1,1,7,8,11,12,17,12,12,17,12] ?_
   exact G.done0G rfl (Rv.tmp rfl (Rv.tmp rfl Rv.nil)) (by rw [checkT_bad (by omega) hlt' hJ0 (err_prev hlt' h1 (by assumption)) (by omega)]; rfl)
  refine go [13,8,9,10,2,3,0,2,4] ?_
  refine G.op rfl (G.cR rfl rfl rfl rfl Tryz.func72 rfl rfl may0 (parent_tr _ (by omega)) ?_)
  have hpl := parentM_len xs[i].1.path
  refine go [0,2,7,2,7,1,1,7,8,9,10,0,7,8] ?_
  refine G.cond rfl (fun h48 => ?_) (fun h48 => ?_)
  ·have hpt : (parentM (ens xs)[i].path).2 = true := by rw [hg]; exact h48
   refine go [9,10,0,0] ?_
   refine G.op rfl (G.val rfl rfl (pv_subH (sz := 5) (k := i) Tryz.underlying32 kr rfl rfl rfl (by omega)) ?_)
   refine go [0] ?_
   refine G.op rfl (G.cR rfl rfl rfl rfl Tryz.func73 rfl rfl (may1 Y0) (place_tr _ (xs.take i) _ (by rw [List.length_take]; omega) (by rw [ens_take]; exact hso) (by omega)) ?_)
   rw [ens_take]
   refine go [0,2,7,2,7,1,1,7,8,9] ?_
   refine G.cutK (X := Unit) (ts := [0, 4, 14, 15, 16]) (p := []) (fun _ => True) (fun _ => [(66, .bool (decide (¬ heldM ((ens xs).take i) (ens xs)[i])))]) (fun _ => []) (.cons rfl (.cons rfl (.cons rfl (.cons rfl (.cons rfl .nil))))) subT (.cons .nil) apT ?_ ?_
   ·refine go [10,0,2,15,0] ?_
    refine G.partP (t := 59) rfl (fun h59 => ?_) (fun h59 => ?_)
    ·have hnh : ¬ heldM ((ens xs).take i) (ens xs)[i] := held_none hpt (by rw [hg]; assumption)
     refine go [4,4,4,4,4,4,2,2,7] ?_
     exact G.meet (()) trT (.consE rfl (dec_t hnh) (.cons rfl (.cons rfl (.cons rfl (.cons rfl (.cons rfl .nil)))))) subT
    have hat : isAt ((ens xs).take i) (parentM xs[i].1.path).1 := Decidable.of_not_not (by assumption)
    obtain ⟨hkl, -⟩ := placeK_spec hso hat
    rw [List.length_take] at hkl
    obtain ⟨k, hk⟩ : ∃ k, placeK ((ens xs).take i) (parentM xs[i].1.path).1 = k := ⟨_, rfl⟩
    have hkk := held_kind hso hpt (x := (xs[k]'(by omega)).1) (by rw [hg]; exact hat) (by rw [hg, hk, List.getElem?_take_of_lt (by omega)]; exact ens_at (by omega))
    rw [hk] at hkl ⊢
    have hEk := helv k (by omega)
    have hRk := Ro.evRng hEk
    have hDk := Ro.evDat hEk
    obtain ⟨hk1k, hk2k, hlpk, hldk, hltk⟩ := Ro.evOk hEk
    have hCk := Ro.one1 hDk
    refine go [3,0,3,0] ?_
    refine G.want rfl rfl rfl (G.val rfl rfl (pv_ixSl (sz := 5) (k := k) Tryz.underlying32 kr rfl rfl Y18 (by omega) (by omega)) ?_)
    refine go [3,3,1,3,4,3,14,2,2,7] ?_
    exact G.meet (()) trT (.consE rfl (dec_e (not_congr hkk.symm)) (.cons rfl (.cons rfl (.cons rfl (.cons rfl (.cons rfl .nil)))))) subT
   intro _ hJ
   try dsimp only at hJ
   try dsimp only
   refine G.condP rfl (fun h66 => ?_) (fun h66 => ?_)
   ·refine go [9,10,0,1,1,7,8,11,17,12,12,17,12] ?_
    exact G.done0G rfl (Rv.tmp rfl (Rv.tmp rfl Rv.nil)) (by rw [checkT_bad (by omega) hlt' hJ0 (err_held hlt' h1 (by assumption) (by assumption)) (by omega)]; rfl)
   have hok0 : errT (ens xs) i = 0 := err_ok hlt' h1 (by assumption) (Decidable.of_not_not (by assumption))
   refine go [13,16,8,10,2,6,0,7] ?_
   exact G.next (i + 1) Y22 (by (try dsimp only); omega) (.consE rfl veqT (.cons rfl (.cons rfl (.cons rfl .nil)))) subT
  have hok0 : errT (ens xs) i = 0 := err_ok hlt' h1 (by assumption) (.inl (by rw [hg]; exact h48))
  refine go [13,16,8,10,2,6,0,7] ?_
  exact G.next (i + 1) Y22 (by (try dsimp only); omega) (.consE rfl veqT (.cons rfl (.cons rfl (.cons rfl .nil)))) subT
 refine go [18,14,14,19,8,9,10,1,1,7,8,11] ?_
 exact G.done0G rfl (Rv.tmp rfl (Rv.tmp rfl Rv.nil)) (by rw [checkT_ok (by omega) (fun q hq => hJ q (by omega))]; rfl)
def totM (es : List En) : Nat := (es.map fun e => e.path.length + e.data.length + e.to.length).sum
theorem sum_take_succ (f : En → Nat) {es : List En} {i : Nat} (h : i < es.length) : ((es.take (i + 1)).map f).sum = ((es.take i).map f).sum + f es[i] := by
 rw [List.take_succ_eq_append_getElem h, List.map_append, List.sum_append]
 simp
theorem totM_succ {xs : List ET} {i : Nat} (h : i < xs.length) : totM ((ens xs).take (i + 1)) = totM ((ens xs).take i) + (xs[i].1.path.length + xs[i].1.data.length + xs[i].1.to.length) := by
 unfold totM
 rw [sum_take_succ _ (by rw [ens_length]; exact h), ens_get h]
theorem ens_eq {xs ys : List ET} (hl : xs.length = ys.length) (h : ∀ q (hq : q < xs.length), xs[q].1 = (ys[q]'(by omega)).1) : ens xs = ens ys := by
 apply List.ext_getElem
 ·rw [ens_length, ens_length, hl]
 intro i h1 h2
 rw [ens_length] at h1
 rw [ens_get h1, ens_get (by omega)]
 exact h i h1
theorem ens_ne {xs ys : List ET} {i : Nat} (hx : i < xs.length) (hy : i < ys.length) (h : xs[i].1 ≠ ys[i].1) : ¬ ens xs = ens ys := fun e => by
 have h1 := ens_get hx
 have h2 := ens_get hy
 simp only [e] at h1
 exact h (h1.symm.trans h2)
theorem ens_len_ne {xs ys : List ET} (h : ¬ (xs.length : Int) = ys.length) : ¬ ens xs = ens ys := fun e => h (by
 have := congrArg List.length e
 rw [ens_length, ens_length] at this
 omega)
theorem heldNo {es : List En} {e : En} (h : (parentM e.path).2 = true) (h2 : ∀ q (hq : q < es.length), ¬ (es[q].path = (parentM e.path).1 ∧ es[q].kind = 1)) : ¬ heldM es e := by
 rintro (k | ⟨x, hx, k⟩)
 ·rw [h] at k
  cases k
 obtain ⟨j, hj, rfl⟩ := List.getElem_of_mem hx
 exact h2 j hj k
set_option maxRecDepth 20000 in
set_option maxHeartbeats 4000000 in
theorem held_tr {Ps Pd : Nat → Prop} (v : Value) (xs : List ET) (e : En) (d : Value) (hl : e.path.length ≤ 9223372036854775807) : Tr Tryz.prog 76 #[v, .agg #[.string (sB e.path), .int .i64 e.kind, .int .i64 e.mode, d, .string (sB e.to)]] [slc rEV Ps v xs, slc rByte Pd d e.data] [] (T0 (.bool (decide (heldM (ens xs) e)))) := by
 refine Tr.of (l := [(0, v), (1, .agg #[.string (sB e.path), .int .i64 e.kind, .int .i64 e.mode, d, .string (sB e.to)])]) Tryz.func76 rfl (n := 37) rfl (.cons rfl (.cons rfl .nil)) (fun w0 hro => ?_)
 obtain ⟨hv0, hd0⟩ := ro2 hro
 have hv := hv0
 have hv' := hv
 obtain ⟨av, cv, bv, fv, rfl, hcapv, hmaxv, hnilv, hadv, helv⟩ := Ro.openT hv
 have hel' := ens_length xs
 refine go [9,10,60,5] ?_
 intro b3
 refine go [1,7,8,9,10,2,3,0,2,4] ?_
 refine G.op rfl (G.cR rfl rfl rfl rfl Tryz.func97 rfl rfl may0 (parentR_tr _ (by omega)) ?_)
 refine go [0,2,7,2,7,1,1,7,8,9,9,10,0,2,25,7,8] ?_
 refine G.cond rfl (fun h15 => ?_) (fun h15 => ?_)
 ·refine go [9,10,1,7,8,11,12] ?_
  exact G.done0G rfl (Rv.tmp rfl Rv.nil) (by rw [decide_eq_true (show heldM (ens xs) e from .inl (by simpa using h15))]; rfl)
 have hpt : (parentM e.path).2 = true := by simpa using h15
 refine go [13,8,9,9,10,1,7,8,15] ?_
 refine G.loopK (X := Nat) (ts := [0, 5]) (fun i => i ≤ xs.length ∧ (∀ q (hq : q < xs.length), q < i → ¬ (xs[q].1.path = (parentM e.path).1 ∧ xs[q].1.kind = 1))) (fun i => [(7, .int .i64 (i : Int))]) (fun i => []) (fun i => xs.length - i) (x0 := 0) (.cons rfl (.cons rfl .nil)) subT (.cons .nil) apT Y13 (.consE rfl veqT .nil) (fun i hJ => ?_)
 try dsimp only at hJ
 try dsimp only
 obtain ⟨hki, hJ⟩ := hJ
 refine go [9,9,10,0,0,2,5,2,9,7,8] ?_
 refine G.condP rfl (fun h19 => ?_) (fun h19 => ?_)
 ·have hJ0 := hJ
  have hlt : i < xs.length := by omega
  have hEv := helv i hlt
  have hRv := Ro.evRng hEv
  have hDv := Ro.evDat hEv
  obtain ⟨hk1v, hk2v, hlpv, hldv, hltv⟩ := Ro.evOk hEv
  have hCv := Ro.one1 hDv
  refine go [13,8,9,15,9] ?_
  refine G.cutK (X := Unit) (ts := [0, 5, 7]) (p := []) (fun _ => True) (fun _ => [(36, .bool (decide (xs[i].1.path = (parentM e.path).1 ∧ xs[i].1.kind = 1)))]) (fun _ => []) (.cons rfl (.cons rfl (.cons rfl .nil))) subT (.cons .nil) apT ?_ ?_
  ·refine go [10,0,0,2,20,5,2,3,0,2,4,0,2,24,0] ?_
   refine G.partP (t := 29) rfl (fun h29 => ?_) (fun h29 => ?_)
   ·refine go [3,0,3,0,3,20,5,3,3,1,3,4,3,13,2,2,7] ?_
    exact G.meet (()) trT (.consE rfl (dec_e (by simp_all)) (.cons rfl (.cons rfl (.cons rfl .nil)))) subT
   refine go [4,4,4,4,4,4,2,2,7] ?_
   exact G.meet (()) trT (.consE rfl (dec_f (by simp_all)) (.cons rfl (.cons rfl (.cons rfl .nil)))) subT
  intro _ hJ
  try dsimp only at hJ
  try dsimp only
  refine G.condP rfl (fun h36 => ?_) (fun h36 => ?_)
  ·refine go [9,10,1,7,8,11,17,12,12,17,12] ?_
   exact G.done0G rfl (Rv.tmp rfl Rv.nil) (by rw [decide_eq_true (show heldM (ens xs) e from .inr ⟨xs[i].1, List.mem_map.2 ⟨_, List.getElem_mem hlt, rfl⟩, h36⟩)]; rfl)
  have hno := h36
  refine go [13,16,8,10,0,2,6,1,7] ?_
  exact G.next (i + 1) (by first | exact trivial | ((try dsimp only) <;> exact ⟨by omega, fun q hq hqi => by rcases Nat.lt_or_ge q i with h1 | h1; exact hJ0 q hq h1; obtain rfl : q = i := (by omega); exact hno⟩)) (by (try dsimp only); omega) (.consE rfl veqT (.cons rfl (.cons rfl .nil))) subT
 refine go [18,14,14,19,8,9,10,1,7,8,11] ?_
 exact G.done0G rfl (Rv.tmp rfl Rv.nil) (by rw [decide_eq_false (heldNo hpt (fun q hq => by rw [ens_get (by omega)]; exact hJ q (by omega) (by omega)))]; rfl)
set_option maxRecDepth 20000 in
set_option maxHeartbeats 4000000 in
theorem tcheckR_tr {Ps : Nat → Prop} (v : Value) (xs : List ET) : Tr Tryz.prog 59 #[v] [slc rEV Ps v xs] [] (T0 (.tuple #[.int .i64 (checkT (ens xs)).1, .int .i64 (checkT (ens xs)).2])) := by
 refine Tr.of (l := [(0, v)]) Tryz.func59 rfl (n := 58) rfl (.cons rfl .nil) (fun w0 hro => ?_)
 have hv := ro1 hro
 have hv' := hv
 obtain ⟨av, cv, bv, fv, rfl, hcapv, hmaxv, hnilv, hadv, helv⟩ := Ro.openT hv
 have hel' := ens_length xs
 refine go [9,10,1,1,7,8,9,9,10,0,2,5,2,10,7,8] ?_
 refine G.condP rfl (fun h8 => ?_) (fun h8 => ?_)
 ·refine go [9,10,1,1,7,8,11,12] ?_
  exact G.done0G rfl (Rv.tmp rfl (Rv.tmp rfl Rv.nil)) (by rw [checkT_many (by omega)]; rfl)
 refine go [13,8,9,9,10,1,7,8,15] ?_
 refine G.loopK (X := Nat) (ts := [0]) (fun i => i ≤ xs.length ∧ (∀ q, q < i → errT (ens xs) q = 0)) (fun i => [(4, .int .i64 (i : Int))]) (fun i => []) (fun i => xs.length - i) (x0 := 0) (.cons rfl .nil) subT (.cons .nil) apT (by first | exact trivial | ((try dsimp only) <;> exact ⟨Nat.zero_le _, fun q h => absurd h (by omega)⟩)) (.consE rfl veqT .nil) (fun i hJ => ?_)
 try dsimp only at hJ
 try dsimp only
 obtain ⟨hki, hJ⟩ := hJ
 refine go [9,9,10,0,0,2,5,2,9,7,8] ?_
 refine G.condP rfl (fun h12 => ?_) (fun h12 => ?_)
 ·have hJ0 := hJ
  have hlt : i < xs.length := by omega
  have hlt' : i < (ens xs).length := by omega
  have hg := ens_get hlt
  have hTk := Ro.takeT hv' (i := i) (by omega)
  have heq := errT_get hlt'
  rw [hg] at heq
  have hEv := helv i hlt
  have hRv := Ro.evRng hEv
  have hDv := Ro.evDat hEv
  obtain ⟨hk1v, hk2v, hlpv, hldv, hltv⟩ := Ro.evOk hEv
  have hCv := Ro.one1 hDv
  refine go [13,8,9,15,9,10,0,0,2,20,5,2,50,1] ?_
  refine G.op rfl (G.cR rfl rfl rfl rfl Tryz.func74 rfl rfl (may1 Y0) (oneR_tr _ _ (by omega)) ?_)
  refine go [1,7,8,9] ?_
  refine G.cutK (X := Unit) (ts := [0, 4]) (p := []) (fun _ => True) (fun _ => [(5, .int .i64 (if oneM xs[i].1 = 0 ∧ prevBad (ens xs) i then 7 else oneM xs[i].1))]) (fun _ => []) (.cons rfl (.cons rfl .nil)) subT (.cons .nil) apT ?_ ?_
  ·refine G.seq ?_
   refine G.cutK (X := Unit) (ts := [0, 4, 5]) (p := []) (fun _ => True) (fun _ => [(40, .bool (decide (oneM xs[i].1 = 0 ∧ prevBad (ens xs) i)))]) (fun _ => []) (.cons rfl (.cons rfl (.cons rfl .nil))) subT (.cons .nil) apT ?_ ?_
   ·refine G.drawT (nn := 21) (p := []) (rem := 2097151) [0, 1, 2, 4, 12, 20, 36, 64, 64, 320, 704, 1088, 2112, 64, 64, 24640, 32832, 65600, 135232, 262208, 524352] [0, 1, 2, 4, 12, 20, 32, 64, 64, 320, 704, 1088, 2112, 64, 64, 24640, 32832, 65600, 135232, 262208, 524352] kr ⟨rfl, by kernel_rfl, by kernel_rfl⟩ subT kr (fun hT7 => ?_)
    refine go [22,0,2097150,0,22,1,2097148,13,22,2,2097144,0] ?_
    refine G.partP (t := 22) rfl (fun h22 => ?_) (fun h22 => ?_)
    ·refine go [22,3,2097136,0,22,4,2097120,10,22,5,2097088,2,22,6,2097024,0] ?_
     refine G.partP (t := 26) rfl (fun h26 => ?_) (fun h26 => ?_)
     ·have hi0 : 0 < i := by omega
      have hEp := helv (i - 1) (by omega)
      have hRp := Ro.evRng hEp
      have hDp := Ro.evDat hEp
      obtain ⟨hk1p, hk2p, hlpp, hldp, hltp⟩ := Ro.evOk hEp
      have hCp := Ro.one1 hDp
      have hpv := prev_pos hi0 hlt'
      rw [hg, ens_get (show i - 1 < xs.length by omega)] at hpv
      refine go [22,7,2096896,0,22,8,2096640,0,22,9,2096128,19] ?_
      refine G.takeT hT7 (i := 10) (rem' := 2095104) rfl rfl rfl kr (fun _ _ _ h => h) rfl (pv_ixSl (sz := 5) (k := i - 1) Tryz.underlying32 kr rfl rfl Y18 (by omega) (by omega)) subT ?_
      refine go [22,11,2093056,3,0,22,12,2088960,4,22,13,2080768,0,22,14,2064384,0,22,15,2031616,20,5,22,16,1966080,3,0,24,17,1835008,25,4,26,24,18,1572864] ?_
      refine G.turnOp rfl rfl (G.cR rfl rfl rfl rfl Tryz.func75 rfl rfl may0 (compareR_tr _ _ (by omega) (by omega)) ?_)
      refine go [26,22,19,1048576,12,22,20,0,2,27] ?_
      exact G.meet (()) trT (.consE rfl Y23 (.cons rfl (.cons rfl (.cons rfl .nil)))) subT
     refine go [23,7,2096896,23,8,2096640,23,9,2096128,23,10,2095104,23,11,2093056,23,12,2088960,23,13,2080768,23,14,2064384,23,15,2031616,23,16,1966080,23,17,1835008,23,18,1572864,23,19,1048576,22,20,0,2,27] ?_
     exact G.meet (()) trT (.consE rfl Y23 (.cons rfl (.cons rfl (.cons rfl .nil)))) subT
    refine go [23,3,2097136,23,4,2097120,22,5,2097088,2,22,6,2097024,0,23,7,2096896,23,8,2096640,23,9,2096128,23,10,2095104,23,11,2093056,23,12,2088960,23,13,2080768,23,14,2064384,23,15,2031616,23,16,1966080,23,17,1835008,23,18,1572864,23,19,1048576,22,20,0,2,27] ?_
    exact G.meet (()) trT (.consE rfl Y23 (.cons rfl (.cons rfl (.cons rfl .nil)))) subT
   intro _ hJ
   try dsimp only at hJ
   try dsimp only
   refine G.condP rfl (fun h40 => ?_) (fun h40 => ?_)
   ·refine go [10,1,7] ?_
    exact G.meet (()) trT (.consE rfl (int_eq (by rw [if_pos (by assumption)])) (.cons rfl (.cons rfl .nil))) subT
   refine G.skip ?_
   exact G.meet (()) trT (.consE rfl (int_eq (by rw [if_neg (by assumption)])) (.cons rfl (.cons rfl .nil))) subT
  intro _ hJ
  try dsimp only at hJ
  try dsimp only
  refine G.seq ?_
  refine G.cutK (X := Unit) (ts := [0, 4]) (p := []) (fun _ => True) (fun _ => [(5, .int .i64 (errT (ens xs) i))]) (fun _ => []) (.cons rfl (.cons rfl .nil)) subT (.cons .nil) apT ?_ ?_
  ·refine G.seq ?_
   refine G.cutK (X := Unit) (ts := [0, 4, 5]) (p := []) (fun _ => True) (fun _ => [(53, .bool (decide ((if oneM xs[i].1 = 0 ∧ prevBad (ens xs) i then 7 else oneM xs[i].1) = 0 ∧ ¬ heldM ((ens xs).take i) xs[i].1)))]) (fun _ => []) (.cons rfl (.cons rfl (.cons rfl .nil))) subT (.cons .nil) apT ?_ ?_
   ·refine G.drawT (nn := 13) (p := []) (rem := 8191) [0, 1, 2, 4, 4, 28, 4, 4, 196, 260, 548, 1028, 2052] [0, 1, 2, 4, 4, 28, 4, 4, 196, 260, 548, 1028, 2052] kr ⟨rfl, by kernel_rfl, by kernel_rfl⟩ subT kr (fun hT9 => ?_)
    refine go [22,0,8190,0,22,1,8188,13,22,2,8184,0] ?_
    refine G.partP (t := 43) rfl (fun h43 => ?_) (fun h43 => ?_)
    ·refine go [22,3,8176,0,22,4,8160,0] ?_
     refine G.takeT hT9 (i := 5) (rem' := 8128) rfl rfl rfl kr (fun _ _ _ h => h) rfl (pv_subH (sz := 5) Tryz.underlying32 kr rfl rfl rfl (by omega)) subT ?_
     refine go [22,6,8064,0,22,7,7936,0,22,8,7680,20,5,24,9,7168,25,50,1,26,24,10,6144] ?_
     refine G.turnOp rfl rfl (G.cR rfl rfl rfl rfl Tryz.func76 rfl rfl (may2 Y0 Y0) (held_tr _ (xs.take i) _ _ (by omega)) ?_)
     rw [ens_take]
     refine go [26,22,11,4096,15,22,12,0,2,27] ?_
     exact G.meet (()) trT (.consE rfl (by first | exact dec_e ⟨fun h => ⟨by assumption, h⟩, fun h => h.2⟩ | exact dec_f (fun h => absurd h.1 (by assumption))) (.cons rfl (.cons rfl (.cons rfl .nil)))) subT
    refine go [23,3,8176,23,4,8160,23,5,8128,23,6,8064,23,7,7936,23,8,7680,23,9,7168,23,10,6144,23,11,4096,22,12,0,2,27] ?_
    exact G.meet (()) trT (.consE rfl (by first | exact dec_e ⟨fun h => ⟨by assumption, h⟩, fun h => h.2⟩ | exact dec_f (fun h => absurd h.1 (by assumption))) (.cons rfl (.cons rfl (.cons rfl .nil)))) subT
   intro _ hJ
   try dsimp only at hJ
   try dsimp only
   refine G.condP rfl (fun h53 => ?_) (fun h53 => ?_)
   ·refine go [10,1,7] ?_
    exact G.meet (()) trT (.consE rfl (int_eq (heq.trans (if_pos (by assumption))).symm) (.cons rfl (.cons rfl .nil))) subT
   refine G.skip ?_
   exact G.meet (()) trT (.consE rfl (int_eq (heq.trans (if_neg (by assumption))).symm) (.cons rfl (.cons rfl .nil))) subT
  intro _ hJ
  try dsimp only at hJ
  try dsimp only
  refine go [9,10,0,2,14,7,8] ?_
  refine G.condP rfl (fun h55 => ?_) (fun h55 => ?_)
  ·refine go [9,10,0,0,1,1,7,8,11,17,12,12,17,12] ?_
   exact G.done0G rfl (Rv.tmp rfl (Rv.tmp rfl Rv.nil)) (by rw [checkT_bad (by omega) hlt' hJ0 rfl (by assumption)]; rfl)
  have hok0 : errT (ens xs) i = 0 := by omega
  refine go [13,16,8,10,0,2,6,1,7] ?_
  exact G.next (i + 1) Y22 (by (try dsimp only); omega) (.consE rfl veqT (.cons rfl .nil)) subT
 refine go [18,14,14,19,8,9,10,1,1,7,8,11] ?_
 exact G.done0G rfl (Rv.tmp rfl (Rv.tmp rfl Rv.nil)) (by rw [checkT_ok (by omega) (fun q hq => hJ q (by omega))]; rfl)
end Go.Proofs.YtakeannapfaodaaGreat
