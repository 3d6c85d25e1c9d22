/- Merged of Bk, FrameG, Law, Opg, PA, Shelf, PB, PC, PE, PF, PG, PI, PL, KB, TreeA, TA, TB, TC, TD, TE, TF, TG, TreeB, TH, WM, XA, XB. Conditions: none. -/
import Derived.Test.YtakeannapfaodaaEa
import Derived.ProofKit
import Derived.OpenShut
import Derived.SizedLaws
import Derived.JoinedCond
import Derived.Deep.CondSized
import Derived.Deep.SlicePairs
import Derived.ChangeSlices
import Derived.Lib.SmallJoins
import Derived.Test.YtakeannapfaodaaRows
import Derived.Deep.Slices
import Derived.Shelf.Small.Bits
import Derived.Shelf.Strconv.Itoa0
import Derived.Shelf.Strings.Search1
import Derived.Shelf.Strings.Search2
import Derived.Shelf.Strings.Cut
import Derived.Shelf.LaysM
import Derived.Shelf.Strings.Shaped
import Derived.Ground.Names2Prog
import Derived.Shelf.Slices.SearchI
import Derived.Test.YtakeannapfaodaaProg
import Derived.Maps.Keyed
set_option maxRecDepth 100000
namespace Go.Proofs.Ytakeannapfaodaa
open Go.RowKit
section
open Go.RowKit
variable {w0 : World} {S : Nat → Prop} {m : List Ck}
theorem subT {p r : List Ck} (h : Sub m p r := by repeat (first | exact Sub.nil | (apply Sub.cons; (repeat (first | with_reducible exact Sel.here | exact Sel.here | apply Sel.there))))) : Sub m p r := h
theorem selD {c : Ck} {r : List Ck} (h : Sel m c r := by (repeat (first | with_reducible exact Sel.here | exact Sel.here | apply Sel.there)); done) : Sel m c r := h
theorem selT {c : Ck} {r : List Ck} (h : Sel m c r := by repeat (first | with_reducible exact Sel.here | exact Sel.here | apply Sel.there)) : Sel m c r := h
theorem celT {b o : Nat} {v : Value} (h : ∀ w, Hp w0 S w m → w.cell? ⟨b, o, none⟩ = some v := by first | exact blk_cell (by (repeat (first | with_reducible exact Sel.here | exact Sel.here | apply Sel.there)); done) (by rfl) | exact rng_cell (by (repeat (first | with_reducible exact Sel.here | exact Sel.here | apply Sel.there)); done) (by rfl) | exact ro_blk (by assumption) (by rfl) | exact ro_rngC (by assumption) (by rfl) | exact ro_int (by assumption) | exact ro_byte (by assumption) | exact ro_str (by assumption) | with_reducible assumption | assumption) : ∀ w, Hp w0 S w m → w.cell? ⟨b, o, none⟩ = some v := h
theorem flT {pl : List (Nat × Nat)} {cs cs' : List Value} {ps : List (Nat × Value)} (h : Fl pl cs ps cs' := by repeat (first | exact Fl.nil | (apply Fl.cons; exact rfl; (first | exact cells_of (by first | rfl | with_reducible assumption) | exact rfl); exact rfl; exact rfl; repeat (first | exact Sn.nil | (apply Sn.cons; repeat (first | exact St.zero | apply St.succ)))))) : Fl pl cs ps cs' := h
theorem veqT {a b : Value} (h : a = b := by first | rfl | exact int_eq (by first | omega | (dsimp only; omega)) | exact congrArg _ (by omega)) : a = b := h
theorem allT {vs : List Value} (h : vs.all (·.oneCell') = true := by first | ((repeat (first | exact all1_nil | (apply all1_cons; first | rfl | with_reducible assumption))); done) | exact List.all_eq_true.2 (vByte_one _) | rfl) : vs.all (·.oneCell') = true := h
theorem eqT {α : Sort _} {a b : α} (h : a = b := by first | rfl | with_reducible assumption) : a = b := h
theorem leT {a b : Nat} (h : a ≤ b := by first | (simp; done) | exact Nat.le_of_ble_eq_true rfl) : a ≤ b := h
theorem trT {p : Prop} (h : p := by first | exact trivial | ((try dsimp only) <;> exact trivial)) : p := h
theorem kr {α : Sort _} {a b : α} (h : a = b := by kernel_rfl) : a = b := h
theorem apT {X α : Type} {a c : X → List α} {b : List α} (h : Ap a b c := by repeat (first | exact Ap.nil | apply Ap.cons)) : Ap a b c := h
end
section
open Go.RowKit
variable {P : Program} {n : Nat} {w0 : World} {S : Nat → Prop} {l : Fr} {m : List Ck} {Q : Exit → Act → World → Prop} {ty : TypeId} {pos : String} {after : Array Edge}
theorem G.mvT {ops : Array Oper} {d : Nat} {x : Operand} {v : Value} {rest : List Oper} (hn : Nat.blt d n = true) (hx : ev l x = some v) (h : G n w0 S ((d, v) :: l) m (wpList P ops Q rest)) : G n w0 S l m (wpList P ops Q (⟨some d, .move x, ty, pos, after, none⟩ :: rest)) := G.op rfl (G.val rfl hn (pv_move hx) h)
theorem G.asT {ops : Array Oper} {d : Nat} {x : Operand} {v : Value} {rest : List Oper} (hn : Nat.blt d n = true) (hx : ev l x = some v) (h : G n w0 S ((d, v) :: l) m (wpList P ops Q rest)) : G n w0 S l m (wpList P ops Q (⟨some d, .assign x, ty, pos, after, none⟩ :: rest)) := G.op rfl (G.val rfl hn (pv_assign hx) h)
end
section
open Go.RowKit
structure Ar (cs : List Nat) (p q : Prop) : Prop where
 go : q → p
variable {P : Program} {n : Nat} {w0 : World} {S : Nat → Prop} {l : Fr} {m mS r : List Ck} {Q : Exit → Act → World → Prop} {K : Act → World → Prop} {ty : TypeId} {pos : String} {after : Array Edge} {cs c1 : List Nat} {q : Prop}
 {dst : Option Tmp} {g : Option (Nat × Bool)} {rest : List Oper} {ops : Array Oper} {o oi : Oper} {d i j t nn fuel rem rem' : Nat} {v : Value} {deps frs : List Nat}
def szB (P : Program) (t : TypeId) : Bool := match P.info? t with
 | some i => Nat.blt 0 i.size
 | none => false
theorem szB_spec (h : szB P t = true) : ∃ s, (P.info? t).map (·.size) = some (s + 1) := by
 unfold szB at h
 split at h
 ·rename_i i e
  have h2 : 0 < i.size := by simpa using h
  exact ⟨i.size - 1, by rw [e]; simp; omega⟩
 ·cases h
structure Pc (c c1 : List Nat) (P : Program) (n : Nat) (w0 : World) (S : Nat → Prop) (l : Fr) (m : List Ck) (o : Oper) (v : Value) : Prop where
 pv : PV P n w0 S l m o v
theorem Pc.mv {x : Operand} (hx : ev l x = some v) : Pc (0 :: cs) cs P n w0 S l m ⟨dst, .move x, ty, pos, after, g⟩ v := ⟨pv_move hx⟩
theorem Pc.as {x : Operand} (hx : ev l x = some v) : Pc (1 :: cs) cs P n w0 S l m ⟨dst, .assign x, ty, pos, after, g⟩ v := ⟨pv_assign hx⟩
theorem Pc.pk {c x y : Operand} {b : Bool} (hc : ev l c = some (.bool b)) (hv : ev l (if b then x else y) = some v) : Pc (2 :: cs) cs P n w0 S l m ⟨dst, .pick c x y, ty, pos, after, g⟩ v := ⟨pv_pick hc hv⟩
theorem Pc.fk {b o i k : Nat} {t : TypeId} {x : Operand} {fs : Array Field} {f : Field} (hu : P.underlying t = some (.struct fs)) (hf : fs[i]? = some f) (hsz : szB P f.type = true) (hx : ev l x = some (.pointer (some ⟨b, o, none⟩))) (hk : f.offset = k) : Pc (3 :: k :: cs) cs P n w0 S l m ⟨dst, .fieldAddr t x i, ty, pos, after, g⟩ (.pointer (some ⟨b, o + k, none⟩)) := by
 obtain ⟨s, hs⟩ := szB_spec hsz
 exact ⟨pv_fieldAddrK hu hf hs hx hk⟩
theorem Pc.ld {t : TypeId} {x : Operand} {b o : Nat} {d : TypeDesc} (hu : P.underlying t = some d) (hd : d.isRow = false) (hx : ev l x = some (.pointer (some ⟨b, o, none⟩))) (hc : ∀ w, Hp w0 S w m → w.cell? ⟨b, o, none⟩ = some v) : Pc (4 :: cs) cs P n w0 S l m ⟨dst, .load t x, ty, pos, after, g⟩ v := ⟨pv_load hu hd hx hc⟩
theorem Pc.ln {ad : Option Addr} {len cap : Nat} {t e : TypeId} {x : Operand} (hu : P.underlying t = some (.slice e)) (hx : ev l x = some (.slice ad len cap)) : Pc (5 :: cs) cs P n w0 S l m ⟨dst, .call ⟨.builtin .len, #[x], #[t]⟩, ty, pos, after, g⟩ (.int .i64 len) := ⟨pv_lenSl hu hx⟩
theorem Pc.ad {a b : Int} {t u : TypeId} {x y : Operand} (hx : ev l x = some (.int .i64 a)) (hy : ev l y = some (.int .i64 b)) (h : -9223372036854775808 ≤ a + b ∧ a + b ≤ 9223372036854775807) : Pc (6 :: cs) cs P n w0 S l m ⟨dst, .binOp .add t x y u, ty, pos, after, g⟩ (.int .i64 (a + b)) := ⟨pv_add64 hx hy h⟩
theorem Pc.ex {x : Operand} {i : Nat} {vs : Array Value} (hx : ev l x = some (.tuple vs)) (hi : vs[i]? = some v) : Pc (7 :: cs) cs P n w0 S l m ⟨dst, .extract x i, ty, pos, after, g⟩ v := ⟨pv_extract hx hi⟩
theorem Pc.nc {x : Operand} {ad : Addr} (hx : ev l x = some (.pointer (some ad))) : Pc (8 :: cs) cs P n w0 S l m ⟨dst, .nilCheck x, ty, pos, after, g⟩ (.pointer (some ad)) := ⟨pv_nilCheck hx⟩
theorem Pc.lss {k : IntKind} {a b : Int} {t u : TypeId} {x y : Operand} (hx : ev l x = some (.int k a)) (hy : ev l y = some (.int k b)) : Pc (9 :: cs) cs P n w0 S l m ⟨dst, .binOp .lss t x y u, ty, pos, after, g⟩ (.bool (decide (a < b))) := ⟨pv_lss hx hy⟩
theorem Pc.gtr {k : IntKind} {a b : Int} {t u : TypeId} {x y : Operand} (hx : ev l x = some (.int k a)) (hy : ev l y = some (.int k b)) : Pc (10 :: cs) cs P n w0 S l m ⟨dst, .binOp .gtr t x y u, ty, pos, after, g⟩ (.bool (decide (b < a))) := ⟨pv_gtr hx hy⟩
theorem Pc.leq {k : IntKind} {a b : Int} {t u : TypeId} {x y : Operand} (hx : ev l x = some (.int k a)) (hy : ev l y = some (.int k b)) : Pc (11 :: cs) cs P n w0 S l m ⟨dst, .binOp .leq t x y u, ty, pos, after, g⟩ (.bool (decide (a ≤ b))) := ⟨pv_leq hx hy⟩
theorem Pc.geq {k : IntKind} {a b : Int} {t u : TypeId} {x y : Operand} (hx : ev l x = some (.int k a)) (hy : ev l y = some (.int k b)) : Pc (12 :: cs) cs P n w0 S l m ⟨dst, .binOp .geq t x y u, ty, pos, after, g⟩ (.bool (decide (b ≤ a))) := ⟨pv_geq hx hy⟩
theorem Pc.eql {k : IntKind} {a b : Int} {t u : TypeId} {x y : Operand} (hx : ev l x = some (.int k a)) (hy : ev l y = some (.int k b)) : Pc (13 :: cs) cs P n w0 S l m ⟨dst, .binOp .eql t x y u, ty, pos, after, g⟩ (.bool (decide (a = b))) := ⟨pv_eql hx hy⟩
theorem Pc.neq {k : IntKind} {a b : Int} {t u : TypeId} {x y : Operand} (hx : ev l x = some (.int k a)) (hy : ev l y = some (.int k b)) : Pc (14 :: cs) cs P n w0 S l m ⟨dst, .binOp .neq t x y u, ty, pos, after, g⟩ (.bool (decide (a ≠ b))) := ⟨pv_neq hx hy⟩
theorem Pc.np {p : Prop} [Decidable p] {t : TypeId} {x : Operand} (hx : ev l x = some (.bool (decide p))) : Pc (15 :: cs) cs P n w0 S l m ⟨dst, .unOp .not t x, ty, pos, after, g⟩ (.bool (decide (¬ p))) := ⟨pv_notP hx⟩
theorem Pc.su {a b : Int} {t u : TypeId} {x y : Operand} (hx : ev l x = some (.int .i64 a)) (hy : ev l y = some (.int .i64 b)) (h : -9223372036854775808 ≤ a - b ∧ a - b ≤ 9223372036854775807) : Pc (19 :: cs) cs P n w0 S l m ⟨dst, .binOp .sub t x y u, ty, pos, after, g⟩ (.int .i64 (a - b)) := ⟨pv_sub64 hx hy h⟩
theorem Pc.ix {b off len cap k : Nat} (sz : Nat) {ad : Option Addr} {j : Int} {kd : IntKind} {t e : TypeId} {x i : Operand} (hu : P.underlying t = some (.slice e)) (hsz : (P.info? e).map (·.size) = some sz) (hx : ev l x = some (.slice ad len cap)) (hi : ev l i = some (.int kd j)) (ha' : 0 < len → ad = some ⟨b, off, none⟩) (hj : j = (k : Int)) (hk : k < len) : Pc (20 :: sz :: cs) cs P n w0 S l m ⟨dst, .indexAddr t x i, ty, pos, after, g⟩ (.pointer (some ⟨b, off + k * sz, none⟩)) := ⟨pv_ixSl hu hsz hx hi ha' hj hk⟩
theorem Pc.lS {a : List UInt8} {t : TypeId} {x : Operand} (hu : P.underlying t = some .string) (hx : ev l x = some (.string (sB a))) : Pc (21 :: cs) cs P n w0 S l m ⟨dst, .call ⟨.builtin .len, #[x], #[t]⟩, ty, pos, after, g⟩ (.int .i64 a.length) := ⟨pv_lenS hu hx⟩
theorem Pc.xS {a : List UInt8} {k : Nat} {j : Int} {kd : IntKind} {t : TypeId} {x i : Operand} (hu : P.underlying t = some .string) (hx : ev l x = some (.string (sB a))) (hi : ev l i = some (.int kd j)) (hj : j = (k : Int)) (hk : k < a.length) : Pc (22 :: cs) cs P n w0 S l m ⟨dst, .index t x i, ty, pos, after, g⟩ (.int .u8 (a[k].toNat : Int)) := ⟨pv_ixS hu hx hi hj hk⟩
theorem Pc.nS {a b : List UInt8} {t u : TypeId} {x y : Operand} (hx : ev l x = some (.string (sB a))) (hy : ev l y = some (.string (sB b))) : Pc (23 :: cs) cs P n w0 S l m ⟨dst, .binOp .neq t x y u, ty, pos, after, g⟩ (.bool (decide (a ≠ b))) := ⟨pv_neqS hx hy⟩
theorem Pc.eS {a b : List UInt8} {t u : TypeId} {x y : Operand} (hx : ev l x = some (.string (sB a))) (hy : ev l y = some (.string (sB b))) : Pc (24 :: cs) cs P n w0 S l m ⟨dst, .binOp .eql t x y u, ty, pos, after, g⟩ (.bool (decide (a = b))) := ⟨pv_eqlS hx hy⟩
theorem Pc.no {b : Bool} {t : TypeId} {x : Operand} (hx : ev l x = some (.bool b)) : Pc (25 :: cs) cs P n w0 S l m ⟨dst, .unOp .not t x, ty, pos, after, g⟩ (.bool (!b)) := ⟨pv_not hx⟩
theorem Pc.mf {fn : Fn} {first captured : Array Operand} {vs us : List Value} (h1 : evs l first.toList = some vs) (h2 : evs l captured.toList = some us) : Pc (26 :: cs) cs P n w0 S l m ⟨dst, .makeFunc fn first captured, ty, pos, after, g⟩ (.func fn vs.toArray us.toArray) := ⟨pv_makeFunc h1 h2⟩
theorem Ar.nil {p : Prop} : Ar [] p p := ⟨id⟩
theorem Ar.mv {x : Operand} (hn : Nat.blt d n = true) (hx : ev l x = some v) (h : Ar cs (G n w0 S ((d, v) :: l) m (wpList P ops Q rest)) q) : Ar (0 :: cs) (G n w0 S l m (wpList P ops Q (⟨some d, .move x, ty, pos, after, none⟩ :: rest))) q := ⟨fun k => G.mvT hn hx (h.go k)⟩
theorem Ar.as {x : Operand} (hn : Nat.blt d n = true) (hx : ev l x = some v) (h : Ar cs (G n w0 S ((d, v) :: l) m (wpList P ops Q rest)) q) : Ar (1 :: cs) (G n w0 S l m (wpList P ops Q (⟨some d, .assign x, ty, pos, after, none⟩ :: rest))) q := ⟨fun k => G.asT hn hx (h.go k)⟩
theorem Ar.op (hg : o.guard = none) (hd : o.dst = some d) (hn : Nat.blt d n = true) (hv : Pc cs c1 P n w0 S l m o v) (h : Ar c1 (G n w0 S ((d, v) :: l) m (wpList P ops Q rest)) q) : Ar (2 :: cs) (G n w0 S l m (wpList P ops Q (o :: rest))) q := ⟨fun k => G.op hg (G.val hd hn hv.pv (h.go k))⟩
theorem Ar.wa {b : Bool} (hg : o.guard = some (j, b)) (hj : (ops[j]?).bind (·.dst) = some t) (ht : Fr.get l t = some (.bool b)) (hd : o.dst = some d) (hn : Nat.blt d n = true) (hv : Pc cs c1 P n w0 S l m o v) (h : Ar c1 (G n w0 S ((d, v) :: l) m (wpList P ops Q rest)) q) : Ar (3 :: cs) (G n w0 S l m (wpList P ops Q (o :: rest))) q := ⟨fun k => G.want hg hj ht (G.val hd hn hv.pv (h.go k))⟩
theorem Ar.pa {b c : Bool} (hg : o.guard = some (j, b)) (hj : (ops[j]?).bind (·.dst) = some t) (ht : Fr.get l t = some (.bool c)) (hbc : Bool.xor b c = true) (hd : o.dst = some d) (hn : Nat.blt d n = true) (h : Ar cs (G n w0 S ((d, undef) :: l) m (wpList P ops Q rest)) q) : Ar (4 :: cs) (G n w0 S l m (wpList P ops Q (o :: rest))) q := ⟨fun k => G.pass hg hj ht hbc hd hn (h.go k)⟩
theorem Ar.pu {b : Bool} (hg : o.guard = some (j, b)) (hj : (ops[j]?).bind (·.dst) = some t) (ht : Fr.get l t = some undef) (hd : o.dst = some d) (hn : Nat.blt d n = true) (h : Ar cs (G n w0 S ((d, undef) :: l) m (wpList P ops Q rest)) q) : Ar (6 :: cs) (G n w0 S l m (wpList P ops Q (o :: rest))) q := ⟨fun k => G.passU hg hj ht hd hn (h.go k)⟩
theorem Ar.nl (h : Ar cs (G n w0 S l m (Q .normal)) q) : Ar (7 :: cs) (G n w0 S l m (wpList P ops Q [])) q := ⟨fun k => G.nil (h.go k)⟩
theorem Ar.nt (h : Ar cs (G n w0 S l m K) q) : Ar (8 :: cs) (G n w0 S l m (Exit.then K Q .normal)) q := ⟨fun k => G.nThen (h.go k)⟩
theorem Ar.sq {x y : Code} (h : Ar cs (G n w0 S l m (x.wp P (Exit.then (y.wp P Q) Q))) q) : Ar (9 :: cs) (G n w0 S l m ((Code.seq x y).wp P Q)) q := ⟨fun k => G.seq (h.go k)⟩
theorem Ar.rg {id : Nat} {ops : List Oper} (h : Ar cs (G n w0 S l m (wpList P ops.toArray Q ops)) q) : Ar (10 :: cs) (G n w0 S l m ((Code.region id ops.toArray false).wp P Q)) q := ⟨fun k => G.region (h.go k)⟩
theorem Ar.re (h : Ar cs (G n w0 S l m (Q .ret)) q) : Ar (11 :: cs) (G n w0 S l m (Code.ret.wp P Q)) q := ⟨fun k => G.ret (h.go k)⟩
theorem Ar.rt (h : Ar cs (G n w0 S l m (Q .ret)) q) : Ar (12 :: cs) (G n w0 S l m (Exit.then K Q .ret)) q := ⟨fun k => G.rThen (h.go k)⟩
theorem Ar.sk (h : Ar cs (G n w0 S l m (Q .normal)) q) : Ar (13 :: cs) (G n w0 S l m (Code.skip.wp P Q)) q := ⟨fun k => G.skip (h.go k)⟩
theorem Ar.et {id : Nat} (h : Ar cs (G n w0 S l m (Q (.exit id))) q) : Ar (14 :: cs) (G n w0 S l m (Exit.then K Q (.exit id))) q := ⟨fun k => G.eThen (h.go k)⟩
theorem Ar.bl {id : Nat} {c : Code} (h : Ar cs (G n w0 S l m (c.wp P (Exit.inBlock id Q))) q) : Ar (15 :: cs) (G n w0 S l m ((Code.block id c).wp P Q)) q := ⟨fun k => G.block (h.go k)⟩
theorem Ar.nb {id : Nat} (h : Ar cs (G n w0 S l m (Q .normal)) q) : Ar (16 :: cs) (G n w0 S l m (Exit.inBlock id Q .normal)) q := ⟨fun k => G.nBlock (h.go k)⟩
theorem Ar.rb {id : Nat} (h : Ar cs (G n w0 S l m (Q .ret)) q) : Ar (17 :: cs) (G n w0 S l m (Exit.inBlock id Q .ret)) q := ⟨fun k => G.rBlock (h.go k)⟩
theorem Ar.xi {id : Nat} (h : Ar cs (G n w0 S l m (Q (.exit id))) q) : Ar (18 :: cs) (G n w0 S l m ((Code.exit id).wp P Q)) q := ⟨fun k => G.exit (h.go k)⟩
theorem Ar.eb {id : Nat} (h : Ar cs (G n w0 S l m (Q .normal)) q) : Ar (19 :: cs) (G n w0 S l m (Exit.inBlock id Q (.exit id))) q := ⟨fun k => G.eBlock (h.go k)⟩
theorem Ar.sN {t : TypeId} {x y : Operand} {b o : Nat} {T : TypeId} {us vs : List Value} (hi : (P.info? t).map (·.size) = some vs.length) (hx : ev l x = some (.pointer (some ⟨b, o, none⟩))) (hy : ev l y = some (.agg vs.toArray)) (hv : vs.all (·.oneCell') = true) (hs : Sel m (blk b T us) r) (ho : o + vs.length ≤ us.length)
 (h : Ar cs (G n w0 S l (blk b T (putN us o vs) :: r) (wpList P ops Q rest)) q) : Ar (20 :: cs) (G n w0 S l m (wpList P ops Q (⟨none, .store t x y, ty, pos, after, none⟩ :: rest))) q := ⟨fun k => G.op rfl (G.storeN hi hx hy hv hs ho (h.go k))⟩
theorem Ar.so {t : TypeId} {x y : Operand} {b o : Nat} {T : TypeId} {us : List Value} (hi : (P.info? t).map (·.size) = some 1) (hx : ev l x = some (.pointer (some ⟨b, o, none⟩))) (hy : ev l y = some v) (hv : v.oneCell' = true) (hs : Sel m (blk b T us) r) (ho : o < us.length)
 (h : Ar cs (G n w0 S l (blk b T (us.set o v) :: r) (wpList P ops Q rest)) q) : Ar (21 :: cs) (G n w0 S l m (wpList P ops Q (⟨none, .store t x y, ty, pos, after, none⟩ :: rest))) q := ⟨fun k => G.op rfl (G.store hi hx hy hv hs ho (h.go k))⟩
theorem Ar.tk (i rem' : Nat) (hT : Tab ops deps frs nn) (hi : ops[i]? = some oi) (hd : oi.dst = some d) (hn : Nat.blt d n = true) (hk : tkB deps frs rem i rem' = true) (hQ : ∀ c a w, Q (.panic c) (a.put oi.dst v) w → Q (.panic c) a w) (hw : wantB ops l oi = some true) (hv : Pc cs c1 P n w0 S l mS oi v) (hs : Sub m mS r)
 (h : Ar c1 (G n w0 S ((d, v) :: l) m (GA P ops Q (fun w => Hp w0 S w mS) nn fuel rem')) q) : Ar (22 :: i :: rem' :: cs) (G n w0 S l m (GA P ops Q (fun w => Hp w0 S w mS) nn (fuel + 1) rem)) q := ⟨fun k => G.takeT hT hi hd hn hk hQ hw hv.pv hs (h.go k)⟩
theorem Ar.tf (i rem' : Nat) (hT : Tab ops deps frs nn) (hi : ops[i]? = some oi) (hd : oi.dst = some d) (hn : Nat.blt d n = true) (hk : tkB deps frs rem i rem' = true) (hQ : ∀ c a w, Q (.panic c) (a.put oi.dst undef) w → Q (.panic c) a w) (hw : wantB ops l oi = some false) (hs : Sub m mS r)
 (h : Ar cs (G n w0 S ((d, undef) :: l) m (GA P ops Q (fun w => Hp w0 S w mS) nn fuel rem')) q) : Ar (23 :: i :: rem' :: cs) (G n w0 S l m (GA P ops Q (fun w => Hp w0 S w mS) nn (fuel + 1) rem)) q := ⟨fun k => G.takeFT hT hi hd hn hk hQ hw hs (h.go k)⟩
theorem Ar.on {Sx : World → Prop} (i rem' : Nat) (hT : Tab ops deps frs nn) (hr : rdB deps rem [i] = true) (hb : rmB rem i rem' = true) (h : Ar cs (G n w0 S l m (wpOp P ops Q i (fun a w => Sx w ∧ GA P ops Q Sx nn fuel rem' a w))) q) : Ar (24 :: i :: rem' :: cs) (G n w0 S l m (GA P ops Q Sx nn (fuel + 1) rem)) q := ⟨fun k => G.oneT hT hr hb (h.go k)⟩
theorem Ar.tu (hi : ops[i]? = some oi) (hw : wantB ops l oi = some true) (hd : oi.dst = some d) (hn : Nat.blt d n = true) (hv : Pc cs c1 P n w0 S l m oi v) (h : Ar c1 (G n w0 S ((d, v) :: l) m K) q) : Ar (25 :: cs) (G n w0 S l m (wpOp P ops Q i K)) q := ⟨fun k => G.turnOp hi hw (G.val hd hn hv.pv (h.go k))⟩
theorem Ar.bk (hs : Sub m mS r) (h : Ar cs (G n w0 S l m K) q) : Ar (26 :: cs) (G n w0 S l m (fun a w => Hp w0 S w mS ∧ K a w)) q := ⟨fun k => G.back hs (h.go k)⟩
theorem Ar.ov {Sx : World → Prop} (hT : Tab ops deps frs nn) (hr : rdB deps rem [] = true) (h : Ar cs (G n w0 S l m (Q .normal)) q) : Ar (27 :: cs) (G n w0 S l m (GA P ops Q Sx nn fuel rem)) q := ⟨fun k => G.overT hT hr (h.go k)⟩
theorem Ar.ts {t : TypeId} {x y : Operand} {b o : Nat} {T : TypeId} {us : List Value} (ho' : ops[i]? = some ⟨none, .store t x y, ty, pos, after, g⟩) (hw : wantB ops l ⟨none, .store t x y, ty, pos, after, g⟩ = some true) (hi : (P.info? t).map (·.size) = some 1) (hx : ev l x = some (.pointer (some ⟨b, o, none⟩))) (hy : ev l y = some v) (hv : v.oneCell' = true) (hs : Sel m (blk b T us) r) (ho : o < us.length)
 (h : Ar cs (G n w0 S l (blk b T (us.set o v) :: r) K) q) : Ar (30 :: cs) (G n w0 S l m (wpOp P ops Q i K)) q := ⟨fun k => G.turnOp ho' hw (G.store hi hx hy hv hs ho (h.go k))⟩
section
variable {ds : List Deferred} {rr : Option Nat}
theorem Ar.inT (h : Ar cs (G n w0 S l m (dq ds K)) q) : Ar (31 :: cs) (G n w0 S l m (dq ds (Exit.then K Q .normal))) q := ⟨fun k => I.nThen (h.go k)⟩
theorem Ar.iS {x y : Code} (h : Ar cs (G n w0 S l m (dq ds (x.wpIn (fR rr) 0 P (Exit.then (y.wpIn (fR rr) 0 P Q) Q)))) q) : Ar (32 :: cs) (G n w0 S l m (dq ds ((Code.seq x y).wpIn (fR rr) 0 P Q))) q := ⟨fun k => I.seq (h.go k)⟩
theorem Ar.iR {id : Nat} {ops : List Oper} (hd : ops.all noDefer = true) (hQ : ¬ LetsOut Q) (h : Ar cs (G n w0 S l m (wpList P ops.toArray (dqq ds Q) ops)) q) : Ar (33 :: cs) (G n w0 S l m (dq ds ((Code.region id ops.toArray false).wpIn (fR rr) 0 P Q))) q := ⟨fun k => I.region hd hQ (h.go k)⟩
theorem Ar.iN (h : Ar cs (G n w0 S l m (dq ds (Q .normal))) q) : Ar (34 :: cs) (G n w0 S l m (wpList P ops (dqq ds Q) [])) q := ⟨fun k => I.nil (h.go k)⟩
theorem Ar.irT (h : Ar cs (G n w0 S l m (dq ds (Q .ret))) q) : Ar (35 :: cs) (G n w0 S l m (dq ds (Exit.then K Q .ret))) q := ⟨fun k => I.rThen (h.go k)⟩
theorem Ar.irB {id : Nat} (h : Ar cs (G n w0 S l m (dq ds (Q .ret))) q) : Ar (36 :: cs) (G n w0 S l m (dq ds (Exit.inBlock id Q .ret))) q := ⟨fun k => I.rBlock (h.go k)⟩
theorem Ar.iRe (h : Ar cs (G n w0 S l m (dq ds (Q .ret))) q) : Ar (37 :: cs) (G n w0 S l m (dq ds (Code.ret.wpIn (fR rr) 0 P Q))) q := ⟨fun k => I.ret (h.go k)⟩
theorem Ar.iB {id : Nat} {c : Code} (h : Ar cs (G n w0 S l m (dq ds (c.wpIn (fR rr) 0 P (Exit.inBlock id Q)))) q) : Ar (38 :: cs) (G n w0 S l m (dq ds ((Code.block id c).wpIn (fR rr) 0 P Q))) q := ⟨fun k => I.block (h.go k)⟩
theorem Ar.iSk (h : Ar cs (G n w0 S l m (dq ds (Q .normal))) q) : Ar (39 :: cs) (G n w0 S l m (dq ds (Code.skip.wpIn (fR rr) 0 P Q))) q := ⟨fun k => I.skip (h.go k)⟩
theorem Ar.inB {id : Nat} (h : Ar cs (G n w0 S l m (dq ds (Q .normal))) q) : Ar (40 :: cs) (G n w0 S l m (dq ds (Exit.inBlock id Q .normal))) q := ⟨fun k => I.nBlock (h.go k)⟩
theorem Ar.ieT {id : Nat} (h : Ar cs (G n w0 S l m (dq ds (Q (.exit id)))) q) : Ar (41 :: cs) (G n w0 S l m (dq ds (Exit.then K Q (.exit id)))) q := ⟨fun k => I.eThen (h.go k)⟩
theorem Ar.iX {id : Nat} (h : Ar cs (G n w0 S l m (dq ds (Q (.exit id)))) q) : Ar (42 :: cs) (G n w0 S l m (dq ds ((Code.exit id).wpIn (fR rr) 0 P Q))) q := ⟨fun k => I.exit (h.go k)⟩
theorem Ar.ieB {id : Nat} (h : Ar cs (G n w0 S l m (dq ds (Q .normal))) q) : Ar (43 :: cs) (G n w0 S l m (dq ds (Exit.inBlock id Q (.exit id)))) q := ⟨fun k => I.eBlock (h.go k)⟩
end
theorem Pc.ck (c : Nat) (h : Pc (c :: cs) c1 P n w0 S l m o v) : Pc (c :: cs) c1 P n w0 S l m o v := h
theorem Ar.ck (c : Nat) {p : Prop} (h : Ar (c :: cs) p q) : Ar (c :: cs) p q := h
theorem Ar.cz (c : Nat) {p : Prop} (h : Ar (60 :: c :: cs) p q) : Ar (60 :: c :: cs) p q := h
theorem Pc.cu (i : Nat) (h : PV P n w0 S l m o v) : Pc (50 :: i :: cs) cs P n w0 S l m o v := ⟨h⟩
theorem Ar.cu {p p1 : Prop} (i : Nat) (f : p1 → p) (h : Ar cs p1 q) : Ar (60 :: i :: cs) p q := ⟨fun k => f (h.go k)⟩
end
theorem adT {p : Prop} (h : p := by first | with_reducible assumption | assumption | exact fun _ => rfl) : p := h
theorem noT {p : Prop} (h : p := by rintro ⟨_, _, h⟩; first | exact h | exact noOut h) : p := h
theorem Y0 {p : Prop} (h : p := by first | (apply May.old; first | with_reducible assumption | assumption) | (apply Sel.may; (repeat (first | with_reducible exact Sel.here | exact Sel.here | apply Sel.there)); done) | (apply may_own; (repeat (first | with_reducible exact Sel.here | exact Sel.here | apply Sel.there)); exact rfl; exact (fun _ _ => trivial); done) | (apply may_ownB; (repeat (first | with_reducible exact Sel.here | exact Sel.here | apply Sel.there)); done) | (apply may_tree; (repeat (first | with_reducible exact Sel.here | exact Sel.here | apply Sel.there)); (repeat (first | with_reducible exact Sel.here | exact Sel.here | apply Sel.there)); assumption; done)) : p := h
theorem Y1 {p : Prop} (h : p := by first | (apply May.old; first | with_reducible assumption | assumption) | (apply Sel.may; (repeat (first | with_reducible exact Sel.here | exact Sel.here | apply Sel.there)); done) | (apply may_own; (repeat (first | with_reducible exact Sel.here | exact Sel.here | apply Sel.there)); exact rfl; exact (fun _ _ => trivial); done) | (apply may_ownB; (repeat (first | with_reducible exact Sel.here | exact Sel.here | apply Sel.there)); done) | (apply may_tree; (repeat (first | with_reducible exact Sel.here | exact Sel.here | apply Sel.there)); (repeat (first | with_reducible exact Sel.here | exact Sel.here | apply Sel.there)); assumption; done) | (apply may_snaps; (repeat (first | with_reducible exact Sel.here | exact Sel.here | apply Sel.there)); done)) : p := h
theorem Y2 {p : Prop} (h : p := by first | exact dec_t (by unfold argP; omega) | exact dec_f (by unfold argP; omega) | exact dec_e (by unfold argP; omega) | exact dec_n (bne_dec.trans (by unfold argP; rw [hto]; omega)) | (rw [show _ = true from by assumption]; exact dec_t (by have h := bne_dec.1 (by assumption); rw [hto] at h; unfold argP; omega))) : p := h
theorem Y3 {p : Prop} (h : p := by first | exact blk_range (k := 5) selD (by rfl) | exact ro_rng0 (by assumption) | exact rng_range (k := 5) selD (by rfl) | exact ro_range (k := 5) (by assumption) (by rfl) | exact ro_rngR (k := 5) (by assumption) (by rfl)) : p := h
theorem Y4 {p : Prop} (h : p := by first | rfl | exact int_eq (by omega) | (simp; done)) : p := h
theorem Y5 {p : Prop} (h : p := by first | exact dec_t (by rw [ne_eq, he]; simp_all) | exact dec_e (by rw [ne_eq ys[i].1, he] at *; simp_all) | exact dec_e (by rw [ne_eq xs[i].1, he]; simp_all)) : p := h
theorem Y6 {p : Prop} (h : p := by first | (simp; done) | (simp; omega)) : p := h
theorem Y7 {p : Prop} (h : p := by first | exact trivial | ((try dsimp only) <;> exact by omega)) : p := h
theorem Y8 {p : Prop} (h : p := by first | exact dec_t (hsu.2 (.inl (by assumption))) | exact dec_f (fun h => (hsu.1 h).elim (by assumption) (fun q => absurd q.1 (by assumption))) | exact dec_e ⟨fun h => hsu.2 (.inr ⟨by assumption, h⟩), fun h => ((hsu.1 h).resolve_left (by assumption)).2⟩) : p := h
theorem Y9 {p : Prop} (h : p := by (repeat (first | with_reducible exact Sel.here | exact Sel.here | apply Sel.there))) : p := h
theorem Y10 {p : Prop} (h : p := by first | exact trivial | ((try dsimp only) <;> exact (by rw [pl_set, hpl]; show plSet _ _ (n, sps (zs ++ [_])) = _; unfold sps; rw [List.map_append]; show plSet _ _ (n, _ ++ [⟨n, k, t, ens l'⟩]) = _; rw [hel]))) : p := h
theorem Y11 {p : Prop} (h : p := by first | exact trivial | ((try dsimp only) <;> exact ⟨Nat.zero_le _, fun q _ h => absurd h (by omega)⟩)) : p := h
theorem Y12 {p : Prop} (h : p := by first | exact dec_t (by omega) | exact dec_f (by omega) | exact dec_e (by omega)) : p := h
theorem Y13 {p : Prop} (h : p := by first | exact trivial | ((try dsimp only) <;> exact Nat.zero_le _)) : p := h
theorem Y14 {p : Prop} (h : p := by first | exact trivial | ((try dsimp only) <;> exact rfl)) : p := h
theorem Y15 {p : Prop} (h : p := by first | exact dec_e (by omega) | exact dec_f (by omega)) : p := h
theorem Y16 {p : Prop} (h : p := by first | exact trivial | ((try dsimp only) <;> exact ⟨by omega, fun q hq hqi => by rcases Nat.lt_or_ge q i with h1 | h1; exact hJ0 q hq h1; obtain rfl : q = i := (by omega); exact heq⟩)) : p := h
theorem Y17 {p : Prop} (h : p := by first | exact trivial | ((try dsimp only) <;> exact ⟨hst, fun h hh => hro2 h hh, hhl⟩)) : p := h
theorem Y18 {p : Prop} (h : p := by rw [ord_eq hx hy (by assumption)]; simp_all [retV1]) : p := h
theorem Y19 {p : Prop} (h : p := by first | exact trivial | ((try dsimp only) <;> exact ⟨by omega, ⟨hst.ok, hst.inv, hp3, hro3, hhl3, by have := hst.len; rw [plM_len, plM_len] at this; omega⟩⟩)) : p := h
theorem Y20 {p : Prop} (h : p := by first | with_reducible assumption | assumption) : p := h
theorem Y21 {p : Prop} (h : p := by exact Nat.lt_of_lt_of_le hbB hB) : p := h
theorem Y22 {p : Prop} (h : p := by simp_all [compareM, okP, retV1]) : p := h
theorem und {P : Program} {t : TypeId} {d : TypeDesc} (h : P.underlying t = some d := by first | exact Try.underlying3 | exact Try.underlying4 | exact Try.underlying5 | exact Try.underlying9 | exact Try.underlying22 | exact Try.underlying24 | exact Try.underlying27 | exact Try.underlying29 | exact Try.underlying31 | exact Try.underlying32 | exact Try.underlying35 | exact Try.underlying38 | exact Try.underlying40 | exact Try.underlying42 | exact Try.underlying54 | exact Try.underlying57 | exact Try.underlying61 | exact Try.underlying63 | exact Try.underlying68 | exact Try.underlying70 | exact Try.underlying72 | exact Try.underlying74 | exact Try.underlying75 | exact Try.underlying77 | exact Try.underlying87 | exact Try.underlying89 | exact Try.underlying105 | exact Try.underlying114 | exact Try.underlying121 | exact Try.underlying123) : P.underlying t = some d := h
section
open Go.RowKit
variable {P : Program} {n : Nat} {w0 : World} {S : Nat → Prop} {l : Fr} {m : List Ck} {o : Oper} {v : Value} {c c1 : List Nat} {p q : Prop}
theorem pcT (h : Pc c c1 P n w0 S l m o v := by first | (apply Pc.ck 0; exact Pc.mv rfl) | (apply Pc.ck 1; exact Pc.as rfl) | (apply Pc.ck 2; exact Pc.pk rfl rfl) | (apply Pc.ck 3; exact Pc.fk und rfl kr rfl rfl) | (apply Pc.ck 4; exact Pc.ld und rfl rfl celT) | (apply Pc.ck 5; exact Pc.ln und rfl) | (apply Pc.ck 6; exact Pc.ad rfl rfl (by omega)) | (apply Pc.ck 7; exact Pc.ex rfl rfl) | (apply Pc.ck 8; exact Pc.nc rfl) | (apply Pc.ck 9; exact Pc.lss rfl rfl) | (apply Pc.ck 10; exact Pc.gtr rfl rfl) | (apply Pc.ck 11; exact Pc.leq rfl rfl) | (apply Pc.ck 12; exact Pc.geq rfl rfl) | (apply Pc.ck 13; exact Pc.eql rfl rfl) | (apply Pc.ck 14; exact Pc.neq rfl rfl) | (apply Pc.ck 15; exact Pc.np rfl) | (apply Pc.ck 19; exact Pc.su rfl rfl (by omega)) | (apply Pc.ck 20; exact Pc.ix _ und kr rfl rfl adT rfl (by omega)) | (apply Pc.ck 21; exact Pc.lS und rfl) | (apply Pc.ck 22; exact Pc.xS und rfl rfl rfl (by omega)) | (apply Pc.ck 23; exact Pc.nS rfl rfl) | (apply Pc.ck 24; exact Pc.eS rfl rfl) | (apply Pc.ck 25; exact Pc.no rfl) | (apply Pc.ck 26; exact Pc.mf rfl rfl) | (apply Pc.cu 0; exact pv_loadN (cs := [_, _, _, _, _]) und rfl kr rfl Y3) | (apply Pc.cu 1; exact pv_buildSt (z := [.int .i64 0, .int .i64 0]) (pl := [(0, 1), (1, 1)]) und kr kr rfl flT) | (apply Pc.cu 2; exact pv_buildSt (z := [.int .i64 0, .int .i64 0, .int .i64 0, .bool false]) (pl := [(0, 1), (1, 1), (2, 1), (3, 1)]) und kr kr rfl flT)) : Pc c c1 P n w0 S l m o v := h
theorem go (cs : List Nat) (k : q) (h : Ar cs p q := by repeat (first | exact Ar.nil | (apply Ar.ck 0; apply Ar.mv; exact rfl; exact rfl) | (apply Ar.ck 1; apply Ar.as; exact rfl; exact rfl) | (apply Ar.ck 2; apply Ar.op; exact rfl; exact rfl; exact rfl; exact pcT) | (apply Ar.ck 3; apply Ar.wa; exact rfl; exact rfl; exact rfl; exact rfl; exact rfl; exact pcT) | (apply Ar.ck 4; apply Ar.pa; exact rfl; exact rfl; exact rfl; exact rfl; exact rfl; exact rfl) | (apply Ar.ck 7; apply Ar.nl) | (apply Ar.ck 8; apply Ar.nt) | (apply Ar.ck 9; apply Ar.sq) | (apply Ar.ck 10; apply Ar.rg) | (apply Ar.ck 22; apply Ar.tk; exact (by with_reducible assumption); exact rfl; exact rfl; exact rfl; exact kr; exact (fun _ _ _ h => h); exact rfl; exact pcT; exact subT) | (apply Ar.ck 23; apply Ar.tf; exact (by with_reducible assumption); exact rfl; exact rfl; exact rfl; exact kr; exact (fun _ _ _ h => h); exact rfl; exact subT) | (apply Ar.ck 24; apply Ar.on; exact (by with_reducible assumption); exact kr; exact kr) | (apply Ar.ck 25; apply Ar.tu; exact rfl; exact rfl; exact rfl; exact rfl; exact pcT) | (apply Ar.ck 26; apply Ar.bk; exact subT) | (apply Ar.ck 27; apply Ar.ov; exact (by with_reducible assumption); exact kr) | (apply Ar.ck 11; apply Ar.re) | (apply Ar.ck 12; apply Ar.rt) | (apply Ar.ck 13; apply Ar.sk) | (apply Ar.ck 14; apply Ar.et) | (apply Ar.ck 15; apply Ar.bl) | (apply Ar.ck 16; apply Ar.nb) | (apply Ar.ck 17; apply Ar.rb) | (apply Ar.ck 18; apply Ar.xi) | (apply Ar.ck 19; apply Ar.eb) | (apply Ar.ck 6; apply Ar.pu; exact rfl; exact rfl; exact rfl; exact rfl; exact rfl) | (apply Ar.ck 20; apply Ar.sN; exact kr; exact rfl; exact rfl; exact allT; exact selT; exact leT) | (apply Ar.ck 21; apply Ar.so; exact kr; exact rfl; exact rfl; exact eqT; exact selT; exact leT) | (apply Ar.ck 30; apply Ar.ts; exact rfl; exact rfl; exact kr; exact rfl; exact rfl; exact eqT; exact selT; exact leT) | (apply Ar.ck 31; apply Ar.inT) | (apply Ar.ck 32; apply Ar.iS) | (apply Ar.ck 33; apply Ar.iR; exact kr; exact noT) | (apply Ar.ck 34; apply Ar.iN) | (apply Ar.ck 35; apply Ar.irT) | (apply Ar.ck 36; apply Ar.irB) | (apply Ar.ck 37; apply Ar.iRe) | (apply Ar.ck 38; apply Ar.iB) | (apply Ar.ck 39; apply Ar.iSk) | (apply Ar.ck 40; apply Ar.inB) | (apply Ar.ck 41; apply Ar.ieT) | (apply Ar.ck 42; apply Ar.iX) | (apply Ar.ck 43; apply Ar.ieB) | (apply Ar.cz 0; apply Ar.cu 0; exact fun k => G.condF rfl (rfl) k) | (apply Ar.cz 1; apply Ar.cu 1; exact fun k => IL.op rfl (IL.lift kr (G.val rfl rfl (pv_move rfl) k))) | (apply Ar.cz 2; apply Ar.cu 2; exact fun k => G.op rfl (G.box rfl rfl (cs := [_]) rfl k)) | (apply Ar.cz 3; apply Ar.cu 3; exact fun k => G.op rfl (G.box rfl rfl (cs := [_, _, _, _, _]) rfl k)) | (apply Ar.cz 4; apply Ar.cu 4; exact fun k => G.op rfl (G.alloc (z := .agg #[.int .i64 0, .int .i64 0, .int .i64 0, .slice none 0 0]) (cs := [.int .i64 0, .int .i64 0, .int .i64 0, .slice none 0 0]) rfl kr rfl k)) | (apply Ar.cz 5; apply Ar.cu 5; exact fun k => G.op rfl (G.alloc (z := .int .i64 0) (cs := [.int .i64 0]) rfl kr rfl k)) | (apply Ar.cz 6; apply Ar.cu 6; exact fun k => G.op rfl (G.alloc (z := .agg #[.string ⟨#[]⟩, .int .i64 0, .int .i64 0, .slice none 0 0, .string ⟨#[]⟩]) (cs := [.string ⟨#[]⟩, .int .i64 0, .int .i64 0, .slice none 0 0, .string ⟨#[]⟩]) rfl kr rfl k)))) : p := h.go k
end
end Go.Proofs.Ytakeannapfaodaa
set_option maxRecDepth 100000
set_option linter.unusedVariables false
set_option linter.unusedSimpArgs false
namespace Go.Proofs.Ytakeannapfaodaa
open Go.ChangeShapes Go.WideShapes Go.ChangeAt Go.RowKit Go.Deep
theorem Try.own : ownKnob Try.prog.godebug = none := by kernel_rfl
theorem Try.laidOut : laidOutB Try.prog = true := by kernel_rfl
theorem trodAll_below {H : Type} {enc : TypeId × Value → H} {W W' : World} (hb : Below W.heap.size W W') : ∀ (ts : List TypeId) (vs : List Value) (ds : List (DataW H)) (ps : List MemPlace),
 (∀ t ∈ ts, Try.prog.readableRec t = true ∧ t < Try.prog.types.size) → DataW.TrodAll enc Try.prog W 0 (fun _ => true) true ts vs ds ps → (∀ x ∈ ps, x.block < W.heap.size) →
 DataW.TrodAll enc Try.prog W' 0 (fun b => decide (b < W.heap.size)) true ts vs ds ps
 | [], [], [], ps, _, h, _ => h
 | t :: ts, v :: vs, d :: ds, ps, ht, h, hlt => by
  obtain ⟨p, q, h1, h2, rfl⟩ := h
  have h3 := ht t (by simp)
  exact ⟨p, q, Below.trod Try.laidOut h3.1 h3.2 h1 hb (fun x hx => hlt x (by simp [hx])), trodAll_below hb ts vs ds q (fun t' h' => ht t' (by simp [h'])) h2 (fun x hx => hlt x (by simp [hx])), rfl⟩
 | [], _ :: _, _, _, _, h, _ => h.elim
 | [], [], _ :: _, _, _, h, _ => h.elim
 | _ :: _, [], _, _, _, h, _ => h.elim
 | _ :: _, _ :: _, [], _, _, h, _ => h.elim
theorem law_post {H : Type} {enc : TypeId × Value → H} {s : ChangeSpec} {fn : Func} {W W' : World} {args : Array Value} {ds gs : List (DataW H)} {before : List MemPlace}
 (hW : DataW.Whole enc Try.prog fn.params.toList s.vars false W args.toList ds gs before) (hts : ∀ t ∈ fn.params.toList, Try.prog.readableRec t = true ∧ t < Try.prog.types.size) (hv : s.vars = []) (hres : fn.resultTypes = #[4])
 (hr : (s.fn H (ds ++ gs)).results = [.lit (.bool true)]) (ha : (s.fn H (ds ++ gs)).args = ds) (hvv : (s.fn H (ds ++ gs)).vars = []) (hb : Below W.heap.size W W') :
 s.post enc Try.prog fn false true false false W args (.bool true) W' := by
 have hlt := hW.lt
 obtain ⟨p, q, hA, hV, hpq, _, _⟩ := id hW
 refine ⟨ds, gs, before, [], p, [], hW, ?_, ?_, ?_, hb.frame _, fun h => by cases h⟩
 ·rw [hr, hres]
  exact trodAll_mk1 (shut_bool Try.underlying4 true)
 ·rw [ha]
  exact trodAll_below hb _ _ _ _ hts hA fun x hx => hlt x (by rw [hpq]; simp [hx])
 rw [hv, hvv]; rfl
section
variable {H : Type} {enc : TypeId × Value → H} {W : World}
theorem add_none {a : Addr} {v : Value} {b o : Nat} {n : Nat} (h : W.cell? (a.add n) = some v) (e : a = ⟨b, o, none⟩) : W.cell? ⟨b, o + n, none⟩ = some v := by
 subst e
 unfold Addr.add at h
 split at h
 ·subst_vars; exact h
 exact h
theorem spot_none {a : Addr} {v : Value} (h : W.cell? a = some v) : a = ⟨a.block, a.off, none⟩ := by
 have := World.cell?_spot h
 cases a
 simp at this
 subst this
 rfl
theorem wf_I64 {x : Int} (h : (Lit.int .i64 x).wf = true) : I64 x := by
 simp only [Lit.wf, Bool.and_eq_true, decide_eq_true_eq] at h
 exact ⟨h.1, h.2⟩
end
end Go.Proofs.Ytakeannapfaodaa
namespace Go.Proofs.Ytakeannapfaodaa
open Go.RowKit
set_option linter.unusedVariables false
set_option linter.unusedSimpArgs false
set_option maxRecDepth 100000
theorem U_nil : U [] = fun _ => False := by
 funext b
 simp [U]
theorem law_callsR {P : Program} {f : FuncId} {args : Array Value} {ro : List Ck} (h : Tr P f args ro [] (T0 (.bool true))) (w : World) (hro : ∀ c ∈ ro, Ro w (fun _ => False) c) : Calls P f args w fun e w' => e = .returned (.bool true) ∧ Below w.heap.size w w' := by
 refine (h w (fun c hc => by rw [U_nil]; exact hro c hc) ⟨Chg.refl _ _, by simp, by simp, .nil⟩).mono ?_
 rintro e w' ⟨v, m', he, ⟨hv, -⟩, hw⟩
 have hc := hw.chg
 rw [U_nil] at hc
 exact ⟨by rw [he, hv], Chg.below_of_none hc⟩
theorem ro_new {c : Ck} {w : World} (h : c.φ w) (hb : ∀ b, c.S b → b < w.heap.size) : Ro w (fun _ => False) c := ⟨h, fun b hc => ⟨hb b hc, id⟩⟩
end Go.Proofs.Ytakeannapfaodaa
set_option maxRecDepth 100000
set_option linter.unusedVariables false
set_option linter.unusedSimpArgs false
namespace Go.Proofs.Ytakeannapfaodaa
open Go.ChangeShapes Go.WideShapes Go.ChangeAt Go.RowKit Go.Deep
def rUnit : Rdr Unit := ⟨0, fun _ _ _ _ _ => True, fun _ h => h, fun _ h => h⟩
def rProd {α β : Type} (E : Rdr α) (F : Rdr β) : Rdr (α × β) where
 sz := E.sz + F.sz
 R := fun Ps w b o x => E.R Ps w b o x.1 ∧ F.R Ps w b (o + E.sz) x.2
 loc := fun h ⟨h1, h2⟩ => ⟨E.loc h h1, F.loc h h2⟩
 mono := fun h ⟨h1, h2⟩ => ⟨E.mono h h1, F.mono h h2⟩
def rStrB : Rdr (List UInt8) := r1 vStr fun x => x.length ≤ 140737488355328
def rSlB {α : Type} (E : Rdr α) : Rdr (List α) where
 sz := 1
 R := fun Ps w b o xs => (rSl E).R Ps w b o xs ∧ xs.length ≤ 140737488355328
 loc := fun h ⟨h1, h2⟩ => ⟨(rSl E).loc h h1, h2⟩
 mono := fun h ⟨h1, h2⟩ => ⟨(rSl E).mono h h1, h2⟩
section
variable {H : Type} {enc : TypeId × Value → H} {P : Program} {W : World}
def At0 (w : World) (b o : Nat) (cs : List Value) : Prop := ∀ (j : Nat) v, cs[j]? = some v → w.cell? ⟨b, o + j, none⟩ = some v
theorem At0.drop {w : World} {b o : Nat} {cs : List Value} (h : At0 w b o cs) (k n : Nat) : At0 w b (o + k) ((cs.drop k).take n) := fun j v hj => by
 rw [List.getElem?_take] at hj
 split at hj
 ·rw [List.getElem?_drop] at hj
  rw [Nat.add_assoc]
  exact h _ v hj
 cases hj
theorem list_of_each {α : Type} {q : Nat → α → Prop} : ∀ n : Nat, (∀ i, i < n → ∃ y, q i y) → ∃ ys : List α, ys.length = n ∧ ∀ i (h : i < ys.length), q i ys[i]
 | 0, _ => ⟨[], rfl, fun i h => absurd h (by simp)⟩
 | n + 1, h => by
  obtain ⟨ys, hl, hy⟩ := list_of_each n fun i hi => h i (by omega)
  obtain ⟨y, hn⟩ := h n (by omega)
  refine ⟨ys ++ [y], by simp [hl], fun i hi => ?_⟩
  rcases Nat.lt_or_ge i n with hlt | hge
  ·rw [List.getElem_append_left (by omega)]
   exact hy i (by omega)
  have hin : i = n := by simp [hl] at hi; omega
  subst hin
  rw [List.getElem_append_right (by omega)]
  simpa [hl] using hn
structure Opn (H : Type) (enc : TypeId × Value → H) (P : Program) (W : World) {α : Type} (t : TypeId) (E : Rdr α) : Prop where
 sz : P.cellsOf t = E.sz
 mem : ∀ fuel cs x b o, DataW.trod enc P W 0 (fun _ => true) true fuel t cs = some x → (∀ k ∈ DataW.weights P t x.1, k ≤ reachBytes) → At0 W b o cs → b < W.heap.size → ∃ a, E.R (· < W.heap.size) W b o a
theorem weightsAll_memG {e : TypeId} : ∀ {l : List (DataW H)} {d : DataW H}, d ∈ l → ∀ n ∈ d.weights P e, n ∈ DataW.weightsAll P e l
 | x :: l, d, hd, n, hn => by
  simp only [DataW.weightsAll, List.mem_append]
  rcases List.mem_cons.1 hd with rfl | h
  ·exact Or.inl hn
  exact Or.inr (weightsAll_memG h n hn)
theorem opn_int {t : TypeId} (ht : P.underlying t = some (.int .i64)) (hc : P.cellsOf t = 1) : Opn H enc P W t rInt := ⟨hc, fun fuel cs x b o h hwt hA hb => by
 obtain ⟨n, rfl, _, hw⟩ := DataW.trod_int ht h
 exact ⟨n, hb, by show W.cell? ⟨b, o, none⟩ = some (.int .i64 n); simpa using hA 0 _ rfl, wf_I64 hw⟩⟩
theorem opn_byte {t : TypeId} (ht : P.underlying t = some (.int .u8)) (hc : P.cellsOf t = 1) : Opn H enc P W t rByte := ⟨hc, fun fuel cs x b o h hwt hA hb => by
 obtain ⟨n, rfl, _, hw⟩ := DataW.trod_int ht h
 simp only [Lit.wf, Bool.and_eq_true, decide_eq_true_eq] at hw
 have h0 : (0 : Int) ≤ n := hw.1
 have h1 : n ≤ 255 := hw.2
 refine ⟨UInt8.ofNat n.toNat, hb, ?_, trivial⟩
 have e : vByte (UInt8.ofNat n.toNat) = .int .u8 n := by
  unfold vByte
  congr 1
  rw [UInt8.toNat_ofNat']
  omega
 rw [e]
 simpa using hA 0 _ rfl⟩
theorem opn_str {t : TypeId} (ht : P.underlying t = some .string) (hc : P.cellsOf t = 1) : Opn H enc P W t rStrB := ⟨hc, fun fuel cs x b o h hwt hA hb => by
 obtain ⟨s, rfl, rfl, hs⟩ := DataW.trod_string ht h
 refine ⟨s.data.toList, hb, ?_, by have := hwt s.data.toList.length (by simp [DataW.weights]); unfold reachBytes at this; show s.data.toList.length ≤ _; omega⟩
 have := hA 0 _ rfl
 simpa [vStr, sB] using this⟩
theorem opn_slice {α : Type} {t e : TypeId} {E : Rdr α} (ht : P.underlying t = some (.slice e)) (hby : 0 < P.bytesOf e) (hE : Opn H enc P W e E) (hpos : 0 < E.sz) : ∀ fuel cs x, DataW.trod enc P W 0 (fun _ => true) true fuel t cs = some x → (∀ k ∈ DataW.weights P t x.1, k ≤ reachBytes) → ∃ v xs, cs = [v] ∧ IsSl E (· < W.heap.size) W v xs ∧ xs.length ≤ 140737488355328 := fun fuel cs x h hwt => by
 rcases open_slice ht h with ⟨rfl, rfl⟩ | ⟨a, len, cap, m, n, D, Pl, rfl, _, hl, hm, hmm, rfl, hx⟩
 ·exact ⟨_, [], rfl, ⟨none, 0, 0, 0, rfl, Nat.le_refl _, by omega, fun _ => rfl, fun h => absurd h (by simp), fun i hi => absurd hi (by simp)⟩, by simp⟩
 simp only [if_true] at hmm
 subst hmm
 rw [hE.sz] at hx
 have e0 : a.add 0 = a := by unfold Addr.add; simp
 simp only [DataW.weights, ht] at hwt
 have hlen := hwt _ (List.mem_cons_self ..)
 have each : ∀ i, i < len → ∃ y, E.R (· < W.heap.size) W a.block (a.off + i * E.sz) y := fun i hi => by
  obtain ⟨c0, h0, _⟩ := hx 0 (by omega)
  rw [Nat.zero_mul, e0] at h0
  obtain ⟨cs', h1, h2⟩ := hx i (by omega)
  obtain ⟨_, hl0, hc0⟩ := World.cells?_some h0
  obtain ⟨_, hl1, hc1⟩ := World.cells?_some h1
  have g0 := (hc0 0 (by omega)).trans (List.getElem?_eq_getElem (by omega))
  rw [e0] at g0
  have hs := spot_none g0
  refine hE.mem _ cs' _ _ _ h2 (fun k hk => hwt k (List.mem_cons_of_mem _ (List.mem_append_left _ (weightsAll_memG (List.mem_map.2 ⟨i, List.mem_range.2 hi, rfl⟩) k hk)))) (fun j v hj => ?_) (cell_lt g0)
  have hjl : j < cs'.length := (List.getElem?_eq_some_iff.1 hj).1
  have := (hc1 j (by omega)).trans hj
  rw [add_add] at this
  have := add_none this hs
  rw [show a.off + i * E.sz + j = a.off + (i * E.sz + j) by omega]
  exact this
 obtain ⟨ys, hyl, hy⟩ := list_of_each len each
 refine ⟨_, ys, rfl, ⟨some a, m, a.block, a.off, by rw [hyl], by rw [hyl]; exact hl, by unfold maxLen at hm; omega, by simp, fun h0 => ?_, hy⟩, ?_⟩
 ·have h0' : 0 < len := by rw [hyl] at h0; exact h0
  obtain ⟨c0, h1, _⟩ := hx 0 (by omega)
  rw [Nat.zero_mul, e0] at h1
  obtain ⟨_, hl0, hc0⟩ := World.cells?_some h1
  have g0 := (hc0 0 (by omega)).trans (List.getElem?_eq_getElem (by omega))
  rw [e0] at g0
  exact congrArg some (spot_none g0)
 rw [hyl]
 simp only [List.length_map, List.length_range] at hlen
 unfold reachBytes at hlen
 have := Nat.le_mul_of_pos_right (len + (m - len)) hby
 omega
theorem opn_rSl {α : Type} {t e : TypeId} {E : Rdr α} (ht : P.underlying t = some (.slice e)) (hc : P.cellsOf t = 1) (hby : 0 < P.bytesOf e) (hE : Opn H enc P W e E) (hpos : 0 < E.sz) : Opn H enc P W t (rSlB E) := ⟨hc, fun fuel cs x b o h hwt hA hb => by
 obtain ⟨v, xs, rfl, hs, hl⟩ := opn_slice ht hby hE hpos fuel cs x h hwt
 exact ⟨xs, ⟨hb, v, by simpa using hA 0 _ rfl, hs⟩, hl⟩⟩
inductive OpnFs (H : Type) (enc : TypeId × Value → H) (P : Program) (W : World) : {α : Type} → List Field → Nat → Rdr α → Prop
 | nil {off : Nat} : OpnFs H enc P W [] off rUnit
 | cons {α β : Type} {f : Field} {fs : List Field} {E : Rdr α} {F : Rdr β} {off : Nat} (h : Opn H enc P W f.type E) (ho : f.offset = off) (r : OpnFs H enc P W fs (off + E.sz) F) : OpnFs H enc P W (f :: fs) off (rProd E F)
theorem opn_fields {α : Type} {fs : List Field} {off : Nat} {F : Rdr α} (h : OpnFs H enc P W fs off F) : ∀ {fuel : Nat} {cs : List Value} {b o : Nat} {xs : List (DataW H × List MemPlace)}, xs.length = fs.length → (∀ (i : Nat) (f : Field), fs[i]? = some f → DataW.trod enc P W 0 (fun _ => true) true fuel f.type ((cs.drop f.offset).take (P.cellsOf f.type)) = xs[i]?) →
 (∀ k ∈ DataW.weightsEach P (fs.map (·.type)) (xs.map (·.1)), k ≤ reachBytes) → At0 W b o cs → b < W.heap.size → ∃ a, F.R (· < W.heap.size) W b (o + off) a := by
 induction h with
 | nil => intro fuel cs b o xs _ _ _ _ _; exact ⟨(), trivial⟩
 | cons h ho r ih =>
  intro fuel cs b o xs hl hx hwt hA hb
  cases xs with
  | nil => simp at hl
  | cons y ys =>
   simp only [List.map_cons, DataW.weightsEach, List.mem_append] at hwt
   have h0 := hx 0 _ rfl
   obtain ⟨a, ha⟩ := h.mem _ _ _ _ _ h0 (fun k hk => hwt k (.inl hk)) (hA.drop _ _) hb
   obtain ⟨c, hc⟩ := ih (by simpa using hl) (fun i f hf => hx (i + 1) f hf) (fun k hk => hwt k (.inr hk)) hA hb
   rw [ho] at ha
   exact ⟨(a, c), ha, by rw [Nat.add_assoc]; exact hc⟩
theorem opn_struct {α : Type} {t : TypeId} {fs : Array Field} {F : Rdr α} (ht : P.underlying t = some (.struct fs)) (hc : P.cellsOf t = F.sz) (h : OpnFs H enc P W fs.toList 0 F) : Opn H enc P W t F := ⟨hc, fun fuel cs x b o hx hwt hA hb => by
 obtain ⟨xs, k, rfl, rfl, hl, hxl, hxx⟩ := DataW.trod_struct ht hx
 simp only [DataW.weights, ht] at hwt
 have := opn_fields h (xs := xs) (by simpa using hxl) (fun i f hf => hxx i f (by simpa using hf)) hwt hA hb
 simpa using this⟩
theorem opn_arg {α : Type} {t e : TypeId} {E : Rdr α} {v : Value} {d : DataW H} {p : List MemPlace} {r : Reach} {base : Nat} (ht : P.underlying t = some (.slice e)) (hby : 0 < P.bytesOf e) (hE : Opn H enc P W e E) (hpos : 0 < E.sz) (hok : Value.okWide P W r base t v) (h : DataW.Trod enc P W 0 (fun _ => true) true t v d p)
 {ts : List TypeId} {ds : List (DataW H)} {j : Nat} (hsz : (DataW.weightsEach P ts ds).all (· ≤ reachBytes) = true) (hts : ts[j]? = some t) (hds : ds[j]? = some d) :
 ∃ xs : List α, Ro W (fun _ => False) (slc E (· < W.heap.size) v xs) ∧ xs.length ≤ 140737488355328 := by
 obtain ⟨a1, len, cap, rfl⟩ := okWide_slice ht hok
 obtain ⟨fuel, hf⟩ := h
 obtain ⟨v, xs, e1, hs, hl⟩ := opn_slice ht hby hE hpos fuel _ _ hf fun k hk => of_decide_eq_true (List.all_eq_true.1 hsz k (DataW.weights_mem_each hts hds k hk))
 simp [Value.cells] at e1
 exact ⟨xs, ro_new (e1 ▸ hs) (fun b hb => hb), hl⟩
end
section
variable {w0 : World} {S : Nat → Prop} {Ps : Nat → Prop} {b o : Nat}
end
end Go.Proofs.Ytakeannapfaodaa
namespace Go.Proofs.Ytakeannapfaodaa
open Go.RowKit
set_option linter.unusedVariables false
set_option linter.unusedSimpArgs false
def badP (c : UInt8) : Bool := decide (c.toNat < 33) || decide (126 < c.toNat) || decide (c.toNat = 47)
def stepB (bad : UInt8 → Bool) (s : List UInt8) : Int × Int :=
 if s = [] ∨ s = [46] ∨ s = [46, 46] then (2, 0)
 else if s.findIdx bad < s.length then (4, s.findIdx bad)
 else if 60 < s.length then (3, 60) else (0, 0)
def badR (c : UInt8) : Bool := decide (c.toNat < 33) || decide (126 < c.toNat)
theorem stepJ {s : List UInt8} {k : Nat} (h : ∀ j, j < k → ∀ h : j < s.length, badP s[j] = false) (hk : k < s.length) (h1 : ¬ ((s[k].toNat : Int) < 33)) (h2 : ¬ ((126 : Int) < s[k].toNat)) (h3 : ¬ ((s[k].toNat : Int) = 47)) : ∀ j, j < k + 1 → ∀ h : j < s.length, badP s[j] = false := fun j hj hl => by
 rcases Nat.lt_or_ge j k with h4 | h4
 ·exact h j h4 hl
 obtain rfl : j = k := by omega
 unfold badP
 simp
 omega
theorem stepArg {bad : UInt8 → Bool} {s : List UInt8} (h : s = [] ∨ s = [46] ∨ s = [46, 46]) : stepB bad s = (2, 0) := if_pos h
theorem stepBad {bad : UInt8 → Bool} {s : List UInt8} {k : Nat} (h1 : ¬ s = []) (h2 : ¬ s = [46]) (h3 : ¬ s = [46, 46]) (h : ∀ j, j < k → ∀ h : j < s.length, bad s[j] = false) (hk : k < s.length) (hb : bad s[k] = true) : stepB bad s = (4, (k : Int)) := by
 have e : s.findIdx bad = k := (List.findIdx_eq hk).2 ⟨hb, fun j hj => h j hj (by omega)⟩
 unfold stepB
 rw [if_neg (by simp [h1, h2, h3]), e, if_pos hk]
theorem stepAll {bad : UInt8 → Bool} {s : List UInt8} {k : Nat} (h : ∀ j, j < k → ∀ h : j < s.length, bad s[j] = false) (hk : s.length ≤ k) : s.findIdx bad = s.length := List.findIdx_eq_length_of_false fun x hx => by
 obtain ⟨j, hj, rfl⟩ := List.getElem_of_mem hx
 exact h j (by omega) hj
theorem stepLong {bad : UInt8 → Bool} {s : List UInt8} {k : Nat} (h1 : ¬ s = []) (h2 : ¬ s = [46]) (h3 : ¬ s = [46, 46]) (h : ∀ j, j < k → ∀ h : j < s.length, bad s[j] = false) (hk : s.length ≤ k) (hl : 60 < s.length) : stepB bad s = (3, 60) := by
 unfold stepB
 rw [if_neg (by simp [h1, h2, h3]), stepAll h hk, if_neg (by omega), if_pos hl]
theorem stepOk {bad : UInt8 → Bool} {s : List UInt8} {k : Nat} (h1 : ¬ s = []) (h2 : ¬ s = [46]) (h3 : ¬ s = [46, 46]) (h : ∀ j, j < k → ∀ h : j < s.length, bad s[j] = false) (hk : s.length ≤ k) (hl : ¬ 60 < s.length) : stepB bad s = (0, 0) := by
 unfold stepB
 rw [if_neg (by simp [h1, h2, h3]), stepAll h hk, if_neg (by omega), if_neg hl]
theorem bad1 {c : UInt8} (h : (c.toNat : Int) < 33) : badP c = true := by unfold badP; simp; omega
theorem bad2 {c : UInt8} (h : (126 : Int) < c.toNat) : badP c = true := by unfold badP; simp; omega
theorem bad3 {c : UInt8} (h : (c.toNat : Int) = 47) : badP c = true := by unfold badP; simp; omega
set_option maxRecDepth 20000 in
set_option maxHeartbeats 4000000 in
theorem step_tr (s : List UInt8) (hs : s.length ≤ 1000000000) : Tr Try.prog 86 #[.string (sB s)] [] [] (T0 (.tuple #[.int .i64 (stepB badP s).1, .int .i64 (stepB badP s).2])) := by
 refine Tr.of (l := [(0, .string (sB s))]) Try.func86 rfl (n := 41) rfl (.cons rfl .nil) (fun w0 hro => ?_)
 refine go [9,10,1,1,7,8,9,9,10,0,2,24,0] ?_
 refine G.partP (t := 7) rfl (fun h7 => ?_) (fun h7 => ?_)
 ·refine go [4,4,2,2,0,4,4,2,2,7,8] ?_
  refine G.condT rfl (rfl) ?_
  refine go [9,10,1,1,7,8,11,12] ?_
  exact G.done0G rfl (Rv.tmp rfl (Rv.tmp rfl Rv.nil)) (by rw [stepArg (.inl (by assumption))]; rfl)
 refine go [3,0,3,24,2,2,0] ?_
 refine G.partP (t := 11) rfl (fun h11 => ?_) (fun h11 => ?_)
 ·refine go [4,4,2,2,7,8] ?_
  refine G.condT rfl (rfl) ?_
  refine go [9,10,1,1,7,8,11,12] ?_
  exact G.done0G rfl (Rv.tmp rfl (Rv.tmp rfl Rv.nil)) (by rw [stepArg (.inr (.inl (by assumption)))]; rfl)
 refine go [3,0,3,24,2,2,7,8] ?_
 refine G.condP rfl (fun h14 => ?_) (fun h14 => ?_)
 ·refine go [9,10,1,1,7,8,11,12] ?_
  exact G.done0G rfl (Rv.tmp rfl (Rv.tmp rfl Rv.nil)) (by rw [stepArg (.inr (.inr (by assumption)))]; rfl)
 refine go [13,8,9,9,10,0,2,21,0,7,8,15] ?_
 refine G.loopK (X := Nat) (ts := [0, 16]) (fun k => k ≤ s.length ∧ (∀ j, j < k → ∀ h : j < s.length, badP s[j] = false)) (fun k => [(17, .int .i64 (k : Int))]) (fun k => []) (fun k => s.length - k) (x0 := 0) (.cons rfl (.cons rfl .nil)) subT (.cons .nil) apT (by first | exact trivial | ((try dsimp only) <;> exact ⟨Nat.zero_le _, fun j h => absurd h (by omega)⟩)) (.consE rfl veqT .nil) (fun k hJ => ?_)
 try dsimp only at hJ
 try dsimp only
 obtain ⟨hkk, hJ⟩ := hJ
 refine go [9,10,2,9,7,8,9] ?_
 refine G.condP rfl (fun h18 => ?_) (fun h18 => ?_)
 ·refine go [13,8,9,15,9,10,0,1,7,8,9,10,0,0,2,22,2,9,0] ?_
  refine G.partP (t := 24) rfl (fun h24 => ?_) (fun h24 => ?_)
  ·refine go [4,4,4,4,2,2,0,4,4,4,4,2,2,7,8] ?_
   refine G.condT rfl (rfl) ?_
   refine go [9,10,0,1,1,7,8,11,17,12,12,17,12] ?_
   exact G.done0G rfl (Rv.tmp rfl (Rv.tmp rfl Rv.nil)) (by rw [stepBad (by assumption) (by assumption) (by assumption) hJ (by omega) (bad1 (by assumption))]; rfl)
  refine go [3,0,3,0,3,22,3,10,2,2,0] ?_
  refine G.partP (t := 30) rfl (fun h30 => ?_) (fun h30 => ?_)
  ·refine go [4,4,4,4,2,2,7,8] ?_
   refine G.condT rfl (rfl) ?_
   refine go [9,10,0,1,1,7,8,11,17,12,12,17,12] ?_
   exact G.done0G rfl (Rv.tmp rfl (Rv.tmp rfl Rv.nil)) (by rw [stepBad (by assumption) (by assumption) (by assumption) hJ (by omega) (bad2 (by assumption))]; rfl)
  refine go [3,0,3,0,3,22,3,13,2,2,7,8] ?_
  refine G.condP rfl (fun h35 => ?_) (fun h35 => ?_)
  ·refine go [9,10,0,1,1,7,8,11,17,12,12,17,12] ?_
   exact G.done0G rfl (Rv.tmp rfl (Rv.tmp rfl Rv.nil)) (by rw [stepBad (by assumption) (by assumption) (by assumption) hJ (by omega) (bad3 (by assumption))]; rfl)
  refine go [13,16,8,10,2,6,0,7] ?_
  exact G.next (k + 1) (by first | exact trivial | ((try dsimp only) <;> exact ⟨by omega, stepJ hJ (by omega) (by assumption) (by assumption) (by assumption)⟩)) (by (try dsimp only); omega) (.consE rfl veqT (.cons rfl (.cons rfl .nil))) subT
 refine go [18,14,14,19,8,9,9,10,0,2,21,2,10,7,8] ?_
 refine G.condP rfl (fun h40 => ?_) (fun h40 => ?_)
 ·refine go [9,10,1,1,7,8,11,12] ?_
  exact G.done0G rfl (Rv.tmp rfl (Rv.tmp rfl Rv.nil)) (by rw [stepLong (by assumption) (by assumption) (by assumption) hJ (by omega) (by omega)]; rfl)
 refine go [13,8,9,10,1,1,7,8,11] ?_
 exact G.done0G rfl (Rv.tmp rfl (Rv.tmp rfl Rv.nil)) (by rw [stepOk (by assumption) (by assumption) (by assumption) hJ (by omega) (by omega)]; rfl)
end Go.Proofs.Ytakeannapfaodaa
namespace Go.Proofs
open Go.Shelf
def Try.lays219_ren : Go.Shelf.Ren := ⟨fun | 219 => 99 | 217 => 100 | 225 => 101 | 224 => 102 | 267 => 103 | 266 => 104 | 314 => 105 | n => n, fun | 9 => 9 | 3 => 3 | 4 => 4 | 5 => 5 | 46 => 121 | 146 => 157 | 51 => 138 | n => n, fun | 1 => 0 | n => n⟩
theorem Try.lays219 : Go.Proofs.Lays.n219 Try.prog Try.lays219_ren := {
  mixed := by kernel_rfl
  f217 := Try.func100.trans (congrArg some (by kernel_rfl))
  f219 := Try.func99.trans (congrArg some (by kernel_rfl))
  f224 := Try.func102.trans (congrArg some (by kernel_rfl))
  f225 := Try.func101.trans (congrArg some (by kernel_rfl))
  f266 := Try.func104.trans (congrArg some (by kernel_rfl))
  f267 := Try.func103.trans (congrArg some (by kernel_rfl))
  f314 := Try.func105.trans (congrArg some (by kernel_rfl))
  t3 := Try.underlying3
  a3 := Try.isAgg3
  z3 := Try.sizeOf3
  v3 := Try.zeroValue3
  t4 := Try.underlying4
  a4 := Try.isAgg4
  z4 := Try.sizeOf4
  v4 := Try.zeroValue4
  t5 := Try.underlying5
  a5 := Try.isAgg5
  z5 := Try.sizeOf5
  v5 := Try.zeroValue5
  t9 := Try.underlying9
  a9 := Try.isAgg9
  z9 := Try.sizeOf9
  v9 := Try.zeroValue9
  t46 := Try.underlying121
  a46 := Try.isAgg121
  z46 := Try.sizeOf121
  v46 := Try.zeroValue121
  t51 := Try.underlying138
  a51 := Try.isAgg138
  z51 := Try.sizeOf138
  v51 := Try.zeroValue138
  t146 := Try.underlying157
  a146 := Try.isAgg157
  z146 := Try.sizeOf157
  v146 := Try.zeroValue157
  g1 := by kernel_rfl }
open Go.RowKit Go.Lib in
/-- internal/stringslite.Index (what strings.Index calls) AT A substr OF ONE BYTE c: IT RETURNS 'Lib.indexByte s c'; the world is as it was. (LAID: no walk: one application.) -/
theorem Try.stringslite_Index_one (s : ByteArray) (c : UInt8) (w : World) :
    Calls Try.prog 99 #[.string s, .string ⟨#[c]⟩] w fun e w' => e = .returned (.int .i64 (Lib.indexByte s.data.toList c)) ∧ w' = w := Any.stringslite_Index_one Try.lays219 s c w
end Go.Proofs
namespace Go.Proofs.Ytakeannapfaodaa
open Go.RowKit
set_option linter.unusedVariables false
set_option linter.unusedSimpArgs false
def at1 (s : List UInt8) : Nat := s.findIdx (· == 47)
def cutM (s : List UInt8) : List UInt8 × List UInt8 × Bool := if at1 s < s.length then (s.take (at1 s), s.drop (at1 s + 1), true) else (s, [], false)
theorem at1_le (s : List UInt8) : at1 s ≤ s.length := List.findIdx_le_length
theorem index1 : ∀ s : List UInt8, Lib.indexByte s 47 = if at1 s < s.length then (at1 s : Int) else -1
 | [] => rfl
 | b :: l => by
  have ih := index1 l
  have hle := at1_le l
  unfold Lib.indexByte
  by_cases h : b = 47
  ·subst h
   have e : at1 (47 :: l) = 0 := by simp [at1, List.findIdx_cons]
   rw [e]
   simp
  have hb : (b == 47) = false := by simpa using h
  have e : at1 (b :: l) = at1 l + 1 := by simp [at1, List.findIdx_cons, hb]
  rw [e, hb, ih]
  by_cases hlt : at1 l < l.length
  ·rw [if_pos hlt, if_pos (show at1 l + 1 < (b :: l).length by simp; omega), if_neg (by simp), if_neg (by rw [beq_iff_eq]; omega)]
   rfl
  rw [if_neg hlt, if_neg (show ¬ at1 l + 1 < (b :: l).length by simp; omega)]
  simp
theorem Tr.ofQ {P : Program} {f : FuncId} {args : Array Value} {v : Value} (h : ∀ w, Calls P f args w fun e w' => e = .returned v ∧ w' = w) : Tr P f args [] [] (T0 v) := fun w _ _ =>
 (h w).mono fun e w' ⟨he, hb⟩ => ⟨v, [], he, ⟨rfl, rfl⟩, ⟨(Chg.none_of_below (hb ▸ Below.refl _ _)).mono fun b hb => hb.elim, by simp, by simp, .nil⟩⟩
theorem index_tr (s : List UInt8) : Tr Try.prog 99 #[.string (sB s), .string (sB [47])] [] [] (T0 (.int .i64 (if at1 s < s.length then (at1 s : Int) else -1))) := Tr.ofQ fun w => by
 have h := Try.stringslite_Index_one (sB s) 47 w
 rw [show (sB s).data.toList = s by simp [sB], index1 s] at h
 exact h
theorem index_tr1 (s : List UInt8) (ha : at1 s < s.length) : Tr Try.prog 99 #[.string (sB s), .string (sB [47])] [] [] (T0 (.int .i64 (at1 s : Int))) := by
 have h := index_tr s
 rwa [if_pos ha] at h
theorem index_tr0 (s : List UInt8) (ha : ¬ at1 s < s.length) : Tr Try.prog 99 #[.string (sB s), .string (sB [47])] [] [] (T0 (.int .i64 (-1))) := by
 have h := index_tr s
 rwa [if_neg ha] at h
set_option maxRecDepth 20000 in
set_option maxHeartbeats 4000000 in
theorem scut1 (s : List UInt8) (hs : s.length ≤ 1000000000) (ha : at1 s < s.length) : Tr Try.prog 97 #[.string (sB s), .string (sB [47])] [] [] (T0 (.tuple #[.string (sB (s.take (at1 s))), .string (sB (s.drop (at1 s + 1))), .bool true])) := by
 refine Tr.of (l := [(0, .string (sB s)), (1, .string (sB [47]))]) Try.func97 rfl (n := 23) rfl (.cons rfl (.cons rfl .nil)) (fun w0 hro => ?_)
 have h47 : ([47] : List UInt8).length = 1 := rfl
 refine go [9,10,1,1,1,7,8,9,9,10,0,0] ?_
 refine G.op rfl (G.cR rfl rfl rfl rfl Try.func99 rfl rfl may0 (index_tr1 s ha) ?_)
 refine go [1,7,8,9,10,0,2,12,7,8] ?_
 refine G.condP rfl (fun h12 => ?_) (fun h12 => ?_)
 ·refine G.seq ?_
  refine G.drawT (nn := 12) (p := []) (rem := 4095) [0, 0, 3, 0, 0, 0, 32, 80, 136, 7, 1023, 2047] [0, 0, 3, 0, 0, 0, 32, 80, 136, 4, 256, 0] kr ⟨rfl, by kernel_rfl, by kernel_rfl⟩ subT kr (fun hT3 => ?_)
  refine go [22,0,4094,0,22,1,4092,0] ?_
  refine G.takeT hT3 (i := 2) (rem' := 4088) rfl rfl rfl kr (fun _ _ _ h => h) rfl (pv_strH Try.underlying9 rfl rfl rfl (by omega)) subT ?_
  refine go [22,3,4080,0,22,4,4064,0,22,5,4032,0,22,6,3968,21,22,7,3840,6] ?_
  refine G.takeT hT3 (i := 8) (rem' := 3584) rfl rfl rfl kr (fun _ _ _ h => h) rfl (pv_strL Try.underlying9 rfl rfl rfl (by omega)) subT ?_
  refine go [22,9,3072,1,22,10,2048,1,22,11,0,1,27,8,11,12] ?_
  exact G.done0G rfl (Rv.tmp rfl (Rv.tmp rfl (Rv.tmp rfl Rv.nil))) Y4
 exfalso; omega
set_option maxRecDepth 20000 in
set_option maxHeartbeats 4000000 in
theorem scut0 (s : List UInt8) (hs : s.length ≤ 1000000000) (ha : ¬ at1 s < s.length) : Tr Try.prog 97 #[.string (sB s), .string (sB [47])] [] [] (T0 (.tuple #[.string (sB s), .string (sB []), .bool false])) := by
 refine Tr.of (l := [(0, .string (sB s)), (1, .string (sB [47]))]) Try.func97 rfl (n := 23) rfl (.cons rfl (.cons rfl .nil)) (fun w0 hro => ?_)
 refine go [9,10,1,1,1,7,8,9,9,10,0,0] ?_
 refine G.op rfl (G.cR rfl rfl rfl rfl Try.func99 rfl rfl may0 (index_tr0 s ha) ?_)
 refine go [1,7,8,9,10,0,2,12,7,8] ?_
 refine G.condP rfl (fun h12 => ?_) (fun h12 => ?_)
 ·exfalso; omega
 refine go [13,8,9,10,0,1,1,1,7,8,11] ?_
 exact G.done0G rfl (Rv.tmp rfl (Rv.tmp rfl (Rv.tmp rfl Rv.nil))) Y4
theorem scut_tr (s : List UInt8) (hs : s.length ≤ 1000000000) : Tr Try.prog 97 #[.string (sB s), .string (sB [47])] [] [] (T0 (.tuple #[.string (sB (cutM s).1), .string (sB (cutM s).2.1), .bool (cutM s).2.2])) := by
 unfold cutM
 split
 ·exact scut1 s hs (by assumption)
 exact scut0 s hs (by assumption)
set_option maxRecDepth 20000 in
set_option maxHeartbeats 4000000 in
theorem cut_tr (s : List UInt8) (hs : s.length ≤ 1000000000) : Tr Try.prog 87 #[.string (sB s), .string (sB [47])] [] [] (T0 (.tuple #[.string (sB (cutM s).1), .string (sB (cutM s).2.1), .bool (cutM s).2.2])) := by
 refine Tr.of (l := [(0, .string (sB s)), (1, .string (sB [47]))]) Try.func87 rfl (n := 13) rfl (.cons rfl (.cons rfl .nil)) (fun w0 hro => ?_)
 refine go [9,10,1,1,1,7,8,9,10,0,0] ?_
 refine G.op rfl (G.cR rfl rfl rfl rfl Try.func97 rfl rfl may0 (scut_tr s (by omega)) ?_)
 refine go [2,7,2,7,2,7,1,1,1,7,8,11] ?_
 exact G.done0G rfl (Rv.tmp rfl (Rv.tmp rfl (Rv.tmp rfl Rv.nil))) Y4
set_option maxRecDepth 20000 in
set_option maxHeartbeats 4000000 in
theorem isNaN_tr (s : List UInt8) : Tr Try.prog 88 #[.string (sB s)] [] [] (T0 (.bool false)) := by
 refine Tr.of (l := [(0, .string (sB s))]) Try.func88 rfl (n := 6) rfl (.cons rfl .nil) (fun w0 hro => ?_)
 refine go [9,10,1,7,8,9,10,0,0,2,23,1,7,8,11] ?_
 exact G.done0G rfl (Rv.tmp rfl Rv.nil) (by simp; rfl)
def bytesC (a b : List UInt8) : Int := if Op.bytesLess a b then -1 else if !(Op.bytesLess a b || decide (a = b)) then 1 else 0
theorem bytes_lt {a b : List UInt8} (h : Op.bytesLess a b = true) : bytesC a b = -1 := if_pos h
theorem bytes_gt {a b : List UInt8} (h : Op.bytesLess a b = false) (h2 : (!(Op.bytesLess a b || decide (a = b))) = true) : bytesC a b = 1 := by
 unfold bytesC
 rw [if_neg (by rw [h]; decide), if_pos h2]
theorem bytes_eq {a b : List UInt8} (h : Op.bytesLess a b = false) (h2 : (!(Op.bytesLess a b || decide (a = b))) = false) : bytesC a b = 0 := by
 unfold bytesC
 rw [if_neg (by rw [h]; decide), if_neg (by rw [h2]; decide)]
set_option maxRecDepth 20000 in
set_option maxHeartbeats 4000000 in
theorem cmp_tr (a b : List UInt8) : Tr Try.prog 68 #[.string (sB a), .string (sB b)] [] [] (T0 (.int .i64 (bytesC a b))) := by
 refine Tr.of (l := [(0, .string (sB a)), (1, .string (sB b))]) Try.func68 rfl (n := 20) rfl (.cons rfl (.cons rfl .nil)) (fun w0 hro => ?_)
 refine go [9,10,1,7,8,9,10,0] ?_
 refine G.op rfl (G.cR rfl rfl rfl rfl Try.func88 rfl rfl may0 (isNaN_tr a) ?_)
 refine go [1,7,8,9,10,0] ?_
 refine G.op rfl (G.cR rfl rfl rfl rfl Try.func88 rfl rfl may0 (isNaN_tr b) ?_)
 refine go [1,7,8,9,9,10,0,7,8,60,0,13,8,9,9,10,0,7,8,60,0,13,8,9,9,10,0,0] ?_
 refine G.op rfl (G.val rfl rfl (pv_lssS rfl rfl) ?_)
 refine go [7,8] ?_
 refine G.cond rfl (fun h16 => ?_) (fun h16 => ?_)
 ·refine go [9,10,1,7,8,11,12] ?_
  exact G.done0G rfl (Rv.tmp rfl Rv.nil) (by rw [bytes_lt (by assumption)]; rfl)
 refine go [13,8,9,9,10,0,0] ?_
 refine G.op rfl (G.val rfl rfl (pv_gtrS rfl rfl) ?_)
 refine go [7,8] ?_
 refine G.cond rfl (fun h19 => ?_) (fun h19 => ?_)
 ·refine go [9,10,1,7,8,11,12] ?_
  exact G.done0G rfl (Rv.tmp rfl Rv.nil) (by rw [bytes_gt (by assumption) (by assumption)]; rfl)
 refine go [13,8,9,10,1,7,8,11] ?_
 exact G.done0G rfl (Rv.tmp rfl Rv.nil) (by rw [bytes_eq (by assumption) (by assumption)]; rfl)
def lastM (s : List UInt8) : Nat → Nat
 | 0 => 0
 | k + 1 => if s[k]? = some 47 then k + 1 else lastM s k
theorem last_yes {s : List UInt8} {k : Nat} (h0 : 0 < k) (hk : k - 1 < s.length) (h : (s[k - 1].toNat : Int) = 47) : lastM s k = k := by
 obtain ⟨j, rfl⟩ : ∃ j, k = j + 1 := ⟨k - 1, by omega⟩
 have hj : j < s.length := hk
 have h' : (s[j].toNat : Int) = 47 := h
 have e : s[j] = 47 := UInt8.toNat_inj.1 (show s[j].toNat = 47 by omega)
 unfold lastM
 rw [if_pos (by rw [List.getElem?_eq_getElem hj, e])]
theorem last_no {s : List UInt8} {k : Nat} (h0 : 0 < k) (hk : k - 1 < s.length) (h : ¬ (s[k - 1].toNat : Int) = 47) : lastM s k = lastM s (k - 1) := by
 obtain ⟨j, rfl⟩ : ∃ j, k = j + 1 := ⟨k - 1, by omega⟩
 have hj : j < s.length := by omega
 rw [lastM.eq_2, if_neg]
 ·rfl
 rw [List.getElem?_eq_getElem hj]
 intro e
 injection e with e
 exact h (by show ((s[j].toNat : Nat) : Int) = 47; rw [e]; rfl)
set_option maxRecDepth 20000 in
set_option maxHeartbeats 4000000 in
theorem last0 (s : List UInt8) (hs : s.length ≤ 9223372036854775807) : Tr Try.prog 89 #[.string (sB s), .int .u8 47] [] [] (T0 (.int .i64 ((lastM s s.length : Int) - 1))) := by
 refine Tr.of (l := [(0, .string (sB s)), (1, .int .u8 47)]) Try.func89 rfl (n := 19) rfl (.cons rfl (.cons rfl .nil)) (fun w0 hro => ?_)
 refine go [9,10,1,7,8,9,9,10,0,2,21,2,19,1,7,8,15] ?_
 refine G.loopK (X := Nat) (ts := [0, 1]) (fun k => k ≤ s.length ∧ lastM s s.length = lastM s k) (fun k => [(5, .int .i64 ((k : Int) - 1))]) (fun k => []) (fun k => k) (x0 := s.length) (.cons rfl (.cons rfl .nil)) subT (.cons .nil) apT (by first | exact trivial | ((try dsimp only) <;> exact ⟨Nat.le_refl _, rfl⟩)) (.consE rfl veqT .nil) (fun k hJ => ?_)
 try dsimp only at hJ
 try dsimp only
 obtain ⟨hk1, hk2⟩ := hJ
 refine go [9,9,10,0,2,12,7,8] ?_
 refine G.condP rfl (fun h10 => ?_) (fun h10 => ?_)
 ·refine go [13,8,9,15,9,10,0,0] ?_
  refine G.op rfl (G.val rfl rfl (pv_ixS Try.underlying9 (k := k - 1) rfl rfl (by omega) (by omega)) ?_)
  refine go [0,2,13,7,8] ?_
  refine G.condP rfl (fun h17 => ?_) (fun h17 => ?_)
  ·refine go [9,10,0,1,7,8,11,17,12,12,17,12] ?_
   exact G.done0G rfl (Rv.tmp rfl Rv.nil) (by rw [hk2, last_yes (by omega) (by omega) (by assumption)]; rfl)
  refine go [13,16,8,10,0,2,19,1,7] ?_
  exact G.next (k - 1) (by first | exact trivial | ((try dsimp only) <;> exact ⟨by omega, by rw [hk2]; exact last_no (by omega) (by omega) (by assumption)⟩)) (by (try dsimp only); omega) (.consE rfl veqT (.cons rfl (.cons rfl .nil))) subT
 refine go [18,14,14,19,8,9,10,1,7,8,11] ?_
 exact G.done0G rfl (Rv.tmp rfl Rv.nil) (by rw [hk2, show k = 0 by omega]; rfl)
set_option maxRecDepth 20000 in
set_option maxHeartbeats 4000000 in
theorem last_tr (s : List UInt8) (hs : s.length ≤ 9223372036854775807) : Tr Try.prog 69 #[.string (sB s), .int .u8 47] [] [] (T0 (.int .i64 ((lastM s s.length : Int) - 1))) := by
 refine Tr.of (l := [(0, .string (sB s)), (1, .int .u8 47)]) Try.func69 rfl (n := 8) rfl (.cons rfl (.cons rfl .nil)) (fun w0 hro => ?_)
 refine go [9,10,1,7,8,9,10,0,0] ?_
 refine G.op rfl (G.cR rfl rfl rfl rfl Try.func89 rfl rfl may0 (last0 s hs) ?_)
 refine go [1,7,8,11] ?_
 exact G.done0G rfl (Rv.tmp rfl Rv.nil) Y4
def headP (c : UInt8) : List (List UInt8) → List (List UInt8)
 | [] => [[c]]
 | p :: r => (c :: p) :: r
def splitM : List UInt8 → List (List UInt8)
 | [] => [[]]
 | c :: s => if c = 47 then [] :: splitM s else headP c (splitM s)
theorem splitM_stroke (s : List UInt8) : splitM (47 :: s) = [] :: splitM s := if_pos rfl
theorem splitM_char {c : UInt8} (h : ¬ c = 47) (s : List UInt8) : splitM (c :: s) = headP c (splitM s) := if_neg h
theorem splitM_ne : ∀ s, splitM s ≠ []
 | [] => by unfold splitM; simp
 | c :: s => by
  unfold splitM
  split
  ·simp
  cases h : splitM s <;> simp [headP]
theorem splitM_cut : ∀ s, splitM s = if (cutM s).2.2 then (cutM s).1 :: splitM (cutM s).2.1 else [(cutM s).1]
 | [] => rfl
 | c :: s => by
  have ih := splitM_cut s
  by_cases hc : c = 47
  ·subst hc
   have e : at1 (47 :: s) = 0 := by simp [at1, List.findIdx_cons]
   have e2 : cutM (47 :: s) = ([], s, true) := by
    unfold cutM
    rw [e, if_pos (by simp)]
    rfl
   rw [e2, splitM_stroke]
   rfl
  have hb : (c == 47) = false := by simpa using hc
  have e : at1 (c :: s) = at1 s + 1 := by simp [at1, List.findIdx_cons, hb]
  have e2 : cutM (c :: s) = (c :: (cutM s).1, (cutM s).2.1, (cutM s).2.2) := by
   unfold cutM
   rw [e]
   by_cases h : at1 s < s.length
   ·rw [if_pos h, if_pos (show at1 s + 1 < (c :: s).length by simp; omega)]
    rfl
   rw [if_neg h, if_neg (show ¬ at1 s + 1 < (c :: s).length by simp; omega)]
  rw [e2, splitM_char hc, ih]
  cases h : (cutM s).2.2 <;> simp [headP]
def atL (ps : List (List UInt8)) (i : Nat) : Nat := ((ps.take i).map fun p => p.length + 1).sum
theorem atL_zero (ps : List (List UInt8)) : atL ps 0 = 0 := by simp [atL]
theorem atL_succ {ps : List (List UInt8)} {i : Nat} (h : i < ps.length) : atL ps (i + 1) = atL ps i + (ps[i].length + 1) := by
 unfold atL
 rw [List.take_succ_eq_append_getElem h, List.map_append, List.sum_append]
 simp
theorem splitM_sum : ∀ s, ((splitM s).map fun p => p.length + 1).sum = s.length + 1
 | [] => rfl
 | c :: s => by
  have ih := splitM_sum s
  unfold splitM
  split
  ·simp [ih]; omega
  cases h : splitM s with
  | nil => exact absurd h (splitM_ne s)
  | cons p r =>
   rw [h] at ih
   simp [headP] at ih ⊢
   omega
theorem sum_take_le (l : List Nat) (i : Nat) : (l.take i).sum ≤ l.sum := by
 have := congrArg List.sum (List.take_append_drop i l)
 rw [List.sum_append] at this
 omega
theorem atL_le (s : List UInt8) (i : Nat) : atL (splitM s) i ≤ s.length + 1 := by
 unfold atL
 rw [List.map_take, ← splitM_sum s]
 exact sum_take_le _ i
theorem part_le {s : List UInt8} {i : Nat} (h : i < (splitM s).length) : atL (splitM s) i + ((splitM s)[i].length + 1) ≤ s.length + 1 := by
 rw [← atL_succ h]
 exact atL_le s _
def getL (ps : List (List UInt8)) (i : Nat) : List UInt8 := ps.getD i []
theorem getL_eq {ps : List (List UInt8)} {i : Nat} (h : i < ps.length) : getL ps i = ps[i] := by
 unfold getL
 rw [List.getD_eq_getElem?_getD, List.getElem?_eq_getElem h]
 rfl
theorem cutM_len (t : List UInt8) : (cutM t).2.1.length ≤ t.length := by
 unfold cutM
 split
 ·simp
 simp
theorem cut_drop {ps : List (List UInt8)} {t : List UInt8} {i : Nat} (hi : i < ps.length) (h : splitM t = ps.drop i) : ∃ t', cutM t = (getL ps i, t', decide (i + 1 < ps.length)) ∧ t'.length ≤ t.length ∧ (i + 1 < ps.length → splitM t' = ps.drop (i + 1)) := by
 refine ⟨(cutM t).2.1, ?_, cutM_len t, ?_⟩
 ·rw [splitM_cut, List.drop_eq_getElem_cons hi] at h
  rw [getL_eq hi]
  cases hm : (cutM t).2.2 with
  | true =>
   rw [hm, if_pos rfl] at h
   injection h with h1 h2
   have : i + 1 < ps.length := by
    rcases Nat.lt_or_ge (i + 1) ps.length with h3 | h3
    ·exact h3
    rw [List.drop_eq_nil_of_le h3] at h2
    exact absurd h2 (splitM_ne _)
   rw [decide_eq_true this, ← h1, ← hm]
  | false =>
   rw [hm, if_neg (by simp)] at h
   injection h with h1 h2
   have : ¬ i + 1 < ps.length := fun h3 => by
    rw [List.drop_eq_getElem_cons h3] at h2
    cases h2
   rw [decide_eq_false this, ← h1, ← hm]
 intro h3
 rw [splitM_cut, List.drop_eq_getElem_cons hi] at h
 cases hm : (cutM t).2.2 with
 | true =>
  rw [hm, if_pos rfl] at h
  injection h
 | false =>
  rw [hm, if_neg (by simp)] at h
  injection h with h1 h2
  rw [List.drop_eq_getElem_cons h3] at h2
  cases h2
theorem cut_at (t p t' : List UInt8) (m : Bool) (ht : t.length ≤ 1000000000) (h : cutM t = (p, t', m)) : Tr Try.prog 87 #[.string (sB t), .string (sB [47])] [] [] (T0 (.tuple #[.string (sB p), .string (sB t'), .bool m])) := by
 have := cut_tr t ht
 rwa [h] at this
set_option maxRecDepth 20000 in
set_option maxHeartbeats 4000000 in
theorem steps_seq (s : List UInt8) (hs : s.length ≤ 1000000000) (b : Nat) : SeqT Try.prog 96 #[.pointer (some ⟨b, 0, none⟩)] [] [blk b 9 [.string (sB s)]] (splitM s).length (fun i => [.int .i64 (atL (splitM s) i : Int), .string (sB (getL (splitM s) i))]) := by
 intro lp X J C x0 h0 hY
 show Tr _ _ #[.func (.yield lp) #[] #[], .pointer (some ⟨b, 0, none⟩)] _ _ _
 refine Tr.ofI (l := [(0, .func (.yield lp) #[] #[]), (1, .pointer (some ⟨b, 0, none⟩))]) Try.func96 rfl (n := 23) rfl (.cons rfl (.cons rfl .nil)) (fun w0 hro => ?_)
 refine go [32,33,1,1,34,31,38] ?_
 have hpos : 0 < (splitM s).length := List.length_pos_iff.2 (splitM_ne s)
 refine I.loopK (X := Nat × (List UInt8) × X) (ts := [0, 1]) (fun st => st.1 ≤ (splitM s).length ∧ st.2.1.length ≤ s.length ∧ (st.1 < (splitM s).length → splitM st.2.1 = (splitM s).drop st.1) ∧ J true st.1 st.2.2) (fun st => [(3, .int .i64 (atL (splitM s) st.1 : Int)), (4, .bool (decide (st.1 < (splitM s).length)))]) (fun st => [blk b 9 [.string (sB st.2.1)], C true st.1 st.2.2]) (fun st => (splitM s).length - st.1) (x0 := (0, s, x0)) (.cons rfl (.cons rfl .nil)) subT (.cons (.cons .nil)) apT (by first | exact trivial | ((try dsimp only) <;> exact ⟨Nat.zero_le _, Nat.le_refl _, fun _ => rfl, h0⟩)) (.consE rfl (by first | rfl | exact int_eq (by rw [atL_zero]; rfl)) (.consE rfl (by rw [decide_eq_true hpos]) .nil)) (fun st hJ => ?_)
 obtain ⟨i, t, x⟩ := st
 try dsimp only at hJ
 try dsimp only
 obtain ⟨hi, ht, hsp, hJ0⟩ := hJ
 refine go [32,32,33,0,34,31] ?_
 refine I.condP rfl (fun h6 => ?_) (fun h6 => ?_)
 ·have hil : i < (splitM s).length := by assumption
  obtain ⟨t', hcut, ht', hsp'⟩ := cut_drop hil (hsp hil)
  refine go [39,31,38,32,33,1,34,31,32,33,2,4] ?_
  refine G.op rfl (G.cR rfl rfl rfl rfl Try.func87 rfl rfl may0 (cut_at t _ t' _ (by omega) hcut) ?_)
  refine go [0,2,7,2,7,2,7,1,21,1,34,31,32,32] ?_
  refine IL.region ?_
  refine go [60,1,60,1,60,1] ?_
  refine IL.op rfl (IL.yield rfl rfl rfl rfl rfl subT (hY i x hil hJ0) apT ?_)
  intro x16 hJ
  obtain ⟨v, y⟩ := x16
  try dsimp only at hJ
  try dsimp only
  have hJ2 := hJ
  refine IL.op rfl (IL.lift kr (G.val rfl rfl (pv_not rfl) ?_))
  refine IL.nil ?_
  refine I.nThen ?_
  have hlen := part_le hil
  rw [← getL_eq hil] at hlen
  have hat := atL_succ hil
  rw [← getL_eq hil] at hat
  refine I.cond rfl (fun h17 => ?_) (fun h17 => ?_)
  ·obtain rfl : v = false := by cases v <;> simp_all
   refine go [37,35,36,35,36] ?_
   exact I.doneIr ((false, i + 1, y)) (by first | exact trivial | ((try dsimp only) <;> exact ⟨hJ2, hil, fun h => by cases h⟩)) rfl rfl subT
  obtain rfl : v = true := by cases v <;> simp_all
  refine go [39,31,33,0,0,2,21,2,6,2,6,1,34,40] ?_
  exact I.next ((i + 1, t', y)) (by first | exact trivial | ((try dsimp only) <;> exact ⟨by omega, by omega, hsp', hJ2⟩)) (by (try dsimp only); omega) (.consE rfl veqT (.consE rfl veqT (.cons rfl (.cons rfl .nil)))) subT
 refine go [42,41,41,43] ?_
 exact I.doneI ((true, i, x)) (by first | exact trivial | ((try dsimp only) <;> exact ⟨hJ0, hi, fun _ => by omega⟩)) rfl rfl subT
set_option maxRecDepth 20000 in
set_option maxHeartbeats 4000000 in
theorem steps_tr (s : List UInt8) : Tr Try.prog 85 #[.string (sB s)] [] [] (TX (fun _ : Nat => True) (fun b => .func (.func 96) #[] #[.pointer (some ⟨b, 0, none⟩)]) (fun b => [blk b 9 [.string (sB s)]])) := by
 refine Tr.of (l := [(0, .string (sB s))]) Try.func85 rfl (n := 4) rfl (.cons rfl .nil) (fun w0 hro => ?_)
 refine go [9,10,60,2] ?_
 intro b1
 refine go [1,7,8,9,10,2,26,1,7,8,11] ?_
 exact G.doneX1 (b1) trT rfl rfl rfl subT
theorem badR_of {c : UInt8} (h : ¬ c = 47) : badP c = badR c := by
 unfold badP badR
 have : c.toNat ≠ 47 := fun e => h (UInt8.toNat_inj.1 e)
 simp [this]
theorem findIdx_congr {p q : UInt8 → Bool} : ∀ {l : List UInt8}, (∀ x ∈ l, p x = q x) → l.findIdx p = l.findIdx q
 | [], _ => rfl
 | x :: l, h => by
  rw [List.findIdx_cons, List.findIdx_cons, h x (List.mem_cons_self ..), findIdx_congr fun y hy => h y (List.mem_cons_of_mem _ hy)]
theorem stepB_eq {s : List UInt8} (h : ∀ x ∈ s, ¬ x = 47) : stepB badP s = stepB badR s := by
 unfold stepB
 rw [findIdx_congr (p := badP) (q := badR) fun x hx => badR_of (h x hx)]
theorem step_at (s : List UInt8) (h : ∀ x ∈ s, ¬ x = 47) (hs : s.length ≤ 1000000000) : Tr Try.prog 86 #[.string (sB s)] [] [] (T0 (.tuple #[.int .i64 (stepB badR s).1, .int .i64 (stepB badR s).2])) := by
 have := step_tr s hs
 rwa [stepB_eq h] at this
theorem splitM_no : ∀ s, ∀ p ∈ splitM s, ∀ x ∈ p, ¬ x = 47
 | [], p, hp, x, hx => by
  have : p = [] := by simpa [splitM] using hp
  subst this
  cases hx
 | c :: s, p, hp, x, hx => by
  have ih := splitM_no s
  by_cases hc : c = 47
  ·subst hc
   rw [splitM_stroke] at hp
   rcases List.mem_cons.1 hp with rfl | hp
   ·cases hx
   exact ih p hp x hx
  rw [splitM_char hc] at hp
  cases h : splitM s with
  | nil => exact absurd h (splitM_ne s)
  | cons q r =>
   rw [h] at hp ih
   rcases List.mem_cons.1 hp with rfl | hp
   ·rcases List.mem_cons.1 hx with rfl | hx
    ·exact hc
    exact ih q (List.mem_cons_self ..) x hx
   exact ih p (List.mem_cons_of_mem _ hp) x hx
theorem stepB_pos (bad : UInt8 → Bool) (s : List UInt8) : 0 ≤ (stepB bad s).2 ∧ (stepB bad s).2 ≤ s.length + 60 ∧ 0 ≤ (stepB bad s).1 ∧ (stepB bad s).1 ≤ 4 := by
 unfold stepB
 have := @List.findIdx_le_length _ bad s
 split
 ·simp; omega
 split
 ·simp; omega
 split <;> simp <;> omega
def checkL : List (List UInt8) → Nat → Nat → Int × Int
 | [], _, _ => (0, 0)
 | p :: r, i, o => if i = 20 then (3, (o : Int)) else if (stepB badR p).1 = 0 then checkL r (i + 1) (o + (p.length + 1)) else ((stepB badR p).1, (o : Int) + (stepB badR p).2)
def checkM (s : List UInt8) : Int × Int := if s = [] then (2, 0) else if 200 < s.length then (3, 200) else checkL (splitM s) 0 0
theorem checkM_nil {s : List UInt8} (h : s = []) : checkM s = (2, 0) := if_pos h
theorem checkM_long {s : List UInt8} (h0 : ¬ s = []) (h : (200 : Int) < s.length) : checkM s = (3, 200) := by
 unfold checkM
 rw [if_neg h0, if_pos (by omega)]
theorem checkM_parts {s : List UInt8} (h0 : ¬ s = []) (h : ¬ (200 : Int) < s.length) : checkM s = checkL (splitM s) 0 0 := by
 unfold checkM
 rw [if_neg h0, if_neg (by omega)]
theorem checkL_many {ps : List (List UInt8)} {i : Nat} (hi : i < ps.length) (h : i = 20) : checkL (ps.drop i) i (atL ps i) = (3, (atL ps i : Int)) := by
 rw [List.drop_eq_getElem_cons hi]
 exact if_pos h
theorem checkL_next {ps : List (List UInt8)} {i : Nat} (hi : i < ps.length) (h : ¬ i = 20) (hs : (stepB badR (getL ps i)).1 = 0) : checkL (ps.drop i) i (atL ps i) = checkL (ps.drop (i + 1)) (i + 1) (atL ps (i + 1)) := by
 rw [getL_eq hi] at hs
 rw [List.drop_eq_getElem_cons hi, atL_succ hi]
 unfold checkL
 rw [if_neg h, if_pos hs]
 cases ps.drop (i + 1) <;> rfl
theorem checkL_bad {ps : List (List UInt8)} {i : Nat} (hi : i < ps.length) (h : ¬ i = 20) (hs : ¬ (stepB badR (getL ps i)).1 = 0) : checkL (ps.drop i) i (atL ps i) = ((stepB badR (getL ps i)).1, (atL ps i : Int) + (stepB badR (getL ps i)).2) := by
 rw [getL_eq hi] at hs ⊢
 rw [List.drop_eq_getElem_cons hi]
 unfold checkL
 rw [if_neg h, if_neg hs]
theorem okP_len {s : List UInt8} (h : (checkM s).1 = 0) : s.length ≤ 200 := by
 unfold checkM at h
 split at h
 ·cases h
 split at h
 ·cases h
 omega
set_option maxRecDepth 20000 in
set_option maxHeartbeats 4000000 in
theorem check_tr (s : List UInt8) (hs : s.length ≤ 9223372036854775807) : Tr Try.prog 65 #[.string (sB s)] [] [] (T0 (.agg #[.int .i64 (checkM s).1, .int .i64 (checkM s).2])) := by
 refine Tr.ofM (l := [(0, .string (sB s))]) Try.func65 rfl (n := 40) rfl (.cons rfl .nil) (fun w0 hro => ?_)
 refine go [32,33] ?_
 refine G.op rfl (G.alloc (z := .agg #[.int .i64 0, .int .i64 0]) (cs := [.int .i64 0, .int .i64 0]) rfl kr rfl ?_)
 intro b2
 refine go [34,31,32,38,32,33,0,2,24,1,34,31] ?_
 refine I.condP rfl (fun h8 => ?_) (fun h8 => ?_)
 ·refine go [32,33,2,50,1,20,34,31,37,36,35] ?_
  exact I.doneT0 rfl (Rv.cellN (cs := [_, _]) rfl Try.underlying123 rfl kr (by first | exact blk_range (k := 2) selD (by rfl)) Rv.nil) (by rw [checkM_nil (by assumption)]; rfl)
 refine go [32,33,0,2,21,2,10,1,34,31] ?_
 refine I.condP rfl (fun h12 => ?_) (fun h12 => ?_)
 ·refine go [32,33,2,50,1,20,34,31,37,36,35] ?_
  exact I.doneT0 rfl (Rv.cellN (cs := [_, _]) rfl Try.underlying123 rfl kr (by first | exact blk_range (k := 2) selD (by rfl)) Rv.nil) (by rw [checkM_long (by assumption) (by assumption)]; rfl)
 refine go [39,40,31,32,33,60,5] ?_
 intro b3
 refine go [21,34,31,32,32,33,0] ?_
 refine G.op rfl (G.cS rfl rfl rfl rfl Try.func85 rfl rfl subT may0 (steps_tr _) apT ?_)
 intro x18 hJ
 try dsimp only at hJ
 try dsimp only
 refine go [34,31,38] ?_
 refine I.rangeK (X := Int × Int) (encs := fun i => (.int .i64 (atL (splitM s) i : Int), .string (sB (getL (splitM s) i)))) (ts := [2, 3]) (fun b i st => (b = true → st.1 = 0 ∧ st.2 = 0 ∧ i ≤ 20 ∧ checkL (splitM s) 0 0 = checkL ((splitM s).drop i) i (atL (splitM s) i)) ∧ (b = false → checkL (splitM s) 0 0 = (st.1, st.2))) (fun b i st => [blk b2 123 [.int .i64 st.1, .int .i64 st.2], blk b3 3 [.int .i64 (i : Int)]]) (fun st => .ret) (fun i => [(4, .int .i64 (atL (splitM s) i : Int)), (5, .string (sB (getL (splitM s) i)))]) (x0 := (0, 0)) rfl Try.func96 rfl rfl (steps_seq s (by omega) x18) (by show Sub _ [blk b2 123 [.int .i64 0, .int .i64 0], blk b3 3 [.int .i64 0], blk x18 9 [.string (sB s)]] _; repeat (first | exact Sub.nil | (apply Sub.cons; (repeat (first | with_reducible exact Sel.here | exact Sel.here | apply Sel.there))))) may0 (by first | exact trivial | (exact ⟨fun _ => ⟨rfl, rfl, by omega, rfl⟩, fun h => (by cases h)⟩)) rfl rfl (.cons rfl (.cons rfl .nil)) (.cons (.cons .nil)) ?_ ?_ ?_ ?_
 ·intro w1 S1 lp m1 i hi
  try dsimp only at hJ
  try dsimp only
  refine go [32,33,1,34,31,33,1,34] ?_
  exact I.asg (.consE rfl veqT (.consE rfl veqT (.cons rfl (.cons rfl .nil))))
 ·intro w1 S1 lp c i st hi hJ
  obtain ⟨x, y⟩ := st
  try dsimp only at hJ
  try dsimp only
  obtain ⟨hT, -⟩ := hJ
  obtain ⟨rfl, rfl, hi20, hck⟩ := hT rfl
  have hlen := part_le hi
  rw [← getL_eq hi] at hlen
  have hno : ∀ c ∈ getL (splitM s) i, ¬ c = 47 := by rw [getL_eq hi]; exact splitM_no s _ (List.getElem_mem hi)
  have hb := stepB_pos badR (getL (splitM s) i)
  refine go [38,32,33,2,4] ?_
  refine G.op rfl (G.val rfl rfl ((pv_add64 rfl rfl (by omega)).int (b := ((i + 1 : Nat) : Int)) (by omega)) ?_)
  refine go [21,34,31,32,32,33,2,4,2,10,34,31] ?_
  refine I.condP rfl (fun h24 => ?_) (fun h24 => ?_)
  ·refine go [32,33,0,2,50,1,20,34,31,37,35,36] ?_
   exact I.rR ((3, (atL (splitM s) i : Int))) (by first | exact trivial | ((try dsimp only) <;> exact ⟨fun h => (by cases h), fun _ => hck.trans (checkL_many hi (by omega))⟩)) rfl subT
  refine go [39,31,32,33,0] ?_
  refine G.op rfl (G.cR rfl rfl rfl rfl Try.func86 rfl rfl may0 (step_at (getL (splitM s) i) hno (by omega)) ?_)
  refine go [0,2,7,2,7,1,1,34,31,32,33,0,2,14,34,31] ?_
  refine I.condP rfl (fun h33 => ?_) (fun h33 => ?_)
  ·refine go [32,33,0,0,0,2,6,2,50,1,20,34,31,37,36] ?_
   exact I.rR (((stepB badR (getL (splitM s) i)).1, (atL (splitM s) i : Int) + (stepB badR (getL (splitM s) i)).2)) (by first | exact trivial | ((try dsimp only) <;> exact ⟨fun h => (by cases h), fun _ => hck.trans (checkL_bad hi (by omega) (by omega))⟩)) rfl subT
  refine go [39,40] ?_
  exact I.rN ((0, 0)) (by first | exact trivial | ((try dsimp only) <;> exact ⟨fun _ => ⟨rfl, rfl, by omega, hck.trans (checkL_next hi (by omega) (by omega))⟩, fun h => (by cases h)⟩)) subT
 ·intro D st hJ
  obtain ⟨x, y⟩ := st
  try dsimp only at hJ
  try dsimp only
  obtain ⟨hT, -⟩ := hJ
  obtain ⟨rfl, rfl, hi20, hck⟩ := hT rfl
  refine go [40,31,32,33,2,50,1,20,34,31,37] ?_
  exact I.doneT rfl Y9 (Rv.cellN (cs := [_, _]) rfl Try.underlying123 rfl kr (by first | exact blk_range (k := 2) selD (by rfl)) Rv.nil) (by rw [checkM_parts (by assumption) (by assumption), hck, List.drop_length]; rfl)
 intro D i st hle hJ
 obtain ⟨x, y⟩ := st
 try dsimp only at hJ
 try dsimp only
 obtain ⟨-, hF⟩ := hJ
 have hxy := hF rfl
 refine go [37,36,35] ?_
 exact I.doneT rfl Y9 (Rv.cellN (cs := [_, _]) rfl Try.underlying123 rfl kr (by first | exact blk_range (k := 2) selD (by rfl)) Rv.nil) (by rw [checkM_parts (by assumption) (by assumption), hxy]; rfl)
set_option maxRecDepth 20000 in
set_option maxHeartbeats 4000000 in
theorem valid_tr (s : List UInt8) (hs : s.length ≤ 9223372036854775807) : Tr Try.prog 66 #[.string (sB s)] [] [] (T0 (.bool (decide ((checkM s).1 = 0)))) := by
 refine Tr.of (l := [(0, .string (sB s))]) Try.func66 rfl (n := 7) rfl (.cons rfl .nil) (fun w0 hro => ?_)
 refine go [9,10,1,7,8,9,10,0] ?_
 refine G.op rfl (G.cR rfl rfl rfl rfl Try.func65 rfl rfl may0 (check_tr _ (by omega)) ?_)
 refine G.op rfl (G.val rfl rfl (pv_field1 Try.underlying123 rfl Try.underlying32 rfl rfl rfl) ?_)
 refine go [2,13,1,7,8,11] ?_
 exact G.done0G rfl (Rv.tmp rfl Rv.nil) Y4
theorem retV1 (v : Value) : retV [v] = v := rfl
theorem retV2 (a b : Value) : retV [a, b] = .tuple #[a, b] := rfl
def okP (s : List UInt8) : Prop := (checkM s).1 = 0
instance (s : List UInt8) : Decidable (okP s) := inferInstanceAs (Decidable (_ = _))
def cmpL : List (List UInt8) → List (List UInt8) → Int
 | [], [] => 0
 | [], _ :: _ => -1
 | _ :: _, [] => 1
 | x :: xs, y :: ys => if x = y then cmpL xs ys else bytesC x y
theorem cut_split {t p t' : List UInt8} {m : Bool} (h : cutM t = (p, t', m)) : splitM t = if m then p :: splitM t' else [p] := by
 rw [splitM_cut, h]
theorem cutM_lt {t p t' : List UInt8} (h : cutM t = (p, t', true)) : t'.length < t.length ∧ p.length ≤ t.length := by
 unfold cutM at h
 split at h
 ·injection h with h1 h2
  injection h2 with h2 h3
  rw [← h1, ← h2]
  simp
  omega
 injection h with h1 h2
 injection h2 with h2 h3
 cases h3
theorem ord_ne {x y a b : List UInt8} {m k : Bool} {s t : List UInt8} (hs : cutM s = (x, a, m)) (ht : cutM t = (y, b, k)) (h : x ≠ y) : cmpL (splitM s) (splitM t) = bytesC x y := by
 rw [cut_split hs, cut_split ht]
 cases m <;> cases k <;> exact if_neg h
theorem ord_eq {x y a b : List UInt8} {m k : Bool} {s t : List UInt8} (hs : cutM s = (x, a, m)) (ht : cutM t = (y, b, k)) (h : ¬ x ≠ y) : cmpL (splitM s) (splitM t) = if m then (if k then cmpL (splitM a) (splitM b) else 1) else if k then -1 else 0 := by
 have h : x = y := Decidable.of_not_not h
 rw [cut_split hs, cut_split ht]
 have e : ∀ xs ys, cmpL (x :: xs) (y :: ys) = cmpL xs ys := fun xs ys => if_pos h
 cases m <;> cases k <;> simp [e]
 ·rfl
 ·cases h2 : splitM b with
  | nil => exact absurd h2 (splitM_ne b)
  | cons p r => rfl
 cases h2 : splitM a with
 | nil => exact absurd h2 (splitM_ne a)
 | cons p r => rfl
set_option maxRecDepth 20000 in
set_option maxHeartbeats 4000000 in
theorem order_all (k : Nat) : ∀ a b : List UInt8, a.length = k → a.length ≤ 1000000 → b.length ≤ 1000000 → Tr Try.prog 67 #[.string (sB a), .string (sB b)] [] [] (T0 (.int .i64 (cmpL (splitM a) (splitM b)))) := by
 induction k using Nat.strongRecOn
 rename_i k ih
 intro a b hk ha hb
 obtain ⟨x, a', m, hx⟩ : ∃ x a' m, cutM a = (x, a', m) := ⟨_, _, _, rfl⟩
 obtain ⟨y, b', j, hy⟩ : ∃ y b' j, cutM b = (y, b', j) := ⟨_, _, _, rfl⟩
 have hbl := cutM_len b
 rw [hy] at hbl
 have hbl : b'.length ≤ b.length := hbl
 refine Tr.of (l := [(0, .string (sB a)), (1, .string (sB b))]) Try.func67 rfl (n := 40) rfl (.cons rfl (.cons rfl .nil)) (fun w0 hro => ?_)
 refine go [9,10,1,7,8,9,10,0] ?_
 refine G.op rfl (G.cR rfl rfl rfl rfl Try.func87 rfl rfl may0 (cut_at a _ _ _ (by omega) hx) ?_)
 refine go [0,2,7,2,7,2,7,1,1,1,7,8,9,10,0] ?_
 refine G.op rfl (G.cR rfl rfl rfl rfl Try.func87 rfl rfl may0 (cut_at b _ _ _ (by omega) hy) ?_)
 refine go [0,2,7,2,7,2,7,1,1,1,7,8,9,15,9,10,0,0,2,23,1,7,8] ?_
 refine G.condP rfl (fun h21 => ?_) (fun h21 => ?_)
 ·refine go [9,10,0,0] ?_
  refine G.op rfl (G.cR rfl rfl rfl rfl Try.func68 rfl rfl may0 (cmp_tr _ _) ?_)
  refine go [1,7,8,11,17,12] ?_
  exact G.done0G rfl (Rv.tmp rfl Rv.nil) (by rw [ord_ne hx hy (by assumption)]; rfl)
 refine go [9,10,0,0] ?_
 refine G.part (t := 30) rfl (fun h30 => ?_) (fun h30 => ?_)
 ·refine go [3,0,2,2,1,7,8] ?_
  refine G.cond rfl (fun h28 => ?_) (fun h28 => ?_)
  ·refine go [9,10,0,0] ?_
   have hm : m = true := by simp_all
   subst hm
   have hal := (cutM_lt hx).1
   refine G.op rfl (G.cR rfl rfl rfl rfl Try.func67 rfl rfl may0 (ih a'.length (by have := (cutM_lt (by assumption)).1; omega) a' b' rfl (by have := (cutM_lt (by assumption)).1; omega) (by omega)) ?_)
   refine go [1,7,8,11,17,12] ?_
   exact G.done0G rfl (Rv.tmp rfl Rv.nil) Y18
  refine go [9,10,0,1,7,8] ?_
  refine G.cond rfl (fun h36 => ?_) (fun h36 => ?_)
  ·refine go [9,10,1,7,8,11,17,12] ?_
   exact G.done0G rfl (Rv.tmp rfl Rv.nil) Y18
  refine go [9,10,0,1,7,8] ?_
  refine G.cond rfl (fun h38 => ?_) (fun h38 => ?_)
  ·refine go [9,10,1,7,8,11,17,12] ?_
   exact G.done0G rfl (Rv.tmp rfl Rv.nil) Y18
  refine go [13,16,8,9,10,1,7,8,11] ?_
  exact G.done0G rfl (Rv.tmp rfl Rv.nil) Y18
 refine go [4,2,2,1,7,8,60,0,9,10,0,1,7,8] ?_
 refine G.cond rfl (fun h36 => ?_) (fun h36 => ?_)
 ·refine go [9,10,1,7,8,11,17,12] ?_
  exact G.done0G rfl (Rv.tmp rfl Rv.nil) Y18
 refine go [9,10,0,1,7,8] ?_
 refine G.cond rfl (fun h38 => ?_) (fun h38 => ?_)
 ·refine go [9,10,1,7,8,11,17,12] ?_
  exact G.done0G rfl (Rv.tmp rfl Rv.nil) Y18
 refine go [13,16,8,9,10,1,7,8,11] ?_
 exact G.done0G rfl (Rv.tmp rfl Rv.nil) Y18
theorem order_tr (a b : List UInt8) (ha : a.length ≤ 1000000) (hb : b.length ≤ 1000000) : Tr Try.prog 67 #[.string (sB a), .string (sB b)] [] [] (T0 (.int .i64 (cmpL (splitM a) (splitM b)))) := order_all _ a b rfl ha hb
def compareM (a b : List UInt8) : Int := if okP a then (if okP b then cmpL (splitM a) (splitM b) else 1) else if okP b then -1 else bytesC a b
def parentM (s : List UInt8) : List UInt8 × Bool := if 0 < lastM s s.length ∧ okP s then (s.take (lastM s s.length - 1), true) else ([], false)
theorem lastM_le (s : List UInt8) : ∀ k, lastM s k ≤ k
 | 0 => Nat.le_refl _
 | k + 1 => by
  unfold lastM
  split
  ·exact Nat.le_refl _
  have := lastM_le s k
  omega
set_option maxRecDepth 20000 in
set_option maxHeartbeats 4000000 in
theorem compare_tr (a b : List UInt8) (ha : a.length ≤ 9223372036854775807) (hb : b.length ≤ 9223372036854775807) : Tr Try.prog 55 #[.string (sB a), .string (sB b)] [] [] (T0 (.int .i64 (compareM a b))) := by
 refine Tr.of (l := [(0, .string (sB a)), (1, .string (sB b))]) Try.func55 rfl (n := 26) rfl (.cons rfl (.cons rfl .nil)) (fun w0 hro => ?_)
 refine go [9,10,1,7,8,9,10,0] ?_
 refine G.op rfl (G.cR rfl rfl rfl rfl Try.func66 rfl rfl may0 (valid_tr _ (by omega)) ?_)
 refine go [0] ?_
 refine G.op rfl (G.cR rfl rfl rfl rfl Try.func66 rfl rfl may0 (valid_tr _ (by omega)) ?_)
 refine go [1,1,7,8,9,15,9,10,0,0] ?_
 refine G.partP (t := 13) rfl (fun h13 => ?_) (fun h13 => ?_)
 ·refine go [3,0,2,2,1,7,8] ?_
  refine G.condP rfl (fun h11 => ?_) (fun h11 => ?_)
  ·refine go [9,10,0,0] ?_
   refine G.op rfl (G.cR rfl rfl rfl rfl Try.func67 rfl rfl may0 (order_tr _ _ (by have := okP_len (s := a) (by assumption); omega) (by have := okP_len (s := b) (by assumption); omega)) ?_)
   refine go [1,7,8,11,17,12] ?_
   exact G.done0G rfl (Rv.tmp rfl Rv.nil) Y22
  refine go [9,10,0,1,7,8] ?_
  refine G.condP rfl (fun h19 => ?_) (fun h19 => ?_)
  ·refine go [9,10,1,7,8,11,17,12] ?_
   exact G.done0G rfl (Rv.tmp rfl Rv.nil) Y22
  refine go [9,10,0,1,7,8] ?_
  refine G.condP rfl (fun h21 => ?_) (fun h21 => ?_)
  ·refine go [9,10,1,7,8,11,17,12] ?_
   exact G.done0G rfl (Rv.tmp rfl Rv.nil) Y22
  refine go [13,16,8,9,10,0,0] ?_
  refine G.op rfl (G.cR rfl rfl rfl rfl Try.func68 rfl rfl may0 (cmp_tr _ _) ?_)
  refine go [1,7,8,11] ?_
  exact G.done0G rfl (Rv.tmp rfl Rv.nil) Y22
 refine go [4,2,2,1,7,8,60,0,9,10,0,1,7,8] ?_
 refine G.condP rfl (fun h19 => ?_) (fun h19 => ?_)
 ·refine go [9,10,1,7,8,11,17,12] ?_
  exact G.done0G rfl (Rv.tmp rfl Rv.nil) Y22
 refine go [9,10,0,1,7,8] ?_
 refine G.condP rfl (fun h21 => ?_) (fun h21 => ?_)
 ·refine go [9,10,1,7,8,11,17,12] ?_
  exact G.done0G rfl (Rv.tmp rfl Rv.nil) Y22
 refine go [13,16,8,9,10,0,0] ?_
 refine G.op rfl (G.cR rfl rfl rfl rfl Try.func68 rfl rfl may0 (cmp_tr _ _) ?_)
 refine go [1,7,8,11] ?_
 exact G.done0G rfl (Rv.tmp rfl Rv.nil) Y22
set_option maxRecDepth 20000 in
set_option maxHeartbeats 4000000 in
theorem parent_tr (s : List UInt8) (hs : s.length ≤ 9223372036854775807) : Tr Try.prog 56 #[.string (sB s)] [] [] (T0 (.tuple #[.string (sB (parentM s).1), .bool (parentM s).2])) := by
 refine Tr.of (l := [(0, .string (sB s))]) Try.func56 rfl (n := 17) rfl (.cons rfl .nil) (fun w0 hro => ?_)
 have hlast := lastM_le s s.length
 refine go [9,10,1,1,7,8,9,10,0] ?_
 refine G.op rfl (G.cR rfl rfl rfl rfl Try.func69 rfl rfl may0 (last_tr _ (by omega)) ?_)
 refine go [1,7,8,9,9,10,0,2,9,0] ?_
 refine G.partP (t := 9) rfl (fun h9 => ?_) (fun h9 => ?_)
 ·refine go [4,4,4,2,2,7,8] ?_
  refine G.condT rfl (rfl) ?_
  refine go [9,10,1,1,7,8,11,12] ?_
  exact G.done0G rfl (Rv.tmp rfl (Rv.tmp rfl Rv.nil)) (by unfold parentM; rw [if_neg (show ¬ (0 < lastM s s.length ∧ okP s) from fun h => by first | omega | exact absurd h.2 (by assumption))]; rfl)
 refine go [3,0] ?_
 refine G.want rfl rfl rfl (G.cR rfl rfl rfl rfl Try.func66 rfl rfl may0 (valid_tr _ (by omega)) ?_)
 refine go [3,15,2,2,7,8] ?_
 refine G.condP rfl (fun h13 => ?_) (fun h13 => ?_)
 ·refine go [9,10,1,1,7,8,11,12] ?_
  exact G.done0G rfl (Rv.tmp rfl (Rv.tmp rfl Rv.nil)) (by unfold parentM; rw [if_neg (show ¬ (0 < lastM s s.length ∧ okP s) from fun h => by first | omega | exact absurd h.2 (by assumption))]; rfl)
 refine go [13,8,9,10,0,0] ?_
 refine G.op rfl (G.val rfl rfl (pv_strH (k := lastM s s.length - 1) Try.underlying9 rfl rfl (by omega) (by omega)) ?_)
 refine go [1,1,7,8,11] ?_
 exact G.done0G rfl (Rv.tmp rfl (Rv.tmp rfl Rv.nil)) (by unfold parentM; rw [if_pos (show 0 < lastM s s.length ∧ okP s from ⟨by omega, Decidable.of_not_not (by assumption)⟩)]; rfl)
theorem bl_irrefl : ∀ a, Op.bytesLess a a = false
 | [] => rfl
 | a :: x => by
  have h := bl_irrefl x
  simp [Op.bytesLess, h]
theorem bl_cons {a b : UInt8} {x y : List UInt8} : Op.bytesLess (a :: x) (b :: y) = true ↔ a.toNat < b.toNat ∨ (a = b ∧ Op.bytesLess x y = true) := by
 simp only [Op.bytesLess, Bool.or_eq_true, decide_eq_true_eq, Bool.and_eq_true, beq_iff_eq, UInt8.lt_iff_toNat_lt]
theorem bl_asymm : ∀ a b, Op.bytesLess a b = true → Op.bytesLess b a = true → False
 | a, [], h, _ => by cases a <;> cases h
 | [], b :: y, _, h => by cases h
 | a :: x, b :: y, h, k => by
  rcases bl_cons.1 h with h | ⟨rfl, h2⟩
  ·rcases bl_cons.1 k with k | ⟨rfl, k⟩
   ·omega
   omega
  rcases bl_cons.1 k with k | ⟨_, k2⟩
  ·omega
  exact bl_asymm x y h2 k2
theorem bl_trans : ∀ a b c, Op.bytesLess a b = true → Op.bytesLess b c = true → Op.bytesLess a c = true
 | a, [], c, h, _ => by cases a <;> cases h
 | a, b :: y, [], _, k => by cases k
 | [], b :: y, c :: z, _, _ => rfl
 | a :: x, b :: y, c :: z, h, k => by
  refine bl_cons.2 ?_
  rcases bl_cons.1 h with h1 | ⟨rfl, h2⟩
  ·rcases bl_cons.1 k with k1 | ⟨rfl, k2⟩
   ·exact .inl (by omega)
   exact .inl h1
  rcases bl_cons.1 k with k1 | ⟨rfl, k2⟩
  ·exact .inl k1
  exact .inr ⟨rfl, bl_trans x y z h2 k2⟩
theorem bl_total : ∀ a b, Op.bytesLess a b = false → Op.bytesLess b a = false → a = b
 | [], [], _, _ => rfl
 | [], b :: y, h, _ => by cases h
 | a :: x, [], _, h => by cases h
 | a :: x, b :: y, h, k => by
  have h' : ¬ (a.toNat < b.toNat ∨ (a = b ∧ Op.bytesLess x y = true)) := fun e => by rw [bl_cons.2 e] at h; cases h
  have k' : ¬ (b.toNat < a.toNat ∨ (b = a ∧ Op.bytesLess y x = true)) := fun e => by rw [bl_cons.2 e] at k; cases k
  have e : a = b := UInt8.toNat_inj.1 (by omega)
  subst e
  have h2 : Op.bytesLess x y = false := by
   cases hh : Op.bytesLess x y with
   | false => rfl
   | true => exact absurd (.inr ⟨rfl, hh⟩) h'
  have k2 : Op.bytesLess y x = false := by
   cases hh : Op.bytesLess y x with
   | false => rfl
   | true => exact absurd (.inr ⟨rfl, hh⟩) k'
  rw [bl_total x y h2 k2]
structure OrdF {α : Type} (f : α → α → Int) : Prop where
 rng : ∀ a b, f a b = -1 ∨ f a b = 0 ∨ f a b = 1
 zero : ∀ a b, f a b = 0 ↔ a = b
 anti : ∀ a b, f b a = - f a b
 trans : ∀ a b c, f a b = -1 → f b c = -1 → f a c = -1
theorem bytesM_neg {a b : List UInt8} : bytesC a b = -1 ↔ Op.bytesLess a b = true := by
 unfold bytesC
 cases h : Op.bytesLess a b <;> simp
 by_cases e : a = b <;> simp [e]
theorem bytesM_eq {a b : List UInt8} (h : Op.bytesLess a b = false) : bytesC a b = if a = b then 0 else 1 := by
 unfold bytesC
 rw [h]
 by_cases e : a = b <;> simp [e]
theorem bytesM_ord : OrdF bytesC where
 rng a b := by
  cases h : Op.bytesLess a b with
  | true => exact .inl (bytesM_neg.2 h)
  | false =>
   rw [bytesM_eq h]
   by_cases e : a = b <;> simp [e]
 zero a b := by
  cases h : Op.bytesLess a b with
  | true =>
   rw [bytesM_neg.2 h]
   constructor
   ·intro h; cases h
   rintro rfl
   rw [bl_irrefl] at h
   cases h
  | false =>
   rw [bytesM_eq h]
   by_cases e : a = b <;> simp [e]
 anti a b := by
  cases h : Op.bytesLess a b with
  | true =>
   have h2 : Op.bytesLess b a = false := by
    cases k : Op.bytesLess b a with
    | false => rfl
    | true => exact (bl_asymm _ _ h k).elim
   have h3 : ¬ b = a := fun e => by
    subst e
    rw [bl_irrefl] at h
    cases h
   rw [bytesM_neg.2 h, bytesM_eq h2, if_neg h3]
   rfl
  | false =>
   cases k : Op.bytesLess b a with
   | true =>
    have h3 : ¬ a = b := fun e => by
     subst e
     rw [bl_irrefl] at k
     cases k
    rw [bytesM_neg.2 k, bytesM_eq h, if_neg h3]
   | false =>
    have := bl_total _ _ h k
    subst this
    rw [bytesM_eq h, if_pos rfl]
    rfl
 trans a b c h k := bytesM_neg.2 (bl_trans _ _ _ (bytesM_neg.1 h) (bytesM_neg.1 k))
theorem OrdF.self {α : Type} {f : α → α → Int} (h : OrdF f) (a : α) : f a a = 0 := (h.zero a a).2 rfl
theorem cmpL_cons_eq {x : List UInt8} {xs ys : List (List UInt8)} : cmpL (x :: xs) (x :: ys) = cmpL xs ys := if_pos rfl
theorem cmpL_cons_ne {x y : List UInt8} {xs ys : List (List UInt8)} (h : ¬ x = y) : cmpL (x :: xs) (y :: ys) = bytesC x y := if_neg h
theorem cmpL_rng : ∀ a b, cmpL a b = -1 ∨ cmpL a b = 0 ∨ cmpL a b = 1
 | [], [] => .inr (.inl rfl)
 | [], _ :: _ => .inl rfl
 | _ :: _, [] => .inr (.inr rfl)
 | x :: xs, y :: ys => by
  by_cases h : x = y
  ·subst h
   rw [cmpL_cons_eq]
   exact cmpL_rng xs ys
  rw [cmpL_cons_ne h]
  exact bytesM_ord.rng x y
theorem cmpL_zero : ∀ a b, cmpL a b = 0 ↔ a = b
 | [], [] => ⟨fun _ => rfl, fun _ => rfl⟩
 | [], _ :: _ => ⟨fun h => (by cases h), fun h => (by cases h)⟩
 | _ :: _, [] => ⟨fun h => (by cases h), fun h => (by cases h)⟩
 | x :: xs, y :: ys => by
  by_cases h : x = y
  ·subst h
   rw [cmpL_cons_eq, cmpL_zero xs ys]
   simp
  rw [cmpL_cons_ne h, bytesM_ord.zero]
  simp [h]
theorem cmpL_anti : ∀ a b, cmpL b a = - cmpL a b
 | [], [] => rfl
 | [], _ :: _ => rfl
 | _ :: _, [] => rfl
 | x :: xs, y :: ys => by
  by_cases h : x = y
  ·subst h
   rw [cmpL_cons_eq, cmpL_cons_eq]
   exact cmpL_anti xs ys
  rw [cmpL_cons_ne h, cmpL_cons_ne (fun e => h e.symm)]
  exact bytesM_ord.anti x y
theorem cmpL_trans : ∀ a b c, cmpL a b = -1 → cmpL b c = -1 → cmpL a c = -1
 | [], [], _, h, _ => by cases h
 | _ :: _, [], _, h, _ => by cases h
 | _, _ :: _, [], _, k => by cases k
 | [], _ :: _, _ :: _, _, _ => rfl
 | x :: xs, y :: ys, z :: zs, h, k => by
  by_cases e : x = y
  ·subst e
   rw [cmpL_cons_eq] at h
   by_cases e2 : x = z
   ·subst e2
    rw [cmpL_cons_eq] at k ⊢
    exact cmpL_trans xs ys zs h k
   rw [cmpL_cons_ne e2] at k ⊢
   exact k
  rw [cmpL_cons_ne e] at h
  by_cases e2 : y = z
  ·subst e2
   rw [cmpL_cons_ne e]
   exact h
  rw [cmpL_cons_ne e2] at k
  have h3 := bytesM_ord.trans x y z h k
  have e3 : ¬ x = z := fun e => by
   subst e
   rw [bytesM_ord.self] at h3
   cases h3
  rw [cmpL_cons_ne e3]
  exact h3
def joinL : List (List UInt8) → List UInt8
 | [] => []
 | [p] => p
 | p :: q :: r => p ++ 47 :: joinL (q :: r)
theorem joinL_cons {p : List UInt8} {r : List (List UInt8)} (h : r ≠ []) : joinL (p :: r) = p ++ 47 :: joinL r := by
 cases r with
 | nil => exact absurd rfl h
 | cons q r => rfl
theorem joinL_head {c : UInt8} {ps : List (List UInt8)} (h : ps ≠ []) : joinL (headP c ps) = c :: joinL ps := by
 cases ps with
 | nil => exact absurd rfl h
 | cons p r => cases r <;> rfl
theorem joinL_split : ∀ s, joinL (splitM s) = s
 | [] => rfl
 | c :: s => by
  have ih := joinL_split s
  by_cases h : c = 47
  ·subst h
   rw [splitM_stroke, joinL_cons (splitM_ne s), ih]
   rfl
  rw [splitM_char h, joinL_head (splitM_ne s), ih]
theorem split_inj {a b : List UInt8} (h : splitM a = splitM b) : a = b := by
 rw [← joinL_split a, h, joinL_split]
theorem parentM_len (s : List UInt8) : (parentM s).1.length ≤ s.length := by
 unfold parentM
 split
 ·simp
  omega
 simp
theorem compareM_ok {a b : List UInt8} (ha : okP a) (hb : okP b) : compareM a b = cmpL (splitM a) (splitM b) := (if_pos ha).trans (if_pos hb)
theorem compareM_l {a b : List UInt8} (ha : okP a) (hb : ¬ okP b) : compareM a b = 1 := (if_pos ha).trans (if_neg hb)
theorem compareM_r {a b : List UInt8} (ha : ¬ okP a) (hb : okP b) : compareM a b = -1 := (if_neg ha).trans (if_pos hb)
theorem compareM_no {a b : List UInt8} (ha : ¬ okP a) (hb : ¬ okP b) : compareM a b = bytesC a b := (if_neg ha).trans (if_neg hb)
theorem compareM_ord : OrdF compareM where
 rng a b := by
  by_cases ha : okP a <;> by_cases hb : okP b
  ·rw [compareM_ok ha hb]; exact cmpL_rng _ _
  ·rw [compareM_l ha hb]; simp
  ·rw [compareM_r ha hb]; simp
  rw [compareM_no ha hb]; exact bytesM_ord.rng _ _
 zero a b := by
  by_cases ha : okP a <;> by_cases hb : okP b
  ·rw [compareM_ok ha hb, cmpL_zero]
   exact ⟨split_inj, fun h => by rw [h]⟩
  ·rw [compareM_l ha hb]
   exact ⟨fun h => (by cases h), fun h => absurd (h ▸ ha) hb⟩
  ·rw [compareM_r ha hb]
   exact ⟨fun h => (by cases h), fun h => absurd (h ▸ hb) ha⟩
  rw [compareM_no ha hb]; exact bytesM_ord.zero _ _
 anti a b := by
  by_cases ha : okP a <;> by_cases hb : okP b
  ·rw [compareM_ok ha hb, compareM_ok hb ha]; exact cmpL_anti _ _
  ·rw [compareM_l ha hb, compareM_r hb ha]
  ·rw [compareM_r ha hb, compareM_l hb ha]; rfl
  rw [compareM_no ha hb, compareM_no hb ha]; exact bytesM_ord.anti _ _
 trans a b c h k := by
  by_cases ha : okP a
  ·by_cases hb : okP b
   ·rw [compareM_ok ha hb] at h
    by_cases hc : okP c
    ·rw [compareM_ok hb hc] at k
     rw [compareM_ok ha hc]
     exact cmpL_trans _ _ _ h k
    rw [compareM_l hb hc] at k
    cases k
   rw [compareM_l ha hb] at h
   cases h
  by_cases hc : okP c
  ·exact compareM_r ha hc
  by_cases hb : okP b
  ·rw [compareM_l hb hc] at k
   cases k
  rw [compareM_no ha hb] at h
  rw [compareM_no hb hc] at k
  rw [compareM_no ha hc]
  exact bytesM_ord.trans _ _ _ h k
theorem Try.infoByte : (Try.prog.info? 5).map (fun i => (i.zero, i.size, i.bytes)) = some (some (.int .u8 0), 1, 1) := by kernel_rfl
set_option maxRecDepth 20000 in
theorem same_tr {Pv Pu : Nat → Prop} (v u : Value) (a b : List UInt8) : Tr Try.prog 39 #[v, u] [slc rByte Pv v a, slc rByte Pu u b] [] (T0 (.bool (decide (a = b)))) := by
 refine Tr.of (l := [(0, v), (1, u)]) Try.func39 rfl (n := 10) rfl (.cons rfl (.cons rfl .nil)) (fun w0 hro => ?_)
 obtain ⟨hv, hu⟩ := ro2 hro
 refine go [9,10,1,7,8,9,10,0] ?_
 refine G.op rfl (G.val rfl rfl (pv_toStr Try.underlying87 Try.underlying5 Try.underlying9 rfl (by first | exact ro_sl (by assumption) | assumption)) ?_)
 refine go [0] ?_
 refine G.op rfl (G.val rfl rfl (pv_toStr Try.underlying87 Try.underlying5 Try.underlying9 rfl (by first | exact ro_sl (by assumption) | assumption)) ?_)
 refine go [2,24,1,7,8,11] ?_
 exact G.done1 rfl rfl .nil ⟨rfl, rfl⟩
set_option maxRecDepth 100000
structure En where
 path : List UInt8
 kind : Int
 mode : Int
 data : List UInt8
 to : List UInt8
abbrev ET := En × Value
def evC (x : ET) : List Value := [vStr x.1.path, vInt x.1.kind, vInt x.1.mode, x.2, vStr x.1.to]
def EnOk (e : En) : Prop := I64 e.kind ∧ I64 e.mode ∧ e.path.length ≤ 140737488355328 ∧ e.data.length ≤ 140737488355328 ∧ e.to.length ≤ 140737488355328
theorem rangeAt_loc {w w' : World} {b o : Nat} {cs : List Value} (h : w'.heap[b]? = w.heap[b]?) (hw : w.rangeAt b o cs) : w'.rangeAt b o cs := fun j v hj => (World.cell?_of_block h).trans (hw j v hj)
def rEV : Rdr ET where
 sz := 5
 R := fun Ps w b o x => Ps b ∧ w.rangeAt b o (evC x) ∧ IsSl rByte Ps w x.2 x.1.data ∧ EnOk x.1
 loc := fun h ⟨h1, h2, h3, h4⟩ => ⟨h1, rangeAt_loc (h _ h1) h2, h3.loc h, h4⟩
 mono := fun h ⟨h1, h2, h3, h4⟩ => ⟨h _ h1, h2, h3.mono h, h4⟩
def flatT (xs : List ET) : List Value := xs.flatMap evC
theorem evC_length (x : ET) : (evC x).length = 5 := rfl
theorem flatT_length (xs : List ET) : (flatT xs).length = xs.length * 5 := flatMap_length evC 5 evC_length xs
theorem flatT_get {xs : List ET} {i j : Nat} (hi : i < xs.length) (hj : j < 5) : (flatT xs)[i * 5 + j]? = (evC xs[i])[j]? := flatMap_get evC 5 evC_length xs i j hi hj
def ens (xs : List ET) : List En := xs.map (·.1)
theorem ens_length (xs : List ET) : (ens xs).length = xs.length := List.length_map ..
theorem ens_get {xs : List ET} {i : Nat} (h : i < xs.length) : (ens xs)[i]'(by rw [ens_length]; exact h) = xs[i].1 := List.getElem_map ..
theorem flat_at {xs : List ET} {sp : List Value} {i : Nat} (h : i < xs.length) (j : Nat) (hj : j < 5) : (flatT xs ++ sp)[0 + i * 5 + j]? = (evC xs[i])[j]? := by
 rw [List.getElem?_append_left (by rw [flatT_length]; omega), show 0 + i * 5 + j = i * 5 + j by omega]
 exact flatT_get h hj
theorem flat_set {xs : List ET} {sp : List Value} {i : Nat} (h : i < xs.length) (d : Value) : (flatT xs ++ sp).set (0 + i * 5 + 3) d = flatT (xs.set i (xs[i].1, d)) ++ sp := by
 have hl : (flatT (xs.set i (xs[i].1, d))).length = xs.length * 5 := by rw [flatT_length, List.length_set]
 apply List.ext_getElem?
 intro j
 rcases Nat.lt_or_ge j (xs.length * 5) with hj | hj
 ·obtain ⟨q, r, rfl, hr, hq⟩ : ∃ q r, j = q * 5 + r ∧ r < 5 ∧ q < xs.length := ⟨j / 5, j % 5, by omega, by omega, by omega⟩
  rw [List.getElem?_append_left (by rw [hl]; omega), flatT_get (by rw [List.length_set]; exact hq) hr]
  by_cases hiq : i = q
  ·subst hiq
   rw [List.getElem_set_self]
   by_cases hr3 : r = 3
   ·subst hr3
    rw [show 0 + i * 5 + 3 = i * 5 + 3 by omega, List.getElem?_set_self (by rw [List.length_append, flatT_length]; omega)]
    rfl
   rw [List.getElem?_set_ne (by omega), List.getElem?_append_left (by rw [flatT_length]; omega), flatT_get hq hr]
   have : r = 0 ∨ r = 1 ∨ r = 2 ∨ r = 4 := by omega
   rcases this with rfl | rfl | rfl | rfl <;> rfl
  rw [List.getElem_set_ne hiq, List.getElem?_set_ne (by omega), List.getElem?_append_left (by rw [flatT_length]; omega), flatT_get hq hr]
 rw [List.getElem?_set_ne (by omega), List.getElem?_append_right (by rw [flatT_length]; omega), List.getElem?_append_right (by rw [hl]; omega), flatT_length, hl]
def ownT (e : TypeId) (v : Value) (xs : List ET) : Ck := own e 5 v xs.length (flatT xs)
def datC (e : TypeId) (xs : List ET) : Ck := star (xs.map fun x => ownB e x.2 x.1.data)
section
variable {P : Program} {n : Nat} {w0 : World} {S : Nat → Prop} {l : Fr} {m : List Ck} {Q : Exit → Act → World → Prop} {K : Act → World → Prop}
theorem Ro.openT {Ps : Nat → Prop} {v : Value} {xs : List ET} (h : Ro w0 S (slc rEV Ps v xs)) : ∃ ad cap b off, v = .slice ad xs.length cap ∧ xs.length ≤ cap ∧ cap ≤ 9223372036854775807 ∧ (ad = none → cap = 0) ∧ (0 < xs.length → ad = some ⟨b, off, none⟩) ∧ ∀ i (hi : i < xs.length), Ro w0 S (elc rEV Ps b (off + i * 5) xs[i]) := h.open
theorem Ro.evRng {Ps : Nat → Prop} {b o : Nat} {x : ET} (h : Ro w0 S (elc rEV Ps b o x)) : Ro w0 S (rng b o [.string (sB x.1.path), .int .i64 x.1.kind, .int .i64 x.1.mode, x.2, .string (sB x.1.to)]) :=
 ⟨h.1.2.1, fun k hk => h.2 k (by obtain rfl : k = b := hk; exact h.1.1)⟩
theorem Ro.evDat {Ps : Nat → Prop} {b o : Nat} {x : ET} (h : Ro w0 S (elc rEV Ps b o x)) : Ro w0 S (slc rByte Ps x.2 x.1.data) := ⟨h.1.2.2.1, h.2⟩
theorem Ro.evOk {Ps : Nat → Prop} {b o : Nat} {x : ET} (h : Ro w0 S (elc rEV Ps b o x)) : EnOk x.1 := h.1.2.2.2
theorem Ro.slv {α : Type} {E : Rdr α} {Ps : Nat → Prop} {v : Value} {xs : List α} (h : Ro w0 S (slc E Ps v xs)) : ∃ ad cap, v = .slice ad xs.length cap := by
 obtain ⟨⟨ad, cap, b, off, e, _⟩, _⟩ := h
 exact ⟨ad, cap, e⟩
theorem ownT_sl {e : TypeId} {v : Value} {xs : List ET} {w : World} {Ps : Nat → Prop} (h : w.ownsRow 0 e 5 v xs.length (flatT xs)) (hP : ∀ b, v.ownBlock = some b → Ps b) (hok : ∀ x ∈ xs, EnOk x.1) (hd : ∀ x ∈ xs, IsSl rByte Ps w x.2 x.1.data) : IsSl rEV Ps w v xs := by
 obtain ⟨ad, cap, b, hv, had, hnil, hnw⟩ := own_news h
 obtain ⟨h1, h2⟩ := h
 have hb : xs.length ≤ cap ∧ cap ≤ 9223372036854775807 := by
  rcases h2 with ⟨rfl, h0⟩ | ⟨g, cap', cur, rfl, _, _, hc, hm, _⟩
  ·injection hv with e1 e2 e3
   subst e3
   omega
  injection hv with e1 e2 e3
  subst e3
  exact ⟨hc, by unfold maxLen at hm; omega⟩
 refine ⟨ad, cap, b, 0, hv, hb.1, hb.2, hnil, had, fun i hi => ⟨hP b ?_, fun j u hj => ?_, hd _ (List.getElem_mem hi), hok _ (List.getElem_mem hi)⟩⟩
 ·rw [hv, had (by omega)]
  rfl
 have hj5 : j < 5 := (List.getElem?_eq_some_iff.1 hj).1
 have := hnw (i * 5 + j) u (by rw [flatT_get hi hj5]; exact hj)
 rw [show 0 + i * rEV.sz + j = 0 + (i * 5 + j) from by show 0 + i * 5 + j = _; omega]
 exact this
theorem datC_dat {w : World} {e : TypeId} {xs : List ET} (h : (datC e xs).φ w) : ∀ x ∈ xs, IsSl rByte (datC e xs).S w x.2 x.1.data := fun x hx => by
 have h1 : (ownB e x.2 x.1.data).φ w := h.1 _ (List.mem_map.2 ⟨x, hx, rfl⟩)
 exact (own_isSl' (p := fun _ => True) (OwnB.own h1) rfl (fun _ _ => trivial)).mono fun k hk => ⟨_, List.mem_map.2 ⟨x, hx, rfl⟩, hk⟩
theorem may_tree {e e2 : TypeId} {v : Value} {xs : List ET} {r r' : List Ck} (h : Sel m (ownT e v xs) r) (h' : Sel m (datC e2 xs) r') (hok : ∀ x ∈ xs, EnOk x.1) : May w0 S m (slc rEV (fun b => v.ownBlock = some b ∨ (datC e2 xs).S b) v xs) :=
 .mix (fun w hw => ownT_sl (hw.holds _ h.mem) (fun b hb => .inl hb) hok fun x hx => (datC_dat (hw.holds _ h'.mem) x hx).mono fun k hk => .inr hk) fun b hb => .inr (by
  rcases hb with hb | hb
  ·exact ⟨_, h.mem, hb⟩
  exact ⟨_, h'.mem, hb⟩)
end
theorem G.blkOwnB {n : Nat} {w0 : World} {S : Nat → Prop} {l : Fr} {m : List Ck} {K : Act → World → Prop} {b e : Nat} {xs : List UInt8} {r : List Ck} (hs : Sel m (blk b e (xs.map vByte)) r) (hm : xs.length ≤ 9223372036854775807) (h : G n w0 S l (ownB e (.slice (some ⟨b, 0, none⟩) xs.length xs.length) xs :: r) K) : G n w0 S l m K := fun a w ha hw =>
 h a w ha (hp_view (c := blk b e (xs.map vByte)) (d := ownB e (.slice (some ⟨b, 0, none⟩) xs.length xs.length) xs) (hw.sel hs) (fun hg => .inr ⟨b, [], by simp, by simpa using hm, by rw [List.append_nil]; exact hg⟩) fun k hk => by
  have : some b = some k := hk
  exact (Option.some.inj this).symm)
set_option maxRecDepth 20000 in
set_option maxHeartbeats 4000000 in
theorem cloneB_tr {Pv : Nat → Prop} (v : Value) (a : List UInt8) (ha : a.length ≤ 140737488355328) : Tr Try.prog 49 #[v] [slc rByte Pv v a] [] (TX (fun _ : Value => True) (fun x => x) (fun x => [ownB 5 x a])) := by
 refine Tr.of (l := [(0, v)]) Try.func49 rfl (n := 8) rfl (.cons rfl .nil) (fun w0 hro => ?_)
 have hv := ro1 hro
 obtain ⟨av, cv, qv, ov, rfl, hcv, hmv, hnil, hadv, -⟩ := Ro.open hv
 refine go [9,10,1,7,8,9,9,10,0] ?_
 refine G.op rfl (G.val rfl rfl (pv_eqlSl0 Try.underlying87 rfl rfl) ?_)
 refine go [7,8] ?_
 refine G.cond rfl (fun h4 => ?_) (fun h4 => ?_)
 ·have hn : av = none := by simpa using h4
  have hc0 := hnil hn
  obtain rfl : a = [] := List.eq_nil_of_length_eq_zero (by omega)
  refine go [9,10,1,7,8,11,12] ?_
  refine G.ownBNil 5 ?_
  exact G.doneX1 (.slice none 0 0) trT rfl rfl rfl subT
 refine go [13,8,9,10] ?_
 refine G.op rfl (G.lit0 rfl Try.underlying87 kr rfl ?_)
 intro b5
 refine G.blkOwnB (b := b5) (xs := []) selT (by decide) ?_
 refine go [0] ?_
 refine G.op rfl (G.appendB (xs := []) (ys := a) (Ps := Pv) rfl Try.underlying87 Try.infoByte rfl rfl selT (ro_sl hv) (by simp; omega) (by simp; omega) ?_)
 intro v'
 rw [List.nil_append a]
 refine go [1,7,8,11] ?_
 exact G.doneX1 (v') trT rfl rfl rfl subT
set_option maxRecDepth 20000 in
set_option maxHeartbeats 4000000 in
theorem bequal_tr {Pv Pu : Nat → Prop} (v u : Value) (a b : List UInt8) : Tr Try.prog 53 #[v, u] [slc rByte Pv v a, slc rByte Pu u b] [] (T0 (.bool (decide (a = b)))) := by
 refine Tr.of (l := [(0, v), (1, u)]) Try.func53 rfl (n := 10) rfl (.cons rfl (.cons rfl .nil)) (fun w0 hro => ?_)
 obtain ⟨hv, hu⟩ := ro2 hro
 refine go [9,10,1,7,8,9,10,0] ?_
 refine G.op rfl (G.val rfl rfl (pv_toStr Try.underlying87 Try.underlying5 Try.underlying9 rfl (by first | exact ro_sl (by assumption) | assumption)) ?_)
 refine go [0] ?_
 refine G.op rfl (G.val rfl rfl (pv_toStr Try.underlying87 Try.underlying5 Try.underlying9 rfl (by first | exact ro_sl (by assumption) | assumption)) ?_)
 refine go [2,24,1,7,8,11] ?_
 exact G.done0G rfl (Rv.tmp rfl Rv.nil) Y4
def argP (e : En) : Prop := e.kind < 1 ∨ 3 < e.kind ∨ e.mode < 0 ∨ 511 < e.mode ∨ (0 < e.data.length ∧ e.kind ≠ 2) ∨ (e.kind = 3 ∧ e.to.length = 0) ∨ (e.kind ≠ 3 ∧ 0 < e.to.length) ∨ 200 < e.to.length
instance (e : En) : Decidable (argP e) := inferInstanceAs (Decidable (_ ∨ _))
def oneM (e : En) : Int := if ¬ okP e.path then 4 else if argP e then 2 else if 1048576 < e.data.length then 3 else 0
theorem one_bytes {e : En} (h : ¬ okP e.path) : oneM e = 4 := if_pos h
theorem one_arg {e : En} (h : okP e.path) (h2 : argP e) : oneM e = 2 := (if_neg (fun k => k h)).trans (if_pos h2)
theorem one_long {e : En} (h : okP e.path) (h2 : ¬ argP e) (h3 : 1048576 < e.data.length) : oneM e = 3 := (if_neg (fun k => k h)).trans ((if_neg h2).trans (if_pos h3))
theorem one_ok {e : En} (h : okP e.path) (h2 : ¬ argP e) (h3 : ¬ 1048576 < e.data.length) : oneM e = 0 := (if_neg (fun k => k h)).trans ((if_neg h2).trans (if_neg h3))
theorem nil_len {s : List UInt8} : s = [] ↔ s.length = 0 := List.length_eq_zero_iff.symm
theorem dec_t {p : Prop} [Decidable p] (h : p) : Value.bool true = .bool (decide p) := by rw [decide_eq_true h]
theorem dec_f {p : Prop} [Decidable p] (h : ¬ p) : Value.bool false = .bool (decide p) := by rw [decide_eq_false h]
theorem dec_e {p q : Prop} [Decidable p] [Decidable q] (h : p ↔ q) : Value.bool (decide p) = .bool (decide q) := by rw [decide_eq_decide.2 h]
theorem dec_n {p : Prop} [Decidable p] {a b : Bool} (h : (!(a == b)) = true ↔ p) : Value.bool (!(a == b)) = .bool (decide p) := by
 congr 1
 cases hh : (!(a == b)) with
 | true => exact (decide_eq_true (h.1 hh)).symm
 | false => exact (decide_eq_false fun k => by rw [h.2 k] at hh; cases hh).symm
theorem bne_dec {p q : Prop} [Decidable p] [Decidable q] : (!(decide p == decide q)) = true ↔ ¬ (p ↔ q) := by
 by_cases hp : p <;> by_cases hq : q <;> simp [hp, hq]
set_option maxRecDepth 20000 in
set_option maxHeartbeats 4000000 in
theorem one_tr {Pd : Nat → Prop} (e : En) (d : Value) (hl : e.path.length ≤ 9223372036854775807) : Tr Try.prog 54 #[.agg #[.string (sB e.path), .int .i64 e.kind, .int .i64 e.mode, d, .string (sB e.to)]] [slc rByte Pd d e.data] [] (T0 (.int .i64 (oneM e))) := by
 refine Tr.of (l := [(0, .agg #[.string (sB e.path), .int .i64 e.kind, .int .i64 e.mode, d, .string (sB e.to)])]) Try.func54 rfl (n := 58) rfl (.cons rfl .nil) (fun w0 hro => ?_)
 have hd := ro1 hro
 obtain ⟨ad, cap, rfl⟩ := Ro.slv hd
 have hto := nil_len (s := e.to)
 refine go [9,10,60,3] ?_
 intro b1
 refine go [1,7,8,9] ?_
 refine G.drawT (nn := 8) (p := []) (rem := 255) [0, 1, 2, 0, 8, 16, 7, 127] [0, 1, 2, 0, 8, 16, 4, 32] kr ⟨rfl, by kernel_rfl, by kernel_rfl⟩ subT kr (fun hT1 => ?_)
 refine go [22,0,254,3,1,22,3,246,3,1,22,1,244,4,22,2,240,13,22,6,176,1,24,4,160,25,4,26,22,5,128,13,22,7,0,1,27,8,9,15,9,10,2,3,0,2,4] ?_
 refine G.op rfl (G.cR rfl rfl rfl rfl Try.func65 rfl rfl may0 (check_tr _ (by omega)) ?_)
 refine G.op rfl (G.val rfl rfl (pv_field1 Try.underlying123 rfl Try.underlying32 rfl rfl rfl) ?_)
 refine go [2,14,1,7,8] ?_
 refine G.condP rfl (fun h11 => ?_) (fun h11 => ?_)
 ·refine go [9,10,1,7,8,11,17,12] ?_
  exact G.done0G rfl (Rv.tmp rfl Rv.nil) (by rw [one_bytes (by assumption)]; rfl)
 have hok : okP e.path := Decidable.of_not_not (by assumption)
 refine G.seq ?_
 refine G.cutK (X := Unit) (ts := [1, 2]) (p := []) (fun _ => True) (fun _ => [(17, .bool (decide (argP e)))]) (fun _ => []) (.cons rfl (.cons rfl .nil)) subT (.cons .nil) apT ?_ ?_
 ·refine go [9,10,2,3,1,2,4,2,9,0] ?_
  refine G.partP (t := 21) rfl (fun h21 => ?_) (fun h21 => ?_)
  ·refine go [4,4,4,2,2,1,7,8] ?_
   refine G.condT rfl (rfl) ?_
   refine G.skip ?_
   exact G.meet (()) trT (.consE rfl Y2 (.cons rfl (.cons rfl .nil))) subT
  refine go [3,3,1,3,4,3,10,2,2,1,7,8] ?_
  refine G.condP rfl (fun h17 => ?_) (fun h17 => ?_)
  ·refine G.skip ?_
   exact G.meet (()) trT (.consE rfl Y2 (.cons rfl (.cons rfl .nil))) subT
  refine go [9,10,2,3,2,2,4,2,9,0] ?_
  refine G.partP (t := 29) rfl (fun h29 => ?_) (fun h29 => ?_)
  ·refine go [4,4,4,2,2,1,7,8] ?_
   refine G.condT rfl (rfl) ?_
   refine G.skip ?_
   exact G.meet (()) trT (.consE rfl Y2 (.cons rfl (.cons rfl .nil))) subT
  refine go [3,3,2,3,4,3,10,2,2,1,7,8] ?_
  refine G.condP rfl (fun h17 => ?_) (fun h17 => ?_)
  ·refine G.skip ?_
   exact G.meet (()) trT (.consE rfl Y2 (.cons rfl (.cons rfl .nil))) subT
  refine go [9,10,2,3,3,2,4,2,5,2,10,0] ?_
  refine G.partP (t := 38) rfl (fun h38 => ?_) (fun h38 => ?_)
  ·refine go [3,0,3,15,2,2,1,7,8] ?_
   refine G.condP rfl (fun h17 => ?_) (fun h17 => ?_)
   ·refine G.skip ?_
    exact G.meet (()) trT (.consE rfl Y2 (.cons rfl (.cons rfl .nil))) subT
   refine go [10,0,2,3,4,2,4,2,23] ?_
   refine G.op rfl (G.val rfl rfl (pv_neqB Try.underlying4 rfl rfl) ?_)
   refine go [0] ?_
   refine G.part (t := 47) rfl (fun h47 => ?_) (fun h47 => ?_)
   ·have hb := bne_dec.1 h47
    rw [ne_eq, hto] at hb
    refine go [4,4,4,4,2,2,1,7] ?_
    exact G.meet (()) trT (.consE rfl Y2 (.cons rfl (.cons rfl .nil))) subT
   have hb : ¬ ¬ (e.kind = 3 ↔ ¬ e.to.length = 0) := fun h => by have := bne_dec.2 (show ¬ (e.kind = 3 ↔ e.to ≠ []) by rw [ne_eq, hto]; exact h); rw [h47] at this; cases this
   refine go [3,3,4,3,4,3,21,3,10,2,2,1,7] ?_
   exact G.meet (()) trT (.consE rfl Y2 (.cons rfl (.cons rfl .nil))) subT
  refine go [4,4,2,2,1,7,8,60,0,10,0,2,3,4,2,4,2,23] ?_
  refine G.op rfl (G.val rfl rfl (pv_neqB Try.underlying4 rfl rfl) ?_)
  refine go [0] ?_
  refine G.part (t := 47) rfl (fun h47 => ?_) (fun h47 => ?_)
  ·have hb := bne_dec.1 h47
   rw [ne_eq, hto] at hb
   refine go [4,4,4,4,2,2,1,7] ?_
   exact G.meet (()) trT (.consE rfl Y2 (.cons rfl (.cons rfl .nil))) subT
  have hb : ¬ ¬ (e.kind = 3 ↔ ¬ e.to.length = 0) := fun h => by have := bne_dec.2 (show ¬ (e.kind = 3 ↔ e.to ≠ []) by rw [ne_eq, hto]; exact h); rw [h47] at this; cases this
  refine go [3,3,4,3,4,3,21,3,10,2,2,1,7] ?_
  exact G.meet (()) trT (.consE rfl Y2 (.cons rfl (.cons rfl .nil))) subT
 intro _ hJ
 try dsimp only at hJ
 try dsimp only
 refine G.condP rfl (fun h17 => ?_) (fun h17 => ?_)
 ·refine go [9,10,1,7,8,11,17,12] ?_
  exact G.done0G rfl (Rv.tmp rfl Rv.nil) (by rw [one_arg hok (by assumption)]; rfl)
 refine go [9,10,2,3,3,2,4,2,5,2,10,1,7,8] ?_
 refine G.condP rfl (fun h53 => ?_) (fun h53 => ?_)
 ·refine go [9,10,1,7,8,11,17,12] ?_
  exact G.done0G rfl (Rv.tmp rfl Rv.nil) (by rw [one_long hok (by assumption) (by omega)]; rfl)
 refine go [13,16,8,9,10,1,7,8,11] ?_
 exact G.done0G rfl (Rv.tmp rfl Rv.nil) (by rw [one_ok hok (by assumption) (by omega)]; rfl)
instance : DecidableEq En := fun a b => decidable_of_iff (a.path = b.path ∧ a.kind = b.kind ∧ a.mode = b.mode ∧ a.data = b.data ∧ a.to = b.to) (by
 cases a
 cases b
 simp)
theorem en_eq {a b : En} : a = b ↔ a.path = b.path ∧ a.kind = b.kind ∧ a.mode = b.mode ∧ a.data = b.data ∧ a.to = b.to := by
 cases a
 cases b
 simp
theorem sB_beq (a b : List UInt8) : (sB a == sB b) = decide (a = b) := by
 show (a.toArray == b.toArray) = _
 rw [Bool.eq_iff_iff]
 simp
set_option maxRecDepth 20000 in
set_option maxHeartbeats 4000000 in
theorem alike_tr {Pa Pb : Nat → Prop} (a b : En) (da db : Value) : Tr Try.prog 38 #[.agg #[.string (sB a.path), .int .i64 a.kind, .int .i64 a.mode, da, .string (sB a.to)], .agg #[.string (sB b.path), .int .i64 b.kind, .int .i64 b.mode, db, .string (sB b.to)]] [slc rByte Pa da a.data, slc rByte Pb db b.data] [] (T0 (.bool (decide (a = b)))) := by
 refine Tr.of (l := [(0, .agg #[.string (sB a.path), .int .i64 a.kind, .int .i64 a.mode, da, .string (sB a.to)]), (1, .agg #[.string (sB b.path), .int .i64 b.kind, .int .i64 b.mode, db, .string (sB b.to)])]) Try.func38 rfl (n := 31) rfl (.cons rfl (.cons rfl .nil)) (fun w0 hro => ?_)
 obtain ⟨hda, hdb⟩ := ro2 hro
 refine go [9,10,60,3] ?_
 intro b2
 refine go [60,3] ?_
 intro b3
 refine go [1,7,8,9,10,2,3,0,2,4,2,3,1,2,4,2,3,2,2,4,2,3,4,2,4] ?_
 refine G.op rfl (G.val rfl rfl (pv_buildSt (z := [.string ⟨#[]⟩, .int .i64 0, .int .i64 0, .string ⟨#[]⟩]) (pl := [(0, 1), (1, 1), (2, 1), (3, 1)]) Try.underlying105 kr kr rfl flT) ?_)
 refine go [2,3,0,2,4,2,3,1,2,4,2,3,2,2,4,2,3,4,2,4] ?_
 refine G.op rfl (G.val rfl rfl (pv_buildSt (z := [.string ⟨#[]⟩, .int .i64 0, .int .i64 0, .string ⟨#[]⟩]) (pl := [(0, 1), (1, 1), (2, 1), (3, 1)]) Try.underlying105 kr kr rfl flT) ?_)
 refine G.op rfl (G.val rfl rfl ((pv_eqlSt (xs := [.string (sB a.path), .int .i64 a.kind, .int .i64 a.mode, .string (sB a.to)]) (ys := [.string (sB b.path), .int .i64 b.kind, .int .i64 b.mode, .string (sB b.to)]) (r := ((sB a.path == sB b.path) && (decide (a.kind = b.kind) && (decide (a.mode = b.mode) && ((sB a.to == sB b.to) && true))))) Try.underlying105 kr kr rfl rfl kr).cast (v' := .bool (decide (a.path = b.path ∧ a.kind = b.kind ∧ a.mode = b.mode ∧ a.to = b.to))) (by rw [sB_beq, sB_beq]; simp)) ?_)
 refine go [0] ?_
 refine G.partP (t := 24) rfl (fun h24 => ?_) (fun h24 => ?_)
 ·refine go [3,3,3,3,4,3,3,3,3,4] ?_
  refine G.want rfl rfl rfl (G.cR rfl rfl rfl rfl Try.func53 rfl rfl (may2 (by first | (apply May.old; first | with_reducible assumption | assumption) | (apply Sel.may; (repeat (first | with_reducible exact Sel.here | exact Sel.here | apply Sel.there)); done) | (apply may_own; (repeat (first | with_reducible exact Sel.here | exact Sel.here | apply Sel.there)); exact rfl; exact (fun _ _ => trivial); done) | (apply may_ownB; (repeat (first | with_reducible exact Sel.here | exact Sel.here | apply Sel.there)); done)) (by first | (apply May.old; first | with_reducible assumption | assumption) | (apply Sel.may; (repeat (first | with_reducible exact Sel.here | exact Sel.here | apply Sel.there)); done) | (apply may_own; (repeat (first | with_reducible exact Sel.here | exact Sel.here | apply Sel.there)); exact rfl; exact (fun _ _ => trivial); done) | (apply may_ownB; (repeat (first | with_reducible exact Sel.here | exact Sel.here | apply Sel.there)); done))) (bequal_tr _ _ _ _) ?_)
  refine go [2,2,1,7,8,11] ?_
  exact G.done0G rfl (Rv.tmp rfl Rv.nil) (by have h := en_eq (a := a) (b := b); simp_all [retV1])
 refine go [4,4,4,4,4,2,2,1,7,8,11] ?_
 exact G.done0G rfl (Rv.tmp rfl Rv.nil) (by have h := en_eq (a := a) (b := b); simp_all [retV1])
theorem Ro.one1 {w0 : World} {S Ps : Nat → Prop} {v : Value} {a : List UInt8} (h : Ro w0 S (slc rByte Ps v a)) : v.oneCell' = true := by
 obtain ⟨ad, cap, rfl⟩ := Ro.slv h
 rfl
def SortT (es : List En) : Prop := es.Pairwise fun a b => compareM a.path b.path = -1
def placeK (es : List En) (s : List UInt8) : Nat := es.findIdx fun e => ! decide (compareM e.path s < 0)
def isAt (es : List En) (s : List UInt8) : Prop := ∃ e ∈ es, e.path = s
instance (es : List En) (s : List UInt8) : Decidable (isAt es s) := inferInstanceAs (Decidable (∃ e ∈ es, e.path = s))
theorem cmp_lt_iff (a b : List UInt8) : compareM a b < 0 ↔ compareM a b = -1 := by
 have := compareM_ord.rng a b
 omega
theorem sort_mono {es : List En} (h : SortT es) {s : List UInt8} {q r : Nat} (hr : r < es.length) (hq : q ≤ r) (hc : compareM es[r].path s < 0) : compareM (es[q]'(by omega)).path s < 0 := by
 rcases Nat.lt_or_ge q r with h1 | h1
 ·have h2 := (List.pairwise_iff_getElem.1 h) q r (by omega) hr h1
  rw [cmp_lt_iff] at hc ⊢
  exact compareM_ord.trans _ _ _ h2 hc
 obtain rfl : q = r := by omega
 exact hc
theorem placeK_at {es : List En} {s : List UInt8} {k : Nat} (hk : k ≤ es.length) (h1 : ∀ q (hq : q < es.length), q < k → compareM es[q].path s < 0) (h2 : ∀ q (hq : q < es.length), k ≤ q → ¬ compareM es[q].path s < 0) : placeK es s = k := by
 unfold placeK
 rcases Nat.lt_or_ge k es.length with h | h
 ·refine (List.findIdx_eq h).2 ⟨by simpa using h2 k h (Nat.le_refl _), fun j hj => ?_⟩
  simpa using h1 j (by omega) hj
 obtain rfl : k = es.length := by omega
 exact List.findIdx_eq_length_of_false fun x hx => by
  obtain ⟨j, hj, rfl⟩ := List.getElem_of_mem hx
  simpa using h1 j hj hj
theorem isAt_iff {es : List En} (hs : SortT es) {s : List UInt8} {k : Nat} (h1 : ∀ q (hq : q < es.length), q < k → compareM es[q].path s < 0) (hk : k < es.length) (h2 : ¬ compareM es[k].path s < 0) : isAt es s ↔ compareM es[k].path s = 0 := by
 constructor
 ·rintro ⟨e, he, rfl⟩
  obtain ⟨j, hj, rfl⟩ := List.getElem_of_mem he
  have hjj : compareM es[j].path es[j].path = 0 := (compareM_ord.zero _ _).2 rfl
  rcases Nat.lt_or_ge j k with h | h
  ·have := h1 j hj h
   omega
  rcases Nat.lt_or_ge k j with h3 | h3
  ·have := (List.pairwise_iff_getElem.1 hs) k j hk hj h3
   omega
  obtain rfl : j = k := by omega
  exact hjj
 intro h
 exact ⟨es[k], List.getElem_mem hk, (compareM_ord.zero _ _).1 h⟩
theorem isAt_none {es : List En} {s : List UInt8} (h1 : ∀ q (hq : q < es.length), compareM es[q].path s < 0) : ¬ isAt es s := by
 rintro ⟨e, he, rfl⟩
 obtain ⟨j, hj, rfl⟩ := List.getElem_of_mem he
 have := h1 j hj
 have : compareM es[j].path es[j].path = 0 := (compareM_ord.zero _ _).2 rfl
 omega
theorem search_end {xs : List ET} {s : List UInt8} {i : Nat} (hso : SortT (ens xs)) (hlt : i < xs.length) (hlo : ∀ q (hq : q < xs.length), q < i → compareM xs[q].1.path s < 0) (hhi : ∀ q (hq : q < xs.length), i ≤ q → ¬ compareM xs[q].1.path s < 0) : placeK (ens xs) s = i ∧ (isAt (ens xs) s ↔ compareM xs[i].1.path s = 0) := by
 have hl := ens_length xs
 have g1 : ∀ q (hq : q < (ens xs).length), q < i → compareM (ens xs)[q].path s < 0 := fun q hq hqi => by
  rw [ens_get (by omega)]
  exact hlo q (by omega) hqi
 have g2 : ∀ q (hq : q < (ens xs).length), i ≤ q → ¬ compareM (ens xs)[q].path s < 0 := fun q hq hqi => by
  rw [ens_get (by omega)]
  exact hhi q (by omega) hqi
 have h := isAt_iff hso g1 (show i < (ens xs).length by omega) (g2 i (by omega) (Nat.le_refl _))
 rw [ens_get hlt] at h
 exact ⟨placeK_at (by omega) g1 g2, h⟩
theorem search_none {xs : List ET} {s : List UInt8} (hlo : ∀ q (hq : q < xs.length), q < xs.length → compareM xs[q].1.path s < 0) : placeK (ens xs) s = xs.length ∧ ¬ isAt (ens xs) s := by
 have hl := ens_length xs
 have g1 : ∀ q (hq : q < (ens xs).length), compareM (ens xs)[q].path s < 0 := fun q hq => by
  rw [ens_get (by omega)]
  exact hlo q (by omega) (by omega)
 exact ⟨placeK_at (by omega) (fun q hq _ => g1 q hq) (fun q hq h => by omega), isAt_none g1⟩
set_option maxRecDepth 20000 in
set_option maxHeartbeats 4000000 in
theorem place1_tr (e : En) (d : Value) (s : List UInt8) (hl : e.path.length ≤ 9223372036854775807) (hs : s.length ≤ 9223372036854775807) : Tr Try.prog 71 #[.agg #[.string (sB e.path), .int .i64 e.kind, .int .i64 e.mode, d, .string (sB e.to)], .string (sB s)] [] [] (T0 (.int .i64 (compareM e.path s))) := by
 refine Tr.of (l := [(0, .agg #[.string (sB e.path), .int .i64 e.kind, .int .i64 e.mode, d, .string (sB e.to)]), (1, .string (sB s))]) Try.func71 rfl (n := 9) rfl (.cons rfl (.cons rfl .nil)) (fun w0 hro => ?_)
 refine go [9,10,60,3] ?_
 intro b2
 refine go [1,7,8,9,10,2,3,0,2,4,0] ?_
 refine G.op rfl (G.cR rfl rfl rfl rfl Try.func55 rfl rfl may0 (compare_tr _ _ (by omega) (by omega)) ?_)
 refine go [1,7,8,11] ?_
 exact G.done0G rfl (Rv.tmp rfl Rv.nil) Y4
set_option maxRecDepth 20000 in
set_option maxHeartbeats 4000000 in
theorem search_tr {Ps : Nat → Prop} (v : Value) (xs : List ET) (s : List UInt8) (hs : s.length ≤ 9223372036854775807) (hn : xs.length ≤ 1000000) (hso : SortT (ens xs)) : Tr Try.prog 70 #[v, .string (sB s), .func (.func 71) #[] #[]] [slc rEV Ps v xs] [] (T0 (.tuple #[.int .i64 (placeK (ens xs) s : Int), .bool (decide (isAt (ens xs) s))])) := by
 refine Tr.of (l := [(0, v), (1, .string (sB s)), (2, .func (.func 71) #[] #[])]) Try.func70 rfl (n := 49) rfl (.cons rfl (.cons rfl (.cons rfl .nil))) (fun w0 hro => ?_)
 have hv := ro1 hro
 have hv' := hv
 obtain ⟨av, cv, bv, fv, rfl, hcapv, hmaxv, hnilv, hadv, helv⟩ := Ro.openT hv
 have hel' := ens_length xs
 refine go [9,10,1,1,7,8,9,10,0,2,5,1,7,8,9,10,0,1,1,7,8,9,15] ?_
 refine G.loopK (X := Nat × Nat) (ts := [0, 1, 2, 6, 7, 8]) (fun st => st.1 ≤ st.2 ∧ st.2 ≤ xs.length ∧ (∀ q (hq : q < xs.length), q < st.1 → compareM xs[q].1.path s < 0) ∧ (∀ q (hq : q < xs.length), st.2 ≤ q → ¬ compareM xs[q].1.path s < 0)) (fun st => [(9, .int .i64 (st.1 : Int)), (10, .int .i64 (st.2 : Int))]) (fun st => []) (fun st => st.2 - st.1) (x0 := (0, xs.length)) (.cons rfl (.cons rfl (.cons rfl (.cons rfl (.cons rfl (.cons rfl .nil)))))) subT (.cons (.cons .nil)) apT (by first | exact trivial | ((try dsimp only) <;> exact ⟨Nat.zero_le _, Nat.le_refl _, fun q _ h => absurd h (by omega), fun q h1 h2 => absurd h1 (by omega)⟩)) (.consE rfl veqT (.consE rfl veqT .nil)) (fun st hJ => ?_)
 obtain ⟨i, j⟩ := st
 try dsimp only at hJ
 try dsimp only
 obtain ⟨hij, hj, hlo, hhi⟩ := hJ
 refine go [9,9,10,0,0,2,9,7,8] ?_
 refine G.condP rfl (fun h17 => ?_) (fun h17 => ?_)
 ·have hlt : (i + j) / 2 < xs.length := by omega
  have hEv := helv ((i + j) / 2) hlt
  have hRv := Ro.evRng hEv
  have hDv := Ro.evDat hEv
  obtain ⟨hk1v, hk2v, hlpv, hldv, hltv⟩ := Ro.evOk hEv
  have hCv := Ro.one1 hDv
  refine go [13,8,15,9,10,0,0,2,6] ?_
  refine G.op rfl (G.val rfl rfl ((pv_conv (by rw [Try.underlying3]; rfl) Try.underlying121 rfl).int (b := ((i + j : Nat) : Int)) (by rw [IntWalk.u64_in _ (by omega)]; omega)) ?_)
  refine G.op rfl (G.val rfl rfl ((pv_shr (s := 1) rfl rfl (by decide)).int (b := (((i + j) / 2 : Nat) : Int)) (by omega)) ?_)
  refine G.op rfl (G.val rfl rfl ((pv_conv (by rw [Try.underlying121]; rfl) Try.underlying3 rfl).int (b := (((i + j) / 2 : Nat) : Int)) (by rw [IntWalk.i64_in _ (by omega)])) ?_)
  refine go [1,7,8,9,10,0,0,0,2,20,5,2,50,0,0] ?_
  refine G.op rfl (G.cRv rfl rfl rfl rfl rfl Try.func71 rfl rfl (by rfl) may0 (place1_tr xs[(i + j) / 2].1 _ s (by omega) hs) ?_)
  refine go [2,9,7,8] ?_
  refine G.condP rfl (fun h31 => ?_) (fun h31 => ?_)
  ·have hneg := h31
   refine go [10,0,2,6,1,7,16] ?_
   exact G.next (((i + j) / 2 + 1, j)) (by first | exact trivial | ((try dsimp only) <;> exact ⟨by omega, hj, fun q hq hqi => by have := sort_mono hso (r := (i + j) / 2) (q := q) (s := s) (by omega) (by omega) (by rw [ens_get hlt]; exact hneg); rwa [ens_get hq] at this, hhi⟩)) (by (try dsimp only); omega) (.consE rfl veqT (.consE rfl veqT (.cons rfl (.cons rfl (.cons rfl (.cons rfl (.cons rfl (.cons rfl .nil)))))))) subT
  have hneg := h31
  refine go [10,0,1,7,16] ?_
  exact G.next ((i, (i + j) / 2)) (by first | exact trivial | ((try dsimp only) <;> exact ⟨by omega, by omega, hlo, fun q hq hqi h => hneg (by have := sort_mono hso (r := q) (q := (i + j) / 2) (s := s) (by omega) hqi (by rw [ens_get hq]; exact h); rwa [ens_get hlt] at this)⟩)) (by (try dsimp only); omega) (.consE rfl veqT (.consE rfl veqT (.cons rfl (.cons rfl (.cons rfl (.cons rfl (.cons rfl (.cons rfl .nil)))))))) subT
 refine go [18,14,14,19,8,9,10,0,0,0,2,9,0] ?_
 refine G.partP (t := 39) rfl (fun h39 => ?_) (fun h39 => ?_)
 ·obtain rfl : i = j := by omega
  have hlt : i < xs.length := by omega
  have hEv := helv i hlt
  have hRv := Ro.evRng hEv
  have hDv := Ro.evDat hEv
  obtain ⟨hk1v, hk2v, hlpv, hldv, hltv⟩ := Ro.evOk hEv
  have hCv := Ro.one1 hDv
  refine go [3,0,3,0,3,0,3,20,5,3,50,0,3,0] ?_
  refine G.want rfl rfl rfl (G.cRv rfl rfl rfl rfl rfl Try.func71 rfl rfl (by rfl) may0 (place1_tr xs[i].1 _ s (by omega) hs) ?_)
  refine go [3,13,2,2,1,1,7,8,11] ?_
  obtain ⟨hp, hi⟩ := search_end hso hlt hlo hhi
  exact G.done0G rfl (Rv.tmp rfl (Rv.tmp rfl Rv.nil)) (by rw [hp]; simp [retV2, hi])
 refine go [4,4,4,4,4,4,4,4,2,2,1,1,7,8,11] ?_
 obtain rfl : i = xs.length := by omega
 obtain ⟨hp, hi⟩ := search_none (s := s) hlo
 exact G.done0G rfl (Rv.tmp rfl (Rv.tmp rfl Rv.nil)) (by rw [hp, decide_eq_false hi]; rfl)
set_option maxRecDepth 20000 in
set_option maxHeartbeats 4000000 in
theorem place_tr {Ps : Nat → Prop} (v : Value) (xs : List ET) (s : List UInt8) (hn : xs.length ≤ 1000000) (hso : SortT (ens xs)) (hs : s.length ≤ 9223372036854775807) : Tr Try.prog 57 #[v, .string (sB s)] [slc rEV Ps v xs] [] (T0 (.tuple #[.int .i64 (placeK (ens xs) s : Int), .bool (decide (isAt (ens xs) s))])) := by
 refine Tr.of (l := [(0, v), (1, .string (sB s))]) Try.func57 rfl (n := 11) rfl (.cons rfl (.cons rfl .nil)) (fun w0 hro => ?_)
 have hv := ro1 hro
 refine go [9,10,1,1,7,8,9,10,0,0] ?_
 refine G.op rfl (G.cR rfl rfl rfl rfl Try.func70 rfl rfl (may1 Y0) (search_tr _ xs s hs hn hso) ?_)
 refine go [2,7,2,7,1,1,7,8,11] ?_
 exact G.done0G rfl (Rv.tmp rfl (Rv.tmp rfl Rv.nil)) Y4
def heldM (l : List En) (e : En) : Prop := (parentM e.path).2 = false ∨ ∃ x ∈ l, x.path = (parentM e.path).1 ∧ x.kind = 1
instance (l : List En) (e : En) : Decidable (heldM l e) := inferInstanceAs (Decidable (_ ∨ _))
def prevBad (es : List En) (i : Nat) : Prop := 0 < i ∧ match es[i - 1]?, es[i]? with
 | some p, some e => 0 ≤ compareM p.path e.path
 | _, _ => False
instance (es : List En) (i : Nat) : Decidable (prevBad es i) := by
 unfold prevBad
 cases es[i - 1]? <;> cases es[i]? <;> exact inferInstance
theorem prev_pos {es : List En} {i : Nat} (h0 : 0 < i) (h : i < es.length) : prevBad es i ↔ 0 ≤ compareM (es[i - 1]'(by omega)).path es[i].path := by
 unfold prevBad
 rw [List.getElem?_eq_getElem h, List.getElem?_eq_getElem (show i - 1 < es.length by omega)]
 simp [h0]
theorem prev_zero {es : List En} {i : Nat} (h0 : ¬ 0 < i) : ¬ prevBad es i := fun h => h0 h.1
def errT (es : List En) (i : Nat) : Int := match es[i]? with
 | none => 0
 | some e => if (if oneM e = 0 ∧ prevBad es i then 7 else oneM e) = 0 ∧ ¬ heldM (es.take i) e then 6 else (if oneM e = 0 ∧ prevBad es i then 7 else oneM e)
theorem errT_get {es : List En} {i : Nat} (h : i < es.length) : errT es i = if (if oneM es[i] = 0 ∧ prevBad es i then 7 else oneM es[i]) = 0 ∧ ¬ heldM (es.take i) es[i] then 6 else (if oneM es[i] = 0 ∧ prevBad es i then 7 else oneM es[i]) := by
 unfold errT
 rw [List.getElem?_eq_getElem h]
theorem err_one {es : List En} {i : Nat} (h : i < es.length) (h1 : ¬ oneM es[i] = 0) : errT es i = oneM es[i] := by
 rw [errT_get h, if_neg (fun k => by rw [if_neg (fun k => h1 k.1)] at k; exact h1 k.1), if_neg (fun k => h1 k.1)]
theorem err_prev {es : List En} {i : Nat} (h : i < es.length) (h1 : oneM es[i] = 0) (h2 : prevBad es i) : errT es i = 7 := by
 rw [errT_get h, if_neg (fun k => by rw [if_pos ⟨h1, h2⟩] at k; cases k.1), if_pos ⟨h1, h2⟩]
theorem err_held {es : List En} {i : Nat} (h : i < es.length) (h1 : oneM es[i] = 0) (h2 : ¬ prevBad es i) (h3 : ¬ heldM (es.take i) es[i]) : errT es i = 6 := by
 rw [errT_get h, if_pos ⟨by rw [if_neg (fun k => h2 k.2), h1], h3⟩]
theorem err_ok {es : List En} {i : Nat} (h : i < es.length) (h1 : oneM es[i] = 0) (h2 : ¬ prevBad es i) (h3 : heldM (es.take i) es[i]) : errT es i = 0 := by
 rw [errT_get h, if_neg (fun k => k.2 h3), if_neg (fun k => h2 k.2), h1]
theorem err_zero {es : List En} {i : Nat} (h : i < es.length) (h0 : errT es i = 0) : oneM es[i] = 0 ∧ ¬ prevBad es i ∧ heldM (es.take i) es[i] := by
 have a : oneM es[i] = 0 := Decidable.byContradiction fun k => by rw [err_one h k] at h0; exact k h0
 have b : ¬ prevBad es i := fun k => by rw [err_prev h a k] at h0; cases h0
 exact ⟨a, b, Decidable.byContradiction fun k => by rw [err_held h a b k] at h0; cases h0⟩
def checkT (es : List En) : Int × Int := if 200 < es.length then (3, 0) else
 let k := (List.range es.length).findIdx fun i => ! decide (errT es i = 0)
 (errT es k, if errT es k = 0 then 0 else (k : Int))
theorem checkT_many {es : List En} (h : 200 < es.length) : checkT es = (3, 0) := if_pos h
theorem range_idx {p : Nat → Bool} {n i : Nat} (hi : i < n) (hp : p i = true) (h : ∀ q, q < i → p q = false) : (List.range n).findIdx p = i := by
 refine (List.findIdx_eq (by simpa using hi)).2 ⟨by simpa using hp, fun j hj => ?_⟩
 simpa using h j hj
theorem checkT_bad {es : List En} {i : Nat} {e : Int} (h200 : ¬ 200 < es.length) (hi : i < es.length) (h : ∀ q, q < i → errT es q = 0) (he : errT es i = e) (h0 : ¬ e = 0) : checkT es = (e, (i : Int)) := by
 unfold checkT
 rw [if_neg h200]
 have e1 : (List.range es.length).findIdx (fun i => ! decide (errT es i = 0)) = i := range_idx hi (by simp [he, h0]) (fun q hq => by simp [h q hq])
 simp only [e1, he, if_neg h0]
theorem checkT_ok {es : List En} (h200 : ¬ 200 < es.length) (h : ∀ q, q < es.length → errT es q = 0) : checkT es = (0, 0) := by
 unfold checkT
 rw [if_neg h200]
 have e1 : (List.range es.length).findIdx (fun i => ! decide (errT es i = 0)) = es.length := by
  have := List.findIdx_eq_length_of_false (p := fun i => ! decide (errT es i = 0)) (xs := List.range es.length) (fun x hx => by
   have := h x (by simpa using hx)
   simp [this])
  simpa using this
 have e2 : errT es es.length = 0 := by
  unfold errT
  rw [List.getElem?_eq_none (Nat.le_refl _)]
 simp only [e1, e2, if_true]
theorem checkT_zero {es : List En} (h : (checkT es).1 = 0) : es.length ≤ 200 ∧ (∀ q, q < es.length → errT es q = 0) ∧ checkT es = (0, 0) := by
 by_cases h200 : 200 < es.length
 ·rw [checkT_many h200] at h
  cases h
 have all : ∀ q, q < es.length → errT es q = 0 := by
  intro q
  induction q using Nat.strongRecOn with
  | _ q ih =>
   intro hq
   exact Decidable.byContradiction fun k => by
    rw [checkT_bad h200 hq (fun r hr => ih r hr (by omega)) rfl k] at h
    exact k h
 exact ⟨by omega, all, checkT_ok h200 all⟩
theorem sort_take {es : List En} {i : Nat} (hi : i ≤ es.length) (h : ∀ q, q < i → errT es q = 0) : SortT (es.take i) := by
 have step : ∀ q (hq : q + 1 < i), compareM (es[q]'(by omega)).path (es[q + 1]'(by omega)).path = -1 := fun q hq => by
  have h1 := (err_zero (show q + 1 < es.length by omega) (h (q + 1) hq)).2.1
  rw [prev_pos (by omega) (by omega)] at h1
  have := compareM_ord.rng (es[q]'(by omega)).path (es[q + 1]'(by omega)).path
  simp only [Nat.add_sub_cancel] at h1
  omega
 have all : ∀ r q (hr : r < i) (hqr : q < r), compareM (es[q]'(by omega)).path (es[r]'(by omega)).path = -1 := by
  intro r
  induction r with
  | zero => intro q hr hq; omega
  | succ r ih =>
   intro q hr hq
   rcases Nat.lt_or_ge q r with h1 | h1
   ·exact compareM_ord.trans _ _ _ (ih q (by omega) h1) (step r hr)
   obtain rfl : q = r := by omega
   exact step q hr
 refine List.pairwise_iff_getElem.2 fun q r hq hr hqr => ?_
 simp only [List.length_take] at hq hr
 rw [List.getElem_take, List.getElem_take]
 exact all r q (by omega) hqr
theorem placeK_spec {es : List En} (hs : SortT es) {s : List UInt8} (h : isAt es s) : ∃ hk : placeK es s < es.length, es[placeK es s].path = s := by
 obtain ⟨e, he, rfl⟩ := h
 obtain ⟨j, hj, rfl⟩ := List.getElem_of_mem he
 have hp : placeK es es[j].path = j := placeK_at (by omega) (fun q hq hqj => by rw [cmp_lt_iff]; exact (List.pairwise_iff_getElem.1 hs) q j hq hj hqj) (fun q hq hjq => by
  rcases Nat.lt_or_ge j q with h1 | h1
  ·have h2 := (List.pairwise_iff_getElem.1 hs) j q hj hq h1
   have := compareM_ord.anti es[j].path es[q].path
   omega
  obtain rfl : j = q := by omega
  rw [(compareM_ord.zero _ _).2 rfl]
  omega)
 refine ⟨by omega, ?_⟩
 simp only [hp]
theorem sort_inj {es : List En} (hs : SortT es) {a b : En} (ha : a ∈ es) (hb : b ∈ es) (h : a.path = b.path) : a = b := by
 obtain ⟨i, hi, rfl⟩ := List.getElem_of_mem ha
 obtain ⟨j, hj, rfl⟩ := List.getElem_of_mem hb
 have hz : compareM es[i].path es[j].path = 0 := (compareM_ord.zero _ _).2 h
 rcases Nat.lt_trichotomy i j with h1 | h1 | h1
 ·have := (List.pairwise_iff_getElem.1 hs) i j hi hj h1
  omega
 ·subst h1
  rfl
 have h2 := (List.pairwise_iff_getElem.1 hs) j i hj hi h1
 have := compareM_ord.anti es[i].path es[j].path
 omega
theorem held_none {l : List En} {e : En} (h : (parentM e.path).2 = true) (h2 : ¬ isAt l (parentM e.path).1) : ¬ heldM l e := fun k => by
 rcases k with k | ⟨x, hx, k1, k2⟩
 ·rw [h] at k
  cases k
 exact h2 ⟨x, hx, k1⟩
theorem held_kind {l : List En} {e : En} (hs : SortT l) (h : (parentM e.path).2 = true) (h2 : isAt l (parentM e.path).1) {x : En} (hx : l[placeK l (parentM e.path).1]? = some x) : heldM l e ↔ x.kind = 1 := by
 obtain ⟨hk, hp⟩ := placeK_spec hs h2
 rw [List.getElem?_eq_getElem hk] at hx
 injection hx with hx
 constructor
 ·rintro (k | ⟨y, hy, k1, k2⟩)
  ·rw [h] at k
   cases k
  have : x = y := sort_inj hs (hx ▸ List.getElem_mem hk) hy (by rw [← hx, hp, k1])
  rw [this]
  exact k2
 intro k
 exact .inr ⟨x, hx ▸ List.getElem_mem hk, by rw [← hx, hp], k⟩
theorem Ro.takeT {α : Type} {E : Rdr α} {w0 : World} {S Ps : Nat → Prop} {ad : Option Addr} {len cap i : Nat} {xs : List α} (h : Ro w0 S (slc E Ps (.slice ad len cap) xs)) (hi : i ≤ xs.length) : Ro w0 S (slc E Ps (.slice ad i cap) (xs.take i)) := by
 have := Ro.sub h (Nat.zero_le i) hi
 rwa [subV_zero, List.drop_zero] at this
theorem ens_take (xs : List ET) (i : Nat) : ens (xs.take i) = (ens xs).take i := by simp [ens, List.map_take]
theorem ens_at {xs : List ET} {i : Nat} (h : i < xs.length) : (ens xs)[i]? = some xs[i].1 := by simp [ens, h]
set_option maxRecDepth 20000 in
set_option maxHeartbeats 4000000 in
theorem tcheck_tr {Ps : Nat → Prop} (v : Value) (xs : List ET) : Tr Try.prog 41 #[v] [slc rEV Ps v xs] [] (T0 (.tuple #[.int .i64 (checkT (ens xs)).1, .int .i64 (checkT (ens xs)).2])) := by
 refine Tr.of (l := [(0, v)]) Try.func41 rfl (n := 69) rfl (.cons rfl .nil) (fun w0 hro => ?_)
 have hv := ro1 hro
 have hv' := hv
 obtain ⟨av, cv, bv, fv, rfl, hcapv, hmaxv, hnilv, hadv, helv⟩ := Ro.openT hv
 have hel' := ens_length xs
 refine go [9,10,1,1,7,8,9,9,10,0,2,5,2,10,7,8] ?_
 refine G.condP rfl (fun h13 => ?_) (fun h13 => ?_)
 ·refine go [9,10,1,1,7,8,11,12] ?_
  exact G.done0G rfl (Rv.tmp rfl (Rv.tmp rfl Rv.nil)) (by rw [checkT_many (by omega)]; rfl)
 refine go [13,8,9,9,10,0,2,5,0,7,8,15] ?_
 refine G.loopK (X := Nat) (ts := [0, 14, 15]) (fun i => i ≤ xs.length ∧ (∀ q, q < i → errT (ens xs) q = 0)) (fun i => [(16, .int .i64 (i : Int))]) (fun i => []) (fun i => xs.length - i) (x0 := 0) (.cons rfl (.cons rfl (.cons rfl .nil))) subT (.cons .nil) apT (by first | exact trivial | ((try dsimp only) <;> exact ⟨Nat.zero_le _, fun q h => absurd h (by omega)⟩)) (.consE rfl veqT .nil) (fun i hJ => ?_)
 try dsimp only at hJ
 try dsimp only
 obtain ⟨hki, hJ⟩ := hJ
 refine go [9,10,2,9,7,8,9] ?_
 refine G.condP rfl (fun h17 => ?_) (fun h17 => ?_)
 ·have hJ0 := hJ
  have hlt : i < xs.length := by omega
  have hlt' : i < (ens xs).length := by omega
  have hg := ens_get hlt
  have hso := sort_take (es := ens xs) (i := i) (by omega) hJ
  have hTk := Ro.takeT hv' (i := i) (by omega)
  have hEv := helv i hlt
  have hRv := Ro.evRng hEv
  have hDv := Ro.evDat hEv
  obtain ⟨hk1v, hk2v, hlpv, hldv, hltv⟩ := Ro.evOk hEv
  have hCv := Ro.one1 hDv
  refine go [13,8,9,15,9,10,0,2,20,5,2,50,0,60,6] ?_
  intro b5
  refine go [1,20,7,8,9,9,10,2,50,0] ?_
  refine G.op rfl (G.cR rfl rfl rfl rfl Try.func54 rfl rfl (may1 Y0) (one_tr _ _ (by omega)) ?_)
  refine go [1,7,8,9,10,0,2,14,7,8] ?_
  refine G.condP rfl (fun h24 => ?_) (fun h24 => ?_)
  ·refine go [9,10,0,0,1,1,7,8,11,12,17,12,12,17,12] ?_
   exact G.done0G rfl (Rv.tmp rfl (Rv.tmp rfl Rv.nil)) (by rw [checkT_bad (by omega) hlt' hJ0 (err_one hlt' (by rw [hg]; assumption)) (by rw [hg]; assumption), hg]; rfl)
  have h1 : oneM (ens xs)[i] = 0 := by rw [hg]; omega
  refine go [13,8,9,9] ?_
  refine G.cutK (X := Unit) (ts := [0, 4, 5, 14, 15, 16]) (p := []) (fun _ => True) (fun _ => [(40, .bool (decide (prevBad (ens xs) i)))]) (fun _ => []) (.cons rfl (.cons rfl (.cons rfl (.cons rfl (.cons rfl (.cons rfl .nil)))))) subT (.cons .nil) apT ?_ ?_
  ·refine G.drawT (nn := 14) (p := []) (rem := 16383) [0, 1, 2, 4, 4, 20, 44, 68, 132, 4, 516, 1284, 2052, 4100] [0, 1, 2, 4, 4, 20, 44, 68, 132, 4, 516, 1284, 2052, 4100] kr ⟨rfl, by kernel_rfl, by kernel_rfl⟩ subT kr (fun hT9 => ?_)
   refine go [22,0,16382,0,22,1,16380,10,22,2,16376,0] ?_
   refine G.partP (t := 29) rfl (fun h29 => ?_) (fun h29 => ?_)
   ·have hi0 : 0 < i := by omega
    have hEp := helv (i - 1) (by omega)
    have hRp := Ro.evRng hEp
    have hDp := Ro.evDat hEp
    obtain ⟨hk1p, hk2p, hlpp, hldp, hltp⟩ := Ro.evOk hEp
    have hCp := Ro.one1 hDp
    have hpv := prev_pos hi0 hlt'
    rw [hg, ens_get (show i - 1 < xs.length by omega)] at hpv
    refine go [22,3,16368,0,22,4,16352,0,22,5,16320,19] ?_
    refine G.takeT hT9 (i := 6) (rem' := 16256) rfl rfl rfl kr (fun _ _ _ h => h) rfl (pv_ixSl (sz := 5) (k := i - 1) Try.underlying27 kr rfl rfl Y20 (by omega) (by omega)) subT ?_
    refine go [22,7,16128,3,0,22,8,15872,4,22,9,15360,3,0,24,10,14336,25,4,26,24,11,12288] ?_
    refine G.turnOp rfl rfl (G.cR rfl rfl rfl rfl Try.func55 rfl rfl may0 (compare_tr _ _ (by omega) (by omega)) ?_)
    refine go [26,22,12,8192,12,22,13,0,2,27] ?_
    exact G.meet (()) trT (.consE rfl (dec_e hpv.symm) (.cons rfl (.cons rfl (.cons rfl (.cons rfl (.cons rfl (.cons rfl .nil))))))) subT
   refine go [23,3,16368,23,4,16352,23,5,16320,23,6,16256,23,7,16128,23,8,15872,23,9,15360,23,10,14336,23,11,12288,23,12,8192,22,13,0,2,27] ?_
   exact G.meet (()) trT (.consE rfl (dec_f (prev_zero (by omega))) (.cons rfl (.cons rfl (.cons rfl (.cons rfl (.cons rfl (.cons rfl .nil))))))) subT
  intro _ hJ
  try dsimp only at hJ
  try dsimp only
  refine G.condP rfl (fun h40 => ?_) (fun h40 => ?_)
  ·refine go [9,10,0,1,1,7,8,11,12,17,12,12,17,12] ?_
   exact G.done0G rfl (Rv.tmp rfl (Rv.tmp rfl Rv.nil)) (by rw [checkT_bad (by omega) hlt' hJ0 (err_prev hlt' h1 (by assumption)) (by omega)]; rfl)
  refine go [13,8,9,10,2,3,0,2,4] ?_
  refine G.op rfl (G.cR rfl rfl rfl rfl Try.func56 rfl rfl may0 (parent_tr _ (by omega)) ?_)
  have hpl := parentM_len xs[i].1.path
  refine go [0,2,7,2,7,1,1,7,8,9,10,0,7,8] ?_
  refine G.cond rfl (fun h48 => ?_) (fun h48 => ?_)
  ·have hpt : (parentM (ens xs)[i].path).2 = true := by rw [hg]; exact h48
   refine go [9,10,0,0] ?_
   refine G.op rfl (G.val rfl rfl (pv_subH (sz := 5) (k := i) Try.underlying27 kr rfl rfl rfl (by omega)) ?_)
   refine go [0] ?_
   refine G.op rfl (G.cR rfl rfl rfl rfl Try.func57 rfl rfl (may1 Y0) (place_tr _ (xs.take i) _ (by rw [List.length_take]; omega) (by rw [ens_take]; exact hso) (by omega)) ?_)
   rw [ens_take]
   refine go [0,2,7,2,7,1,1,7,8,9] ?_
   refine G.cutK (X := Unit) (ts := [0, 4, 14, 15, 16]) (p := []) (fun _ => True) (fun _ => [(66, .bool (decide (¬ heldM ((ens xs).take i) (ens xs)[i])))]) (fun _ => []) (.cons rfl (.cons rfl (.cons rfl (.cons rfl (.cons rfl .nil))))) subT (.cons .nil) apT ?_ ?_
   ·refine go [10,0,2,15,0] ?_
    refine G.partP (t := 59) rfl (fun h59 => ?_) (fun h59 => ?_)
    ·have hnh : ¬ heldM ((ens xs).take i) (ens xs)[i] := held_none hpt (by rw [hg]; assumption)
     refine go [4,4,4,4,4,4,2,2,7] ?_
     exact G.meet (()) trT (.consE rfl (dec_t hnh) (.cons rfl (.cons rfl (.cons rfl (.cons rfl (.cons rfl .nil)))))) subT
    have hat : isAt ((ens xs).take i) (parentM xs[i].1.path).1 := Decidable.of_not_not (by assumption)
    obtain ⟨hkl, -⟩ := placeK_spec hso hat
    rw [List.length_take] at hkl
    obtain ⟨k, hk⟩ : ∃ k, placeK ((ens xs).take i) (parentM xs[i].1.path).1 = k := ⟨_, rfl⟩
    have hkk := held_kind hso hpt (x := (xs[k]'(by omega)).1) (by rw [hg]; exact hat) (by rw [hg, hk, List.getElem?_take_of_lt (by omega)]; exact ens_at (by omega))
    rw [hk] at hkl ⊢
    have hEk := helv k (by omega)
    have hRk := Ro.evRng hEk
    have hDk := Ro.evDat hEk
    obtain ⟨hk1k, hk2k, hlpk, hldk, hltk⟩ := Ro.evOk hEk
    have hCk := Ro.one1 hDk
    refine go [3,0,3,0] ?_
    refine G.want rfl rfl rfl (G.val rfl rfl (pv_ixSl (sz := 5) (k := k) Try.underlying27 kr rfl rfl Y20 (by omega) (by omega)) ?_)
    refine go [3,3,1,3,4,3,14,2,2,7] ?_
    exact G.meet (()) trT (.consE rfl (dec_e (not_congr hkk.symm)) (.cons rfl (.cons rfl (.cons rfl (.cons rfl (.cons rfl .nil)))))) subT
   intro _ hJ
   try dsimp only at hJ
   try dsimp only
   refine G.condP rfl (fun h66 => ?_) (fun h66 => ?_)
   ·refine go [9,10,0,1,1,7,8,11,17,12,12,17,12] ?_
    exact G.done0G rfl (Rv.tmp rfl (Rv.tmp rfl Rv.nil)) (by rw [checkT_bad (by omega) hlt' hJ0 (err_held hlt' h1 (by assumption) (by assumption)) (by omega)]; rfl)
   have hok0 : errT (ens xs) i = 0 := err_ok hlt' h1 (by assumption) (Decidable.of_not_not (by assumption))
   refine go [13,16,8,10,2,6,0,7] ?_
   exact G.next (i + 1) (by first | exact trivial | ((try dsimp only) <;> exact ⟨by omega, fun q hq => by rcases Nat.lt_or_ge q i with h1 | h1; exact hJ0 q h1; obtain rfl : q = i := (by omega); exact hok0⟩)) (by (try dsimp only); omega) (.consE rfl veqT (.cons rfl (.cons rfl (.cons rfl .nil)))) subT
  have hok0 : errT (ens xs) i = 0 := err_ok hlt' h1 (by assumption) (.inl (by rw [hg]; exact h48))
  refine go [13,16,8,10,2,6,0,7] ?_
  exact G.next (i + 1) (by first | exact trivial | ((try dsimp only) <;> exact ⟨by omega, fun q hq => by rcases Nat.lt_or_ge q i with h1 | h1; exact hJ0 q h1; obtain rfl : q = i := (by omega); exact hok0⟩)) (by (try dsimp only); omega) (.consE rfl veqT (.cons rfl (.cons rfl (.cons rfl .nil)))) subT
 refine go [18,14,14,19,8,9,10,1,1,7,8,11] ?_
 exact G.done0G rfl (Rv.tmp rfl (Rv.tmp rfl Rv.nil)) (by rw [checkT_ok (by omega) (fun q hq => hJ q (by omega))]; rfl)
def totM (es : List En) : Nat := (es.map fun e => e.path.length + e.data.length + e.to.length).sum
theorem sum_take_succ (f : En → Nat) {es : List En} {i : Nat} (h : i < es.length) : ((es.take (i + 1)).map f).sum = ((es.take i).map f).sum + f es[i] := by
 rw [List.take_succ_eq_append_getElem h, List.map_append, List.sum_append]
 simp
theorem totM_succ {xs : List ET} {i : Nat} (h : i < xs.length) : totM ((ens xs).take (i + 1)) = totM ((ens xs).take i) + (xs[i].1.path.length + xs[i].1.data.length + xs[i].1.to.length) := by
 unfold totM
 rw [sum_take_succ _ (by rw [ens_length]; exact h), ens_get h]
theorem ens_eq {xs ys : List ET} (hl : xs.length = ys.length) (h : ∀ q (hq : q < xs.length), xs[q].1 = (ys[q]'(by omega)).1) : ens xs = ens ys := by
 apply List.ext_getElem
 ·rw [ens_length, ens_length, hl]
 intro i h1 h2
 rw [ens_length] at h1
 rw [ens_get h1, ens_get (by omega)]
 exact h i h1
theorem ens_ne {xs ys : List ET} {i : Nat} (hx : i < xs.length) (hy : i < ys.length) (h : xs[i].1 ≠ ys[i].1) : ¬ ens xs = ens ys := fun e => by
 have h1 := ens_get hx
 have h2 := ens_get hy
 simp only [e] at h1
 exact h (h1.symm.trans h2)
theorem ens_len_ne {xs ys : List ET} (h : ¬ (xs.length : Int) = ys.length) : ¬ ens xs = ens ys := fun e => h (by
 have := congrArg List.length e
 rw [ens_length, ens_length] at this
 omega)
def bigM (es : List En) (k r : Int) : Prop := k < es.length ∨ r < totM es
instance (es : List En) (k r : Int) : Decidable (bigM es k r) := inferInstanceAs (Decidable (_ ∨ _))
set_option maxRecDepth 20000 in
set_option maxHeartbeats 4000000 in
theorem big_tr {Ps : Nat → Prop} (v : Value) (xs : List ET) (k r : Int) (hk : 0 ≤ k ∧ k ≤ 1000) : Tr Try.prog 25 #[v, .int .i64 k, .int .i64 r] [slc rEV Ps v xs] [] (T0 (.bool (decide (bigM (ens xs) k r)))) := by
 refine Tr.of (l := [(0, v), (1, .int .i64 k), (2, .int .i64 r)]) Try.func25 rfl (n := 51) rfl (.cons rfl (.cons rfl (.cons rfl .nil))) (fun w0 hro => ?_)
 have hv := ro1 hro
 have hv' := hv
 obtain ⟨av, cv, bv, fv, rfl, hcapv, hmaxv, hnilv, hadv, helv⟩ := Ro.openT hv
 have hel' := ens_length xs
 refine go [9,10,1,7,8,9,10,1,7,8,9,9,10,1,7,8,15] ?_
 refine G.loopK (X := Nat) (ts := [0, 1, 2, 6]) (fun i => i ≤ xs.length ∧ (i : Int) ≤ k + 1 ∧ totM ((ens xs).take i) ≤ i * (3 * 140737488355328)) (fun i => [(7, .int .i64 (totM ((ens xs).take i) : Int)), (8, .int .i64 (i : Int))]) (fun i => []) (fun i => xs.length - i) (x0 := 0) (.cons rfl (.cons rfl (.cons rfl (.cons rfl .nil)))) subT (.cons (.cons .nil)) apT (by first | exact trivial | ((try dsimp only) <;> exact ⟨Nat.zero_le _, by omega, by simp [totM]⟩)) (.consE rfl veqT (.consE rfl veqT .nil)) (fun i hJ => ?_)
 try dsimp only at hJ
 try dsimp only
 obtain ⟨hi1, hi2, hsum⟩ := hJ
 refine go [9,9] ?_
 refine G.cutK (X := Unit) (ts := [0, 1, 2, 6, 7, 8]) (p := []) (fun _ => True) (fun _ => [(17, .bool (decide (i < xs.length ∧ (i : Int) ≤ k)))]) (fun _ => []) (.cons rfl (.cons rfl (.cons rfl (.cons rfl (.cons rfl (.cons rfl .nil)))))) subT (.cons .nil) apT ?_ ?_
 ·refine go [10,0,0,2,5,2,9,0] ?_
  refine G.partP (t := 13) rfl (fun h13 => ?_) (fun h13 => ?_)
  ·refine go [3,0,3,0,3,11,2,2,7] ?_
   exact G.meet (()) trT (.consE rfl Y15 (.cons rfl (.cons rfl (.cons rfl (.cons rfl (.cons rfl (.cons rfl .nil))))))) subT
  refine go [4,4,4,2,2,7] ?_
  exact G.meet (()) trT (.consE rfl Y15 (.cons rfl (.cons rfl (.cons rfl (.cons rfl (.cons rfl (.cons rfl .nil))))))) subT
 intro _ hJ
 try dsimp only at hJ
 try dsimp only
 refine G.condP rfl (fun h17 => ?_) (fun h17 => ?_)
 ·have hlt : i < xs.length := h17.1
  have hik := h17.2
  have hsz := totM_succ hlt
  have hEv := helv i hlt
  have hRv := Ro.evRng hEv
  have hDv := Ro.evDat hEv
  obtain ⟨hk1v, hk2v, hlpv, hldv, hltv⟩ := Ro.evOk hEv
  have hCv := Ro.one1 hDv
  obtain ⟨aD, cD, hx2⟩ := Ro.slv hDv
  rw [hx2] at hRv hCv
  refine go [13,8,9,15] ?_
  refine G.drawT (nn := 23) (p := []) (rem := 8388607) [0, 0, 0, 6, 8, 16, 32, 65, 0, 0, 768, 1024, 2048, 4096, 8320, 0, 0, 98304, 131072, 262144, 524288, 1064960, 4194303] [0, 0, 0, 6, 8, 16, 32, 65, 0, 0, 768, 1024, 2048, 4096, 8320, 0, 0, 98304, 131072, 262144, 524288, 1064960, 2097153] kr ⟨rfl, by kernel_rfl, by kernel_rfl⟩ subT kr (fun hT5 => ?_)
  refine go [22,0,8388606,0,22,1,8388604,0,22,2,8388600,0,22,3,8388592,20,5,22,4,8388576,3,0,22,8,8388320,0,22,9,8387808,0,22,10,8386784,20,5,22,11,8384736,3,3,22,15,8351968,0,22,16,8286432,0,22,17,8155360,20,5,22,18,7893216,3,4,22,5,7893184,4,22,6,7893120,21,22,7,7892992,6,22,12,7888896,4,22,13,7880704,5,22,14,7864320,6,24,19,7340032,25,4,26,22,20,6291456,21,22,21,4194304,6,22,22,0,1,27,16,8,10,0,2,6,1,7] ?_
  exact G.next (i + 1) (by first | exact trivial | ((try dsimp only) <;> exact ⟨by omega, by omega, by rw [hsz]; omega⟩)) (by (try dsimp only); omega) (.consE rfl veqT (.consE rfl veqT (.cons rfl (.cons rfl (.cons rfl (.cons rfl .nil)))))) subT
 have hmost : ¬ k < xs.length → (ens xs).take i = ens xs := fun h => List.take_of_length_le (by omega)
 refine go [18,14,14,19,8,9,10,0,2,5,0,2,10,0] ?_
 refine G.partP (t := 46) rfl (fun h46 => ?_) (fun h46 => ?_)
 ·refine go [4,4,4,2,2,1,7,8,11] ?_
  exact G.done0G rfl (Rv.tmp rfl Rv.nil) (by rw [decide_eq_true (show bigM (ens xs) k r from .inl (by omega))]; rfl)
 refine go [3,0,3,0,3,10,2,2,1,7,8,11] ?_
 exact G.done0G rfl (Rv.tmp rfl Rv.nil) (by rw [hmost (by omega)]; exact dec_e (by unfold bigM; omega))
set_option maxRecDepth 20000 in
set_option maxHeartbeats 4000000 in
theorem eqf_tr {Ps Pu : Nat → Prop} (v u : Value) (xs ys : List ET) : Tr Try.prog 37 #[v, u, .func (.func 38) #[] #[]] [slc rEV Ps v xs, slc rEV Pu u ys] [] (T0 (.bool (decide (ens xs = ens ys)))) := by
 refine Tr.of (l := [(0, v), (1, u), (2, .func (.func 38) #[] #[])]) Try.func37 rfl (n := 32) rfl (.cons rfl (.cons rfl (.cons rfl .nil))) (fun w0 hro => ?_)
 obtain ⟨hv0, hu0⟩ := ro2 hro
 have hv := hv0
 have hv' := hv
 obtain ⟨av, cv, bv, fv, rfl, hcapv, hmaxv, hnilv, hadv, helv⟩ := Ro.openT hv
 have hu := hu0
 have hu' := hu
 obtain ⟨au, cu, bu, fu, rfl, hcapu, hmaxu, hnilu, hadu, helu⟩ := Ro.openT hu
 refine go [9,10,1,7,8,9,9,10,0,2,5,0,2,5,2,14,7,8] ?_
 refine G.condP rfl (fun h14 => ?_) (fun h14 => ?_)
 ·refine go [9,10,1,7,8,11,12] ?_
  exact G.done0G rfl (Rv.tmp rfl Rv.nil) (by rw [decide_eq_false (ens_len_ne (by omega))]; rfl)
 have hxy : xs.length = ys.length := by omega
 refine go [13,8,9,9,10,0,2,5,0,7,8,15] ?_
 refine G.loopK (X := Nat) (ts := [1, 2, 15, 16]) (fun i => i ≤ xs.length ∧ (∀ q (hq : q < xs.length), q < i → xs[q].1 = (ys[q]'(by omega)).1)) (fun i => [(17, .int .i64 (i : Int))]) (fun i => []) (fun i => xs.length - i) (x0 := 0) (.cons rfl (.cons rfl (.cons rfl (.cons rfl .nil)))) subT (.cons .nil) apT Y11 (.consE rfl veqT .nil) (fun i hJ => ?_)
 try dsimp only at hJ
 try dsimp only
 obtain ⟨hki, hJ⟩ := hJ
 refine go [9,10,2,9,7,8,9] ?_
 refine G.condP rfl (fun h18 => ?_) (fun h18 => ?_)
 ·have hJ0 := hJ
  have hlt : i < xs.length := by omega
  have hlu : i < ys.length := by omega
  have hEv := helv i hlt
  have hRv := Ro.evRng hEv
  have hDv := Ro.evDat hEv
  obtain ⟨hk1v, hk2v, hlpv, hldv, hltv⟩ := Ro.evOk hEv
  have hCv := Ro.one1 hDv
  have hEu := helu i hlu
  have hRu := Ro.evRng hEu
  have hDu := Ro.evDat hEu
  obtain ⟨hk1u, hk2u, hlpu, hldu, hltu⟩ := Ro.evOk hEu
  have hCu := Ro.one1 hDu
  refine go [13,8,9,15,9,10,0,2,20,5,2,50,0,60,6] ?_
  intro b8
  refine go [1,20,7,8,9,10,0,0,2,20,5,2,50,0,60,6] ?_
  intro b9
  refine go [20,7,8,9,10,0,2,50,0,2,50,0] ?_
  refine G.op rfl (G.cRv rfl rfl rfl rfl rfl Try.func38 rfl rfl (by rfl) (may2 Y0 Y0) (alike_tr _ _ _ _) ?_)
  refine go [2,15,7,8] ?_
  refine G.condP rfl (fun h30 => ?_) (fun h30 => ?_)
  ·have hne : xs[i].1 ≠ ys[i].1 := by assumption
   refine go [9,10,1,7,8,11,17,12,12,17,12] ?_
   exact G.done0G rfl (Rv.tmp rfl Rv.nil) (by rw [decide_eq_false (ens_ne hlt hlu hne)]; rfl)
  have heq : xs[i].1 = ys[i].1 := Decidable.of_not_not (by assumption)
  refine go [13,16,8,10,2,6,0,7] ?_
  exact G.next (i + 1) Y16 (by (try dsimp only); omega) (.consE rfl veqT (.cons rfl (.cons rfl (.cons rfl (.cons rfl .nil))))) subT
 refine go [18,14,14,19,8,9,10,1,7,8,11] ?_
 exact G.done0G rfl (Rv.tmp rfl Rv.nil) (by rw [decide_eq_true (ens_eq (by omega) (fun q hq => hJ q hq (by omega)))]; rfl)
set_option maxRecDepth 20000 in
set_option maxHeartbeats 4000000 in
theorem tsame_tr {Ps Pu : Nat → Prop} (v u : Value) (xs ys : List ET) : Tr Try.prog 22 #[v, u] [slc rEV Ps v xs, slc rEV Pu u ys] [] (T0 (.bool (decide (ens xs = ens ys)))) := by
 refine Tr.of (l := [(0, v), (1, u)]) Try.func22 rfl (n := 8) rfl (.cons rfl (.cons rfl .nil)) (fun w0 hro => ?_)
 obtain ⟨hv0, hu0⟩ := ro2 hro
 refine go [9,10,1,7,8,9,10,0,0] ?_
 refine G.op rfl (G.cR rfl rfl rfl rfl Try.func37 rfl rfl (may2 Y0 Y0) (eqf_tr _ _ _ _) ?_)
 refine go [1,7,8,11] ?_
 exact G.done0G rfl (Rv.tmp rfl Rv.nil) Y4
set_option maxRecDepth 20000 in
set_option maxHeartbeats 4000000 in
theorem sameTree_tr {Ps Pu : Nat → Prop} (v u : Value) (xs ys : List ET) : Tr Try.prog 23 #[v, u] [slc rEV Ps v xs, slc rEV Pu u ys] [] (T0 (.bool (decide (ens xs = ens ys)))) := by
 refine Tr.of (l := [(0, v), (1, u)]) Try.func23 rfl (n := 81) rfl (.cons rfl (.cons rfl .nil)) (fun w0 hro => ?_)
 obtain ⟨hv0, hu0⟩ := ro2 hro
 have hv := hv0
 have hv' := hv
 obtain ⟨av, cv, bv, fv, rfl, hcapv, hmaxv, hnilv, hadv, helv⟩ := Ro.openT hv
 have hu := hu0
 have hu' := hu
 obtain ⟨au, cu, bu, fu, rfl, hcapu, hmaxu, hnilu, hadu, helu⟩ := Ro.openT hu
 refine go [9,10,1,7,8,9,9,10,0,2,5,0,2,5,2,14,7,8] ?_
 refine G.condP rfl (fun h10 => ?_) (fun h10 => ?_)
 ·refine go [9,10,1,7,8,11,12] ?_
  exact G.done0G rfl (Rv.tmp rfl Rv.nil) (by rw [decide_eq_false (ens_len_ne (by omega))]; rfl)
 have hxy : xs.length = ys.length := by omega
 refine go [13,8,9,9,10,1,7,8,15] ?_
 refine G.loopK (X := Nat) (ts := [0, 1]) (fun i => i ≤ xs.length ∧ (∀ q (hq : q < xs.length), q < i → xs[q].1 = (ys[q]'(by omega)).1)) (fun i => [(5, .int .i64 (i : Int))]) (fun i => []) (fun i => xs.length - i) (x0 := 0) (.cons rfl (.cons rfl .nil)) subT (.cons .nil) apT Y11 (.consE rfl veqT .nil) (fun i hJ => ?_)
 try dsimp only at hJ
 try dsimp only
 obtain ⟨hki, hJ⟩ := hJ
 refine go [9,9,10,0,0,2,5,2,9,7,8] ?_
 refine G.condP rfl (fun h14 => ?_) (fun h14 => ?_)
 ·have hJ0 := hJ
  have hlt : i < xs.length := by omega
  have hlu : i < ys.length := by omega
  have hEv := helv i hlt
  have hRv := Ro.evRng hEv
  have hDv := Ro.evDat hEv
  obtain ⟨hk1v, hk2v, hlpv, hldv, hltv⟩ := Ro.evOk hEv
  have hCv := Ro.one1 hDv
  have hEu := helu i hlu
  have hRu := Ro.evRng hEu
  have hDu := Ro.evDat hEu
  obtain ⟨hk1u, hk2u, hlpu, hldu, hltu⟩ := Ro.evOk hEu
  have hCu := Ro.one1 hDu
  have he := en_eq (a := xs[i].1) (b := ys[i].1)
  refine go [13,8,9,15,9] ?_
  refine G.cutK (X := Unit) (ts := [0, 1, 5]) (p := []) (fun _ => True) (fun _ => [(80, .bool (decide (xs[i].1 ≠ ys[i].1)))]) (fun _ => []) (.cons rfl (.cons rfl (.cons rfl .nil))) subT (.cons .nil) apT ?_ ?_
  ·refine G.drawT (nn := 64) (p := []) (rem := 18446744073709551615) [0, 0, 3, 4, 8, 0, 0, 96, 128, 256, 528, 1024, 2048, 2048, 14336, 18432, 34816, 2048, 2048, 395264, 526336, 1050624, 2164736, 4196352, 8390656, 16777216, 16777216, 117440512, 150994944, 285212672, 16777216, 16777216, 3238002688, 4311744512, 8606711808, 17733517312, 34376515584, 68736253952, 137438953472, 137438953472, 962072674304, 1236950581248, 2336462209024, 137438953472, 137438953472, 26525718020096, 35321811042304, 70506183131136, 145272973819904, 281612415664128, 563087392374784, 1407374883553280, 2251799813685248, 2251799813685248, 15762598695796736, 20266198323167232, 38280596832649216, 2251799813685248, 2251799813685248, 434597364041252864, 578712552117108736, 1155173304420532224, 2380152403065307136, 4613937818241073152] [0, 0, 3, 4, 8, 0, 0, 96, 128, 256, 528, 1024, 2048, 2048, 14336, 18432, 34816, 2048, 2048, 395264, 526336, 1050624, 2164736, 4196352, 8388608, 16777216, 16777216, 117440512, 150994944, 285212672, 16777216, 16777216, 3238002688, 4311744512, 8606711808, 17733517312, 34376515584, 68719476736, 137438953472, 137438953472, 962072674304, 1236950581248, 2336462209024, 137438953472, 137438953472, 26525718020096, 35321811042304, 70506183131136, 145272973819904, 281612415664128, 563087392374784, 1125899906842624, 2251799813685248, 2251799813685248, 15762598695796736, 20266198323167232, 38280596832649216, 2251799813685248, 2251799813685248, 434597364041252864, 578712552117108736, 1155173304420532224, 2380152403065307136, 4613937818241073152] kr ⟨rfl, by kernel_rfl, by kernel_rfl⟩ subT kr (fun hT6 => ?_)
   refine go [22,0,18446744073709551614,0,22,1,18446744073709551612,0,22,2,18446744073709551608,20,5,22,3,18446744073709551600,3,0,22,5,18446744073709551568,0,22,6,18446744073709551504,0,22,7,18446744073709551376,20,5,22,8,18446744073709551120,3,0,22,4,18446744073709551104,4,24,9,18446744073709550592,25,4,26,22,10,18446744073709549568,23,22,11,18446744073709547520,0] ?_
   refine G.partP (t := 28) rfl (fun h28 => ?_) (fun h28 => ?_)
   ·refine go [23,12,18446744073709543424,23,13,18446744073709535232,23,14,18446744073709518848,23,15,18446744073709486080,23,16,18446744073709420544,23,17,18446744073709289472,23,18,18446744073709027328,23,19,18446744073708503040,23,20,18446744073707454464,23,21,18446744073705357312,23,22,18446744073701163008,22,23,18446744073692774400,2,22,24,18446744073675997184,0,23,25,18446744073642442752,23,26,18446744073575333888,23,27,18446744073441116160,23,28,18446744073172680704,23,29,18446744072635809792,23,30,18446744071562067968,23,31,18446744069414584320,23,32,18446744065119617024,23,33,18446744056529682432,23,34,18446744039349813248,23,35,18446744004990074880,22,36,18446743936270598144,2,22,37,18446743798831644672,0,23,38,18446743523953737728,23,39,18446742974197923840,23,40,18446741874686296064,23,41,18446739675663040512,23,42,18446735277616529408,23,43,18446726481523507200,23,44,18446708889337462784,23,45,18446673704965373952,23,46,18446603336221196288,23,47,18446462598732840960,23,48,18446181123756130304,23,49,18445618173802708992,22,50,18444492273895866368,2,22,51,18442240474082181120,0,23,52,18437736874454810624,23,53,18428729675200069632,23,54,18410715276690587648,23,55,18374686479671623680,23,56,18302628885633695744,23,57,18158513697557839872,23,58,17870283321406128128,23,59,17293822569102704640,23,60,16140901064495857664,23,61,13835058055282163712,23,62,9223372036854775808,22,63,0,2,27] ?_
    exact G.meet (()) trT (.consE rfl Y5 (.cons rfl (.cons rfl (.cons rfl .nil)))) subT
   refine go [22,12,18446744073709543424,0,22,13,18446744073709535232,0,22,14,18446744073709518848,20,5,22,15,18446744073709486080,3,1,22,16,18446744073709420544,4,22,17,18446744073709289472,0,22,18,18446744073709027328,0,22,19,18446744073708503040,20,5,22,20,18446744073707454464,3,1,24,21,18446744073705357312,25,4,26,22,22,18446744073701163008,14,22,23,18446744073692774400,2,22,24,18446744073675997184,0] ?_
   refine G.partP (t := 41) rfl (fun h41 => ?_) (fun h41 => ?_)
   ·refine go [23,25,18446744073642442752,23,26,18446744073575333888,23,27,18446744073441116160,23,28,18446744073172680704,23,29,18446744072635809792,23,30,18446744071562067968,23,31,18446744069414584320,23,32,18446744065119617024,23,33,18446744056529682432,23,34,18446744039349813248,23,35,18446744004990074880,22,36,18446743936270598144,2,22,37,18446743798831644672,0,23,38,18446743523953737728,23,39,18446742974197923840,23,40,18446741874686296064,23,41,18446739675663040512,23,42,18446735277616529408,23,43,18446726481523507200,23,44,18446708889337462784,23,45,18446673704965373952,23,46,18446603336221196288,23,47,18446462598732840960,23,48,18446181123756130304,23,49,18445618173802708992,22,50,18444492273895866368,2,22,51,18442240474082181120,0,23,52,18437736874454810624,23,53,18428729675200069632,23,54,18410715276690587648,23,55,18374686479671623680,23,56,18302628885633695744,23,57,18158513697557839872,23,58,17870283321406128128,23,59,17293822569102704640,23,60,16140901064495857664,23,61,13835058055282163712,23,62,9223372036854775808,22,63,0,2,27] ?_
    exact G.meet (()) trT (.consE rfl Y5 (.cons rfl (.cons rfl (.cons rfl .nil)))) subT
   refine go [22,25,18446744073642442752,0,22,26,18446744073575333888,0,22,27,18446744073441116160,20,5,22,28,18446744073172680704,3,2,22,29,18446744072635809792,4,22,30,18446744071562067968,0,22,31,18446744069414584320,0,22,32,18446744065119617024,20,5,22,33,18446744056529682432,3,2,24,34,18446744039349813248,25,4,26,22,35,18446744004990074880,14,22,36,18446743936270598144,2,22,37,18446743798831644672,0] ?_
   refine G.partP (t := 54) rfl (fun h54 => ?_) (fun h54 => ?_)
   ·refine go [23,38,18446743523953737728,23,39,18446742974197923840,23,40,18446741874686296064,23,41,18446739675663040512,23,42,18446735277616529408,23,43,18446726481523507200,23,44,18446708889337462784,23,45,18446673704965373952,23,46,18446603336221196288,23,47,18446462598732840960,23,48,18446181123756130304,23,49,18445618173802708992,22,50,18444492273895866368,2,22,51,18442240474082181120,0,23,52,18437736874454810624,23,53,18428729675200069632,23,54,18410715276690587648,23,55,18374686479671623680,23,56,18302628885633695744,23,57,18158513697557839872,23,58,17870283321406128128,23,59,17293822569102704640,23,60,16140901064495857664,23,61,13835058055282163712,23,62,9223372036854775808,22,63,0,2,27] ?_
    exact G.meet (()) trT (.consE rfl Y5 (.cons rfl (.cons rfl (.cons rfl .nil)))) subT
   refine go [22,38,18446743523953737728,0,22,39,18446742974197923840,0,22,40,18446741874686296064,20,5,22,41,18446739675663040512,3,3,22,42,18446735277616529408,4,22,43,18446726481523507200,0,22,44,18446708889337462784,0,22,45,18446673704965373952,20,5,22,46,18446603336221196288,3,3,24,47,18446462598732840960,25,4,26,24,48,18446181123756130304] ?_
   refine G.turnOp rfl rfl (G.cR rfl rfl rfl rfl Try.func39 rfl rfl (may2 Y0 Y0) (same_tr _ _ _ _) ?_)
   refine go [26,22,49,18445618173802708992,15,22,50,18444492273895866368,2,22,51,18442240474082181120,0] ?_
   refine G.partP (t := 68) rfl (fun h68 => ?_) (fun h68 => ?_)
   ·refine go [23,52,18437736874454810624,23,53,18428729675200069632,23,54,18410715276690587648,23,55,18374686479671623680,23,56,18302628885633695744,23,57,18158513697557839872,23,58,17870283321406128128,23,59,17293822569102704640,23,60,16140901064495857664,23,61,13835058055282163712,23,62,9223372036854775808,22,63,0,2,27] ?_
    exact G.meet (()) trT (.consE rfl Y5 (.cons rfl (.cons rfl (.cons rfl .nil)))) subT
   refine go [22,52,18437736874454810624,0,22,53,18428729675200069632,0,22,54,18410715276690587648,20,5,22,55,18374686479671623680,3,4,22,56,18302628885633695744,4,22,57,18158513697557839872,0,22,58,17870283321406128128,0,22,59,17293822569102704640,20,5,22,60,16140901064495857664,3,4,24,61,13835058055282163712,25,4,26,22,62,9223372036854775808,23,22,63,0,2,27] ?_
   exact G.meet (()) trT (.consE rfl Y5 (.cons rfl (.cons rfl (.cons rfl .nil)))) subT
  intro _ hJ
  try dsimp only at hJ
  try dsimp only
  refine G.condP rfl (fun h80 => ?_) (fun h80 => ?_)
  ·have hne : xs[i].1 ≠ ys[i].1 := by assumption
   refine go [9,10,1,7,8,11,17,12,12,17,12] ?_
   exact G.done0G rfl (Rv.tmp rfl Rv.nil) (by rw [decide_eq_false (ens_ne hlt hlu hne)]; rfl)
  have heq : xs[i].1 = ys[i].1 := Decidable.of_not_not (by assumption)
  refine go [13,16,8,10,0,2,6,1,7] ?_
  exact G.next (i + 1) Y16 (by (try dsimp only); omega) (.consE rfl veqT (.cons rfl (.cons rfl .nil))) subT
 refine go [18,14,14,19,8,9,10,1,7,8,11] ?_
 exact G.done0G rfl (Rv.tmp rfl Rv.nil) (by rw [decide_eq_true (ens_eq (by omega) (fun q hq => hJ q hq (by omega)))]; rfl)
theorem flat_dat {xs : List ET} {sp : List Value} {i : Nat} (h : i < xs.length) : (flatT xs ++ sp)[0 + i * 5 + 3]? = some xs[i].2 := flat_at h 3 (by omega)
theorem flat_len {xs : List ET} {sp : List Value} {i j : Nat} (h : i < xs.length) (hj : j < 5) : 0 + i * 5 + j < (flatT xs ++ sp).length := by
 rw [List.length_append, flatT_length]
 omega
theorem take_set_succ {α : Type} {zs : List α} {i : Nat} (h : i < zs.length) (x : α) : (zs.set i x).take (i + 1) = zs.take i ++ [x] := by
 rw [List.take_succ_eq_append_getElem (by rw [List.length_set]; exact h), List.getElem_set_self, List.take_set_of_le (Nat.le_refl _)]
theorem ens_set {xs : List ET} {i : Nat} (h : i < xs.length) (d : Value) : ens (xs.set i (xs[i].1, d)) = ens xs := by
 unfold ens
 rw [List.map_set]
 apply List.ext_getElem?
 intro j
 by_cases hj : i = j
 ·subst hj
  rw [List.getElem?_set_self (by rw [List.length_map]; exact h)]
  simp [h]
 rw [List.getElem?_set_ne hj]
theorem len_ens {xs ys : List ET} (h : ens xs = ens ys) : xs.length = ys.length := by
 have := congrArg List.length h
 rwa [ens_length, ens_length] at this
section
variable {P : Program} {n : Nat} {w0 : World} {S : Nat → Prop} {l : Fr} {m : List Ck} {Q : Exit → Act → World → Prop} {K : Act → World → Prop}
theorem Ro.allDat {b o : Nat} {Ps : Nat → Prop} {xs : List ET} (hel : ∀ i (hi : i < xs.length), Ro w0 S (elc rEV Ps b (o + i * 5) xs[i])) : ∀ x ∈ xs, Ro w0 S (slc rByte Ps x.2 x.1.data) := fun x hx => by
 obtain ⟨i, hi, rfl⟩ := List.getElem_of_mem hx
 exact Ro.evDat (hel i hi)
theorem newsT {b o : Nat} {Ps : Nat → Prop} {xs : List ET} (hel : ∀ i (hi : i < xs.length), Ro w0 S (elc rEV Ps b (o + i * 5) xs[i])) : ∀ w, Hp w0 S w m → News w b o (flatT xs) := fun w hw j u hj => by
 have hl : j < xs.length * 5 := by
  have := (List.getElem?_eq_some_iff.1 hj).1
  rwa [flatT_length] at this
 obtain ⟨q, r, rfl, hr, hq⟩ : ∃ q r, j = q * 5 + r ∧ r < 5 ∧ q < xs.length := ⟨j / 5, j % 5, by omega, by omega, by omega⟩
 rw [flatT_get hq hr] at hj
 have h2 := ((hel q hq).at hw : rEV.R Ps w b (o + q * 5) xs[q]).2.1 r u hj
 rwa [Nat.add_assoc] at h2
theorem flatT_one' {xs : List ET} (h : ∀ x ∈ xs, x.2.oneCell' = true) : ∀ u ∈ flatT xs, u.oneCell' = true := fun u hu => by
 obtain ⟨x, hx, hu⟩ := List.mem_flatMap.1 hu
 simp only [evC, List.mem_cons, List.not_mem_nil, or_false] at hu
 rcases hu with rfl | rfl | rfl | rfl | rfl
 ·rfl
 ·rfl
 ·rfl
 ·exact h x hx
 rfl
theorem Ro.allOne {b o : Nat} {Ps : Nat → Prop} {xs : List ET} (hel : ∀ i (hi : i < xs.length), Ro w0 S (elc rEV Ps b (o + i * 5) xs[i])) : ∀ u ∈ flatT xs, u.oneCell' = true := flatT_one' fun x hx => by
 obtain ⟨ad, cap, e⟩ := Ro.slv (Ro.allDat hel x hx)
 rw [e]
 rfl
theorem G.datNil (e : TypeId) (h : G n w0 S l (datC e [] :: m) K) : G n w0 S l m K := G.mem (fun w hw => Hp.star (m := []) hw) h
theorem G.datSnoc {e : TypeId} {ys : List ET} {x : ET} {r r' : List Ck} (h1 : Sel m (datC e ys) r) (h2 : Sel r (ownB e x.2 x.1.data) r') (h : G n w0 S l (datC e (ys ++ [x]) :: r') K) : G n w0 S l m K := G.mem (fun w hw => by
 have h3 := Hp.unstar (hw.sel h1)
 have p : (ys.map (fun x : ET => ownB e x.2 x.1.data) ++ r).Perm (((ys ++ [x]).map fun x : ET => ownB e x.2 x.1.data) ++ r') := by
  rw [List.map_append, List.append_assoc]
  exact List.Perm.append_left _ h2.perm
 exact Hp.star (h3.perm p)) h
end
theorem Try.infoEn' : (Try.prog.info? 89).map (fun i => (i.zero.map (·.cells.size), i.size, i.bytes)) = some (some 5, 5, 72) := by kernel_rfl
set_option maxRecDepth 20000 in
set_option maxHeartbeats 4000000 in
theorem cloneE_tr {Ps : Nat → Prop} (v : Value) (xs : List ET) (hn : xs.length ≤ 1000) : Tr Try.prog 48 #[v] [slc rEV Ps v xs] [] (TX (fun _ : Value => True) (fun x => x) (fun x => [ownT 89 x xs])) := by
 refine Tr.of (l := [(0, v)]) Try.func48 rfl (n := 8) rfl (.cons rfl .nil) (fun w0 hro => ?_)
 have hv := ro1 hro
 have hv' := hv
 obtain ⟨av, cv, bv, fv, rfl, hcapv, hmaxv, hnilv, hadv, helv⟩ := Ro.openT hv
 refine go [9,10,1,7,8,9,9,10,0] ?_
 refine G.op rfl (G.val rfl rfl (pv_eqlSl0 Try.underlying27 rfl rfl) ?_)
 refine go [7,8] ?_
 refine G.cond rfl (fun h4 => ?_) (fun h4 => ?_)
 ·have hn0 : av = none := by simpa using h4
  have hc0 := hnilv hn0
  obtain rfl : xs = [] := List.eq_nil_of_length_eq_zero (by omega)
  refine go [9,10,1,7,8,11,12] ?_
  refine G.ownNil 89 5 ?_
  exact G.doneX1 (.slice none 0 0) trT rfl rfl rfl subT
 refine go [13,8,9,10] ?_
 refine G.op rfl (G.lit0 rfl Try.underlying27 kr rfl ?_)
 intro b5
 refine G.ownBlk (b := b5) (k := 0) (sz := 5) selT rfl (by omega) ?_
 refine go [0] ?_
 refine G.op rfl (G.append (k := 0) (j := xs.length) (cs := []) (news := flatT xs) (b := bv) (off := fv) rfl Try.underlying27 Try.infoEn' rfl rfl rfl selT hadv hnilv (flatT_length xs) (newsT helv) (Ro.allOne helv) (by omega) (by omega) ?_)
 intro v'
 rw [List.nil_append, Nat.zero_add xs.length]
 refine go [1,7,8,11] ?_
 exact G.doneX1 (v') trT rfl rfl rfl subT
structure KeyF (P : Program) (k : TypeId) {κ : Type} (f : κ → Value) (ok : κ → Prop) : Prop where
 keyed : Go.Maps.Keyed P k
 is : ∀ x, ok x → ∃ l, keyOf P k (f x) = some l
 inj : ∀ x y, f x = f y → x = y
section
variable {κ : Type} [DecidableEq κ]
def mget : List (κ × Value) → κ → Option Value
 | [], _ => none
 | (a, v) :: l, k => if a = k then some v else mget l k
def mset : List (κ × Value) → κ → Value → List (κ × Value)
 | [], k, v => [(k, v)]
 | (a, u) :: l, k, v => if a = k then (k, v) :: l else (a, u) :: mset l k v
theorem mget_none {l : List (κ × Value)} {k : κ} (h : ∀ p ∈ l, p.1 ≠ k) : mget l k = none := by
 induction l with
 | nil => rfl
 | cons p l ih =>
  obtain ⟨a, u⟩ := p
  have := h (a, u) (List.mem_cons_self ..)
  simp [mget, this, ih fun q hq => h q (List.mem_cons_of_mem _ hq)]
theorem mget_at {l : List (κ × Value)} (hn : (l.map (·.1)).Nodup) {j : Nat} {k : κ} {v : Value} (h : l[j]? = some (k, v)) : mget l k = some v := by
 induction l generalizing j with
 | nil => simp at h
 | cons p l ih =>
  obtain ⟨a, u⟩ := p
  rw [List.map_cons, List.nodup_cons] at hn
  cases j with
  | zero =>
   rw [List.getElem?_cons_zero] at h
   injection h with h
   injection h with h1 h2
   subst h1 h2
   simp [mget]
  | succ j =>
   rw [List.getElem?_cons_succ] at h
   have hm : k ∈ l.map (·.1) := List.mem_map.2 ⟨_, List.mem_of_getElem? h, rfl⟩
   have : ¬ a = k := fun e => hn.1 (e ▸ hm)
   simp [mget, this, ih hn.2 h]
theorem mset_new {l : List (κ × Value)} {k : κ} {v : Value} (h : ∀ p ∈ l, p.1 ≠ k) : mset l k v = l ++ [(k, v)] := by
 induction l with
 | nil => rfl
 | cons p l ih =>
  obtain ⟨a, u⟩ := p
  have := h (a, u) (List.mem_cons_self ..)
  simp [mset, this, ih fun q hq => h q (List.mem_cons_of_mem _ hq)]
theorem mset_at {l : List (κ × Value)} (hn : (l.map (·.1)).Nodup) {j : Nat} {k : κ} {u v : Value} (h : l[j]? = some (k, u)) : mset l k v = l.set j (k, v) := by
 induction l generalizing j with
 | nil => simp at h
 | cons p l ih =>
  obtain ⟨a, w⟩ := p
  rw [List.map_cons, List.nodup_cons] at hn
  cases j with
  | zero =>
   rw [List.getElem?_cons_zero] at h
   injection h with h
   injection h with h1 h2
   subst h1
   simp [mset]
  | succ j =>
   rw [List.getElem?_cons_succ] at h
   have hm : k ∈ l.map (·.1) := List.mem_map.2 ⟨_, List.mem_of_getElem? h, rfl⟩
   have : ¬ a = k := fun e => hn.1 (e ▸ hm)
   simp [mset, this, ih hn.2 h]
theorem mset_keys (l : List (κ × Value)) (k : κ) (v : Value) : (mset l k v).map (·.1) = if k ∈ l.map (·.1) then l.map (·.1) else l.map (·.1) ++ [k] := by
 induction l with
 | nil => simp [mset]
 | cons p l ih =>
  obtain ⟨a, u⟩ := p
  unfold mset
  by_cases h : a = k
  ·subst h
   simp
  rw [if_neg h, List.map_cons, ih]
  by_cases h2 : k ∈ l.map (·.1)
  ·simp [h2]
  simp only [List.map_cons, List.mem_cons, if_neg h2]
  rw [if_neg (fun e => e.elim (fun e => h e.symm) h2)]
  rfl
theorem mset_nodup {l : List (κ × Value)} (hn : (l.map (·.1)).Nodup) (k : κ) (v : Value) : ((mset l k v).map (·.1)).Nodup := by
 rw [mset_keys]
 split
 ·exact hn
 rename_i h
 exact List.nodup_append.2 ⟨hn, by simp, fun a ha b hb => by
  obtain rfl : b = k := by simpa using hb
  exact fun e => h (e ▸ ha)⟩
theorem mset_ok {ok : κ → Prop} {l : List (κ × Value)} (h : ∀ p ∈ l, ok p.1) {k : κ} (hk : ok k) (v : Value) : ∀ p ∈ mset l k v, ok p.1 := fun p hp => by
 have : p.1 ∈ (mset l k v).map (·.1) := List.mem_map.2 ⟨p, hp, rfl⟩
 rw [mset_keys] at this
 split at this
 ·obtain ⟨q, hq, e⟩ := List.mem_map.1 this
  rw [← e]
  exact h q hq
 rcases List.mem_append.1 this with h1 | h1
 ·obtain ⟨q, hq, e⟩ := List.mem_map.1 h1
  rw [← e]
  exact h q hq
 obtain rfl : p.1 = k := by simpa using h1
 exact hk
end
structure MapIs {κ : Type} (f : κ → Value) (ok : κ → Prop) (es : Array MapEntry) (l : List (κ × Value)) : Prop where
 eq : es.toList.map (fun e => (e.key, e.val)) = l.map fun p => (f p.1, p.2)
 nodup : (l.map (·.1)).Nodup
 ok : ∀ p ∈ l, ok p.1
def mpc {κ : Type} (f : κ → Value) (ok : κ → Prop) (b : Nat) (l : List (κ × Value)) : Ck := ⟨(· = b), fun w => ∃ es clock, w.heap[b]? = some (.map es clock) ∧ MapIs f ok es l ∧ Go.MapKept.Stamped es clock, fun w w' h ⟨es, c, h1, h2⟩ => ⟨es, c, (h b rfl).trans h1, h2⟩⟩
section
variable {κ : Type} {f : κ → Value} {ok : κ → Prop} {es : Array MapEntry} {l : List (κ × Value)} {P : Program} {k : TypeId}
theorem MapIs.get (h : MapIs f ok es l) {j : Nat} {e : MapEntry} (he : es[j]? = some e) : ∃ x, l[j]? = some (x, e.val) ∧ f x = e.key := by
 have h1 : (es.toList.map (fun e => (e.key, e.val)))[j]? = some (e.key, e.val) := by rw [List.getElem?_map, Array.getElem?_toList, he]; rfl
 rw [h.eq, List.getElem?_map] at h1
 obtain ⟨p, hp, e2⟩ := Option.map_eq_some_iff.1 h1
 injection e2 with e3 e4
 exact ⟨p.1, by rw [hp, ← e4], e3⟩
theorem MapIs.mem (h : MapIs f ok es l) {e : MapEntry} (he : e ∈ es.toList) : ∃ x, (x, e.val) ∈ l ∧ f x = e.key := by
 obtain ⟨j, hj⟩ := List.getElem?_of_mem he
 obtain ⟨x, h1, h2⟩ := h.get (j := j) (by rw [← Array.getElem?_toList]; exact hj)
 exact ⟨x, List.mem_of_getElem? h1, h2⟩
theorem MapIs.back (h : MapIs f ok es l) {p : κ × Value} (hp : p ∈ l) : ∃ e ∈ es.toList, f p.1 = e.key ∧ p.2 = e.val := by
 have : (f p.1, p.2) ∈ l.map fun p => (f p.1, p.2) := List.mem_map.2 ⟨p, hp, rfl⟩
 rw [← h.eq] at this
 obtain ⟨e, he, e1⟩ := List.mem_map.1 this
 injection e1 with e2 e3
 exact ⟨e, he, e2.symm, e3.symm⟩
theorem MapIs.nil : MapIs f ok #[] [] := ⟨rfl, by simp, by simp⟩
theorem MapIs.find (K : KeyF P k f ok) (h : MapIs f ok es l) {x : κ} (hx : ok x) (w : World) :
 ((Instr.findKey k (f x) es.toList).run P w = .ok none w ∧ (∀ p ∈ l, p.1 ≠ x)) ∨ ∃ j e, (Instr.findKey k (f x) es.toList).run P w = .ok (some (j, e.val)) w ∧ es[j]? = some e ∧ e.key = f x ∧ l[j]? = some (x, e.val) := by
 obtain ⟨lx, hlx⟩ := K.is x hx
 rcases K.keyed.find w hlx es.toList (fun e he => by
  obtain ⟨y, hy, e1⟩ := h.mem he
  rw [← e1]
  exact K.is y (h.ok _ hy)) with ⟨h1, h2⟩ | ⟨j, e, h1, h2, h3⟩
 ·exact .inl ⟨h1, fun p hp e1 => by
   obtain ⟨e, he, e2, _⟩ := h.back hp
   exact h2 e he (by rw [← e2, e1])⟩
 rw [Array.getElem?_toList] at h2
 obtain ⟨y, hy, e1⟩ := h.get h2
 have : y = x := K.inj _ _ (e1.trans h3)
 subst this
 exact .inr ⟨j, e, h1, h2, h3, hy⟩
variable [DecidableEq κ]
theorem run_mapGet {t e : TypeId} {w : World} {b : Nat} {clock : Nat} (K : KeyF P k f ok) (h : MapIs f ok es l) (hb : w.heap[b]? = some (.map es clock)) (ht : P.underlying t = some (.map k e)) {z : Value} (hz : (zeroValue e).run P w = .ok z w) {x : κ} (hx : ok x) (c : Bool) :
 (Instr.lookup t (.map (some b)) (f x) c).run P w = .ok (if c then .tuple #[(mget l x).getD z, .bool (mget l x).isSome] else (mget l x).getD z) w := by
 obtain ⟨lx, hlx⟩ := K.is x hx
 rcases h.find K hx w with ⟨h1, h2⟩ | ⟨j, e0, h1, h2, h3, h4⟩
 ·rw [mget_none h2]
  simp [Instr.lookup, run_underlying ht, MapKept.run_getObj_map hb, K.keyed.check w _ hlx, h1, hz, Result.andThen]
 rw [mget_at h.nodup h4]
 simp [Instr.lookup, run_underlying ht, MapKept.run_getObj_map hb, K.keyed.check w _ hlx, h1, Result.andThen]
theorem run_mapSet {t e : TypeId} {w : World} {b : Nat} {clock : Nat} (K : KeyF P k f ok) (h : MapIs f ok es l) (hb : w.heap[b]? = some (.map es clock)) (ht : P.underlying t = some (.map k e)) {x : κ} (hx : ok x) (v : Value) (hsp : Go.MapKept.Stamped es clock) :
 ∃ es' clock', (Instr.mapUpdate t (.map (some b)) (f x) v).run P w = .ok () (w.putObj b (.map es' clock')) ∧ MapIs f ok es' (mset l x v) ∧ Go.MapKept.Stamped es' clock' := by
 obtain ⟨lx, hlx⟩ := K.is x hx
 rcases h.find K hx w with ⟨h1, h2⟩ | ⟨j, e0, h1, h2, h3, h4⟩
 ·refine ⟨es.push ⟨f x, v, clock⟩, clock + 1, ?_, ⟨?_, mset_nodup h.nodup x v, mset_ok h.ok hx v⟩, Go.MapKept.stamped_push hsp fun e he e1 => by
   obtain ⟨y, hy, e2⟩ := h.mem he
   exact h2 _ hy (K.inj _ _ (e2.trans e1))⟩
  ·simp [Instr.mapUpdate, run_underlying ht, MapKept.run_getObj_map hb, K.keyed.check w false hlx, h1, MapKept.run_setObj_map _ hb, Result.andThen, World.putObj]
  rw [mset_new h2, Array.toList_push, List.map_append, List.map_append, h.eq]
  rfl
 have hst := K.keyed.stays w hlx
 refine ⟨es.modify j fun e => { e with key := f x, val := v }, clock, ?_, ⟨?_, mset_nodup h.nodup x v, mset_ok h.ok hx v⟩, Go.MapKept.stamped_modify hsp j _ (fun e _ => rfl) fun e _ he => by
  rw [h2] at he
  injection he with he
  rw [← he]
  exact h3.symm⟩
 ·simp [Instr.mapUpdate, run_underlying ht, MapKept.run_getObj_map hb, K.keyed.check w false hlx, h1, h2, h3, hst, MapKept.run_setObj_map _ hb, Result.andThen, World.putObj]
 rw [mset_at h.nodup h4]
 apply List.ext_getElem?
 intro q
 rw [List.getElem?_map, List.getElem?_map, Array.getElem?_toList, Array.getElem?_modify]
 by_cases hq : j = q
 ·subst hq
  have hl : j < l.length := (List.getElem?_eq_some_iff.1 h4).1
  rw [if_pos rfl, h2, List.getElem?_set_self hl]
  rfl
 rw [if_neg hq, List.getElem?_set_ne hq]
 have := congrArg (·[q]?) h.eq
 simp only [List.getElem?_map, Array.getElem?_toList] at this
 exact this
end
section
variable {P : Program} {n : Nat} {w0 : World} {S : Nat → Prop} {l : Fr} {m : List Ck} {Q : Exit → Act → World → Prop} {K : Act → World → Prop}
variable {dst : Option Tmp} {ty : TypeId} {pos : String} {after : Array Edge} {g : Option (Nat × Bool)}
theorem G.mapNew {κ : Type} (f : κ → Value) (ok : κ → Prop) {t d : Nat} (hn : Nat.blt d n = true) (h : ∀ b, G n w0 S ((d, .map (some b)) :: l) (mpc f ok b [] :: m) K) : G n w0 S l m (fun a w => Oper.wp P ⟨some d, .makeMap t none, ty, pos, after, g⟩ a w K Q) := G.eff rfl hn fun a w ha hw => by
 have hw' := hw.allocO (.map #[] 0)
 refine ⟨.map (some w.heap.size), w.alloc (.map #[] 0), mpc f ok w.heap.size [] :: m, run_v (run_makeMap t w), ?_, h _⟩
 refine ⟨hw'.chg, fun c hc => ?_, fun c hc b hb => ?_, ?_⟩
 ·rcases List.mem_cons.1 hc with rfl | hc
  ·have : (w.alloc (.map #[] 0)).heap[w.heap.size]? = some (.map #[] 0) := hw'.holds _ (List.mem_cons_self ..)
   exact ⟨#[], 0, this, MapIs.nil, Go.MapKept.stamped_empty 0⟩
  exact hw'.holds c (List.mem_cons_of_mem _ hc)
 ·rcases List.mem_cons.1 hc with rfl | hc
  ·exact hw'.own _ (List.mem_cons_self ..) b hb
  exact hw'.own c (List.mem_cons_of_mem _ hc) b hb
 have hd := List.pairwise_cons.1 hw'.dis
 exact List.pairwise_cons.2 ⟨fun c hc b hb => hd.1 c hc b hb, hd.2⟩
theorem Hp.mapPut {κ : Type} {f : κ → Value} {ok : κ → Prop} {w : World} {b : Nat} {es es' : Array MapEntry} {clock clock' : Nat} {xs xs' : List (κ × Value)} {q : List Ck} (hw : Hp w0 S w (mpc f ok b xs :: q)) (hb : w.heap[b]? = some (.map es clock)) (h : MapIs f ok es' xs') (hsp : Go.MapKept.Stamped es' clock') : Hp w0 S (w.putObj b (.map es' clock')) (mpc f ok b xs' :: q) := by
 have hd := List.pairwise_cons.1 hw.dis
 have h1 : Hp w0 S w (obc b (.map es clock) :: q) := ⟨hw.chg, fun c hc => by
  rcases List.mem_cons.1 hc with rfl | hc
  ·exact hb
  ·exact hw.holds c (List.mem_cons_of_mem _ hc), fun c hc i hi => by
  rcases List.mem_cons.1 hc with rfl | hc
  ·exact hw.own _ (List.mem_cons_self ..) i hi
  exact hw.own c (List.mem_cons_of_mem _ hc) i hi, List.pairwise_cons.2 ⟨fun c hc i hi => hd.1 c hc i hi, hd.2⟩⟩
 have h2 := h1.putO (.map es' clock')
 have hd2 := List.pairwise_cons.1 h2.dis
 refine ⟨h2.chg, fun c hc => ?_, fun c hc i hi => ?_, List.pairwise_cons.2 ⟨fun c hc i hi => hd2.1 c hc i hi, hd2.2⟩⟩
 ·rcases List.mem_cons.1 hc with rfl | hc
  ·exact ⟨es', clock', h2.holds _ (List.mem_cons_self ..), h, hsp⟩
  exact h2.holds c (List.mem_cons_of_mem _ hc)
 rcases List.mem_cons.1 hc with rfl | hc
 ·exact h2.own _ (List.mem_cons_self ..) i hi
 exact h2.own c (List.mem_cons_of_mem _ hc) i hi
theorem G.mapSet {κ : Type} [DecidableEq κ] {f : κ → Value} {ok : κ → Prop} {t k e b : Nat} {xm xk xv : Operand} {x : κ} {v : Value} {xs : List (κ × Value)} {r : List Ck} (Kf : KeyF P k f ok) (ht : P.underlying t = some (.map k e)) (hm : ev l xm = some (.map (some b))) (hk : ev l xk = some (f x)) (hv : ev l xv = some v) (hx : ok x) (hs : Sel m (mpc f ok b xs) r)
 (h : G n w0 S l (mpc f ok b (mset xs x v) :: r) K) : G n w0 S l m (fun a w => Oper.wp P ⟨none, .mapUpdate t xm xk xv, ty, pos, after, g⟩ a w K Q) := G.act rfl fun a w ha hw => by
 have hw' := hw.sel hs
 obtain ⟨es, clock, hb, hi, hsp⟩ : ∃ es clock, w.heap[b]? = some (.map es clock) ∧ MapIs f ok es xs ∧ Go.MapKept.Stamped es clock := hw'.holds _ (List.mem_cons_self ..)
 obtain ⟨es', clock', hr, hi', hsp'⟩ := run_mapSet Kf hi hb ht hx v hsp
 refine ⟨_, _, ?_, hw'.mapPut (clock' := clock') hb hi' hsp', h⟩
 have e1 := ha.eval hm
 have e2 := ha.eval hk
 have e3 := ha.eval hv
 show (execOp a.eval _).run P w = _
 simp only [execOp, e1, e2, e3]
 exact run_u hr
theorem pv_mapGet {κ : Type} [DecidableEq κ] {f : κ → Value} {ok : κ → Prop} {t k e b : Nat} {xm xk : Operand} {c : Bool} {x : κ} {z : Value} {xs : List (κ × Value)} (Kf : KeyF P k f ok) (ht : P.underlying t = some (.map k e)) (hz : ∀ w, (zeroValue e).run P w = .ok z w) (hm : ev l xm = some (.map (some b))) (hk : ev l xk = some (f x)) (hx : ok x)
 (hs : ∀ w, Hp w0 S w m → (mpc f ok b xs).φ w) : PV P n w0 S l m ⟨dst, .lookup t xm xk c, ty, pos, after, g⟩ (if c then .tuple #[(mget xs x).getD z, .bool (mget xs x).isSome] else (mget xs x).getD z) := fun a w ha hw => by
 obtain ⟨es, clock, hb, hi, _⟩ := hs w hw
 have e1 := ha.eval hm
 have e2 := ha.eval hk
 show (execOp a.eval _).run P w = _
 simp only [execOp, e1, e2]
 exact run_v (run_mapGet Kf hi hb ht (hz w) hx c)
theorem sel_map {κ : Type} {f : κ → Value} {ok : κ → Prop} {b : Nat} {xs : List (κ × Value)} {r : List Ck} (h : Sel m (mpc f ok b xs) r) : ∀ w, Hp w0 S w m → (mpc f ok b xs).φ w := fun w hw => hw.holds _ h.mem
end
theorem vInt_inj' {a b : Int} (h : vInt a = vInt b) : a = b := by
 unfold vInt at h
 injection h
theorem keyN : KeyF Try.prog 3 vInt I64 where
 keyed := Go.Maps.int_keyed Try.underlying3
 is x hx := ⟨_, Go.Maps.keyOf_int_mk Try.underlying3 (by simp only [Lit.wf, Bool.and_eq_true, decide_eq_true_eq]; exact ⟨hx.1, hx.2⟩)⟩
 inj _ _ h := vInt_inj' h
section
variable {P : Program} {n : Nat} {w0 : World} {S : Nat → Prop} {l : Fr} {m : List Ck} {dst : Option Tmp} {ty : TypeId} {pos : String} {after : Array Edge} {g : Option (Nat × Bool)}
theorem run_eqM {t k e : TypeId} (ht : P.underlying t = some (.map k e)) (a : Option Nat) (w : World) : ∀ d, (Op.equalIn (d + 1) t (.map a) (.map none)).run P w = .ok a.isNone w := fun d => by
 cases a <;> simp [Op.equalIn, Sem.run_bind, run_underlying ht, Result.andThen, Sem.run_pure]
theorem pv_eqlM0 {a : Option Nat} {t u k e : TypeId} {x y : Operand} (ht : P.underlying t = some (.map k e)) (hx : ev l x = some (.map a)) (hy : ev l y = some (.map none)) : PV P n w0 S l m ⟨dst, .binOp .eql t x y u, ty, pos, after, g⟩ (.bool a.isNone) :=
 pv_bin hx hy (by rw [eqGuard_at_map]) fun w => by
  show ((Op.equalIn Op.maxDepth t (.map a) (.map none)) >>= fun x => pure (Value.bool x)).run P w = _
  have h := run_eqM ht a w 9999
  simp only [Sem.run_bind, show Op.maxDepth = 9999 + 1 from rfl, h, Result.andThen, Sem.run_pure]
end
structure Sp where
 n : Int
 c : Int
 t : Int
 l : List En
structure ST where
 n : Int
 c : Int
 t : Int
 v : Value
 l : List ET
def ST.pl (s : ST) : Sp := ⟨s.n, s.c, s.t, ens s.l⟩
def snC (s : ST) : List Value := [vInt s.n, vInt s.c, vInt s.t, s.v]
theorem snC_len (s : ST) : (snC s).length = 4 := rfl
structure Cl where
 b : Nat
 v : Value
 g : Int
 ss : List ST
abbrev MS := List (Int × Cl)
def sps (ss : List ST) : List Sp := ss.map ST.pl
theorem sps_length (ss : List ST) : (sps ss).length = ss.length := List.length_map ..
def Cl.pl (z : Cl) : Int × List Sp := (z.g, sps z.ss)
abbrev PM := List (Int × (Int × List Sp))
def plM (st : MS) : PM := st.map fun p => (p.1, p.2.pl)
def trees (ss : List ST) : Ck := star (ss.flatMap fun s => [ownT 89 s.v s.l, datC 5 s.l])
def cliP (z : Cl) : List Ck := [blk z.b 74 [z.v, .int .i64 z.g], own 70 4 z.v z.ss.length (z.ss.flatMap snC), trees z.ss]
def cliC (z : Cl) : Ck := star (cliP z)
def clis (st : MS) : Ck := star (st.map fun p => cliC p.2)
def ptrs (st : MS) : List (Int × Value) := st.map fun p => (p.1, .pointer (some ⟨p.2.b, 0, none⟩))
def stGet : MS → Int → Option Cl
 | [], _ => none
 | (k, z) :: st, c => if k = c then some z else stGet st c
def stDel : MS → Int → MS
 | [], _ => []
 | (k, z) :: st, c => if k = c then st else (k, z) :: stDel st c
def stSet : MS → Int → Cl → MS
 | [], c, z => [(c, z)]
 | (k, y) :: st, c, z => if k = c then (c, z) :: st else (k, y) :: stSet st c z
def plGet : PM → Int → Int × List Sp
 | [], _ => (0, [])
 | (k, z) :: st, c => if k = c then z else plGet st c
def plSet : PM → Int → Int × List Sp → PM
 | [], c, z => [(c, z)]
 | (k, y) :: st, c, z => if k = c then (c, z) :: st else (k, y) :: plSet st c z
theorem pl_set (st : MS) (c : Int) (z : Cl) : plM (stSet st c z) = plSet (plM st) c z.pl := by
 induction st with
 | nil => rfl
 | cons p st ih =>
  obtain ⟨k, y⟩ := p
  by_cases h : k = c
  ·simp [plM, stSet, plSet, h]
  simp only [plM, stSet, if_neg h, List.map_cons, plSet]
  exact congrArg _ ih
theorem pl_get (st : MS) (c : Int) : plGet (plM st) c = ((stGet st c).map Cl.pl).getD (0, []) := by
 induction st with
 | nil => rfl
 | cons p st ih =>
  obtain ⟨k, y⟩ := p
  by_cases h : k = c
  ·simp [plM, stGet, plGet, h]
  simp only [plM, stGet, if_neg h, List.map_cons, plGet]
  exact ih
theorem ptrs_set (st : MS) (c : Int) (z : Cl) (h : ∀ y, stGet st c = some y → y.b = z.b) : ptrs (stSet st c z) = mset (ptrs st) c (.pointer (some ⟨z.b, 0, none⟩)) := by
 induction st with
 | nil => rfl
 | cons p st ih =>
  obtain ⟨k, y⟩ := p
  by_cases h1 : k = c
  ·simp [ptrs, stSet, mset, h1]
  simp only [ptrs, stSet, if_neg h1, List.map_cons, mset]
  rw [stGet, if_neg h1] at h
  exact congrArg _ (ih h)
theorem ptrs_get (st : MS) (c : Int) : mget (ptrs st) c = (stGet st c).map fun z => .pointer (some ⟨z.b, 0, none⟩) := by
 induction st with
 | nil => rfl
 | cons p st ih =>
  obtain ⟨k, y⟩ := p
  by_cases h1 : k = c
  ·simp [ptrs, stGet, mget, h1]
  simp only [ptrs, stGet, if_neg h1, List.map_cons, mget]
  exact ih
theorem set_perm (st : MS) (c : Int) (z : Cl) : (stSet st c z).Perm ((c, z) :: stDel st c) := by
 induction st with
 | nil => exact List.Perm.refl _
 | cons p st ih =>
  obtain ⟨k, y⟩ := p
  by_cases h1 : k = c
  ·simp [stSet, stDel, h1]
  simp only [stSet, stDel, if_neg h1]
  exact (ih.cons _).trans (List.Perm.swap ..)
theorem get_perm {st : MS} {c : Int} {z : Cl} (h : stGet st c = some z) : st.Perm ((c, z) :: stDel st c) := by
 induction st with
 | nil => cases h
 | cons p st ih =>
  obtain ⟨k, y⟩ := p
  rw [stGet] at h
  by_cases h1 : k = c
  ·rw [if_pos h1] at h
   injection h with h
   simp [stDel, h1, h]
  rw [if_neg h1] at h
  simp only [stDel, if_neg h1]
  exact ((ih h).cons _).trans (List.Perm.swap ..)
theorem del_none {st : MS} {c : Int} (h : stGet st c = none) : stDel st c = st := by
 induction st with
 | nil => rfl
 | cons p st ih =>
  obtain ⟨k, y⟩ := p
  rw [stGet] at h
  by_cases h1 : k = c
  ·rw [if_pos h1] at h
   cases h
  rw [if_neg h1] at h
  simp only [stDel, if_neg h1]
  rw [ih h]
theorem set_get {st : MS} {c : Int} {z : Cl} (h : stGet st c = some z) : stSet st c z = st := by
 induction st with
 | nil => cases h
 | cons p st ih =>
  obtain ⟨k, y⟩ := p
  rw [stGet] at h
  by_cases h1 : k = c
  ·rw [if_pos h1] at h
   injection h with h
   simp [stSet, h1, h]
  rw [if_neg h1] at h
  simp only [stSet, if_neg h1]
  rw [ih h]
theorem snC_app (ss : List ST) (s : ST) : ss.flatMap snC ++ snC s = (ss ++ [s]).flatMap snC := by simp [List.flatMap_append]
theorem snC_one {s : ST} (h : s.v.oneCell' = true) : ∀ u ∈ snC s, u.oneCell' = true := fun u hu => by
 simp only [snC, List.mem_cons, List.not_mem_nil, or_false] at hu
 rcases hu with rfl | rfl | rfl | rfl
 ·rfl
 ·rfl
 ·rfl
 exact h
theorem Try.infoSn : (Try.prog.info? 70).map (fun i => (i.zero.map (·.cells.size), i.size, i.bytes)) = some (some 4, 4, 48) := by kernel_rfl
def IsCl (st : MS) (c : Int) (z : Cl) : Prop := stGet st c = some z ∨ (stGet st c = none ∧ z.v = .slice none 0 0 ∧ z.g = 0 ∧ z.ss = [])
theorem IsCl.pl {st : MS} {c : Int} {z : Cl} (h : IsCl st c z) : plGet (plM st) c = z.pl := by
 rw [pl_get]
 rcases h with h | ⟨h, h1, h2, h3⟩
 ·rw [h]; rfl
 rw [h, Cl.pl, h2, h3]; rfl
theorem IsCl.b {st : MS} {c : Int} {z : Cl} (h : IsCl st c z) : ∀ y, stGet st c = some y → y.b = z.b := fun y hy => by
 rcases h with h | ⟨h, _⟩
 ·rw [h] at hy
  injection hy with hy
  rw [hy]
 rw [h] at hy
 cases hy
section
variable {n : Nat} {w0 : World} {S : Nat → Prop} {l : Fr} {m : List Ck} {K : Act → World → Prop}
theorem G.unstar {a r : List Ck} (h1 : Sel m (star a) r) (h : G n w0 S l (a ++ r) K) : G n w0 S l m K := G.mem (fun w hw => Hp.unstar (hw.sel h1)) h
theorem G.mkStar {p r : List Ck} (h1 : Sub m p r) (h : G n w0 S l (star p :: r) K) : G n w0 S l m K := G.mem (fun w hw => Hp.star (hw.perm h1.perm)) h
theorem G.starPerm {a b r : List Ck} (h1 : Sel m (star a) r) (hp : a.Perm b) (h : G n w0 S l (star b :: r) K) : G n w0 S l m K := G.mem (fun w hw => Hp.star ((Hp.unstar (hw.sel h1)).perm (List.Perm.append_right r hp))) h
theorem G.cliOut {st : MS} {c : Int} {z : Cl} {r : List Ck} (hz : stGet st c = some z) (h1 : Sel m (clis st) r) (h : G n w0 S l (cliC z :: clis (stDel st c) :: r) K) : G n w0 S l m K :=
 G.starPerm (b := cliC z :: (stDel st c).map fun p => cliC p.2) h1 ((get_perm hz).map fun p => cliC p.2) (G.mem (m := star (cliC z :: (stDel st c).map fun p => cliC p.2) :: r) (fun w hw => by
  have h2 := Hp.unstar hw
  have h3 : Hp w0 S w (((stDel st c).map fun p : Int × Cl => cliC p.2) ++ (cliC z :: r)) := h2.perm (by rw [List.cons_append]; exact List.perm_middle.symm)
  exact (Hp.star h3).perm (List.Perm.swap ..)) h)
theorem G.cliIn {st : MS} {c : Int} {z : Cl} {r r' : List Ck} (h1 : Sel m (cliC z) r) (h2 : Sel r (clis (stDel st c)) r') (h : G n w0 S l (clis (stSet st c z) :: r') K) : G n w0 S l m K :=
 G.mem (fun w hw => by
  have h3 := (hw.sel h1).perm (List.Perm.cons _ h2.perm)
  have h4 : Hp w0 S w (star ((stDel st c).map fun p => cliC p.2) :: cliC z :: r') := h3.perm (List.Perm.swap ..)
  have h5 := Hp.unstar h4
  have h6 : Hp w0 S w ((cliC z :: (stDel st c).map fun p => cliC p.2) ++ r') := h5.perm (by rw [List.cons_append]; exact List.perm_middle)
  have e := ((set_perm st c z).map (fun p : Int × Cl => cliC p.2)).symm
  have h7 : Hp w0 S w ((stSet st c z).map (fun p : Int × Cl => cliC p.2) ++ r') := h6.perm (List.Perm.append_right r' e)
  exact Hp.star h7) h
theorem G.cliBack {st : MS} {c : Int} {z : Cl} {r r' : List Ck} (hz : IsCl st c z) (h1 : Sel m (cliC z) r) (h2 : Sel r (clis (stDel st c)) r') (h : G n w0 S l (clis st :: r') K) : G n w0 S l m K := by
 rcases hz with hz | ⟨hz, _⟩
 ·refine G.cliIn (z := z) h1 h2 ?_
  rw [set_get hz]
  exact h
 rw [del_none hz] at h2
 exact G.mem (fun w hw => (((hw.sel h1).perm (List.Perm.cons _ h2.perm)).tail)) h
theorem G.cliOpen {zb : Nat} {zv : Value} {zg : Int} {zs : List ST} {r : List Ck} (h1 : Sel m (cliC ⟨zb, zv, zg, zs⟩) r) (h : G n w0 S l (blk zb 74 [zv, .int .i64 zg] :: own 70 4 zv zs.length (zs.flatMap snC) :: trees zs :: r) K) : G n w0 S l m K := G.unstar (a := cliP ⟨zb, zv, zg, zs⟩) h1 h
theorem G.cliMk {zb : Nat} {zv : Value} {zg : Int} {zs : List ST} {r : List Ck} (h1 : Sub m [blk zb 74 [zv, .int .i64 zg], own 70 4 zv zs.length (zs.flatMap snC), trees zs] r) (h : G n w0 S l (cliC ⟨zb, zv, zg, zs⟩ :: r) K) : G n w0 S l m K := G.mkStar (p := cliP ⟨zb, zv, zg, zs⟩) h1 h
theorem G.treesNil (h : G n w0 S l (trees [] :: m) K) : G n w0 S l m K := G.mem (fun w hw => Hp.star (m := []) hw) h
theorem G.treesSnoc {ss : List ST} {s : ST} {r r' r'' : List Ck} (h1 : Sel m (trees ss) r) (h2 : Sel r (ownT 89 s.v s.l) r') (h3 : Sel r' (datC 5 s.l) r'') (h : G n w0 S l (trees (ss ++ [s]) :: r'') K) : G n w0 S l m K :=
 G.mem (fun w hw => by
  have h4 : Hp w0 S w (trees ss :: ownT 89 s.v s.l :: datC 5 s.l :: r'') := (hw.sel h1).perm (List.Perm.cons _ (h2.perm.trans (List.Perm.cons _ h3.perm)))
  have h5 := Hp.unstar h4
  have h6 : Hp w0 S w (((ss ++ [s]).flatMap fun s => [ownT 89 s.v s.l, datC 5 s.l]) ++ r'') := by
   rw [List.flatMap_append, List.append_assoc]
   simpa using h5
  exact Hp.star h6) h
end
def fitE (c n k t : Int) (es : List En) : Int := if ¬ (1 ≤ c ∧ c ≤ 2147483647) ∨ ¬ (1 ≤ n ∧ n ≤ 2147483647) ∨ ¬ (1 ≤ k ∧ k ≤ 2147483647) ∨ ¬ (0 ≤ t ∧ t ≤ 2147483647) then 5 else if (checkT es).1 = 0 then 0 else 2
def takeM (pm : PM) (c n k t : Int) (es : List En) : Int × PM :=
 if fitE c n k t es ≠ 0 then (fitE c n k t es, pm) else if n ≤ (plGet pm c).1 then (7, pm) else if 64 ≤ ((plGet pm c).2.length : Int) then (8, pm) else (0, plSet pm c (n, (plGet pm c).2 ++ [⟨n, k, t, es⟩]))
theorem takeM_fit {pm : PM} {c n k t : Int} {es : List En} (h : ¬ fitE c n k t es = 0) : takeM pm c n k t es = (fitE c n k t es, pm) := if_pos h
theorem takeM_there {pm : PM} {c n k t : Int} {es : List En} (h : fitE c n k t es = 0) (h1 : n ≤ (plGet pm c).1) : takeM pm c n k t es = (7, pm) := (if_neg (not_not_intro h)).trans (if_pos h1)
theorem takeM_full {pm : PM} {c n k t : Int} {es : List En} (h : fitE c n k t es = 0) (h1 : ¬ n ≤ (plGet pm c).1) (h2 : 64 ≤ ((plGet pm c).2.length : Int)) : takeM pm c n k t es = (8, pm) := (if_neg (not_not_intro h)).trans ((if_neg h1).trans (if_pos h2))
theorem takeM_new {pm : PM} {c n k t : Int} {es : List En} (h : fitE c n k t es = 0) (h1 : ¬ n ≤ (plGet pm c).1) (h2 : ¬ 64 ≤ ((plGet pm c).2.length : Int)) : takeM pm c n k t es = (0, plSet pm c (n, (plGet pm c).2 ++ [⟨n, k, t, es⟩])) := (if_neg (not_not_intro h)).trans ((if_neg h1).trans (if_neg h2))
def lastOf (l : List Sp) (k : Int) : Option Sp := l.reverse.find? fun s => decide (s.c = k)
def backM (pm : PM) (c k t : Int) (es : List En) : (Int × Int) × PM :=
 if fitE c 1 k t es ≠ 0 then ((0, fitE c 1 k t es), pm) else match lastOf (plGet pm c).2 k with
 | some s => ((s.n, 0), pm)
 | none => if (plGet pm c).1 = 2147483647 then ((0, 5), pm) else if (takeM pm c ((plGet pm c).1 + 1) k t es).1 ≠ 0 then ((0, (takeM pm c ((plGet pm c).1 + 1) k t es).1), (takeM pm c ((plGet pm c).1 + 1) k t es).2) else (((plGet pm c).1 + 1, 0), (takeM pm c ((plGet pm c).1 + 1) k t es).2)
def okC (z : Int × List Sp) : Prop := (0 ≤ z.1 ∧ z.1 ≤ 2147483647) ∧ z.2.length ≤ 64 ∧ ∀ s ∈ z.2, (1 ≤ s.n ∧ s.n ≤ z.1) ∧ (1 ≤ s.c ∧ s.c ≤ 2147483647) ∧ (0 ≤ s.t ∧ s.t ≤ 2147483647) ∧ s.l.length ≤ 200 ∧ ∀ e ∈ s.l, EnOk e
def okM (pm : PM) : Prop := ∀ p ∈ pm, (1 ≤ p.1 ∧ p.1 ≤ 2147483647) ∧ okC p.2
theorem okM.get {pm : PM} (h : okM pm) (c : Int) : okC (plGet pm c) := by
 induction pm with
 | nil => exact ⟨⟨by show (0 : Int) ≤ 0; decide, by show (0 : Int) ≤ 2147483647; decide⟩, Nat.zero_le _, fun s hs => by cases hs⟩
 | cons p pm ih =>
  obtain ⟨k, z⟩ := p
  rw [plGet]
  split
  ·exact (h _ (List.mem_cons_self ..)).2
  exact ih fun q hq => h q (List.mem_cons_of_mem _ hq)
theorem okM.set {pm : PM} (h : okM pm) {c : Int} (hc : 1 ≤ c ∧ c ≤ 2147483647) {z : Int × List Sp} (hz : okC z) : okM (plSet pm c z) := by
 induction pm with
 | nil =>
  intro p hp
  obtain rfl : p = (c, z) := by simpa [plSet] using hp
  exact ⟨hc, hz⟩
 | cons p pm ih =>
  obtain ⟨k, y⟩ := p
  rw [plSet]
  split
  ·intro q hq
   rcases List.mem_cons.1 hq with rfl | hq
   ·exact ⟨hc, hz⟩
   exact h q (List.mem_cons_of_mem _ hq)
  intro q hq
  rcases List.mem_cons.1 hq with rfl | hq
  ·exact h _ (List.mem_cons_self ..)
  exact ih (fun q hq => h q (List.mem_cons_of_mem _ hq)) q hq
theorem fitE_zero {c n k t : Int} {es : List En} (h : fitE c n k t es = 0) : (1 ≤ c ∧ c ≤ 2147483647) ∧ (1 ≤ n ∧ n ≤ 2147483647) ∧ (1 ≤ k ∧ k ≤ 2147483647) ∧ (0 ≤ t ∧ t ≤ 2147483647) ∧ (checkT es).1 = 0 ∧ es.length ≤ 200 := by
 unfold fitE at h
 split at h
 ·cases h
 rename_i h1
 split at h
 ·rename_i h2
  exact ⟨by omega, by omega, by omega, by omega, h2, (checkT_zero h2).1⟩
 cases h
theorem takeM_ok {pm : PM} (h : okM pm) {c n k t : Int} {es : List En} (he : ∀ e ∈ es, EnOk e) : okM (takeM pm c n k t es).2 := by
 unfold takeM
 split
 ·exact h
 rename_i h0
 split
 ·exact h
 rename_i h1
 split
 ·exact h
 rename_i h2
 obtain ⟨f1, f2, f3, f4, f5, f6⟩ := fitE_zero (Decidable.of_not_not h0)
 obtain ⟨g1, g2, g3⟩ := h.get c
 refine h.set f1 ⟨⟨by show 0 ≤ n; omega, f2.2⟩, by simp only [List.length_append, List.length_singleton]; omega, fun s hs => ?_⟩
 rcases List.mem_append.1 hs with hs | hs
 ·obtain ⟨a1, a2⟩ := g3 s hs
  exact ⟨⟨a1.1, by show s.n ≤ n; omega⟩, a2⟩
 obtain rfl : s = _ := by simpa using hs
 exact ⟨⟨f2.1, Int.le_refl _⟩, f3, f4, f6, he⟩
theorem backM_ok {pm : PM} (h : okM pm) {c k t : Int} {es : List En} (he : ∀ e ∈ es, EnOk e) : okM (backM pm c k t es).2 := by
 unfold backM
 split
 ·exact h
 split
 ·exact h
 split
 ·exact h
 split
 ·exact takeM_ok h he
 exact takeM_ok h he
theorem backM_fit {pm : PM} {c k t : Int} {es : List En} (h : ¬ fitE c 1 k t es = 0) : backM pm c k t es = ((0, fitE c 1 k t es), pm) := if_pos h
theorem backM_go {pm : PM} {c k t : Int} {es : List En} (h : fitE c 1 k t es = 0) : backM pm c k t es = (match lastOf (plGet pm c).2 k with
 | some s => ((s.n, 0), pm)
 | none => if (plGet pm c).1 = 2147483647 then ((0, 5), pm) else if (takeM pm c ((plGet pm c).1 + 1) k t es).1 ≠ 0 then ((0, (takeM pm c ((plGet pm c).1 + 1) k t es).1), (takeM pm c ((plGet pm c).1 + 1) k t es).2) else (((plGet pm c).1 + 1, 0), (takeM pm c ((plGet pm c).1 + 1) k t es).2)) := if_neg (not_not_intro h)
theorem backM_old {pm : PM} {c k t : Int} {es : List En} {s : Sp} (h : fitE c 1 k t es = 0) (h1 : lastOf (plGet pm c).2 k = some s) : backM pm c k t es = ((s.n, 0), pm) := by rw [backM_go h, h1]
theorem backM_max {pm : PM} {c k t : Int} {es : List En} (h : fitE c 1 k t es = 0) (h1 : lastOf (plGet pm c).2 k = none) (h2 : (plGet pm c).1 = 2147483647) : backM pm c k t es = ((0, 5), pm) := by
 rw [backM_go h, h1]
 exact if_pos h2
theorem backM_bad {pm : PM} {c k t : Int} {es : List En} {n : Int} (h : fitE c 1 k t es = 0) (h1 : lastOf (plGet pm c).2 k = none) (h2 : ¬ (plGet pm c).1 = 2147483647) (hn : (plGet pm c).1 + 1 = n) (h3 : ¬ (takeM pm c n k t es).1 = 0) : backM pm c k t es = ((0, (takeM pm c n k t es).1), (takeM pm c n k t es).2) := by
 subst hn
 rw [backM_go h, h1]
 exact (if_neg h2).trans (if_pos h3)
theorem backM_new {pm : PM} {c k t : Int} {es : List En} {n : Int} (h : fitE c 1 k t es = 0) (h1 : lastOf (plGet pm c).2 k = none) (h2 : ¬ (plGet pm c).1 = 2147483647) (hn : (plGet pm c).1 + 1 = n) (h3 : (takeM pm c n k t es).1 = 0) : backM pm c k t es = ((n, 0), (takeM pm c n k t es).2) := by
 subst hn
 rw [backM_go h, h1]
 exact (if_neg h2).trans (if_neg (not_not_intro h3))
def sbk (xs : List ST) (k : Nat) : ST := (xs[xs.length - 1 - k]?).getD ⟨0, 0, 0, .slice none 0 0, []⟩
theorem sbk_eq {xs : List ST} {k : Nat} (h : k < xs.length) : sbk xs k = xs[xs.length - 1 - k]'(by omega) := by
 unfold sbk
 rw [List.getElem?_eq_getElem (show xs.length - 1 - k < xs.length by omega)]
 rfl
theorem sbk_rev {xs : List ST} {k : Nat} (h : k < (sps xs).reverse.length) : (sps xs).reverse[k] = (sbk xs k).pl := by
 have h1 : k < xs.length := by simpa [sps] using h
 rw [sbk_eq h1, List.getElem_reverse]
 simp [sps]
theorem slast_none {xs : List ST} {k : Int} (h : ∀ q, q < xs.length → ¬ (sbk xs q).c = k) : lastOf (sps xs) k = none := by
 unfold lastOf
 refine List.find?_eq_none.2 fun s hs => ?_
 obtain ⟨q, hq, rfl⟩ := List.getElem_of_mem hs
 rw [sbk_rev hq]
 exact fun e => h q (by simpa [sps] using hq) (of_decide_eq_true e)
theorem slast_at {xs : List ST} {k : Int} {i : Nat} (hi : i < xs.length) (h : ∀ q, q < i → ¬ (sbk xs q).c = k) (he : (sbk xs i).c = k) : lastOf (sps xs) k = some (sbk xs i).pl := by
 unfold lastOf
 have hl : i < (sps xs).reverse.length := by simpa [sps] using hi
 refine List.find?_eq_some_iff_getElem.2 ⟨decide_eq_true he, i, hl, sbk_rev hl, fun j hj => ?_⟩
 rw [sbk_rev (by omega)]
 exact by rw [show decide ((sbk xs j).pl.c = k) = false from decide_eq_false (h j hj)]; rfl
theorem rows_sl9 {α : Type} {f : α → List Value} {k : Nat} {E : Rdr α} (hf : ∀ x, (f x).length = k) (hE : E.sz = k) {e : TypeId} {v : Value} {xs : List α} {w : World} {Ps : Nat → Prop} (h : w.ownsRow 0 e k v xs.length (xs.flatMap f)) (hP : ∀ b, v.ownBlock = some b → Ps b)
 (hx : ∀ b o x, x ∈ xs → Ps b → w.rangeAt b o (f x) → E.R Ps w b o x) : IsSl E Ps w v xs := by
 obtain ⟨ad, cap, b, hv, had, hnil, hnw⟩ := own_news h
 obtain ⟨h1, h2⟩ := h
 have hb : xs.length ≤ cap ∧ cap ≤ 9223372036854775807 := by
  rcases h2 with ⟨rfl, h0⟩ | ⟨g, cap', cur, rfl, _, _, hc, hm, _⟩
  ·injection hv with e1 e2 e3
   subst e3
   omega
  injection hv with e1 e2 e3
  subst e3
  exact ⟨hc, by unfold maxLen at hm; omega⟩
 refine ⟨ad, cap, b, 0, hv, hb.1, hb.2, hnil, had, fun i hi => hx _ _ _ (List.getElem_mem hi) (hP b ?_) fun j u hj => ?_⟩
 ·rw [hv, had (by omega)]
  rfl
 have hjk : j < k := by
  have := (List.getElem?_eq_some_iff.1 hj).1
  rwa [hf] at this
 have := hnw (i * k + j) u (by rw [flatMap_get f k hf xs i j hi hjk]; exact hj)
 rw [hE, show 0 + i * k + j = 0 + (i * k + j) from by omega]
 exact this
def rSn : Rdr ST where
 sz := 4
 R := fun Ps w b o x => Ps b ∧ w.rangeAt b o (snC x)
 loc := fun h ⟨h1, h2⟩ => ⟨h1, rangeAt_loc (h _ h1) h2⟩
 mono := fun h ⟨h1, h2⟩ => ⟨h _ h1, h2⟩
section
variable {n : Nat} {w0 : World} {S : Nat → Prop} {l : Fr} {m : List Ck} {K : Act → World → Prop}
theorem Ro.snRng {Ps : Nat → Prop} {b o : Nat} {x : ST} (h : Ro w0 S (elc rSn Ps b o x)) : Ro w0 S (rng b o (snC x)) := ⟨h.1.2, fun k hk => h.2 k (by obtain rfl : k = b := hk; exact h.1.1)⟩
theorem may_snaps {e : TypeId} {v : Value} {xs : List ST} {r : List Ck} (h : Sel m (own e 4 v xs.length (xs.flatMap snC)) r) : May w0 S m (slc rSn (fun b => v.ownBlock = some b) v xs) :=
 .view h.mem (fun w hw => rows_sl9 snC_len rfl hw (fun b hb => hb) fun b o x hx hP hr => ⟨hP, hr⟩) fun b hb => hb
theorem G.treesOne {ss : List ST} {r : List Ck} (h1 : Sel m (trees ss) r) (h : (∀ s ∈ ss, s.v.oneCell' = true) → G n w0 S l m K) : G n w0 S l m K :=
 G.fact (p := ∀ s ∈ ss, s.v.oneCell' = true) (fun w hw s hs => own_cell1 ((hw.holds _ h1.mem : (trees ss).φ w).1 (ownT 89 s.v s.l) (List.mem_flatMap.2 ⟨s, hs, by simp⟩))) h
end
set_option maxRecDepth 20000 in
set_option maxHeartbeats 4000000 in
theorem none_tr (Dm bm : Nat) : Tr Try.prog 26 #[.pointer (some ⟨Dm, 0, none⟩)] [] [blk Dm 40 [.map (some bm)]] (TX (fun _ : Unit => True) (fun _ => .bool false) (fun _ => [blk Dm 40 [.map (some bm)]])) := by
 refine Tr.of (l := [(0, .pointer (some ⟨Dm, 0, none⟩))]) Try.func26 rfl (n := 12) rfl (.cons rfl .nil) (fun w0 hro => ?_)
 refine go [9,10,1,7,8,9,10,0] ?_
 refine G.op rfl (G.val rfl rfl (pv_eqlP0 Try.underlying24 rfl rfl) ?_)
 refine go [0,3,0,3,8,3,3,0,3,4] ?_
 refine G.want rfl rfl rfl (G.val rfl rfl (pv_eqlM0 Try.underlying38 rfl rfl) ?_)
 refine go [2,2,1,7,8,11] ?_
 exact G.doneX1 (()) trT rfl rfl rfl subT
set_option maxRecDepth 20000 in
set_option maxHeartbeats 4000000 in
theorem mnew_tr : Tr Try.prog 8 #[] [] [] (TX (fun _ : Nat × Nat => True) (fun z => .pointer (some ⟨z.1, 0, none⟩)) (fun z => [blk z.1 40 [.map (some z.2)], mpc vInt I64 z.2 (ptrs ([] : MS)), clis ([] : MS)])) := by
 refine Tr.of (l := []) Try.func8 rfl (n := 4) rfl Fa.nil (fun w0 hro => ?_)
 refine go [9,10,1,7,8,9,10] ?_
 refine G.op rfl (G.mapNew vInt I64 rfl ?_)
 intro bm
 refine G.op rfl (G.val rfl rfl (pv_buildSt (z := [.map none]) (pl := [(0, 1)]) Try.underlying40 kr kr rfl flT) ?_)
 refine go [60,2] ?_
 intro b3
 refine go [1,7,8,11] ?_
 refine G.mkStar (p := []) Sub.nil ?_
 exact G.doneX1 ((b3, bm)) trT rfl rfl rfl subT
set_option maxRecDepth 20000 in
set_option maxHeartbeats 4000000 in
theorem mwithin_tr (n k : Int) : Tr Try.prog 40 #[.int .i64 n, .int .i64 k] [] [] (T0 (.bool (decide (k ≤ n ∧ n ≤ 2147483647)))) := by
 refine Tr.of (l := [(0, .int .i64 n), (1, .int .i64 k)]) Try.func40 rfl (n := 12) rfl (.cons rfl (.cons rfl .nil)) (fun w0 hro => ?_)
 refine go [9,10,1,7,8,9,10,0,0,2,12,0] ?_
 refine G.partP (t := 8) rfl (fun h8 => ?_) (fun h8 => ?_)
 ·refine go [3,0,3,11,2,2,1,7,8,11] ?_
  exact G.done0G rfl (Rv.tmp rfl Rv.nil) Y15
 refine go [4,4,2,2,1,7,8,11] ?_
 exact G.done0G rfl (Rv.tmp rfl Rv.nil) Y15
set_option maxRecDepth 20000 in
set_option maxHeartbeats 4000000 in
theorem fits_tr {Ps : Nat → Prop} (c n k t : Int) (v : Value) (xs : List ET) : Tr Try.prog 27 #[.int .i64 c, .int .i64 n, .int .i64 k, .int .i64 t, v] [slc rEV Ps v xs] [] (T0 (.int .i64 (fitE c n k t (ens xs)))) := by
 refine Tr.of (l := [(0, .int .i64 c), (1, .int .i64 n), (2, .int .i64 k), (3, .int .i64 t), (4, v)]) Try.func27 rfl (n := 38) rfl (.cons rfl (.cons rfl (.cons rfl (.cons rfl (.cons rfl .nil))))) (fun w0 hro => ?_)
 have hv := ro1 hro
 refine go [9,10,1,7,8,9,9] ?_
 refine G.cutK (X := Unit) (ts := [4, 10]) (p := []) (fun _ => True) (fun _ => [(30, .bool (decide (¬ (1 ≤ c ∧ c ≤ 2147483647) ∨ ¬ (1 ≤ n ∧ n ≤ 2147483647) ∨ ¬ (1 ≤ k ∧ k ≤ 2147483647) ∨ ¬ (0 ≤ t ∧ t ≤ 2147483647))))]) (fun _ => []) (.cons rfl (.cons rfl .nil)) subT (.cons .nil) apT ?_ ?_
 ·refine go [10,0] ?_
  refine G.op rfl (G.cR rfl rfl rfl rfl Try.func40 rfl rfl may0 (mwithin_tr _ _) ?_)
  refine go [2,15,0] ?_
  refine G.partP (t := 16) rfl (fun h16 => ?_) (fun h16 => ?_)
  ·refine go [4,4,4,2,2,0,4,4,4,2,2,0,4,4,4,2,2,7] ?_
   exact G.meet (()) trT (.consE rfl Y12 (.cons rfl (.cons rfl .nil))) subT
  refine go [3,0] ?_
  refine G.want rfl rfl rfl (G.cR rfl rfl rfl rfl Try.func40 rfl rfl may0 (mwithin_tr _ _) ?_)
  refine go [3,15,2,2,0] ?_
  refine G.partP (t := 21) rfl (fun h21 => ?_) (fun h21 => ?_)
  ·refine go [4,4,4,2,2,0,4,4,4,2,2,7] ?_
   exact G.meet (()) trT (.consE rfl Y12 (.cons rfl (.cons rfl .nil))) subT
  refine go [3,0] ?_
  refine G.want rfl rfl rfl (G.cR rfl rfl rfl rfl Try.func40 rfl rfl may0 (mwithin_tr _ _) ?_)
  refine go [3,15,2,2,0] ?_
  refine G.partP (t := 26) rfl (fun h26 => ?_) (fun h26 => ?_)
  ·refine go [4,4,4,2,2,7] ?_
   exact G.meet (()) trT (.consE rfl Y12 (.cons rfl (.cons rfl .nil))) subT
  refine go [3,0] ?_
  refine G.want rfl rfl rfl (G.cR rfl rfl rfl rfl Try.func40 rfl rfl may0 (mwithin_tr _ _) ?_)
  refine go [3,15,2,2,7] ?_
  exact G.meet (()) trT (.consE rfl Y12 (.cons rfl (.cons rfl .nil))) subT
 intro _ hJ
 try dsimp only at hJ
 try dsimp only
 refine G.condP rfl (fun h30 => ?_) (fun h30 => ?_)
 ·have he : fitE c n k t (ens xs) = 5 := if_pos (by assumption)
  refine go [9,10,1,7,8,11,12] ?_
  exact G.done0G rfl (Rv.tmp rfl Rv.nil) (by rw [he]; rfl)
 have he : fitE c n k t (ens xs) = (if (checkT (ens xs)).1 = 0 then 0 else 2) := if_neg (by assumption)
 refine go [13,8,9,9,10,0] ?_
 refine G.op rfl (G.cR rfl rfl rfl rfl Try.func41 rfl rfl (may1 (.old hv)) (tcheck_tr _ _) ?_)
 refine go [0,2,7,2,7,1,1,7,8,9,10,0,2,14,7,8] ?_
 refine G.condP rfl (fun h37 => ?_) (fun h37 => ?_)
 ·refine go [9,10,1,7,8,11,12] ?_
  exact G.done0G rfl (Rv.tmp rfl Rv.nil) (by rw [he, if_neg (by assumption)]; rfl)
 refine go [13,8,9,10,1,7,8,11] ?_
 exact G.done0G rfl (Rv.tmp rfl Rv.nil) (by rw [he, if_pos (Decidable.of_not_not (by assumption))]; rfl)
set_option maxRecDepth 20000 in
set_option maxHeartbeats 4000000 in
theorem of_tr (Dm bm : Nat) (st : MS) (c : Int) (hc : I64 c) : Tr Try.prog 28 #[.pointer (some ⟨Dm, 0, none⟩), .int .i64 c] [] [blk Dm 40 [.map (some bm)], mpc vInt I64 bm (ptrs st), clis st] (TX (fun z : Cl => IsCl st c z) (fun z => .pointer (some ⟨z.b, 0, none⟩)) (fun z => [blk Dm 40 [.map (some bm)], mpc vInt I64 bm (ptrs st), clis (stDel st c), cliC z])) := by
 refine Tr.of (l := [(0, .pointer (some ⟨Dm, 0, none⟩)), (1, .int .i64 c)]) Try.func28 rfl (n := 17) rfl (.cons rfl (.cons rfl .nil)) (fun w0 hro => ?_)
 refine go [9,10,1,7,8,9,9,10,0,2,8,2,3,0,2,4,0] ?_
 refine G.op rfl (G.val rfl rfl ((pv_mapGet (f := vInt) (ok := I64) (x := c) (z := .pointer none) (xs := ptrs st) keyN Try.underlying38 (fun w => by kernel_rfl) rfl rfl hc (sel_map selT)).cast (v' := .pointer ((stGet st c).map fun z => ⟨z.b, 0, none⟩)) (by rw [ptrs_get]; cases stGet st c <;> rfl)) ?_)
 refine go [1,7,8,9,10,0] ?_
 refine G.op rfl (G.val rfl rfl (pv_neqP0 Try.underlying63 rfl rfl) ?_)
 refine go [7,8] ?_
 refine G.cond rfl (fun h13 => ?_) (fun h13 => ?_)
 ·obtain ⟨z, hz⟩ : ∃ z, stGet st c = some z := by cases h : stGet st c with | none => rw [h] at h13; cases h13 | some z => exact ⟨z, rfl⟩
  rw [hz]
  refine go [9,10,0,1,7,8,11,12] ?_
  refine G.cliOut hz selT ?_
  exact G.doneX1 (z) (by first | exact trivial | ((try dsimp only) <;> exact .inl hz)) rfl rfl rfl subT
 have hz : stGet st c = none := by cases h : stGet st c with | none => rfl | some z => rw [h] at h13; cases h13
 refine go [13,8,9,10] ?_
 refine G.op rfl (G.val rfl rfl (pv_buildSt (z := [.slice none 0 0, .int .i64 0]) (pl := [(0, 1), (1, 1)]) Try.underlying74 kr kr rfl flT) ?_)
 refine G.op rfl (G.box rfl rfl (cs := [_, _]) rfl ?_)
 intro b16
 refine go [1,7,8,11] ?_
 rw [show clis st = clis (stDel st c) from by rw [del_none hz]]
 refine G.ownNil 70 4 ?_
 refine G.treesNil ?_
 refine G.mkStar (p := cliP ⟨b16, .slice none 0 0, 0, []⟩) subT ?_
 rw [show star (cliP ⟨b16, .slice none 0 0, 0, []⟩) = cliC ⟨b16, .slice none 0 0, 0, []⟩ from rfl]
 exact G.doneX1 (⟨b16, .slice none 0 0, 0, []⟩) (by first | exact trivial | ((try dsimp only) <;> exact .inr ⟨hz, rfl, rfl, rfl⟩)) rfl rfl rfl subT
set_option maxRecDepth 20000 in
set_option maxHeartbeats 4000000 in
theorem mclone_tr {Ps : Nat → Prop} (v : Value) (xs : List ET) (hn : xs.length ≤ 1000) : Tr Try.prog 33 #[v] [slc rEV Ps v xs] [] (TX (fun z : Value × List ET => ens z.2 = ens xs) (fun z => z.1) (fun z => [ownT 89 z.1 z.2, datC 5 z.2])) := by
 refine Tr.of (l := [(0, v)]) Try.func33 rfl (n := 24) rfl (.cons rfl .nil) (fun w0 hro => ?_)
 have hv := ro1 hro
 have hv' := hv
 obtain ⟨av, cv, bv, fv, rfl, hcapv, hmaxv, hnilv, hadv, helv⟩ := Ro.openT hv
 refine go [9,10,1,7,8,9,10,0] ?_
 refine G.op rfl (G.cS rfl rfl rfl rfl Try.func48 rfl rfl subT (may1 Y0) (cloneE_tr _ _ (by omega)) apT ?_)
 intro x6 hJ
 try dsimp only at hJ
 try dsimp only
 refine G.ownOpen (v := x6) selT (fun a3 c3 h3 hk3 hm3 => ?_)
 subst h3
 refine go [1,7,8,9,9,10,0,2,5,0,7,8,15] ?_
 refine G.datNil 5 ?_
 refine G.loopK (X := Nat × (List ET)) (ts := [2, 3, 8]) (fun st => st.1 ≤ xs.length ∧ (ens st.2 = ens xs ∧ ∀ q (hq : q < st.2.length) (hx : q < xs.length), st.1 ≤ q → st.2[q] = xs[q])) (fun st => [(9, .int .i64 (st.1 : Int))]) (fun st => [ownT 89 (.slice a3 xs.length c3) st.2, datC 5 (st.2.take st.1)]) (fun st => xs.length - st.1) (x0 := (0, xs)) (.cons rfl (.cons rfl (.cons rfl .nil))) subT (.cons .nil) apT (by first | exact trivial | ((try dsimp only) <;> exact ⟨Nat.zero_le _, ⟨rfl, fun q _ _ _ => rfl⟩⟩)) (.consE rfl veqT .nil) (fun st hJ => ?_)
 obtain ⟨i, zs⟩ := st
 try dsimp only at hJ
 try dsimp only
 obtain ⟨hki, hJ⟩ := hJ
 obtain ⟨hez, hsame⟩ := hJ
 have hlz := len_ens hez
 refine go [9,10,2,9,7,8,9] ?_
 refine G.condP rfl (fun h10 => ?_) (fun h10 => ?_)
 ·have hlt : i < xs.length := by omega
  have hlt' : i < zs.length := by omega
  have hzx : zs[i] = xs[i] := hsame i hlt' hlt (Nat.le_refl _)
  have hEv := helv i hlt
  have hRv := Ro.evRng hEv
  have hDv := Ro.evDat hEv
  obtain ⟨hk1v, hk2v, hlpv, hldv, hltv⟩ := Ro.evOk hEv
  have hCv := Ro.one1 hDv
  refine go [13,8,9,15,9,10,0,1,7,8,10] ?_
  rw [show ownT 89 (.slice a3 xs.length c3) zs = own 89 5 (.slice a3 xs.length c3) zs.length (flatT zs) from rfl]
  refine G.ownTo selT (by omega) (fun g cap sp hvv hkc hmx hl hlen => ?_)
  injection hvv with e1 e2 e3
  subst e1
  subst e3
  refine go [0,0,0,0] ?_
  refine G.op rfl (G.val rfl rfl (pv_ixSl (sz := 5) (k := i) Try.underlying27 kr rfl rfl (fun _ => rfl) (by omega) (by omega)) ?_)
  refine go [2,3,3] ?_
  refine G.op rfl (G.val rfl rfl (pv_load (v := xs[i].2) Try.underlying87 rfl rfl (blk_cell selD (by rw [← hzx]; exact flat_dat hlt'))) ?_)
  refine G.op rfl (G.cS rfl rfl rfl rfl Try.func49 rfl rfl subT (may1 Y0) (cloneB_tr _ _ (by omega)) apT ?_)
  intro x19 hJ
  try dsimp only at hJ
  try dsimp only
  refine G.ownBFact selT (v := x19) (fun hv19 => ?_)
  refine G.op rfl (G.val rfl rfl (pv_ixSl (sz := 5) (k := i) Try.underlying27 kr rfl rfl (fun _ => rfl) (by omega) (by omega)) ?_)
  refine go [2,3,3] ?_
  refine G.op rfl (G.store kr rfl rfl (by assumption) selT (flat_len hlt' (by omega)) ?_)
  rw [flat_set hlt']
  refine go [7,16,8,10,2,6,0,7] ?_
  refine G.ownOf (sz := 5) (k := xs.length) (cs := flatT (zs.set i (zs[i].1, x19))) (sp := sp) selT (by rw [flatT_length, List.length_set, hlz]) (by omega) hmx (by rw [List.length_append, flatT_length, List.length_set]; rw [List.length_append, flatT_length] at hl; exact hl) ?_
  have hzt : zs.take i ++ [(zs[i].1, x19)] = (zs.set i (zs[i].1, x19)).take (i + 1) := (take_set_succ hlt' _).symm
  refine G.datSnoc (ys := zs.take i) (x := (zs[i].1, x19)) selT (by rw [show (zs[i].1, x19).1.data = xs[i].1.data from by rw [hzx]]; repeat (first | with_reducible exact Sel.here | exact Sel.here | apply Sel.there)) ?_
  rw [hzt]
  exact G.next ((i + 1, zs.set i (zs[i].1, x19))) (by first | exact trivial | ((try dsimp only) <;> exact ⟨by omega, ⟨by rw [ens_set hlt', hez], fun q hq hx hiq => by rw [List.getElem_set_ne (by omega)]; exact hsame q (by rw [List.length_set] at hq; exact hq) hx (by omega)⟩⟩)) (by (try dsimp only); omega) (.consE rfl veqT (.cons rfl (.cons rfl (.cons rfl .nil)))) (by show Sub _ [own 89 5 _ (zs.set i (zs[i].1, x19)).length (flatT _), _] _; rw [List.length_set, hlz]; repeat (first | exact Sub.nil | (apply Sub.cons; (repeat (first | with_reducible exact Sel.here | exact Sel.here | apply Sel.there)))))
 refine go [18,14,14,19,8,9,10,0,1,7,8,11] ?_
 obtain rfl : i = xs.length := by omega
 rw [show zs.take xs.length = zs from List.take_of_length_le (by omega)]
 exact G.doneX1 ((.slice a3 xs.length c3, zs)) (by first | exact trivial | ((try dsimp only) <;> exact hez)) rfl rfl rfl subT
end Go.Proofs.Ytakeannapfaodaa
