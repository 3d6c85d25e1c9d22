/- Contracts of layer 8: Drop. Conditions: the trees are of at most a thousand entries. -/
import Derived.Test.YtchgaedidfefoaaTJ
set_option linter.unusedVariables false
set_option linter.unusedSimpArgs false
namespace Go.Proofs.Ytchgaedidfefoaa
open Go.RowKit

/-- what comes of a tree when a path is dropped -/
def dropM (es : List En) (s : List UInt8) : List En × Int := if (checkT es).1 = 0 then (if isAt es s then (es.filter (keepB s), 0) else ([], 6)) else ([], (checkT es).1)
theorem drop_bad {es : List En} {s : List UInt8} (h : ¬ (checkT es).1 = 0) : dropM es s = ([], (checkT es).1) := if_neg h
theorem drop_no {es : List En} {s : List UInt8} (h : (checkT es).1 = 0) (h2 : ¬ isAt es s) : dropM es s = ([], 6) := by unfold dropM; rw [if_pos h, if_neg h2]
theorem drop_at {es : List En} {s : List UInt8} (h : (checkT es).1 = 0) (h2 : isAt es s) : dropM es s = (es.filter (keepB s), 0) := by unfold dropM; rw [if_pos h, if_pos h2]
theorem ens_filter (xs : List ET) (s : List UInt8) : ens (xs.filter (keepX s)) = (ens xs).filter (keepB s) := by
  unfold ens
  rw [List.filter_map]
  rfl
theorem Ro.allEO {P : Program} {w0 : World} {S : Nat → Prop} {b o : Nat} {Ps : Nat → Prop} {xs : List ET} (hel : ∀ i (hi : i < xs.length), Ro w0 S (elc rEV Ps b (o + i * 5) xs[i])) : ∀ x ∈ xs, EnOk x.1 ∧ x.2.oneCell' = true := fun x hx => ⟨Ro.allOk hel x hx, by
  obtain ⟨ad, cap, e⟩ := Ro.slv (Ro.allDat hel x hx)
  rw [e]
  rfl⟩
set_option maxRecDepth 20000 in
set_option maxHeartbeats 4000000 in

theorem drop_tr {Ps : Nat → Prop} (v : Value) (xs : List ET) (s : List UInt8) (hs : s.length ≤ 9223372036854775807) : Tr Try.prog 32 #[v, .string (sB s)] [slc rEV Ps v xs] []
    (TX (fun z : Value × List ET => ens z.2 = (dropM (ens xs) s).1) (fun z => .tuple #[z.1, .int .i64 (dropM (ens xs) s).2]) (fun z => [ownT 31 z.1 z.2, datC 5 z.2])) := by
  refine Tr.of (l := [(0, v), (1, .string (sB s))]) Try.func32 rfl (n := 33) rfl (.cons rfl (.cons rfl .nil)) (fun w0 hro => ?_)
  have hv := ro1 hro
  have hv' := hv
  obtain ⟨av, cv, bv, fv, rfl, hcapv, hmaxv, hnilv, hadv, helv⟩ := Ro.openT hv
  have hel' := ens_length xs
  have hdb := drop_bad (es := ens xs) (s := s)
  refine G.seq ?_
  refine G.region ?_
  refine G.op rfl (G.box rfl rfl (cs := [_]) rfl ?_)
  intro b3
  refine G.op rfl (G.val rfl rfl (pv_assign rfl) ?_)
  refine G.op rfl (G.val rfl rfl (pv_assign rfl) ?_)
  refine G.nil ?_
  refine G.nThen ?_
  refine G.seq ?_
  refine G.seq ?_
  refine G.region ?_
  refine G.op rfl (G.val rfl rfl (pv_move rfl) ?_)
  refine G.op rfl (G.cR rfl rfl rfl rfl Try.func11 rfl rfl (may1 (by first | (apply May.old; first | with_reducible assumption | assumption) | (apply Sel.may; (repeat (first | with_reducible exact Sel.here | exact Sel.here | apply Sel.there)); done) | (apply may_own; (repeat (first | with_reducible exact Sel.here | exact Sel.here | apply Sel.there)); exact rfl; exact (fun _ _ => trivial); done) | (apply may_ownB; (repeat (first | with_reducible exact Sel.here | exact Sel.here | apply Sel.there)); done) | (apply may_tree; (repeat (first | with_reducible exact Sel.here | exact Sel.here | apply Sel.there)); (repeat (first | with_reducible exact Sel.here | exact Sel.here | apply Sel.there)); assumption; done))) (tcheck_tr _ _) ?_)
  refine G.op rfl (G.val rfl rfl (pv_move rfl) ?_)
  refine G.op rfl (G.val rfl rfl (pv_extract rfl rfl) ?_)
  refine G.op rfl (G.val rfl rfl (pv_extract rfl rfl) ?_)
  refine G.op rfl (G.val rfl rfl (pv_assign rfl) ?_)
  refine G.op rfl (G.val rfl rfl (pv_assign rfl) ?_)
  refine G.nil ?_
  refine G.nThen ?_
  refine G.seq ?_
  refine G.region ?_
  refine G.op rfl (G.val rfl rfl (pv_move rfl) ?_)
  refine G.op rfl (G.val rfl rfl (pv_neq rfl rfl) ?_)
  refine G.nil ?_
  refine G.nThen ?_
  refine G.condP rfl (fun h17 => ?_) (fun h17 => ?_)
  · refine G.seq ?_
    refine G.region ?_
    refine G.op rfl (G.val rfl rfl (pv_move rfl) ?_)
    refine G.op rfl (G.val rfl rfl (pv_assign rfl) ?_)
    refine G.op rfl (G.val rfl rfl (pv_assign rfl) ?_)
    refine G.nil ?_
    refine G.nThen ?_
    refine G.ret ?_
    refine G.rThen ?_
    refine G.datNil 5 ?_
    refine G.ownNil 31 5 ?_
    exact G.doneX2 ((.slice none 0 0, [])) (by first | exact trivial | ((try dsimp only); exact (by rw [hdb (by assumption)]; rfl))) rfl rfl rfl (by rw [hdb (by assumption)]; first | done | rfl) (by repeat (first | exact Sub.nil | (apply Sub.cons; (repeat (first | with_reducible exact Sel.here | exact Sel.here | apply Sel.there)))))
  · have h0 : (checkT (ens xs)).1 = 0 := Decidable.of_not_not (by assumption)
    obtain ⟨hz1, hz2, hz3⟩ := checkT_zero h0
    have hso := sort_all hz2
    have hdn := drop_no (s := s) h0
    have hda := drop_at (s := s) h0
    refine G.skip ?_
    refine G.nThen ?_
    refine G.seq ?_
    refine G.seq ?_
    refine G.region ?_
    refine G.op rfl (G.val rfl rfl (pv_move rfl) ?_)
    refine G.op rfl (G.val rfl rfl (pv_load Try.underlying9 rfl rfl (by first | exact blk_cell (by (repeat (first | with_reducible exact Sel.here | exact Sel.here | apply Sel.there)); done) (by rfl) | exact rng_cell (by (repeat (first | with_reducible exact Sel.here | exact Sel.here | apply Sel.there)); done) (by rfl) | exact ro_blk (by assumption) (by rfl) | exact ro_rngC (by assumption) (by rfl) | exact ro_int (by assumption) | exact ro_byte (by assumption) | exact ro_str (by assumption) | with_reducible assumption | assumption)) ?_)
    refine G.op rfl (G.cR rfl rfl rfl rfl Try.func40 rfl rfl (may1 (by first | (apply May.old; first | with_reducible assumption | assumption) | (apply Sel.may; (repeat (first | with_reducible exact Sel.here | exact Sel.here | apply Sel.there)); done) | (apply may_own; (repeat (first | with_reducible exact Sel.here | exact Sel.here | apply Sel.there)); exact rfl; exact (fun _ _ => trivial); done) | (apply may_ownB; (repeat (first | with_reducible exact Sel.here | exact Sel.here | apply Sel.there)); done) | (apply may_tree; (repeat (first | with_reducible exact Sel.here | exact Sel.here | apply Sel.there)); (repeat (first | with_reducible exact Sel.here | exact Sel.here | apply Sel.there)); assumption; done))) (place_tr _ xs _ (by omega) hso hs) ?_)
    refine G.op rfl (G.val rfl rfl (pv_move rfl) ?_)
    refine G.op rfl (G.val rfl rfl (pv_extract rfl rfl) ?_)
    refine G.op rfl (G.val rfl rfl (pv_extract rfl rfl) ?_)
    refine G.op rfl (G.val rfl rfl (pv_assign rfl) ?_)
    refine G.op rfl (G.val rfl rfl (pv_assign rfl) ?_)
    refine G.nil ?_
    refine G.nThen ?_
    refine G.seq ?_
    refine G.region ?_
    refine G.op rfl (G.val rfl rfl (pv_move rfl) ?_)
    refine G.op rfl (G.val rfl rfl (pv_notP rfl) ?_)
    refine G.nil ?_
    refine G.nThen ?_
    refine G.condP rfl (fun h26 => ?_) (fun h26 => ?_)
    · refine G.seq ?_
      refine G.region ?_
      refine G.op rfl (G.val rfl rfl (pv_assign rfl) ?_)
      refine G.op rfl (G.val rfl rfl (pv_assign rfl) ?_)
      refine G.nil ?_
      refine G.nThen ?_
      refine G.ret ?_
      refine G.rThen ?_
      refine G.datNil 5 ?_
      refine G.ownNil 31 5 ?_
      exact G.doneX2 ((.slice none 0 0, [])) (by first | exact trivial | ((try dsimp only); exact (by rw [hdn (by assumption)]; rfl))) rfl rfl rfl (by rw [hdn (by assumption)]; first | done | rfl) (by repeat (first | exact Sub.nil | (apply Sub.cons; (repeat (first | with_reducible exact Sel.here | exact Sel.here | apply Sel.there)))))
    · have hat : isAt (ens xs) s := Decidable.of_not_not (by assumption)
      have hpos : 0 < xs.length := by obtain ⟨e, he, -⟩ := hat; have := List.length_pos_of_mem he; omega
      refine G.skip ?_
      refine G.nThen ?_
      refine G.seq ?_
      refine G.region ?_
      refine G.op rfl (G.val rfl rfl (pv_move rfl) ?_)
      refine G.op rfl (G.cS rfl rfl rfl rfl Try.func55 rfl rfl (by repeat (first | exact Sub.nil | (apply Sub.cons; (repeat (first | with_reducible exact Sel.here | exact Sel.here | apply Sel.there))))) (may1 (by first | (apply May.old; first | with_reducible assumption | assumption) | (apply Sel.may; (repeat (first | with_reducible exact Sel.here | exact Sel.here | apply Sel.there)); done) | (apply may_own; (repeat (first | with_reducible exact Sel.here | exact Sel.here | apply Sel.there)); exact rfl; exact (fun _ _ => trivial); done) | (apply may_ownB; (repeat (first | with_reducible exact Sel.here | exact Sel.here | apply Sel.there)); done) | (apply may_tree; (repeat (first | with_reducible exact Sel.here | exact Sel.here | apply Sel.there)); (repeat (first | with_reducible exact Sel.here | exact Sel.here | apply Sel.there)); assumption; done))) (cloneE_tr _ _ (by omega)) (by repeat (first | exact Ap.nil | apply Ap.cons)) ?_)
      intro x28 hJ
      try dsimp only at hJ
      try dsimp only
      rw [show ownT 31 x28 xs = own 31 5 x28 xs.length (flatT xs) from rfl]
      refine G.ownTo (v := x28) (by repeat (first | with_reducible exact Sel.here | exact Sel.here | apply Sel.there)) hpos (fun g cap sp hvv hkc hmx hl hlen => ?_)
      subst hvv
      refine G.op rfl (G.val rfl rfl (pv_makeFunc rfl rfl) ?_)
      refine G.op rfl (G.cS rfl rfl rfl rfl Try.func57 rfl rfl (by repeat (first | exact Sub.nil | (apply Sub.cons; (repeat (first | with_reducible exact Sel.here | exact Sel.here | apply Sel.there))))) (may1 (by first | (apply May.old; first | with_reducible assumption | assumption) | (apply Sel.may; (repeat (first | with_reducible exact Sel.here | exact Sel.here | apply Sel.there)); done) | (apply may_own; (repeat (first | with_reducible exact Sel.here | exact Sel.here | apply Sel.there)); exact rfl; exact (fun _ _ => trivial); done) | (apply may_ownB; (repeat (first | with_reducible exact Sel.here | exact Sel.here | apply Sel.there)); done) | (apply may_tree; (repeat (first | with_reducible exact Sel.here | exact Sel.here | apply Sel.there)); (repeat (first | with_reducible exact Sel.here | exact Sel.here | apply Sel.there)); assumption; done))) (delete_tr g cap b3 sp xs s hs (by omega) hkc hmx (Ro.allEO (P := Try.prog) helv)) (by repeat (first | exact Ap.nil | apply Ap.cons)) ?_)
      intro x30 hJ
      obtain ⟨ys, sp2⟩ := x30
      try dsimp only at hJ
      try dsimp only
      obtain ⟨rfl, hfl⟩ := hJ
      have hfle := List.length_filter_le (keepX s) xs
      refine G.ownOf (sz := 5) (k := (xs.filter (keepX s)).length) (cs := flatT (xs.filter (keepX s))) (sp := sp2) (cap := cap) (by repeat (first | with_reducible exact Sel.here | exact Sel.here | apply Sel.there)) (flatT_length _) (by omega) hmx (by rw [hfl]; exact hl) ?_
      refine G.op rfl (G.val rfl rfl (pv_assign rfl) ?_)
      refine G.nil ?_
      refine G.nThen ?_
      refine G.seq ?_
      refine G.region ?_
      refine G.op rfl (G.val rfl rfl (pv_move rfl) ?_)
      rw [show own 31 5 (.slice (some ⟨g, 0, none⟩) (xs.filter (keepX s)).length cap) (xs.filter (keepX s)).length (flatT (xs.filter (keepX s))) = ownT 31 (.slice (some ⟨g, 0, none⟩) (xs.filter (keepX s)).length cap) (xs.filter (keepX s)) from rfl]
      refine G.op rfl (G.cS rfl rfl rfl rfl Try.func41 rfl rfl (by repeat (first | exact Sub.nil | (apply Sub.cons; (repeat (first | with_reducible exact Sel.here | exact Sel.here | apply Sel.there))))) (may1 (may_treeR (by repeat (first | with_reducible exact Sel.here | exact Sel.here | apply Sel.there)) (fun x hx => Ro.allOk helv x (List.mem_filter.1 hx).1) hv'.2 (fun x hx => Ro.allDat helv x (List.mem_filter.1 hx).1))) (clone_tr _ (xs.filter (keepX s)) (by omega)) (by repeat (first | exact Ap.nil | apply Ap.cons)) ?_)
      intro x32 hJ
      obtain ⟨v', zs⟩ := x32
      try dsimp only at hJ
      try dsimp only
      refine G.op rfl (G.val rfl rfl (pv_assign rfl) ?_)
      refine G.op rfl (G.val rfl rfl (pv_assign rfl) ?_)
      refine G.nil ?_
      refine G.nThen ?_
      refine G.ret ?_
      exact G.doneX2 ((v', zs)) (by first | exact trivial | ((try dsimp only); exact (by rw [hda hat, hJ, ens_filter]))) rfl rfl rfl (by rw [hda hat]) (by repeat (first | exact Sub.nil | (apply Sub.cons; (repeat (first | with_reducible exact Sel.here | exact Sel.here | apply Sel.there)))))
end Go.Proofs.Ytchgaedidfefoaa
