/- Contracts of layer 8: entries that are taken out of a tree. Conditions: the trees are of at most a thousand entries. -/
import Derived.Test.YtchgaedidfefoaaTI
import Derived.Test.YtchgaedidfefoaaWU
set_option linter.unusedVariables false
set_option linter.unusedSimpArgs false
namespace Go.Proofs.Ytchgaedidfefoaa
open Go.RowKit

theorem flat_put {ws : List ET} {sp : List Value} {i : Nat} (h : i < ws.length) (x : ET) : putN (flatT ws ++ sp) (0 + i * 5) (evC x) = flatT (ws.set i x) ++ sp := by
  have hl : (flatT (ws.set i x)).length = ws.length * 5 := by rw [flatT_length, List.length_set]
  have hl2 : (flatT ws).length = ws.length * 5 := flatT_length ws
  apply List.ext_getElem?
  intro j
  rw [putN_get _ _ _ _ (by rw [evC_length, List.length_append, hl2]; omega), evC_length]
  rcases Nat.lt_or_ge j (ws.length * 5) with hj | hj
  · obtain ⟨q, r, rfl, hr, hq⟩ : ∃ q r, j = q * 5 + r ∧ r < 5 ∧ q < ws.length := ⟨j / 5, j % 5, by omega, by omega, by omega⟩
    rw [List.getElem?_append_left (by rw [hl2]; omega), flatT_get hq hr, List.getElem?_append_left (by rw [hl]; omega), flatT_get (by rw [List.length_set]; exact hq) hr]
    by_cases hiq : i = q
    · subst hiq
      rw [List.getElem_set_self, if_pos ⟨by omega, by omega⟩, show i * 5 + r - (0 + i * 5) = r by omega]
    · rw [List.getElem_set_ne hiq, if_neg (by omega)]
  · rw [if_neg (by omega), List.getElem?_append_right (by rw [hl2]; omega), List.getElem?_append_right (by rw [hl]; omega), hl, hl2]
theorem flat_take {ws : List ET} {sp : List Value} {i : Nat} (h : i ≤ ws.length) : (flatT ws ++ sp).take (0 + i * 5) = flatT (ws.take i) := by
  rw [show flatT ws = flatT (ws.take i) ++ flatT (ws.drop i) from by rw [← flatT_app, List.take_append_drop], List.append_assoc]
  exact List.take_left' (by rw [flatT_length, List.length_take]; omega)
/-- is an entry gone, with a path's? -/
def goneP (s : List UInt8) (e : En) : Prop := e.path = s ∨ underM e.path s
instance (s : List UInt8) (e : En) : Decidable (goneP s e) := inferInstanceAs (Decidable (_ ∨ _))
def keepB (s : List UInt8) (e : En) : Bool := ! decide (goneP s e)
def idxG (s : List UInt8) (es : List En) : Nat := es.findIdx fun e => decide (goneP s e)
theorem idx_at {s : List UInt8} {es : List En} {i : Nat} (hi : i < es.length) (h : ∀ q (hq : q < es.length), q < i → ¬ goneP s es[q]) (hg : goneP s es[i]) : idxG s es = i := by
  refine (List.findIdx_eq hi).2 ⟨by simpa using hg, fun j hj => ?_⟩
  simpa using h j (by omega) hj
theorem idx_no {s : List UInt8} {es : List En} (h : ∀ q (hq : q < es.length), ¬ goneP s es[q]) : idxG s es = es.length := List.findIdx_eq_length_of_false fun x hx => by
  obtain ⟨j, hj, rfl⟩ := List.getElem_of_mem hx
  simpa using h j hj
def keepX (s : List UInt8) (x : ET) : Bool := keepB s x.1
theorem idx_spec {s : List UInt8} {xs : List ET} {i : Nat} (h : idxG s (ens xs) = i) (hi : i < xs.length) : (xs.take (i + 1)).filter (keepX s) = xs.take i := by
  have hl := ens_length xs
  have h1 : ∀ q (hq : q < xs.length), q < i → keepX s xs[q] = true := fun q hq hqi => by
    have := List.not_of_lt_findIdx (p := fun e => decide (goneP s e)) (xs := ens xs) (i := q) (by unfold idxG at h; omega)
    rw [ens_get hq] at this
    simpa [keepX, keepB] using this
  have h2 : keepX s xs[i] = false := by
    have := List.findIdx_getElem (p := fun e => decide (goneP s e)) (xs := ens xs) (w := by unfold idxG at h; omega)
    unfold idxG at h
    simp only [h] at this
    rw [ens_get hi] at this
    simpa [keepX, keepB] using this
  rw [List.take_succ_eq_append_getElem hi, List.filter_append, List.filter_eq_self.2 (fun x hx => by
    obtain ⟨q, hq, rfl⟩ := List.getElem_of_mem hx
    rw [List.getElem_take]
    rw [List.length_take] at hq
    exact h1 q (by omega) (by omega))]
  simp [h2]
theorem idx_all {s : List UInt8} {xs : List ET} (h : idxG s (ens xs) = xs.length) : xs.filter (keepX s) = xs := List.filter_eq_self.2 fun x hx => by
  obtain ⟨q, hq, rfl⟩ := List.getElem_of_mem hx
  have := List.not_of_lt_findIdx (p := fun e => decide (goneP s e)) (xs := ens xs) (i := q) (by unfold idxG at h; omega)
  rw [ens_get hq] at this
  simpa [keepX, keepB] using this
theorem idx_le (s : List UInt8) (xs : List ET) : idxG s (ens xs) ≤ xs.length := by
  have := List.findIdx_le_length (p := fun e => decide (goneP s e)) (xs := ens xs)
  rw [ens_length] at this
  exact this
theorem filt_one {s : List UInt8} {xs : List ET} {j : Nat} (h : j < xs.length) (k : ¬ goneP s xs[j].1) : (xs.take (j + 1)).filter (keepX s) = (xs.take j).filter (keepX s) ++ [xs[j]] := by
  rw [List.take_succ_eq_append_getElem h, List.filter_append]
  simp [keepX, keepB, k]
theorem filt_no {s : List UInt8} {xs : List ET} {j : Nat} (h : j < xs.length) (k : goneP s xs[j].1) : (xs.take (j + 1)).filter (keepX s) = (xs.take j).filter (keepX s) := by
  rw [List.take_succ_eq_append_getElem h, List.filter_append]
  simp [keepX, keepB, k]
set_option maxRecDepth 20000 in
set_option maxHeartbeats 4000000 in

theorem drop1_tr (c : Nat) (e : En) (d : Value) (s : List UInt8) (hd : d.oneCell' = true) (hl : e.path.length ≤ 9223372036854775807) (hs : s.length ≤ 9223372036854775807) : Tr Try.prog 58 #[.agg #[.string (sB e.path), .int .i64 e.kind, .int .i64 e.mode, d, .string (sB e.to)], .pointer (some ⟨c, 0, none⟩)] [blk c 9 [.string (sB s)]] [] (T0 (.bool (decide (goneP s e)))) := by
  refine Tr.of (l := [(0, .agg #[.string (sB e.path), .int .i64 e.kind, .int .i64 e.mode, d, .string (sB e.to)]), (1, .pointer (some ⟨c, 0, none⟩))]) Try.func58 rfl (n := 14) rfl (.cons rfl (.cons rfl .nil)) (fun w0 hro => ?_)
  have hb := ro1 hro
  refine G.seq ?_
  refine G.region ?_
  refine G.op rfl (G.box rfl rfl (cs := [_, _, _, _, _]) rfl ?_)
  intro b2
  refine G.op rfl (G.val rfl rfl (pv_assign rfl) ?_)
  refine G.nil ?_
  refine G.nThen ?_
  refine G.seq ?_
  refine G.region ?_
  refine G.op rfl (G.val rfl rfl (pv_fieldAddrK (sz := 0) (k := 0) Try.underlying31 rfl (by kernel_rfl) rfl rfl) ?_)
  refine G.op rfl (G.val rfl rfl (pv_load Try.underlying9 rfl rfl (by first | exact blk_cell (by (repeat (first | with_reducible exact Sel.here | exact Sel.here | apply Sel.there)); done) (by rfl) | exact rng_cell (by (repeat (first | with_reducible exact Sel.here | exact Sel.here | apply Sel.there)); done) (by rfl) | exact ro_blk (by assumption) (by rfl) | exact ro_rngC (by assumption) (by rfl) | exact ro_int (by assumption) | exact ro_byte (by assumption) | exact ro_str (by assumption) | with_reducible assumption | assumption)) ?_)
  refine G.op rfl (G.val rfl rfl (pv_load Try.underlying9 rfl rfl (by first | exact blk_cell (by (repeat (first | with_reducible exact Sel.here | exact Sel.here | apply Sel.there)); done) (by rfl) | exact rng_cell (by (repeat (first | with_reducible exact Sel.here | exact Sel.here | apply Sel.there)); done) (by rfl) | exact ro_blk (by assumption) (by rfl) | exact ro_rngC (by assumption) (by rfl) | exact ro_int (by assumption) | exact ro_byte (by assumption) | exact ro_str (by assumption) | with_reducible assumption | assumption)) ?_)
  refine G.op rfl (G.val rfl rfl (pv_eqlS rfl rfl) ?_)
  refine G.op rfl (G.val rfl rfl (pv_move rfl) ?_)
  refine G.partP (t := 8) rfl (fun h8 => ?_) (fun h8 => ?_)
  · refine G.pass rfl rfl rfl rfl rfl rfl ?_
    refine G.pass rfl rfl rfl rfl rfl rfl ?_
    refine G.pass rfl rfl rfl rfl rfl rfl ?_
    refine G.pass rfl rfl rfl rfl rfl rfl ?_
    refine G.op rfl (G.val rfl rfl (pv_pick rfl rfl) ?_)
    refine G.op rfl (G.val rfl rfl (pv_assign rfl) ?_)
    refine G.nil ?_
    refine G.nThen ?_
    refine G.ret ?_
    exact G.done0G rfl (Rv.tmp rfl Rv.nil) (by simp_all [retV1, goneP])
  · refine G.want rfl rfl rfl (G.val rfl rfl (pv_fieldAddrK (sz := 0) (k := 0) Try.underlying31 rfl (by kernel_rfl) rfl rfl) ?_)
    refine G.want rfl rfl rfl (G.val rfl rfl (pv_load Try.underlying9 rfl rfl (by first | exact blk_cell (by (repeat (first | with_reducible exact Sel.here | exact Sel.here | apply Sel.there)); done) (by rfl) | exact rng_cell (by (repeat (first | with_reducible exact Sel.here | exact Sel.here | apply Sel.there)); done) (by rfl) | exact ro_blk (by assumption) (by rfl) | exact ro_rngC (by assumption) (by rfl) | exact ro_int (by assumption) | exact ro_byte (by assumption) | exact ro_str (by assumption) | with_reducible assumption | assumption)) ?_)
    refine G.want rfl rfl rfl (G.val rfl rfl (pv_load Try.underlying9 rfl rfl (by first | exact blk_cell (by (repeat (first | with_reducible exact Sel.here | exact Sel.here | apply Sel.there)); done) (by rfl) | exact rng_cell (by (repeat (first | with_reducible exact Sel.here | exact Sel.here | apply Sel.there)); done) (by rfl) | exact ro_blk (by assumption) (by rfl) | exact ro_rngC (by assumption) (by rfl) | exact ro_int (by assumption) | exact ro_byte (by assumption) | exact ro_str (by assumption) | with_reducible assumption | assumption)) ?_)
    refine G.want rfl rfl rfl (G.cR rfl rfl rfl rfl Try.func37 rfl rfl may0 (under_tr _ _ (by omega) (by omega)) ?_)
    refine G.op rfl (G.val rfl rfl (pv_pick rfl rfl) ?_)
    refine G.op rfl (G.val rfl rfl (pv_assign rfl) ?_)
    refine G.nil ?_
    refine G.nThen ?_
    refine G.ret ?_
    exact G.done0G rfl (Rv.tmp rfl Rv.nil) (by simp_all [retV1, goneP])
set_option maxRecDepth 20000 in
set_option maxHeartbeats 4000000 in

theorem indexF_tr (g cap c : Nat) (sp : List Value) (xs : List ET) (s : List UInt8) (hs : s.length ≤ 9223372036854775807) (hn : xs.length ≤ 1000) (hk : xs.length ≤ cap) (hm : cap ≤ 9223372036854775807) (hok : ∀ x ∈ xs, EnOk x.1 ∧ x.2.oneCell' = true) : Tr Try.prog 75 #[.slice (some ⟨g, 0, none⟩) xs.length cap, .func (.func 58) #[] #[.pointer (some ⟨c, 0, none⟩)]] [blk g 31 (flatT xs ++ sp), blk c 9 [.string (sB s)]] [] (T0 (.int .i64 (if idxG s (ens xs) = xs.length then -1 else (idxG s (ens xs) : Int)))) := by
  refine Tr.of (l := [(0, .slice (some ⟨g, 0, none⟩) xs.length cap), (1, .func (.func 58) #[] #[.pointer (some ⟨c, 0, none⟩)])]) Try.func75 rfl (n := 19) rfl (.cons rfl (.cons rfl .nil)) (fun w0 hro => ?_)
  obtain ⟨hbg, hbc⟩ := ro2 hro
  have hel' := ens_length xs
  refine G.seq ?_
  refine G.region ?_
  refine G.op rfl (G.val rfl rfl (pv_assign rfl) ?_)
  refine G.nil ?_
  refine G.nThen ?_
  refine G.seq ?_
  refine G.seq ?_
  refine G.region ?_
  refine G.op rfl (G.val rfl rfl (pv_move rfl) ?_)
  refine G.op rfl (G.val rfl rfl (pv_lenSl Try.underlying22 rfl) ?_)
  refine G.op rfl (G.val rfl rfl (pv_move rfl) ?_)
  refine G.nil ?_
  refine G.nThen ?_
  refine G.block ?_
  refine G.loopK (X := Nat) (ts := [0, 1, 7]) (fun i => i ≤ xs.length ∧ (∀ q (hq : q < xs.length), q < i → ¬ goneP s xs[q].1)) (fun i => [(8, .int .i64 (i : Int))]) (fun i => []) (fun i => xs.length - i) (x0 := 0) (.cons rfl (.cons rfl (.cons rfl .nil))) (by repeat (first | exact Sub.nil | (apply Sub.cons; (repeat (first | with_reducible exact Sel.here | exact Sel.here | apply Sel.there))))) (.cons .nil) (by repeat (first | exact Ap.nil | apply Ap.cons)) (by first | exact trivial | ((try dsimp only); exact ⟨Nat.zero_le _, fun q _ h => absurd h (by omega)⟩)) (.consE rfl (by first | rfl | exact int_eq (by first | omega | (dsimp only; omega)) | exact congrArg _ (by omega)) .nil) (fun i hJ => ?_)
  try dsimp only at hJ
  try dsimp only
  obtain ⟨hki, hJ⟩ := hJ
  have hJ0 := hJ
  refine G.seq ?_
  refine G.region ?_
  refine G.op rfl (G.val rfl rfl (pv_lss rfl rfl) ?_)
  refine G.nil ?_
  refine G.nThen ?_
  refine G.seq ?_
  refine G.condP rfl (fun h9 => ?_) (fun h9 => ?_)
  · have hlt : i < xs.length := by omega
    obtain ⟨⟨hk1, hk2, hlp, hld, hlt2⟩, hone⟩ := hok _ (List.getElem_mem hlt)
    refine G.skip ?_
    refine G.nThen ?_
    refine G.seq ?_
    refine G.block ?_
    refine G.seq ?_
    refine G.region ?_
    refine G.op rfl (G.val rfl rfl (pv_move rfl) ?_)
    refine G.op rfl (G.val rfl rfl (pv_assign rfl) ?_)
    refine G.nil ?_
    refine G.nThen ?_
    refine G.seq ?_
    refine G.region ?_
    refine G.op rfl (G.val rfl rfl (pv_move rfl) ?_)
    refine G.op rfl (G.val rfl rfl (pv_move rfl) ?_)
    refine G.op rfl (G.val rfl rfl (pv_move rfl) ?_)
    refine G.op rfl (G.val rfl rfl (pv_ixSl (sz := 5) Try.underlying22 (by kernel_rfl) rfl rfl (by first | with_reducible assumption | assumption | exact fun _ => rfl) rfl (by omega)) ?_)
    refine G.op rfl (G.val rfl rfl (pv_loadN (cs := [.string (sB xs[i].1.path), .int .i64 xs[i].1.kind, .int .i64 xs[i].1.mode, xs[i].2, .string (sB xs[i].1.to)]) Try.underlying31 rfl (by kernel_rfl) rfl (ro_range (k := 5) (by assumption) (flat_row (by omega)))) ?_)
    refine G.op rfl (G.cRv rfl rfl rfl rfl rfl Try.func58 rfl rfl (by rfl) (may1 (by first | (apply May.old; first | with_reducible assumption | assumption) | (apply Sel.may; (repeat (first | with_reducible exact Sel.here | exact Sel.here | apply Sel.there)); done) | (apply may_own; (repeat (first | with_reducible exact Sel.here | exact Sel.here | apply Sel.there)); exact rfl; exact (fun _ _ => trivial); done) | (apply may_ownB; (repeat (first | with_reducible exact Sel.here | exact Sel.here | apply Sel.there)); done) | (apply may_tree; (repeat (first | with_reducible exact Sel.here | exact Sel.here | apply Sel.there)); (repeat (first | with_reducible exact Sel.here | exact Sel.here | apply Sel.there)); assumption; done))) (drop1_tr c xs[i].1 _ s hone (by omega) hs) ?_)
    refine G.nil ?_
    refine G.nThen ?_
    refine G.condP rfl (fun h16 => ?_) (fun h16 => ?_)
    · have hg : goneP s xs[i].1 := by assumption
      refine G.seq ?_
      refine G.region ?_
      refine G.op rfl (G.val rfl rfl (pv_move rfl) ?_)
      refine G.op rfl (G.val rfl rfl (pv_assign rfl) ?_)
      refine G.nil ?_
      refine G.nThen ?_
      refine G.ret ?_
      refine G.rBlock ?_
      refine G.rThen ?_
      refine G.rThen ?_
      refine G.rBlock ?_
      refine G.rThen ?_
      exact G.done0G rfl (Rv.tmp rfl Rv.nil) (by rw [idx_at (s := s) (es := ens xs) (i := i) (by omega) (fun q hq hqi => by rw [ens_get (by omega)]; exact hJ0 q (by omega) hqi) (by rw [ens_get hlt]; exact hg), if_neg (by omega)]; rfl)
    · have hng : ¬ goneP s xs[i].1 := by assumption
      refine G.skip ?_
      refine G.nBlock ?_
      refine G.nThen ?_
      refine G.region ?_
      refine G.op rfl (G.val rfl rfl (pv_add64 rfl rfl (by omega)) ?_)
      refine G.op rfl (G.val rfl rfl (pv_move rfl) ?_)
      refine G.nil ?_
      exact G.next (i + 1) (by first | exact trivial | ((try dsimp only); exact ⟨by omega, fun q hq hqi => by rcases Nat.lt_or_ge q i with h1 | h1; exact hJ0 q hq h1; obtain rfl : q = i := (by omega); exact hng⟩)) (by (try dsimp only); omega) (.consE rfl (by first | rfl | exact int_eq (by first | omega | (dsimp only; omega)) | exact congrArg _ (by omega)) (.cons rfl (.cons rfl (.cons rfl .nil)))) (by repeat (first | exact Sub.nil | (apply Sub.cons; (repeat (first | with_reducible exact Sel.here | exact Sel.here | apply Sel.there)))))
  · refine G.exit ?_
    refine G.eThen ?_
    refine G.eThen ?_
    refine G.eBlock ?_
    refine G.nThen ?_
    refine G.seq ?_
    refine G.region ?_
    refine G.op rfl (G.val rfl rfl (pv_assign rfl) ?_)
    refine G.nil ?_
    refine G.nThen ?_
    refine G.ret ?_
    exact G.done0G rfl (Rv.tmp rfl Rv.nil) (by rw [idx_no (s := s) (es := ens xs) (fun q hq => by rw [ens_get (by omega)]; exact hJ q (by omega) (by omega)), if_pos (by omega)]; rfl)
set_option maxRecDepth 20000 in
set_option maxHeartbeats 4000000 in

theorem delete_tr (g cap c : Nat) (sp : List Value) (xs : List ET) (s : List UInt8) (hs : s.length ≤ 9223372036854775807) (hn : xs.length ≤ 1000) (hk : xs.length ≤ cap) (hm : cap ≤ 9223372036854775807) (hok : ∀ x ∈ xs, EnOk x.1 ∧ x.2.oneCell' = true) : Tr Try.prog 57 #[.slice (some ⟨g, 0, none⟩) xs.length cap, .func (.func 58) #[] #[.pointer (some ⟨c, 0, none⟩)]] [blk c 9 [.string (sB s)]] [blk g 31 (flatT xs ++ sp)] (TX (fun z : List ET × List Value => z.1 = xs.filter (keepX s) ∧ (flatT z.1 ++ z.2).length = (flatT xs ++ sp).length) (fun z => .slice (some ⟨g, 0, none⟩) z.1.length cap) (fun z => [blk g 31 (flatT z.1 ++ z.2)])) := by
  refine Tr.of (l := [(0, .slice (some ⟨g, 0, none⟩) xs.length cap), (1, .func (.func 58) #[] #[.pointer (some ⟨c, 0, none⟩)])]) Try.func57 rfl (n := 42) rfl (.cons rfl (.cons rfl .nil)) (fun w0 hro => ?_)
  have hbc := ro1 hro
  have hel' := ens_length xs
  have hix := idx_le s xs
  have hia := idx_all (s := s) (xs := xs)
  refine G.seq ?_
  refine G.region ?_
  refine G.op rfl (G.val rfl rfl (pv_assign rfl) ?_)
  refine G.nil ?_
  refine G.nThen ?_
  refine G.seq ?_
  refine G.region ?_
  refine G.op rfl (G.val rfl rfl (pv_move rfl) ?_)
  refine G.op rfl (G.val rfl rfl (pv_move rfl) ?_)
  refine G.op rfl (G.cR rfl rfl rfl rfl Try.func75 rfl rfl (may2 (by first | (apply May.old; first | with_reducible assumption | assumption) | (apply Sel.may; (repeat (first | with_reducible exact Sel.here | exact Sel.here | apply Sel.there)); done) | (apply may_own; (repeat (first | with_reducible exact Sel.here | exact Sel.here | apply Sel.there)); exact rfl; exact (fun _ _ => trivial); done) | (apply may_ownB; (repeat (first | with_reducible exact Sel.here | exact Sel.here | apply Sel.there)); done) | (apply may_tree; (repeat (first | with_reducible exact Sel.here | exact Sel.here | apply Sel.there)); (repeat (first | with_reducible exact Sel.here | exact Sel.here | apply Sel.there)); assumption; done)) (by first | (apply May.old; first | with_reducible assumption | assumption) | (apply Sel.may; (repeat (first | with_reducible exact Sel.here | exact Sel.here | apply Sel.there)); done) | (apply may_own; (repeat (first | with_reducible exact Sel.here | exact Sel.here | apply Sel.there)); exact rfl; exact (fun _ _ => trivial); done) | (apply may_ownB; (repeat (first | with_reducible exact Sel.here | exact Sel.here | apply Sel.there)); done) | (apply may_tree; (repeat (first | with_reducible exact Sel.here | exact Sel.here | apply Sel.there)); (repeat (first | with_reducible exact Sel.here | exact Sel.here | apply Sel.there)); assumption; done))) (indexF_tr g cap c sp xs s hs hn hk hm hok) ?_)
  obtain ⟨k, hk0⟩ : ∃ k, idxG s (ens xs) = k := ⟨_, rfl⟩
  have his := idx_spec (i := k) hk0
  rw [hk0] at hix hia
  rw [hk0]
  refine G.op rfl (G.val rfl rfl (pv_assign rfl) ?_)
  refine G.nil ?_
  refine G.nThen ?_
  refine G.seq ?_
  refine G.seq ?_
  refine G.region ?_
  refine G.op rfl (G.val rfl rfl (pv_move rfl) ?_)
  refine G.op rfl (G.val rfl rfl (pv_eql rfl rfl) ?_)
  refine G.nil ?_
  refine G.nThen ?_
  refine G.condP rfl (fun h12 => ?_) (fun h12 => ?_)
  · have hkk : k = xs.length := by by_cases h : k = xs.length; exact h; rw [if_neg h] at h12; omega
    refine G.seq ?_
    refine G.region ?_
    refine G.op rfl (G.val rfl rfl (pv_move rfl) ?_)
    refine G.op rfl (G.val rfl rfl (pv_assign rfl) ?_)
    refine G.nil ?_
    refine G.nThen ?_
    refine G.ret ?_
    refine G.rThen ?_
    exact G.doneX1 ((xs, sp)) (by first | exact trivial | ((try dsimp only); exact ⟨(hia hkk).symm, rfl⟩)) rfl rfl rfl (by repeat (first | exact Sub.nil | (apply Sub.cons; (repeat (first | with_reducible exact Sel.here | exact Sel.here | apply Sel.there)))))
  · have hkk : ¬ k = xs.length := fun h => h12 (by rw [if_pos h])
    rw [if_neg hkk]
    refine G.skip ?_
    refine G.nThen ?_
    refine G.seq ?_
    refine G.seq ?_
    refine G.region ?_
    refine G.op rfl (G.val rfl rfl (pv_move rfl) ?_)
    refine G.op rfl (G.val rfl rfl (pv_add64 rfl rfl (by omega)) ?_)
    refine G.op rfl (G.val rfl rfl (pv_assign rfl) ?_)
    refine G.nil ?_
    refine G.nThen ?_
    refine G.block ?_
    refine G.loopK (X := (List ET) × Nat × Nat) (ts := [0, 1, 4]) (fun st => st.1.length = xs.length ∧ st.2.1 < st.2.2 ∧ st.2.2 ≤ xs.length ∧ st.1.take st.2.1 = (xs.take st.2.2).filter (keepX s) ∧ ∀ q (h1 : q < st.1.length) (h2 : q < xs.length), st.2.2 ≤ q → st.1[q] = xs[q]) (fun st => [(5, .int .i64 (st.2.1 : Int)), (6, .int .i64 (st.2.2 : Int))]) (fun st => [blk g 31 (flatT st.1 ++ sp)]) (fun st => xs.length - st.2.2) (x0 := (xs, k, (k + 1))) (.cons rfl (.cons rfl (.cons rfl .nil))) (by repeat (first | exact Sub.nil | (apply Sub.cons; (repeat (first | with_reducible exact Sel.here | exact Sel.here | apply Sel.there))))) (.cons (.cons .nil)) (by repeat (first | exact Ap.nil | apply Ap.cons)) (by first | exact trivial | ((try dsimp only); exact ⟨rfl, by omega, by omega, (his (by omega)).symm, fun q _ _ _ => rfl⟩)) (.consE rfl (by first | rfl | exact int_eq (by first | omega | (dsimp only; omega)) | exact congrArg _ (by omega)) (.consE rfl (by first | rfl | exact int_eq (by first | omega | (dsimp only; omega)) | exact congrArg _ (by omega)) .nil)) (fun st hJ => ?_)
    obtain ⟨ws, i, j⟩ := st
    try dsimp only at hJ
    try dsimp only
    obtain ⟨hwl, hij, hjn, hwt, hwq0⟩ := hJ
    refine G.seq ?_
    refine G.seq ?_
    refine G.region ?_
    refine G.op rfl (G.val rfl rfl (pv_move rfl) ?_)
    refine G.op rfl (G.val rfl rfl (pv_move rfl) ?_)
    refine G.op rfl (G.val rfl rfl (pv_lenSl Try.underlying22 rfl) ?_)
    refine G.op rfl (G.val rfl rfl (pv_lss rfl rfl) ?_)
    refine G.nil ?_
    refine G.nThen ?_
    refine G.condP rfl (fun h19 => ?_) (fun h19 => ?_)
    · have hlt : j < xs.length := by omega
      have hlw : j < ws.length := by omega
      have hwq : ws[j] = xs[j] := hwq0 j hlw hlt (Nat.le_refl _)
      obtain ⟨⟨hk1, hk2, hlp, hld, hlt2⟩, hone⟩ := hok _ (List.getElem_mem hlt)
      refine G.skip ?_
      refine G.nThen ?_
      refine G.seq ?_
      refine G.block ?_
      refine G.seq ?_
      refine G.region ?_
      refine G.op rfl (G.val rfl rfl (pv_move rfl) ?_)
      refine G.op rfl (G.val rfl rfl (pv_move rfl) ?_)
      refine G.op rfl (G.val rfl rfl (pv_ixSl (sz := 5) Try.underlying22 (by kernel_rfl) rfl rfl (by first | with_reducible assumption | assumption | exact fun _ => rfl) rfl (by omega)) ?_)
      refine G.op rfl (G.val rfl rfl (pv_loadN (cs := [.string (sB xs[j].1.path), .int .i64 xs[j].1.kind, .int .i64 xs[j].1.mode, xs[j].2, .string (sB xs[j].1.to)]) Try.underlying31 rfl (by kernel_rfl) rfl (blk_range (k := 5) (by (repeat (first | with_reducible exact Sel.here | exact Sel.here | apply Sel.there)); done) (by rw [← hwq]; exact flat_row (by omega)))) ?_)
      refine G.op rfl (G.alloc (z := .agg #[.string ⟨#[]⟩, .int .i64 0, .int .i64 0, .slice none 0 0, .string ⟨#[]⟩]) (cs := [.string ⟨#[]⟩, .int .i64 0, .int .i64 0, .slice none 0 0, .string ⟨#[]⟩]) rfl (by kernel_rfl) rfl ?_)
      intro b7
      refine G.op rfl (G.storeN (by kernel_rfl) rfl rfl (by first | exact (all1_cons (by first | rfl | with_reducible assumption) (all1_cons (by first | rfl | with_reducible assumption) (all1_cons (by first | rfl | with_reducible assumption) (all1_cons (by first | rfl | with_reducible assumption) (all1_cons (by first | rfl | with_reducible assumption) all1_nil))))) | exact List.all_eq_true.2 (vByte_one _) | rfl) (by repeat (first | with_reducible exact Sel.here | exact Sel.here | apply Sel.there)) (by first | (simp; done) | exact Nat.le_of_ble_eq_true rfl) ?_)
      refine G.nil ?_
      refine G.nThen ?_
      refine G.seq ?_
      refine G.region ?_
      refine G.op rfl (G.val rfl rfl (pv_move rfl) ?_)
      refine G.op rfl (G.val rfl rfl (pv_loadN (cs := [_, _, _, _, _]) Try.underlying31 rfl (by kernel_rfl) rfl (by first | exact blk_range (k := 5) (by (repeat (first | with_reducible exact Sel.here | exact Sel.here | apply Sel.there)); done) (by rfl) | exact ro_rng0 (by assumption) | exact rng_range (k := 5) (by (repeat (first | with_reducible exact Sel.here | exact Sel.here | apply Sel.there)); done) (by rfl) | exact ro_range (k := 5) (by assumption) (by rfl) | exact ro_rngR (k := 5) (by assumption) (by rfl))) ?_)
      refine G.op rfl (G.cRv rfl rfl rfl rfl rfl Try.func58 rfl rfl (by rfl) (may1 (by first | (apply May.old; first | with_reducible assumption | assumption) | (apply Sel.may; (repeat (first | with_reducible exact Sel.here | exact Sel.here | apply Sel.there)); done) | (apply may_own; (repeat (first | with_reducible exact Sel.here | exact Sel.here | apply Sel.there)); exact rfl; exact (fun _ _ => trivial); done) | (apply may_ownB; (repeat (first | with_reducible exact Sel.here | exact Sel.here | apply Sel.there)); done) | (apply may_tree; (repeat (first | with_reducible exact Sel.here | exact Sel.here | apply Sel.there)); (repeat (first | with_reducible exact Sel.here | exact Sel.here | apply Sel.there)); assumption; done))) (drop1_tr c xs[j].1 _ s hone (by omega) hs) ?_)
      refine G.op rfl (G.val rfl rfl (pv_notP rfl) ?_)
      refine G.nil ?_
      refine G.nThen ?_
      refine G.condP rfl (fun h29 => ?_) (fun h29 => ?_)
      · have hng : ¬ goneP s xs[j].1 := by assumption
        refine G.seq ?_
        refine G.region ?_
        refine G.op rfl (G.val rfl rfl (pv_move rfl) ?_)
        refine G.op rfl (G.val rfl rfl (pv_move rfl) ?_)
        refine G.op rfl (G.val rfl rfl (pv_loadN (cs := [_, _, _, _, _]) Try.underlying31 rfl (by kernel_rfl) rfl (by first | exact blk_range (k := 5) (by (repeat (first | with_reducible exact Sel.here | exact Sel.here | apply Sel.there)); done) (by rfl) | exact ro_rng0 (by assumption) | exact rng_range (k := 5) (by (repeat (first | with_reducible exact Sel.here | exact Sel.here | apply Sel.there)); done) (by rfl) | exact ro_range (k := 5) (by assumption) (by rfl) | exact ro_rngR (k := 5) (by assumption) (by rfl))) ?_)
        refine G.op rfl (G.val rfl rfl (pv_ixSl (sz := 5) Try.underlying22 (by kernel_rfl) rfl rfl (by first | with_reducible assumption | assumption | exact fun _ => rfl) rfl (by omega)) ?_)
        refine G.op rfl (G.storeN (vs := evC xs[j]) (by kernel_rfl) rfl rfl (by exact (all1_cons rfl (all1_cons rfl (all1_cons rfl (all1_cons hone (all1_cons rfl all1_nil)))))) (by repeat (first | with_reducible exact Sel.here | exact Sel.here | apply Sel.there)) (by rw [evC_length, List.length_append, flatT_length]; omega) ?_)
        rw [flat_put (show i < ws.length by omega)]
        refine G.nil ?_
        refine G.nThen ?_
        refine G.region ?_
        refine G.op rfl (G.val rfl rfl (pv_move rfl) ?_)
        refine G.op rfl (G.val rfl rfl (pv_add64 rfl rfl (by omega)) ?_)
        refine G.op rfl (G.val rfl rfl (pv_assign rfl) ?_)
        refine G.nil ?_
        refine G.nBlock ?_
        refine G.nThen ?_
        refine G.region ?_
        refine G.op rfl (G.val rfl rfl (pv_move rfl) ?_)
        refine G.op rfl (G.val rfl rfl (pv_add64 rfl rfl (by omega)) ?_)
        refine G.op rfl (G.val rfl rfl (pv_assign rfl) ?_)
        refine G.nil ?_
        exact G.next ((ws.set i xs[j], i + 1, j + 1)) (by first | exact trivial | ((try dsimp only); exact ⟨by rw [List.length_set, hwl], by omega, by omega, by rw [take_set_succ (by omega), hwt, filt_one hlt hng], fun q h1 h2 hq => by rw [List.getElem_set_ne (by omega)]; exact hwq0 q (by rw [List.length_set] at h1; exact h1) h2 (by omega)⟩)) (by (try dsimp only); omega) (.consE rfl (by first | rfl | exact int_eq (by first | omega | (dsimp only; omega)) | exact congrArg _ (by omega)) (.consE rfl (by first | rfl | exact int_eq (by first | omega | (dsimp only; omega)) | exact congrArg _ (by omega)) (.cons rfl (.cons rfl (.cons rfl .nil))))) (by repeat (first | exact Sub.nil | (apply Sub.cons; (repeat (first | with_reducible exact Sel.here | exact Sel.here | apply Sel.there)))))
      · have hg : goneP s xs[j].1 := Decidable.of_not_not (by assumption)
        refine G.skip ?_
        refine G.nBlock ?_
        refine G.nThen ?_
        refine G.region ?_
        refine G.op rfl (G.val rfl rfl (pv_move rfl) ?_)
        refine G.op rfl (G.val rfl rfl (pv_add64 rfl rfl (by omega)) ?_)
        refine G.op rfl (G.val rfl rfl (pv_assign rfl) ?_)
        refine G.nil ?_
        exact G.next ((ws, i, j + 1)) (by first | exact trivial | ((try dsimp only); exact ⟨hwl, by omega, by omega, by rw [hwt, filt_no hlt hg], fun q h1 h2 hq => hwq0 q h1 h2 (by omega)⟩)) (by (try dsimp only); omega) (.consE rfl (by first | rfl | exact int_eq (by first | omega | (dsimp only; omega)) | exact congrArg _ (by omega)) (.consE rfl (by first | rfl | exact int_eq (by first | omega | (dsimp only; omega)) | exact congrArg _ (by omega)) (.cons rfl (.cons rfl (.cons rfl .nil))))) (by repeat (first | exact Sub.nil | (apply Sub.cons; (repeat (first | with_reducible exact Sel.here | exact Sel.here | apply Sel.there)))))
    · refine G.exit ?_
      refine G.eThen ?_
      refine G.eThen ?_
      refine G.eBlock ?_
      refine G.nThen ?_
      refine G.seq ?_
      refine G.region ?_
      refine G.op rfl (G.val rfl rfl (pv_move rfl) ?_)
      refine G.op rfl (G.val rfl rfl (pv_move rfl) ?_)
      refine G.op rfl (G.val rfl rfl (pv_subL (sz := 5) Try.underlying22 (by kernel_rfl) rfl rfl rfl (by omega)) ?_)
      obtain rfl : j = xs.length := by omega
      rw [show subV 5 (some ⟨g, 0, none⟩) i xs.length cap = .slice (some ⟨g, 0 + i * 5, none⟩) (xs.length - i) (cap - i) from by unfold subV; rw [if_neg (by omega), Option.map_some, addr_mid]]
      refine G.op rfl (G.clear (z := [.string ⟨#[]⟩, .int .i64 0, .int .i64 0, .slice none 0 0, .string ⟨#[]⟩]) Try.underlying22 (by kernel_rfl) rfl rfl (by repeat (first | with_reducible exact Sel.here | exact Sel.here | apply Sel.there)) (by rw [List.length_append, flatT_length]; simp only [List.length_cons, List.length_nil]; omega) ?_)
      intro sp2 hsp2
      rw [flat_take (by omega)] at hsp2 ⊢
      rw [List.take_length] at hwt
      rw [hwt] at hsp2 ⊢
      have hfl : (xs.filter (keepX s)).length = i := by rw [← hwt, List.length_take]; omega
      refine G.nil ?_
      refine G.nThen ?_
      refine G.seq ?_
      refine G.region ?_
      refine G.op rfl (G.val rfl rfl (pv_move rfl) ?_)
      refine G.op rfl (G.val rfl rfl (pv_move rfl) ?_)
      refine G.op rfl (G.val rfl rfl (pv_subH (sz := 5) Try.underlying22 (by kernel_rfl) rfl rfl rfl (by omega)) ?_)
      refine G.op rfl (G.val rfl rfl (pv_assign rfl) ?_)
      refine G.nil ?_
      refine G.nThen ?_
      refine G.ret ?_
      exact G.doneX1 ((xs.filter (keepX s), sp2)) (by first | exact trivial | ((try dsimp only); exact ⟨rfl, by rw [hsp2, List.length_append, List.length_append, flatT_length, flatT_length, hwl]⟩)) rfl rfl (by rw [← hfl]) (by repeat (first | exact Sub.nil | (apply Sub.cons; (repeat (first | with_reducible exact Sel.here | exact Sel.here | apply Sel.there)))))
end Go.Proofs.Ytchgaedidfefoaa
