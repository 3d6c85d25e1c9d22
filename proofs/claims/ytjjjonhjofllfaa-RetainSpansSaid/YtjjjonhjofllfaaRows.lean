/-
  No cell of these rows narrows 'for every input' (looked for: loops, veiled, ifaces, maps, wideKeys, modest, calm, conditions, laid).
  DERIVED. THE GIVEN ROWS OF THIS SEAT. 6 by the template 'for every input the law returns true; each argument reads behind the call as it read before'; 0 by the template 'total and deterministic' (their statements: YtjjjonhjofllfaaTotals.lean).
  GIVEN WITH THE SEED: the statements are not yours to turn. If you find one false, say at which input.
  Laid BY PROGRAM, IN A SANDBOX (cutbox-rows.mjs): the forced cells as the released guide's own fill.sh prints them over the translation 21149d285721726b… (all of the seat's roots in one cut). By AI agents, Wed Nov 11 2026. No macro, syntax, notation, axiom, sorry.
-/
import Derived.Test.YtjjjonhjofllfaaChecked
import GoSem.Claim
import GoSem.ClaimJoined
import GoSem.ClaimMapViews
import Derived.JoinedTies
import Derived.KernelRfl
namespace Go.Proofs.Ytjjjonhjofllfaa
/- THE CELL 'sum', in the pinned program and in every row, IS THE sha256 OF THE DUMP (.gsa) THAT YtjjjonhjofllfaaProg.lean LOADS. Nothing in Lean hashes anything: it is a label: what it is worth is what the hold of that sum in a sandbox is worth. -/
noncomputable def Try.pinned : Pinned := { name := "ytjjjonhjofllfaa", sum := "21149d285721726b59a7afc5ed5e58398e17931b5b33d62e996dd75f58e2c30a", checked := Try.checked }
namespace Rows
def none {H : Type} : Left H := { results := [], args := [] }

/-- 'satchellaw22.RetainMore': WHATEVER THE INPUT: true; the input reads as it did. -/
def retainMoreSpec : ChangeSpec := { name := "retainMore", fn := fun _ => fun
  | [d1, d2, d3, d4] => { results := [.lit (.bool true)], args := [d1, d2, d3, d4] }
  | _ => none }
def retainMoreRow : OpenClaim := { program := "ytjjjonhjofllfaa", sum := "21149d285721726b59a7afc5ed5e58398e17931b5b33d62e996dd75f58e2c30a", func := "satchel/satchellaw22.RetainMore", spec := "retainMore", unfollowed := true, recurses := true, apart := false }
def RetainMoreSaid : Prop := retainMoreRow.holds Try.pinned (OpenSpec.ofChange retainMoreSpec)

/-- ITS FALSE NEIGHBOUR: 'it returns false'. Refute it at one input. -/
def retainMoreWrong : ChangeSpec := { name := "retainMore", fn := fun _ => fun
  | [d1, d2, d3, d4] => { results := [.lit (.bool false)], args := [d1, d2, d3, d4] }
  | _ => none }
def RetainMoreWrongFalsely : Prop := retainMoreRow.holds Try.pinned (OpenSpec.ofChange retainMoreWrong)

/-- 'satchellaw22.RetainSpans': WHATEVER THE INPUT: true; the input reads as it did. -/
def retainSpansSpec : ChangeSpec := { name := "retainSpans", fn := fun _ => fun
  | [d1, d2, d3] => { results := [.lit (.bool true)], args := [d1, d2, d3] }
  | _ => none }
def retainSpansRow : OpenClaim := { program := "ytjjjonhjofllfaa", sum := "21149d285721726b59a7afc5ed5e58398e17931b5b33d62e996dd75f58e2c30a", func := "satchel/satchellaw22.RetainSpans", spec := "retainSpans", unfollowed := true, recurses := true, apart := false }
def RetainSpansSaid : Prop := retainSpansRow.holds Try.pinned (OpenSpec.ofChange retainSpansSpec)

/-- ITS FALSE NEIGHBOUR: 'it returns false'. Refute it at one input. -/
def retainSpansWrong : ChangeSpec := { name := "retainSpans", fn := fun _ => fun
  | [d1, d2, d3] => { results := [.lit (.bool false)], args := [d1, d2, d3] }
  | _ => none }
def RetainSpansWrongFalsely : Prop := retainSpansRow.holds Try.pinned (OpenSpec.ofChange retainSpansWrong)

/-- 'satchellaw22.RetainTells': WHATEVER THE INPUT: true; the input reads as it did. -/
def retainTellsSpec : ChangeSpec := { name := "retainTells", fn := fun _ => fun
  | [d1, d2] => { results := [.lit (.bool true)], args := [d1, d2] }
  | _ => none }
def retainTellsRow : OpenClaim := { program := "ytjjjonhjofllfaa", sum := "21149d285721726b59a7afc5ed5e58398e17931b5b33d62e996dd75f58e2c30a", func := "satchel/satchellaw22.RetainTells", spec := "retainTells", unfollowed := true, recurses := true, apart := false }
def RetainTellsSaid : Prop := retainTellsRow.holds Try.pinned (OpenSpec.ofChange retainTellsSpec)

/-- ITS FALSE NEIGHBOUR: 'it returns false'. Refute it at one input. -/
def retainTellsWrong : ChangeSpec := { name := "retainTells", fn := fun _ => fun
  | [d1, d2] => { results := [.lit (.bool false)], args := [d1, d2] }
  | _ => none }
def RetainTellsWrongFalsely : Prop := retainTellsRow.holds Try.pinned (OpenSpec.ofChange retainTellsWrong)

/-- 'satchellaw22.RetainParts': WHATEVER THE INPUT: true; the input reads as it did. -/
def retainPartsSpec : ChangeSpec := { name := "retainParts", fn := fun _ => fun
  | [d1, d2] => { results := [.lit (.bool true)], args := [d1, d2] }
  | _ => none }
def retainPartsRow : OpenClaim := { program := "ytjjjonhjofllfaa", sum := "21149d285721726b59a7afc5ed5e58398e17931b5b33d62e996dd75f58e2c30a", func := "satchel/satchellaw22.RetainParts", spec := "retainParts", unfollowed := true, recurses := true, apart := false }
def RetainPartsSaid : Prop := retainPartsRow.holds Try.pinned (OpenSpec.ofChange retainPartsSpec)

/-- ITS FALSE NEIGHBOUR: 'it returns false'. Refute it at one input. -/
def retainPartsWrong : ChangeSpec := { name := "retainParts", fn := fun _ => fun
  | [d1, d2] => { results := [.lit (.bool false)], args := [d1, d2] }
  | _ => none }
def RetainPartsWrongFalsely : Prop := retainPartsRow.holds Try.pinned (OpenSpec.ofChange retainPartsWrong)

/-- 'satchellaw22.RetainLater': WHATEVER THE INPUT: true; the input reads as it did. -/
def retainLaterSpec : ChangeSpec := { name := "retainLater", fn := fun _ => fun
  | [d1, d2, d3] => { results := [.lit (.bool true)], args := [d1, d2, d3] }
  | _ => none }
def retainLaterRow : OpenClaim := { program := "ytjjjonhjofllfaa", sum := "21149d285721726b59a7afc5ed5e58398e17931b5b33d62e996dd75f58e2c30a", func := "satchel/satchellaw22.RetainLater", spec := "retainLater", unfollowed := true, recurses := true, apart := false }
def RetainLaterSaid : Prop := retainLaterRow.holds Try.pinned (OpenSpec.ofChange retainLaterSpec)

/-- ITS FALSE NEIGHBOUR: 'it returns false'. Refute it at one input. -/
def retainLaterWrong : ChangeSpec := { name := "retainLater", fn := fun _ => fun
  | [d1, d2, d3] => { results := [.lit (.bool false)], args := [d1, d2, d3] }
  | _ => none }
def RetainLaterWrongFalsely : Prop := retainLaterRow.holds Try.pinned (OpenSpec.ofChange retainLaterWrong)

/-- 'satchellaw22.RetainKnown': WHATEVER THE INPUT: true; the input reads as it did. -/
def retainKnownSpec : ChangeSpec := { name := "retainKnown", fn := fun _ => fun
  | [] => { results := [.lit (.bool true)], args := [] }
  | _ => none }
def retainKnownRow : OpenClaim := { program := "ytjjjonhjofllfaa", sum := "21149d285721726b59a7afc5ed5e58398e17931b5b33d62e996dd75f58e2c30a", func := "satchel/satchellaw22.RetainKnown", spec := "retainKnown", unfollowed := true, recurses := true, apart := false }
def RetainKnownSaid : Prop := retainKnownRow.holds Try.pinned (OpenSpec.ofChange retainKnownSpec)

/-- ITS FALSE NEIGHBOUR: 'it returns false'. Refute it at one input. -/
def retainKnownWrong : ChangeSpec := { name := "retainKnown", fn := fun _ => fun
  | [] => { results := [.lit (.bool false)], args := [] }
  | _ => none }
def RetainKnownWrongFalsely : Prop := retainKnownRow.holds Try.pinned (OpenSpec.ofChange retainKnownWrong)

/- THE SECOND FORM. 'bulk': how many values and letters a reading holds, each counted each time it is reached (what is shared counts as often as it is met; a slice's spare places count too). A statement '..UptoSaid' is the law's where the arguments, and the package variables that the reading takes, are together of bulk at most 1048576: NARROWER than '..Said'. Prove '..Said' where nothing that the law and all that it calls make is longer than what came in: it says more and counts as full. Else prove '..UptoSaid'. A law counts once. -/
mutual
def uptoBulk {H : Type} : DataW H → Nat
  | .lit (.string bytes) => bytes.length + 1
  | .lit _ => 1
  | .nil => 1
  | .ptr d => uptoBulk d + 1
  | .slice elems spare => uptoBulkAll elems + uptoBulkAll spare + 1
  | .agg parts => uptoBulkAll parts + 1
  | .iface _ d => uptoBulk d + 1
  | .map entries => uptoBulkEntries entries + 1
  | .held _ => 1
def uptoBulkAll {H : Type} : List (DataW H) → Nat
  | [] => 0
  | d :: r => uptoBulk d + uptoBulkAll r
def uptoBulkEntries {H : Type} : List (Lit × DataW H) → Nat
  | [] => 0
  | x :: r => uptoBulkEntry x + uptoBulkEntries r
def uptoBulkEntry {H : Type} : Lit × DataW H → Nat
  | (.string bytes, d) => bytes.length + uptoBulk d + 1
  | (_, d) => uptoBulk d + 1
 end
def uptoSmall : (H : Type) → List (DataW H) → Bool := fun _ ds => decide (uptoBulkAll ds ≤ 1048576)
def OpenSpec.upto (s : _root_.Go.ChangeSpec) : _root_.Go.OpenSpec := { _root_.Go.OpenSpec.ofChange s with cond := some uptoSmall }

/-- 'satchellaw22.RetainMore', WHERE WHAT IT READS IS OF BULK AT MOST 1048576: true; the input reads as it did. -/
def retainMoreUptoRow : OpenClaim := { program := "ytjjjonhjofllfaa", sum := "21149d285721726b59a7afc5ed5e58398e17931b5b33d62e996dd75f58e2c30a", func := "satchel/satchellaw22.RetainMore", spec := "retainMore", unfollowed := true, recurses := true, apart := false, narrowed := true }
def RetainMoreUptoSaid : Prop := retainMoreUptoRow.holds Try.pinned (OpenSpec.upto retainMoreSpec)

/-- 'satchellaw22.RetainSpans', WHERE WHAT IT READS IS OF BULK AT MOST 1048576: true; the input reads as it did. -/
def retainSpansUptoRow : OpenClaim := { program := "ytjjjonhjofllfaa", sum := "21149d285721726b59a7afc5ed5e58398e17931b5b33d62e996dd75f58e2c30a", func := "satchel/satchellaw22.RetainSpans", spec := "retainSpans", unfollowed := true, recurses := true, apart := false, narrowed := true }
def RetainSpansUptoSaid : Prop := retainSpansUptoRow.holds Try.pinned (OpenSpec.upto retainSpansSpec)

/-- 'satchellaw22.RetainTells', WHERE WHAT IT READS IS OF BULK AT MOST 1048576: true; the input reads as it did. -/
def retainTellsUptoRow : OpenClaim := { program := "ytjjjonhjofllfaa", sum := "21149d285721726b59a7afc5ed5e58398e17931b5b33d62e996dd75f58e2c30a", func := "satchel/satchellaw22.RetainTells", spec := "retainTells", unfollowed := true, recurses := true, apart := false, narrowed := true }
def RetainTellsUptoSaid : Prop := retainTellsUptoRow.holds Try.pinned (OpenSpec.upto retainTellsSpec)

/-- 'satchellaw22.RetainParts', WHERE WHAT IT READS IS OF BULK AT MOST 1048576: true; the input reads as it did. -/
def retainPartsUptoRow : OpenClaim := { program := "ytjjjonhjofllfaa", sum := "21149d285721726b59a7afc5ed5e58398e17931b5b33d62e996dd75f58e2c30a", func := "satchel/satchellaw22.RetainParts", spec := "retainParts", unfollowed := true, recurses := true, apart := false, narrowed := true }
def RetainPartsUptoSaid : Prop := retainPartsUptoRow.holds Try.pinned (OpenSpec.upto retainPartsSpec)

/-- 'satchellaw22.RetainLater', WHERE WHAT IT READS IS OF BULK AT MOST 1048576: true; the input reads as it did. -/
def retainLaterUptoRow : OpenClaim := { program := "ytjjjonhjofllfaa", sum := "21149d285721726b59a7afc5ed5e58398e17931b5b33d62e996dd75f58e2c30a", func := "satchel/satchellaw22.RetainLater", spec := "retainLater", unfollowed := true, recurses := true, apart := false, narrowed := true }
def RetainLaterUptoSaid : Prop := retainLaterUptoRow.holds Try.pinned (OpenSpec.upto retainLaterSpec)

/-- 'satchellaw22.RetainKnown', WHERE WHAT IT READS IS OF BULK AT MOST 1048576: true; the input reads as it did. -/
def retainKnownUptoRow : OpenClaim := { program := "ytjjjonhjofllfaa", sum := "21149d285721726b59a7afc5ed5e58398e17931b5b33d62e996dd75f58e2c30a", func := "satchel/satchellaw22.RetainKnown", spec := "retainKnown", unfollowed := true, recurses := true, apart := false, narrowed := true }
def RetainKnownUptoSaid : Prop := retainKnownUptoRow.holds Try.pinned (OpenSpec.upto retainKnownSpec)

end Rows
end Go.Proofs.Ytjjjonhjofllfaa
