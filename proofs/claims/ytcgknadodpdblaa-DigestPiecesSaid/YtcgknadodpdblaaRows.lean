/-
  No cell of these rows narrows 'for every input' (looked for: loops, veiled, ifaces, maps, wideKeys, modest, calm, conditions, laid).
  DERIVED. THE GIVEN ROWS OF THIS SEAT. 7 by the template 'for every input the law returns true; each argument reads behind the call as it read before'; 0 by the template 'total and deterministic' (their statements: YtcgknadodpdblaaTotals.lean).
  GIVEN WITH THE SEED: the statements are not yours to turn. If you find one false, say at which input.
  Laid BY PROGRAM, IN A SANDBOX (cutbox-rows.mjs): the forced cells as the released guide's own fill.sh prints them over the translation abb3075d29a202c2… (all of the seat's roots in one cut). By AI agents, Wed Nov 11 2026. No macro, syntax, notation, axiom, sorry.
-/
import Derived.Test.YtcgknadodpdblaaChecked
import GoSem.Claim
import GoSem.ClaimJoined
import GoSem.ClaimMapViews
import Derived.JoinedTies
import Derived.KernelRfl
namespace Go.Proofs.Ytcgknadodpdblaa
/- THE CELL 'sum', in the pinned program and in every row, IS THE sha256 OF THE DUMP (.gsa) THAT YtcgknadodpdblaaProg.lean LOADS. Nothing in Lean hashes anything: it is a label: what it is worth is what the hold of that sum in a sandbox is worth. -/
noncomputable def Try.pinned : Pinned := { name := "ytcgknadodpdblaa", sum := "abb3075d29a202c2b97df8b930f5cc2ff8716a4c1e30d756ffcbebfc5f795616", checked := Try.checked }
namespace Rows
def none {H : Type} : Left H := { results := [], args := [] }

/-- 'satchellaw03.DigestSums': WHATEVER THE INPUT: true; the input reads as it did. -/
def digestSumsSpec : ChangeSpec := { name := "digestSums", fn := fun _ => fun
  | [d] => { results := [.lit (.bool true)], args := [d] }
  | _ => none }
def digestSumsRow : OpenClaim := { program := "ytcgknadodpdblaa", sum := "abb3075d29a202c2b97df8b930f5cc2ff8716a4c1e30d756ffcbebfc5f795616", func := "satchel/satchellaw03.DigestSums", spec := "digestSums", apart := false }
def DigestSumsSaid : Prop := digestSumsRow.holds Try.pinned (OpenSpec.ofChange digestSumsSpec)

/-- ITS FALSE NEIGHBOUR: 'it returns false'. Refute it at one input. -/
def digestSumsWrong : ChangeSpec := { name := "digestSums", fn := fun _ => fun
  | [d] => { results := [.lit (.bool false)], args := [d] }
  | _ => none }
def DigestSumsWrongFalsely : Prop := digestSumsRow.holds Try.pinned (OpenSpec.ofChange digestSumsWrong)

/-- 'satchellaw03.DigestRuns': WHATEVER THE INPUT: true; the input reads as it did. -/
def digestRunsSpec : ChangeSpec := { name := "digestRuns", fn := fun _ => fun
  | [d] => { results := [.lit (.bool true)], args := [d] }
  | _ => none }
def digestRunsRow : OpenClaim := { program := "ytcgknadodpdblaa", sum := "abb3075d29a202c2b97df8b930f5cc2ff8716a4c1e30d756ffcbebfc5f795616", func := "satchel/satchellaw03.DigestRuns", spec := "digestRuns", apart := false }
def DigestRunsSaid : Prop := digestRunsRow.holds Try.pinned (OpenSpec.ofChange digestRunsSpec)

/-- ITS FALSE NEIGHBOUR: 'it returns false'. Refute it at one input. -/
def digestRunsWrong : ChangeSpec := { name := "digestRuns", fn := fun _ => fun
  | [d] => { results := [.lit (.bool false)], args := [d] }
  | _ => none }
def DigestRunsWrongFalsely : Prop := digestRunsRow.holds Try.pinned (OpenSpec.ofChange digestRunsWrong)

/-- 'satchellaw03.DigestNone': WHATEVER THE INPUT: true; the input reads as it did. -/
def digestNoneSpec : ChangeSpec := { name := "digestNone", fn := fun _ => fun
  | [d] => { results := [.lit (.bool true)], args := [d] }
  | _ => none }
def digestNoneRow : OpenClaim := { program := "ytcgknadodpdblaa", sum := "abb3075d29a202c2b97df8b930f5cc2ff8716a4c1e30d756ffcbebfc5f795616", func := "satchel/satchellaw03.DigestNone", spec := "digestNone", apart := false }
def DigestNoneSaid : Prop := digestNoneRow.holds Try.pinned (OpenSpec.ofChange digestNoneSpec)

/-- ITS FALSE NEIGHBOUR: 'it returns false'. Refute it at one input. -/
def digestNoneWrong : ChangeSpec := { name := "digestNone", fn := fun _ => fun
  | [d] => { results := [.lit (.bool false)], args := [d] }
  | _ => none }
def DigestNoneWrongFalsely : Prop := digestNoneRow.holds Try.pinned (OpenSpec.ofChange digestNoneWrong)

/-- 'satchellaw03.DigestTexts': WHATEVER THE INPUT: true; the input reads as it did. -/
def digestTextsSpec : ChangeSpec := { name := "digestTexts", fn := fun _ => fun
  | [d1, d2] => { results := [.lit (.bool true)], args := [d1, d2] }
  | _ => none }
def digestTextsRow : OpenClaim := { program := "ytcgknadodpdblaa", sum := "abb3075d29a202c2b97df8b930f5cc2ff8716a4c1e30d756ffcbebfc5f795616", func := "satchel/satchellaw03.DigestTexts", spec := "digestTexts", inPlace := ["internal/bytealg.IndexByteString", "internal/abi.NoEscape"], apart := false }
def DigestTextsSaid : Prop := digestTextsRow.holds Try.pinned (OpenSpec.ofChange digestTextsSpec)

/-- ITS FALSE NEIGHBOUR: 'it returns false'. Refute it at one input. -/
def digestTextsWrong : ChangeSpec := { name := "digestTexts", fn := fun _ => fun
  | [d1, d2] => { results := [.lit (.bool false)], args := [d1, d2] }
  | _ => none }
def DigestTextsWrongFalsely : Prop := digestTextsRow.holds Try.pinned (OpenSpec.ofChange digestTextsWrong)

/-- 'satchellaw03.DigestBack': WHATEVER THE INPUT: true; the input reads as it did. -/
def digestBackSpec : ChangeSpec := { name := "digestBack", fn := fun _ => fun
  | [d1, d2] => { results := [.lit (.bool true)], args := [d1, d2] }
  | _ => none }
def digestBackRow : OpenClaim := { program := "ytcgknadodpdblaa", sum := "abb3075d29a202c2b97df8b930f5cc2ff8716a4c1e30d756ffcbebfc5f795616", func := "satchel/satchellaw03.DigestBack", spec := "digestBack", inPlace := ["internal/abi.NoEscape", "internal/bytealg.IndexByteString"], apart := false }
def DigestBackSaid : Prop := digestBackRow.holds Try.pinned (OpenSpec.ofChange digestBackSpec)

/-- ITS FALSE NEIGHBOUR: 'it returns false'. Refute it at one input. -/
def digestBackWrong : ChangeSpec := { name := "digestBack", fn := fun _ => fun
  | [d1, d2] => { results := [.lit (.bool false)], args := [d1, d2] }
  | _ => none }
def DigestBackWrongFalsely : Prop := digestBackRow.holds Try.pinned (OpenSpec.ofChange digestBackWrong)

/-- 'satchellaw03.DigestKnown': WHATEVER THE INPUT: true; the input reads as it did. -/
def digestKnownSpec : ChangeSpec := { name := "digestKnown", fn := fun _ => fun
  | [] => { results := [.lit (.bool true)], args := [] }
  | _ => none }
def digestKnownRow : OpenClaim := { program := "ytcgknadodpdblaa", sum := "abb3075d29a202c2b97df8b930f5cc2ff8716a4c1e30d756ffcbebfc5f795616", func := "satchel/satchellaw03.DigestKnown", spec := "digestKnown", inPlace := ["internal/bytealg.IndexByteString", "internal/abi.NoEscape"], apart := false }
def DigestKnownSaid : Prop := digestKnownRow.holds Try.pinned (OpenSpec.ofChange digestKnownSpec)

/-- ITS FALSE NEIGHBOUR: 'it returns false'. Refute it at one input. -/
def digestKnownWrong : ChangeSpec := { name := "digestKnown", fn := fun _ => fun
  | [] => { results := [.lit (.bool false)], args := [] }
  | _ => none }
def DigestKnownWrongFalsely : Prop := digestKnownRow.holds Try.pinned (OpenSpec.ofChange digestKnownWrong)

/-- 'satchellaw03.DigestPieces': WHATEVER THE INPUT: true; the input reads as it did. -/
def digestPiecesSpec : ChangeSpec := { name := "digestPieces", fn := fun _ => fun
  | [d1, d2] => { results := [.lit (.bool true)], args := [d1, d2] }
  | _ => none }
def digestPiecesRow : OpenClaim := { program := "ytcgknadodpdblaa", sum := "abb3075d29a202c2b97df8b930f5cc2ff8716a4c1e30d756ffcbebfc5f795616", func := "satchel/satchellaw03.DigestPieces", spec := "digestPieces", inPlace := ["internal/bytealg.IndexByteString", "internal/abi.NoEscape"], apart := false }
def DigestPiecesSaid : Prop := digestPiecesRow.holds Try.pinned (OpenSpec.ofChange digestPiecesSpec)

/-- ITS FALSE NEIGHBOUR: 'it returns false'. Refute it at one input. -/
def digestPiecesWrong : ChangeSpec := { name := "digestPieces", fn := fun _ => fun
  | [d1, d2] => { results := [.lit (.bool false)], args := [d1, d2] }
  | _ => none }
def DigestPiecesWrongFalsely : Prop := digestPiecesRow.holds Try.pinned (OpenSpec.ofChange digestPiecesWrong)

/- THE SECOND FORM. 'bulk': how many values and letters a reading holds, each counted each time it is reached (what is shared counts as often as it is met; a slice's spare places count too). A statement '..UptoSaid' is the law's where the arguments, and the package variables that the reading takes, are together of bulk at most 1048576: NARROWER than '..Said'. Prove '..Said' where nothing that the law and all that it calls make is longer than what came in: it says more and counts as full. Else prove '..UptoSaid'. A law counts once. -/
mutual
def uptoBulk {H : Type} : DataW H → Nat
  | .lit (.string bytes) => bytes.length + 1
  | .lit _ => 1
  | .nil => 1
  | .ptr d => uptoBulk d + 1
  | .slice elems spare => uptoBulkAll elems + uptoBulkAll spare + 1
  | .agg parts => uptoBulkAll parts + 1
  | .iface _ d => uptoBulk d + 1
  | .map entries => uptoBulkEntries entries + 1
  | .held _ => 1
def uptoBulkAll {H : Type} : List (DataW H) → Nat
  | [] => 0
  | d :: r => uptoBulk d + uptoBulkAll r
def uptoBulkEntries {H : Type} : List (Lit × DataW H) → Nat
  | [] => 0
  | x :: r => uptoBulkEntry x + uptoBulkEntries r
def uptoBulkEntry {H : Type} : Lit × DataW H → Nat
  | (.string bytes, d) => bytes.length + uptoBulk d + 1
  | (_, d) => uptoBulk d + 1
 end
def uptoSmall : (H : Type) → List (DataW H) → Bool := fun _ ds => decide (uptoBulkAll ds ≤ 1048576)
def OpenSpec.upto (s : _root_.Go.ChangeSpec) : _root_.Go.OpenSpec := { _root_.Go.OpenSpec.ofChange s with cond := some uptoSmall }

/-- 'satchellaw03.DigestSums', WHERE WHAT IT READS IS OF BULK AT MOST 1048576: true; the input reads as it did. -/
def digestSumsUptoRow : OpenClaim := { program := "ytcgknadodpdblaa", sum := "abb3075d29a202c2b97df8b930f5cc2ff8716a4c1e30d756ffcbebfc5f795616", func := "satchel/satchellaw03.DigestSums", spec := "digestSums", apart := false, narrowed := true }
def DigestSumsUptoSaid : Prop := digestSumsUptoRow.holds Try.pinned (OpenSpec.upto digestSumsSpec)

/-- 'satchellaw03.DigestRuns', WHERE WHAT IT READS IS OF BULK AT MOST 1048576: true; the input reads as it did. -/
def digestRunsUptoRow : OpenClaim := { program := "ytcgknadodpdblaa", sum := "abb3075d29a202c2b97df8b930f5cc2ff8716a4c1e30d756ffcbebfc5f795616", func := "satchel/satchellaw03.DigestRuns", spec := "digestRuns", apart := false, narrowed := true }
def DigestRunsUptoSaid : Prop := digestRunsUptoRow.holds Try.pinned (OpenSpec.upto digestRunsSpec)

/-- 'satchellaw03.DigestNone', WHERE WHAT IT READS IS OF BULK AT MOST 1048576: true; the input reads as it did. -/
def digestNoneUptoRow : OpenClaim := { program := "ytcgknadodpdblaa", sum := "abb3075d29a202c2b97df8b930f5cc2ff8716a4c1e30d756ffcbebfc5f795616", func := "satchel/satchellaw03.DigestNone", spec := "digestNone", apart := false, narrowed := true }
def DigestNoneUptoSaid : Prop := digestNoneUptoRow.holds Try.pinned (OpenSpec.upto digestNoneSpec)

/-- 'satchellaw03.DigestTexts', WHERE WHAT IT READS IS OF BULK AT MOST 1048576: true; the input reads as it did. -/
def digestTextsUptoRow : OpenClaim := { program := "ytcgknadodpdblaa", sum := "abb3075d29a202c2b97df8b930f5cc2ff8716a4c1e30d756ffcbebfc5f795616", func := "satchel/satchellaw03.DigestTexts", spec := "digestTexts", inPlace := ["internal/bytealg.IndexByteString", "internal/abi.NoEscape"], apart := false, narrowed := true }
def DigestTextsUptoSaid : Prop := digestTextsUptoRow.holds Try.pinned (OpenSpec.upto digestTextsSpec)

/-- 'satchellaw03.DigestBack', WHERE WHAT IT READS IS OF BULK AT MOST 1048576: true; the input reads as it did. -/
def digestBackUptoRow : OpenClaim := { program := "ytcgknadodpdblaa", sum := "abb3075d29a202c2b97df8b930f5cc2ff8716a4c1e30d756ffcbebfc5f795616", func := "satchel/satchellaw03.DigestBack", spec := "digestBack", inPlace := ["internal/abi.NoEscape", "internal/bytealg.IndexByteString"], apart := false, narrowed := true }
def DigestBackUptoSaid : Prop := digestBackUptoRow.holds Try.pinned (OpenSpec.upto digestBackSpec)

/-- 'satchellaw03.DigestKnown', WHERE WHAT IT READS IS OF BULK AT MOST 1048576: true; the input reads as it did. -/
def digestKnownUptoRow : OpenClaim := { program := "ytcgknadodpdblaa", sum := "abb3075d29a202c2b97df8b930f5cc2ff8716a4c1e30d756ffcbebfc5f795616", func := "satchel/satchellaw03.DigestKnown", spec := "digestKnown", inPlace := ["internal/bytealg.IndexByteString", "internal/abi.NoEscape"], apart := false, narrowed := true }
def DigestKnownUptoSaid : Prop := digestKnownUptoRow.holds Try.pinned (OpenSpec.upto digestKnownSpec)

/-- 'satchellaw03.DigestPieces', WHERE WHAT IT READS IS OF BULK AT MOST 1048576: true; the input reads as it did. -/
def digestPiecesUptoRow : OpenClaim := { program := "ytcgknadodpdblaa", sum := "abb3075d29a202c2b97df8b930f5cc2ff8716a4c1e30d756ffcbebfc5f795616", func := "satchel/satchellaw03.DigestPieces", spec := "digestPieces", inPlace := ["internal/bytealg.IndexByteString", "internal/abi.NoEscape"], apart := false, narrowed := true }
def DigestPiecesUptoSaid : Prop := digestPiecesUptoRow.holds Try.pinned (OpenSpec.upto digestPiecesSpec)

end Rows
end Go.Proofs.Ytcgknadodpdblaa
