/-
  No cell of these rows narrows 'for every input' (looked for: loops, veiled, ifaces, maps, wideKeys, modest, calm, conditions, laid).
  DERIVED. THE GIVEN ROWS OF THIS SEAT. 5 by the template 'for every input the law returns true; each argument reads behind the call as it read before'; 0 by the template 'total and deterministic' (their statements: YtbfpbibkklfnfaaGreatTotals.lean).
  GIVEN WITH THE SEED: the statements are not yours to turn. If you find one false, say at which input.
  Laid BY PROGRAM, IN A SANDBOX (cutbox-rows.mjs): the forced cells as the released guide's own fill.sh prints them over the translation 1b4d931dc3c2ec85… (all of the seat's roots in one cut). By AI agents, Wed Nov 11 2026. No macro, syntax, notation, axiom, sorry.
-/
import Derived.Test.YtbfpbibkklfnfaaGreatChecked
import GoSem.Claim
import GoSem.ClaimJoined
import GoSem.ClaimMapViews
import Derived.JoinedTies
import Derived.KernelRfl
namespace Go.Proofs.YtbfpbibkklfnfaaGreat
/- THE CELL 'sum', in the pinned program and in every row, IS THE sha256 OF THE DUMP (.gsa) THAT YtbfpbibkklfnfaaGreatProg.lean LOADS. Nothing in Lean hashes anything: it is a label: what it is worth is what the hold of that sum in a sandbox is worth. -/
noncomputable def Tryz.pinned : Pinned := { name := "ytbfpbibkklfnfaagreat", sum := "1b4d931dc3c2ec85d1af002f1c1a851fb5077eaf46978c6cb33bb79248ee862f", checked := Tryz.checked }
namespace Rows
def none {H : Type} : Left H := { results := [], args := [] }

/-- 'satchellaw09.ManifestMakes': WHATEVER THE INPUT: true; the input reads as it did. -/
def manifestMakesSpec : ChangeSpec := { name := "manifestMakes", fn := fun _ => fun
  | [d1, d2, d3, d4] => { results := [.lit (.bool true)], args := [d1, d2, d3, d4] }
  | _ => none }
def manifestMakesRow : OpenClaim := { program := "ytbfpbibkklfnfaagreat", sum := "1b4d931dc3c2ec85d1af002f1c1a851fb5077eaf46978c6cb33bb79248ee862f", func := "satchel/satchellaw09.ManifestMakes", spec := "manifestMakes", inPlace := ["internal/bytealg.IndexByteString", "internal/bytealg.IndexString"], unfollowed := true, recurses := true, named := ["internal/bytealg.MaxLen"], plainKeys := false, apart := false }
def ManifestMakesSaid : Prop := manifestMakesRow.holds Tryz.pinned (OpenSpec.ofChange manifestMakesSpec)

/-- ITS FALSE NEIGHBOUR: 'it returns false'. Refute it at one input. -/
def manifestMakesWrong : ChangeSpec := { name := "manifestMakes", fn := fun _ => fun
  | [d1, d2, d3, d4] => { results := [.lit (.bool false)], args := [d1, d2, d3, d4] }
  | _ => none }
def ManifestMakesWrongFalsely : Prop := manifestMakesRow.holds Tryz.pinned (OpenSpec.ofChange manifestMakesWrong)

/-- 'satchellaw09.ManifestReads': WHATEVER THE INPUT: true; the input reads as it did. -/
def manifestReadsSpec : ChangeSpec := { name := "manifestReads", fn := fun _ => fun
  | [d] => { results := [.lit (.bool true)], args := [d] }
  | _ => none }
def manifestReadsRow : OpenClaim := { program := "ytbfpbibkklfnfaagreat", sum := "1b4d931dc3c2ec85d1af002f1c1a851fb5077eaf46978c6cb33bb79248ee862f", func := "satchel/satchellaw09.ManifestReads", spec := "manifestReads", inPlace := ["internal/bytealg.IndexByteString", "internal/bytealg.IndexString"], unfollowed := true, recurses := true, named := ["internal/bytealg.MaxLen"], plainKeys := false, apart := false }
def ManifestReadsSaid : Prop := manifestReadsRow.holds Tryz.pinned (OpenSpec.ofChange manifestReadsSpec)

/-- ITS FALSE NEIGHBOUR: 'it returns false'. Refute it at one input. -/
def manifestReadsWrong : ChangeSpec := { name := "manifestReads", fn := fun _ => fun
  | [d] => { results := [.lit (.bool false)], args := [d] }
  | _ => none }
def ManifestReadsWrongFalsely : Prop := manifestReadsRow.holds Tryz.pinned (OpenSpec.ofChange manifestReadsWrong)

/-- 'satchellaw09.ManifestBuilds': WHATEVER THE INPUT: true; the input reads as it did. -/
def manifestBuildsSpec : ChangeSpec := { name := "manifestBuilds", fn := fun _ => fun
  | [d1, d2] => { results := [.lit (.bool true)], args := [d1, d2] }
  | _ => none }
def manifestBuildsRow : OpenClaim := { program := "ytbfpbibkklfnfaagreat", sum := "1b4d931dc3c2ec85d1af002f1c1a851fb5077eaf46978c6cb33bb79248ee862f", func := "satchel/satchellaw09.ManifestBuilds", spec := "manifestBuilds", inPlace := ["internal/bytealg.IndexByteString", "internal/bytealg.IndexString"], unfollowed := true, recurses := true, named := ["internal/bytealg.MaxLen"], plainKeys := false, apart := false }
def ManifestBuildsSaid : Prop := manifestBuildsRow.holds Tryz.pinned (OpenSpec.ofChange manifestBuildsSpec)

/-- ITS FALSE NEIGHBOUR: 'it returns false'. Refute it at one input. -/
def manifestBuildsWrong : ChangeSpec := { name := "manifestBuilds", fn := fun _ => fun
  | [d1, d2] => { results := [.lit (.bool false)], args := [d1, d2] }
  | _ => none }
def ManifestBuildsWrongFalsely : Prop := manifestBuildsRow.holds Tryz.pinned (OpenSpec.ofChange manifestBuildsWrong)

/-- 'satchellaw09.ManifestBack': WHATEVER THE INPUT: true; the input reads as it did. -/
def manifestBackSpec : ChangeSpec := { name := "manifestBack", fn := fun _ => fun
  | [d1, d2] => { results := [.lit (.bool true)], args := [d1, d2] }
  | _ => none }
def manifestBackRow : OpenClaim := { program := "ytbfpbibkklfnfaagreat", sum := "1b4d931dc3c2ec85d1af002f1c1a851fb5077eaf46978c6cb33bb79248ee862f", func := "satchel/satchellaw09.ManifestBack", spec := "manifestBack", inPlace := ["internal/bytealg.IndexByteString", "internal/bytealg.IndexString"], unfollowed := true, recurses := true, named := ["internal/bytealg.MaxLen"], plainKeys := false, apart := false }
def ManifestBackSaid : Prop := manifestBackRow.holds Tryz.pinned (OpenSpec.ofChange manifestBackSpec)

/-- ITS FALSE NEIGHBOUR: 'it returns false'. Refute it at one input. -/
def manifestBackWrong : ChangeSpec := { name := "manifestBack", fn := fun _ => fun
  | [d1, d2] => { results := [.lit (.bool false)], args := [d1, d2] }
  | _ => none }
def ManifestBackWrongFalsely : Prop := manifestBackRow.holds Tryz.pinned (OpenSpec.ofChange manifestBackWrong)

/-- 'satchellaw09.ManifestBytes': WHATEVER THE INPUT: true; the input reads as it did. -/
def manifestBytesSpec : ChangeSpec := { name := "manifestBytes", fn := fun _ => fun
  | [d1, d2] => { results := [.lit (.bool true)], args := [d1, d2] }
  | _ => none }
def manifestBytesRow : OpenClaim := { program := "ytbfpbibkklfnfaagreat", sum := "1b4d931dc3c2ec85d1af002f1c1a851fb5077eaf46978c6cb33bb79248ee862f", func := "satchel/satchellaw09.ManifestBytes", spec := "manifestBytes", inPlace := ["internal/bytealg.IndexByteString", "internal/bytealg.IndexString"], unfollowed := true, recurses := true, named := ["internal/bytealg.MaxLen"], plainKeys := false, apart := false }
def ManifestBytesSaid : Prop := manifestBytesRow.holds Tryz.pinned (OpenSpec.ofChange manifestBytesSpec)

/-- ITS FALSE NEIGHBOUR: 'it returns false'. Refute it at one input. -/
def manifestBytesWrong : ChangeSpec := { name := "manifestBytes", fn := fun _ => fun
  | [d1, d2] => { results := [.lit (.bool false)], args := [d1, d2] }
  | _ => none }
def ManifestBytesWrongFalsely : Prop := manifestBytesRow.holds Tryz.pinned (OpenSpec.ofChange manifestBytesWrong)

/- THE SECOND FORM. 'bulk': how many values and letters a reading holds, each counted each time it is reached (what is shared counts as often as it is met; a slice's spare places count too). A statement '..UptoSaid' is the law's where the arguments, and the package variables that the reading takes, are together of bulk at most 1048576: NARROWER than '..Said'. Prove '..Said' where nothing that the law and all that it calls make is longer than what came in: it says more and counts as full. Else prove '..UptoSaid'. A law counts once. -/
mutual
def uptoBulk {H : Type} : DataW H → Nat
  | .lit (.string bytes) => bytes.length + 1
  | .lit _ => 1
  | .nil => 1
  | .ptr d => uptoBulk d + 1
  | .slice elems spare => uptoBulkAll elems + uptoBulkAll spare + 1
  | .agg parts => uptoBulkAll parts + 1
  | .iface _ d => uptoBulk d + 1
  | .map entries => uptoBulkEntries entries + 1
  | .held _ => 1
def uptoBulkAll {H : Type} : List (DataW H) → Nat
  | [] => 0
  | d :: r => uptoBulk d + uptoBulkAll r
def uptoBulkEntries {H : Type} : List (Lit × DataW H) → Nat
  | [] => 0
  | x :: r => uptoBulkEntry x + uptoBulkEntries r
def uptoBulkEntry {H : Type} : Lit × DataW H → Nat
  | (.string bytes, d) => bytes.length + uptoBulk d + 1
  | (_, d) => uptoBulk d + 1
 end
def uptoSmall : (H : Type) → List (DataW H) → Bool := fun _ ds => decide (uptoBulkAll ds ≤ 1048576)
def OpenSpec.upto (s : _root_.Go.ChangeSpec) : _root_.Go.OpenSpec := { _root_.Go.OpenSpec.ofChange s with cond := some uptoSmall }

/-- 'satchellaw09.ManifestMakes', WHERE WHAT IT READS IS OF BULK AT MOST 1048576: true; the input reads as it did. -/
def manifestMakesUptoRow : OpenClaim := { program := "ytbfpbibkklfnfaagreat", sum := "1b4d931dc3c2ec85d1af002f1c1a851fb5077eaf46978c6cb33bb79248ee862f", func := "satchel/satchellaw09.ManifestMakes", spec := "manifestMakes", inPlace := ["internal/bytealg.IndexByteString", "internal/bytealg.IndexString"], unfollowed := true, recurses := true, named := ["internal/bytealg.MaxLen"], plainKeys := false, apart := false, narrowed := true }
def ManifestMakesUptoSaid : Prop := manifestMakesUptoRow.holds Tryz.pinned (OpenSpec.upto manifestMakesSpec)

/-- 'satchellaw09.ManifestReads', WHERE WHAT IT READS IS OF BULK AT MOST 1048576: true; the input reads as it did. -/
def manifestReadsUptoRow : OpenClaim := { program := "ytbfpbibkklfnfaagreat", sum := "1b4d931dc3c2ec85d1af002f1c1a851fb5077eaf46978c6cb33bb79248ee862f", func := "satchel/satchellaw09.ManifestReads", spec := "manifestReads", inPlace := ["internal/bytealg.IndexByteString", "internal/bytealg.IndexString"], unfollowed := true, recurses := true, named := ["internal/bytealg.MaxLen"], plainKeys := false, apart := false, narrowed := true }
def ManifestReadsUptoSaid : Prop := manifestReadsUptoRow.holds Tryz.pinned (OpenSpec.upto manifestReadsSpec)

/-- 'satchellaw09.ManifestBuilds', WHERE WHAT IT READS IS OF BULK AT MOST 1048576: true; the input reads as it did. -/
def manifestBuildsUptoRow : OpenClaim := { program := "ytbfpbibkklfnfaagreat", sum := "1b4d931dc3c2ec85d1af002f1c1a851fb5077eaf46978c6cb33bb79248ee862f", func := "satchel/satchellaw09.ManifestBuilds", spec := "manifestBuilds", inPlace := ["internal/bytealg.IndexByteString", "internal/bytealg.IndexString"], unfollowed := true, recurses := true, named := ["internal/bytealg.MaxLen"], plainKeys := false, apart := false, narrowed := true }
def ManifestBuildsUptoSaid : Prop := manifestBuildsUptoRow.holds Tryz.pinned (OpenSpec.upto manifestBuildsSpec)

/-- 'satchellaw09.ManifestBack', WHERE WHAT IT READS IS OF BULK AT MOST 1048576: true; the input reads as it did. -/
def manifestBackUptoRow : OpenClaim := { program := "ytbfpbibkklfnfaagreat", sum := "1b4d931dc3c2ec85d1af002f1c1a851fb5077eaf46978c6cb33bb79248ee862f", func := "satchel/satchellaw09.ManifestBack", spec := "manifestBack", inPlace := ["internal/bytealg.IndexByteString", "internal/bytealg.IndexString"], unfollowed := true, recurses := true, named := ["internal/bytealg.MaxLen"], plainKeys := false, apart := false, narrowed := true }
def ManifestBackUptoSaid : Prop := manifestBackUptoRow.holds Tryz.pinned (OpenSpec.upto manifestBackSpec)

/-- 'satchellaw09.ManifestBytes', WHERE WHAT IT READS IS OF BULK AT MOST 1048576: true; the input reads as it did. -/
def manifestBytesUptoRow : OpenClaim := { program := "ytbfpbibkklfnfaagreat", sum := "1b4d931dc3c2ec85d1af002f1c1a851fb5077eaf46978c6cb33bb79248ee862f", func := "satchel/satchellaw09.ManifestBytes", spec := "manifestBytes", inPlace := ["internal/bytealg.IndexByteString", "internal/bytealg.IndexString"], unfollowed := true, recurses := true, named := ["internal/bytealg.MaxLen"], plainKeys := false, apart := false, narrowed := true }
def ManifestBytesUptoSaid : Prop := manifestBytesUptoRow.holds Tryz.pinned (OpenSpec.upto manifestBytesSpec)

end Rows
end Go.Proofs.YtbfpbibkklfnfaaGreat
