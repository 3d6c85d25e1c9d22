/-
  No cell of these rows narrows 'for every input' (looked for: loops, veiled, ifaces, maps, wideKeys, modest, calm, conditions, laid).
  DERIVED. THE GIVEN ROWS OF THIS SEAT. 5 by the template 'for every input the law returns true; each argument reads behind the call as it read before'; 0 by the template 'total and deterministic' (their statements: YtngbglhmiefcpaaGreatTotals.lean).
  GIVEN WITH THE SEED: the statements are not yours to turn. If you find one false, say at which input.
  Laid BY PROGRAM, IN A SANDBOX (cutbox-rows.mjs): the forced cells as the released guide's own fill.sh prints them over the translation 1abf87367b7a8464… (all of the seat's roots in one cut). By AI agents, Wed Nov 11 2026. No macro, syntax, notation, axiom, sorry.
-/
import Derived.Test.YtngbglhmiefcpaaGreatChecked
import GoSem.Claim
import GoSem.ClaimJoined
import GoSem.ClaimMapViews
import Derived.JoinedTies
import Derived.KernelRfl
namespace Go.Proofs.YtngbglhmiefcpaaGreat
/- THE CELL 'sum', in the pinned program and in every row, IS THE sha256 OF THE DUMP (.gsa) THAT YtngbglhmiefcpaaGreatProg.lean LOADS. Nothing in Lean hashes anything: it is a label: what it is worth is what the hold of that sum in a sandbox is worth. -/
noncomputable def Tryz.pinned : Pinned := { name := "ytngbglhmiefcpaagreat", sum := "1abf87367b7a8464c1e7cc030b62027d3f94b70ec6f204ee83397482c3beafef", checked := Tryz.checked }
namespace Rows
def none {H : Type} : Left H := { results := [], args := [] }

/-- 'satchellaw27.PlanKnown': WHATEVER THE INPUT: true; the input reads as it did. -/
def planKnownSpec : ChangeSpec := { name := "planKnown", fn := fun _ => fun
  | [] => { results := [.lit (.bool true)], args := [] }
  | _ => none }
def planKnownRow : OpenClaim := { program := "ytngbglhmiefcpaagreat", sum := "1abf87367b7a8464c1e7cc030b62027d3f94b70ec6f204ee83397482c3beafef", func := "satchel/satchellaw27.PlanKnown", spec := "planKnown", inPlace := ["internal/bytealg.IndexByteString", "internal/bytealg.IndexString"], unfollowed := true, recurses := true, named := ["internal/bytealg.MaxLen"], plainKeys := false, apart := false }
def PlanKnownSaid : Prop := planKnownRow.holds Tryz.pinned (OpenSpec.ofChange planKnownSpec)

/-- ITS FALSE NEIGHBOUR: 'it returns false'. Refute it at one input. -/
def planKnownWrong : ChangeSpec := { name := "planKnown", fn := fun _ => fun
  | [] => { results := [.lit (.bool false)], args := [] }
  | _ => none }
def PlanKnownWrongFalsely : Prop := planKnownRow.holds Tryz.pinned (OpenSpec.ofChange planKnownWrong)

/-- 'satchellaw27.PlanGives': WHATEVER THE INPUT: true; the input reads as it did. -/
def planGivesSpec : ChangeSpec := { name := "planGives", fn := fun _ => fun
  | [d1, d2, d3, d4, d5, d6] => { results := [.lit (.bool true)], args := [d1, d2, d3, d4, d5, d6] }
  | _ => none }
def planGivesRow : OpenClaim := { program := "ytngbglhmiefcpaagreat", sum := "1abf87367b7a8464c1e7cc030b62027d3f94b70ec6f204ee83397482c3beafef", func := "satchel/satchellaw27.PlanGives", spec := "planGives", inPlace := ["internal/bytealg.IndexByteString", "internal/bytealg.IndexString"], unfollowed := true, recurses := true, named := ["internal/bytealg.MaxLen"], plainKeys := false, apart := false }
def PlanGivesSaid : Prop := planGivesRow.holds Tryz.pinned (OpenSpec.ofChange planGivesSpec)

/-- ITS FALSE NEIGHBOUR: 'it returns false'. Refute it at one input. -/
def planGivesWrong : ChangeSpec := { name := "planGives", fn := fun _ => fun
  | [d1, d2, d3, d4, d5, d6] => { results := [.lit (.bool false)], args := [d1, d2, d3, d4, d5, d6] }
  | _ => none }
def PlanGivesWrongFalsely : Prop := planGivesRow.holds Tryz.pinned (OpenSpec.ofChange planGivesWrong)

/-- 'satchellaw27.PlanEnds': WHATEVER THE INPUT: true; the input reads as it did. -/
def planEndsSpec : ChangeSpec := { name := "planEnds", fn := fun _ => fun
  | [d1, d2, d3, d4, d5] => { results := [.lit (.bool true)], args := [d1, d2, d3, d4, d5] }
  | _ => none }
def planEndsRow : OpenClaim := { program := "ytngbglhmiefcpaagreat", sum := "1abf87367b7a8464c1e7cc030b62027d3f94b70ec6f204ee83397482c3beafef", func := "satchel/satchellaw27.PlanEnds", spec := "planEnds", inPlace := ["internal/bytealg.IndexByteString", "internal/bytealg.IndexString"], unfollowed := true, recurses := true, named := ["internal/bytealg.MaxLen"], plainKeys := false, apart := false }
def PlanEndsSaid : Prop := planEndsRow.holds Tryz.pinned (OpenSpec.ofChange planEndsSpec)

/-- ITS FALSE NEIGHBOUR: 'it returns false'. Refute it at one input. -/
def planEndsWrong : ChangeSpec := { name := "planEnds", fn := fun _ => fun
  | [d1, d2, d3, d4, d5] => { results := [.lit (.bool false)], args := [d1, d2, d3, d4, d5] }
  | _ => none }
def PlanEndsWrongFalsely : Prop := planEndsRow.holds Tryz.pinned (OpenSpec.ofChange planEndsWrong)

/-- 'satchellaw27.PlanScript': WHATEVER THE INPUT: true; the input reads as it did. -/
def planScriptSpec : ChangeSpec := { name := "planScript", fn := fun _ => fun
  | [d1, d2, d3, d4, d5] => { results := [.lit (.bool true)], args := [d1, d2, d3, d4, d5] }
  | _ => none }
def planScriptRow : OpenClaim := { program := "ytngbglhmiefcpaagreat", sum := "1abf87367b7a8464c1e7cc030b62027d3f94b70ec6f204ee83397482c3beafef", func := "satchel/satchellaw27.PlanScript", spec := "planScript", inPlace := ["internal/bytealg.IndexByteString", "internal/bytealg.IndexString"], unfollowed := true, recurses := true, named := ["internal/bytealg.MaxLen"], plainKeys := false, apart := false }
def PlanScriptSaid : Prop := planScriptRow.holds Tryz.pinned (OpenSpec.ofChange planScriptSpec)

/-- ITS FALSE NEIGHBOUR: 'it returns false'. Refute it at one input. -/
def planScriptWrong : ChangeSpec := { name := "planScript", fn := fun _ => fun
  | [d1, d2, d3, d4, d5] => { results := [.lit (.bool false)], args := [d1, d2, d3, d4, d5] }
  | _ => none }
def PlanScriptWrongFalsely : Prop := planScriptRow.holds Tryz.pinned (OpenSpec.ofChange planScriptWrong)

/-- 'satchellaw27.PlanNone': WHATEVER THE INPUT: true; the input reads as it did. -/
def planNoneSpec : ChangeSpec := { name := "planNone", fn := fun _ => fun
  | [d] => { results := [.lit (.bool true)], args := [d] }
  | _ => none }
def planNoneRow : OpenClaim := { program := "ytngbglhmiefcpaagreat", sum := "1abf87367b7a8464c1e7cc030b62027d3f94b70ec6f204ee83397482c3beafef", func := "satchel/satchellaw27.PlanNone", spec := "planNone", inPlace := ["internal/bytealg.IndexByteString", "internal/bytealg.IndexString"], unfollowed := true, recurses := true, named := ["internal/bytealg.MaxLen"], plainKeys := false, apart := false }
def PlanNoneSaid : Prop := planNoneRow.holds Tryz.pinned (OpenSpec.ofChange planNoneSpec)

/-- ITS FALSE NEIGHBOUR: 'it returns false'. Refute it at one input. -/
def planNoneWrong : ChangeSpec := { name := "planNone", fn := fun _ => fun
  | [d] => { results := [.lit (.bool false)], args := [d] }
  | _ => none }
def PlanNoneWrongFalsely : Prop := planNoneRow.holds Tryz.pinned (OpenSpec.ofChange planNoneWrong)

/- THE SECOND FORM. 'bulk': how many values and letters a reading holds, each counted each time it is reached (what is shared counts as often as it is met; a slice's spare places count too). A statement '..UptoSaid' is the law's where the arguments, and the package variables that the reading takes, are together of bulk at most 1048576: NARROWER than '..Said'. Prove '..Said' where nothing that the law and all that it calls make is longer than what came in: it says more and counts as full. Else prove '..UptoSaid'. A law counts once. -/
mutual
def uptoBulk {H : Type} : DataW H → Nat
  | .lit (.string bytes) => bytes.length + 1
  | .lit _ => 1
  | .nil => 1
  | .ptr d => uptoBulk d + 1
  | .slice elems spare => uptoBulkAll elems + uptoBulkAll spare + 1
  | .agg parts => uptoBulkAll parts + 1
  | .iface _ d => uptoBulk d + 1
  | .map entries => uptoBulkEntries entries + 1
  | .held _ => 1
def uptoBulkAll {H : Type} : List (DataW H) → Nat
  | [] => 0
  | d :: r => uptoBulk d + uptoBulkAll r
def uptoBulkEntries {H : Type} : List (Lit × DataW H) → Nat
  | [] => 0
  | x :: r => uptoBulkEntry x + uptoBulkEntries r
def uptoBulkEntry {H : Type} : Lit × DataW H → Nat
  | (.string bytes, d) => bytes.length + uptoBulk d + 1
  | (_, d) => uptoBulk d + 1
 end
def uptoSmall : (H : Type) → List (DataW H) → Bool := fun _ ds => decide (uptoBulkAll ds ≤ 1048576)
def OpenSpec.upto (s : _root_.Go.ChangeSpec) : _root_.Go.OpenSpec := { _root_.Go.OpenSpec.ofChange s with cond := some uptoSmall }

/-- 'satchellaw27.PlanKnown', WHERE WHAT IT READS IS OF BULK AT MOST 1048576: true; the input reads as it did. -/
def planKnownUptoRow : OpenClaim := { program := "ytngbglhmiefcpaagreat", sum := "1abf87367b7a8464c1e7cc030b62027d3f94b70ec6f204ee83397482c3beafef", func := "satchel/satchellaw27.PlanKnown", spec := "planKnown", inPlace := ["internal/bytealg.IndexByteString", "internal/bytealg.IndexString"], unfollowed := true, recurses := true, named := ["internal/bytealg.MaxLen"], plainKeys := false, apart := false, narrowed := true }
def PlanKnownUptoSaid : Prop := planKnownUptoRow.holds Tryz.pinned (OpenSpec.upto planKnownSpec)

/-- 'satchellaw27.PlanGives', WHERE WHAT IT READS IS OF BULK AT MOST 1048576: true; the input reads as it did. -/
def planGivesUptoRow : OpenClaim := { program := "ytngbglhmiefcpaagreat", sum := "1abf87367b7a8464c1e7cc030b62027d3f94b70ec6f204ee83397482c3beafef", func := "satchel/satchellaw27.PlanGives", spec := "planGives", inPlace := ["internal/bytealg.IndexByteString", "internal/bytealg.IndexString"], unfollowed := true, recurses := true, named := ["internal/bytealg.MaxLen"], plainKeys := false, apart := false, narrowed := true }
def PlanGivesUptoSaid : Prop := planGivesUptoRow.holds Tryz.pinned (OpenSpec.upto planGivesSpec)

/-- 'satchellaw27.PlanEnds', WHERE WHAT IT READS IS OF BULK AT MOST 1048576: true; the input reads as it did. -/
def planEndsUptoRow : OpenClaim := { program := "ytngbglhmiefcpaagreat", sum := "1abf87367b7a8464c1e7cc030b62027d3f94b70ec6f204ee83397482c3beafef", func := "satchel/satchellaw27.PlanEnds", spec := "planEnds", inPlace := ["internal/bytealg.IndexByteString", "internal/bytealg.IndexString"], unfollowed := true, recurses := true, named := ["internal/bytealg.MaxLen"], plainKeys := false, apart := false, narrowed := true }
def PlanEndsUptoSaid : Prop := planEndsUptoRow.holds Tryz.pinned (OpenSpec.upto planEndsSpec)

/-- 'satchellaw27.PlanScript', WHERE WHAT IT READS IS OF BULK AT MOST 1048576: true; the input reads as it did. -/
def planScriptUptoRow : OpenClaim := { program := "ytngbglhmiefcpaagreat", sum := "1abf87367b7a8464c1e7cc030b62027d3f94b70ec6f204ee83397482c3beafef", func := "satchel/satchellaw27.PlanScript", spec := "planScript", inPlace := ["internal/bytealg.IndexByteString", "internal/bytealg.IndexString"], unfollowed := true, recurses := true, named := ["internal/bytealg.MaxLen"], plainKeys := false, apart := false, narrowed := true }
def PlanScriptUptoSaid : Prop := planScriptUptoRow.holds Tryz.pinned (OpenSpec.upto planScriptSpec)

/-- 'satchellaw27.PlanNone', WHERE WHAT IT READS IS OF BULK AT MOST 1048576: true; the input reads as it did. -/
def planNoneUptoRow : OpenClaim := { program := "ytngbglhmiefcpaagreat", sum := "1abf87367b7a8464c1e7cc030b62027d3f94b70ec6f204ee83397482c3beafef", func := "satchel/satchellaw27.PlanNone", spec := "planNone", inPlace := ["internal/bytealg.IndexByteString", "internal/bytealg.IndexString"], unfollowed := true, recurses := true, named := ["internal/bytealg.MaxLen"], plainKeys := false, apart := false, narrowed := true }
def PlanNoneUptoSaid : Prop := planNoneUptoRow.holds Tryz.pinned (OpenSpec.upto planNoneSpec)

end Rows
end Go.Proofs.YtngbglhmiefcpaaGreat
