/-
  No cell of these rows narrows 'for every input' (looked for: loops, veiled, ifaces, maps, wideKeys, modest, calm, conditions, laid).
  DERIVED. THE GIVEN ROWS OF THIS SEAT. 11 by the template 'for every input the law returns true; each argument reads behind the call as it read before'; 0 by the template 'total and deterministic' (their statements: YtiiibfpijmmbfaaTotals.lean).
  GIVEN WITH THE SEED: the statements are not yours to turn. If you find one false, say at which input.
  Laid BY PROGRAM, IN A SANDBOX (cutbox-rows.mjs): the forced cells as the released guide's own fill.sh prints them over the translation 2c272cc2fbac99cd… (all of the seat's roots in one cut). By AI agents, Wed Nov 11 2026. No macro, syntax, notation, axiom, sorry.
-/
import Derived.Test.YtiiibfpijmmbfaaChecked
import GoSem.Claim
import GoSem.ClaimJoined
import GoSem.ClaimMapViews
import Derived.JoinedTies
import Derived.KernelRfl
namespace Go.Proofs.Ytiiibfpijmmbfaa
/- THE CELL 'sum', in the pinned program and in every row, IS THE sha256 OF THE DUMP (.gsa) THAT YtiiibfpijmmbfaaProg.lean LOADS. Nothing in Lean hashes anything: it is a label: what it is worth is what the hold of that sum in a sandbox is worth. -/
noncomputable def Try.pinned : Pinned := { name := "ytiiibfpijmmbfaa", sum := "2c272cc2fbac99cd04f225d633e0fd4c4ccbcad0c8a3497e89b87bcee333334d", checked := Try.checked }
namespace Rows
def none {H : Type} : Left H := { results := [], args := [] }

/-- 'laws.FnExactApplyEdit': WHATEVER THE INPUT: true; the input reads as it did. -/
def fnExactApplyEditSpec : ChangeSpec := { name := "fnExactApplyEdit", fn := fun _ => fun
  | [d1, d2] => { results := [.lit (.bool true)], args := [d1, d2] }
  | _ => none }
def fnExactApplyEditRow : OpenClaim := { program := "ytiiibfpijmmbfaa", sum := "2c272cc2fbac99cd04f225d633e0fd4c4ccbcad0c8a3497e89b87bcee333334d", func := "loop.example/g03001/laws.FnExactApplyEdit", spec := "fnExactApplyEdit", inPlace := ["slices.overlaps[loop.example/g03001/impl.Node]"], apart := false }
def FnExactApplyEditSaid : Prop := fnExactApplyEditRow.holds Try.pinned (OpenSpec.ofChange fnExactApplyEditSpec)

/-- ITS FALSE NEIGHBOUR: 'it returns false'. Refute it at one input. -/
def fnExactApplyEditWrong : ChangeSpec := { name := "fnExactApplyEdit", fn := fun _ => fun
  | [d1, d2] => { results := [.lit (.bool false)], args := [d1, d2] }
  | _ => none }
def FnExactApplyEditWrongFalsely : Prop := fnExactApplyEditRow.holds Try.pinned (OpenSpec.ofChange fnExactApplyEditWrong)

/-- 'laws.FnExactRunEdits': WHATEVER THE INPUT: true; the input reads as it did. -/
def fnExactRunEditsSpec : ChangeSpec := { name := "fnExactRunEdits", fn := fun _ => fun
  | [d1, d2] => { results := [.lit (.bool true)], args := [d1, d2] }
  | _ => none }
def fnExactRunEditsRow : OpenClaim := { program := "ytiiibfpijmmbfaa", sum := "2c272cc2fbac99cd04f225d633e0fd4c4ccbcad0c8a3497e89b87bcee333334d", func := "loop.example/g03001/laws.FnExactRunEdits", spec := "fnExactRunEdits", inPlace := ["slices.overlaps[loop.example/g03001/impl.Node]"], apart := false }
def FnExactRunEditsSaid : Prop := fnExactRunEditsRow.holds Try.pinned (OpenSpec.ofChange fnExactRunEditsSpec)

/-- ITS FALSE NEIGHBOUR: 'it returns false'. Refute it at one input. -/
def fnExactRunEditsWrong : ChangeSpec := { name := "fnExactRunEdits", fn := fun _ => fun
  | [d1, d2] => { results := [.lit (.bool false)], args := [d1, d2] }
  | _ => none }
def FnExactRunEditsWrongFalsely : Prop := fnExactRunEditsRow.holds Try.pinned (OpenSpec.ofChange fnExactRunEditsWrong)

/-- 'laws.FnExactTakeBack': WHATEVER THE INPUT: true; the input reads as it did. -/
def fnExactTakeBackSpec : ChangeSpec := { name := "fnExactTakeBack", fn := fun _ => fun
  | [d1, d2, d3] => { results := [.lit (.bool true)], args := [d1, d2, d3] }
  | _ => none }
def fnExactTakeBackRow : OpenClaim := { program := "ytiiibfpijmmbfaa", sum := "2c272cc2fbac99cd04f225d633e0fd4c4ccbcad0c8a3497e89b87bcee333334d", func := "loop.example/g03001/laws.FnExactTakeBack", spec := "fnExactTakeBack", inPlace := ["slices.overlaps[loop.example/g03001/impl.Node]"], apart := false }
def FnExactTakeBackSaid : Prop := fnExactTakeBackRow.holds Try.pinned (OpenSpec.ofChange fnExactTakeBackSpec)

/-- ITS FALSE NEIGHBOUR: 'it returns false'. Refute it at one input. -/
def fnExactTakeBackWrong : ChangeSpec := { name := "fnExactTakeBack", fn := fun _ => fun
  | [d1, d2, d3] => { results := [.lit (.bool false)], args := [d1, d2, d3] }
  | _ => none }
def FnExactTakeBackWrongFalsely : Prop := fnExactTakeBackRow.holds Try.pinned (OpenSpec.ofChange fnExactTakeBackWrong)

/-- 'laws.FnExactGuardEdit': WHATEVER THE INPUT: true; the input reads as it did. -/
def fnExactGuardEditSpec : ChangeSpec := { name := "fnExactGuardEdit", fn := fun _ => fun
  | [d1, d2, d3] => { results := [.lit (.bool true)], args := [d1, d2, d3] }
  | _ => none }
def fnExactGuardEditRow : OpenClaim := { program := "ytiiibfpijmmbfaa", sum := "2c272cc2fbac99cd04f225d633e0fd4c4ccbcad0c8a3497e89b87bcee333334d", func := "loop.example/g03001/laws.FnExactGuardEdit", spec := "fnExactGuardEdit", inPlace := ["slices.overlaps[loop.example/g03001/impl.Node]"], apart := false }
def FnExactGuardEditSaid : Prop := fnExactGuardEditRow.holds Try.pinned (OpenSpec.ofChange fnExactGuardEditSpec)

/-- ITS FALSE NEIGHBOUR: 'it returns false'. Refute it at one input. -/
def fnExactGuardEditWrong : ChangeSpec := { name := "fnExactGuardEdit", fn := fun _ => fun
  | [d1, d2, d3] => { results := [.lit (.bool false)], args := [d1, d2, d3] }
  | _ => none }
def FnExactGuardEditWrongFalsely : Prop := fnExactGuardEditRow.holds Try.pinned (OpenSpec.ofChange fnExactGuardEditWrong)

/-- 'laws.FnExactEditByHandle': WHATEVER THE INPUT: true; the input reads as it did. -/
def fnExactEditByHandleSpec : ChangeSpec := { name := "fnExactEditByHandle", fn := fun _ => fun
  | [d1, d2, d3, d4, d5, d6] => { results := [.lit (.bool true)], args := [d1, d2, d3, d4, d5, d6] }
  | _ => none }
def fnExactEditByHandleRow : OpenClaim := { program := "ytiiibfpijmmbfaa", sum := "2c272cc2fbac99cd04f225d633e0fd4c4ccbcad0c8a3497e89b87bcee333334d", func := "loop.example/g03001/laws.FnExactEditByHandle", spec := "fnExactEditByHandle", inPlace := ["slices.overlaps[loop.example/g03001/impl.Node]"], apart := false }
def FnExactEditByHandleSaid : Prop := fnExactEditByHandleRow.holds Try.pinned (OpenSpec.ofChange fnExactEditByHandleSpec)

/-- ITS FALSE NEIGHBOUR: 'it returns false'. Refute it at one input. -/
def fnExactEditByHandleWrong : ChangeSpec := { name := "fnExactEditByHandle", fn := fun _ => fun
  | [d1, d2, d3, d4, d5, d6] => { results := [.lit (.bool false)], args := [d1, d2, d3, d4, d5, d6] }
  | _ => none }
def FnExactEditByHandleWrongFalsely : Prop := fnExactEditByHandleRow.holds Try.pinned (OpenSpec.ofChange fnExactEditByHandleWrong)

/-- 'laws.FnSight': WHATEVER THE INPUT: true; the input reads as it did. -/
def fnSightSpec : ChangeSpec := { name := "fnSight", fn := fun _ => fun
  | [d] => { results := [.lit (.bool true)], args := [d] }
  | _ => none }
def fnSightRow : OpenClaim := { program := "ytiiibfpijmmbfaa", sum := "2c272cc2fbac99cd04f225d633e0fd4c4ccbcad0c8a3497e89b87bcee333334d", func := "loop.example/g03001/laws.FnSight", spec := "fnSight", inPlace := ["slices.overlaps[loop.example/g03001/impl.Node]"], apart := false }
def FnSightSaid : Prop := fnSightRow.holds Try.pinned (OpenSpec.ofChange fnSightSpec)

/-- ITS FALSE NEIGHBOUR: 'it returns false'. Refute it at one input. -/
def fnSightWrong : ChangeSpec := { name := "fnSight", fn := fun _ => fun
  | [d] => { results := [.lit (.bool false)], args := [d] }
  | _ => none }
def FnSightWrongFalsely : Prop := fnSightRow.holds Try.pinned (OpenSpec.ofChange fnSightWrong)

/-- 'laws.FnHandles': WHATEVER THE INPUT: true; the input reads as it did. -/
def fnHandlesSpec : ChangeSpec := { name := "fnHandles", fn := fun _ => fun
  | [d] => { results := [.lit (.bool true)], args := [d] }
  | _ => none }
def fnHandlesRow : OpenClaim := { program := "ytiiibfpijmmbfaa", sum := "2c272cc2fbac99cd04f225d633e0fd4c4ccbcad0c8a3497e89b87bcee333334d", func := "loop.example/g03001/laws.FnHandles", spec := "fnHandles", inPlace := ["slices.overlaps[loop.example/g03001/impl.Node]"], apart := false }
def FnHandlesSaid : Prop := fnHandlesRow.holds Try.pinned (OpenSpec.ofChange fnHandlesSpec)

/-- ITS FALSE NEIGHBOUR: 'it returns false'. Refute it at one input. -/
def fnHandlesWrong : ChangeSpec := { name := "fnHandles", fn := fun _ => fun
  | [d] => { results := [.lit (.bool false)], args := [d] }
  | _ => none }
def FnHandlesWrongFalsely : Prop := fnHandlesRow.holds Try.pinned (OpenSpec.ofChange fnHandlesWrong)

/-- 'laws.FnExactWorlds': WHATEVER THE INPUT: true; the input reads as it did. -/
def fnExactWorldsSpec : ChangeSpec := { name := "fnExactWorlds", fn := fun _ => fun
  | [d] => { results := [.lit (.bool true)], args := [d] }
  | _ => none }
def fnExactWorldsRow : OpenClaim := { program := "ytiiibfpijmmbfaa", sum := "2c272cc2fbac99cd04f225d633e0fd4c4ccbcad0c8a3497e89b87bcee333334d", func := "loop.example/g03001/laws.FnExactWorlds", spec := "fnExactWorlds", recurses := true, apart := false }
def FnExactWorldsSaid : Prop := fnExactWorldsRow.holds Try.pinned (OpenSpec.ofChange fnExactWorldsSpec)

/-- ITS FALSE NEIGHBOUR: 'it returns false'. Refute it at one input. -/
def fnExactWorldsWrong : ChangeSpec := { name := "fnExactWorlds", fn := fun _ => fun
  | [d] => { results := [.lit (.bool false)], args := [d] }
  | _ => none }
def FnExactWorldsWrongFalsely : Prop := fnExactWorldsRow.holds Try.pinned (OpenSpec.ofChange fnExactWorldsWrong)

/-- 'laws.FnExactTouched': WHATEVER THE INPUT: true; the input reads as it did. -/
def fnExactTouchedSpec : ChangeSpec := { name := "fnExactTouched", fn := fun _ => fun
  | [d1, d2] => { results := [.lit (.bool true)], args := [d1, d2] }
  | _ => none }
def fnExactTouchedRow : OpenClaim := { program := "ytiiibfpijmmbfaa", sum := "2c272cc2fbac99cd04f225d633e0fd4c4ccbcad0c8a3497e89b87bcee333334d", func := "loop.example/g03001/laws.FnExactTouched", spec := "fnExactTouched", recurses := true, apart := false }
def FnExactTouchedSaid : Prop := fnExactTouchedRow.holds Try.pinned (OpenSpec.ofChange fnExactTouchedSpec)

/-- ITS FALSE NEIGHBOUR: 'it returns false'. Refute it at one input. -/
def fnExactTouchedWrong : ChangeSpec := { name := "fnExactTouched", fn := fun _ => fun
  | [d1, d2] => { results := [.lit (.bool false)], args := [d1, d2] }
  | _ => none }
def FnExactTouchedWrongFalsely : Prop := fnExactTouchedRow.holds Try.pinned (OpenSpec.ofChange fnExactTouchedWrong)

/-- 'laws.FnExactLostWith': WHATEVER THE INPUT: true; the input reads as it did. -/
def fnExactLostWithSpec : ChangeSpec := { name := "fnExactLostWith", fn := fun _ => fun
  | [d1, d2, d3] => { results := [.lit (.bool true)], args := [d1, d2, d3] }
  | _ => none }
def fnExactLostWithRow : OpenClaim := { program := "ytiiibfpijmmbfaa", sum := "2c272cc2fbac99cd04f225d633e0fd4c4ccbcad0c8a3497e89b87bcee333334d", func := "loop.example/g03001/laws.FnExactLostWith", spec := "fnExactLostWith", inPlace := ["slices.overlaps[loop.example/g03001/impl.Node]"], recurses := true, apart := false }
def FnExactLostWithSaid : Prop := fnExactLostWithRow.holds Try.pinned (OpenSpec.ofChange fnExactLostWithSpec)

/-- ITS FALSE NEIGHBOUR: 'it returns false'. Refute it at one input. -/
def fnExactLostWithWrong : ChangeSpec := { name := "fnExactLostWith", fn := fun _ => fun
  | [d1, d2, d3] => { results := [.lit (.bool false)], args := [d1, d2, d3] }
  | _ => none }
def FnExactLostWithWrongFalsely : Prop := fnExactLostWithRow.holds Try.pinned (OpenSpec.ofChange fnExactLostWithWrong)

/-- 'laws.FnTakenBack': WHATEVER THE INPUT: true; the input reads as it did. -/
def fnTakenBackSpec : ChangeSpec := { name := "fnTakenBack", fn := fun _ => fun
  | [d] => { results := [.lit (.bool true)], args := [d] }
  | _ => none }
def fnTakenBackRow : OpenClaim := { program := "ytiiibfpijmmbfaa", sum := "2c272cc2fbac99cd04f225d633e0fd4c4ccbcad0c8a3497e89b87bcee333334d", func := "loop.example/g03001/laws.FnTakenBack", spec := "fnTakenBack", inPlace := ["slices.overlaps[loop.example/g03001/impl.Node]"], recurses := true, apart := false }
def FnTakenBackSaid : Prop := fnTakenBackRow.holds Try.pinned (OpenSpec.ofChange fnTakenBackSpec)

/-- ITS FALSE NEIGHBOUR: 'it returns false'. Refute it at one input. -/
def fnTakenBackWrong : ChangeSpec := { name := "fnTakenBack", fn := fun _ => fun
  | [d] => { results := [.lit (.bool false)], args := [d] }
  | _ => none }
def FnTakenBackWrongFalsely : Prop := fnTakenBackRow.holds Try.pinned (OpenSpec.ofChange fnTakenBackWrong)

/- THE SECOND FORM. 'bulk': how many values and letters a reading holds, each counted each time it is reached (what is shared counts as often as it is met; a slice's spare places count too). A statement '..UptoSaid' is the law's where the arguments, and the package variables that the reading takes, are together of bulk at most 1048576: NARROWER than '..Said'. Prove '..Said' where nothing that the law and all that it calls make is longer than what came in: it says more and counts as full. Else prove '..UptoSaid'. A law counts once. -/
mutual
def uptoBulk {H : Type} : DataW H → Nat
  | .lit (.string bytes) => bytes.length + 1
  | .lit _ => 1
  | .nil => 1
  | .ptr d => uptoBulk d + 1
  | .slice elems spare => uptoBulkAll elems + uptoBulkAll spare + 1
  | .agg parts => uptoBulkAll parts + 1
  | .iface _ d => uptoBulk d + 1
  | .map entries => uptoBulkEntries entries + 1
  | .held _ => 1
def uptoBulkAll {H : Type} : List (DataW H) → Nat
  | [] => 0
  | d :: r => uptoBulk d + uptoBulkAll r
def uptoBulkEntries {H : Type} : List (Lit × DataW H) → Nat
  | [] => 0
  | x :: r => uptoBulkEntry x + uptoBulkEntries r
def uptoBulkEntry {H : Type} : Lit × DataW H → Nat
  | (.string bytes, d) => bytes.length + uptoBulk d + 1
  | (_, d) => uptoBulk d + 1
 end
def uptoSmall : (H : Type) → List (DataW H) → Bool := fun _ ds => decide (uptoBulkAll ds ≤ 1048576)
def OpenSpec.upto (s : _root_.Go.ChangeSpec) : _root_.Go.OpenSpec := { _root_.Go.OpenSpec.ofChange s with cond := some uptoSmall }

/-- 'laws.FnExactApplyEdit', WHERE WHAT IT READS IS OF BULK AT MOST 1048576: true; the input reads as it did. -/
def fnExactApplyEditUptoRow : OpenClaim := { program := "ytiiibfpijmmbfaa", sum := "2c272cc2fbac99cd04f225d633e0fd4c4ccbcad0c8a3497e89b87bcee333334d", func := "loop.example/g03001/laws.FnExactApplyEdit", spec := "fnExactApplyEdit", inPlace := ["slices.overlaps[loop.example/g03001/impl.Node]"], apart := false, narrowed := true }
def FnExactApplyEditUptoSaid : Prop := fnExactApplyEditUptoRow.holds Try.pinned (OpenSpec.upto fnExactApplyEditSpec)

/-- 'laws.FnExactRunEdits', WHERE WHAT IT READS IS OF BULK AT MOST 1048576: true; the input reads as it did. -/
def fnExactRunEditsUptoRow : OpenClaim := { program := "ytiiibfpijmmbfaa", sum := "2c272cc2fbac99cd04f225d633e0fd4c4ccbcad0c8a3497e89b87bcee333334d", func := "loop.example/g03001/laws.FnExactRunEdits", spec := "fnExactRunEdits", inPlace := ["slices.overlaps[loop.example/g03001/impl.Node]"], apart := false, narrowed := true }
def FnExactRunEditsUptoSaid : Prop := fnExactRunEditsUptoRow.holds Try.pinned (OpenSpec.upto fnExactRunEditsSpec)

/-- 'laws.FnExactTakeBack', WHERE WHAT IT READS IS OF BULK AT MOST 1048576: true; the input reads as it did. -/
def fnExactTakeBackUptoRow : OpenClaim := { program := "ytiiibfpijmmbfaa", sum := "2c272cc2fbac99cd04f225d633e0fd4c4ccbcad0c8a3497e89b87bcee333334d", func := "loop.example/g03001/laws.FnExactTakeBack", spec := "fnExactTakeBack", inPlace := ["slices.overlaps[loop.example/g03001/impl.Node]"], apart := false, narrowed := true }
def FnExactTakeBackUptoSaid : Prop := fnExactTakeBackUptoRow.holds Try.pinned (OpenSpec.upto fnExactTakeBackSpec)

/-- 'laws.FnExactGuardEdit', WHERE WHAT IT READS IS OF BULK AT MOST 1048576: true; the input reads as it did. -/
def fnExactGuardEditUptoRow : OpenClaim := { program := "ytiiibfpijmmbfaa", sum := "2c272cc2fbac99cd04f225d633e0fd4c4ccbcad0c8a3497e89b87bcee333334d", func := "loop.example/g03001/laws.FnExactGuardEdit", spec := "fnExactGuardEdit", inPlace := ["slices.overlaps[loop.example/g03001/impl.Node]"], apart := false, narrowed := true }
def FnExactGuardEditUptoSaid : Prop := fnExactGuardEditUptoRow.holds Try.pinned (OpenSpec.upto fnExactGuardEditSpec)

/-- 'laws.FnExactEditByHandle', WHERE WHAT IT READS IS OF BULK AT MOST 1048576: true; the input reads as it did. -/
def fnExactEditByHandleUptoRow : OpenClaim := { program := "ytiiibfpijmmbfaa", sum := "2c272cc2fbac99cd04f225d633e0fd4c4ccbcad0c8a3497e89b87bcee333334d", func := "loop.example/g03001/laws.FnExactEditByHandle", spec := "fnExactEditByHandle", inPlace := ["slices.overlaps[loop.example/g03001/impl.Node]"], apart := false, narrowed := true }
def FnExactEditByHandleUptoSaid : Prop := fnExactEditByHandleUptoRow.holds Try.pinned (OpenSpec.upto fnExactEditByHandleSpec)

/-- 'laws.FnSight', WHERE WHAT IT READS IS OF BULK AT MOST 1048576: true; the input reads as it did. -/
def fnSightUptoRow : OpenClaim := { program := "ytiiibfpijmmbfaa", sum := "2c272cc2fbac99cd04f225d633e0fd4c4ccbcad0c8a3497e89b87bcee333334d", func := "loop.example/g03001/laws.FnSight", spec := "fnSight", inPlace := ["slices.overlaps[loop.example/g03001/impl.Node]"], apart := false, narrowed := true }
def FnSightUptoSaid : Prop := fnSightUptoRow.holds Try.pinned (OpenSpec.upto fnSightSpec)

/-- 'laws.FnHandles', WHERE WHAT IT READS IS OF BULK AT MOST 1048576: true; the input reads as it did. -/
def fnHandlesUptoRow : OpenClaim := { program := "ytiiibfpijmmbfaa", sum := "2c272cc2fbac99cd04f225d633e0fd4c4ccbcad0c8a3497e89b87bcee333334d", func := "loop.example/g03001/laws.FnHandles", spec := "fnHandles", inPlace := ["slices.overlaps[loop.example/g03001/impl.Node]"], apart := false, narrowed := true }
def FnHandlesUptoSaid : Prop := fnHandlesUptoRow.holds Try.pinned (OpenSpec.upto fnHandlesSpec)

/-- 'laws.FnExactWorlds', WHERE WHAT IT READS IS OF BULK AT MOST 1048576: true; the input reads as it did. -/
def fnExactWorldsUptoRow : OpenClaim := { program := "ytiiibfpijmmbfaa", sum := "2c272cc2fbac99cd04f225d633e0fd4c4ccbcad0c8a3497e89b87bcee333334d", func := "loop.example/g03001/laws.FnExactWorlds", spec := "fnExactWorlds", recurses := true, apart := false, narrowed := true }
def FnExactWorldsUptoSaid : Prop := fnExactWorldsUptoRow.holds Try.pinned (OpenSpec.upto fnExactWorldsSpec)

/-- 'laws.FnExactTouched', WHERE WHAT IT READS IS OF BULK AT MOST 1048576: true; the input reads as it did. -/
def fnExactTouchedUptoRow : OpenClaim := { program := "ytiiibfpijmmbfaa", sum := "2c272cc2fbac99cd04f225d633e0fd4c4ccbcad0c8a3497e89b87bcee333334d", func := "loop.example/g03001/laws.FnExactTouched", spec := "fnExactTouched", recurses := true, apart := false, narrowed := true }
def FnExactTouchedUptoSaid : Prop := fnExactTouchedUptoRow.holds Try.pinned (OpenSpec.upto fnExactTouchedSpec)

/-- 'laws.FnExactLostWith', WHERE WHAT IT READS IS OF BULK AT MOST 1048576: true; the input reads as it did. -/
def fnExactLostWithUptoRow : OpenClaim := { program := "ytiiibfpijmmbfaa", sum := "2c272cc2fbac99cd04f225d633e0fd4c4ccbcad0c8a3497e89b87bcee333334d", func := "loop.example/g03001/laws.FnExactLostWith", spec := "fnExactLostWith", inPlace := ["slices.overlaps[loop.example/g03001/impl.Node]"], recurses := true, apart := false, narrowed := true }
def FnExactLostWithUptoSaid : Prop := fnExactLostWithUptoRow.holds Try.pinned (OpenSpec.upto fnExactLostWithSpec)

/-- 'laws.FnTakenBack', WHERE WHAT IT READS IS OF BULK AT MOST 1048576: true; the input reads as it did. -/
def fnTakenBackUptoRow : OpenClaim := { program := "ytiiibfpijmmbfaa", sum := "2c272cc2fbac99cd04f225d633e0fd4c4ccbcad0c8a3497e89b87bcee333334d", func := "loop.example/g03001/laws.FnTakenBack", spec := "fnTakenBack", inPlace := ["slices.overlaps[loop.example/g03001/impl.Node]"], recurses := true, apart := false, narrowed := true }
def FnTakenBackUptoSaid : Prop := fnTakenBackUptoRow.holds Try.pinned (OpenSpec.upto fnTakenBackSpec)

end Rows
end Go.Proofs.Ytiiibfpijmmbfaa
