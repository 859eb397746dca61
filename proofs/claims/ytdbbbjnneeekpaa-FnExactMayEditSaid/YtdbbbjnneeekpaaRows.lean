/-
  No cell of these rows narrows 'for every input' (looked for: loops, veiled, ifaces, maps, wideKeys, modest, calm, conditions, laid).
  DERIVED. THE GIVEN ROWS OF THIS SEAT. 6 by the template 'for every input the law returns true; each argument reads behind the call as it read before'; 0 by the template 'total and deterministic' (their statements: YtdbbbjnneeekpaaTotals.lean).
  GIVEN WITH THE SEED: the statements are not yours to turn. If you find one false, say at which input.
  Laid BY PROGRAM, IN A SANDBOX (cutbox-rows.mjs): the forced cells as the released guide's own fill.sh prints them over the translation 0ac8819a0f45283b… (all of the seat's roots in one cut). By AI agents, Wed Nov 11 2026. No macro, syntax, notation, axiom, sorry.
-/
import Derived.Test.YtdbbbjnneeekpaaChecked
import GoSem.Claim
import GoSem.ClaimJoined
import GoSem.ClaimMapViews
import Derived.JoinedTies
import Derived.KernelRfl
namespace Go.Proofs.Ytdbbbjnneeekpaa
/- THE CELL 'sum', in the pinned program and in every row, IS THE sha256 OF THE DUMP (.gsa) THAT YtdbbbjnneeekpaaProg.lean LOADS. Nothing in Lean hashes anything: it is a label: what it is worth is what the hold of that sum in a sandbox is worth. -/
noncomputable def Try.pinned : Pinned := { name := "ytdbbbjnneeekpaa", sum := "0ac8819a0f45283b74386d81baadca6036e9743356715e60fa104d0c8a2b65fd", checked := Try.checked }
namespace Rows
def none {H : Type} : Left H := { results := [], args := [] }

/-- 'laws.FnExactResolveHandle': WHATEVER THE INPUT: true; the input reads as it did. -/
def fnExactResolveHandleSpec : ChangeSpec := { name := "fnExactResolveHandle", fn := fun _ => fun
  | [d1, d2, d3, d4, d5] => { results := [.lit (.bool true)], args := [d1, d2, d3, d4, d5] }
  | _ => none }
def fnExactResolveHandleRow : OpenClaim := { program := "ytdbbbjnneeekpaa", sum := "0ac8819a0f45283b74386d81baadca6036e9743356715e60fa104d0c8a2b65fd", func := "loop.example/g03001/laws.FnExactResolveHandle", spec := "fnExactResolveHandle", apart := false }
def FnExactResolveHandleSaid : Prop := fnExactResolveHandleRow.holds Try.pinned (OpenSpec.ofChange fnExactResolveHandleSpec)

/-- ITS FALSE NEIGHBOUR: 'it returns false'. Refute it at one input. -/
def fnExactResolveHandleWrong : ChangeSpec := { name := "fnExactResolveHandle", fn := fun _ => fun
  | [d1, d2, d3, d4, d5] => { results := [.lit (.bool false)], args := [d1, d2, d3, d4, d5] }
  | _ => none }
def FnExactResolveHandleWrongFalsely : Prop := fnExactResolveHandleRow.holds Try.pinned (OpenSpec.ofChange fnExactResolveHandleWrong)

/-- 'laws.FnExactMayEdit': WHATEVER THE INPUT: true; the input reads as it did. -/
def fnExactMayEditSpec : ChangeSpec := { name := "fnExactMayEdit", fn := fun _ => fun
  | [d1, d2, d3] => { results := [.lit (.bool true)], args := [d1, d2, d3] }
  | _ => none }
def fnExactMayEditRow : OpenClaim := { program := "ytdbbbjnneeekpaa", sum := "0ac8819a0f45283b74386d81baadca6036e9743356715e60fa104d0c8a2b65fd", func := "loop.example/g03001/laws.FnExactMayEdit", spec := "fnExactMayEdit", apart := false }
def FnExactMayEditSaid : Prop := fnExactMayEditRow.holds Try.pinned (OpenSpec.ofChange fnExactMayEditSpec)

/-- ITS FALSE NEIGHBOUR: 'it returns false'. Refute it at one input. -/
def fnExactMayEditWrong : ChangeSpec := { name := "fnExactMayEdit", fn := fun _ => fun
  | [d1, d2, d3] => { results := [.lit (.bool false)], args := [d1, d2, d3] }
  | _ => none }
def FnExactMayEditWrongFalsely : Prop := fnExactMayEditRow.holds Try.pinned (OpenSpec.ofChange fnExactMayEditWrong)

/-- 'laws.FnExactForeignHandles': WHATEVER THE INPUT: true; the input reads as it did. -/
def fnExactForeignHandlesSpec : ChangeSpec := { name := "fnExactForeignHandles", fn := fun _ => fun
  | [d1, d2, d3, d4, d5] => { results := [.lit (.bool true)], args := [d1, d2, d3, d4, d5] }
  | _ => none }
def fnExactForeignHandlesRow : OpenClaim := { program := "ytdbbbjnneeekpaa", sum := "0ac8819a0f45283b74386d81baadca6036e9743356715e60fa104d0c8a2b65fd", func := "loop.example/g03001/laws.FnExactForeignHandles", spec := "fnExactForeignHandles", apart := false }
def FnExactForeignHandlesSaid : Prop := fnExactForeignHandlesRow.holds Try.pinned (OpenSpec.ofChange fnExactForeignHandlesSpec)

/-- ITS FALSE NEIGHBOUR: 'it returns false'. Refute it at one input. -/
def fnExactForeignHandlesWrong : ChangeSpec := { name := "fnExactForeignHandles", fn := fun _ => fun
  | [d1, d2, d3, d4, d5] => { results := [.lit (.bool false)], args := [d1, d2, d3, d4, d5] }
  | _ => none }
def FnExactForeignHandlesWrongFalsely : Prop := fnExactForeignHandlesRow.holds Try.pinned (OpenSpec.ofChange fnExactForeignHandlesWrong)

/-- 'laws.FnExactHandlesFor': WHATEVER THE INPUT: true; the input reads as it did. -/
def fnExactHandlesForSpec : ChangeSpec := { name := "fnExactHandlesFor", fn := fun _ => fun
  | [d1, d2, d3, d4] => { results := [.lit (.bool true)], args := [d1, d2, d3, d4] }
  | _ => none }
def fnExactHandlesForRow : OpenClaim := { program := "ytdbbbjnneeekpaa", sum := "0ac8819a0f45283b74386d81baadca6036e9743356715e60fa104d0c8a2b65fd", func := "loop.example/g03001/laws.FnExactHandlesFor", spec := "fnExactHandlesFor", apart := false }
def FnExactHandlesForSaid : Prop := fnExactHandlesForRow.holds Try.pinned (OpenSpec.ofChange fnExactHandlesForSpec)

/-- ITS FALSE NEIGHBOUR: 'it returns false'. Refute it at one input. -/
def fnExactHandlesForWrong : ChangeSpec := { name := "fnExactHandlesFor", fn := fun _ => fun
  | [d1, d2, d3, d4] => { results := [.lit (.bool false)], args := [d1, d2, d3, d4] }
  | _ => none }
def FnExactHandlesForWrongFalsely : Prop := fnExactHandlesForRow.holds Try.pinned (OpenSpec.ofChange fnExactHandlesForWrong)

/-- 'laws.FnExactApplyEdit': WHATEVER THE INPUT: true; the input reads as it did. -/
def fnExactApplyEditSpec : ChangeSpec := { name := "fnExactApplyEdit", fn := fun _ => fun
  | [d1, d2] => { results := [.lit (.bool true)], args := [d1, d2] }
  | _ => none }
def fnExactApplyEditRow : OpenClaim := { program := "ytdbbbjnneeekpaa", sum := "0ac8819a0f45283b74386d81baadca6036e9743356715e60fa104d0c8a2b65fd", func := "loop.example/g03001/laws.FnExactApplyEdit", spec := "fnExactApplyEdit", inPlace := ["slices.overlaps[loop.example/g03001/impl.Node]"], apart := false }
def FnExactApplyEditSaid : Prop := fnExactApplyEditRow.holds Try.pinned (OpenSpec.ofChange fnExactApplyEditSpec)

/-- ITS FALSE NEIGHBOUR: 'it returns false'. Refute it at one input. -/
def fnExactApplyEditWrong : ChangeSpec := { name := "fnExactApplyEdit", fn := fun _ => fun
  | [d1, d2] => { results := [.lit (.bool false)], args := [d1, d2] }
  | _ => none }
def FnExactApplyEditWrongFalsely : Prop := fnExactApplyEditRow.holds Try.pinned (OpenSpec.ofChange fnExactApplyEditWrong)

/-- 'laws.FnSight': WHATEVER THE INPUT: true; the input reads as it did. -/
def fnSightSpec : ChangeSpec := { name := "fnSight", fn := fun _ => fun
  | [d] => { results := [.lit (.bool true)], args := [d] }
  | _ => none }
def fnSightRow : OpenClaim := { program := "ytdbbbjnneeekpaa", sum := "0ac8819a0f45283b74386d81baadca6036e9743356715e60fa104d0c8a2b65fd", func := "loop.example/g03001/laws.FnSight", spec := "fnSight", inPlace := ["slices.overlaps[loop.example/g03001/impl.Node]"], apart := false }
def FnSightSaid : Prop := fnSightRow.holds Try.pinned (OpenSpec.ofChange fnSightSpec)

/-- ITS FALSE NEIGHBOUR: 'it returns false'. Refute it at one input. -/
def fnSightWrong : ChangeSpec := { name := "fnSight", fn := fun _ => fun
  | [d] => { results := [.lit (.bool false)], args := [d] }
  | _ => none }
def FnSightWrongFalsely : Prop := fnSightRow.holds Try.pinned (OpenSpec.ofChange fnSightWrong)

/- THE SECOND FORM. 'bulk': how many values and letters a reading holds, each counted each time it is reached (what is shared counts as often as it is met; a slice's spare places count too). A statement '..UptoSaid' is the law's where the arguments, and the package variables that the reading takes, are together of bulk at most 1048576: NARROWER than '..Said'. Prove '..Said' where nothing that the law and all that it calls make is longer than what came in: it says more and counts as full. Else prove '..UptoSaid'. A law counts once. -/
mutual
def uptoBulk {H : Type} : DataW H → Nat
  | .lit (.string bytes) => bytes.length + 1
  | .lit _ => 1
  | .nil => 1
  | .ptr d => uptoBulk d + 1
  | .slice elems spare => uptoBulkAll elems + uptoBulkAll spare + 1
  | .agg parts => uptoBulkAll parts + 1
  | .iface _ d => uptoBulk d + 1
  | .map entries => uptoBulkEntries entries + 1
  | .held _ => 1
def uptoBulkAll {H : Type} : List (DataW H) → Nat
  | [] => 0
  | d :: r => uptoBulk d + uptoBulkAll r
def uptoBulkEntries {H : Type} : List (Lit × DataW H) → Nat
  | [] => 0
  | x :: r => uptoBulkEntry x + uptoBulkEntries r
def uptoBulkEntry {H : Type} : Lit × DataW H → Nat
  | (.string bytes, d) => bytes.length + uptoBulk d + 1
  | (_, d) => uptoBulk d + 1
 end
def uptoSmall : (H : Type) → List (DataW H) → Bool := fun _ ds => decide (uptoBulkAll ds ≤ 1048576)
def OpenSpec.upto (s : _root_.Go.ChangeSpec) : _root_.Go.OpenSpec := { _root_.Go.OpenSpec.ofChange s with cond := some uptoSmall }

/-- 'laws.FnExactResolveHandle', WHERE WHAT IT READS IS OF BULK AT MOST 1048576: true; the input reads as it did. -/
def fnExactResolveHandleUptoRow : OpenClaim := { program := "ytdbbbjnneeekpaa", sum := "0ac8819a0f45283b74386d81baadca6036e9743356715e60fa104d0c8a2b65fd", func := "loop.example/g03001/laws.FnExactResolveHandle", spec := "fnExactResolveHandle", apart := false, narrowed := true }
def FnExactResolveHandleUptoSaid : Prop := fnExactResolveHandleUptoRow.holds Try.pinned (OpenSpec.upto fnExactResolveHandleSpec)

/-- 'laws.FnExactMayEdit', WHERE WHAT IT READS IS OF BULK AT MOST 1048576: true; the input reads as it did. -/
def fnExactMayEditUptoRow : OpenClaim := { program := "ytdbbbjnneeekpaa", sum := "0ac8819a0f45283b74386d81baadca6036e9743356715e60fa104d0c8a2b65fd", func := "loop.example/g03001/laws.FnExactMayEdit", spec := "fnExactMayEdit", apart := false, narrowed := true }
def FnExactMayEditUptoSaid : Prop := fnExactMayEditUptoRow.holds Try.pinned (OpenSpec.upto fnExactMayEditSpec)

/-- 'laws.FnExactForeignHandles', WHERE WHAT IT READS IS OF BULK AT MOST 1048576: true; the input reads as it did. -/
def fnExactForeignHandlesUptoRow : OpenClaim := { program := "ytdbbbjnneeekpaa", sum := "0ac8819a0f45283b74386d81baadca6036e9743356715e60fa104d0c8a2b65fd", func := "loop.example/g03001/laws.FnExactForeignHandles", spec := "fnExactForeignHandles", apart := false, narrowed := true }
def FnExactForeignHandlesUptoSaid : Prop := fnExactForeignHandlesUptoRow.holds Try.pinned (OpenSpec.upto fnExactForeignHandlesSpec)

/-- 'laws.FnExactHandlesFor', WHERE WHAT IT READS IS OF BULK AT MOST 1048576: true; the input reads as it did. -/
def fnExactHandlesForUptoRow : OpenClaim := { program := "ytdbbbjnneeekpaa", sum := "0ac8819a0f45283b74386d81baadca6036e9743356715e60fa104d0c8a2b65fd", func := "loop.example/g03001/laws.FnExactHandlesFor", spec := "fnExactHandlesFor", apart := false, narrowed := true }
def FnExactHandlesForUptoSaid : Prop := fnExactHandlesForUptoRow.holds Try.pinned (OpenSpec.upto fnExactHandlesForSpec)

/-- 'laws.FnExactApplyEdit', WHERE WHAT IT READS IS OF BULK AT MOST 1048576: true; the input reads as it did. -/
def fnExactApplyEditUptoRow : OpenClaim := { program := "ytdbbbjnneeekpaa", sum := "0ac8819a0f45283b74386d81baadca6036e9743356715e60fa104d0c8a2b65fd", func := "loop.example/g03001/laws.FnExactApplyEdit", spec := "fnExactApplyEdit", inPlace := ["slices.overlaps[loop.example/g03001/impl.Node]"], apart := false, narrowed := true }
def FnExactApplyEditUptoSaid : Prop := fnExactApplyEditUptoRow.holds Try.pinned (OpenSpec.upto fnExactApplyEditSpec)

/-- 'laws.FnSight', WHERE WHAT IT READS IS OF BULK AT MOST 1048576: true; the input reads as it did. -/
def fnSightUptoRow : OpenClaim := { program := "ytdbbbjnneeekpaa", sum := "0ac8819a0f45283b74386d81baadca6036e9743356715e60fa104d0c8a2b65fd", func := "loop.example/g03001/laws.FnSight", spec := "fnSight", inPlace := ["slices.overlaps[loop.example/g03001/impl.Node]"], apart := false, narrowed := true }
def FnSightUptoSaid : Prop := fnSightUptoRow.holds Try.pinned (OpenSpec.upto fnSightSpec)

end Rows
end Go.Proofs.Ytdbbbjnneeekpaa
