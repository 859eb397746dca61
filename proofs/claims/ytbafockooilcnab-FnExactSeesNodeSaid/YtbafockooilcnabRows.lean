/-
  No cell of these rows narrows 'for every input' (looked for: loops, veiled, ifaces, maps, wideKeys, modest, calm, conditions, laid).
  DERIVED. THE GIVEN ROWS OF THIS SEAT. 6 by the template 'for every input the law returns true; each argument reads behind the call as it read before'; 0 by the template 'total and deterministic' (their statements: YtbafockooilcnabTotals.lean).
  GIVEN WITH THE SEED: the statements are not yours to turn. If you find one false, say at which input.
  Laid BY PROGRAM, IN A SANDBOX (cutbox-rows.mjs): the forced cells as the released guide's own fill.sh prints them over the translation 4ef617279ee748fb… (all of the seat's roots in one cut). By AI agents, Wed Nov 11 2026. No macro, syntax, notation, axiom, sorry.
-/
import Derived.Test.YtbafockooilcnabChecked
import GoSem.Claim
import GoSem.ClaimJoined
import GoSem.ClaimMapViews
import Derived.JoinedTies
import Derived.KernelRfl
namespace Go.Proofs.Ytbafockooilcnab
/- THE CELL 'sum', in the pinned program and in every row, IS THE sha256 OF THE DUMP (.gsa) THAT YtbafockooilcnabProg.lean LOADS. Nothing in Lean hashes anything: it is a label: what it is worth is what the hold of that sum in a sandbox is worth. -/
noncomputable def Try.pinned : Pinned := { name := "ytbafockooilcnab", sum := "4ef617279ee748fbf90f3980d85ca0e958de0dc514d912f3ad7e104550721bcf", checked := Try.checked }
namespace Rows
def none {H : Type} : Left H := { results := [], args := [] }

/-- 'laws.FnExactIsUnder': WHATEVER THE INPUT: true; the input reads as it did. -/
def fnExactIsUnderSpec : ChangeSpec := { name := "fnExactIsUnder", fn := fun _ => fun
  | [d1, d2, d3] => { results := [.lit (.bool true)], args := [d1, d2, d3] }
  | _ => none }
def fnExactIsUnderRow : OpenClaim := { program := "ytbafockooilcnab", sum := "4ef617279ee748fbf90f3980d85ca0e958de0dc514d912f3ad7e104550721bcf", func := "loop.example/g03001/laws.FnExactIsUnder", spec := "fnExactIsUnder", apart := false }
def FnExactIsUnderSaid : Prop := fnExactIsUnderRow.holds Try.pinned (OpenSpec.ofChange fnExactIsUnderSpec)

/-- ITS FALSE NEIGHBOUR: 'it returns false'. Refute it at one input. -/
def fnExactIsUnderWrong : ChangeSpec := { name := "fnExactIsUnder", fn := fun _ => fun
  | [d1, d2, d3] => { results := [.lit (.bool false)], args := [d1, d2, d3] }
  | _ => none }
def FnExactIsUnderWrongFalsely : Prop := fnExactIsUnderRow.holds Try.pinned (OpenSpec.ofChange fnExactIsUnderWrong)

/-- 'laws.FnByteStrings': WHATEVER THE INPUT: true; the input reads as it did. -/
def fnByteStringsSpec : ChangeSpec := { name := "fnByteStrings", fn := fun _ => fun
  | [d] => { results := [.lit (.bool true)], args := [d] }
  | _ => none }
def fnByteStringsRow : OpenClaim := { program := "ytbafockooilcnab", sum := "4ef617279ee748fbf90f3980d85ca0e958de0dc514d912f3ad7e104550721bcf", func := "loop.example/g03001/laws.FnByteStrings", spec := "fnByteStrings", apart := false }
def FnByteStringsSaid : Prop := fnByteStringsRow.holds Try.pinned (OpenSpec.ofChange fnByteStringsSpec)

/-- ITS FALSE NEIGHBOUR: 'it returns false'. Refute it at one input. -/
def fnByteStringsWrong : ChangeSpec := { name := "fnByteStrings", fn := fun _ => fun
  | [d] => { results := [.lit (.bool false)], args := [d] }
  | _ => none }
def FnByteStringsWrongFalsely : Prop := fnByteStringsRow.holds Try.pinned (OpenSpec.ofChange fnByteStringsWrong)

/-- 'laws.FnVarints': WHATEVER THE INPUT: true; the input reads as it did. -/
def fnVarintsSpec : ChangeSpec := { name := "fnVarints", fn := fun _ => fun
  | [d] => { results := [.lit (.bool true)], args := [d] }
  | _ => none }
def fnVarintsRow : OpenClaim := { program := "ytbafockooilcnab", sum := "4ef617279ee748fbf90f3980d85ca0e958de0dc514d912f3ad7e104550721bcf", func := "loop.example/g03001/laws.FnVarints", spec := "fnVarints", apart := false }
def FnVarintsSaid : Prop := fnVarintsRow.holds Try.pinned (OpenSpec.ofChange fnVarintsSpec)

/-- ITS FALSE NEIGHBOUR: 'it returns false'. Refute it at one input. -/
def fnVarintsWrong : ChangeSpec := { name := "fnVarints", fn := fun _ => fun
  | [d] => { results := [.lit (.bool false)], args := [d] }
  | _ => none }
def FnVarintsWrongFalsely : Prop := fnVarintsRow.holds Try.pinned (OpenSpec.ofChange fnVarintsWrong)

/-- 'laws.FnExactHiddenCount': WHATEVER THE INPUT: true; the input reads as it did. -/
def fnExactHiddenCountSpec : ChangeSpec := { name := "fnExactHiddenCount", fn := fun _ => fun
  | [d1, d2, d3] => { results := [.lit (.bool true)], args := [d1, d2, d3] }
  | _ => none }
def fnExactHiddenCountRow : OpenClaim := { program := "ytbafockooilcnab", sum := "4ef617279ee748fbf90f3980d85ca0e958de0dc514d912f3ad7e104550721bcf", func := "loop.example/g03001/laws.FnExactHiddenCount", spec := "fnExactHiddenCount", apart := false }
def FnExactHiddenCountSaid : Prop := fnExactHiddenCountRow.holds Try.pinned (OpenSpec.ofChange fnExactHiddenCountSpec)

/-- ITS FALSE NEIGHBOUR: 'it returns false'. Refute it at one input. -/
def fnExactHiddenCountWrong : ChangeSpec := { name := "fnExactHiddenCount", fn := fun _ => fun
  | [d1, d2, d3] => { results := [.lit (.bool false)], args := [d1, d2, d3] }
  | _ => none }
def FnExactHiddenCountWrongFalsely : Prop := fnExactHiddenCountRow.holds Try.pinned (OpenSpec.ofChange fnExactHiddenCountWrong)

/-- 'laws.FnExactSeesNode': WHATEVER THE INPUT: true; the input reads as it did. -/
def fnExactSeesNodeSpec : ChangeSpec := { name := "fnExactSeesNode", fn := fun _ => fun
  | [d1, d2, d3, d4] => { results := [.lit (.bool true)], args := [d1, d2, d3, d4] }
  | _ => none }
def fnExactSeesNodeRow : OpenClaim := { program := "ytbafockooilcnab", sum := "4ef617279ee748fbf90f3980d85ca0e958de0dc514d912f3ad7e104550721bcf", func := "loop.example/g03001/laws.FnExactSeesNode", spec := "fnExactSeesNode", apart := false }
def FnExactSeesNodeSaid : Prop := fnExactSeesNodeRow.holds Try.pinned (OpenSpec.ofChange fnExactSeesNodeSpec)

/-- ITS FALSE NEIGHBOUR: 'it returns false'. Refute it at one input. -/
def fnExactSeesNodeWrong : ChangeSpec := { name := "fnExactSeesNode", fn := fun _ => fun
  | [d1, d2, d3, d4] => { results := [.lit (.bool false)], args := [d1, d2, d3, d4] }
  | _ => none }
def FnExactSeesNodeWrongFalsely : Prop := fnExactSeesNodeRow.holds Try.pinned (OpenSpec.ofChange fnExactSeesNodeWrong)

/-- 'laws.FnExactSeenBy': WHATEVER THE INPUT: true; the input reads as it did. -/
def fnExactSeenBySpec : ChangeSpec := { name := "fnExactSeenBy", fn := fun _ => fun
  | [d1, d2, d3] => { results := [.lit (.bool true)], args := [d1, d2, d3] }
  | _ => none }
def fnExactSeenByRow : OpenClaim := { program := "ytbafockooilcnab", sum := "4ef617279ee748fbf90f3980d85ca0e958de0dc514d912f3ad7e104550721bcf", func := "loop.example/g03001/laws.FnExactSeenBy", spec := "fnExactSeenBy", apart := false }
def FnExactSeenBySaid : Prop := fnExactSeenByRow.holds Try.pinned (OpenSpec.ofChange fnExactSeenBySpec)

/-- ITS FALSE NEIGHBOUR: 'it returns false'. Refute it at one input. -/
def fnExactSeenByWrong : ChangeSpec := { name := "fnExactSeenBy", fn := fun _ => fun
  | [d1, d2, d3] => { results := [.lit (.bool false)], args := [d1, d2, d3] }
  | _ => none }
def FnExactSeenByWrongFalsely : Prop := fnExactSeenByRow.holds Try.pinned (OpenSpec.ofChange fnExactSeenByWrong)

/- THE SECOND FORM. 'bulk': how many values and letters a reading holds, each counted each time it is reached (what is shared counts as often as it is met; a slice's spare places count too). A statement '..UptoSaid' is the law's where the arguments, and the package variables that the reading takes, are together of bulk at most 1048576: NARROWER than '..Said'. Prove '..Said' where nothing that the law and all that it calls make is longer than what came in: it says more and counts as full. Else prove '..UptoSaid'. A law counts once. -/
mutual
def uptoBulk {H : Type} : DataW H → Nat
  | .lit (.string bytes) => bytes.length + 1
  | .lit _ => 1
  | .nil => 1
  | .ptr d => uptoBulk d + 1
  | .slice elems spare => uptoBulkAll elems + uptoBulkAll spare + 1
  | .agg parts => uptoBulkAll parts + 1
  | .iface _ d => uptoBulk d + 1
  | .map entries => uptoBulkEntries entries + 1
  | .held _ => 1
def uptoBulkAll {H : Type} : List (DataW H) → Nat
  | [] => 0
  | d :: r => uptoBulk d + uptoBulkAll r
def uptoBulkEntries {H : Type} : List (Lit × DataW H) → Nat
  | [] => 0
  | x :: r => uptoBulkEntry x + uptoBulkEntries r
def uptoBulkEntry {H : Type} : Lit × DataW H → Nat
  | (.string bytes, d) => bytes.length + uptoBulk d + 1
  | (_, d) => uptoBulk d + 1
 end
def uptoSmall : (H : Type) → List (DataW H) → Bool := fun _ ds => decide (uptoBulkAll ds ≤ 1048576)
def OpenSpec.upto (s : _root_.Go.ChangeSpec) : _root_.Go.OpenSpec := { _root_.Go.OpenSpec.ofChange s with cond := some uptoSmall }

/-- 'laws.FnExactIsUnder', WHERE WHAT IT READS IS OF BULK AT MOST 1048576: true; the input reads as it did. -/
def fnExactIsUnderUptoRow : OpenClaim := { program := "ytbafockooilcnab", sum := "4ef617279ee748fbf90f3980d85ca0e958de0dc514d912f3ad7e104550721bcf", func := "loop.example/g03001/laws.FnExactIsUnder", spec := "fnExactIsUnder", apart := false, narrowed := true }
def FnExactIsUnderUptoSaid : Prop := fnExactIsUnderUptoRow.holds Try.pinned (OpenSpec.upto fnExactIsUnderSpec)

/-- 'laws.FnByteStrings', WHERE WHAT IT READS IS OF BULK AT MOST 1048576: true; the input reads as it did. -/
def fnByteStringsUptoRow : OpenClaim := { program := "ytbafockooilcnab", sum := "4ef617279ee748fbf90f3980d85ca0e958de0dc514d912f3ad7e104550721bcf", func := "loop.example/g03001/laws.FnByteStrings", spec := "fnByteStrings", apart := false, narrowed := true }
def FnByteStringsUptoSaid : Prop := fnByteStringsUptoRow.holds Try.pinned (OpenSpec.upto fnByteStringsSpec)

/-- 'laws.FnVarints', WHERE WHAT IT READS IS OF BULK AT MOST 1048576: true; the input reads as it did. -/
def fnVarintsUptoRow : OpenClaim := { program := "ytbafockooilcnab", sum := "4ef617279ee748fbf90f3980d85ca0e958de0dc514d912f3ad7e104550721bcf", func := "loop.example/g03001/laws.FnVarints", spec := "fnVarints", apart := false, narrowed := true }
def FnVarintsUptoSaid : Prop := fnVarintsUptoRow.holds Try.pinned (OpenSpec.upto fnVarintsSpec)

/-- 'laws.FnExactHiddenCount', WHERE WHAT IT READS IS OF BULK AT MOST 1048576: true; the input reads as it did. -/
def fnExactHiddenCountUptoRow : OpenClaim := { program := "ytbafockooilcnab", sum := "4ef617279ee748fbf90f3980d85ca0e958de0dc514d912f3ad7e104550721bcf", func := "loop.example/g03001/laws.FnExactHiddenCount", spec := "fnExactHiddenCount", apart := false, narrowed := true }
def FnExactHiddenCountUptoSaid : Prop := fnExactHiddenCountUptoRow.holds Try.pinned (OpenSpec.upto fnExactHiddenCountSpec)

/-- 'laws.FnExactSeesNode', WHERE WHAT IT READS IS OF BULK AT MOST 1048576: true; the input reads as it did. -/
def fnExactSeesNodeUptoRow : OpenClaim := { program := "ytbafockooilcnab", sum := "4ef617279ee748fbf90f3980d85ca0e958de0dc514d912f3ad7e104550721bcf", func := "loop.example/g03001/laws.FnExactSeesNode", spec := "fnExactSeesNode", apart := false, narrowed := true }
def FnExactSeesNodeUptoSaid : Prop := fnExactSeesNodeUptoRow.holds Try.pinned (OpenSpec.upto fnExactSeesNodeSpec)

/-- 'laws.FnExactSeenBy', WHERE WHAT IT READS IS OF BULK AT MOST 1048576: true; the input reads as it did. -/
def fnExactSeenByUptoRow : OpenClaim := { program := "ytbafockooilcnab", sum := "4ef617279ee748fbf90f3980d85ca0e958de0dc514d912f3ad7e104550721bcf", func := "loop.example/g03001/laws.FnExactSeenBy", spec := "fnExactSeenBy", apart := false, narrowed := true }
def FnExactSeenByUptoSaid : Prop := fnExactSeenByUptoRow.holds Try.pinned (OpenSpec.upto fnExactSeenBySpec)

end Rows
end Go.Proofs.Ytbafockooilcnab
