/-
  No cell of these rows narrows 'for every input' (looked for: loops, veiled, ifaces, maps, wideKeys, modest, calm, conditions, laid).
  DERIVED. THE GIVEN ROWS OF THIS SEAT. 6 by the template 'for every input the law returns true; each argument reads behind the call as it read before'; 0 by the template 'total and deterministic' (their statements: YtbafockooilcnaaTotals.lean).
  GIVEN WITH THE SEED: the statements are not yours to turn. If you find one false, say at which input.
  Laid BY PROGRAM, IN A SANDBOX (cutbox-rows.mjs): the forced cells as the released guide's own fill.sh prints them over the translation 0af82c240d402403… (all of the seat's roots in one cut). By AI agents, Wed Nov 11 2026. No macro, syntax, notation, axiom, sorry.
-/
import Derived.Test.YtbafockooilcnaaChecked
import GoSem.Claim
import GoSem.ClaimJoined
import GoSem.ClaimMapViews
import Derived.JoinedTies
import Derived.KernelRfl
namespace Go.Proofs.Ytbafockooilcnaa
/- THE CELL 'sum', in the pinned program and in every row, IS THE sha256 OF THE DUMP (.gsa) THAT YtbafockooilcnaaProg.lean LOADS. Nothing in Lean hashes anything: it is a label: what it is worth is what the hold of that sum in a sandbox is worth. -/
noncomputable def Try.pinned : Pinned := { name := "ytbafockooilcnaa", sum := "0af82c240d4024031536e390a9e61f4b3899ceb953d8199e014284a4a407f690", checked := Try.checked }
namespace Rows
def none {H : Type} : Left H := { results := [], args := [] }

/-- 'laws.FnExactIsDocument': WHATEVER THE INPUT: true; the input reads as it did. -/
def fnExactIsDocumentSpec : ChangeSpec := { name := "fnExactIsDocument", fn := fun _ => fun
  | [d] => { results := [.lit (.bool true)], args := [d] }
  | _ => none }
def fnExactIsDocumentRow : OpenClaim := { program := "ytbafockooilcnaa", sum := "0af82c240d4024031536e390a9e61f4b3899ceb953d8199e014284a4a407f690", func := "loop.example/g03001/laws.FnExactIsDocument", spec := "fnExactIsDocument", apart := false }
def FnExactIsDocumentSaid : Prop := fnExactIsDocumentRow.holds Try.pinned (OpenSpec.ofChange fnExactIsDocumentSpec)

/-- ITS FALSE NEIGHBOUR: 'it returns false'. Refute it at one input. -/
def fnExactIsDocumentWrong : ChangeSpec := { name := "fnExactIsDocument", fn := fun _ => fun
  | [d] => { results := [.lit (.bool false)], args := [d] }
  | _ => none }
def FnExactIsDocumentWrongFalsely : Prop := fnExactIsDocumentRow.holds Try.pinned (OpenSpec.ofChange fnExactIsDocumentWrong)

/-- 'laws.FnExactChildrenOf': WHATEVER THE INPUT: true; the input reads as it did. -/
def fnExactChildrenOfSpec : ChangeSpec := { name := "fnExactChildrenOf", fn := fun _ => fun
  | [d1, d2] => { results := [.lit (.bool true)], args := [d1, d2] }
  | _ => none }
def fnExactChildrenOfRow : OpenClaim := { program := "ytbafockooilcnaa", sum := "0af82c240d4024031536e390a9e61f4b3899ceb953d8199e014284a4a407f690", func := "loop.example/g03001/laws.FnExactChildrenOf", spec := "fnExactChildrenOf", apart := false }
def FnExactChildrenOfSaid : Prop := fnExactChildrenOfRow.holds Try.pinned (OpenSpec.ofChange fnExactChildrenOfSpec)

/-- ITS FALSE NEIGHBOUR: 'it returns false'. Refute it at one input. -/
def fnExactChildrenOfWrong : ChangeSpec := { name := "fnExactChildrenOf", fn := fun _ => fun
  | [d1, d2] => { results := [.lit (.bool false)], args := [d1, d2] }
  | _ => none }
def FnExactChildrenOfWrongFalsely : Prop := fnExactChildrenOfRow.holds Try.pinned (OpenSpec.ofChange fnExactChildrenOfWrong)

/-- 'laws.FnKeyedHash': WHATEVER THE INPUT: true; the input reads as it did. -/
def fnKeyedHashSpec : ChangeSpec := { name := "fnKeyedHash", fn := fun _ => fun
  | [d] => { results := [.lit (.bool true)], args := [d] }
  | _ => none }
def fnKeyedHashRow : OpenClaim := { program := "ytbafockooilcnaa", sum := "0af82c240d4024031536e390a9e61f4b3899ceb953d8199e014284a4a407f690", func := "loop.example/g03001/laws.FnKeyedHash", spec := "fnKeyedHash", apart := false }
def FnKeyedHashSaid : Prop := fnKeyedHashRow.holds Try.pinned (OpenSpec.ofChange fnKeyedHashSpec)

/-- ITS FALSE NEIGHBOUR: 'it returns false'. Refute it at one input. -/
def fnKeyedHashWrong : ChangeSpec := { name := "fnKeyedHash", fn := fun _ => fun
  | [d] => { results := [.lit (.bool false)], args := [d] }
  | _ => none }
def FnKeyedHashWrongFalsely : Prop := fnKeyedHashRow.holds Try.pinned (OpenSpec.ofChange fnKeyedHashWrong)

/-- 'laws.FnExactEditsBy': WHATEVER THE INPUT: true; the input reads as it did. -/
def fnExactEditsBySpec : ChangeSpec := { name := "fnExactEditsBy", fn := fun _ => fun
  | [d1, d2] => { results := [.lit (.bool true)], args := [d1, d2] }
  | _ => none }
def fnExactEditsByRow : OpenClaim := { program := "ytbafockooilcnaa", sum := "0af82c240d4024031536e390a9e61f4b3899ceb953d8199e014284a4a407f690", func := "loop.example/g03001/laws.FnExactEditsBy", spec := "fnExactEditsBy", apart := false }
def FnExactEditsBySaid : Prop := fnExactEditsByRow.holds Try.pinned (OpenSpec.ofChange fnExactEditsBySpec)

/-- ITS FALSE NEIGHBOUR: 'it returns false'. Refute it at one input. -/
def fnExactEditsByWrong : ChangeSpec := { name := "fnExactEditsBy", fn := fun _ => fun
  | [d1, d2] => { results := [.lit (.bool false)], args := [d1, d2] }
  | _ => none }
def FnExactEditsByWrongFalsely : Prop := fnExactEditsByRow.holds Try.pinned (OpenSpec.ofChange fnExactEditsByWrong)

/-- 'laws.FnExactWithoutBy': WHATEVER THE INPUT: true; the input reads as it did. -/
def fnExactWithoutBySpec : ChangeSpec := { name := "fnExactWithoutBy", fn := fun _ => fun
  | [d1, d2] => { results := [.lit (.bool true)], args := [d1, d2] }
  | _ => none }
def fnExactWithoutByRow : OpenClaim := { program := "ytbafockooilcnaa", sum := "0af82c240d4024031536e390a9e61f4b3899ceb953d8199e014284a4a407f690", func := "loop.example/g03001/laws.FnExactWithoutBy", spec := "fnExactWithoutBy", apart := false }
def FnExactWithoutBySaid : Prop := fnExactWithoutByRow.holds Try.pinned (OpenSpec.ofChange fnExactWithoutBySpec)

/-- ITS FALSE NEIGHBOUR: 'it returns false'. Refute it at one input. -/
def fnExactWithoutByWrong : ChangeSpec := { name := "fnExactWithoutBy", fn := fun _ => fun
  | [d1, d2] => { results := [.lit (.bool false)], args := [d1, d2] }
  | _ => none }
def FnExactWithoutByWrongFalsely : Prop := fnExactWithoutByRow.holds Try.pinned (OpenSpec.ofChange fnExactWithoutByWrong)

/-- 'laws.FnExactDecodeInts': WHATEVER THE INPUT: true; the input reads as it did. -/
def fnExactDecodeIntsSpec : ChangeSpec := { name := "fnExactDecodeInts", fn := fun _ => fun
  | [d1, d2, d3] => { results := [.lit (.bool true)], args := [d1, d2, d3] }
  | _ => none }
def fnExactDecodeIntsRow : OpenClaim := { program := "ytbafockooilcnaa", sum := "0af82c240d4024031536e390a9e61f4b3899ceb953d8199e014284a4a407f690", func := "loop.example/g03001/laws.FnExactDecodeInts", spec := "fnExactDecodeInts", apart := false }
def FnExactDecodeIntsSaid : Prop := fnExactDecodeIntsRow.holds Try.pinned (OpenSpec.ofChange fnExactDecodeIntsSpec)

/-- ITS FALSE NEIGHBOUR: 'it returns false'. Refute it at one input. -/
def fnExactDecodeIntsWrong : ChangeSpec := { name := "fnExactDecodeInts", fn := fun _ => fun
  | [d1, d2, d3] => { results := [.lit (.bool false)], args := [d1, d2, d3] }
  | _ => none }
def FnExactDecodeIntsWrongFalsely : Prop := fnExactDecodeIntsRow.holds Try.pinned (OpenSpec.ofChange fnExactDecodeIntsWrong)

/- THE SECOND FORM. 'bulk': how many values and letters a reading holds, each counted each time it is reached (what is shared counts as often as it is met; a slice's spare places count too). A statement '..UptoSaid' is the law's where the arguments, and the package variables that the reading takes, are together of bulk at most 1048576: NARROWER than '..Said'. Prove '..Said' where nothing that the law and all that it calls make is longer than what came in: it says more and counts as full. Else prove '..UptoSaid'. A law counts once. -/
mutual
def uptoBulk {H : Type} : DataW H → Nat
  | .lit (.string bytes) => bytes.length + 1
  | .lit _ => 1
  | .nil => 1
  | .ptr d => uptoBulk d + 1
  | .slice elems spare => uptoBulkAll elems + uptoBulkAll spare + 1
  | .agg parts => uptoBulkAll parts + 1
  | .iface _ d => uptoBulk d + 1
  | .map entries => uptoBulkEntries entries + 1
  | .held _ => 1
def uptoBulkAll {H : Type} : List (DataW H) → Nat
  | [] => 0
  | d :: r => uptoBulk d + uptoBulkAll r
def uptoBulkEntries {H : Type} : List (Lit × DataW H) → Nat
  | [] => 0
  | x :: r => uptoBulkEntry x + uptoBulkEntries r
def uptoBulkEntry {H : Type} : Lit × DataW H → Nat
  | (.string bytes, d) => bytes.length + uptoBulk d + 1
  | (_, d) => uptoBulk d + 1
 end
def uptoSmall : (H : Type) → List (DataW H) → Bool := fun _ ds => decide (uptoBulkAll ds ≤ 1048576)
def OpenSpec.upto (s : _root_.Go.ChangeSpec) : _root_.Go.OpenSpec := { _root_.Go.OpenSpec.ofChange s with cond := some uptoSmall }

/-- 'laws.FnExactIsDocument', WHERE WHAT IT READS IS OF BULK AT MOST 1048576: true; the input reads as it did. -/
def fnExactIsDocumentUptoRow : OpenClaim := { program := "ytbafockooilcnaa", sum := "0af82c240d4024031536e390a9e61f4b3899ceb953d8199e014284a4a407f690", func := "loop.example/g03001/laws.FnExactIsDocument", spec := "fnExactIsDocument", apart := false, narrowed := true }
def FnExactIsDocumentUptoSaid : Prop := fnExactIsDocumentUptoRow.holds Try.pinned (OpenSpec.upto fnExactIsDocumentSpec)

/-- 'laws.FnExactChildrenOf', WHERE WHAT IT READS IS OF BULK AT MOST 1048576: true; the input reads as it did. -/
def fnExactChildrenOfUptoRow : OpenClaim := { program := "ytbafockooilcnaa", sum := "0af82c240d4024031536e390a9e61f4b3899ceb953d8199e014284a4a407f690", func := "loop.example/g03001/laws.FnExactChildrenOf", spec := "fnExactChildrenOf", apart := false, narrowed := true }
def FnExactChildrenOfUptoSaid : Prop := fnExactChildrenOfUptoRow.holds Try.pinned (OpenSpec.upto fnExactChildrenOfSpec)

/-- 'laws.FnKeyedHash', WHERE WHAT IT READS IS OF BULK AT MOST 1048576: true; the input reads as it did. -/
def fnKeyedHashUptoRow : OpenClaim := { program := "ytbafockooilcnaa", sum := "0af82c240d4024031536e390a9e61f4b3899ceb953d8199e014284a4a407f690", func := "loop.example/g03001/laws.FnKeyedHash", spec := "fnKeyedHash", apart := false, narrowed := true }
def FnKeyedHashUptoSaid : Prop := fnKeyedHashUptoRow.holds Try.pinned (OpenSpec.upto fnKeyedHashSpec)

/-- 'laws.FnExactEditsBy', WHERE WHAT IT READS IS OF BULK AT MOST 1048576: true; the input reads as it did. -/
def fnExactEditsByUptoRow : OpenClaim := { program := "ytbafockooilcnaa", sum := "0af82c240d4024031536e390a9e61f4b3899ceb953d8199e014284a4a407f690", func := "loop.example/g03001/laws.FnExactEditsBy", spec := "fnExactEditsBy", apart := false, narrowed := true }
def FnExactEditsByUptoSaid : Prop := fnExactEditsByUptoRow.holds Try.pinned (OpenSpec.upto fnExactEditsBySpec)

/-- 'laws.FnExactWithoutBy', WHERE WHAT IT READS IS OF BULK AT MOST 1048576: true; the input reads as it did. -/
def fnExactWithoutByUptoRow : OpenClaim := { program := "ytbafockooilcnaa", sum := "0af82c240d4024031536e390a9e61f4b3899ceb953d8199e014284a4a407f690", func := "loop.example/g03001/laws.FnExactWithoutBy", spec := "fnExactWithoutBy", apart := false, narrowed := true }
def FnExactWithoutByUptoSaid : Prop := fnExactWithoutByUptoRow.holds Try.pinned (OpenSpec.upto fnExactWithoutBySpec)

/-- 'laws.FnExactDecodeInts', WHERE WHAT IT READS IS OF BULK AT MOST 1048576: true; the input reads as it did. -/
def fnExactDecodeIntsUptoRow : OpenClaim := { program := "ytbafockooilcnaa", sum := "0af82c240d4024031536e390a9e61f4b3899ceb953d8199e014284a4a407f690", func := "loop.example/g03001/laws.FnExactDecodeInts", spec := "fnExactDecodeInts", apart := false, narrowed := true }
def FnExactDecodeIntsUptoSaid : Prop := fnExactDecodeIntsUptoRow.holds Try.pinned (OpenSpec.upto fnExactDecodeIntsSpec)

end Rows
end Go.Proofs.Ytbafockooilcnaa
