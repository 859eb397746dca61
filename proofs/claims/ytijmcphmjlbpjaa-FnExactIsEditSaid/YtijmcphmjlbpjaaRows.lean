/-
  No cell of these rows narrows 'for every input' (looked for: loops, veiled, ifaces, maps, wideKeys, modest, calm, conditions, laid).
  DERIVED. THE GIVEN ROWS OF THIS SEAT. 6 by the template 'for every input the law returns true; each argument reads behind the call as it read before'; 0 by the template 'total and deterministic' (their statements: YtijmcphmjlbpjaaTotals.lean).
  GIVEN WITH THE SEED: the statements are not yours to turn. If you find one false, say at which input.
  Laid BY PROGRAM, IN A SANDBOX (cutbox-rows.mjs): the forced cells as the released guide's own fill.sh prints them over the translation bb350e3f13a8d965… (all of the seat's roots in one cut). By AI agents, Wed Nov 11 2026. No macro, syntax, notation, axiom, sorry.
-/
import Derived.Test.YtijmcphmjlbpjaaChecked
import GoSem.Claim
import GoSem.ClaimJoined
import GoSem.ClaimMapViews
import Derived.JoinedTies
import Derived.KernelRfl
namespace Go.Proofs.Ytijmcphmjlbpjaa
/- THE CELL 'sum', in the pinned program and in every row, IS THE sha256 OF THE DUMP (.gsa) THAT YtijmcphmjlbpjaaProg.lean LOADS. Nothing in Lean hashes anything: it is a label: what it is worth is what the hold of that sum in a sandbox is worth. -/
noncomputable def Try.pinned : Pinned := { name := "ytijmcphmjlbpjaa", sum := "bb350e3f13a8d9656f7b8c50c863fa0a788871d71a7cb12c0e9e6ec6e2ab75f3", checked := Try.checked }
namespace Rows
def none {H : Type} : Left H := { results := [], args := [] }

/-- 'laws.FnExactCeilDiv': WHATEVER THE INPUT: true; the input reads as it did. -/
def fnExactCeilDivSpec : ChangeSpec := { name := "fnExactCeilDiv", fn := fun _ => fun
  | [d1, d2] => { results := [.lit (.bool true)], args := [d1, d2] }
  | _ => none }
def fnExactCeilDivRow : OpenClaim := { program := "ytijmcphmjlbpjaa", sum := "bb350e3f13a8d9656f7b8c50c863fa0a788871d71a7cb12c0e9e6ec6e2ab75f3", func := "loop.example/g03001/laws.FnExactCeilDiv", spec := "fnExactCeilDiv", apart := false }
def FnExactCeilDivSaid : Prop := fnExactCeilDivRow.holds Try.pinned (OpenSpec.ofChange fnExactCeilDivSpec)

/-- ITS FALSE NEIGHBOUR: 'it returns false'. Refute it at one input. -/
def fnExactCeilDivWrong : ChangeSpec := { name := "fnExactCeilDiv", fn := fun _ => fun
  | [d1, d2] => { results := [.lit (.bool false)], args := [d1, d2] }
  | _ => none }
def FnExactCeilDivWrongFalsely : Prop := fnExactCeilDivRow.holds Try.pinned (OpenSpec.ofChange fnExactCeilDivWrong)

/-- 'laws.FnExactIsNarrower': WHATEVER THE INPUT: true; the input reads as it did. -/
def fnExactIsNarrowerSpec : ChangeSpec := { name := "fnExactIsNarrower", fn := fun _ => fun
  | [d1, d2] => { results := [.lit (.bool true)], args := [d1, d2] }
  | _ => none }
def fnExactIsNarrowerRow : OpenClaim := { program := "ytijmcphmjlbpjaa", sum := "bb350e3f13a8d9656f7b8c50c863fa0a788871d71a7cb12c0e9e6ec6e2ab75f3", func := "loop.example/g03001/laws.FnExactIsNarrower", spec := "fnExactIsNarrower", apart := false }
def FnExactIsNarrowerSaid : Prop := fnExactIsNarrowerRow.holds Try.pinned (OpenSpec.ofChange fnExactIsNarrowerSpec)

/-- ITS FALSE NEIGHBOUR: 'it returns false'. Refute it at one input. -/
def fnExactIsNarrowerWrong : ChangeSpec := { name := "fnExactIsNarrower", fn := fun _ => fun
  | [d1, d2] => { results := [.lit (.bool false)], args := [d1, d2] }
  | _ => none }
def FnExactIsNarrowerWrongFalsely : Prop := fnExactIsNarrowerRow.holds Try.pinned (OpenSpec.ofChange fnExactIsNarrowerWrong)

/-- 'laws.FnExactMod': WHATEVER THE INPUT: true; the input reads as it did. -/
def fnExactModSpec : ChangeSpec := { name := "fnExactMod", fn := fun _ => fun
  | [d1, d2] => { results := [.lit (.bool true)], args := [d1, d2] }
  | _ => none }
def fnExactModRow : OpenClaim := { program := "ytijmcphmjlbpjaa", sum := "bb350e3f13a8d9656f7b8c50c863fa0a788871d71a7cb12c0e9e6ec6e2ab75f3", func := "loop.example/g03001/laws.FnExactMod", spec := "fnExactMod", apart := false }
def FnExactModSaid : Prop := fnExactModRow.holds Try.pinned (OpenSpec.ofChange fnExactModSpec)

/-- ITS FALSE NEIGHBOUR: 'it returns false'. Refute it at one input. -/
def fnExactModWrong : ChangeSpec := { name := "fnExactMod", fn := fun _ => fun
  | [d1, d2] => { results := [.lit (.bool false)], args := [d1, d2] }
  | _ => none }
def FnExactModWrongFalsely : Prop := fnExactModRow.holds Try.pinned (OpenSpec.ofChange fnExactModWrong)

/-- 'laws.FnExactIsEdit': WHATEVER THE INPUT: true; the input reads as it did. -/
def fnExactIsEditSpec : ChangeSpec := { name := "fnExactIsEdit", fn := fun _ => fun
  | [d] => { results := [.lit (.bool true)], args := [d] }
  | _ => none }
def fnExactIsEditRow : OpenClaim := { program := "ytijmcphmjlbpjaa", sum := "bb350e3f13a8d9656f7b8c50c863fa0a788871d71a7cb12c0e9e6ec6e2ab75f3", func := "loop.example/g03001/laws.FnExactIsEdit", spec := "fnExactIsEdit", apart := false }
def FnExactIsEditSaid : Prop := fnExactIsEditRow.holds Try.pinned (OpenSpec.ofChange fnExactIsEditSpec)

/-- ITS FALSE NEIGHBOUR: 'it returns false'. Refute it at one input. -/
def fnExactIsEditWrong : ChangeSpec := { name := "fnExactIsEdit", fn := fun _ => fun
  | [d] => { results := [.lit (.bool false)], args := [d] }
  | _ => none }
def FnExactIsEditWrongFalsely : Prop := fnExactIsEditRow.holds Try.pinned (OpenSpec.ofChange fnExactIsEditWrong)

/-- 'laws.FnExactEqualBytes': WHATEVER THE INPUT: true; the input reads as it did. -/
def fnExactEqualBytesSpec : ChangeSpec := { name := "fnExactEqualBytes", fn := fun _ => fun
  | [d1, d2] => { results := [.lit (.bool true)], args := [d1, d2] }
  | _ => none }
def fnExactEqualBytesRow : OpenClaim := { program := "ytijmcphmjlbpjaa", sum := "bb350e3f13a8d9656f7b8c50c863fa0a788871d71a7cb12c0e9e6ec6e2ab75f3", func := "loop.example/g03001/laws.FnExactEqualBytes", spec := "fnExactEqualBytes", apart := false }
def FnExactEqualBytesSaid : Prop := fnExactEqualBytesRow.holds Try.pinned (OpenSpec.ofChange fnExactEqualBytesSpec)

/-- ITS FALSE NEIGHBOUR: 'it returns false'. Refute it at one input. -/
def fnExactEqualBytesWrong : ChangeSpec := { name := "fnExactEqualBytes", fn := fun _ => fun
  | [d1, d2] => { results := [.lit (.bool false)], args := [d1, d2] }
  | _ => none }
def FnExactEqualBytesWrongFalsely : Prop := fnExactEqualBytesRow.holds Try.pinned (OpenSpec.ofChange fnExactEqualBytesWrong)

/-- 'laws.FnExactMatchSite': WHATEVER THE INPUT: true; the input reads as it did. -/
def fnExactMatchSiteSpec : ChangeSpec := { name := "fnExactMatchSite", fn := fun _ => fun
  | [d1, d2] => { results := [.lit (.bool true)], args := [d1, d2] }
  | _ => none }
def fnExactMatchSiteRow : OpenClaim := { program := "ytijmcphmjlbpjaa", sum := "bb350e3f13a8d9656f7b8c50c863fa0a788871d71a7cb12c0e9e6ec6e2ab75f3", func := "loop.example/g03001/laws.FnExactMatchSite", spec := "fnExactMatchSite", apart := false }
def FnExactMatchSiteSaid : Prop := fnExactMatchSiteRow.holds Try.pinned (OpenSpec.ofChange fnExactMatchSiteSpec)

/-- ITS FALSE NEIGHBOUR: 'it returns false'. Refute it at one input. -/
def fnExactMatchSiteWrong : ChangeSpec := { name := "fnExactMatchSite", fn := fun _ => fun
  | [d1, d2] => { results := [.lit (.bool false)], args := [d1, d2] }
  | _ => none }
def FnExactMatchSiteWrongFalsely : Prop := fnExactMatchSiteRow.holds Try.pinned (OpenSpec.ofChange fnExactMatchSiteWrong)

/- THE SECOND FORM. 'bulk': how many values and letters a reading holds, each counted each time it is reached (what is shared counts as often as it is met; a slice's spare places count too). A statement '..UptoSaid' is the law's where the arguments, and the package variables that the reading takes, are together of bulk at most 1048576: NARROWER than '..Said'. Prove '..Said' where nothing that the law and all that it calls make is longer than what came in: it says more and counts as full. Else prove '..UptoSaid'. A law counts once. -/
mutual
def uptoBulk {H : Type} : DataW H → Nat
  | .lit (.string bytes) => bytes.length + 1
  | .lit _ => 1
  | .nil => 1
  | .ptr d => uptoBulk d + 1
  | .slice elems spare => uptoBulkAll elems + uptoBulkAll spare + 1
  | .agg parts => uptoBulkAll parts + 1
  | .iface _ d => uptoBulk d + 1
  | .map entries => uptoBulkEntries entries + 1
  | .held _ => 1
def uptoBulkAll {H : Type} : List (DataW H) → Nat
  | [] => 0
  | d :: r => uptoBulk d + uptoBulkAll r
def uptoBulkEntries {H : Type} : List (Lit × DataW H) → Nat
  | [] => 0
  | x :: r => uptoBulkEntry x + uptoBulkEntries r
def uptoBulkEntry {H : Type} : Lit × DataW H → Nat
  | (.string bytes, d) => bytes.length + uptoBulk d + 1
  | (_, d) => uptoBulk d + 1
 end
def uptoSmall : (H : Type) → List (DataW H) → Bool := fun _ ds => decide (uptoBulkAll ds ≤ 1048576)
def OpenSpec.upto (s : _root_.Go.ChangeSpec) : _root_.Go.OpenSpec := { _root_.Go.OpenSpec.ofChange s with cond := some uptoSmall }

/-- 'laws.FnExactCeilDiv', WHERE WHAT IT READS IS OF BULK AT MOST 1048576: true; the input reads as it did. -/
def fnExactCeilDivUptoRow : OpenClaim := { program := "ytijmcphmjlbpjaa", sum := "bb350e3f13a8d9656f7b8c50c863fa0a788871d71a7cb12c0e9e6ec6e2ab75f3", func := "loop.example/g03001/laws.FnExactCeilDiv", spec := "fnExactCeilDiv", apart := false, narrowed := true }
def FnExactCeilDivUptoSaid : Prop := fnExactCeilDivUptoRow.holds Try.pinned (OpenSpec.upto fnExactCeilDivSpec)

/-- 'laws.FnExactIsNarrower', WHERE WHAT IT READS IS OF BULK AT MOST 1048576: true; the input reads as it did. -/
def fnExactIsNarrowerUptoRow : OpenClaim := { program := "ytijmcphmjlbpjaa", sum := "bb350e3f13a8d9656f7b8c50c863fa0a788871d71a7cb12c0e9e6ec6e2ab75f3", func := "loop.example/g03001/laws.FnExactIsNarrower", spec := "fnExactIsNarrower", apart := false, narrowed := true }
def FnExactIsNarrowerUptoSaid : Prop := fnExactIsNarrowerUptoRow.holds Try.pinned (OpenSpec.upto fnExactIsNarrowerSpec)

/-- 'laws.FnExactMod', WHERE WHAT IT READS IS OF BULK AT MOST 1048576: true; the input reads as it did. -/
def fnExactModUptoRow : OpenClaim := { program := "ytijmcphmjlbpjaa", sum := "bb350e3f13a8d9656f7b8c50c863fa0a788871d71a7cb12c0e9e6ec6e2ab75f3", func := "loop.example/g03001/laws.FnExactMod", spec := "fnExactMod", apart := false, narrowed := true }
def FnExactModUptoSaid : Prop := fnExactModUptoRow.holds Try.pinned (OpenSpec.upto fnExactModSpec)

/-- 'laws.FnExactIsEdit', WHERE WHAT IT READS IS OF BULK AT MOST 1048576: true; the input reads as it did. -/
def fnExactIsEditUptoRow : OpenClaim := { program := "ytijmcphmjlbpjaa", sum := "bb350e3f13a8d9656f7b8c50c863fa0a788871d71a7cb12c0e9e6ec6e2ab75f3", func := "loop.example/g03001/laws.FnExactIsEdit", spec := "fnExactIsEdit", apart := false, narrowed := true }
def FnExactIsEditUptoSaid : Prop := fnExactIsEditUptoRow.holds Try.pinned (OpenSpec.upto fnExactIsEditSpec)

/-- 'laws.FnExactEqualBytes', WHERE WHAT IT READS IS OF BULK AT MOST 1048576: true; the input reads as it did. -/
def fnExactEqualBytesUptoRow : OpenClaim := { program := "ytijmcphmjlbpjaa", sum := "bb350e3f13a8d9656f7b8c50c863fa0a788871d71a7cb12c0e9e6ec6e2ab75f3", func := "loop.example/g03001/laws.FnExactEqualBytes", spec := "fnExactEqualBytes", apart := false, narrowed := true }
def FnExactEqualBytesUptoSaid : Prop := fnExactEqualBytesUptoRow.holds Try.pinned (OpenSpec.upto fnExactEqualBytesSpec)

/-- 'laws.FnExactMatchSite', WHERE WHAT IT READS IS OF BULK AT MOST 1048576: true; the input reads as it did. -/
def fnExactMatchSiteUptoRow : OpenClaim := { program := "ytijmcphmjlbpjaa", sum := "bb350e3f13a8d9656f7b8c50c863fa0a788871d71a7cb12c0e9e6ec6e2ab75f3", func := "loop.example/g03001/laws.FnExactMatchSite", spec := "fnExactMatchSite", apart := false, narrowed := true }
def FnExactMatchSiteUptoSaid : Prop := fnExactMatchSiteUptoRow.holds Try.pinned (OpenSpec.upto fnExactMatchSiteSpec)

end Rows
end Go.Proofs.Ytijmcphmjlbpjaa
