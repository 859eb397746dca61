/-
  DERIVED. GIVEN WITH THE SEED: THE CARDS: each row of YtefppmgcenfemaaDoorRows.lean that lists a variable, with what it lists TIED to the program's text (the seventh form; the later family's looks); each row that meets fmt, with fmt's text TOLD by the authors' own Lean function (tested against real Go, not proved from fmt's source: count such statements apart). THE CARD IS WHAT COUNTS. Prove the row's statement (the work); the ties are given (YtefppmgcenfemaaDoorTie.lean); close each card by the builder's one call (the guide's Derived/Test/ToyasCard.lean, 'card_holds'). Laid BY PROGRAM, IN A SANDBOX (cutbox-door.mjs). By AI agents, Wed Nov 11 2026. No macro, syntax, notation, axiom, sorry.
-/
import Derived.Test.YtefppmgcenfemaaDoorRows
import GoSem.ClaimSeven
namespace Go.Proofs.YtefppmgcenfemaaDoor
namespace Rows

/-- THE TIED CARD OF 'laws.FnDocuments'. -/
def fnDocumentsCard : Claim7 := { stood := { row := fnDocumentsRow, standIns := [], harness := (true, "6d52a083924211f92855ea97d316ec2d9d258bb7da4c3651999e2f570d2fecca"), looks := false }, kinds := [], alts := [], laidByText := true, laidKinds := [.data, .data, .data], laidTests := true, laidLooks := .later }
def FnDocumentsCardSaid : Prop := Claim7.holds Tryd.pinned (.plain (OpenSpec.ofChange fnDocumentsSpec)) fnDocumentsCard

/-- THE TIED CARD OF 'laws.FnEdits'. -/
def fnEditsCard : Claim7 := { stood := { row := fnEditsRow, standIns := [], harness := (true, "6d52a083924211f92855ea97d316ec2d9d258bb7da4c3651999e2f570d2fecca"), looks := false }, kinds := [], alts := [], laidByText := true, laidKinds := [.data, .data, .data], laidTests := true, laidLooks := .later }
def FnEditsCardSaid : Prop := Claim7.holds Tryd.pinned (.plain (OpenSpec.ofChange fnEditsSpec)) fnEditsCard

/-- THE SECOND FORM's CARD OF 'laws.FnDocuments'. -/
def fnDocumentsUptoCard : Claim7 := { stood := { row := fnDocumentsUptoRow, standIns := [], harness := (true, "6d52a083924211f92855ea97d316ec2d9d258bb7da4c3651999e2f570d2fecca"), looks := false }, kinds := [], alts := [], laidByText := true, laidKinds := [.data, .data, .data], laidTests := true, laidLooks := .later }
def FnDocumentsUptoCardSaid : Prop := Claim7.holds Tryd.pinned (.plain (OpenSpec.upto fnDocumentsSpec)) fnDocumentsUptoCard

/-- THE SECOND FORM's CARD OF 'laws.FnEdits'. -/
def fnEditsUptoCard : Claim7 := { stood := { row := fnEditsUptoRow, standIns := [], harness := (true, "6d52a083924211f92855ea97d316ec2d9d258bb7da4c3651999e2f570d2fecca"), looks := false }, kinds := [], alts := [], laidByText := true, laidKinds := [.data, .data, .data], laidTests := true, laidLooks := .later }
def FnEditsUptoCardSaid : Prop := Claim7.holds Tryd.pinned (.plain (OpenSpec.upto fnEditsSpec)) fnEditsUptoCard
end Rows
end Go.Proofs.YtefppmgcenfemaaDoor
