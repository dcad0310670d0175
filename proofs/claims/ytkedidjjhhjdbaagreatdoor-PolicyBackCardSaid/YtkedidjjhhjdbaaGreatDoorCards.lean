/-
  DERIVED. GIVEN WITH THE SEED: THE CARDS: each row of YtkedidjjhhjdbaaGreatDoorRows.lean that lists a variable, with what it lists TIED to the program's text (the seventh form; the later family's looks); each row that meets fmt, with fmt's text TOLD by the authors' own Lean function (tested against real Go, not proved from fmt's source: count such statements apart). THE CARD IS WHAT COUNTS. Prove the row's statement (the work); the ties are given (YtkedidjjhhjdbaaGreatDoorTie.lean); close each card by the builder's one call (the guide's Derived/Test/ToyasCard.lean, 'card_holds'). Laid BY PROGRAM, IN A SANDBOX (cutbox-door.mjs). By AI agents, Wed Nov 11 2026. No macro, syntax, notation, axiom, sorry.
-/
import Derived.Test.YtkedidjjhhjdbaaGreatDoorRows
import GoSem.ClaimSeven
namespace Go.Proofs.YtkedidjjhhjdbaaGreatDoor
namespace Rows

/-- THE TIED CARD OF 'belfrylaw11.PolicyViews'. -/
def policyViewsCard : Claim7 := { stood := { row := policyViewsRow, standIns := [], harness := (true, "205178c56385c4b9bfbb472af60864ef11c8a1c2518da66052fc233af6f5baa1"), looks := true }, kinds := [], alts := [], laidByText := true, laidKinds := [.data, .pinned], laidTests := true, laidLooks := .later }
def PolicyViewsCardSaid : Prop := Claim7.holds Tryz.pinned (.plain (OpenSpec.ofChange policyViewsSpec)) policyViewsCard

/-- THE TIED CARD OF 'belfrylaw11.PolicyBack'. -/
def policyBackCard : Claim7 := { stood := { row := policyBackRow, standIns := [], harness := (true, "205178c56385c4b9bfbb472af60864ef11c8a1c2518da66052fc233af6f5baa1"), looks := true }, kinds := [], alts := [], laidByText := true, laidKinds := [.data, .pinned], laidTests := true, laidLooks := .later }
def PolicyBackCardSaid : Prop := Claim7.holds Tryz.pinned (.plain (OpenSpec.ofChange policyBackSpec)) policyBackCard

/-- THE TIED CARD OF 'belfrylaw11.PolicyWrites'. -/
def policyWritesCard : Claim7 := { stood := { row := policyWritesRow, standIns := [], harness := (true, "205178c56385c4b9bfbb472af60864ef11c8a1c2518da66052fc233af6f5baa1"), looks := true }, kinds := [], alts := [], laidByText := true, laidKinds := [.data, .pinned], laidTests := true, laidLooks := .later }
def PolicyWritesCardSaid : Prop := Claim7.holds Tryz.pinned (.plain (OpenSpec.ofChange policyWritesSpec)) policyWritesCard

/-- THE TIED CARD OF 'belfrylaw11.PolicySees'. -/
def policySeesCard : Claim7 := { stood := { row := policySeesRow, standIns := [], harness := (true, "205178c56385c4b9bfbb472af60864ef11c8a1c2518da66052fc233af6f5baa1"), looks := true }, kinds := [], alts := [], laidByText := true, laidKinds := [.data, .pinned], laidTests := true, laidLooks := .later }
def PolicySeesCardSaid : Prop := Claim7.holds Tryz.pinned (.plain (OpenSpec.ofChange policySeesSpec)) policySeesCard

/-- THE TIED CARD OF 'belfrylaw11.PolicyDenies'. -/
def policyDeniesCard : Claim7 := { stood := { row := policyDeniesRow, standIns := [], harness := (true, "205178c56385c4b9bfbb472af60864ef11c8a1c2518da66052fc233af6f5baa1"), looks := true }, kinds := [], alts := [], laidByText := true, laidKinds := [.data, .pinned], laidTests := true, laidLooks := .later }
def PolicyDeniesCardSaid : Prop := Claim7.holds Tryz.pinned (.plain (OpenSpec.ofChange policyDeniesSpec)) policyDeniesCard

/-- THE TIED CARD OF 'belfrylaw11.PolicyMore'. -/
def policyMoreCard : Claim7 := { stood := { row := policyMoreRow, standIns := [], harness := (true, "205178c56385c4b9bfbb472af60864ef11c8a1c2518da66052fc233af6f5baa1"), looks := true }, kinds := [], alts := [], laidByText := true, laidKinds := [.data, .pinned], laidTests := true, laidLooks := .later }
def PolicyMoreCardSaid : Prop := Claim7.holds Tryz.pinned (.plain (OpenSpec.ofChange policyMoreSpec)) policyMoreCard

/-- THE SECOND FORM's CARD OF 'belfrylaw11.PolicyViews'. -/
def policyViewsUptoCard : Claim7 := { stood := { row := policyViewsUptoRow, standIns := [], harness := (true, "205178c56385c4b9bfbb472af60864ef11c8a1c2518da66052fc233af6f5baa1"), looks := true }, kinds := [], alts := [], laidByText := true, laidKinds := [.data, .pinned], laidTests := true, laidLooks := .later }
def PolicyViewsUptoCardSaid : Prop := Claim7.holds Tryz.pinned (.plain (OpenSpec.upto policyViewsSpec)) policyViewsUptoCard

/-- THE SECOND FORM's CARD OF 'belfrylaw11.PolicyBack'. -/
def policyBackUptoCard : Claim7 := { stood := { row := policyBackUptoRow, standIns := [], harness := (true, "205178c56385c4b9bfbb472af60864ef11c8a1c2518da66052fc233af6f5baa1"), looks := true }, kinds := [], alts := [], laidByText := true, laidKinds := [.data, .pinned], laidTests := true, laidLooks := .later }
def PolicyBackUptoCardSaid : Prop := Claim7.holds Tryz.pinned (.plain (OpenSpec.upto policyBackSpec)) policyBackUptoCard

/-- THE SECOND FORM's CARD OF 'belfrylaw11.PolicyWrites'. -/
def policyWritesUptoCard : Claim7 := { stood := { row := policyWritesUptoRow, standIns := [], harness := (true, "205178c56385c4b9bfbb472af60864ef11c8a1c2518da66052fc233af6f5baa1"), looks := true }, kinds := [], alts := [], laidByText := true, laidKinds := [.data, .pinned], laidTests := true, laidLooks := .later }
def PolicyWritesUptoCardSaid : Prop := Claim7.holds Tryz.pinned (.plain (OpenSpec.upto policyWritesSpec)) policyWritesUptoCard

/-- THE SECOND FORM's CARD OF 'belfrylaw11.PolicySees'. -/
def policySeesUptoCard : Claim7 := { stood := { row := policySeesUptoRow, standIns := [], harness := (true, "205178c56385c4b9bfbb472af60864ef11c8a1c2518da66052fc233af6f5baa1"), looks := true }, kinds := [], alts := [], laidByText := true, laidKinds := [.data, .pinned], laidTests := true, laidLooks := .later }
def PolicySeesUptoCardSaid : Prop := Claim7.holds Tryz.pinned (.plain (OpenSpec.upto policySeesSpec)) policySeesUptoCard

/-- THE SECOND FORM's CARD OF 'belfrylaw11.PolicyDenies'. -/
def policyDeniesUptoCard : Claim7 := { stood := { row := policyDeniesUptoRow, standIns := [], harness := (true, "205178c56385c4b9bfbb472af60864ef11c8a1c2518da66052fc233af6f5baa1"), looks := true }, kinds := [], alts := [], laidByText := true, laidKinds := [.data, .pinned], laidTests := true, laidLooks := .later }
def PolicyDeniesUptoCardSaid : Prop := Claim7.holds Tryz.pinned (.plain (OpenSpec.upto policyDeniesSpec)) policyDeniesUptoCard

/-- THE SECOND FORM's CARD OF 'belfrylaw11.PolicyMore'. -/
def policyMoreUptoCard : Claim7 := { stood := { row := policyMoreUptoRow, standIns := [], harness := (true, "205178c56385c4b9bfbb472af60864ef11c8a1c2518da66052fc233af6f5baa1"), looks := true }, kinds := [], alts := [], laidByText := true, laidKinds := [.data, .pinned], laidTests := true, laidLooks := .later }
def PolicyMoreUptoCardSaid : Prop := Claim7.holds Tryz.pinned (.plain (OpenSpec.upto policyMoreSpec)) policyMoreUptoCard
end Rows
end Go.Proofs.YtkedidjjhhjdbaaGreatDoor
