/-
  DERIVED. GIVEN WITH THE SEED: THE CARDS: each row of YtnfanpjfhdlddaaGreatDoorRows.lean that lists a variable, with what it lists TIED to the program's text (the seventh form; the later family's looks); each row that meets fmt, with fmt's text TOLD by the authors' own Lean function (tested against real Go, not proved from fmt's source: count such statements apart). THE CARD IS WHAT COUNTS. Prove the row's statement (the work); the ties are given (YtnfanpjfhdlddaaGreatDoorTie.lean); close each card by the builder's one call (the guide's Derived/Test/ToyasCard.lean, 'card_holds'). Laid BY PROGRAM, IN A SANDBOX (cutbox-door.mjs). By AI agents, Wed Nov 11 2026. No macro, syntax, notation, axiom, sorry.
-/
import Derived.Test.YtnfanpjfhdlddaaGreatDoorRows
import GoSem.ClaimSeven
namespace Go.Proofs.YtnfanpjfhdlddaaGreatDoor
namespace Rows

/-- THE TIED CARD OF 'belfrylaw04.AttrSets'. -/
def attrSetsCard : Claim7 := { stood := { row := attrSetsRow, standIns := [], harness := (true, "29feebeb0e35849ca4d91c24011d3bcb12fcd7ff6418998ba280381253a9188f"), looks := true }, kinds := [], alts := [], laidByText := true, laidKinds := [.data, .pinned], laidTests := true, laidLooks := .later }
def AttrSetsCardSaid : Prop := Claim7.holds Tryz.pinned (.plain (OpenSpec.ofChange attrSetsSpec)) attrSetsCard

/-- THE TIED CARD OF 'belfrylaw04.AttrPicks'. -/
def attrPicksCard : Claim7 := { stood := { row := attrPicksRow, standIns := [], harness := (true, "29feebeb0e35849ca4d91c24011d3bcb12fcd7ff6418998ba280381253a9188f"), looks := true }, kinds := [], alts := [], laidByText := true, laidKinds := [.data, .pinned], laidTests := true, laidLooks := .later }
def AttrPicksCardSaid : Prop := Claim7.holds Tryz.pinned (.plain (OpenSpec.ofChange attrPicksSpec)) attrPicksCard

/-- THE TIED CARD OF 'belfrylaw04.AttrOrder'. -/
def attrOrderCard : Claim7 := { stood := { row := attrOrderRow, standIns := [], harness := (true, "29feebeb0e35849ca4d91c24011d3bcb12fcd7ff6418998ba280381253a9188f"), looks := true }, kinds := [], alts := [], laidByText := true, laidKinds := [.data, .pinned], laidTests := true, laidLooks := .later }
def AttrOrderCardSaid : Prop := Claim7.holds Tryz.pinned (.plain (OpenSpec.ofChange attrOrderSpec)) attrOrderCard

/-- THE TIED CARD OF 'belfrylaw04.AttrFits'. -/
def attrFitsCard : Claim7 := { stood := { row := attrFitsRow, standIns := [], harness := (true, "29feebeb0e35849ca4d91c24011d3bcb12fcd7ff6418998ba280381253a9188f"), looks := true }, kinds := [], alts := [], laidByText := true, laidKinds := [.data, .pinned], laidTests := true, laidLooks := .later }
def AttrFitsCardSaid : Prop := Claim7.holds Tryz.pinned (.plain (OpenSpec.ofChange attrFitsSpec)) attrFitsCard

/-- THE SECOND FORM's CARD OF 'belfrylaw04.AttrSets'. -/
def attrSetsUptoCard : Claim7 := { stood := { row := attrSetsUptoRow, standIns := [], harness := (true, "29feebeb0e35849ca4d91c24011d3bcb12fcd7ff6418998ba280381253a9188f"), looks := true }, kinds := [], alts := [], laidByText := true, laidKinds := [.data, .pinned], laidTests := true, laidLooks := .later }
def AttrSetsUptoCardSaid : Prop := Claim7.holds Tryz.pinned (.plain (OpenSpec.upto attrSetsSpec)) attrSetsUptoCard

/-- THE SECOND FORM's CARD OF 'belfrylaw04.AttrPicks'. -/
def attrPicksUptoCard : Claim7 := { stood := { row := attrPicksUptoRow, standIns := [], harness := (true, "29feebeb0e35849ca4d91c24011d3bcb12fcd7ff6418998ba280381253a9188f"), looks := true }, kinds := [], alts := [], laidByText := true, laidKinds := [.data, .pinned], laidTests := true, laidLooks := .later }
def AttrPicksUptoCardSaid : Prop := Claim7.holds Tryz.pinned (.plain (OpenSpec.upto attrPicksSpec)) attrPicksUptoCard

/-- THE SECOND FORM's CARD OF 'belfrylaw04.AttrOrder'. -/
def attrOrderUptoCard : Claim7 := { stood := { row := attrOrderUptoRow, standIns := [], harness := (true, "29feebeb0e35849ca4d91c24011d3bcb12fcd7ff6418998ba280381253a9188f"), looks := true }, kinds := [], alts := [], laidByText := true, laidKinds := [.data, .pinned], laidTests := true, laidLooks := .later }
def AttrOrderUptoCardSaid : Prop := Claim7.holds Tryz.pinned (.plain (OpenSpec.upto attrOrderSpec)) attrOrderUptoCard

/-- THE SECOND FORM's CARD OF 'belfrylaw04.AttrFits'. -/
def attrFitsUptoCard : Claim7 := { stood := { row := attrFitsUptoRow, standIns := [], harness := (true, "29feebeb0e35849ca4d91c24011d3bcb12fcd7ff6418998ba280381253a9188f"), looks := true }, kinds := [], alts := [], laidByText := true, laidKinds := [.data, .pinned], laidTests := true, laidLooks := .later }
def AttrFitsUptoCardSaid : Prop := Claim7.holds Tryz.pinned (.plain (OpenSpec.upto attrFitsSpec)) attrFitsUptoCard
end Rows
end Go.Proofs.YtnfanpjfhdlddaaGreatDoor
