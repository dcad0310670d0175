/-
  DERIVED. GIVEN WITH THE SEED: THE CARDS: each row of YtjmljepndicdmaaDoorRows.lean that lists a variable, with what it lists TIED to the program's text (the seventh form; the later family's looks); each row that meets fmt, with fmt's text TOLD by the authors' own Lean function (tested against real Go, not proved from fmt's source: count such statements apart). THE CARD IS WHAT COUNTS. Prove the row's statement (the work); the ties are given (YtjmljepndicdmaaDoorTie.lean); close each card by the builder's one call (the guide's Derived/Test/ToyasCard.lean, 'card_holds'). Laid BY PROGRAM, IN A SANDBOX (cutbox-door.mjs). By AI agents, Wed Nov 11 2026. No macro, syntax, notation, axiom, sorry.
-/
import Derived.Test.YtjmljepndicdmaaDoorRows
import GoSem.ClaimSeven
namespace Go.Proofs.YtjmljepndicdmaaDoor
namespace Rows

/-- THE TIED CARD OF 'belfrylaw01.FixedSigns'. -/
def fixedSignsCard : Claim7 := { stood := { row := fixedSignsRow, standIns := [], harness := (true, "aa65176f29f860d2dd627d95efea64967c94076e84ec2ad7c40ce52346601f51"), looks := true }, kinds := [], alts := [], laidByText := true, laidKinds := [.data, .data, .data, .sentinel, .sentinel], laidTests := true, laidLooks := .later }
def FixedSignsCardSaid : Prop := Claim7.holds Tryd.pinned (.plain (OpenSpec.ofChange fixedSignsSpec)) fixedSignsCard

/-- THE TIED CARD OF 'belfrylaw01.FixedReckons'. -/
def fixedReckonsCard : Claim7 := { stood := { row := fixedReckonsRow, standIns := [], harness := (true, "aa65176f29f860d2dd627d95efea64967c94076e84ec2ad7c40ce52346601f51"), looks := true }, kinds := [], alts := [], laidByText := true, laidKinds := [.data, .data, .data, .sentinel, .sentinel], laidTests := true, laidLooks := .later }
def FixedReckonsCardSaid : Prop := Claim7.holds Tryd.pinned (.plain (OpenSpec.ofChange fixedReckonsSpec)) fixedReckonsCard

/-- THE TIED CARD OF 'belfrylaw01.FixedSums'. -/
def fixedSumsCard : Claim7 := { stood := { row := fixedSumsRow, standIns := [], harness := (true, "aa65176f29f860d2dd627d95efea64967c94076e84ec2ad7c40ce52346601f51"), looks := true }, kinds := [], alts := [], laidByText := true, laidKinds := [.data, .data, .data, .sentinel, .sentinel], laidTests := true, laidLooks := .later }
def FixedSumsCardSaid : Prop := Claim7.holds Tryd.pinned (.plain (OpenSpec.ofChange fixedSumsSpec)) fixedSumsCard

/-- THE TIED CARD OF 'belfrylaw01.FixedOrder'. -/
def fixedOrderCard : Claim7 := { stood := { row := fixedOrderRow, standIns := [], harness := (true, "aa65176f29f860d2dd627d95efea64967c94076e84ec2ad7c40ce52346601f51"), looks := true }, kinds := [], alts := [], laidByText := true, laidKinds := [.data, .data, .data, .sentinel, .sentinel], laidTests := true, laidLooks := .later }
def FixedOrderCardSaid : Prop := Claim7.holds Tryd.pinned (.plain (OpenSpec.ofChange fixedOrderSpec)) fixedOrderCard

/-- THE TIED CARD OF 'belfrylaw01.FixedTurns'. -/
def fixedTurnsCard : Claim7 := { stood := { row := fixedTurnsRow, standIns := [], harness := (true, "aa65176f29f860d2dd627d95efea64967c94076e84ec2ad7c40ce52346601f51"), looks := true }, kinds := [], alts := [], laidByText := true, laidKinds := [.data, .data, .data, .sentinel, .sentinel], laidTests := true, laidLooks := .later }
def FixedTurnsCardSaid : Prop := Claim7.holds Tryd.pinned (.plain (OpenSpec.ofChange fixedTurnsSpec)) fixedTurnsCard

/-- THE TIED CARD OF 'belfrylaw01.FixedTexts'. -/
def fixedTextsCard : Claim7 := { stood := { row := fixedTextsRow, standIns := [], harness := (true, "aa65176f29f860d2dd627d95efea64967c94076e84ec2ad7c40ce52346601f51"), looks := true }, kinds := [], alts := [], laidByText := true, laidKinds := [.data, .data, .data, .data, .sentinel, .sentinel, .pinned], laidTests := true, laidLooks := .later }
def FixedTextsCardSaid : Prop := Claim7.holds Tryd.pinned (.plain (OpenSpec.ofChange fixedTextsSpec)) fixedTextsCard

/-- THE SECOND FORM's CARD OF 'belfrylaw01.FixedSigns'. -/
def fixedSignsUptoCard : Claim7 := { stood := { row := fixedSignsUptoRow, standIns := [], harness := (true, "aa65176f29f860d2dd627d95efea64967c94076e84ec2ad7c40ce52346601f51"), looks := true }, kinds := [], alts := [], laidByText := true, laidKinds := [.data, .data, .data, .sentinel, .sentinel], laidTests := true, laidLooks := .later }
def FixedSignsUptoCardSaid : Prop := Claim7.holds Tryd.pinned (.plain (OpenSpec.upto fixedSignsSpec)) fixedSignsUptoCard

/-- THE SECOND FORM's CARD OF 'belfrylaw01.FixedReckons'. -/
def fixedReckonsUptoCard : Claim7 := { stood := { row := fixedReckonsUptoRow, standIns := [], harness := (true, "aa65176f29f860d2dd627d95efea64967c94076e84ec2ad7c40ce52346601f51"), looks := true }, kinds := [], alts := [], laidByText := true, laidKinds := [.data, .data, .data, .sentinel, .sentinel], laidTests := true, laidLooks := .later }
def FixedReckonsUptoCardSaid : Prop := Claim7.holds Tryd.pinned (.plain (OpenSpec.upto fixedReckonsSpec)) fixedReckonsUptoCard

/-- THE SECOND FORM's CARD OF 'belfrylaw01.FixedSums'. -/
def fixedSumsUptoCard : Claim7 := { stood := { row := fixedSumsUptoRow, standIns := [], harness := (true, "aa65176f29f860d2dd627d95efea64967c94076e84ec2ad7c40ce52346601f51"), looks := true }, kinds := [], alts := [], laidByText := true, laidKinds := [.data, .data, .data, .sentinel, .sentinel], laidTests := true, laidLooks := .later }
def FixedSumsUptoCardSaid : Prop := Claim7.holds Tryd.pinned (.plain (OpenSpec.upto fixedSumsSpec)) fixedSumsUptoCard

/-- THE SECOND FORM's CARD OF 'belfrylaw01.FixedOrder'. -/
def fixedOrderUptoCard : Claim7 := { stood := { row := fixedOrderUptoRow, standIns := [], harness := (true, "aa65176f29f860d2dd627d95efea64967c94076e84ec2ad7c40ce52346601f51"), looks := true }, kinds := [], alts := [], laidByText := true, laidKinds := [.data, .data, .data, .sentinel, .sentinel], laidTests := true, laidLooks := .later }
def FixedOrderUptoCardSaid : Prop := Claim7.holds Tryd.pinned (.plain (OpenSpec.upto fixedOrderSpec)) fixedOrderUptoCard

/-- THE SECOND FORM's CARD OF 'belfrylaw01.FixedTurns'. -/
def fixedTurnsUptoCard : Claim7 := { stood := { row := fixedTurnsUptoRow, standIns := [], harness := (true, "aa65176f29f860d2dd627d95efea64967c94076e84ec2ad7c40ce52346601f51"), looks := true }, kinds := [], alts := [], laidByText := true, laidKinds := [.data, .data, .data, .sentinel, .sentinel], laidTests := true, laidLooks := .later }
def FixedTurnsUptoCardSaid : Prop := Claim7.holds Tryd.pinned (.plain (OpenSpec.upto fixedTurnsSpec)) fixedTurnsUptoCard

/-- THE SECOND FORM's CARD OF 'belfrylaw01.FixedTexts'. -/
def fixedTextsUptoCard : Claim7 := { stood := { row := fixedTextsUptoRow, standIns := [], harness := (true, "aa65176f29f860d2dd627d95efea64967c94076e84ec2ad7c40ce52346601f51"), looks := true }, kinds := [], alts := [], laidByText := true, laidKinds := [.data, .data, .data, .data, .sentinel, .sentinel, .pinned], laidTests := true, laidLooks := .later }
def FixedTextsUptoCardSaid : Prop := Claim7.holds Tryd.pinned (.plain (OpenSpec.upto fixedTextsSpec)) fixedTextsUptoCard
end Rows
end Go.Proofs.YtjmljepndicdmaaDoor
