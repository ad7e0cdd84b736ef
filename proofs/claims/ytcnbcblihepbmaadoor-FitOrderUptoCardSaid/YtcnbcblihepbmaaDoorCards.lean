/-
  DERIVED. GIVEN WITH THE SEED: THE CARDS: each row of YtcnbcblihepbmaaDoorRows.lean that lists a variable, with what it lists TIED to the program's text (the seventh form; the later family's looks); each row that meets fmt, with fmt's text TOLD by the authors' own Lean function (tested against real Go, not proved from fmt's source: count such statements apart). THE CARD IS WHAT COUNTS. Prove the row's statement (the work); the ties are given (YtcnbcblihepbmaaDoorTie.lean); close each card by the builder's one call (the guide's Derived/Test/ToyasCard.lean, 'card_holds'). Laid BY PROGRAM, IN A SANDBOX (cutbox-door.mjs). By AI agents, Wed Nov 11 2026. No macro, syntax, notation, axiom, sorry.
-/
import Derived.Test.YtcnbcblihepbmaaDoorRows
import GoSem.ClaimSeven
namespace Go.Proofs.YtcnbcblihepbmaaDoor
namespace Rows

/-- THE TIED CARD OF 'stevedorelaw07.FitMore'. -/
def fitMoreCard : Claim7 := { stood := { row := fitMoreRow, standIns := [], harness := (true, "407de7775385c418aed1cd1902681fa0b475d1b6008bd4a0219e66828d550b29"), looks := true }, kinds := [], alts := [], laidByText := true, laidKinds := [.data, .data, .data, .sentinel, .sentinel], laidTests := true, laidLooks := .later }
def FitMoreCardSaid : Prop := Claim7.holds Tryd.pinned (.plain (OpenSpec.ofChange fitMoreSpec)) fitMoreCard

/-- THE TIED CARD OF 'stevedorelaw07.FitOrder'. -/
def fitOrderCard : Claim7 := { stood := { row := fitOrderRow, standIns := [], harness := (true, "407de7775385c418aed1cd1902681fa0b475d1b6008bd4a0219e66828d550b29"), looks := true }, kinds := [], alts := [], laidByText := true, laidKinds := [.data, .data, .data, .sentinel, .sentinel], laidTests := true, laidLooks := .later }
def FitOrderCardSaid : Prop := Claim7.holds Tryd.pinned (.plain (OpenSpec.ofChange fitOrderSpec)) fitOrderCard

/-- THE SECOND FORM's CARD OF 'stevedorelaw07.FitMore'. -/
def fitMoreUptoCard : Claim7 := { stood := { row := fitMoreUptoRow, standIns := [], harness := (true, "407de7775385c418aed1cd1902681fa0b475d1b6008bd4a0219e66828d550b29"), looks := true }, kinds := [], alts := [], laidByText := true, laidKinds := [.data, .data, .data, .sentinel, .sentinel], laidTests := true, laidLooks := .later }
def FitMoreUptoCardSaid : Prop := Claim7.holds Tryd.pinned (.plain (OpenSpec.upto fitMoreSpec)) fitMoreUptoCard

/-- THE SECOND FORM's CARD OF 'stevedorelaw07.FitOrder'. -/
def fitOrderUptoCard : Claim7 := { stood := { row := fitOrderUptoRow, standIns := [], harness := (true, "407de7775385c418aed1cd1902681fa0b475d1b6008bd4a0219e66828d550b29"), looks := true }, kinds := [], alts := [], laidByText := true, laidKinds := [.data, .data, .data, .sentinel, .sentinel], laidTests := true, laidLooks := .later }
def FitOrderUptoCardSaid : Prop := Claim7.holds Tryd.pinned (.plain (OpenSpec.upto fitOrderSpec)) fitOrderUptoCard
end Rows
end Go.Proofs.YtcnbcblihepbmaaDoor
