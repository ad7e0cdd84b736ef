/-
  DERIVED. GIVEN WITH THE SEED: THE CARDS: each row of YtcnbcblihepbmaaGreatDoorRows.lean that lists a variable, with what it lists TIED to the program's text (the seventh form; the later family's looks); each row that meets fmt, with fmt's text TOLD by the authors' own Lean function (tested against real Go, not proved from fmt's source: count such statements apart). THE CARD IS WHAT COUNTS. Prove the row's statement (the work); the ties are given (YtcnbcblihepbmaaGreatDoorTie.lean); close each card by the builder's one call (the guide's Derived/Test/ToyasCard.lean, 'card_holds'). Laid BY PROGRAM, IN A SANDBOX (cutbox-door.mjs). By AI agents, Wed Nov 11 2026. No macro, syntax, notation, axiom, sorry.
-/
import Derived.Test.YtcnbcblihepbmaaGreatDoorRows
import GoSem.ClaimSeven
namespace Go.Proofs.YtcnbcblihepbmaaGreatDoor
namespace Rows

/-- THE TIED CARD OF 'stevedorelaw07.FitMost'. -/
def fitMostCard : Claim7 := { stood := { row := fitMostRow, standIns := [], harness := (true, "afa2684c157bd95a779f7843705eafc5cb26f317e780008efe9fc58ee1564d03"), looks := true }, kinds := [], alts := [], laidByText := true, laidKinds := [.data, .data, .data, .sentinel, .sentinel], laidTests := true, laidLooks := .later }
def FitMostCardSaid : Prop := Claim7.holds Tryz.pinned (.plain (OpenSpec.ofChange fitMostSpec)) fitMostCard

/-- THE TIED CARD OF 'stevedorelaw07.FitChecks'. -/
def fitChecksCard : Claim7 := { stood := { row := fitChecksRow, standIns := [], harness := (true, "afa2684c157bd95a779f7843705eafc5cb26f317e780008efe9fc58ee1564d03"), looks := true }, kinds := [], alts := [], laidByText := true, laidKinds := [.data, .data, .data, .sentinel, .sentinel], laidTests := true, laidLooks := .later }
def FitChecksCardSaid : Prop := Claim7.holds Tryz.pinned (.plain (OpenSpec.ofChange fitChecksSpec)) fitChecksCard

/-- THE TIED CARD OF 'stevedorelaw07.FitTill'. -/
def fitTillCard : Claim7 := { stood := { row := fitTillRow, standIns := [], harness := (true, "afa2684c157bd95a779f7843705eafc5cb26f317e780008efe9fc58ee1564d03"), looks := true }, kinds := [], alts := [], laidByText := true, laidKinds := [.data, .data, .data, .sentinel, .sentinel], laidTests := true, laidLooks := .later }
def FitTillCardSaid : Prop := Claim7.holds Tryz.pinned (.plain (OpenSpec.ofChange fitTillSpec)) fitTillCard

/-- THE SECOND FORM's CARD OF 'stevedorelaw07.FitMost'. -/
def fitMostUptoCard : Claim7 := { stood := { row := fitMostUptoRow, standIns := [], harness := (true, "afa2684c157bd95a779f7843705eafc5cb26f317e780008efe9fc58ee1564d03"), looks := true }, kinds := [], alts := [], laidByText := true, laidKinds := [.data, .data, .data, .sentinel, .sentinel], laidTests := true, laidLooks := .later }
def FitMostUptoCardSaid : Prop := Claim7.holds Tryz.pinned (.plain (OpenSpec.upto fitMostSpec)) fitMostUptoCard

/-- THE SECOND FORM's CARD OF 'stevedorelaw07.FitChecks'. -/
def fitChecksUptoCard : Claim7 := { stood := { row := fitChecksUptoRow, standIns := [], harness := (true, "afa2684c157bd95a779f7843705eafc5cb26f317e780008efe9fc58ee1564d03"), looks := true }, kinds := [], alts := [], laidByText := true, laidKinds := [.data, .data, .data, .sentinel, .sentinel], laidTests := true, laidLooks := .later }
def FitChecksUptoCardSaid : Prop := Claim7.holds Tryz.pinned (.plain (OpenSpec.upto fitChecksSpec)) fitChecksUptoCard

/-- THE SECOND FORM's CARD OF 'stevedorelaw07.FitTill'. -/
def fitTillUptoCard : Claim7 := { stood := { row := fitTillUptoRow, standIns := [], harness := (true, "afa2684c157bd95a779f7843705eafc5cb26f317e780008efe9fc58ee1564d03"), looks := true }, kinds := [], alts := [], laidByText := true, laidKinds := [.data, .data, .data, .sentinel, .sentinel], laidTests := true, laidLooks := .later }
def FitTillUptoCardSaid : Prop := Claim7.holds Tryz.pinned (.plain (OpenSpec.upto fitTillSpec)) fitTillUptoCard
end Rows
end Go.Proofs.YtcnbcblihepbmaaGreatDoor
