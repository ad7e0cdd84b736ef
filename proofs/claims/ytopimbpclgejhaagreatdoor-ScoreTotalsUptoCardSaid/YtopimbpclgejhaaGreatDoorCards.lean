/-
  DERIVED. GIVEN WITH THE SEED: THE CARDS: each row of YtopimbpclgejhaaGreatDoorRows.lean that lists a variable, with what it lists TIED to the program's text (the seventh form; the later family's looks); each row that meets fmt, with fmt's text TOLD by the authors' own Lean function (tested against real Go, not proved from fmt's source: count such statements apart). THE CARD IS WHAT COUNTS. Prove the row's statement (the work); the ties are given (YtopimbpclgejhaaGreatDoorTie.lean); close each card by the builder's one call (the guide's Derived/Test/ToyasCard.lean, 'card_holds'). Laid BY PROGRAM, IN A SANDBOX (cutbox-door.mjs). By AI agents, Wed Nov 11 2026. No macro, syntax, notation, axiom, sorry.
-/
import Derived.Test.YtopimbpclgejhaaGreatDoorRows
import GoSem.ClaimSeven
namespace Go.Proofs.YtopimbpclgejhaaGreatDoor
namespace Rows

/-- THE TIED CARD OF 'stevedorelaw16.ScoreTotals'. -/
def scoreTotalsCard : Claim7 := { stood := { row := scoreTotalsRow, standIns := [], harness := (true, "fab1c455400e52eb71b5e4d16866c8f08b70fd58907e361053269c4cc33806e4"), looks := true }, kinds := [], alts := [], laidByText := true, laidKinds := [.data, .data, .data, .sentinel, .sentinel], laidTests := true, laidLooks := .later }
def ScoreTotalsCardSaid : Prop := Claim7.holds Tryz.pinned (.plain (OpenSpec.ofChange scoreTotalsSpec)) scoreTotalsCard

/-- THE SECOND FORM's CARD OF 'stevedorelaw16.ScoreTotals'. -/
def scoreTotalsUptoCard : Claim7 := { stood := { row := scoreTotalsUptoRow, standIns := [], harness := (true, "fab1c455400e52eb71b5e4d16866c8f08b70fd58907e361053269c4cc33806e4"), looks := true }, kinds := [], alts := [], laidByText := true, laidKinds := [.data, .data, .data, .sentinel, .sentinel], laidTests := true, laidLooks := .later }
def ScoreTotalsUptoCardSaid : Prop := Claim7.holds Tryz.pinned (.plain (OpenSpec.upto scoreTotalsSpec)) scoreTotalsUptoCard
end Rows
end Go.Proofs.YtopimbpclgejhaaGreatDoor
