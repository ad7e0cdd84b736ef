/-
  DERIVED. GIVEN WITH THE SEED: THE CARDS: each row of YtlbhlpjakllokaaDoorRows.lean that lists a variable, with what it lists TIED to the program's text (the seventh form; the later family's looks); each row that meets fmt, with fmt's text TOLD by the authors' own Lean function (tested against real Go, not proved from fmt's source: count such statements apart). THE CARD IS WHAT COUNTS. Prove the row's statement (the work); the ties are given (YtlbhlpjakllokaaDoorTie.lean); close each card by the builder's one call (the guide's Derived/Test/ToyasCard.lean, 'card_holds'). Laid BY PROGRAM, IN A SANDBOX (cutbox-door.mjs). By AI agents, Wed Nov 11 2026. No macro, syntax, notation, axiom, sorry.
-/
import Derived.Test.YtlbhlpjakllokaaDoorRows
import GoSem.ClaimSeven
namespace Go.Proofs.YtlbhlpjakllokaaDoor
namespace Rows

/-- THE TIED CARD OF 'stevedorelaw01.QuantTexts'. -/
def quantTextsCard : Claim7 := { stood := { row := quantTextsRow, standIns := [], harness := (true, "c77ba50d9d30b08e7b986d9571f9f4a0814306891aa543be54b0038e3c8a947d"), looks := true }, kinds := [], alts := [], laidByText := true, laidKinds := [.data, .data, .data, .sentinel, .sentinel], laidTests := true, laidLooks := .later }
def QuantTextsCardSaid : Prop := Claim7.holds Tryd.pinned (.plain (OpenSpec.ofChange quantTextsSpec)) quantTextsCard

/-- THE TIED CARD OF 'stevedorelaw01.QuantBack'. -/
def quantBackCard : Claim7 := { stood := { row := quantBackRow, standIns := [], harness := (true, "c77ba50d9d30b08e7b986d9571f9f4a0814306891aa543be54b0038e3c8a947d"), looks := true }, kinds := [], alts := [], laidByText := true, laidKinds := [.data, .data, .data, .sentinel, .sentinel], laidTests := true, laidLooks := .later }
def QuantBackCardSaid : Prop := Claim7.holds Tryd.pinned (.plain (OpenSpec.ofChange quantBackSpec)) quantBackCard

/-- THE TIED CARD OF 'stevedorelaw01.QuantOrder'. -/
def quantOrderCard : Claim7 := { stood := { row := quantOrderRow, standIns := [], harness := (true, "c77ba50d9d30b08e7b986d9571f9f4a0814306891aa543be54b0038e3c8a947d"), looks := true }, kinds := [], alts := [], laidByText := true, laidKinds := [.data, .data, .data, .sentinel, .sentinel], laidTests := true, laidLooks := .later }
def QuantOrderCardSaid : Prop := Claim7.holds Tryd.pinned (.plain (OpenSpec.ofChange quantOrderSpec)) quantOrderCard

/-- THE TIED CARD OF 'stevedorelaw01.QuantReckons'. -/
def quantReckonsCard : Claim7 := { stood := { row := quantReckonsRow, standIns := [], harness := (true, "c77ba50d9d30b08e7b986d9571f9f4a0814306891aa543be54b0038e3c8a947d"), looks := true }, kinds := [], alts := [], laidByText := true, laidKinds := [.data, .data, .data, .sentinel, .sentinel], laidTests := true, laidLooks := .later }
def QuantReckonsCardSaid : Prop := Claim7.holds Tryd.pinned (.plain (OpenSpec.ofChange quantReckonsSpec)) quantReckonsCard

/-- THE TIED CARD OF 'stevedorelaw01.QuantFits'. -/
def quantFitsCard : Claim7 := { stood := { row := quantFitsRow, standIns := [], harness := (true, "c77ba50d9d30b08e7b986d9571f9f4a0814306891aa543be54b0038e3c8a947d"), looks := true }, kinds := [], alts := [], laidByText := true, laidKinds := [.data, .data, .data, .sentinel, .sentinel], laidTests := true, laidLooks := .later }
def QuantFitsCardSaid : Prop := Claim7.holds Tryd.pinned (.plain (OpenSpec.ofChange quantFitsSpec)) quantFitsCard

/-- THE TIED CARD OF 'stevedorelaw01.QuantParts'. -/
def quantPartsCard : Claim7 := { stood := { row := quantPartsRow, standIns := [], harness := (true, "c77ba50d9d30b08e7b986d9571f9f4a0814306891aa543be54b0038e3c8a947d"), looks := true }, kinds := [], alts := [], laidByText := true, laidKinds := [.data, .data, .data, .sentinel, .sentinel], laidTests := true, laidLooks := .later }
def QuantPartsCardSaid : Prop := Claim7.holds Tryd.pinned (.plain (OpenSpec.ofChange quantPartsSpec)) quantPartsCard

/-- THE SECOND FORM's CARD OF 'stevedorelaw01.QuantTexts'. -/
def quantTextsUptoCard : Claim7 := { stood := { row := quantTextsUptoRow, standIns := [], harness := (true, "c77ba50d9d30b08e7b986d9571f9f4a0814306891aa543be54b0038e3c8a947d"), looks := true }, kinds := [], alts := [], laidByText := true, laidKinds := [.data, .data, .data, .sentinel, .sentinel], laidTests := true, laidLooks := .later }
def QuantTextsUptoCardSaid : Prop := Claim7.holds Tryd.pinned (.plain (OpenSpec.upto quantTextsSpec)) quantTextsUptoCard

/-- THE SECOND FORM's CARD OF 'stevedorelaw01.QuantBack'. -/
def quantBackUptoCard : Claim7 := { stood := { row := quantBackUptoRow, standIns := [], harness := (true, "c77ba50d9d30b08e7b986d9571f9f4a0814306891aa543be54b0038e3c8a947d"), looks := true }, kinds := [], alts := [], laidByText := true, laidKinds := [.data, .data, .data, .sentinel, .sentinel], laidTests := true, laidLooks := .later }
def QuantBackUptoCardSaid : Prop := Claim7.holds Tryd.pinned (.plain (OpenSpec.upto quantBackSpec)) quantBackUptoCard

/-- THE SECOND FORM's CARD OF 'stevedorelaw01.QuantOrder'. -/
def quantOrderUptoCard : Claim7 := { stood := { row := quantOrderUptoRow, standIns := [], harness := (true, "c77ba50d9d30b08e7b986d9571f9f4a0814306891aa543be54b0038e3c8a947d"), looks := true }, kinds := [], alts := [], laidByText := true, laidKinds := [.data, .data, .data, .sentinel, .sentinel], laidTests := true, laidLooks := .later }
def QuantOrderUptoCardSaid : Prop := Claim7.holds Tryd.pinned (.plain (OpenSpec.upto quantOrderSpec)) quantOrderUptoCard

/-- THE SECOND FORM's CARD OF 'stevedorelaw01.QuantReckons'. -/
def quantReckonsUptoCard : Claim7 := { stood := { row := quantReckonsUptoRow, standIns := [], harness := (true, "c77ba50d9d30b08e7b986d9571f9f4a0814306891aa543be54b0038e3c8a947d"), looks := true }, kinds := [], alts := [], laidByText := true, laidKinds := [.data, .data, .data, .sentinel, .sentinel], laidTests := true, laidLooks := .later }
def QuantReckonsUptoCardSaid : Prop := Claim7.holds Tryd.pinned (.plain (OpenSpec.upto quantReckonsSpec)) quantReckonsUptoCard

/-- THE SECOND FORM's CARD OF 'stevedorelaw01.QuantFits'. -/
def quantFitsUptoCard : Claim7 := { stood := { row := quantFitsUptoRow, standIns := [], harness := (true, "c77ba50d9d30b08e7b986d9571f9f4a0814306891aa543be54b0038e3c8a947d"), looks := true }, kinds := [], alts := [], laidByText := true, laidKinds := [.data, .data, .data, .sentinel, .sentinel], laidTests := true, laidLooks := .later }
def QuantFitsUptoCardSaid : Prop := Claim7.holds Tryd.pinned (.plain (OpenSpec.upto quantFitsSpec)) quantFitsUptoCard

/-- THE SECOND FORM's CARD OF 'stevedorelaw01.QuantParts'. -/
def quantPartsUptoCard : Claim7 := { stood := { row := quantPartsUptoRow, standIns := [], harness := (true, "c77ba50d9d30b08e7b986d9571f9f4a0814306891aa543be54b0038e3c8a947d"), looks := true }, kinds := [], alts := [], laidByText := true, laidKinds := [.data, .data, .data, .sentinel, .sentinel], laidTests := true, laidLooks := .later }
def QuantPartsUptoCardSaid : Prop := Claim7.holds Tryd.pinned (.plain (OpenSpec.upto quantPartsSpec)) quantPartsUptoCard
end Rows
end Go.Proofs.YtlbhlpjakllokaaDoor
