/-
  DERIVED. GIVEN WITH THE SEED: THE CARDS: each row of YtopimbpclgejhaaDoorRows.lean that lists a variable, with what it lists TIED to the program's text (the seventh form; the later family's looks); each row that meets fmt, with fmt's text TOLD by the authors' own Lean function (tested against real Go, not proved from fmt's source: count such statements apart). THE CARD IS WHAT COUNTS. Prove the row's statement (the work); the ties are given (YtopimbpclgejhaaDoorTie.lean); close each card by the builder's one call (the guide's Derived/Test/ToyasCard.lean, 'card_holds'). Laid BY PROGRAM, IN A SANDBOX (cutbox-door.mjs). By AI agents, Wed Nov 11 2026. No macro, syntax, notation, axiom, sorry.
-/
import Derived.Test.YtopimbpclgejhaaDoorRows
import GoSem.ClaimSeven
namespace Go.Proofs.YtopimbpclgejhaaDoor
namespace Rows

/-- THE TIED CARD OF 'stevedorelaw16.ScoreMeasures'. -/
def scoreMeasuresCard : Claim7 := { stood := { row := scoreMeasuresRow, standIns := [], harness := (true, "a7e77b74e45e47c99cf47b58a2cddf7437b2584913b9cb6fe9a7564b8391298b"), looks := true }, kinds := [], alts := [], laidByText := true, laidKinds := [.data, .data, .data, .sentinel, .sentinel], laidTests := true, laidLooks := .later }
def ScoreMeasuresCardSaid : Prop := Claim7.holds Tryd.pinned (.plain (OpenSpec.ofChange scoreMeasuresSpec)) scoreMeasuresCard

/-- THE TIED CARD OF 'stevedorelaw16.ScoreWithin'. -/
def scoreWithinCard : Claim7 := { stood := { row := scoreWithinRow, standIns := [], harness := (true, "a7e77b74e45e47c99cf47b58a2cddf7437b2584913b9cb6fe9a7564b8391298b"), looks := true }, kinds := [], alts := [], laidByText := true, laidKinds := [.data, .data, .data, .sentinel, .sentinel], laidTests := true, laidLooks := .later }
def ScoreWithinCardSaid : Prop := Claim7.holds Tryd.pinned (.plain (OpenSpec.ofChange scoreWithinSpec)) scoreWithinCard

/-- THE TIED CARD OF 'stevedorelaw16.ScoreAlone'. -/
def scoreAloneCard : Claim7 := { stood := { row := scoreAloneRow, standIns := [], harness := (true, "a7e77b74e45e47c99cf47b58a2cddf7437b2584913b9cb6fe9a7564b8391298b"), looks := true }, kinds := [], alts := [], laidByText := true, laidKinds := [.data, .data, .data, .sentinel, .sentinel], laidTests := true, laidLooks := .later }
def ScoreAloneCardSaid : Prop := Claim7.holds Tryd.pinned (.plain (OpenSpec.ofChange scoreAloneSpec)) scoreAloneCard

/-- THE SECOND FORM's CARD OF 'stevedorelaw16.ScoreMeasures'. -/
def scoreMeasuresUptoCard : Claim7 := { stood := { row := scoreMeasuresUptoRow, standIns := [], harness := (true, "a7e77b74e45e47c99cf47b58a2cddf7437b2584913b9cb6fe9a7564b8391298b"), looks := true }, kinds := [], alts := [], laidByText := true, laidKinds := [.data, .data, .data, .sentinel, .sentinel], laidTests := true, laidLooks := .later }
def ScoreMeasuresUptoCardSaid : Prop := Claim7.holds Tryd.pinned (.plain (OpenSpec.upto scoreMeasuresSpec)) scoreMeasuresUptoCard

/-- THE SECOND FORM's CARD OF 'stevedorelaw16.ScoreWithin'. -/
def scoreWithinUptoCard : Claim7 := { stood := { row := scoreWithinUptoRow, standIns := [], harness := (true, "a7e77b74e45e47c99cf47b58a2cddf7437b2584913b9cb6fe9a7564b8391298b"), looks := true }, kinds := [], alts := [], laidByText := true, laidKinds := [.data, .data, .data, .sentinel, .sentinel], laidTests := true, laidLooks := .later }
def ScoreWithinUptoCardSaid : Prop := Claim7.holds Tryd.pinned (.plain (OpenSpec.upto scoreWithinSpec)) scoreWithinUptoCard

/-- THE SECOND FORM's CARD OF 'stevedorelaw16.ScoreAlone'. -/
def scoreAloneUptoCard : Claim7 := { stood := { row := scoreAloneUptoRow, standIns := [], harness := (true, "a7e77b74e45e47c99cf47b58a2cddf7437b2584913b9cb6fe9a7564b8391298b"), looks := true }, kinds := [], alts := [], laidByText := true, laidKinds := [.data, .data, .data, .sentinel, .sentinel], laidTests := true, laidLooks := .later }
def ScoreAloneUptoCardSaid : Prop := Claim7.holds Tryd.pinned (.plain (OpenSpec.upto scoreAloneSpec)) scoreAloneUptoCard
end Rows
end Go.Proofs.YtopimbpclgejhaaDoor
