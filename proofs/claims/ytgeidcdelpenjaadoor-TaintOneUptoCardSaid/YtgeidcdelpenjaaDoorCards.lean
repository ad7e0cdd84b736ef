/-
  DERIVED. GIVEN WITH THE SEED: THE CARDS: each row of YtgeidcdelpenjaaDoorRows.lean that lists a variable, with what it lists TIED to the program's text (the seventh form; the later family's looks); each row that meets fmt, with fmt's text TOLD by the authors' own Lean function (tested against real Go, not proved from fmt's source: count such statements apart). THE CARD IS WHAT COUNTS. Prove the row's statement (the work); the ties are given (YtgeidcdelpenjaaDoorTie.lean); close each card by the builder's one call (the guide's Derived/Test/ToyasCard.lean, 'card_holds'). Laid BY PROGRAM, IN A SANDBOX (cutbox-door.mjs). By AI agents, Wed Nov 11 2026. No macro, syntax, notation, axiom, sorry.
-/
import Derived.Test.YtgeidcdelpenjaaDoorRows
import GoSem.ClaimSeven
namespace Go.Proofs.YtgeidcdelpenjaaDoor
namespace Rows

/-- THE TIED CARD OF 'stevedorelaw03.TaintChecks'. -/
def taintChecksCard : Claim7 := { stood := { row := taintChecksRow, standIns := [], harness := (true, "1045f6566587a013af4f50fc77c103c16bf4c7cc8cf2060f5187fe3a82f7e61b"), looks := false }, kinds := [], alts := [], laidByText := true, laidKinds := [.data, .pinned], laidTests := true, laidLooks := .later }
def TaintChecksCardSaid : Prop := Claim7.holds Tryd.pinned (.plain (OpenSpec.ofChange taintChecksSpec)) taintChecksCard

/-- THE TIED CARD OF 'stevedorelaw03.TaintBears'. -/
def taintBearsCard : Claim7 := { stood := { row := taintBearsRow, standIns := [], harness := (true, "1045f6566587a013af4f50fc77c103c16bf4c7cc8cf2060f5187fe3a82f7e61b"), looks := false }, kinds := [], alts := [], laidByText := true, laidKinds := [.data, .pinned], laidTests := true, laidLooks := .later }
def TaintBearsCardSaid : Prop := Claim7.holds Tryd.pinned (.plain (OpenSpec.ofChange taintBearsSpec)) taintBearsCard

/-- THE TIED CARD OF 'stevedorelaw03.TaintMore'. -/
def taintMoreCard : Claim7 := { stood := { row := taintMoreRow, standIns := [], harness := (true, "1045f6566587a013af4f50fc77c103c16bf4c7cc8cf2060f5187fe3a82f7e61b"), looks := false }, kinds := [], alts := [], laidByText := true, laidKinds := [.data, .pinned], laidTests := true, laidLooks := .later }
def TaintMoreCardSaid : Prop := Claim7.holds Tryd.pinned (.plain (OpenSpec.ofChange taintMoreSpec)) taintMoreCard

/-- THE TIED CARD OF 'stevedorelaw03.TaintAll'. -/
def taintAllCard : Claim7 := { stood := { row := taintAllRow, standIns := [], harness := (true, "1045f6566587a013af4f50fc77c103c16bf4c7cc8cf2060f5187fe3a82f7e61b"), looks := false }, kinds := [], alts := [], laidByText := true, laidKinds := [.data, .pinned], laidTests := true, laidLooks := .later }
def TaintAllCardSaid : Prop := Claim7.holds Tryd.pinned (.plain (OpenSpec.ofChange taintAllSpec)) taintAllCard

/-- THE TIED CARD OF 'stevedorelaw03.TaintOne'. -/
def taintOneCard : Claim7 := { stood := { row := taintOneRow, standIns := [], harness := (true, "1045f6566587a013af4f50fc77c103c16bf4c7cc8cf2060f5187fe3a82f7e61b"), looks := false }, kinds := [], alts := [], laidByText := true, laidKinds := [.data, .pinned], laidTests := true, laidLooks := .later }
def TaintOneCardSaid : Prop := Claim7.holds Tryd.pinned (.plain (OpenSpec.ofChange taintOneSpec)) taintOneCard

/-- THE SECOND FORM's CARD OF 'stevedorelaw03.TaintChecks'. -/
def taintChecksUptoCard : Claim7 := { stood := { row := taintChecksUptoRow, standIns := [], harness := (true, "1045f6566587a013af4f50fc77c103c16bf4c7cc8cf2060f5187fe3a82f7e61b"), looks := false }, kinds := [], alts := [], laidByText := true, laidKinds := [.data, .pinned], laidTests := true, laidLooks := .later }
def TaintChecksUptoCardSaid : Prop := Claim7.holds Tryd.pinned (.plain (OpenSpec.upto taintChecksSpec)) taintChecksUptoCard

/-- THE SECOND FORM's CARD OF 'stevedorelaw03.TaintBears'. -/
def taintBearsUptoCard : Claim7 := { stood := { row := taintBearsUptoRow, standIns := [], harness := (true, "1045f6566587a013af4f50fc77c103c16bf4c7cc8cf2060f5187fe3a82f7e61b"), looks := false }, kinds := [], alts := [], laidByText := true, laidKinds := [.data, .pinned], laidTests := true, laidLooks := .later }
def TaintBearsUptoCardSaid : Prop := Claim7.holds Tryd.pinned (.plain (OpenSpec.upto taintBearsSpec)) taintBearsUptoCard

/-- THE SECOND FORM's CARD OF 'stevedorelaw03.TaintMore'. -/
def taintMoreUptoCard : Claim7 := { stood := { row := taintMoreUptoRow, standIns := [], harness := (true, "1045f6566587a013af4f50fc77c103c16bf4c7cc8cf2060f5187fe3a82f7e61b"), looks := false }, kinds := [], alts := [], laidByText := true, laidKinds := [.data, .pinned], laidTests := true, laidLooks := .later }
def TaintMoreUptoCardSaid : Prop := Claim7.holds Tryd.pinned (.plain (OpenSpec.upto taintMoreSpec)) taintMoreUptoCard

/-- THE SECOND FORM's CARD OF 'stevedorelaw03.TaintAll'. -/
def taintAllUptoCard : Claim7 := { stood := { row := taintAllUptoRow, standIns := [], harness := (true, "1045f6566587a013af4f50fc77c103c16bf4c7cc8cf2060f5187fe3a82f7e61b"), looks := false }, kinds := [], alts := [], laidByText := true, laidKinds := [.data, .pinned], laidTests := true, laidLooks := .later }
def TaintAllUptoCardSaid : Prop := Claim7.holds Tryd.pinned (.plain (OpenSpec.upto taintAllSpec)) taintAllUptoCard

/-- THE SECOND FORM's CARD OF 'stevedorelaw03.TaintOne'. -/
def taintOneUptoCard : Claim7 := { stood := { row := taintOneUptoRow, standIns := [], harness := (true, "1045f6566587a013af4f50fc77c103c16bf4c7cc8cf2060f5187fe3a82f7e61b"), looks := false }, kinds := [], alts := [], laidByText := true, laidKinds := [.data, .pinned], laidTests := true, laidLooks := .later }
def TaintOneUptoCardSaid : Prop := Claim7.holds Tryd.pinned (.plain (OpenSpec.upto taintOneSpec)) taintOneUptoCard
end Rows
end Go.Proofs.YtgeidcdelpenjaaDoor
