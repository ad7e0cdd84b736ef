/-
  DERIVED. GIVEN WITH THE SEED: THE CARDS: each row of YtlcmlffgebaalaaDoorRows.lean that lists a variable, with what it lists TIED to the program's text (the seventh form; the later family's looks); each row that meets fmt, with fmt's text TOLD by the authors' own Lean function (tested against real Go, not proved from fmt's source: count such statements apart). THE CARD IS WHAT COUNTS. Prove the row's statement (the work); the ties are given (YtlcmlffgebaalaaDoorTie.lean); close each card by the builder's one call (the guide's Derived/Test/ToyasCard.lean, 'card_holds'). Laid BY PROGRAM, IN A SANDBOX (cutbox-door.mjs). By AI agents, Wed Nov 11 2026. No macro, syntax, notation, axiom, sorry.
-/
import Derived.Test.YtlcmlffgebaalaaDoorRows
import GoSem.ClaimSeven
namespace Go.Proofs.YtlcmlffgebaalaaDoor
namespace Rows

/-- THE TIED CARD OF 'stevedorelaw02.LabelOthers'. -/
def labelOthersCard : Claim7 := { stood := { row := labelOthersRow, standIns := [], harness := (true, "fc3bcb134c1af5f1014f3d7e2d4b9cbaadb2cf69b69ad7b3f3c1d9e92ec06b88"), looks := true }, kinds := [], alts := [], laidByText := true, laidKinds := [.data, .data, .data, .data, .sentinel, .sentinel, .pinned], laidTests := true, laidLooks := .later }
def LabelOthersCardSaid : Prop := Claim7.holds Tryd.pinned (.plain (OpenSpec.ofChange labelOthersSpec)) labelOthersCard

/-- THE TIED CARD OF 'stevedorelaw02.LabelApart'. -/
def labelApartCard : Claim7 := { stood := { row := labelApartRow, standIns := [], harness := (true, "fc3bcb134c1af5f1014f3d7e2d4b9cbaadb2cf69b69ad7b3f3c1d9e92ec06b88"), looks := true }, kinds := [], alts := [], laidByText := true, laidKinds := [.data, .data, .data, .data, .sentinel, .sentinel, .pinned], laidTests := true, laidLooks := .later }
def LabelApartCardSaid : Prop := Claim7.holds Tryd.pinned (.plain (OpenSpec.ofChange labelApartSpec)) labelApartCard

/-- THE TIED CARD OF 'stevedorelaw02.LabelMore'. -/
def labelMoreCard : Claim7 := { stood := { row := labelMoreRow, standIns := [], harness := (true, "fc3bcb134c1af5f1014f3d7e2d4b9cbaadb2cf69b69ad7b3f3c1d9e92ec06b88"), looks := true }, kinds := [], alts := [], laidByText := true, laidKinds := [.data, .data, .data, .data, .sentinel, .sentinel, .pinned], laidTests := true, laidLooks := .later }
def LabelMoreCardSaid : Prop := Claim7.holds Tryd.pinned (.plain (OpenSpec.ofChange labelMoreSpec)) labelMoreCard

/-- THE TIED CARD OF 'stevedorelaw02.LabelMeets'. -/
def labelMeetsCard : Claim7 := { stood := { row := labelMeetsRow, standIns := [], harness := (true, "fc3bcb134c1af5f1014f3d7e2d4b9cbaadb2cf69b69ad7b3f3c1d9e92ec06b88"), looks := true }, kinds := [], alts := [], laidByText := true, laidKinds := [.data, .data, .data, .data, .sentinel, .sentinel, .pinned], laidTests := true, laidLooks := .later }
def LabelMeetsCardSaid : Prop := Claim7.holds Tryd.pinned (.plain (OpenSpec.ofChange labelMeetsSpec)) labelMeetsCard

/-- THE TIED CARD OF 'stevedorelaw02.LabelChecks'. -/
def labelChecksCard : Claim7 := { stood := { row := labelChecksRow, standIns := [], harness := (true, "fc3bcb134c1af5f1014f3d7e2d4b9cbaadb2cf69b69ad7b3f3c1d9e92ec06b88"), looks := true }, kinds := [], alts := [], laidByText := true, laidKinds := [.data, .data, .data, .data, .sentinel, .sentinel, .pinned], laidTests := true, laidLooks := .later }
def LabelChecksCardSaid : Prop := Claim7.holds Tryd.pinned (.plain (OpenSpec.ofChange labelChecksSpec)) labelChecksCard

/-- THE SECOND FORM's CARD OF 'stevedorelaw02.LabelOthers'. -/
def labelOthersUptoCard : Claim7 := { stood := { row := labelOthersUptoRow, standIns := [], harness := (true, "fc3bcb134c1af5f1014f3d7e2d4b9cbaadb2cf69b69ad7b3f3c1d9e92ec06b88"), looks := true }, kinds := [], alts := [], laidByText := true, laidKinds := [.data, .data, .data, .data, .sentinel, .sentinel, .pinned], laidTests := true, laidLooks := .later }
def LabelOthersUptoCardSaid : Prop := Claim7.holds Tryd.pinned (.plain (OpenSpec.upto labelOthersSpec)) labelOthersUptoCard

/-- THE SECOND FORM's CARD OF 'stevedorelaw02.LabelApart'. -/
def labelApartUptoCard : Claim7 := { stood := { row := labelApartUptoRow, standIns := [], harness := (true, "fc3bcb134c1af5f1014f3d7e2d4b9cbaadb2cf69b69ad7b3f3c1d9e92ec06b88"), looks := true }, kinds := [], alts := [], laidByText := true, laidKinds := [.data, .data, .data, .data, .sentinel, .sentinel, .pinned], laidTests := true, laidLooks := .later }
def LabelApartUptoCardSaid : Prop := Claim7.holds Tryd.pinned (.plain (OpenSpec.upto labelApartSpec)) labelApartUptoCard

/-- THE SECOND FORM's CARD OF 'stevedorelaw02.LabelMore'. -/
def labelMoreUptoCard : Claim7 := { stood := { row := labelMoreUptoRow, standIns := [], harness := (true, "fc3bcb134c1af5f1014f3d7e2d4b9cbaadb2cf69b69ad7b3f3c1d9e92ec06b88"), looks := true }, kinds := [], alts := [], laidByText := true, laidKinds := [.data, .data, .data, .data, .sentinel, .sentinel, .pinned], laidTests := true, laidLooks := .later }
def LabelMoreUptoCardSaid : Prop := Claim7.holds Tryd.pinned (.plain (OpenSpec.upto labelMoreSpec)) labelMoreUptoCard

/-- THE SECOND FORM's CARD OF 'stevedorelaw02.LabelMeets'. -/
def labelMeetsUptoCard : Claim7 := { stood := { row := labelMeetsUptoRow, standIns := [], harness := (true, "fc3bcb134c1af5f1014f3d7e2d4b9cbaadb2cf69b69ad7b3f3c1d9e92ec06b88"), looks := true }, kinds := [], alts := [], laidByText := true, laidKinds := [.data, .data, .data, .data, .sentinel, .sentinel, .pinned], laidTests := true, laidLooks := .later }
def LabelMeetsUptoCardSaid : Prop := Claim7.holds Tryd.pinned (.plain (OpenSpec.upto labelMeetsSpec)) labelMeetsUptoCard

/-- THE SECOND FORM's CARD OF 'stevedorelaw02.LabelChecks'. -/
def labelChecksUptoCard : Claim7 := { stood := { row := labelChecksUptoRow, standIns := [], harness := (true, "fc3bcb134c1af5f1014f3d7e2d4b9cbaadb2cf69b69ad7b3f3c1d9e92ec06b88"), looks := true }, kinds := [], alts := [], laidByText := true, laidKinds := [.data, .data, .data, .data, .sentinel, .sentinel, .pinned], laidTests := true, laidLooks := .later }
def LabelChecksUptoCardSaid : Prop := Claim7.holds Tryd.pinned (.plain (OpenSpec.upto labelChecksSpec)) labelChecksUptoCard
end Rows
end Go.Proofs.YtlcmlffgebaalaaDoor
