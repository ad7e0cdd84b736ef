/- Cells of a datum, laid into a block: for the worlds of the rows' witnesses. -/
import Derived.Test.YtcnbcblihepbmaaGreatDoorO
import Derived.Test.YtcnbcblihepbmaaGreatDoorCards
import Derived.Test.YtcnbcblihepbmaaGreatDoorTie
import Derived.Deep.DeepHandedRow
import Derived.Lib.LaidTab
set_option autoImplicit false
set_option linter.unusedVariables false
namespace Go.Proofs.YtcnbcblihepbmaaGreatDoor
open Go
mutual
def dataCells {H : Type} : DataW H → List Value
  | .lit (.bool b) => [.bool b]
  | .lit (.int k n) => [.int k n]
  | .lit (.string l) => [.string ⟨l.toArray⟩]
  | .agg parts => dataCellsAll parts
  | _ => []
def dataCellsAll {H : Type} : List (DataW H) → List Value
  | [] => []
  | d :: r => dataCells d ++ dataCellsAll r
end
def layCells (d : DataW Unit) : Obj → Obj
  | .cells _ t fr => .cells (dataCells d).toArray t fr
  | o => o
def layIface (t b : Nat) : Obj → Obj
  | .cells _ u fr => .cells #[.iface t (.pointer (some ⟨b, 0, none⟩))] u fr
  | o => o
end Go.Proofs.YtcnbcblihepbmaaGreatDoor
