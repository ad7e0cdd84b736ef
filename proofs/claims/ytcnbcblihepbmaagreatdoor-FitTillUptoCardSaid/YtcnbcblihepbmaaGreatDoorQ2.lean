/- Package quant: shares of amounts. -/
import Derived.Test.YtcnbcblihepbmaaGreatDoorQ
import Derived.Test.YtcnbcblihepbmaaGreatDoorS10
set_option autoImplicit false
set_option linter.unusedVariables false
set_option linter.unusedSimpArgs false
namespace Go.Proofs.YtcnbcblihepbmaaGreatDoor
open Go Go.RowKit
attribute [local irreducible] Quiet OpsR Run CallS opS Gh endQ oblE RunN
def Q.share (a o sc : Int) : Int := if Q.clamp o = 0 then 0 else min (min (max sc 0) 1000) (Q.clamp a * min (max sc 0) 1000 / Q.clamp o)
theorem Q.share_bd (a o sc : Int) : 0 ≤ Q.share a o sc ∧ Q.share a o sc ≤ min (max sc 0) 1000 := by
  unfold Q.share
  have h1 := Q.clamp_lo a; have h2 := Q.clamp_lo o
  split
  · omega
  · have : 0 ≤ Q.clamp a * min (max sc 0) 1000 / Q.clamp o := Int.ediv_nonneg (Int.mul_nonneg h1 (by omega)) h2
    omega
end Go.Proofs.YtcnbcblihepbmaaGreatDoor
