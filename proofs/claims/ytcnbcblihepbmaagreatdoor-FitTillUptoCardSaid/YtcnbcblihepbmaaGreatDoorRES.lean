/- Amounts of several things. -/
import Derived.Test.YtcnbcblihepbmaaGreatDoorQ2
import Derived.Test.YtcnbcblihepbmaaGreatDoorKd
import Derived.Test.YtcnbcblihepbmaaGreatDoorS16
set_option autoImplicit false
set_option linter.unusedVariables false
namespace Go.Proofs.YtcnbcblihepbmaaGreatDoor
open Go Go.RowKit
abbrev Res.v (r : Res) : Value := R3 r.CPU r.Mem r.Disk
def Res.plus (a b : Res) : Res := ⟨Q.add a.CPU b.CPU, Q.add a.Mem b.Mem, Q.add a.Disk b.Disk⟩
def Res.minus (a b : Res) : Res := ⟨Q.sub a.CPU b.CPU, Q.sub a.Mem b.Mem, Q.sub a.Disk b.Disk⟩
abbrev Res.zero : Res := ⟨0, 0, 0⟩
def Res.sum (l : List Res) : Res := l.foldl Res.plus Res.zero
def Res.fits (w f : Res) : Bool := decide (Q.clamp w.CPU ≤ Q.clamp f.CPU ∧ Q.clamp w.Mem ≤ Q.clamp f.Mem ∧ Q.clamp w.Disk ≤ Q.clamp f.Disk)
theorem Res.sum_snoc {l : List Res} {i : Nat} (h : i < l.length) : Res.sum (l.take (i + 1)) = Res.plus (Res.sum (l.take i)) l[i]! := by
  rw [Res.sum, take_succ! h, List.foldl_append]; rfl
end Go.Proofs.YtcnbcblihepbmaaGreatDoor
