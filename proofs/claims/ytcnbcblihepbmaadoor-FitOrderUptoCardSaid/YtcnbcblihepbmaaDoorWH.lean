/- The reference's Whole: what numeral a text is. -/
import Derived.Test.YtcnbcblihepbmaaDoorSH
set_option autoImplicit false
set_option linter.unusedVariables false
set_option linter.unusedSimpArgs false
namespace Go.Proofs.YtcnbcblihepbmaaDoor
open Go Go.RowKit
theorem len_toList (b : ByteArray) : b.data.toList.length = b.size := rfl
theorem u8_eq {x : UInt8} {n : Nat} (h : n < 256) : x = UInt8.ofNat n ↔ x.toNat = n := by
  constructor
  · rintro rfl; rw [UInt8.toNat_ofNat']; omega
  · intro e; apply UInt8.toNat_inj.1; rw [UInt8.toNat_ofNat']; omega
theorem wrap_u8_id {n : Int} (h1 : 0 ≤ n) (h2 : n ≤ 255) : IntKind.u8.wrap n = n := by
  unfold IntKind.wrap
  have e1 : IntKind.u8.signed = false := rfl
  have e2 : IntKind.u8.bits = 8 := rfl
  simp only [e1, e2, Bool.false_and, Nat.reduceSub, Bool.false_eq_true, if_false, decide_false]
  omega
theorem whole_e {dg : Nat} {l : List UInt8} (h : l = [] ∨ dg < l.length ∨ (1 < l.length ∧ l.head? = some 48)) : whole dg l = none := by rw [whole, if_pos h]
theorem head_bytes {b : ByteArray} (h : 0 < b.size) : b.data.toList.head? = some b.data.toList[0]! := by
  cases hl : b.data.toList with
  | nil => have := congrArg List.length hl; rw [len_toList, List.length_nil] at this; omega
  | cons x r => rfl
theorem digit_of {x : UInt8} (h1 : 48 ≤ x.toNat) (h2 : x.toNat ≤ 57) : Lib.digitVal x = some (x.toNat - 48) := by rw [Lib.digitVal, if_pos ⟨h1, h2⟩]
theorem digit_not {x : UInt8} (h : x.toNat < 48 ∨ 57 < x.toNat) : Lib.digitVal x = none := by rw [Lib.digitVal, if_neg (by omega)]
theorem whole_stop {dg : Nat} {b : ByteArray} {i : Nat} (hi : i < b.size) (h : Lib.digitVal b.data.toList[i]! = none) : whole dg b.data.toList = none := by
  cases hw : whole dg b.data.toList with
  | none => rfl
  | some m =>
    obtain ⟨_, h2⟩ := whole_iff.1 hw
    have h3 := decFrom_decDigits m
    rw [h2] at h3
    obtain ⟨d, hd⟩ := Lib.digit_of_decFrom _ 0 m h3 i b.data.toList[i]! (by rw [getElem!_pos b.data.toList i hi]; simp [len_toList, hi])
    rw [h] at hd; cases hd
section
attribute [local irreducible] Quiet OpsR Run CallS opS Gh endQ oblE RunN
end
end Go.Proofs.YtcnbcblihepbmaaDoor
