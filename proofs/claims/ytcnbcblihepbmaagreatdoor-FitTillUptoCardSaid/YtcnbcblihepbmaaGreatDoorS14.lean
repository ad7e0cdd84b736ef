/- Rules for walks: texts. It holds for every program. -/
import Derived.Test.YtcnbcblihepbmaaGreatDoorS13
set_option autoImplicit false
set_option linter.unusedSimpArgs false
set_option linter.unusedVariables false
namespace Go.Proofs.YtcnbcblihepbmaaGreatDoor
open Go Go.RowKit
theorem toList_loop (b : ByteArray) : ∀ (n i : Nat) (r : List UInt8), b.size - i = n → ByteArray.toList.loop b i r = r.reverse ++ b.data.toList.drop i := by
  intro n
  induction n with
  | zero =>
    intro i r h
    unfold ByteArray.toList.loop
    rw [if_neg (by omega), List.drop_eq_nil_of_le (by have : b.data.toList.length = b.size := rfl; omega), List.append_nil]
  | succ n ih =>
    intro i r h
    unfold ByteArray.toList.loop
    have hlt : i < b.size := by omega
    have hl : i < b.data.toList.length := hlt
    rw [if_pos hlt, ih (i + 1) _ (by omega), List.reverse_cons, List.append_assoc, List.drop_eq_getElem_cons hl]
    congr 2
    simp only [List.singleton_append, List.cons.injEq, and_true]
    show b.data[i]! = _
    rw [getElem!_pos b.data i hlt]
    rfl
theorem toList_data (b : ByteArray) : b.toList = b.data.toList := by
  unfold ByteArray.toList
  rw [toList_loop b _ 0 [] rfl]; rfl
theorem toList_inj {a b : ByteArray} (h : a.toList = b.toList) : a = b := by
  rw [toList_data, toList_data] at h
  exact ByteArray.ext (Array.toList_inj.1 h)
theorem beq_bytes (a b : ByteArray) : (a.toList == b.toList) = decide (a = b) := by
  by_cases h : a = b
  · subst h; simp
  · have : ¬ a.toList = b.toList := fun e => h (toList_inj e)
    simp [h, this]
section
variable {P : Program} {s : St} {ρ : Operand → Value} {d : Option Tmp} {ty : TypeId} {ps : String} {af : Array Edge} {g : Option (Nat × Bool)} {x y z : Operand}
theorem q_eql_string {t u : TypeId} {a b : ByteArray} (hx : ρ x = .string a) (hy : ρ y = .string b) : Quiet P (Oper.mk d (.binOp .eql t x y u) ty ps af g) ρ s (.bool (decide (a = b))) := by
  intro K h
  simp only [opS, execOp, hx, hy, eqGuard, Go.binOp, Op.stringOp, swp_bind', swp_pure, nextS, beq_bytes]
  exact h
theorem q_neq_string {t u : TypeId} {a b : ByteArray} (hx : ρ x = .string a) (hy : ρ y = .string b) : Quiet P (Oper.mk d (.binOp .neq t x y u) ty ps af g) ρ s (.bool (decide (a ≠ b))) := by
  intro K h
  have e : (!decide (a = b)) = decide (a ≠ b) := by by_cases h : a = b <;> simp [h]
  simp only [opS, execOp, hx, hy, eqGuard, Go.binOp, Op.stringOp, swp_bind', swp_pure, nextS, beq_bytes, e]
  exact h
/-- One text comes ahead of another one. -/
def sLt (a b : ByteArray) : Bool := Op.bytesLess a.toList b.toList
theorem q_lss_string {t u : TypeId} {a b : ByteArray} (hx : ρ x = .string a) (hy : ρ y = .string b) : Quiet P (Oper.mk d (.binOp .lss t x y u) ty ps af g) ρ s (.bool (sLt a b)) := by
  intro K h
  simp only [opS, execOp, hx, hy, eqGuard, Go.binOp, Op.stringOp, swp_bind', swp_pure, nextS]
  exact h
theorem q_geq_string {t u : TypeId} {a b : ByteArray} (hx : ρ x = .string a) (hy : ρ y = .string b) : Quiet P (Oper.mk d (.binOp .geq t x y u) ty ps af g) ρ s (.bool (!sLt a b)) := by
  intro K h
  simp only [opS, execOp, hx, hy, eqGuard, Go.binOp, Op.stringOp, swp_bind', swp_pure, nextS]
  exact h
theorem q_leq_string {t u : TypeId} {a b : ByteArray} (hx : ρ x = .string a) (hy : ρ y = .string b) : Quiet P (Oper.mk d (.binOp .leq t x y u) ty ps af g) ρ s (.bool (sLt a b || decide (a = b))) := by
  intro K h
  simp only [opS, execOp, hx, hy, eqGuard, Go.binOp, Op.stringOp, swp_bind', swp_pure, nextS, beq_bytes]
  exact h
theorem q_gtr_string {t u : TypeId} {a b : ByteArray} (hx : ρ x = .string a) (hy : ρ y = .string b) : Quiet P (Oper.mk d (.binOp .gtr t x y u) ty ps af g) ρ s (.bool (!(sLt a b || decide (a = b)))) := by
  intro K h
  simp only [opS, execOp, hx, hy, eqGuard, Go.binOp, Op.stringOp, swp_bind', swp_pure, nextS, beq_bytes]
  exact h
theorem q_add_string {t u : TypeId} {a b : ByteArray} (hx : ρ x = .string a) (hy : ρ y = .string b) (hl : a.size + b.size ≤ 9223372036854775807) : Quiet P (Oper.mk d (.binOp .add t x y u) ty ps af g) ρ s (.string (a ++ b)) := by
  intro K h
  have hn : ¬ (((a.size + b.size : Nat) : Int) > IntKind.i64.max) := by
    show ¬ (_ > (9223372036854775807 : Int)); omega
  simp only [opS, execOp, hx, hy, eqGuard, Go.binOp, Op.stringOp, swp_bind', swp_pure, nextS, hn, if_false]
  exact h
theorem q_index_string {t : TypeId} [ht : TyStr P t] {b : ByteArray} {k : IntKind} {i : Int} (hx : ρ x = .string b) (hy : ρ y = .int k i) (h0 : 0 ≤ i) (h1 : i < b.size) : Quiet P (Oper.mk d (.index t x y) ty ps af g) ρ s (.int .u8 (b.data.toList[i.toNat]!).toNat) := by
  intro K h
  have hlt : i.toNat < b.size := by omega
  have e : b[i.toNat]? = some b[i.toNat] := by simp [hlt]
  have e2 : b.data.toList[i.toNat]! = b[i.toNat] := by
    rw [getElem!_pos b.data.toList i.toNat hlt]; rfl
  simp only [opS, execOp, hx, hy, Instr.index, asIntOf, swp_bind', swp_pure, swp_underlying ht.und, h0, if_true, e, nextS]
  rw [e2] at h
  exact h
theorem q_slice_string {t : TypeId} [ht : TyStr P t] {b : ByteArray} {lo hi : Option Operand} {l h : Nat} (hx : ρ x = .string b) (hl : Bnd ρ lo 0 l) (hh : Bnd ρ hi b.size h) (h1 : l ≤ h) (h2 : h ≤ b.size) : Quiet P (Oper.mk d (.slice t x lo hi none) ty ps af g) ρ s (.string (b.extract l h)) := by
  intro K hK
  simp only [opS, execOp, hx, Instr.sliceAt, Instr.slice, swp_bind', swp_underlying ht.und, Option.map_none, Option.isSome_none, Bool.false_eq_true, if_false, swp_pure]
  have step : ∀ K' : Nat × Nat × Nat → St → Prop, K' (l, h, b.size) s → swp P (Instr.sliceBounds false b.size b.size (lo.map ρ) (hi.map ρ) none) s K' := by
    intro K' hk'
    cases lo with
    | none => cases hi with
      | none =>
        obtain rfl : l = 0 := hl
        obtain rfl : h = b.size := hh
        exact hk'
      | some o =>
        obtain rfl : l = 0 := hl
        simp only [Instr.sliceBounds, Option.map_some, Option.map_none, swp_bind', swp_pure, Bool.false_eq_true, if_false, swp_bound hh h2]
        exact hk'
    | some o' => cases hi with
      | none =>
        obtain rfl : h = b.size := hh
        simp only [Instr.sliceBounds, Option.map_some, Option.map_none, swp_bind', swp_pure, Option.isSome_none, Bool.false_eq_true, if_false, swp_bound hl h1]
        exact hk'
      | some o =>
        simp only [Instr.sliceBounds, Option.map_some, Option.map_none, swp_bind', swp_pure, Option.isSome_none, Bool.false_eq_true, if_false, swp_bound hh h2, swp_bound hl h1]
        exact hk'
  refine step _ ?_
  simp only [swp_bind', swp_pure, nextS]
  exact hK
end
end Go.Proofs.YtcnbcblihepbmaaGreatDoor
