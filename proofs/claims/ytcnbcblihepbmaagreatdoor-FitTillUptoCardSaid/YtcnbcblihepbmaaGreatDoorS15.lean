/- Rules for walks: == of structs. It holds for every program. -/
import Derived.Test.YtcnbcblihepbmaaGreatDoorS14
set_option autoImplicit false
set_option linter.unusedSimpArgs false
set_option linter.unusedVariables false
namespace Go.Proofs.YtcnbcblihepbmaaGreatDoor
open Go Go.RowKit
section
variable {P : Program} {s : St}
def eqF (P : Program) (d : Nat) (xs ys : Array Value) : List Field → (Bool → St → Prop) → St → Prop
  | [], K, s => K true s
  | f :: r, K, s => if f.name ≠ "_" then swp P (part f.type xs f.offset) s fun a s => swp P (part f.type ys f.offset) s fun b s => swp P (Op.equalIn d f.type a b) s fun e s => if e then eqF P d xs ys r K s else K false s else eqF P d xs ys r K s
theorem swp_equal_struct {t : TypeId} {fs : Array Field} {d : Nat} {xs ys : Array Value} {K : Bool → St → Prop} (hu : P.underlying t = some (.struct fs)) (hp : P.stoodInHeld t = false) (h : eqF P d xs ys fs.toList K s) : swp P (Op.equalIn (d + 1) t (.agg xs) (.agg ys)) s K := by
  unfold Op.equalIn
  simp only [swp_bind', swp_underlying hu, Go.program, swp, hp, Bool.false_eq_true, if_false]
  rw [← Array.forIn_toList]
  generalize fs.toList = l at h
  clear hu hp
  induction l generalizing s with
  | nil => simp only [List.forIn_nil, swp_pure]; exact h
  | cons f r ih =>
    simp only [List.forIn_cons, swp_bind']
    unfold eqF at h
    split
    · rename_i hn
      rw [if_pos hn] at h
      simp only [swp_bind']
      refine swp_mono _ (fun a s' h => ?_) h
      refine swp_mono _ (fun b s' h => ?_) h
      refine swp_mono _ (fun e s' h => ?_) h
      cases e with
      | true => simp only [Bool.not_true, Bool.false_eq_true, if_false, swp_pure]; exact ih h
      | false => simp only [Bool.not_false, if_true, swp_pure]; exact h
    · rename_i hn
      rw [if_neg hn] at h
      simp only [swp_pure]
      exact ih h
theorem swp_equal_int {t : TypeId} {k : IntKind} [ht : TyInt P t k] {k1 : IntKind} {a b : Int} {d : Nat} {K : Bool → St → Prop} (h : K (decide (a = b)) s) : swp P (Op.equalIn (d + 1) t (.int k1 a) (.int k1 b)) s K := by
  have e : (a == b) = decide (a = b) := rfl
  unfold Op.equalIn
  simp only [swp_bind', swp_underlying ht.und, if_true, swp_pure, e]
  exact h
theorem swp_equal_str {t : TypeId} [ht : TyStr P t] {a b : ByteArray} {d : Nat} {K : Bool → St → Prop} (h : K (decide (a = b)) s) : swp P (Op.equalIn (d + 1) t (.string a) (.string b)) s K := by
  have e : (a == b) = decide (a = b) := by
    show (a.data == b.data) = _
    by_cases h : a = b
    · subst h; simp
    · have : ¬ a.data = b.data := fun e => h (ByteArray.ext e)
      simp [h, this]
  unfold Op.equalIn
  simp only [swp_bind', swp_underlying ht.und, swp_pure, e]
  exact h
theorem swp_equal_bool' {t : TypeId} [ht : TyBool P t] {a b : Bool} {d : Nat} {K : Bool → St → Prop} (h : K (a == b) s) : swp P (Op.equalIn (d + 1) t (.bool a) (.bool b)) s K := by
  unfold Op.equalIn
  simp only [swp_bind', swp_underlying ht.und, swp_pure]
  exact h
/-- A struct type whose == is plain. -/
class TyEqS (P : Program) (t : TypeId) : Prop where
  held : P.stoodInHeld t = false
  grd : P.eqGuardType P.depth t = false
theorem depth_many : ∃ m, Op.maxDepth = m + 8 := ⟨9992, rfl⟩
theorem swp_part1 {t : TypeId} {n : Nat} {z : Value} [TyV P t false n z] {cs : Array Value} {o : Nat} {v : Value} {K : Value → St → Prop} (hv : cs[o]? = some v) (h : K v s) : swp P (part t cs o) s K := by
  unfold part
  simp only [swp_bind', swp_isAgg, Bool.false_eq_true, if_false, hv]
  exact h
theorem swp_partN {t : TypeId} {n : Nat} {z : Value} [TyV P t true n z] {cs : Array Value} {o : Nat} {K : Value → St → Prop} (h : K (.agg (cs.extract o (o + n))) s) : swp P (part t cs o) s K := by
  unfold part
  simp only [swp_bind', swp_isAgg, if_true, swp_sizeOf, swp_pure]
  exact h
variable {ρ : Operand → Value} {d : Option Tmp} {ty : TypeId} {ps : String} {af : Array Edge} {g : Option (Nat × Bool)} {x y z : Operand}
theorem q_eql_agg {t u : TypeId} [ht : TyEqS P t] {xs ys : Array Value} {b : Bool} (hx : ρ x = .agg xs) (hy : ρ y = .agg ys) (h : ∀ (m : Nat) (K : Bool → St → Prop), K b s → swp P (Op.equalIn (m + 8) t (.agg xs) (.agg ys)) s K) :
    Quiet P (Oper.mk d (.binOp .eql t x y u) ty ps af g) ρ s (.bool b) := by
  intro K hK
  obtain ⟨m, hm⟩ := depth_many
  have e : Go.binOp .eql t (.agg xs) (.agg ys) = (do pure (.bool (← Op.equal t (.agg xs) (.agg ys)))) := rfl
  simp only [opS, execOp, hx, hy, eqGuard, e, swp_bind', swp_pure, Go.program, swp, ht.grd, Bool.not_false, Bool.not_true, Bool.false_eq_true, if_true, if_false, Op.equal, hm, nextS]
  exact h m _ hK
theorem q_neq_agg {t u : TypeId} [ht : TyEqS P t] {xs ys : Array Value} {b : Bool} (hx : ρ x = .agg xs) (hy : ρ y = .agg ys) (h : ∀ (m : Nat) (K : Bool → St → Prop), K b s → swp P (Op.equalIn (m + 8) t (.agg xs) (.agg ys)) s K) :
    Quiet P (Oper.mk d (.binOp .neq t x y u) ty ps af g) ρ s (.bool (!b)) := by
  intro K hK
  obtain ⟨m, hm⟩ := depth_many
  have e : Go.binOp .neq t (.agg xs) (.agg ys) = (do pure (.bool (!(← Op.equal t (.agg xs) (.agg ys))))) := rfl
  simp only [opS, execOp, hx, hy, eqGuard, e, swp_bind', swp_pure, Go.program, swp, ht.grd, Bool.not_false, Bool.not_true, Bool.false_eq_true, if_true, if_false, Op.equal, hm, nextS]
  exact h m _ hK
theorem eqF_cons {d : Nat} {xs ys : Array Value} {f : Field} {r : List Field} {K : Bool → St → Prop} (hn : (f.name == "_") = false)
    (h : swp P (part f.type xs f.offset) s fun a s => swp P (part f.type ys f.offset) s fun b s => swp P (Op.equalIn d f.type a b) s fun e s => if e then eqF P d xs ys r K s else K false s) : eqF P d xs ys (f :: r) K s := by
  unfold eqF
  rw [if_pos (by simpa using hn)]
  exact h
theorem eqF_nil {d : Nat} {xs ys : Array Value} {K : Bool → St → Prop} (h : K true s) : eqF P d xs ys [] K s := h
theorem eqF_if {b : Bool} {A B : Prop} (ht : b = true → A) (hf : b = false → B) : if b then A else B := by
  cases b with
  | true => exact ht rfl
  | false => exact hf rfl
end
end Go.Proofs.YtcnbcblihepbmaaGreatDoor
