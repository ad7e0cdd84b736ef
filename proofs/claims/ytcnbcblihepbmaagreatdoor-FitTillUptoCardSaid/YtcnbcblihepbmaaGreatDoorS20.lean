/- Elements of structs in a drawn region. -/
import Derived.Test.YtcnbcblihepbmaaGreatDoorS13
set_option autoImplicit false
set_option linter.unusedVariables false
namespace Go.Proofs.YtcnbcblihepbmaaGreatDoor
open Go Go.RowKit
theorem oblK_index {P : Program} {ops : Array Oper} {keep : St → Prop} {s0 : St} {fin : Act → Prop} {r : List Oper} {E B : List Bool} {a : Act} {b : Bool} {α : Type} [Inhabited α] {kd : Kd α} {x y : Operand} {d : Option Tmp} {ty : TypeId} {ps : String} {af : Array Edge} {g : Option (Nat × Bool)} {t e : TypeId} {bb : Bool} {n : Nat} {zv : Value} [ht : TySlice P t e] [htv : TyV P e bb n zv] {v : Value} {kk : IntKind} {i : Int} {xs : List α}
    (hg : Region.wanted (Oper.mk d (.indexAddr t x y) ty ps af g) (yielded ops a.tmps) = true) (hx : a.eval x = v) (hy : a.eval y = .int kk i) (hs : SlR kd s0 v xs) (hn : kd.sz = n) (h0 : 0 ≤ i) (h1 : i < xs.length)
    (h : ∀ bl o cs, SlAt v kd.sz i.toNat bl o → kd.rep s0.I xs[i.toNat]! cs → El kd s0 bl o xs[i.toNat]! cs → oblK P ops keep s0 fin r E B (a.put d (.pointer (some ⟨bl, o, none⟩)))) : oblK P ops keep s0 fin (Oper.mk d (.indexAddr t x y) ty ps af g :: r) (true :: E) (b :: B) a := by
  subst hn
  obtain ⟨bl, o, cs, e1, e2, e3⟩ := hs.at i.toNat (by omega)
  exact ⟨_, fun s _ => .inl ⟨hg, q_index_at hx hy e1 (by omega)⟩, h bl o cs e1 e2 e3⟩
theorem depsHold_get {ops : Array Oper} {φs : Nat → Phi} {i : Nat} {a : Act} {I : Hp} : ∀ {l : List Tmp}, depsHold ops φs i a I l → ∀ (t j : Nat), (l.contains t && decide (j < i) && ((ops[j]?).bind (·.dst) == some t)) = true → (φs j).holds (a.tmps.getD t undef) I
  | [], _, t, j, h => by simp at h
  | x :: l, ⟨h1, h2⟩, t, j, h => by
    simp only [List.contains_cons, Bool.and_eq_true, Bool.or_eq_true, beq_iff_eq, decide_eq_true_eq] at h
    obtain ⟨⟨h3, h4⟩, h5⟩ := h
    rcases h3 with rfl | h3
    · exact h1 j h4 h5
    · exact depsHold_get h2 t j (by simp only [Bool.and_eq_true, decide_eq_true_eq, beq_iff_eq]; exact ⟨⟨h3, h4⟩, h5⟩)
theorem quiet_t {P : Program} {o : Oper} {ρ : Operand → Value} {s : St} {b : Bool} (h : Quiet P o ρ s (.bool b)) (e : ¬ b = false) : Quiet P o ρ s (.bool true) := by
  cases b with
  | true => exact h
  | false => exact absurd rfl e
theorem quiet_f {P : Program} {o : Oper} {ρ : Operand → Value} {s : St} {b : Bool} (h : Quiet P o ρ s (.bool b)) (e : ¬ b = true) : Quiet P o ρ s (.bool false) := by
  cases b with
  | false => exact h
  | true => exact absurd rfl e
/-- In a drawn region the orders of a stage meet again. -/
theorem restK_join {P : Program} {ops : Array Oper} {keep : St → Prop} {Q : Exit → Act → St → Prop} {n : Nat} {rem : List Nat} {f0 : List Value} {s : St} (mask : List Nat) (n' : Nat) (rem' : List Nat)
    (hx : (∀ (f' : List Value) (J' : Hp) (n'' : Nat) (rem'' : List Nat) (z : Bool), n'' = n' → rem'' = rem' → Hp.le s.I J' → z = true → f' = fr (fun t => f'.getD t undef) 0 mask f0 [.bool z] → restK P ops keep Q n'' rem'' ⟨f'.toArray, []⟩ ⟨J', s.cs⟩) → restK P ops keep Q n rem ⟨f0.toArray, []⟩ s)
    (hy : ∀ (J' : Hp) (jv : Nat → Value), Hp.le s.I J' → restK P ops keep Q n' rem' ⟨(fr jv 0 mask f0 [.bool true]).toArray, []⟩ ⟨J', s.cs⟩) : restK P ops keep Q n rem ⟨f0.toArray, []⟩ s :=
  hx fun f' J' n'' rem'' z h1 h2 h3 h4 h5 => by subst h1 h2 h4; rw [h5]; exact hy J' _ h3
end Go.Proofs.YtcnbcblihepbmaaGreatDoor
