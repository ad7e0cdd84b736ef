/- Rules for walks: an error against nil; contracts of the kit's shelf as contracts over symbolic states. It holds for every program. -/
import Derived.Test.YtcnbcblihepbmaaGreatDoorS17
set_option autoImplicit false
set_option linter.unusedSimpArgs false
set_option linter.unusedVariables false
namespace Go.Proofs.YtcnbcblihepbmaaGreatDoor
open Go Go.RowKit
/-- An interface's value: nil, or none. -/
def EvI (v : Value) : Prop := v = .nilIface ∨ ∃ u x, v = .iface u x
def isI (v : Value) : Bool := match v with | .nilIface => false | _ => true
section
variable {P : Program} {s : St} {ρ : Operand → Value} {d : Option Tmp} {ty : TypeId} {ps : String} {af : Array Edge} {g : Option (Nat × Bool)} {x y z : Operand}
theorem swp_equal_nilI {t : TypeId} [ht : TyIf P t] {v : Value} (hv : EvI v) {K : Bool → St → Prop} (h : K (!isI v) s) : swp P (Op.equal t v .nilIface) s K := by
  obtain ⟨m, hm⟩ := depth_succ
  obtain ⟨ms, hu⟩ := ht.und
  unfold Op.equal
  rw [hm]
  unfold Op.equalIn
  simp only [swp_bind', swp_underlying hu]
  rcases hv with rfl | ⟨u, x, rfl⟩ <;> exact h
theorem q_neq_nilI {t u : TypeId} [ht : TyIf P t] {v : Value} (hx : ρ x = v) (hy : ρ (.const .nilIface) = .nilIface) (hv : EvI v) : Quiet P (Oper.mk d (.binOp .neq t x (.const .nilIface) u) ty ps af g) ρ s (.bool (isI v)) := by
  intro K h
  have e : Go.binOp .neq t v .nilIface = (do pure (.bool (!(← Op.equal t v .nilIface)))) := by rcases hv with rfl | ⟨u, x, rfl⟩ <;> rfl
  have eg : eqGuard .neq t x (.const .nilIface) v .nilIface = pure () := by
    rcases hv with rfl | ⟨u, x, rfl⟩
    · cases x <;> rfl
    · rfl
  simp only [opS, execOp, hx, hy, eg, e, swp_bind', swp_pure, nextS]
  refine swp_equal_nilI hv ?_
  simpa using h
theorem q_eql_nilI {t u : TypeId} [ht : TyIf P t] {v : Value} (hx : ρ x = v) (hy : ρ (.const .nilIface) = .nilIface) (hv : EvI v) : Quiet P (Oper.mk d (.binOp .eql t x (.const .nilIface) u) ty ps af g) ρ s (.bool (!isI v)) := by
  intro K h
  have e : Go.binOp .eql t v .nilIface = (do pure (.bool (← Op.equal t v .nilIface))) := by rcases hv with rfl | ⟨u, x, rfl⟩ <;> rfl
  have eg : eqGuard .eql t x (.const .nilIface) v .nilIface = pure () := by
    rcases hv with rfl | ⟨u, x, rfl⟩
    · cases x <;> rfl
    · rfl
  simp only [opS, execOp, hx, hy, eg, e, swp_bind', swp_pure, nextS]
  exact swp_equal_nilI hv h
end
theorem sat_below {s : St} {w w' : World} (h : Sat s w) (hb : Below w.heap.size w w') : Sat s w' := by
  refine ⟨fun b o hb' => ?_, fun p hp => ?_, h.nodup⟩
  · rw [hb.block b (h.lt (.inl hb'))]; exact h.imm b o hb'
  · obtain ⟨a, c⟩ := h.own p hp
    exact ⟨by rw [hb.block p.1 (h.lt (b := p.1) (o := p.2) (.inr hp))]; exact a, c⟩
theorem ext_below {w w' : World} (hb : Below w.heap.size w w') : Ext w w' := ⟨hb.os, hb.tape, hb.output, hb.size⟩
theorem callV_of_below {P : Program} {f : FuncId} {args : Array Value} {s : St} {v : Value} (h : ∀ w, Sat s w → Calls P f args w fun e w' => e = .returned v ∧ Below w.heap.size w w') : CallV P f args s v :=
  fun K hK w hs => (h w hs).mono fun e w' ⟨he, hb⟩ => ⟨v, s, he, sat_below hs hb, ext_below hb, hK⟩
theorem callR_of_below {P : Program} {f : FuncId} {args : Array Value} {s : St} {rep : Value → Prop} (h : ∀ w, Sat s w → Calls P f args w fun e w' => ∃ v, e = .returned v ∧ rep v ∧ Below w.heap.size w w') : CallR P f args s (fun _ v => rep v) :=
  fun K hK w hs => (h w hs).mono fun e w' ⟨v, he, hr, hb⟩ => ⟨v, s, he, sat_below hs hb, ext_below hb, hK v s.I .rfl hr⟩
theorem callQ_of_below {P : Program} {f : FuncId} {args : Array Value} {s : St} {rep : Value → Prop} (h : ∀ w, Sat s w → Calls P f args w fun e w' => ∃ v, e = .returned v ∧ rep v ∧ Below w.heap.size w w') : CallQ P f args s rep :=
  fun K hK w hs => (h w hs).mono fun e w' ⟨v, he, hr, hb⟩ => ⟨v, s, he, sat_below hs hb, ext_below hb, hK v hr⟩
theorem CallQ.toR {P : Program} {f : FuncId} {args : Array Value} {s : St} {rep : Value → Prop} (h : CallQ P f args s rep) : CallR P f args s (fun _ v => rep v) := fun K hK => h K fun v hv => hK v s.I .rfl hv
end Go.Proofs.YtcnbcblihepbmaaGreatDoor
