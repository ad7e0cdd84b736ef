/- Regions that draw their order: operations that make memory among them. It holds for every program. -/
import Derived.Test.YtcnbcblihepbmaaGreatDoorS11
set_option autoImplicit false
set_option linter.unusedSimpArgs false
set_option linter.unusedVariables false
namespace Go.Proofs.YtcnbcblihepbmaaGreatDoor
open Go Go.RowKit
section
variable {P : Program} {Q : Exit → Act → St → Prop}
/-- What an operation that makes memory yields. -/
structure ExS where
  p : Value → Hp → Prop
  mono : ∀ v I J, Hp.le I J → p v I → p v J
/-- For each operation: one value, or a property. -/
def chooseL : List (Option ExS) → (List Phi → Prop) → Prop
  | [], K => K []
  | none :: r, K => ∃ e : Value, chooseL r (fun l => K (.eq e :: l))
  | some x :: r, K => chooseL r (fun l => K (.ex x.p x.mono :: l))
theorem chooseL_some : ∀ {l : List (Option ExS)} {K : List Phi → Prop}, chooseL l K → ∃ φ, K φ
  | [], K, h => ⟨[], h⟩
  | none :: r, K, ⟨e, h⟩ => by obtain ⟨φ, hφ⟩ := chooseL_some h; exact ⟨_, hφ⟩
  | some x :: r, K, h => by obtain ⟨φ, hφ⟩ := chooseL_some (l := r) h; exact ⟨_, hφ⟩
def phiAt (l : List Phi) (j : Nat) : Phi := l.getD j (.eq undef)
theorem run_drawC {l : List Oper} (hm : P.follows .mixedOrders = true) (m : Nat) {id : Nat} {a0 : Act} {I0 : Hp} {cs : List (Nat × Obj)} (hck : okDraw l.toArray m = true)
    (hdst : (l.all fun o => match o.dst with | none => true | some t => decide (t < a0.tmps.size)) = true) (sp : List (Option ExS))
    (h : chooseL sp (fun φl => obl P l.toArray (phiAt φl) I0 cs (fun a' F => ∀ I, Hp.le I0 I → F I → OpsR P l.toArray (l.drop m) Q a' ⟨I, cs⟩) (l.take m) 0 a0 (fun _ => True))) : Run P (.region id l.toArray true) Q a0 ⟨I0, cs⟩ := by
  obtain ⟨φl, h⟩ := chooseL_some h
  exact run_draw hm m hck hdst h
section
variable {ops : Array Oper} {φs : Nat → Phi} {I0 : Hp} {cs : List (Nat × Obj)} {fin : Act → (Hp → Prop) → Prop} {a : Act} {F : Hp → Prop} {o : Oper} {r : List Oper} {i : Nat}
theorem obl_q {v : Value} (hφ : φs i = .eq v) (hg : Region.wanted o (yielded ops a.tmps) = true) (h : ∀ I, Hp.le I0 I → depsHold ops φs i a I (o.looksAt ops) → Quiet P o a.eval ⟨I, cs⟩ v) (k : obl P ops φs I0 cs fin r (i + 1) (a.put o.dst v) F) : obl P ops φs I0 cs fin (o :: r) i a F := by
  refine ⟨fun I hI hd => ?_, ?_⟩
  · rw [if_pos hg, hφ]; exact h I hI hd _ ⟨rfl, .rfl, rfl⟩
  · rw [hφ]; exact k
theorem obl_v {v : Value} (hφ : φs i = .eq v) (hg : Region.wanted o (yielded ops a.tmps) = true) (h : ∀ I, Hp.le I0 I → depsHold ops φs i a I (o.looksAt ops) → ∀ K : Value → St → Prop, (∀ J, Hp.le I J → K v ⟨J, cs⟩) → opS P o a.eval ⟨I, cs⟩ K) (k : obl P ops φs I0 cs fin r (i + 1) (a.put o.dst v) F) : obl P ops φs I0 cs fin (o :: r) i a F := by
  refine ⟨fun I hI hd => ?_, ?_⟩
  · rw [if_pos hg, hφ]; exact h I hI hd _ fun J hJ => ⟨rfl, hJ, rfl⟩
  · rw [hφ]; exact k
theorem obl_skip (hφ : φs i = .eq undef) (hg : Region.wanted o (yielded ops a.tmps) = false) (k : obl P ops φs I0 cs fin r (i + 1) (a.put o.dst undef) F) : obl P ops φs I0 cs fin (o :: r) i a F := by
  refine ⟨fun I hI hd => ?_, ?_⟩
  · rw [if_neg (by simp [hg]), hφ]; rfl
  · rw [hφ]; exact k
theorem obl_ex {p : Value → Hp → Prop} {hp : ∀ v I J, Hp.le I J → p v I → p v J} (hφ : φs i = .ex p hp) (hg : Region.wanted o (yielded ops a.tmps) = true) (h : ∀ I, Hp.le I0 I → depsHold ops φs i a I (o.looksAt ops) → ∀ K : Value → St → Prop, (∀ v J, Hp.le I J → p v J → K v ⟨J, cs⟩) → opS P o a.eval ⟨I, cs⟩ K)
    (k : ∀ v, obl P ops φs I0 cs fin r (i + 1) (a.put o.dst v) (fun I => F I ∧ p v I)) : obl P ops φs I0 cs fin (o :: r) i a F := by
  refine ⟨fun I hI hd => ?_, ?_⟩
  · rw [if_pos hg, hφ]; exact h I hI hd _ fun v J h1 h2 => ⟨rfl, h1, h2⟩
  · rw [hφ]; exact k
theorem obl_nil (h : fin a F) : obl P ops φs I0 cs fin [] i a F := h
theorem obl_indexX {α : Type} {k : Kd α} [Inhabited α] {x y : Operand} {d : Option Tmp} {ty : TypeId} {ps : String} {af : Array Edge} {g : Option (Nat × Bool)} {t e : TypeId} {bb : Bool} {n : Nat} {zv : Value} [ht : TySlice P t e] [TyV P e bb n zv] {v : Value} {kk : IntKind} {j : Int} {xs : List α} {b o' : Nat} 
    (hφ : φs i = .eq (.pointer (some ⟨b, o', none⟩))) (hg : Region.wanted (Oper.mk d (.indexAddr t x y) ty ps af g) (yielded ops a.tmps) = true) (hx : a.eval x = v) (hy : a.eval y = .int kk j) (e1 : SlAt v n j.toNat b o') (h0 : 0 ≤ j)
    (h : obl P ops φs I0 cs fin r (i + 1) (a.put d (.pointer (some ⟨b, o', none⟩))) F) : obl P ops φs I0 cs fin (Oper.mk d (.indexAddr t x y) ty ps af g :: r) i a F :=
  obl_q hφ hg (fun I hI hd => q_index_at hx hy e1 (by omega)) h
end
end
theorem opsR_dropS {P : Program} {Q : Exit → Act → St → Prop} {a : Act} {s : St} {ops : Array Oper} {rest : List Oper} {hs A B : List (Nat × Obj)} [hsp : Spl hs s.cs A B] (h : OpsR P ops rest Q a ⟨s.I, A ++ B⟩) : OpsR P ops rest Q a s := by
  intro w0 w hs1 he
  refine h w0 w ?_ he
  have hs2 : Sat ⟨s.I, A ++ (hs ++ B)⟩ w := by rw [← hsp.eq]; exact hs1
  exact Gh.dropB w hs2
theorem run_dropS {P : Program} {Q : Exit → Act → St → Prop} {a : Act} {s : St} {c : Code} {hs A B : List (Nat × Obj)} [hsp : Spl hs s.cs A B] (h : Run P c Q a ⟨s.I, A ++ B⟩) : Run P c Q a s := by
  intro w0 w hs1 he
  refine h w0 w ?_ he
  have hs2 : Sat ⟨s.I, A ++ (hs ++ B)⟩ w := by rw [← hsp.eq]; exact hs1
  exact Gh.dropB w hs2
theorem CallO.toR {P : Program} {f : FuncId} {args : Array Value} {s : St} {α : Type} {k : Kd α} {e : TypeId} {xs : List α} (h : CallO P f args s (fun J v hs => OwnS k e J v hs xs)) : CallR P f args s (fun J v => Sl k J v xs) := by
  intro K hK w hs
  refine (h (fun v s' => ∃ J hs, s' = ⟨J, hs ++ s.cs⟩ ∧ Hp.le s.I J ∧ OwnS k e J v hs xs) (fun v J hs h1 h2 => ⟨J, hs, rfl, h1, h2⟩) w hs).mono ?_
  rintro e w' ⟨v, s', rfl, h1, h2, J, hs', rfl, h3, h4⟩
  obtain ⟨J2, a1, a2, a3⟩ := h4.freeze (fun p hp => (h1.own p (by simp [hp])).2)
  exact ⟨v, _, rfl, a3 _ w' h1, h2, hK v J2 (h3.trans a1) a2⟩
section
variable {P : Program} {Q : Exit → Act → St → Prop} {a : Act} {s : St}
theorem opsR_freeze {ops : Array Oper} {rest : List Oper} {α : Type} {k : Kd α} {e : TypeId} {I : Hp} {v : Value} {A B hs : List (Nat × Obj)} {xs : List α} (hv : OwnS k e I v hs xs) (hs_ : s = ⟨I, A ++ (hs ++ B)⟩)
    (h : ∀ J, Hp.le I J → Sl k J v xs → OpsR P ops rest Q a ⟨J, A ++ B⟩) : OpsR P ops rest Q a s := by
  subst hs_
  intro w0 w hs1 he
  obtain ⟨J, h1, h2, h3⟩ := hv.freeze (fun p hp => (hs1.own p (by simp [hp])).2)
  refine h J h1 h2 w0 w (h3 _ w ((Gh.perm ?_) w hs1)) he
  exact (List.perm_append_comm_assoc A hs B).symm
end
section
variable {P : Program} {s : St} {ρ : Operand → Value} {d : Option Tmp} {ty : TypeId} {ps : String} {af : Array Edge} {g : Option (Nat × Bool)} {x y z : Operand} {α : Type} {k : Kd α}
theorem q_index_slv {t e : TypeId} {bb : Bool} {n : Nat} {zv : Value} [ht : TySlice P t e] [TyV P e bb n zv] {v : Value} {kk : IntKind} {i : Int} {xs : List α} (hx : ρ x = v) (hy : ρ y = .int kk i) (hs : SlR k s v xs) (h0 : 0 ≤ i) (h1 : i < xs.length) :
    Quiet P (Oper.mk d (.indexAddr t x y) ty ps af g) ρ s (.pointer (some (slAddr v n i.toNat))) := by
  obtain ⟨A, c, rfl, _, _, e4⟩ := hs
  obtain ⟨bl, o, arr, e, f, rfl, _⟩ := e4 (by omega)
  exact q_index_slice hx hy h0 h1
theorem slv_cell [Inhabited α] {v : Value} {xs : List α} (hs : SlR k s v xs) {j : Nat} (hj : j < xs.length) : ∃ b o cs, slAddr v k.sz j = ⟨b, o, none⟩ ∧ k.rep s.I xs[j]! cs ∧ El k s b o xs[j]! cs := by
  obtain ⟨b, o, cs, ⟨b', o', len, cap, rfl, h1, rfl, rfl⟩, h2, h3⟩ := hs.at j hj
  exact ⟨_, _, cs, rfl, h2, h3⟩
theorem q_load_slvInt {t : TypeId} {n : Nat} {zv : Value} {kk : IntKind} [TyV P t false n zv] {v : Value} {xs : List Int} {j : Nat} (hx : ρ x = .pointer (some (slAddr v 1 j))) (hs : SlR (kInt kk) s v xs) (hj : j < xs.length) : Quiet P (Oper.mk d (.load t x) ty ps af g) ρ s (.int kk xs[j]!) := by
  obtain ⟨b, o, cs, h1, h2, h3⟩ := slv_cell hs hj
  cases h2
  have h1' : slAddr v 1 j = ⟨b, o, none⟩ := h1
  rw [h1'] at hx
  exact q_load_at1 (i := 0) hx h3 rfl Nat.one_pos rfl
theorem q_load_slvBool {t : TypeId} {n : Nat} {zv : Value} [TyV P t false n zv] {v : Value} {xs : List Bool} {j : Nat} (hx : ρ x = .pointer (some (slAddr v 1 j))) (hs : SlR kBool s v xs) (hj : j < xs.length) : Quiet P (Oper.mk d (.load t x) ty ps af g) ρ s (.bool xs[j]!) := by
  obtain ⟨b, o, cs, h1, h2, h3⟩ := slv_cell hs hj
  cases h2
  have h1' : slAddr v 1 j = ⟨b, o, none⟩ := h1
  rw [h1'] at hx
  exact q_load_at1 (i := 0) hx h3 rfl Nat.one_pos rfl
theorem q_load_slvStr {t : TypeId} {n : Nat} {zv : Value} [TyV P t false n zv] {v : Value} {xs : List ByteArray} {j : Nat} (hx : ρ x = .pointer (some (slAddr v 1 j))) (hs : SlR kStr s v xs) (hj : j < xs.length) : Quiet P (Oper.mk d (.load t x) ty ps af g) ρ s (.string xs[j]!) := by
  obtain ⟨b, o, cs, h1, h2, h3⟩ := slv_cell hs hj
  cases h2
  have h1' : slAddr v 1 j = ⟨b, o, none⟩ := h1
  rw [h1'] at hx
  exact q_load_at1 (i := 0) hx h3 rfl Nat.one_pos rfl
end
end Go.Proofs.YtcnbcblihepbmaaGreatDoor
