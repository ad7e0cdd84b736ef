/- A quick check of a drawn region: what each operation follows is told, and seen edge by edge. -/
import Derived.Test.YtcnbcblihepbmaaGreatDoorS20
set_option autoImplicit false
set_option linter.unusedVariables false
namespace Go.Proofs.YtcnbcblihepbmaaGreatDoor
open Go Go.RowKit
def followW (ops : Array Oper) (W : List Nat) (i j : Nat) : Bool := decide (i < ops.size) && decide (j < ops.size) && (W.getD i 0).testBit j
def okW (ops : Array Oper) (W : List Nat) : Bool := (List.range ops.size).all fun i => match ops[i]? with
  | none => false
  | some o => (List.range ops.size).all fun j => !(W.getD i 0).testBit j || (edgeTo o j || o.after.any fun e => Region.binds .any e && (decide (e.on < i) && (W.getD e.on 0).testBit j))
theorem reach_W {ops : Array Oper} {W : List Nat} (h : okW ops W = true) : ∀ (n i j : Nat), i < n → i < ops.size → j < ops.size → (W.getD i 0).testBit j = true → reach ops n i j = true
  | 0, i, j, hn, _, _, _ => by omega
  | n + 1, i, j, hn, hi, hj, hw => by
    have h1 := List.all_eq_true.1 h i (List.mem_range.2 hi)
    rw [Array.getElem?_eq_getElem hi] at h1
    have h2 := List.all_eq_true.1 h1 j (List.mem_range.2 hj)
    rw [hw] at h2
    simp only [Bool.not_true, Bool.false_or] at h2
    rw [reach, Array.getElem?_eq_getElem hi]
    simp only [Bool.or_eq_true] at h2 ⊢
    rcases h2 with h2 | h2
    · exact .inl h2
    · refine .inr ?_
      rw [Array.any_eq_true] at h2 ⊢
      obtain ⟨k, hk, h3⟩ := h2
      simp only [Bool.and_eq_true, decide_eq_true_eq] at h3
      exact ⟨k, hk, by rw [h3.1, Bool.true_and]; exact reach_W h n _ j (by omega) (by omega) hj h3.2.2⟩
def okDrawG (r : Nat → Nat → Bool) (ops : Array Oper) (m : Nat) : Bool :=
  decide (m ≤ ops.size) &&
  (List.range m).all (fun i => match ops[i]? with
    | none => false
    | some o => notSelect o && (List.range m).all fun j => match ops[j]? with
      | none => false
      | some u => (i == j || u.dst == none || u.dst != o.dst) &&
        (match u.dst with
         | none => true
         | some t => !(o.looksAt ops).contains t || (if j < i then r i j else j == i || r j i))) &&
  (List.range ops.size).all (fun k => decide (k < m) || (List.range k).all fun j => r k j) &&
  (List.range ops.size).all (fun k => match ops[k]? with | none => false | some o => o.after.all fun e => !Region.binds .any e || decide (e.on < k))
theorem okDrawG_mono {r r' : Nat → Nat → Bool} {ops : Array Oper} {m : Nat} (hm : ∀ i j, r i j = true → r' i j = true) (h : okDrawG r ops m = true) : okDrawG r' ops m = true := by
  simp only [okDrawG, Bool.and_eq_true, List.all_eq_true, List.mem_range] at h ⊢
  obtain ⟨⟨⟨h1, h2⟩, h3⟩, h4⟩ := h
  refine ⟨⟨⟨h1, fun i hi => ?_⟩, fun k hk => ?_⟩, h4⟩
  · have := h2 i hi
    revert this
    cases ops[i]? with
    | none => exact id
    | some o =>
      simp only [Bool.and_eq_true, List.all_eq_true, List.mem_range]
      rintro ⟨a, b⟩
      refine ⟨a, fun j hj => ?_⟩
      have := b j hj
      revert this
      cases ops[j]? with
      | none => exact id
      | some u =>
        simp only [Bool.and_eq_true]
        rintro ⟨c, d⟩
        refine ⟨c, ?_⟩
        revert d
        cases u.dst with
        | none => exact id
        | some t =>
          simp only [Bool.or_eq_true]
          rintro (d | d)
          · exact .inl d
          · refine .inr ?_
            by_cases hji : j < i
            · rw [if_pos hji] at d ⊢; exact hm _ _ d
            · rw [if_neg hji] at d ⊢
              simp only [Bool.or_eq_true] at d ⊢
              exact d.imp id (hm _ _)
  · have := h3 k hk
    simp only [Bool.or_eq_true, List.all_eq_true, List.mem_range] at this ⊢
    exact this.imp id fun h j hj => hm _ _ (h j hj)
theorem okDraw_W {ops : Array Oper} {m : Nat} {W : List Nat} (h : (okW ops W && okDrawG (followW ops W) ops m) = true) : okDraw ops m = true := by
  rw [Bool.and_eq_true] at h
  refine okDrawG_mono (r' := reach ops ops.size) (fun i j hr => ?_) h.2
  simp only [followW, Bool.and_eq_true, decide_eq_true_eq] at hr
  exact reach_W h.1 _ i j hr.1.1 hr.1.1 hr.1.2 hr.2
theorem run_drawW {P : Program} {Q : Exit → Act → St → Prop} {l : List Oper} (hm : P.follows .mixedOrders = true) (m : Nat) (W : List Nat) {id : Nat} {a0 : Act} {I0 : Hp} {cs : List (Nat × Obj)} (hck : (okW l.toArray W && okDrawG (followW l.toArray W) l.toArray m) = true)
    (hdst : (l.all fun o => match o.dst with | none => true | some t => decide (t < a0.tmps.size)) = true) (sp : List (Option ExS))
    (h : chooseL sp (fun φl => obl P l.toArray (phiAt φl) I0 cs (fun a' F => ∀ I, Hp.le I0 I → F I → OpsR P l.toArray (l.drop m) Q a' ⟨I, cs⟩) (l.take m) 0 a0 (fun _ => True))) : Run P (.region id l.toArray true) Q a0 ⟨I0, cs⟩ :=
  run_drawC hm m (okDraw_W hck) hdst sp h
end Go.Proofs.YtcnbcblihepbmaaGreatDoor
