/- Package taint and its reference: what is shied at, for seats that reach no more of it (the texts stand in TA6 too). -/
import Derived.Test.YtcnbcblihepbmaaDoorTA2
set_option autoImplicit false
set_option linter.unusedVariables false
set_option linter.unusedSimpArgs false
namespace Go.Proofs.YtcnbcblihepbmaaDoor
open Go Go.RowKit
attribute [local irreducible] Quiet OpsR Run CallS opS Gh endQ oblE RunN swp Go.Op.equalIn
theorem bears_def {b : Bear} {t : Taint} : bearsOf b t = true ↔ (b.Effect = 0 ∨ b.Effect = t.Effect) ∧ (b.Key = t.Key ∨ (b.Key = ⟨#[]⟩ ∧ b.Any = true)) ∧ (b.Any = true ∨ b.Value = t.Value) := by
  obtain ⟨bk, bv, ba, be⟩ := b
  obtain ⟨tk, tv, te⟩ := t
  simp only [bearsOf, decide_eq_true_eq, Taint.mk.injEq]
  constructor
  · rintro ⟨h1, h2, h3⟩
    refine ⟨?_, ?_, ?_⟩
    · split at h3
      · left; assumption
      · right; exact h3.symm
    · split at h1
      · rename_i h; right; exact ⟨h.2, h.1⟩
      · left; exact h1.symm
    · split at h2
      · left; assumption
      · right; exact h2.symm
  · rintro ⟨h1, h2, h3⟩
    refine ⟨?_, ?_, ?_⟩
    · rcases h2 with h | ⟨h, k⟩
      · split
        · rfl
        · exact h.symm
      · rw [if_pos ⟨k, h⟩]
    · rcases h3 with h | h
      · rw [if_pos h]
      · split
        · rfl
        · exact h.symm
    · rcases h1 with h | h
      · rw [if_pos h]
      · split
        · rfl
        · exact h.symm
theorem bears_f1 {b : Bear} {t : Taint} (h1 : ¬ b.Effect = 0) (h2 : ¬ b.Effect = t.Effect) : bearsOf b t = false := by
  cases hb : bearsOf b t with
  | false => rfl
  | true => have := (bears_def.1 hb).1; rcases this with h | h <;> contradiction
theorem bears_f2 {b : Bear} {t : Taint} (h1 : ¬ b.Key = t.Key) (h2 : ¬ b.Key = ⟨#[]⟩ ∨ b.Any = false) : bearsOf b t = false := by
  cases hb : bearsOf b t with
  | false => rfl
  | true =>
    have := (bears_def.1 hb).2.1
    rcases this with h | ⟨h, k⟩
    · contradiction
    · rcases h2 with h2 | h2
      · contradiction
      · rw [k] at h2; cases h2
theorem bears_t {b : Bear} {t : Taint} (h1 : b.Effect = 0 ∨ b.Effect = t.Effect) (h2 : b.Key = t.Key ∨ (b.Key = ⟨#[]⟩ ∧ b.Any = true)) (h : b.Any = true) : bearsOf b t = true := bears_def.2 ⟨h1, h2, .inl h⟩
theorem bears_v {b : Bear} {t : Taint} (h1 : b.Effect = 0 ∨ b.Effect = t.Effect) (h2 : b.Key = t.Key ∨ (b.Key = ⟨#[]⟩ ∧ b.Any = true)) (h : b.Any = false) : bearsOf b t = decide (b.Value = t.Value) := by
  by_cases hv : b.Value = t.Value
  · rw [bears_def.2 ⟨h1, h2, .inr hv⟩, decide_eq_true hv]
  · rw [decide_eq_false hv]
    cases hb : bearsOf b t with
    | false => rfl
    | true =>
      rcases (bears_def.1 hb).2.2 with k | k
      · rw [k] at h; cases h
      · contradiction
theorem filter_none {α : Type} [Inhabited α] {p : α → Bool} {l : List α} (h : ∀ j, j < l.length → p l[j]! = false) : l.filter p = [] := by
  rw [List.filter_eq_nil_iff]
  intro x hx
  obtain ⟨j, hj, rfl⟩ := List.mem_iff_getElem.1 hx
  have := h j hj
  rw [getElem!_pos l j hj] at this
  rw [this]; decide
def shyOf (l : List Taint) (bs : List Bear) : Int := (openOf l bs 2).length
abbrev Taint.zero : Taint := ⟨⟨#[]⟩, ⟨#[]⟩, 0⟩
def keptOf (l : List Taint) (bs : List Bear) : Taint := (openOf l bs 1).head?.getD Taint.zero
def isKept (l : List Taint) (bs : List Bear) : Bool := !(openOf l bs 1).isEmpty
theorem filter_first {α : Type} [Inhabited α] {p : α → Bool} {l : List α} {i : Nat} (hi : i < l.length) (h : ∀ j, j < i → p l[j]! = false) (hp : p l[i]! = true) : (l.filter p).head? = some l[i]! := by
  have e : l = l.take i ++ l[i]! :: l.drop (i + 1) := by
    conv => lhs; rw [← List.take_append_drop i l, List.drop_eq_getElem_cons hi]
    rw [getElem!_pos l i hi]
  have h0 : (l.take i).filter p = [] := filter_none fun j hj => by
    rw [List.length_take] at hj
    rw [get!_take (by omega) (by omega)]; exact h j (by omega)
  have e2 := congrArg (List.filter p) e
  rw [List.filter_append, h0, List.nil_append, List.filter_cons, if_pos hp] at e2
  rw [e2]; rfl
theorem Kept_spec {l : List Taint} {bs : List Bear} {v u : Value} {s : St} (hl : Sl kTaint s.I v l) (hb : Sl kBear s.I u bs) (hn : l.length ≤ 1073741824) (K : Value → St → Prop)
    (hK : ∀ J, Hp.le s.I J → K (.tuple #[(keptOf l bs).v, .bool (isKept l bs)]) ⟨J, s.cs⟩) : CallS Tryd.prog 36 #[v, u] s K := by
  refine callS_of_run Tryd.func36 rfl ?_; simp only [Tryd.ntmps36, List.size_toArray, List.length_cons, List.length_nil, Nat.reduceAdd, Nat.reduceSub, Array.replicate_succ, Array.replicate_zero, List.push_toArray, List.append_toArray, List.nil_append, List.cons_append]
  refine run_seq fun _ hk1 => ?_
  refine run_region ?_
  refine opsR_o rfl (o_alloc fun b2 hb2 => ?_)
  simp only [nrm, Nat.reduceAdd, Nat.reduceMul, Nat.reduceSub, Int.reduceToNat, Int.reduceAdd]
  refine opsR_q rfl (q_assign) ?_
  simp only [nrm]
  refine opsR_nil ?_
  refine hk1 _ _ ?_
  clear hk1
  refine run_seq fun _ hk3 => ?_
  refine run_region ?_
  refine opsR_q rfl (q_move) ?_
  simp only [nrm]
  refine opsR_q rfl (q_move) ?_
  simp only [nrm]
  refine opsR_o rfl (o_call rfl (open_spec (by first | assumption | (refine Sl.mono ?_ (by assumption); exact leA)) (by first | assumption | (refine Sl.mono ?_ (by assumption); exact leA)) (by omega) _ fun v6 J6 hJ6 hv6 => ?_))
  try dsimp only at hJ6 hv6
  try (have hr6 : Hp.le s.I J6 := leA; have hJ6 := hJ6)
  simp only [nrm, Nat.reduceAdd, Nat.reduceMul, Nat.reduceSub, Int.reduceToNat, Int.reduceAdd]
  refine opsR_q rfl (q_assign) ?_
  simp only [nrm]
  refine opsR_nil ?_
  refine hk3 _ _ ?_
  clear hk3
  refine run_seq fun _ hk8 => ?_
  refine run_seq fun _ hk9 => ?_
  generalize hO : openOf l bs 1 = O at *
  refine run_region ?_
  refine opsR_q rfl (q_move) ?_
  simp only [nrm]
  refine opsR_q rfl (q_len_v rfl (by first | exact Sl.len (by assumption) | exact OwnS.len (by assumption) | exact SlR.len (by assumption) | assumption)) ?_
  simp only [nrm, Nat.reduceAdd, Nat.reduceMul, Nat.reduceSub, Int.reduceToNat, Int.reduceAdd]
  refine opsR_q rfl (q_eql rfl rfl) ?_
  simp only [nrm, Nat.reduceAdd, Nat.reduceMul, Nat.reduceSub, Int.reduceToNat, Int.reduceAdd]
  refine opsR_nil ?_
  refine hk9 _ _ ?_
  clear hk9
  refine run_cond rfl (fun ho10 => ?_) (fun ho10 => ?_)
  · have hc10 := ho10; try simp only [spl] at hc10
    refine run_seq fun _ hk11 => ?_
    refine run_region ?_
    refine opsR_q rfl (q_build rfl) ?_
    simp only [nrm, Nat.reduceAdd, Nat.reduceMul, Nat.reduceSub, Int.reduceToNat, Int.reduceAdd]
    refine opsR_o rfl (o_storeB rfl rfl inferInstance (by first | rfl | assumption) (by first | rfl | exact Kd.one _ (by assumption) | assumption) (by first | rfl | (refine Nat.ble_eq_true_of_le ?_; (try simp only [Int.toNat_natCast]); omega)) ?_)
    simp only [nrm, Nat.reduceAdd, Nat.reduceMul, Nat.reduceSub, Int.reduceToNat, Int.reduceAdd]
    refine opsR_q rfl (q_assign) ?_
    simp only [nrm]
    refine opsR_nil ?_
    refine hk11 _ _ ?_
    clear hk11
    refine run_ret ?_
    have he : openOf l bs 1 = [] := by rw [hO]; exact List.eq_nil_of_length_eq_zero (by omega)
    simp only [keptOf, isKept, he] at hK
    exact end_cell_tmp rfl rfl rfl (AtB.has inferInstance) rfl rfl (by exact ghA) (hK _ (by exact leA))
  · have hc10 := ho10; try simp only [spl] at hc10
    refine run_skip ?_
    refine hk8 _ _ ?_
    clear hk8
    refine run_seq fun _ hk12 => ?_
    refine run_region ?_
    refine opsR_q rfl (q_move) ?_
    simp only [nrm]
    refine opsR_index rfl rfl rfl slrA (by rfl) idxA idxA fun b13 o13 cs13 ha13 hr13 he13 => ?_
    simp only [nrm, Nat.reduceAdd, Nat.reduceMul, Nat.reduceSub, Int.reduceToNat, Int.reduceAdd]
    try simp only [Int.toNat_natCast, Int.reduceToNat, Int.toNat_zero] at hr13
    try simp only [Int.toNat_natCast, Int.reduceToNat, Int.toNat_zero] at he13
    clear ha13
    obtain rfl := kTaint.open hr13
    refine opsR_q rfl (by first | exact q_load_atW rfl (by first | assumption | exact El.mono (by assumption) leA) (by rfl) rfl | exact q_load_atN0 rfl (by first | assumption | exact El.mono (by assumption) leA) rfl rfl | exact q_load_atN rfl (by first | assumption | exact El.mono (by assumption) leA) rfl (Nat.le_of_ble_eq_true rfl) (Nat.le_of_ble_eq_true rfl)) ?_
    simp only [nrm, Nat.reduceAdd, Nat.reduceMul, Nat.reduceSub, Int.reduceToNat, Int.reduceAdd]
    refine opsR_o rfl (o_storeB rfl rfl inferInstance (by first | rfl | assumption) (by first | rfl | exact Kd.one _ (by assumption) | assumption) (by first | rfl | (refine Nat.ble_eq_true_of_le ?_; (try simp only [Int.toNat_natCast]); omega)) ?_)
    simp only [nrm, Nat.reduceAdd, Nat.reduceMul, Nat.reduceSub, Int.reduceToNat, Int.reduceAdd]
    refine opsR_q rfl (q_assign) ?_
    simp only [nrm]
    refine opsR_nil ?_
    refine hk12 _ _ ?_
    clear hk12
    refine run_ret ?_
    have he : keptOf l bs = O[0]! ∧ isKept l bs = true := by
      rw [keptOf, isKept, hO]
      cases O with
      | nil => simp at *
      | cons x r => exact ⟨rfl, rfl⟩
    rw [he.1, he.2] at hK
    exact end_cell_tmp rfl rfl rfl (AtB.has inferInstance) rfl rfl (by exact ghA) (hK _ (by exact leA))
theorem openOf_none {l : List Taint} {bs : List Bear} {e : Int} (h : ∀ j, j < l.length → openP bs e l[j]! = false) : openOf l bs e = [] := filter_none h
end Go.Proofs.YtcnbcblihepbmaaDoor
