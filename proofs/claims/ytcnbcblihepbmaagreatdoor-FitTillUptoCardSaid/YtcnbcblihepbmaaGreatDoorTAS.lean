/- Package taint and its reference: what is shied at, for seats that reach no more of it (the texts stand in TA6 too). -/
import Derived.Test.YtcnbcblihepbmaaGreatDoorTA2
set_option autoImplicit false
set_option linter.unusedVariables false
set_option linter.unusedSimpArgs false
namespace Go.Proofs.YtcnbcblihepbmaaGreatDoor
open Go Go.RowKit
attribute [local irreducible] Quiet OpsR Run CallS opS Gh endQ oblE RunN swp Go.Op.equalIn
theorem bears_def {b : Bear} {t : Taint} : bearsOf b t = true ↔ (b.Effect = 0 ∨ b.Effect = t.Effect) ∧ (b.Key = t.Key ∨ (b.Key = ⟨#[]⟩ ∧ b.Any = true)) ∧ (b.Any = true ∨ b.Value = t.Value) := by
  obtain ⟨bk, bv, ba, be⟩ := b
  obtain ⟨tk, tv, te⟩ := t
  simp only [bearsOf, decide_eq_true_eq, Taint.mk.injEq]
  constructor
  · rintro ⟨h1, h2, h3⟩
    refine ⟨?_, ?_, ?_⟩
    · split at h3
      · left; assumption
      · right; exact h3.symm
    · split at h1
      · rename_i h; right; exact ⟨h.2, h.1⟩
      · left; exact h1.symm
    · split at h2
      · left; assumption
      · right; exact h2.symm
  · rintro ⟨h1, h2, h3⟩
    refine ⟨?_, ?_, ?_⟩
    · rcases h2 with h | ⟨h, k⟩
      · split
        · rfl
        · exact h.symm
      · rw [if_pos ⟨k, h⟩]
    · rcases h3 with h | h
      · rw [if_pos h]
      · split
        · rfl
        · exact h.symm
    · rcases h1 with h | h
      · rw [if_pos h]
      · split
        · rfl
        · exact h.symm
theorem bears_f1 {b : Bear} {t : Taint} (h1 : ¬ b.Effect = 0) (h2 : ¬ b.Effect = t.Effect) : bearsOf b t = false := by
  cases hb : bearsOf b t with
  | false => rfl
  | true => have := (bears_def.1 hb).1; rcases this with h | h <;> contradiction
theorem bears_f2 {b : Bear} {t : Taint} (h1 : ¬ b.Key = t.Key) (h2 : ¬ b.Key = ⟨#[]⟩ ∨ b.Any = false) : bearsOf b t = false := by
  cases hb : bearsOf b t with
  | false => rfl
  | true =>
    have := (bears_def.1 hb).2.1
    rcases this with h | ⟨h, k⟩
    · contradiction
    · rcases h2 with h2 | h2
      · contradiction
      · rw [k] at h2; cases h2
theorem bears_t {b : Bear} {t : Taint} (h1 : b.Effect = 0 ∨ b.Effect = t.Effect) (h2 : b.Key = t.Key ∨ (b.Key = ⟨#[]⟩ ∧ b.Any = true)) (h : b.Any = true) : bearsOf b t = true := bears_def.2 ⟨h1, h2, .inl h⟩
theorem bears_v {b : Bear} {t : Taint} (h1 : b.Effect = 0 ∨ b.Effect = t.Effect) (h2 : b.Key = t.Key ∨ (b.Key = ⟨#[]⟩ ∧ b.Any = true)) (h : b.Any = false) : bearsOf b t = decide (b.Value = t.Value) := by
  by_cases hv : b.Value = t.Value
  · rw [bears_def.2 ⟨h1, h2, .inr hv⟩, decide_eq_true hv]
  · rw [decide_eq_false hv]
    cases hb : bearsOf b t with
    | false => rfl
    | true =>
      rcases (bears_def.1 hb).2.2 with k | k
      · rw [k] at h; cases h
      · contradiction
set_option maxHeartbeats 1000000 in
theorem refBears_spec (b : Bear) (t : Taint) (s : St) : CallV Tryz.prog 69 #[b.v, t.v] s (.bool (bearsOf b t)) := by
  intro K hK
  refine callS_of_run Tryz.func69 rfl ?_; simp only [Tryz.ntmps69, List.size_toArray, List.length_cons, List.length_nil, Nat.reduceAdd, Nat.reduceSub, Array.replicate_succ, Array.replicate_zero, List.push_toArray, List.append_toArray, List.nil_append, List.cons_append]
  refine run_seq fun _ hk1 => ?_
  refine run_region ?_
  refine opsR_o rfl (o_box fun b2 hb2 => ?_)
  simp only [nrm, Nat.reduceAdd, Nat.reduceMul, Nat.reduceSub, Int.reduceToNat, Int.reduceAdd]
  refine opsR_o rfl (o_box fun b3 hb3 => ?_)
  simp only [nrm, Nat.reduceAdd, Nat.reduceMul, Nat.reduceSub, Int.reduceToNat, Int.reduceAdd]
  refine opsR_q rfl (q_assign) ?_
  simp only [nrm]
  refine opsR_nil ?_
  refine hk1 _ _ ?_
  clear hk1
  refine run_seq fun _ hk4 => ?_
  refine run_seq fun _ hk5 => ?_
  refine run_region ?_
  refine opsR_q rfl (q_fieldAddr rfl) ?_
  simp only [nrm, Nat.reduceAdd, Nat.reduceMul, Nat.reduceSub, Int.reduceToNat, Int.reduceAdd]
  refine opsR_q rfl (q_loadB1 rfl inferInstance rfl) ?_
  simp only [nrm, Nat.reduceAdd, Nat.reduceMul, Nat.reduceSub, Int.reduceToNat, Int.reduceAdd]
  refine opsR_q rfl (q_neq rfl rfl) ?_
  simp only [nrm, Nat.reduceAdd, Nat.reduceMul, Nat.reduceSub, Int.reduceToNat, Int.reduceAdd]
  refine opsR_qb rfl (q_move) (fun hc7 => ?_) (fun hc7 => ?_)
  · have ho7 := hc7; try simp only [spl] at hc7
    simp only [nrm, Nat.reduceAdd, Nat.reduceMul, Nat.reduceSub, Int.reduceToNat, Int.reduceAdd]
    refine opsR_q rfl (q_fieldAddr rfl) ?_
    simp only [nrm, Nat.reduceAdd, Nat.reduceMul, Nat.reduceSub, Int.reduceToNat, Int.reduceAdd]
    refine opsR_q rfl (q_loadB1 rfl inferInstance rfl) ?_
    simp only [nrm, Nat.reduceAdd, Nat.reduceMul, Nat.reduceSub, Int.reduceToNat, Int.reduceAdd]
    refine opsR_q rfl (q_fieldAddr rfl) ?_
    simp only [nrm, Nat.reduceAdd, Nat.reduceMul, Nat.reduceSub, Int.reduceToNat, Int.reduceAdd]
    refine opsR_q rfl (q_loadB1 rfl inferInstance rfl) ?_
    simp only [nrm, Nat.reduceAdd, Nat.reduceMul, Nat.reduceSub, Int.reduceToNat, Int.reduceAdd]
    refine opsR_q rfl (q_neq rfl rfl) ?_
    simp only [nrm, Nat.reduceAdd, Nat.reduceMul, Nat.reduceSub, Int.reduceToNat, Int.reduceAdd]
    refine opsR_q rfl (q_pick_t rfl) ?_
    simp only [nrm]
    refine opsR_nil ?_
    refine hk5 _ _ ?_
    clear hk5
    refine run_cond rfl (fun ho9 => ?_) (fun ho9 => ?_)
    · have hc9 := ho9; try simp only [spl] at hc9
      refine run_seq fun _ hk10 => ?_
      refine run_region ?_
      refine opsR_q rfl (q_assign) ?_
      simp only [nrm]
      refine opsR_nil ?_
      refine hk10 _ _ ?_
      clear hk10
      refine run_ret ?_
      exact end_tmp rfl rfl rfl ghA (eqK hK (congrArg Go.Value.bool (by exact bears_f1 (by assumption) (by assumption))))
    · have hc9 := ho9; try simp only [spl] at hc9
      refine run_skip ?_
      refine hk4 _ _ ?_
      clear hk4
      refine run_seq fun _ hk11 => ?_
      refine run_seq fun _ hk12 => ?_
      refine run_region ?_
      refine opsR_q rfl (q_fieldAddr rfl) ?_
      simp only [nrm, Nat.reduceAdd, Nat.reduceMul, Nat.reduceSub, Int.reduceToNat, Int.reduceAdd]
      refine opsR_q rfl (q_loadB1 rfl inferInstance rfl) ?_
      simp only [nrm, Nat.reduceAdd, Nat.reduceMul, Nat.reduceSub, Int.reduceToNat, Int.reduceAdd]
      refine opsR_q rfl (q_fieldAddr rfl) ?_
      simp only [nrm, Nat.reduceAdd, Nat.reduceMul, Nat.reduceSub, Int.reduceToNat, Int.reduceAdd]
      refine opsR_q rfl (q_loadB1 rfl inferInstance rfl) ?_
      simp only [nrm, Nat.reduceAdd, Nat.reduceMul, Nat.reduceSub, Int.reduceToNat, Int.reduceAdd]
      refine opsR_q rfl (q_neq_string rfl rfl) ?_
      simp only [nrm, Nat.reduceAdd, Nat.reduceMul, Nat.reduceSub, Int.reduceToNat, Int.reduceAdd]
      refine opsR_qb rfl (q_move) (fun hc13 => ?_) (fun hc13 => ?_)
      · have ho13 := hc13; try simp only [spl] at hc13
        simp only [nrm, Nat.reduceAdd, Nat.reduceMul, Nat.reduceSub, Int.reduceToNat, Int.reduceAdd]
        refine opsR_q rfl (q_fieldAddr rfl) ?_
        simp only [nrm, Nat.reduceAdd, Nat.reduceMul, Nat.reduceSub, Int.reduceToNat, Int.reduceAdd]
        refine opsR_q rfl (q_loadB1 rfl inferInstance rfl) ?_
        simp only [nrm, Nat.reduceAdd, Nat.reduceMul, Nat.reduceSub, Int.reduceToNat, Int.reduceAdd]
        refine opsR_q rfl (q_neq_string rfl rfl) ?_
        simp only [nrm, Nat.reduceAdd, Nat.reduceMul, Nat.reduceSub, Int.reduceToNat, Int.reduceAdd]
        refine opsR_qb rfl (q_move) (fun hc14 => ?_) (fun hc14 => ?_)
        · have ho14 := hc14; try simp only [spl] at hc14
          simp only [nrm, Nat.reduceAdd, Nat.reduceMul, Nat.reduceSub, Int.reduceToNat, Int.reduceAdd]
          refine opsR_skip rfl ?_
          simp only [nrm, Nat.reduceAdd, Nat.reduceMul, Nat.reduceSub, Int.reduceToNat, Int.reduceAdd]
          refine opsR_skip rfl ?_
          simp only [nrm, Nat.reduceAdd, Nat.reduceMul, Nat.reduceSub, Int.reduceToNat, Int.reduceAdd]
          refine opsR_skip rfl ?_
          simp only [nrm, Nat.reduceAdd, Nat.reduceMul, Nat.reduceSub, Int.reduceToNat, Int.reduceAdd]
          refine opsR_q rfl (q_pick_t rfl) ?_
          simp only [nrm]
          refine opsR_q rfl (q_pick_t rfl) ?_
          simp only [nrm]
          refine opsR_nil ?_
          refine hk12 _ _ ?_
          clear hk12
          refine run_cond (t := true) rfl (fun _ => ?_) (fun h => by cases h)
          refine run_seq fun _ hk15 => ?_
          refine run_region ?_
          refine opsR_q rfl (q_assign) ?_
          simp only [nrm]
          refine opsR_nil ?_
          refine hk15 _ _ ?_
          clear hk15
          refine run_ret ?_
          exact end_tmp rfl rfl rfl ghA (eqK hK (congrArg Go.Value.bool (by exact bears_f2 (by assumption) (by first | exact Or.inl (by assumption) | exact Or.inr (by assumption)))))
        · have ho14 := hc14; try simp only [spl] at hc14
          simp only [nrm, Nat.reduceAdd, Nat.reduceMul, Nat.reduceSub, Int.reduceToNat, Int.reduceAdd]
          refine opsR_q rfl (q_fieldAddr rfl) ?_
          simp only [nrm, Nat.reduceAdd, Nat.reduceMul, Nat.reduceSub, Int.reduceToNat, Int.reduceAdd]
          refine opsR_q rfl (q_loadB1 rfl inferInstance rfl) ?_
          simp only [nrm, Nat.reduceAdd, Nat.reduceMul, Nat.reduceSub, Int.reduceToNat, Int.reduceAdd]
          refine opsR_q rfl (q_not rfl) ?_
          simp only [nrm]
          refine opsR_q rfl (q_pick_f rfl) ?_
          simp only [nrm]
          refine opsR_q rfl (q_pick_t rfl) ?_
          simp only [nrm]
          refine opsR_nil ?_
          refine hk12 _ _ ?_
          clear hk12
          refine run_cond rfl (fun ho16 => ?_) (fun ho16 => ?_)
          · have hc16 := ho16; try simp only [spl] at hc16
            refine run_seq fun _ hk17 => ?_
            refine run_region ?_
            refine opsR_q rfl (q_assign) ?_
            simp only [nrm]
            refine opsR_nil ?_
            refine hk17 _ _ ?_
            clear hk17
            refine run_ret ?_
            exact end_tmp rfl rfl rfl ghA (eqK hK (congrArg Go.Value.bool (by exact bears_f2 (by assumption) (by first | exact Or.inl (by assumption) | exact Or.inr (by assumption)))))
          · have hc16 := ho16; try simp only [spl] at hc16
            refine run_skip ?_
            refine hk11 _ _ ?_
            clear hk11
            refine run_seq fun _ hk18 => ?_
            refine run_region ?_
            refine opsR_q rfl (q_fieldAddr rfl) ?_
            simp only [nrm, Nat.reduceAdd, Nat.reduceMul, Nat.reduceSub, Int.reduceToNat, Int.reduceAdd]
            refine opsR_q rfl (q_loadB1 rfl inferInstance rfl) ?_
            simp only [nrm, Nat.reduceAdd, Nat.reduceMul, Nat.reduceSub, Int.reduceToNat, Int.reduceAdd]
            refine opsR_qb rfl (q_move) (fun _ => ?_) (fun h => by first | exact absurd h (by rw [ho16]; decide) | exact absurd ho16 (by rw [h]; decide))
            simp only [nrm, Nat.reduceAdd, Nat.reduceMul, Nat.reduceSub, Int.reduceToNat, Int.reduceAdd]
            refine opsR_skip rfl ?_
            simp only [nrm, Nat.reduceAdd, Nat.reduceMul, Nat.reduceSub, Int.reduceToNat, Int.reduceAdd]
            refine opsR_skip rfl ?_
            simp only [nrm, Nat.reduceAdd, Nat.reduceMul, Nat.reduceSub, Int.reduceToNat, Int.reduceAdd]
            refine opsR_skip rfl ?_
            simp only [nrm, Nat.reduceAdd, Nat.reduceMul, Nat.reduceSub, Int.reduceToNat, Int.reduceAdd]
            refine opsR_skip rfl ?_
            simp only [nrm, Nat.reduceAdd, Nat.reduceMul, Nat.reduceSub, Int.reduceToNat, Int.reduceAdd]
            refine opsR_skip rfl ?_
            simp only [nrm, Nat.reduceAdd, Nat.reduceMul, Nat.reduceSub, Int.reduceToNat, Int.reduceAdd]
            refine opsR_q rfl (q_pick_t rfl) ?_
            simp only [nrm]
            refine opsR_q rfl (q_assign) ?_
            simp only [nrm]
            refine opsR_nil ?_
            refine hk18 _ _ ?_
            clear hk18
            refine run_ret ?_
            first | exact end_tmp rfl rfl rfl ghA hK | exact end_tmp rfl rfl rfl ghA (eqK hK (congrArg Go.Value.bool (by first | exact bears_t (by first | exact Or.inl (by assumption) | exact Or.inr (by assumption)) (by first | exact Or.inl (by assumption) | exact Or.inr (And.intro (by assumption) (by assumption))) (by assumption) | exact bears_v (by first | exact Or.inl (by assumption) | exact Or.inr (by assumption)) (by first | exact Or.inl (by assumption) | exact Or.inr (And.intro (by assumption) (by assumption))) (by assumption))))
      · have ho13 := hc13; try simp only [spl] at hc13
        simp only [nrm, Nat.reduceAdd, Nat.reduceMul, Nat.reduceSub, Int.reduceToNat, Int.reduceAdd]
        refine opsR_skip rfl ?_
        simp only [nrm, Nat.reduceAdd, Nat.reduceMul, Nat.reduceSub, Int.reduceToNat, Int.reduceAdd]
        refine opsR_skip rfl ?_
        simp only [nrm, Nat.reduceAdd, Nat.reduceMul, Nat.reduceSub, Int.reduceToNat, Int.reduceAdd]
        refine opsR_skip rfl ?_
        simp only [nrm, Nat.reduceAdd, Nat.reduceMul, Nat.reduceSub, Int.reduceToNat, Int.reduceAdd]
        refine opsR_skip rfl ?_
        simp only [nrm, Nat.reduceAdd, Nat.reduceMul, Nat.reduceSub, Int.reduceToNat, Int.reduceAdd]
        refine opsR_skip rfl ?_
        simp only [nrm, Nat.reduceAdd, Nat.reduceMul, Nat.reduceSub, Int.reduceToNat, Int.reduceAdd]
        refine opsR_skip rfl ?_
        simp only [nrm, Nat.reduceAdd, Nat.reduceMul, Nat.reduceSub, Int.reduceToNat, Int.reduceAdd]
        refine opsR_skip rfl ?_
        simp only [nrm, Nat.reduceAdd, Nat.reduceMul, Nat.reduceSub, Int.reduceToNat, Int.reduceAdd]
        refine opsR_skip rfl ?_
        simp only [nrm, Nat.reduceAdd, Nat.reduceMul, Nat.reduceSub, Int.reduceToNat, Int.reduceAdd]
        refine opsR_q rfl (q_pick_f rfl) ?_
        simp only [nrm]
        refine opsR_nil ?_
        refine hk12 _ _ ?_
        clear hk12
        refine run_cond (t := false) rfl (fun h => by cases h) (fun _ => ?_)
        refine run_skip ?_
        refine hk11 _ _ ?_
        clear hk11
        refine run_seq fun _ hk19 => ?_
        refine run_region ?_
        refine opsR_q rfl (q_fieldAddr rfl) ?_
        simp only [nrm, Nat.reduceAdd, Nat.reduceMul, Nat.reduceSub, Int.reduceToNat, Int.reduceAdd]
        refine opsR_q rfl (q_loadB1 rfl inferInstance rfl) ?_
        simp only [nrm, Nat.reduceAdd, Nat.reduceMul, Nat.reduceSub, Int.reduceToNat, Int.reduceAdd]
        refine opsR_qb rfl (q_move) (fun hc20 => ?_) (fun hc20 => ?_)
        · have ho20 := hc20; try simp only [spl] at hc20
          simp only [nrm, Nat.reduceAdd, Nat.reduceMul, Nat.reduceSub, Int.reduceToNat, Int.reduceAdd]
          refine opsR_skip rfl ?_
          simp only [nrm, Nat.reduceAdd, Nat.reduceMul, Nat.reduceSub, Int.reduceToNat, Int.reduceAdd]
          refine opsR_skip rfl ?_
          simp only [nrm, Nat.reduceAdd, Nat.reduceMul, Nat.reduceSub, Int.reduceToNat, Int.reduceAdd]
          refine opsR_skip rfl ?_
          simp only [nrm, Nat.reduceAdd, Nat.reduceMul, Nat.reduceSub, Int.reduceToNat, Int.reduceAdd]
          refine opsR_skip rfl ?_
          simp only [nrm, Nat.reduceAdd, Nat.reduceMul, Nat.reduceSub, Int.reduceToNat, Int.reduceAdd]
          refine opsR_skip rfl ?_
          simp only [nrm, Nat.reduceAdd, Nat.reduceMul, Nat.reduceSub, Int.reduceToNat, Int.reduceAdd]
          refine opsR_q rfl (q_pick_t rfl) ?_
          simp only [nrm]
          refine opsR_q rfl (q_assign) ?_
          simp only [nrm]
          refine opsR_nil ?_
          refine hk19 _ _ ?_
          clear hk19
          refine run_ret ?_
          first | exact end_tmp rfl rfl rfl ghA hK | exact end_tmp rfl rfl rfl ghA (eqK hK (congrArg Go.Value.bool (by first | exact bears_t (by first | exact Or.inl (by assumption) | exact Or.inr (by assumption)) (by first | exact Or.inl (by assumption) | exact Or.inr (And.intro (by assumption) (by assumption))) (by assumption) | exact bears_v (by first | exact Or.inl (by assumption) | exact Or.inr (by assumption)) (by first | exact Or.inl (by assumption) | exact Or.inr (And.intro (by assumption) (by assumption))) (by assumption))))
        · have ho20 := hc20; try simp only [spl] at hc20
          simp only [nrm, Nat.reduceAdd, Nat.reduceMul, Nat.reduceSub, Int.reduceToNat, Int.reduceAdd]
          refine opsR_q rfl (q_fieldAddr rfl) ?_
          simp only [nrm, Nat.reduceAdd, Nat.reduceMul, Nat.reduceSub, Int.reduceToNat, Int.reduceAdd]
          refine opsR_q rfl (q_loadB1 rfl inferInstance rfl) ?_
          simp only [nrm, Nat.reduceAdd, Nat.reduceMul, Nat.reduceSub, Int.reduceToNat, Int.reduceAdd]
          refine opsR_q rfl (q_fieldAddr rfl) ?_
          simp only [nrm, Nat.reduceAdd, Nat.reduceMul, Nat.reduceSub, Int.reduceToNat, Int.reduceAdd]
          refine opsR_q rfl (q_loadB1 rfl inferInstance rfl) ?_
          simp only [nrm, Nat.reduceAdd, Nat.reduceMul, Nat.reduceSub, Int.reduceToNat, Int.reduceAdd]
          refine opsR_q rfl (q_eql_string rfl rfl) ?_
          simp only [nrm, Nat.reduceAdd, Nat.reduceMul, Nat.reduceSub, Int.reduceToNat, Int.reduceAdd]
          refine opsR_q rfl (q_pick_f rfl) ?_
          simp only [nrm]
          refine opsR_q rfl (q_assign) ?_
          simp only [nrm]
          refine opsR_nil ?_
          refine hk19 _ _ ?_
          clear hk19
          refine run_ret ?_
          first | exact end_tmp rfl rfl rfl ghA hK | exact end_tmp rfl rfl rfl ghA (eqK hK (congrArg Go.Value.bool (by first | exact bears_t (by first | exact Or.inl (by assumption) | exact Or.inr (by assumption)) (by first | exact Or.inl (by assumption) | exact Or.inr (And.intro (by assumption) (by assumption))) (by assumption) | exact bears_v (by first | exact Or.inl (by assumption) | exact Or.inr (by assumption)) (by first | exact Or.inl (by assumption) | exact Or.inr (And.intro (by assumption) (by assumption))) (by assumption))))
  · have ho7 := hc7; try simp only [spl] at hc7
    simp only [nrm, Nat.reduceAdd, Nat.reduceMul, Nat.reduceSub, Int.reduceToNat, Int.reduceAdd]
    refine opsR_skip rfl ?_
    simp only [nrm, Nat.reduceAdd, Nat.reduceMul, Nat.reduceSub, Int.reduceToNat, Int.reduceAdd]
    refine opsR_skip rfl ?_
    simp only [nrm, Nat.reduceAdd, Nat.reduceMul, Nat.reduceSub, Int.reduceToNat, Int.reduceAdd]
    refine opsR_skip rfl ?_
    simp only [nrm, Nat.reduceAdd, Nat.reduceMul, Nat.reduceSub, Int.reduceToNat, Int.reduceAdd]
    refine opsR_skip rfl ?_
    simp only [nrm, Nat.reduceAdd, Nat.reduceMul, Nat.reduceSub, Int.reduceToNat, Int.reduceAdd]
    refine opsR_skip rfl ?_
    simp only [nrm, Nat.reduceAdd, Nat.reduceMul, Nat.reduceSub, Int.reduceToNat, Int.reduceAdd]
    refine opsR_q rfl (q_pick_f rfl) ?_
    simp only [nrm]
    refine opsR_nil ?_
    refine hk5 _ _ ?_
    clear hk5
    refine run_cond (t := false) rfl (fun h => by cases h) (fun _ => ?_)
    refine run_skip ?_
    refine hk4 _ _ ?_
    clear hk4
    refine run_seq fun _ hk21 => ?_
    refine run_seq fun _ hk22 => ?_
    refine run_region ?_
    refine opsR_q rfl (q_fieldAddr rfl) ?_
    simp only [nrm, Nat.reduceAdd, Nat.reduceMul, Nat.reduceSub, Int.reduceToNat, Int.reduceAdd]
    refine opsR_q rfl (q_loadB1 rfl inferInstance rfl) ?_
    simp only [nrm, Nat.reduceAdd, Nat.reduceMul, Nat.reduceSub, Int.reduceToNat, Int.reduceAdd]
    refine opsR_q rfl (q_fieldAddr rfl) ?_
    simp only [nrm, Nat.reduceAdd, Nat.reduceMul, Nat.reduceSub, Int.reduceToNat, Int.reduceAdd]
    refine opsR_q rfl (q_loadB1 rfl inferInstance rfl) ?_
    simp only [nrm, Nat.reduceAdd, Nat.reduceMul, Nat.reduceSub, Int.reduceToNat, Int.reduceAdd]
    refine opsR_q rfl (q_neq_string rfl rfl) ?_
    simp only [nrm, Nat.reduceAdd, Nat.reduceMul, Nat.reduceSub, Int.reduceToNat, Int.reduceAdd]
    refine opsR_qb rfl (q_move) (fun hc24 => ?_) (fun hc24 => ?_)
    · have ho24 := hc24; try simp only [spl] at hc24
      simp only [nrm, Nat.reduceAdd, Nat.reduceMul, Nat.reduceSub, Int.reduceToNat, Int.reduceAdd]
      refine opsR_q rfl (q_fieldAddr rfl) ?_
      simp only [nrm, Nat.reduceAdd, Nat.reduceMul, Nat.reduceSub, Int.reduceToNat, Int.reduceAdd]
      refine opsR_q rfl (q_loadB1 rfl inferInstance rfl) ?_
      simp only [nrm, Nat.reduceAdd, Nat.reduceMul, Nat.reduceSub, Int.reduceToNat, Int.reduceAdd]
      refine opsR_q rfl (q_neq_string rfl rfl) ?_
      simp only [nrm, Nat.reduceAdd, Nat.reduceMul, Nat.reduceSub, Int.reduceToNat, Int.reduceAdd]
      refine opsR_qb rfl (q_move) (fun hc25 => ?_) (fun hc25 => ?_)
      · have ho25 := hc25; try simp only [spl] at hc25
        simp only [nrm, Nat.reduceAdd, Nat.reduceMul, Nat.reduceSub, Int.reduceToNat, Int.reduceAdd]
        refine opsR_skip rfl ?_
        simp only [nrm, Nat.reduceAdd, Nat.reduceMul, Nat.reduceSub, Int.reduceToNat, Int.reduceAdd]
        refine opsR_skip rfl ?_
        simp only [nrm, Nat.reduceAdd, Nat.reduceMul, Nat.reduceSub, Int.reduceToNat, Int.reduceAdd]
        refine opsR_skip rfl ?_
        simp only [nrm, Nat.reduceAdd, Nat.reduceMul, Nat.reduceSub, Int.reduceToNat, Int.reduceAdd]
        refine opsR_q rfl (q_pick_t rfl) ?_
        simp only [nrm]
        refine opsR_q rfl (q_pick_t rfl) ?_
        simp only [nrm]
        refine opsR_nil ?_
        refine hk22 _ _ ?_
        clear hk22
        refine run_cond (t := true) rfl (fun _ => ?_) (fun h => by cases h)
        refine run_seq fun _ hk26 => ?_
        refine run_region ?_
        refine opsR_q rfl (q_assign) ?_
        simp only [nrm]
        refine opsR_nil ?_
        refine hk26 _ _ ?_
        clear hk26
        refine run_ret ?_
        exact end_tmp rfl rfl rfl ghA (eqK hK (congrArg Go.Value.bool (by exact bears_f2 (by assumption) (by first | exact Or.inl (by assumption) | exact Or.inr (by assumption)))))
      · have ho25 := hc25; try simp only [spl] at hc25
        simp only [nrm, Nat.reduceAdd, Nat.reduceMul, Nat.reduceSub, Int.reduceToNat, Int.reduceAdd]
        refine opsR_q rfl (q_fieldAddr rfl) ?_
        simp only [nrm, Nat.reduceAdd, Nat.reduceMul, Nat.reduceSub, Int.reduceToNat, Int.reduceAdd]
        refine opsR_q rfl (q_loadB1 rfl inferInstance rfl) ?_
        simp only [nrm, Nat.reduceAdd, Nat.reduceMul, Nat.reduceSub, Int.reduceToNat, Int.reduceAdd]
        refine opsR_q rfl (q_not rfl) ?_
        simp only [nrm]
        refine opsR_q rfl (q_pick_f rfl) ?_
        simp only [nrm]
        refine opsR_q rfl (q_pick_t rfl) ?_
        simp only [nrm]
        refine opsR_nil ?_
        refine hk22 _ _ ?_
        clear hk22
        refine run_cond rfl (fun ho27 => ?_) (fun ho27 => ?_)
        · have hc27 := ho27; try simp only [spl] at hc27
          refine run_seq fun _ hk28 => ?_
          refine run_region ?_
          refine opsR_q rfl (q_assign) ?_
          simp only [nrm]
          refine opsR_nil ?_
          refine hk28 _ _ ?_
          clear hk28
          refine run_ret ?_
          exact end_tmp rfl rfl rfl ghA (eqK hK (congrArg Go.Value.bool (by exact bears_f2 (by assumption) (by first | exact Or.inl (by assumption) | exact Or.inr (by assumption)))))
        · have hc27 := ho27; try simp only [spl] at hc27
          refine run_skip ?_
          refine hk21 _ _ ?_
          clear hk21
          refine run_seq fun _ hk29 => ?_
          refine run_region ?_
          refine opsR_q rfl (q_fieldAddr rfl) ?_
          simp only [nrm, Nat.reduceAdd, Nat.reduceMul, Nat.reduceSub, Int.reduceToNat, Int.reduceAdd]
          refine opsR_q rfl (q_loadB1 rfl inferInstance rfl) ?_
          simp only [nrm, Nat.reduceAdd, Nat.reduceMul, Nat.reduceSub, Int.reduceToNat, Int.reduceAdd]
          refine opsR_qb rfl (q_move) (fun _ => ?_) (fun h => by first | exact absurd h (by rw [ho27]; decide) | exact absurd ho27 (by rw [h]; decide))
          simp only [nrm, Nat.reduceAdd, Nat.reduceMul, Nat.reduceSub, Int.reduceToNat, Int.reduceAdd]
          refine opsR_skip rfl ?_
          simp only [nrm, Nat.reduceAdd, Nat.reduceMul, Nat.reduceSub, Int.reduceToNat, Int.reduceAdd]
          refine opsR_skip rfl ?_
          simp only [nrm, Nat.reduceAdd, Nat.reduceMul, Nat.reduceSub, Int.reduceToNat, Int.reduceAdd]
          refine opsR_skip rfl ?_
          simp only [nrm, Nat.reduceAdd, Nat.reduceMul, Nat.reduceSub, Int.reduceToNat, Int.reduceAdd]
          refine opsR_skip rfl ?_
          simp only [nrm, Nat.reduceAdd, Nat.reduceMul, Nat.reduceSub, Int.reduceToNat, Int.reduceAdd]
          refine opsR_skip rfl ?_
          simp only [nrm, Nat.reduceAdd, Nat.reduceMul, Nat.reduceSub, Int.reduceToNat, Int.reduceAdd]
          refine opsR_q rfl (q_pick_t rfl) ?_
          simp only [nrm]
          refine opsR_q rfl (q_assign) ?_
          simp only [nrm]
          refine opsR_nil ?_
          refine hk29 _ _ ?_
          clear hk29
          refine run_ret ?_
          first | exact end_tmp rfl rfl rfl ghA hK | exact end_tmp rfl rfl rfl ghA (eqK hK (congrArg Go.Value.bool (by first | exact bears_t (by first | exact Or.inl (by assumption) | exact Or.inr (by assumption)) (by first | exact Or.inl (by assumption) | exact Or.inr (And.intro (by assumption) (by assumption))) (by assumption) | exact bears_v (by first | exact Or.inl (by assumption) | exact Or.inr (by assumption)) (by first | exact Or.inl (by assumption) | exact Or.inr (And.intro (by assumption) (by assumption))) (by assumption))))
    · have ho24 := hc24; try simp only [spl] at hc24
      simp only [nrm, Nat.reduceAdd, Nat.reduceMul, Nat.reduceSub, Int.reduceToNat, Int.reduceAdd]
      refine opsR_skip rfl ?_
      simp only [nrm, Nat.reduceAdd, Nat.reduceMul, Nat.reduceSub, Int.reduceToNat, Int.reduceAdd]
      refine opsR_skip rfl ?_
      simp only [nrm, Nat.reduceAdd, Nat.reduceMul, Nat.reduceSub, Int.reduceToNat, Int.reduceAdd]
      refine opsR_skip rfl ?_
      simp only [nrm, Nat.reduceAdd, Nat.reduceMul, Nat.reduceSub, Int.reduceToNat, Int.reduceAdd]
      refine opsR_skip rfl ?_
      simp only [nrm, Nat.reduceAdd, Nat.reduceMul, Nat.reduceSub, Int.reduceToNat, Int.reduceAdd]
      refine opsR_skip rfl ?_
      simp only [nrm, Nat.reduceAdd, Nat.reduceMul, Nat.reduceSub, Int.reduceToNat, Int.reduceAdd]
      refine opsR_skip rfl ?_
      simp only [nrm, Nat.reduceAdd, Nat.reduceMul, Nat.reduceSub, Int.reduceToNat, Int.reduceAdd]
      refine opsR_skip rfl ?_
      simp only [nrm, Nat.reduceAdd, Nat.reduceMul, Nat.reduceSub, Int.reduceToNat, Int.reduceAdd]
      refine opsR_skip rfl ?_
      simp only [nrm, Nat.reduceAdd, Nat.reduceMul, Nat.reduceSub, Int.reduceToNat, Int.reduceAdd]
      refine opsR_q rfl (q_pick_f rfl) ?_
      simp only [nrm]
      refine opsR_nil ?_
      refine hk22 _ _ ?_
      clear hk22
      refine run_cond (t := false) rfl (fun h => by cases h) (fun _ => ?_)
      refine run_skip ?_
      refine hk21 _ _ ?_
      clear hk21
      refine run_seq fun _ hk30 => ?_
      refine run_region ?_
      refine opsR_q rfl (q_fieldAddr rfl) ?_
      simp only [nrm, Nat.reduceAdd, Nat.reduceMul, Nat.reduceSub, Int.reduceToNat, Int.reduceAdd]
      refine opsR_q rfl (q_loadB1 rfl inferInstance rfl) ?_
      simp only [nrm, Nat.reduceAdd, Nat.reduceMul, Nat.reduceSub, Int.reduceToNat, Int.reduceAdd]
      refine opsR_qb rfl (q_move) (fun hc31 => ?_) (fun hc31 => ?_)
      · have ho31 := hc31; try simp only [spl] at hc31
        simp only [nrm, Nat.reduceAdd, Nat.reduceMul, Nat.reduceSub, Int.reduceToNat, Int.reduceAdd]
        refine opsR_skip rfl ?_
        simp only [nrm, Nat.reduceAdd, Nat.reduceMul, Nat.reduceSub, Int.reduceToNat, Int.reduceAdd]
        refine opsR_skip rfl ?_
        simp only [nrm, Nat.reduceAdd, Nat.reduceMul, Nat.reduceSub, Int.reduceToNat, Int.reduceAdd]
        refine opsR_skip rfl ?_
        simp only [nrm, Nat.reduceAdd, Nat.reduceMul, Nat.reduceSub, Int.reduceToNat, Int.reduceAdd]
        refine opsR_skip rfl ?_
        simp only [nrm, Nat.reduceAdd, Nat.reduceMul, Nat.reduceSub, Int.reduceToNat, Int.reduceAdd]
        refine opsR_skip rfl ?_
        simp only [nrm, Nat.reduceAdd, Nat.reduceMul, Nat.reduceSub, Int.reduceToNat, Int.reduceAdd]
        refine opsR_q rfl (q_pick_t rfl) ?_
        simp only [nrm]
        refine opsR_q rfl (q_assign) ?_
        simp only [nrm]
        refine opsR_nil ?_
        refine hk30 _ _ ?_
        clear hk30
        refine run_ret ?_
        first | exact end_tmp rfl rfl rfl ghA hK | exact end_tmp rfl rfl rfl ghA (eqK hK (congrArg Go.Value.bool (by first | exact bears_t (by first | exact Or.inl (by assumption) | exact Or.inr (by assumption)) (by first | exact Or.inl (by assumption) | exact Or.inr (And.intro (by assumption) (by assumption))) (by assumption) | exact bears_v (by first | exact Or.inl (by assumption) | exact Or.inr (by assumption)) (by first | exact Or.inl (by assumption) | exact Or.inr (And.intro (by assumption) (by assumption))) (by assumption))))
      · have ho31 := hc31; try simp only [spl] at hc31
        simp only [nrm, Nat.reduceAdd, Nat.reduceMul, Nat.reduceSub, Int.reduceToNat, Int.reduceAdd]
        refine opsR_q rfl (q_fieldAddr rfl) ?_
        simp only [nrm, Nat.reduceAdd, Nat.reduceMul, Nat.reduceSub, Int.reduceToNat, Int.reduceAdd]
        refine opsR_q rfl (q_loadB1 rfl inferInstance rfl) ?_
        simp only [nrm, Nat.reduceAdd, Nat.reduceMul, Nat.reduceSub, Int.reduceToNat, Int.reduceAdd]
        refine opsR_q rfl (q_fieldAddr rfl) ?_
        simp only [nrm, Nat.reduceAdd, Nat.reduceMul, Nat.reduceSub, Int.reduceToNat, Int.reduceAdd]
        refine opsR_q rfl (q_loadB1 rfl inferInstance rfl) ?_
        simp only [nrm, Nat.reduceAdd, Nat.reduceMul, Nat.reduceSub, Int.reduceToNat, Int.reduceAdd]
        refine opsR_q rfl (q_eql_string rfl rfl) ?_
        simp only [nrm, Nat.reduceAdd, Nat.reduceMul, Nat.reduceSub, Int.reduceToNat, Int.reduceAdd]
        refine opsR_q rfl (q_pick_f rfl) ?_
        simp only [nrm]
        refine opsR_q rfl (q_assign) ?_
        simp only [nrm]
        refine opsR_nil ?_
        refine hk30 _ _ ?_
        clear hk30
        refine run_ret ?_
        first | exact end_tmp rfl rfl rfl ghA hK | exact end_tmp rfl rfl rfl ghA (eqK hK (congrArg Go.Value.bool (by first | exact bears_t (by first | exact Or.inl (by assumption) | exact Or.inr (by assumption)) (by first | exact Or.inl (by assumption) | exact Or.inr (And.intro (by assumption) (by assumption))) (by assumption) | exact bears_v (by first | exact Or.inl (by assumption) | exact Or.inr (by assumption)) (by first | exact Or.inl (by assumption) | exact Or.inr (And.intro (by assumption) (by assumption))) (by assumption))))
theorem refBorne_spec {bs : List Bear} {t : Taint} {v : Value} {s : St} (hb : Sl kBear s.I v bs) : CallV Tryz.prog 53 #[v, t.v] s (.bool (borneOf bs t)) := by
  intro K hK
  have hle := hb.len.le
  refine callS_of_run Tryz.func53 rfl ?_; simp only [Tryz.ntmps53, List.size_toArray, List.length_cons, List.length_nil, Nat.reduceAdd, Nat.reduceSub, Array.replicate_succ, Array.replicate_zero, List.push_toArray, List.append_toArray, List.nil_append, List.cons_append]
  refine run_seq fun _ hk1 => ?_
  refine run_region ?_
  refine opsR_o rfl (o_box fun bBX hbBX => ?_)
  simp only [nrm, Nat.reduceAdd, Nat.reduceMul, Nat.reduceSub, Int.reduceToNat, Int.reduceAdd]
  refine opsR_q rfl (q_assign) ?_
  simp only [nrm]
  refine opsR_nil ?_
  refine hk1 _ _ ?_
  clear hk1
  refine run_seq fun _ hk3 => ?_
  refine run_seq fun _ hk4 => ?_
  refine run_region ?_
  refine opsR_q rfl (q_assign) ?_
  simp only [nrm]
  refine opsR_nil ?_
  refine hk4 _ _ ?_
  clear hk4
  refine run_block ?_
  refine run_loopF [0, 0, 0, 0, 1, 2, 1, 1, 1, 1, 1, 1, 1, 1, 1, 1, 1, 1] (fun zn zL zst => ∃ (i : Nat), zL = [.int .i64 (i : Nat)] ∧ ⟨s.I, (bBX, .cells #[.string t.Key, .string t.Value, .int .i64 t.Effect] 77 (0, 0)) :: s.cs⟩ = zst ∧ zn = bs.length - i ∧ (i ≤ bs.length) ∧ (∀ j, j < i → bearsOf bs[j]! t = false)) _ _ ⟨0, rfl, rfl, rfl, by first | assumption | omega | exact Hp.le.rfl | rfl | exact all_zero | exact all_succ (by assumption) (by assumption) | (intro _; omega) | (simp; done), by first | assumption | omega | exact Hp.le.rfl | rfl | exact all_zero | exact all_succ (by assumption) (by assumption) | (intro _; omega) | (simp; done)⟩ rfl ?_
  rintro _ _ _ jv5 ⟨i, rfl, rfl, rfl, hi, hj⟩ K5 hkl5
  simp only [fr, Nat.zero_add, Nat.reduceAdd]
  refine run_seq fun _ hk6 => ?_
  refine run_seq fun _ hk7 => ?_
  refine run_region ?_
  refine opsR_q rfl (q_move) ?_
  simp only [nrm]
  refine opsR_q rfl (q_move) ?_
  simp only [nrm]
  refine opsR_q rfl (q_len_v rfl (by first | exact Sl.len (by assumption) | exact OwnS.len (by assumption) | exact SlR.len (by assumption) | assumption)) ?_
  simp only [nrm, Nat.reduceAdd, Nat.reduceMul, Nat.reduceSub, Int.reduceToNat, Int.reduceAdd]
  refine opsR_q rfl (q_lss rfl rfl) ?_
  simp only [nrm, Nat.reduceAdd, Nat.reduceMul, Nat.reduceSub, Int.reduceToNat, Int.reduceAdd]
  refine opsR_nil ?_
  refine hk7 _ _ ?_
  clear hk7
  refine run_cond rfl (fun ho10 => ?_) (fun ho10 => ?_)
  · have hc10 := ho10; try simp only [spl] at hc10
    refine run_skip ?_
    refine hk6 _ _ ?_
    clear hk6
    refine run_seq fun _ hk11 => ?_
    refine run_block ?_
    refine run_seq fun _ hk12 => ?_
    refine run_drawE mixed 6 (by kernel_rfl) rfl ?_
    simp only [List.take_succ_cons, List.take_zero, List.drop_succ_cons, List.drop_zero, List.drop_nil, List.take_nil]
    refine oblE_q rfl (fun I hI => (q_move)) ?_
    simp only [nrm]
    refine oblE_q rfl (fun I hI => (q_move)) ?_
    simp only [nrm]
    refine oblE_index rfl rfl rfl slrA (by rfl) idxA idxA fun b13 o13 cs13 ha13 hr13 he13 => ?_
    simp only [nrm, Nat.reduceAdd, Nat.reduceMul, Nat.reduceSub, Int.reduceToNat, Int.reduceAdd]
    try simp only [Int.toNat_natCast, Int.reduceToNat, Int.toNat_zero] at hr13
    try simp only [Int.toNat_natCast, Int.reduceToNat, Int.toNat_zero] at he13
    clear ha13
    obtain rfl := kBear.open hr13
    refine oblE_q rfl (fun I hI => (by first | exact q_load_atW rfl (El.mono (by assumption) hI) (by rfl) rfl | exact q_load_atN0 rfl (El.mono (by assumption) hI) rfl rfl | exact q_load_atN rfl (El.mono (by assumption) hI) rfl (Nat.le_of_ble_eq_true rfl) (Nat.le_of_ble_eq_true rfl))) ?_
    simp only [nrm, Nat.reduceAdd, Nat.reduceMul, Nat.reduceSub, Int.reduceToNat, Int.reduceAdd]
    refine oblE_q rfl (fun I hI => (by first | exact q_loadBN rfl inferInstance (by rfl) | exact q_loadBW rfl inferInstance (by assumption))) ?_
    simp only [nrm, Nat.reduceAdd, Nat.reduceMul, Nat.reduceSub, Int.reduceToNat, Int.reduceAdd]
    refine oblE_q rfl (fun I hI => (q_call rfl (refBears_spec _ _ _))) ?_
    simp only [nrm, Nat.reduceAdd, Nat.reduceMul, Nat.reduceSub, Int.reduceToNat, Int.reduceAdd]
    refine oblE_nil (show OpsR _ _ _ _ _ _ from ?_)
    try simp only [nrm, Nat.reduceAdd, Nat.reduceMul, Nat.reduceSub, Int.reduceToNat, Int.reduceAdd]
    refine opsR_nil ?_
    refine hk12 _ _ ?_
    clear hk12
    refine run_cond rfl (fun ho15 => ?_) (fun ho15 => ?_)
    · have hc15 := ho15; try simp only [spl] at hc15
      refine run_seq fun _ hk16 => ?_
      refine run_region ?_
      refine opsR_q rfl (q_assign) ?_
      simp only [nrm]
      refine opsR_nil ?_
      refine hk16 _ _ ?_
      clear hk16
      refine run_ret ?_
      exact end_tmp rfl rfl rfl ghA (eqK hK (congrArg Go.Value.bool (by exact any_at (p := fun x => bearsOf x t) (j := i) (by omega) (by assumption))))
    · have hc15 := ho15; try simp only [spl] at hc15
      refine run_skip ?_
      refine hk11 _ _ ?_
      clear hk11
      refine run_region ?_
      refine opsR_q rfl (q_move) ?_
      simp only [nrm]
      refine opsR_q rfl (by first | exact q_add64 rfl rfl (by omega) (by omega) | exact q_add rfl rfl) ?_
      simp only [nrm, Nat.reduceAdd, Nat.reduceMul, Nat.reduceSub, Int.reduceToNat, Int.reduceAdd]
      refine opsR_q rfl (q_assign) ?_
      simp only [nrm]
      refine opsR_nil ?_
      first
      | exact hkl5 _ _ _ _ (by omega) ⟨i + 1, rfl, rfl, rfl, by first | assumption | omega | exact Hp.le.rfl | rfl | exact all_zero | exact all_succ (by assumption) (by assumption) | (intro _; omega) | (simp; done), by first | assumption | omega | exact Hp.le.rfl | rfl | exact all_zero | exact all_succ (by assumption) (by assumption) | (intro _; omega) | (simp; done)⟩ rfl
  · have hc10 := ho10; try simp only [spl] at hc10
    refine run_exit ?_
    refine hk3 _ _ ?_
    clear hk3
    refine run_seq fun _ hk17 => ?_
    refine run_region ?_
    refine opsR_q rfl (q_assign) ?_
    simp only [nrm]
    refine opsR_nil ?_
    refine hk17 _ _ ?_
    clear hk17
    refine run_ret ?_
    first | exact end_tmp rfl rfl rfl ghA hK | exact end_tmp rfl rfl rfl ghA (eqK hK (congrArg Go.Value.bool (by exact any_none (p := fun x => bearsOf x t) (fun j h => hj j (by omega)))))
theorem filter_none {α : Type} [Inhabited α] {p : α → Bool} {l : List α} (h : ∀ j, j < l.length → p l[j]! = false) : l.filter p = [] := by
  rw [List.filter_eq_nil_iff]
  intro x hx
  obtain ⟨j, hj, rfl⟩ := List.mem_iff_getElem.1 hx
  have := h j hj
  rw [getElem!_pos l j hj] at this
  rw [this]; decide
def shyOf (l : List Taint) (bs : List Bear) : Int := (openOf l bs 2).length
abbrev Taint.zero : Taint := ⟨⟨#[]⟩, ⟨#[]⟩, 0⟩
def keptOf (l : List Taint) (bs : List Bear) : Taint := (openOf l bs 1).head?.getD Taint.zero
def isKept (l : List Taint) (bs : List Bear) : Bool := !(openOf l bs 1).isEmpty
theorem filter_first {α : Type} [Inhabited α] {p : α → Bool} {l : List α} {i : Nat} (hi : i < l.length) (h : ∀ j, j < i → p l[j]! = false) (hp : p l[i]! = true) : (l.filter p).head? = some l[i]! := by
  have e : l = l.take i ++ l[i]! :: l.drop (i + 1) := by
    conv => lhs; rw [← List.take_append_drop i l, List.drop_eq_getElem_cons hi]
    rw [getElem!_pos l i hi]
  have h0 : (l.take i).filter p = [] := filter_none fun j hj => by
    rw [List.length_take] at hj
    rw [get!_take (by omega) (by omega)]; exact h j (by omega)
  have e2 := congrArg (List.filter p) e
  rw [List.filter_append, h0, List.nil_append, List.filter_cons, if_pos hp] at e2
  rw [e2]; rfl
theorem Kept_spec {l : List Taint} {bs : List Bear} {v u : Value} {s : St} (hl : Sl kTaint s.I v l) (hb : Sl kBear s.I u bs) (hn : l.length ≤ 1073741824) (K : Value → St → Prop)
    (hK : ∀ J, Hp.le s.I J → K (.tuple #[(keptOf l bs).v, .bool (isKept l bs)]) ⟨J, s.cs⟩) : CallS Tryz.prog 64 #[v, u] s K := by
  refine callS_of_run Tryz.func64 rfl ?_; simp only [Tryz.ntmps64, List.size_toArray, List.length_cons, List.length_nil, Nat.reduceAdd, Nat.reduceSub, Array.replicate_succ, Array.replicate_zero, List.push_toArray, List.append_toArray, List.nil_append, List.cons_append]
  refine run_seq fun _ hk1 => ?_
  refine run_region ?_
  refine opsR_o rfl (o_alloc fun b2 hb2 => ?_)
  simp only [nrm, Nat.reduceAdd, Nat.reduceMul, Nat.reduceSub, Int.reduceToNat, Int.reduceAdd]
  refine opsR_q rfl (q_assign) ?_
  simp only [nrm]
  refine opsR_nil ?_
  refine hk1 _ _ ?_
  clear hk1
  refine run_seq fun _ hk3 => ?_
  refine run_region ?_
  refine opsR_q rfl (q_move) ?_
  simp only [nrm]
  refine opsR_q rfl (q_move) ?_
  simp only [nrm]
  refine opsR_o rfl (o_call rfl (open_spec (by first | assumption | (refine Sl.mono ?_ (by assumption); exact leA)) (by first | assumption | (refine Sl.mono ?_ (by assumption); exact leA)) (by omega) _ fun v6 J6 hJ6 hv6 => ?_))
  try dsimp only at hJ6 hv6
  try (have hr6 : Hp.le s.I J6 := leA; have hJ6 := hJ6)
  simp only [nrm, Nat.reduceAdd, Nat.reduceMul, Nat.reduceSub, Int.reduceToNat, Int.reduceAdd]
  refine opsR_q rfl (q_assign) ?_
  simp only [nrm]
  refine opsR_nil ?_
  refine hk3 _ _ ?_
  clear hk3
  refine run_seq fun _ hk8 => ?_
  refine run_seq fun _ hk9 => ?_
  generalize hO : openOf l bs 1 = O at *
  refine run_region ?_
  refine opsR_q rfl (q_move) ?_
  simp only [nrm]
  refine opsR_q rfl (q_len_v rfl (by first | exact Sl.len (by assumption) | exact OwnS.len (by assumption) | exact SlR.len (by assumption) | assumption)) ?_
  simp only [nrm, Nat.reduceAdd, Nat.reduceMul, Nat.reduceSub, Int.reduceToNat, Int.reduceAdd]
  refine opsR_q rfl (q_eql rfl rfl) ?_
  simp only [nrm, Nat.reduceAdd, Nat.reduceMul, Nat.reduceSub, Int.reduceToNat, Int.reduceAdd]
  refine opsR_nil ?_
  refine hk9 _ _ ?_
  clear hk9
  refine run_cond rfl (fun ho10 => ?_) (fun ho10 => ?_)
  · have hc10 := ho10; try simp only [spl] at hc10
    refine run_seq fun _ hk11 => ?_
    refine run_region ?_
    refine opsR_q rfl (q_build rfl) ?_
    simp only [nrm, Nat.reduceAdd, Nat.reduceMul, Nat.reduceSub, Int.reduceToNat, Int.reduceAdd]
    refine opsR_o rfl (o_storeB rfl rfl inferInstance (by first | rfl | assumption) (by first | rfl | exact Kd.one _ (by assumption) | assumption) (by first | rfl | (refine Nat.ble_eq_true_of_le ?_; (try simp only [Int.toNat_natCast]); omega)) ?_)
    simp only [nrm, Nat.reduceAdd, Nat.reduceMul, Nat.reduceSub, Int.reduceToNat, Int.reduceAdd]
    refine opsR_q rfl (q_assign) ?_
    simp only [nrm]
    refine opsR_nil ?_
    refine hk11 _ _ ?_
    clear hk11
    refine run_ret ?_
    have he : openOf l bs 1 = [] := by rw [hO]; exact List.eq_nil_of_length_eq_zero (by omega)
    simp only [keptOf, isKept, he] at hK
    exact end_cell_tmp rfl rfl rfl (AtB.has inferInstance) rfl rfl (by exact ghA) (hK _ (by exact leA))
  · have hc10 := ho10; try simp only [spl] at hc10
    refine run_skip ?_
    refine hk8 _ _ ?_
    clear hk8
    refine run_seq fun _ hk12 => ?_
    refine run_region ?_
    refine opsR_q rfl (q_move) ?_
    simp only [nrm]
    refine opsR_index rfl rfl rfl slrA (by rfl) idxA idxA fun b13 o13 cs13 ha13 hr13 he13 => ?_
    simp only [nrm, Nat.reduceAdd, Nat.reduceMul, Nat.reduceSub, Int.reduceToNat, Int.reduceAdd]
    try simp only [Int.toNat_natCast, Int.reduceToNat, Int.toNat_zero] at hr13
    try simp only [Int.toNat_natCast, Int.reduceToNat, Int.toNat_zero] at he13
    clear ha13
    obtain rfl := kTaint.open hr13
    refine opsR_q rfl (by first | exact q_load_atW rfl (by first | assumption | exact El.mono (by assumption) leA) (by rfl) rfl | exact q_load_atN0 rfl (by first | assumption | exact El.mono (by assumption) leA) rfl rfl | exact q_load_atN rfl (by first | assumption | exact El.mono (by assumption) leA) rfl (Nat.le_of_ble_eq_true rfl) (Nat.le_of_ble_eq_true rfl)) ?_
    simp only [nrm, Nat.reduceAdd, Nat.reduceMul, Nat.reduceSub, Int.reduceToNat, Int.reduceAdd]
    refine opsR_o rfl (o_storeB rfl rfl inferInstance (by first | rfl | assumption) (by first | rfl | exact Kd.one _ (by assumption) | assumption) (by first | rfl | (refine Nat.ble_eq_true_of_le ?_; (try simp only [Int.toNat_natCast]); omega)) ?_)
    simp only [nrm, Nat.reduceAdd, Nat.reduceMul, Nat.reduceSub, Int.reduceToNat, Int.reduceAdd]
    refine opsR_q rfl (q_assign) ?_
    simp only [nrm]
    refine opsR_nil ?_
    refine hk12 _ _ ?_
    clear hk12
    refine run_ret ?_
    have he : keptOf l bs = O[0]! ∧ isKept l bs = true := by
      rw [keptOf, isKept, hO]
      cases O with
      | nil => simp at *
      | cons x r => exact ⟨rfl, rfl⟩
    rw [he.1, he.2] at hK
    exact end_cell_tmp rfl rfl rfl (AtB.has inferInstance) rfl rfl (by exact ghA) (hK _ (by exact leA))
theorem openOf_none {l : List Taint} {bs : List Bear} {e : Int} (h : ∀ j, j < l.length → openP bs e l[j]! = false) : openOf l bs e = [] := filter_none h
theorem refKept_spec {l : List Taint} {bs : List Bear} {v u : Value} {s : St} (hl : Sl kTaint s.I v l) (hb : Sl kBear s.I u bs) : CallV Tryz.prog 30 #[v, u] s (.tuple #[(keptOf l bs).v, .bool (isKept l bs)]) := by
  intro K hK
  have hle := hl.len.le
  refine callS_of_run Tryz.func30 rfl ?_; simp only [Tryz.ntmps30, List.size_toArray, List.length_cons, List.length_nil, Nat.reduceAdd, Nat.reduceSub, Array.replicate_succ, Array.replicate_zero, List.push_toArray, List.append_toArray, List.nil_append, List.cons_append]
  refine run_seq fun _ hk1 => ?_
  refine run_region ?_
  refine opsR_o rfl (o_alloc fun bRES hbRES => ?_)
  simp only [nrm, Nat.reduceAdd, Nat.reduceMul, Nat.reduceSub, Int.reduceToNat, Int.reduceAdd]
  refine opsR_q rfl (q_assign) ?_
  simp only [nrm]
  refine opsR_nil ?_
  refine hk1 _ _ ?_
  clear hk1
  refine run_seq fun _ hk3 => ?_
  refine run_seq fun _ hk4 => ?_
  refine run_region ?_
  refine opsR_q rfl (q_assign) ?_
  simp only [nrm]
  refine opsR_nil ?_
  refine hk4 _ _ ?_
  clear hk4
  refine run_block ?_
  refine run_loopF [0, 0, 0, 0, 0, 1, 2, 1, 1, 1, 1, 1, 1, 1, 1, 1, 1, 1, 1, 1, 1, 1, 1, 1, 1, 1, 1, 1, 1, 1, 1, 1, 0] (fun zn zL zst => ∃ (i : Nat), zL = [.int .i64 (i : Nat)] ∧ ⟨s.I, (bRES, .cells #[.string ⟨#[]⟩, .string ⟨#[]⟩, .int .i64 0] 77 (0, 0)) :: s.cs⟩ = zst ∧ zn = l.length - i ∧ (i ≤ l.length) ∧ (∀ j, j < i → openP bs 1 l[j]! = false)) _ _ ⟨0, rfl, rfl, rfl, by first | assumption | omega | exact Hp.le.rfl | rfl | exact all_zero | exact all_succ (by assumption) (by assumption) | (intro _; omega) | (simp; done), by first | assumption | omega | exact Hp.le.rfl | rfl | exact all_zero | exact all_succ (by assumption) (by assumption) | (intro _; omega) | (simp; done)⟩ rfl ?_
  rintro _ _ _ jv5 ⟨i, rfl, rfl, rfl, hi, hj⟩ K5 hkl5
  simp only [fr, Nat.zero_add, Nat.reduceAdd]
  refine run_seq fun _ hk6 => ?_
  refine run_seq fun _ hk7 => ?_
  refine run_region ?_
  refine opsR_q rfl (q_move) ?_
  simp only [nrm]
  refine opsR_q rfl (q_move) ?_
  simp only [nrm]
  refine opsR_q rfl (q_len_v rfl (by first | exact Sl.len (by assumption) | exact OwnS.len (by assumption) | exact SlR.len (by assumption) | assumption)) ?_
  simp only [nrm, Nat.reduceAdd, Nat.reduceMul, Nat.reduceSub, Int.reduceToNat, Int.reduceAdd]
  refine opsR_q rfl (q_lss rfl rfl) ?_
  simp only [nrm, Nat.reduceAdd, Nat.reduceMul, Nat.reduceSub, Int.reduceToNat, Int.reduceAdd]
  refine opsR_nil ?_
  refine hk7 _ _ ?_
  clear hk7
  refine run_cond rfl (fun ho10 => ?_) (fun ho10 => ?_)
  · have hc10 := ho10; try simp only [spl] at hc10
    refine run_skip ?_
    refine hk6 _ _ ?_
    clear hk6
    refine run_seq fun _ hk11 => ?_
    refine run_block ?_
    refine run_seq fun _ hk12 => ?_
    refine run_region ?_
    refine opsR_q rfl (q_move) ?_
    simp only [nrm]
    refine opsR_q rfl (q_move) ?_
    simp only [nrm]
    refine opsR_index rfl rfl rfl slrA (by rfl) idxA idxA fun b13 o13 cs13 ha13 hr13 he13 => ?_
    simp only [nrm, Nat.reduceAdd, Nat.reduceMul, Nat.reduceSub, Int.reduceToNat, Int.reduceAdd]
    try simp only [Int.toNat_natCast, Int.reduceToNat, Int.toNat_zero] at hr13
    try simp only [Int.toNat_natCast, Int.reduceToNat, Int.toNat_zero] at he13
    clear ha13
    obtain rfl := kTaint.open hr13
    refine opsR_q rfl (q_fieldAddr rfl) ?_
    simp only [nrm, Nat.reduceAdd, Nat.reduceMul, Nat.reduceSub, Int.reduceToNat, Int.reduceAdd]
    refine opsR_q rfl (by first | exact q_load_at1 (i := 0) rfl (by first | assumption | exact El.mono (by assumption) leA) rfl (Nat.le_of_ble_eq_true rfl) rfl | exact q_load_at1 rfl (by first | assumption | exact El.mono (by assumption) leA) rfl (Nat.le_of_ble_eq_true rfl) rfl) ?_
    simp only [nrm, Nat.reduceAdd, Nat.reduceMul, Nat.reduceSub, Int.reduceToNat, Int.reduceAdd]
    refine opsR_q rfl (q_eql rfl rfl) ?_
    simp only [nrm, Nat.reduceAdd, Nat.reduceMul, Nat.reduceSub, Int.reduceToNat, Int.reduceAdd]
    refine opsR_qb rfl (q_move) (fun hc14 => ?_) (fun hc14 => ?_)
    · have ho14 := hc14; try simp only [spl] at hc14
      simp only [nrm, Nat.reduceAdd, Nat.reduceMul, Nat.reduceSub, Int.reduceToNat, Int.reduceAdd]
      refine opsR_q rfl (q_move) ?_
      simp only [nrm]
      refine opsR_q rfl (q_move) ?_
      simp only [nrm]
      refine opsR_q rfl (q_move) ?_
      simp only [nrm]
      refine opsR_index rfl rfl rfl slrA (by rfl) idxA idxA fun b16 o16 cs16 ha16 hr16 he16 => ?_
      simp only [nrm, Nat.reduceAdd, Nat.reduceMul, Nat.reduceSub, Int.reduceToNat, Int.reduceAdd]
      try simp only [Int.toNat_natCast, Int.reduceToNat, Int.toNat_zero] at hr16
      try simp only [Int.toNat_natCast, Int.reduceToNat, Int.toNat_zero] at he16
      clear ha16
      obtain rfl := kTaint.open hr16
      refine opsR_q rfl (by first | exact q_load_atW rfl (by first | assumption | exact El.mono (by assumption) leA) (by rfl) rfl | exact q_load_atN0 rfl (by first | assumption | exact El.mono (by assumption) leA) rfl rfl | exact q_load_atN rfl (by first | assumption | exact El.mono (by assumption) leA) rfl (Nat.le_of_ble_eq_true rfl) (Nat.le_of_ble_eq_true rfl)) ?_
      simp only [nrm, Nat.reduceAdd, Nat.reduceMul, Nat.reduceSub, Int.reduceToNat, Int.reduceAdd]
      refine opsR_q rfl (q_call rfl (refBorne_spec (by first | assumption | (refine Sl.mono ?_ (by assumption); exact leA)))) ?_
      simp only [nrm, Nat.reduceAdd, Nat.reduceMul, Nat.reduceSub, Int.reduceToNat, Int.reduceAdd]
      refine opsR_q rfl (q_not rfl) ?_
      simp only [nrm]
      refine opsR_q rfl (q_pick_t rfl) ?_
      simp only [nrm]
      refine opsR_nil ?_
      refine hk12 _ _ ?_
      clear hk12
      refine run_cond rfl (fun ho17 => ?_) (fun ho17 => ?_)
      · have hc17 := ho17; try simp only [spl] at hc17
        refine run_seq fun _ hk18 => ?_
        have he := filter_first (by omega) hj (openP_yes (by assumption) (by assumption))
        have he1 : keptOf l bs = l[i]! := by rw [keptOf, openOf, he]; rfl
        have he2 : isKept l bs = true := by
          rw [isKept, openOf]
          cases hf : l.filter (openP bs 1) with
          | nil => rw [hf] at he; cases he
          | cons x r => rfl
        rw [he1, he2] at hK
        refine run_region ?_
        refine opsR_q rfl (q_move) ?_
        simp only [nrm]
        refine opsR_q rfl (q_move) ?_
        simp only [nrm]
        refine opsR_index rfl rfl rfl slrA (by rfl) idxA idxA fun b19 o19 cs19 ha19 hr19 he19 => ?_
        simp only [nrm, Nat.reduceAdd, Nat.reduceMul, Nat.reduceSub, Int.reduceToNat, Int.reduceAdd]
        try simp only [Int.toNat_natCast, Int.reduceToNat, Int.toNat_zero] at hr19
        try simp only [Int.toNat_natCast, Int.reduceToNat, Int.toNat_zero] at he19
        clear ha19
        obtain rfl := kTaint.open hr19
        refine opsR_q rfl (by first | exact q_load_atW rfl (by first | assumption | exact El.mono (by assumption) leA) (by rfl) rfl | exact q_load_atN0 rfl (by first | assumption | exact El.mono (by assumption) leA) rfl rfl | exact q_load_atN rfl (by first | assumption | exact El.mono (by assumption) leA) rfl (Nat.le_of_ble_eq_true rfl) (Nat.le_of_ble_eq_true rfl)) ?_
        simp only [nrm, Nat.reduceAdd, Nat.reduceMul, Nat.reduceSub, Int.reduceToNat, Int.reduceAdd]
        refine opsR_o rfl (o_storeB rfl rfl inferInstance (by first | rfl | assumption) (by first | rfl | exact Kd.one _ (by assumption) | assumption) (by first | rfl | (refine Nat.ble_eq_true_of_le ?_; (try simp only [Int.toNat_natCast]); omega)) ?_)
        simp only [nrm, Nat.reduceAdd, Nat.reduceMul, Nat.reduceSub, Int.reduceToNat, Int.reduceAdd]
        refine opsR_q rfl (q_assign) ?_
        simp only [nrm]
        refine opsR_nil ?_
        refine hk18 _ _ ?_
        clear hk18
        refine run_ret ?_
        exact end_cell_tmp rfl rfl rfl (AtB.has inferInstance) (by first | rfl | assumption) rfl ghA hK
      · have hc17 := ho17; try simp only [spl] at hc17
        refine run_skip ?_
        refine hk11 _ _ ?_
        clear hk11
        refine run_region ?_
        refine opsR_q rfl (q_move) ?_
        simp only [nrm]
        refine opsR_q rfl (by first | exact q_add64 rfl rfl (by omega) (by omega) | exact q_add rfl rfl) ?_
        simp only [nrm, Nat.reduceAdd, Nat.reduceMul, Nat.reduceSub, Int.reduceToNat, Int.reduceAdd]
        refine opsR_q rfl (q_assign) ?_
        simp only [nrm]
        refine opsR_nil ?_
        first
        | exact hkl5 _ _ _ _ (by omega) ⟨i + 1, rfl, rfl, rfl, by first | omega | exact all_zero | exact all_succ hj (openP_no1 (by assumption)) | exact all_succ hj (openP_no2 (by assumption)), by first | omega | exact all_zero | exact all_succ hj (openP_no1 (by assumption)) | exact all_succ hj (openP_no2 (by assumption))⟩ rfl
    · have ho14 := hc14; try simp only [spl] at hc14
      simp only [nrm, Nat.reduceAdd, Nat.reduceMul, Nat.reduceSub, Int.reduceToNat, Int.reduceAdd]
      refine opsR_skip rfl ?_
      simp only [nrm, Nat.reduceAdd, Nat.reduceMul, Nat.reduceSub, Int.reduceToNat, Int.reduceAdd]
      refine opsR_skip rfl ?_
      simp only [nrm, Nat.reduceAdd, Nat.reduceMul, Nat.reduceSub, Int.reduceToNat, Int.reduceAdd]
      refine opsR_skip rfl ?_
      simp only [nrm, Nat.reduceAdd, Nat.reduceMul, Nat.reduceSub, Int.reduceToNat, Int.reduceAdd]
      refine opsR_skip rfl ?_
      simp only [nrm, Nat.reduceAdd, Nat.reduceMul, Nat.reduceSub, Int.reduceToNat, Int.reduceAdd]
      refine opsR_skip rfl ?_
      simp only [nrm, Nat.reduceAdd, Nat.reduceMul, Nat.reduceSub, Int.reduceToNat, Int.reduceAdd]
      refine opsR_skip rfl ?_
      simp only [nrm, Nat.reduceAdd, Nat.reduceMul, Nat.reduceSub, Int.reduceToNat, Int.reduceAdd]
      refine opsR_skip rfl ?_
      simp only [nrm, Nat.reduceAdd, Nat.reduceMul, Nat.reduceSub, Int.reduceToNat, Int.reduceAdd]
      refine opsR_q rfl (q_pick_f rfl) ?_
      simp only [nrm]
      refine opsR_nil ?_
      refine hk12 _ _ ?_
      clear hk12
      refine run_cond (t := false) rfl (fun h => by cases h) (fun _ => ?_)
      refine run_skip ?_
      refine hk11 _ _ ?_
      clear hk11
      refine run_region ?_
      refine opsR_q rfl (q_move) ?_
      simp only [nrm]
      refine opsR_q rfl (by first | exact q_add64 rfl rfl (by omega) (by omega) | exact q_add rfl rfl) ?_
      simp only [nrm, Nat.reduceAdd, Nat.reduceMul, Nat.reduceSub, Int.reduceToNat, Int.reduceAdd]
      refine opsR_q rfl (q_assign) ?_
      simp only [nrm]
      refine opsR_nil ?_
      first
      | exact hkl5 _ _ _ _ (by omega) ⟨i + 1, rfl, rfl, rfl, by first | omega | exact all_zero | exact all_succ hj (openP_no1 (by assumption)) | exact all_succ hj (openP_no2 (by assumption)), by first | omega | exact all_zero | exact all_succ hj (openP_no1 (by assumption)) | exact all_succ hj (openP_no2 (by assumption))⟩ rfl
  · have hc10 := ho10; try simp only [spl] at hc10
    refine run_exit ?_
    refine hk3 _ _ ?_
    clear hk3
    refine run_seq fun _ hk20 => ?_
    have he := openOf_none (bs := bs) (e := 1) (fun j h => hj j (by omega))
    simp only [keptOf, isKept, he] at hK
    refine run_region ?_
    refine opsR_q rfl (q_build rfl) ?_
    simp only [nrm, Nat.reduceAdd, Nat.reduceMul, Nat.reduceSub, Int.reduceToNat, Int.reduceAdd]
    refine opsR_o rfl (o_storeB rfl rfl inferInstance (by first | rfl | assumption) (by first | rfl | exact Kd.one _ (by assumption) | assumption) (by first | rfl | (refine Nat.ble_eq_true_of_le ?_; (try simp only [Int.toNat_natCast]); omega)) ?_)
    simp only [nrm, Nat.reduceAdd, Nat.reduceMul, Nat.reduceSub, Int.reduceToNat, Int.reduceAdd]
    refine opsR_q rfl (q_assign) ?_
    simp only [nrm]
    refine opsR_nil ?_
    refine hk20 _ _ ?_
    clear hk20
    refine run_ret ?_
    exact end_cell_tmp rfl rfl rfl (AtB.has inferInstance) (by first | rfl | assumption) rfl ghA hK
end Go.Proofs.YtcnbcblihepbmaaGreatDoor
