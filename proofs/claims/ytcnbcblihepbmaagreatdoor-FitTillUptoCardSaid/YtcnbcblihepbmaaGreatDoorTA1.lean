/- Package taint: what is borne. -/
import Derived.Test.YtcnbcblihepbmaaGreatDoorKd
set_option autoImplicit false
set_option linter.unusedVariables false
set_option linter.unusedSimpArgs false
namespace Go.Proofs.YtcnbcblihepbmaaGreatDoor
open Go Go.RowKit
attribute [local irreducible] Quiet OpsR Run CallS opS Gh endQ oblE RunN swp Go.Op.equalIn
abbrev Bear.v (b : Bear) : Go.Value := .agg #[.string b.Key, .string b.Value, .bool b.Any, .int .i64 b.Effect]
abbrev Taint.v (t : Taint) : Go.Value := .agg #[.string t.Key, .string t.Value, .int .i64 t.Effect]
/-- Is a taint borne? -/
def bearsOf (b : Bear) (t : Taint) : Bool :=
  decide (t = ⟨if b.Any = true ∧ b.Key = ⟨#[]⟩ then t.Key else b.Key, if b.Any = true then t.Value else b.Value, if b.Effect = 0 then t.Effect else b.Effect⟩)
theorem bears_eq {b : Bear} {t : Taint} {k v : ByteArray} {e : Int} (h1 : (if b.Any = true ∧ b.Key = ⟨#[]⟩ then t.Key else b.Key) = k) (h2 : (if b.Any = true then t.Value else b.Value) = v) (h3 : (if b.Effect = 0 then t.Effect else b.Effect) = e) :
    bearsOf b t = decide ((⟨t.Key, t.Value, t.Effect⟩ : Taint) = ⟨k, v, e⟩) := by subst h1; subst h2; subst h3; rfl
theorem bears_all {b : Bear} {t : Taint} (h1 : (if b.Any = true ∧ b.Key = ⟨#[]⟩ then t.Key else b.Key) = t.Key) (h2 : (if b.Any = true then t.Value else b.Value) = t.Value) (h3 : (if b.Effect = 0 then t.Effect else b.Effect) = t.Effect) : bearsOf b t = decide True := by
  rw [bears_eq h1 h2 h3]; simp
theorem Bears_spec (b : Bear) (t : Taint) (s : St) : CallV Tryz.prog 89 #[b.v, t.v] s (.bool (bearsOf b t)) := by
  intro K hK
  refine callS_of_run Tryz.func89 rfl ?_; simp only [Tryz.ntmps89, List.size_toArray, List.length_cons, List.length_nil, Nat.reduceAdd, Nat.reduceSub, Array.replicate_succ, Array.replicate_zero, List.push_toArray, List.append_toArray, List.nil_append, List.cons_append]
  refine run_seq fun _ hk1 => ?_
  refine run_region ?_
  refine opsR_o rfl (o_box fun b2 hb2 => ?_)
  simp only [nrm, Nat.reduceAdd, Nat.reduceMul, Nat.reduceSub, Int.reduceToNat, Int.reduceAdd]
  refine opsR_o rfl (o_box fun b3 hb3 => ?_)
  simp only [nrm, Nat.reduceAdd, Nat.reduceMul, Nat.reduceSub, Int.reduceToNat, Int.reduceAdd]
  refine opsR_q rfl (q_assign) ?_
  simp only [nrm]
  refine opsR_nil ?_
  refine hk1 _ _ ?_
  clear hk1
  refine run_seq fun _ hk4 => ?_
  refine run_seq fun _ hk5 => ?_
  refine run_region ?_
  refine opsR_q rfl (q_fieldAddr rfl) ?_
  simp only [nrm, Nat.reduceAdd, Nat.reduceMul, Nat.reduceSub, Int.reduceToNat, Int.reduceAdd]
  refine opsR_q rfl (q_loadB1 rfl inferInstance rfl) ?_
  simp only [nrm, Nat.reduceAdd, Nat.reduceMul, Nat.reduceSub, Int.reduceToNat, Int.reduceAdd]
  refine opsR_nil ?_
  refine hk5 _ _ ?_
  clear hk5
  refine run_cond rfl (fun ho7 => ?_) (fun ho7 => ?_)
  · have hc7 := ho7; try simp only [spl] at hc7
    refine run_seq fun _ hk8 => ?_
    refine run_region ?_
    refine opsR_q rfl (q_fieldAddr rfl) ?_
    simp only [nrm, Nat.reduceAdd, Nat.reduceMul, Nat.reduceSub, Int.reduceToNat, Int.reduceAdd]
    refine opsR_q rfl (q_loadB1 rfl inferInstance rfl) ?_
    simp only [nrm, Nat.reduceAdd, Nat.reduceMul, Nat.reduceSub, Int.reduceToNat, Int.reduceAdd]
    refine opsR_q rfl (q_fieldAddr rfl) ?_
    simp only [nrm, Nat.reduceAdd, Nat.reduceMul, Nat.reduceSub, Int.reduceToNat, Int.reduceAdd]
    refine opsR_o rfl (o_storeB rfl rfl inferInstance (by first | rfl | assumption) (by first | rfl | exact Kd.one _ (by assumption) | assumption) (by first | rfl | (refine Nat.ble_eq_true_of_le ?_; (try simp only [Int.toNat_natCast]); omega)) ?_)
    simp only [nrm, Nat.reduceAdd, Nat.reduceMul, Nat.reduceSub, Int.reduceToNat, Int.reduceAdd]
    refine opsR_nil ?_
    refine hk8 _ _ ?_
    clear hk8
    refine run_seq fun _ hk10 => ?_
    refine run_region ?_
    refine opsR_q rfl (q_fieldAddr rfl) ?_
    simp only [nrm, Nat.reduceAdd, Nat.reduceMul, Nat.reduceSub, Int.reduceToNat, Int.reduceAdd]
    refine opsR_q rfl (q_loadB1 rfl inferInstance rfl) ?_
    simp only [nrm, Nat.reduceAdd, Nat.reduceMul, Nat.reduceSub, Int.reduceToNat, Int.reduceAdd]
    refine opsR_q rfl (q_eql_string rfl rfl) ?_
    simp only [nrm, Nat.reduceAdd, Nat.reduceMul, Nat.reduceSub, Int.reduceToNat, Int.reduceAdd]
    refine opsR_nil ?_
    refine hk10 _ _ ?_
    clear hk10
    refine run_cond rfl (fun ho11 => ?_) (fun ho11 => ?_)
    · have hc11 := ho11; try simp only [spl] at hc11
      refine run_region ?_
      refine opsR_q rfl (q_fieldAddr rfl) ?_
      simp only [nrm, Nat.reduceAdd, Nat.reduceMul, Nat.reduceSub, Int.reduceToNat, Int.reduceAdd]
      refine opsR_q rfl (q_loadB1 rfl inferInstance rfl) ?_
      simp only [nrm, Nat.reduceAdd, Nat.reduceMul, Nat.reduceSub, Int.reduceToNat, Int.reduceAdd]
      refine opsR_q rfl (q_fieldAddr rfl) ?_
      simp only [nrm, Nat.reduceAdd, Nat.reduceMul, Nat.reduceSub, Int.reduceToNat, Int.reduceAdd]
      refine opsR_o rfl (o_storeB rfl rfl inferInstance (by first | rfl | assumption) (by first | rfl | exact Kd.one _ (by assumption) | assumption) (by first | rfl | (refine Nat.ble_eq_true_of_le ?_; (try simp only [Int.toNat_natCast]); omega)) ?_)
      simp only [nrm, Nat.reduceAdd, Nat.reduceMul, Nat.reduceSub, Int.reduceToNat, Int.reduceAdd]
      refine opsR_nil ?_
      refine hk4 _ _ ?_
      clear hk4
      refine run_seq fun _ hk12 => ?_
      refine run_seq fun _ hk13 => ?_
      refine run_region ?_
      refine opsR_q rfl (q_fieldAddr rfl) ?_
      simp only [nrm, Nat.reduceAdd, Nat.reduceMul, Nat.reduceSub, Int.reduceToNat, Int.reduceAdd]
      refine opsR_q rfl (q_loadB1 rfl inferInstance rfl) ?_
      simp only [nrm, Nat.reduceAdd, Nat.reduceMul, Nat.reduceSub, Int.reduceToNat, Int.reduceAdd]
      refine opsR_q rfl (q_eql rfl rfl) ?_
      simp only [nrm, Nat.reduceAdd, Nat.reduceMul, Nat.reduceSub, Int.reduceToNat, Int.reduceAdd]
      refine opsR_nil ?_
      refine hk13 _ _ ?_
      clear hk13
      refine run_cond rfl (fun ho14 => ?_) (fun ho14 => ?_)
      · have hc14 := ho14; try simp only [spl] at hc14
        refine run_region ?_
        refine opsR_q rfl (q_fieldAddr rfl) ?_
        simp only [nrm, Nat.reduceAdd, Nat.reduceMul, Nat.reduceSub, Int.reduceToNat, Int.reduceAdd]
        refine opsR_q rfl (q_loadB1 rfl inferInstance rfl) ?_
        simp only [nrm, Nat.reduceAdd, Nat.reduceMul, Nat.reduceSub, Int.reduceToNat, Int.reduceAdd]
        refine opsR_q rfl (q_fieldAddr rfl) ?_
        simp only [nrm, Nat.reduceAdd, Nat.reduceMul, Nat.reduceSub, Int.reduceToNat, Int.reduceAdd]
        refine opsR_o rfl (o_storeB rfl rfl inferInstance (by first | rfl | assumption) (by first | rfl | exact Kd.one _ (by assumption) | assumption) (by first | rfl | (refine Nat.ble_eq_true_of_le ?_; (try simp only [Int.toNat_natCast]); omega)) ?_)
        simp only [nrm, Nat.reduceAdd, Nat.reduceMul, Nat.reduceSub, Int.reduceToNat, Int.reduceAdd]
        refine opsR_nil ?_
        refine hk12 _ _ ?_
        clear hk12
        refine run_seq fun _ hk15 => ?_
        refine run_region ?_
        refine opsR_q rfl (by first | exact q_loadBN rfl inferInstance (by rfl) | exact q_loadBW rfl inferInstance (by assumption)) ?_
        simp only [nrm, Nat.reduceAdd, Nat.reduceMul, Nat.reduceSub, Int.reduceToNat, Int.reduceAdd]
        refine opsR_q rfl (q_fieldAddr rfl) ?_
        simp only [nrm, Nat.reduceAdd, Nat.reduceMul, Nat.reduceSub, Int.reduceToNat, Int.reduceAdd]
        refine opsR_q rfl (q_loadB1 rfl inferInstance rfl) ?_
        simp only [nrm, Nat.reduceAdd, Nat.reduceMul, Nat.reduceSub, Int.reduceToNat, Int.reduceAdd]
        refine opsR_q rfl (q_fieldAddr rfl) ?_
        simp only [nrm, Nat.reduceAdd, Nat.reduceMul, Nat.reduceSub, Int.reduceToNat, Int.reduceAdd]
        refine opsR_q rfl (q_loadB1 rfl inferInstance rfl) ?_
        simp only [nrm, Nat.reduceAdd, Nat.reduceMul, Nat.reduceSub, Int.reduceToNat, Int.reduceAdd]
        refine opsR_q rfl (q_fieldAddr rfl) ?_
        simp only [nrm, Nat.reduceAdd, Nat.reduceMul, Nat.reduceSub, Int.reduceToNat, Int.reduceAdd]
        refine opsR_q rfl (q_loadB1 rfl inferInstance rfl) ?_
        simp only [nrm, Nat.reduceAdd, Nat.reduceMul, Nat.reduceSub, Int.reduceToNat, Int.reduceAdd]
        refine opsR_q rfl (q_build rfl) ?_
        simp only [nrm, Nat.reduceAdd, Nat.reduceMul, Nat.reduceSub, Int.reduceToNat, Int.reduceAdd]
        refine opsR_q rfl (q_eql_agg rfl rfl (fun m K h => kTaint.eqL (m + 6) h)) ?_
        simp only [nrm, Nat.reduceAdd, Nat.reduceMul, Nat.reduceSub, Int.reduceToNat, Int.reduceAdd]
        refine opsR_q rfl (q_assign) ?_
        simp only [nrm]
        refine opsR_nil ?_
        refine hk15 _ _ ?_
        clear hk15
        refine run_ret ?_
        first | (refine end_tmp rfl rfl rfl (by exact ghA) (eqK hK (congrArg Go.Value.bool (bears_eq ?_ ?_ ?_))) <;> (first | exact if_pos (by assumption) | exact if_neg (by assumption) | exact if_pos (And.intro (by assumption) (by assumption)) | exact if_neg (fun h => absurd (And.right h) (by assumption)) | exact if_neg (fun h => absurd (And.left h) (by rw [show b.Any = false by assumption]; decide)) | exact if_pos (by assumption) | exact if_neg (by rw [show b.Any = false by assumption]; decide) | exact if_neg (by assumption))) | (refine end_tmp rfl rfl rfl (by exact ghA) (eqK hK (congrArg Go.Value.bool (bears_all ?_ ?_ ?_))) <;> (first | exact if_pos (by assumption) | exact if_neg (by assumption) | exact if_pos (And.intro (by assumption) (by assumption)) | exact if_neg (fun h => absurd (And.right h) (by assumption)) | exact if_neg (fun h => absurd (And.left h) (by rw [show b.Any = false by assumption]; decide)) | exact if_pos (by assumption) | exact if_neg (by rw [show b.Any = false by assumption]; decide) | exact if_neg (by assumption)))
      · have hc14 := ho14; try simp only [spl] at hc14
        refine run_skip ?_
        refine hk12 _ _ ?_
        clear hk12
        refine run_seq fun _ hk17 => ?_
        refine run_region ?_
        refine opsR_q rfl (by first | exact q_loadBN rfl inferInstance (by rfl) | exact q_loadBW rfl inferInstance (by assumption)) ?_
        simp only [nrm, Nat.reduceAdd, Nat.reduceMul, Nat.reduceSub, Int.reduceToNat, Int.reduceAdd]
        refine opsR_q rfl (q_fieldAddr rfl) ?_
        simp only [nrm, Nat.reduceAdd, Nat.reduceMul, Nat.reduceSub, Int.reduceToNat, Int.reduceAdd]
        refine opsR_q rfl (q_loadB1 rfl inferInstance rfl) ?_
        simp only [nrm, Nat.reduceAdd, Nat.reduceMul, Nat.reduceSub, Int.reduceToNat, Int.reduceAdd]
        refine opsR_q rfl (q_fieldAddr rfl) ?_
        simp only [nrm, Nat.reduceAdd, Nat.reduceMul, Nat.reduceSub, Int.reduceToNat, Int.reduceAdd]
        refine opsR_q rfl (q_loadB1 rfl inferInstance rfl) ?_
        simp only [nrm, Nat.reduceAdd, Nat.reduceMul, Nat.reduceSub, Int.reduceToNat, Int.reduceAdd]
        refine opsR_q rfl (q_fieldAddr rfl) ?_
        simp only [nrm, Nat.reduceAdd, Nat.reduceMul, Nat.reduceSub, Int.reduceToNat, Int.reduceAdd]
        refine opsR_q rfl (q_loadB1 rfl inferInstance rfl) ?_
        simp only [nrm, Nat.reduceAdd, Nat.reduceMul, Nat.reduceSub, Int.reduceToNat, Int.reduceAdd]
        refine opsR_q rfl (q_build rfl) ?_
        simp only [nrm, Nat.reduceAdd, Nat.reduceMul, Nat.reduceSub, Int.reduceToNat, Int.reduceAdd]
        refine opsR_q rfl (q_eql_agg rfl rfl (fun m K h => kTaint.eqL (m + 6) h)) ?_
        simp only [nrm, Nat.reduceAdd, Nat.reduceMul, Nat.reduceSub, Int.reduceToNat, Int.reduceAdd]
        refine opsR_q rfl (q_assign) ?_
        simp only [nrm]
        refine opsR_nil ?_
        refine hk17 _ _ ?_
        clear hk17
        refine run_ret ?_
        first | (refine end_tmp rfl rfl rfl (by exact ghA) (eqK hK (congrArg Go.Value.bool (bears_eq ?_ ?_ ?_))) <;> (first | exact if_pos (by assumption) | exact if_neg (by assumption) | exact if_pos (And.intro (by assumption) (by assumption)) | exact if_neg (fun h => absurd (And.right h) (by assumption)) | exact if_neg (fun h => absurd (And.left h) (by rw [show b.Any = false by assumption]; decide)) | exact if_pos (by assumption) | exact if_neg (by rw [show b.Any = false by assumption]; decide) | exact if_neg (by assumption))) | (refine end_tmp rfl rfl rfl (by exact ghA) (eqK hK (congrArg Go.Value.bool (bears_all ?_ ?_ ?_))) <;> (first | exact if_pos (by assumption) | exact if_neg (by assumption) | exact if_pos (And.intro (by assumption) (by assumption)) | exact if_neg (fun h => absurd (And.right h) (by assumption)) | exact if_neg (fun h => absurd (And.left h) (by rw [show b.Any = false by assumption]; decide)) | exact if_pos (by assumption) | exact if_neg (by rw [show b.Any = false by assumption]; decide) | exact if_neg (by assumption)))
    · have hc11 := ho11; try simp only [spl] at hc11
      refine run_skip ?_
      refine hk4 _ _ ?_
      clear hk4
      refine run_seq fun _ hk19 => ?_
      refine run_seq fun _ hk20 => ?_
      refine run_region ?_
      refine opsR_q rfl (q_fieldAddr rfl) ?_
      simp only [nrm, Nat.reduceAdd, Nat.reduceMul, Nat.reduceSub, Int.reduceToNat, Int.reduceAdd]
      refine opsR_q rfl (q_loadB1 rfl inferInstance rfl) ?_
      simp only [nrm, Nat.reduceAdd, Nat.reduceMul, Nat.reduceSub, Int.reduceToNat, Int.reduceAdd]
      refine opsR_q rfl (q_eql rfl rfl) ?_
      simp only [nrm, Nat.reduceAdd, Nat.reduceMul, Nat.reduceSub, Int.reduceToNat, Int.reduceAdd]
      refine opsR_nil ?_
      refine hk20 _ _ ?_
      clear hk20
      refine run_cond rfl (fun ho21 => ?_) (fun ho21 => ?_)
      · have hc21 := ho21; try simp only [spl] at hc21
        refine run_region ?_
        refine opsR_q rfl (q_fieldAddr rfl) ?_
        simp only [nrm, Nat.reduceAdd, Nat.reduceMul, Nat.reduceSub, Int.reduceToNat, Int.reduceAdd]
        refine opsR_q rfl (q_loadB1 rfl inferInstance rfl) ?_
        simp only [nrm, Nat.reduceAdd, Nat.reduceMul, Nat.reduceSub, Int.reduceToNat, Int.reduceAdd]
        refine opsR_q rfl (q_fieldAddr rfl) ?_
        simp only [nrm, Nat.reduceAdd, Nat.reduceMul, Nat.reduceSub, Int.reduceToNat, Int.reduceAdd]
        refine opsR_o rfl (o_storeB rfl rfl inferInstance (by first | rfl | assumption) (by first | rfl | exact Kd.one _ (by assumption) | assumption) (by first | rfl | (refine Nat.ble_eq_true_of_le ?_; (try simp only [Int.toNat_natCast]); omega)) ?_)
        simp only [nrm, Nat.reduceAdd, Nat.reduceMul, Nat.reduceSub, Int.reduceToNat, Int.reduceAdd]
        refine opsR_nil ?_
        refine hk19 _ _ ?_
        clear hk19
        refine run_seq fun _ hk22 => ?_
        refine run_region ?_
        refine opsR_q rfl (by first | exact q_loadBN rfl inferInstance (by rfl) | exact q_loadBW rfl inferInstance (by assumption)) ?_
        simp only [nrm, Nat.reduceAdd, Nat.reduceMul, Nat.reduceSub, Int.reduceToNat, Int.reduceAdd]
        refine opsR_q rfl (q_fieldAddr rfl) ?_
        simp only [nrm, Nat.reduceAdd, Nat.reduceMul, Nat.reduceSub, Int.reduceToNat, Int.reduceAdd]
        refine opsR_q rfl (q_loadB1 rfl inferInstance rfl) ?_
        simp only [nrm, Nat.reduceAdd, Nat.reduceMul, Nat.reduceSub, Int.reduceToNat, Int.reduceAdd]
        refine opsR_q rfl (q_fieldAddr rfl) ?_
        simp only [nrm, Nat.reduceAdd, Nat.reduceMul, Nat.reduceSub, Int.reduceToNat, Int.reduceAdd]
        refine opsR_q rfl (q_loadB1 rfl inferInstance rfl) ?_
        simp only [nrm, Nat.reduceAdd, Nat.reduceMul, Nat.reduceSub, Int.reduceToNat, Int.reduceAdd]
        refine opsR_q rfl (q_fieldAddr rfl) ?_
        simp only [nrm, Nat.reduceAdd, Nat.reduceMul, Nat.reduceSub, Int.reduceToNat, Int.reduceAdd]
        refine opsR_q rfl (q_loadB1 rfl inferInstance rfl) ?_
        simp only [nrm, Nat.reduceAdd, Nat.reduceMul, Nat.reduceSub, Int.reduceToNat, Int.reduceAdd]
        refine opsR_q rfl (q_build rfl) ?_
        simp only [nrm, Nat.reduceAdd, Nat.reduceMul, Nat.reduceSub, Int.reduceToNat, Int.reduceAdd]
        refine opsR_q rfl (q_eql_agg rfl rfl (fun m K h => kTaint.eqL (m + 6) h)) ?_
        simp only [nrm, Nat.reduceAdd, Nat.reduceMul, Nat.reduceSub, Int.reduceToNat, Int.reduceAdd]
        refine opsR_q rfl (q_assign) ?_
        simp only [nrm]
        refine opsR_nil ?_
        refine hk22 _ _ ?_
        clear hk22
        refine run_ret ?_
        first | (refine end_tmp rfl rfl rfl (by exact ghA) (eqK hK (congrArg Go.Value.bool (bears_eq ?_ ?_ ?_))) <;> (first | exact if_pos (by assumption) | exact if_neg (by assumption) | exact if_pos (And.intro (by assumption) (by assumption)) | exact if_neg (fun h => absurd (And.right h) (by assumption)) | exact if_neg (fun h => absurd (And.left h) (by rw [show b.Any = false by assumption]; decide)) | exact if_pos (by assumption) | exact if_neg (by rw [show b.Any = false by assumption]; decide) | exact if_neg (by assumption))) | (refine end_tmp rfl rfl rfl (by exact ghA) (eqK hK (congrArg Go.Value.bool (bears_all ?_ ?_ ?_))) <;> (first | exact if_pos (by assumption) | exact if_neg (by assumption) | exact if_pos (And.intro (by assumption) (by assumption)) | exact if_neg (fun h => absurd (And.right h) (by assumption)) | exact if_neg (fun h => absurd (And.left h) (by rw [show b.Any = false by assumption]; decide)) | exact if_pos (by assumption) | exact if_neg (by rw [show b.Any = false by assumption]; decide) | exact if_neg (by assumption)))
      · have hc21 := ho21; try simp only [spl] at hc21
        refine run_skip ?_
        refine hk19 _ _ ?_
        clear hk19
        refine run_seq fun _ hk24 => ?_
        refine run_region ?_
        refine opsR_q rfl (by first | exact q_loadBN rfl inferInstance (by rfl) | exact q_loadBW rfl inferInstance (by assumption)) ?_
        simp only [nrm, Nat.reduceAdd, Nat.reduceMul, Nat.reduceSub, Int.reduceToNat, Int.reduceAdd]
        refine opsR_q rfl (q_fieldAddr rfl) ?_
        simp only [nrm, Nat.reduceAdd, Nat.reduceMul, Nat.reduceSub, Int.reduceToNat, Int.reduceAdd]
        refine opsR_q rfl (q_loadB1 rfl inferInstance rfl) ?_
        simp only [nrm, Nat.reduceAdd, Nat.reduceMul, Nat.reduceSub, Int.reduceToNat, Int.reduceAdd]
        refine opsR_q rfl (q_fieldAddr rfl) ?_
        simp only [nrm, Nat.reduceAdd, Nat.reduceMul, Nat.reduceSub, Int.reduceToNat, Int.reduceAdd]
        refine opsR_q rfl (q_loadB1 rfl inferInstance rfl) ?_
        simp only [nrm, Nat.reduceAdd, Nat.reduceMul, Nat.reduceSub, Int.reduceToNat, Int.reduceAdd]
        refine opsR_q rfl (q_fieldAddr rfl) ?_
        simp only [nrm, Nat.reduceAdd, Nat.reduceMul, Nat.reduceSub, Int.reduceToNat, Int.reduceAdd]
        refine opsR_q rfl (q_loadB1 rfl inferInstance rfl) ?_
        simp only [nrm, Nat.reduceAdd, Nat.reduceMul, Nat.reduceSub, Int.reduceToNat, Int.reduceAdd]
        refine opsR_q rfl (q_build rfl) ?_
        simp only [nrm, Nat.reduceAdd, Nat.reduceMul, Nat.reduceSub, Int.reduceToNat, Int.reduceAdd]
        refine opsR_q rfl (q_eql_agg rfl rfl (fun m K h => kTaint.eqL (m + 6) h)) ?_
        simp only [nrm, Nat.reduceAdd, Nat.reduceMul, Nat.reduceSub, Int.reduceToNat, Int.reduceAdd]
        refine opsR_q rfl (q_assign) ?_
        simp only [nrm]
        refine opsR_nil ?_
        refine hk24 _ _ ?_
        clear hk24
        refine run_ret ?_
        first | (refine end_tmp rfl rfl rfl (by exact ghA) (eqK hK (congrArg Go.Value.bool (bears_eq ?_ ?_ ?_))) <;> (first | exact if_pos (by assumption) | exact if_neg (by assumption) | exact if_pos (And.intro (by assumption) (by assumption)) | exact if_neg (fun h => absurd (And.right h) (by assumption)) | exact if_neg (fun h => absurd (And.left h) (by rw [show b.Any = false by assumption]; decide)) | exact if_pos (by assumption) | exact if_neg (by rw [show b.Any = false by assumption]; decide) | exact if_neg (by assumption))) | (refine end_tmp rfl rfl rfl (by exact ghA) (eqK hK (congrArg Go.Value.bool (bears_all ?_ ?_ ?_))) <;> (first | exact if_pos (by assumption) | exact if_neg (by assumption) | exact if_pos (And.intro (by assumption) (by assumption)) | exact if_neg (fun h => absurd (And.right h) (by assumption)) | exact if_neg (fun h => absurd (And.left h) (by rw [show b.Any = false by assumption]; decide)) | exact if_pos (by assumption) | exact if_neg (by rw [show b.Any = false by assumption]; decide) | exact if_neg (by assumption)))
  · have hc7 := ho7; try simp only [spl] at hc7
    refine run_skip ?_
    refine hk4 _ _ ?_
    clear hk4
    refine run_seq fun _ hk26 => ?_
    refine run_seq fun _ hk27 => ?_
    refine run_region ?_
    refine opsR_q rfl (q_fieldAddr rfl) ?_
    simp only [nrm, Nat.reduceAdd, Nat.reduceMul, Nat.reduceSub, Int.reduceToNat, Int.reduceAdd]
    refine opsR_q rfl (q_loadB1 rfl inferInstance rfl) ?_
    simp only [nrm, Nat.reduceAdd, Nat.reduceMul, Nat.reduceSub, Int.reduceToNat, Int.reduceAdd]
    refine opsR_q rfl (q_eql rfl rfl) ?_
    simp only [nrm, Nat.reduceAdd, Nat.reduceMul, Nat.reduceSub, Int.reduceToNat, Int.reduceAdd]
    refine opsR_nil ?_
    refine hk27 _ _ ?_
    clear hk27
    refine run_cond rfl (fun ho28 => ?_) (fun ho28 => ?_)
    · have hc28 := ho28; try simp only [spl] at hc28
      refine run_region ?_
      refine opsR_q rfl (q_fieldAddr rfl) ?_
      simp only [nrm, Nat.reduceAdd, Nat.reduceMul, Nat.reduceSub, Int.reduceToNat, Int.reduceAdd]
      refine opsR_q rfl (q_loadB1 rfl inferInstance rfl) ?_
      simp only [nrm, Nat.reduceAdd, Nat.reduceMul, Nat.reduceSub, Int.reduceToNat, Int.reduceAdd]
      refine opsR_q rfl (q_fieldAddr rfl) ?_
      simp only [nrm, Nat.reduceAdd, Nat.reduceMul, Nat.reduceSub, Int.reduceToNat, Int.reduceAdd]
      refine opsR_o rfl (o_storeB rfl rfl inferInstance (by first | rfl | assumption) (by first | rfl | exact Kd.one _ (by assumption) | assumption) (by first | rfl | (refine Nat.ble_eq_true_of_le ?_; (try simp only [Int.toNat_natCast]); omega)) ?_)
      simp only [nrm, Nat.reduceAdd, Nat.reduceMul, Nat.reduceSub, Int.reduceToNat, Int.reduceAdd]
      refine opsR_nil ?_
      refine hk26 _ _ ?_
      clear hk26
      refine run_seq fun _ hk30 => ?_
      refine run_region ?_
      refine opsR_q rfl (by first | exact q_loadBN rfl inferInstance (by rfl) | exact q_loadBW rfl inferInstance (by assumption)) ?_
      simp only [nrm, Nat.reduceAdd, Nat.reduceMul, Nat.reduceSub, Int.reduceToNat, Int.reduceAdd]
      refine opsR_q rfl (q_fieldAddr rfl) ?_
      simp only [nrm, Nat.reduceAdd, Nat.reduceMul, Nat.reduceSub, Int.reduceToNat, Int.reduceAdd]
      refine opsR_q rfl (q_loadB1 rfl inferInstance rfl) ?_
      simp only [nrm, Nat.reduceAdd, Nat.reduceMul, Nat.reduceSub, Int.reduceToNat, Int.reduceAdd]
      refine opsR_q rfl (q_fieldAddr rfl) ?_
      simp only [nrm, Nat.reduceAdd, Nat.reduceMul, Nat.reduceSub, Int.reduceToNat, Int.reduceAdd]
      refine opsR_q rfl (q_loadB1 rfl inferInstance rfl) ?_
      simp only [nrm, Nat.reduceAdd, Nat.reduceMul, Nat.reduceSub, Int.reduceToNat, Int.reduceAdd]
      refine opsR_q rfl (q_fieldAddr rfl) ?_
      simp only [nrm, Nat.reduceAdd, Nat.reduceMul, Nat.reduceSub, Int.reduceToNat, Int.reduceAdd]
      refine opsR_q rfl (q_loadB1 rfl inferInstance rfl) ?_
      simp only [nrm, Nat.reduceAdd, Nat.reduceMul, Nat.reduceSub, Int.reduceToNat, Int.reduceAdd]
      refine opsR_q rfl (q_build rfl) ?_
      simp only [nrm, Nat.reduceAdd, Nat.reduceMul, Nat.reduceSub, Int.reduceToNat, Int.reduceAdd]
      refine opsR_q rfl (q_eql_agg rfl rfl (fun m K h => kTaint.eqL (m + 6) h)) ?_
      simp only [nrm, Nat.reduceAdd, Nat.reduceMul, Nat.reduceSub, Int.reduceToNat, Int.reduceAdd]
      refine opsR_q rfl (q_assign) ?_
      simp only [nrm]
      refine opsR_nil ?_
      refine hk30 _ _ ?_
      clear hk30
      refine run_ret ?_
      first | (refine end_tmp rfl rfl rfl (by exact ghA) (eqK hK (congrArg Go.Value.bool (bears_eq ?_ ?_ ?_))) <;> (first | exact if_pos (by assumption) | exact if_neg (by assumption) | exact if_pos (And.intro (by assumption) (by assumption)) | exact if_neg (fun h => absurd (And.right h) (by assumption)) | exact if_neg (fun h => absurd (And.left h) (by rw [show b.Any = false by assumption]; decide)) | exact if_pos (by assumption) | exact if_neg (by rw [show b.Any = false by assumption]; decide) | exact if_neg (by assumption))) | (refine end_tmp rfl rfl rfl (by exact ghA) (eqK hK (congrArg Go.Value.bool (bears_all ?_ ?_ ?_))) <;> (first | exact if_pos (by assumption) | exact if_neg (by assumption) | exact if_pos (And.intro (by assumption) (by assumption)) | exact if_neg (fun h => absurd (And.right h) (by assumption)) | exact if_neg (fun h => absurd (And.left h) (by rw [show b.Any = false by assumption]; decide)) | exact if_pos (by assumption) | exact if_neg (by rw [show b.Any = false by assumption]; decide) | exact if_neg (by assumption)))
    · have hc28 := ho28; try simp only [spl] at hc28
      refine run_skip ?_
      refine hk26 _ _ ?_
      clear hk26
      refine run_seq fun _ hk32 => ?_
      refine run_region ?_
      refine opsR_q rfl (by first | exact q_loadBN rfl inferInstance (by rfl) | exact q_loadBW rfl inferInstance (by assumption)) ?_
      simp only [nrm, Nat.reduceAdd, Nat.reduceMul, Nat.reduceSub, Int.reduceToNat, Int.reduceAdd]
      refine opsR_q rfl (q_fieldAddr rfl) ?_
      simp only [nrm, Nat.reduceAdd, Nat.reduceMul, Nat.reduceSub, Int.reduceToNat, Int.reduceAdd]
      refine opsR_q rfl (q_loadB1 rfl inferInstance rfl) ?_
      simp only [nrm, Nat.reduceAdd, Nat.reduceMul, Nat.reduceSub, Int.reduceToNat, Int.reduceAdd]
      refine opsR_q rfl (q_fieldAddr rfl) ?_
      simp only [nrm, Nat.reduceAdd, Nat.reduceMul, Nat.reduceSub, Int.reduceToNat, Int.reduceAdd]
      refine opsR_q rfl (q_loadB1 rfl inferInstance rfl) ?_
      simp only [nrm, Nat.reduceAdd, Nat.reduceMul, Nat.reduceSub, Int.reduceToNat, Int.reduceAdd]
      refine opsR_q rfl (q_fieldAddr rfl) ?_
      simp only [nrm, Nat.reduceAdd, Nat.reduceMul, Nat.reduceSub, Int.reduceToNat, Int.reduceAdd]
      refine opsR_q rfl (q_loadB1 rfl inferInstance rfl) ?_
      simp only [nrm, Nat.reduceAdd, Nat.reduceMul, Nat.reduceSub, Int.reduceToNat, Int.reduceAdd]
      refine opsR_q rfl (q_build rfl) ?_
      simp only [nrm, Nat.reduceAdd, Nat.reduceMul, Nat.reduceSub, Int.reduceToNat, Int.reduceAdd]
      refine opsR_q rfl (q_eql_agg rfl rfl (fun m K h => kTaint.eqL (m + 6) h)) ?_
      simp only [nrm, Nat.reduceAdd, Nat.reduceMul, Nat.reduceSub, Int.reduceToNat, Int.reduceAdd]
      refine opsR_q rfl (q_assign) ?_
      simp only [nrm]
      refine opsR_nil ?_
      refine hk32 _ _ ?_
      clear hk32
      refine run_ret ?_
      first | (refine end_tmp rfl rfl rfl (by exact ghA) (eqK hK (congrArg Go.Value.bool (bears_eq ?_ ?_ ?_))) <;> (first | exact if_pos (by assumption) | exact if_neg (by assumption) | exact if_pos (And.intro (by assumption) (by assumption)) | exact if_neg (fun h => absurd (And.right h) (by assumption)) | exact if_neg (fun h => absurd (And.left h) (by rw [show b.Any = false by assumption]; decide)) | exact if_pos (by assumption) | exact if_neg (by rw [show b.Any = false by assumption]; decide) | exact if_neg (by assumption))) | (refine end_tmp rfl rfl rfl (by exact ghA) (eqK hK (congrArg Go.Value.bool (bears_all ?_ ?_ ?_))) <;> (first | exact if_pos (by assumption) | exact if_neg (by assumption) | exact if_pos (And.intro (by assumption) (by assumption)) | exact if_neg (fun h => absurd (And.right h) (by assumption)) | exact if_neg (fun h => absurd (And.left h) (by rw [show b.Any = false by assumption]; decide)) | exact if_pos (by assumption) | exact if_neg (by rw [show b.Any = false by assumption]; decide) | exact if_neg (by assumption)))
end Go.Proofs.YtcnbcblihepbmaaGreatDoor
