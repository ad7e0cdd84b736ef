/- Package quant: shares of amounts. -/
import Derived.Test.YtopimbpclgejhaaGreatDoorQ
import Derived.Test.YtopimbpclgejhaaGreatDoorS10
set_option autoImplicit false
set_option linter.unusedVariables false
set_option linter.unusedSimpArgs false
namespace Go.Proofs.YtopimbpclgejhaaGreatDoor
open Go Go.RowKit
attribute [local irreducible] Quiet OpsR Run CallS opS Gh endQ oblE RunN
def Q.share (a o sc : Int) : Int := if Q.clamp o = 0 then 0 else min (min (max sc 0) 1000) (Q.clamp a * min (max sc 0) 1000 / Q.clamp o)
theorem Q.share_bd (a o sc : Int) : 0 ≤ Q.share a o sc ∧ Q.share a o sc ≤ min (max sc 0) 1000 := by
  unfold Q.share
  have h1 := Q.clamp_lo a; have h2 := Q.clamp_lo o
  split
  · omega
  · have : 0 ≤ Q.clamp a * min (max sc 0) 1000 / Q.clamp o := Int.ediv_nonneg (Int.mul_nonneg h1 (by omega)) h2
    omega
theorem Share_spec (a o sc : Int) (s : St) : CallV Tryz.prog 46 #[.int .i64 a, .int .i64 o, .int .i64 sc] s (.int .i64 (Q.share a o sc)) := by
  intro K hK
  have h1 := Q.clamp_lo a; have h2 := Q.clamp_hi a; have h3 := Q.clamp_lo o; have h4 := Q.clamp_hi o
  have h5 : 0 ≤ Q.clamp a * min (max sc 0) 1000 := Int.mul_nonneg h1 (by omega)
  have h6 : Q.clamp a * min (max sc 0) 1000 ≤ 1125899906842624 * 1000 := Int.mul_le_mul h2 (by omega) (by omega) (by omega)
  refine callS_of_run Tryz.func46 rfl ?_; simp only [Tryz.ntmps46, List.size_toArray, List.length_cons, List.length_nil, Nat.reduceAdd, Nat.reduceSub, Array.replicate_succ, Array.replicate_zero, List.push_toArray, List.append_toArray, List.nil_append, List.cons_append]
  refine run_seq fun _ hk1 => ?_
  refine run_region ?_
  refine opsR_q rfl (q_assign) ?_
  simp only [nrm, Nat.reduceAdd, Nat.reduceMul, Nat.reduceSub, Int.reduceToNat, Int.reduceAdd]
  refine opsR_nil ?_
  refine hk1 _ _ ?_
  clear hk1
  refine run_seq fun _ hk2 => ?_
  refine run_region ?_
  refine opsR_q rfl (q_move) ?_
  simp only [nrm, Nat.reduceAdd, Nat.reduceMul, Nat.reduceSub, Int.reduceToNat, Int.reduceAdd]
  refine opsR_q rfl (q_max rfl rfl) ?_
  simp only [nrm, Nat.reduceAdd, Nat.reduceMul, Nat.reduceSub, Int.reduceToNat, Int.reduceAdd]
  refine opsR_q rfl (q_min rfl rfl) ?_
  simp only [nrm, Nat.reduceAdd, Nat.reduceMul, Nat.reduceSub, Int.reduceToNat, Int.reduceAdd]
  refine opsR_q rfl (q_assign) ?_
  simp only [nrm, Nat.reduceAdd, Nat.reduceMul, Nat.reduceSub, Int.reduceToNat, Int.reduceAdd]
  refine opsR_nil ?_
  refine hk2 _ _ ?_
  clear hk2
  refine run_seq fun _ hk4 => ?_
  refine run_seq fun _ hk5 => ?_
  refine run_region ?_
  refine opsR_q rfl (q_move) ?_
  simp only [nrm, Nat.reduceAdd, Nat.reduceMul, Nat.reduceSub, Int.reduceToNat, Int.reduceAdd]
  refine opsR_q rfl (q_call rfl (clamp_spec _ _)) ?_
  simp only [nrm, Nat.reduceAdd, Nat.reduceMul, Nat.reduceSub, Int.reduceToNat, Int.reduceAdd]
  refine opsR_q rfl (q_eql rfl rfl) ?_
  simp only [nrm, Nat.reduceAdd, Nat.reduceMul, Nat.reduceSub, Int.reduceToNat, Int.reduceAdd]
  refine opsR_nil ?_
  refine hk5 _ _ ?_
  clear hk5
  refine run_cond rfl (fun ho7 => ?_) (fun ho7 => ?_)
  · have hc7 := ho7; try simp only [spl] at hc7
    refine run_seq fun _ hk8 => ?_
    refine run_region ?_
    refine opsR_q rfl (q_assign) ?_
    simp only [nrm, Nat.reduceAdd, Nat.reduceMul, Nat.reduceSub, Int.reduceToNat, Int.reduceAdd]
    refine opsR_nil ?_
    refine hk8 _ _ ?_
    clear hk8
    refine run_ret ?_
    exact end_tmp rfl rfl rfl .refl (by rw [Q.share, if_pos (by assumption)] at hK; exact hK)
  · have hc7 := ho7; try simp only [spl] at hc7
    refine run_skip ?_
    refine hk4 _ _ ?_
    clear hk4
    refine run_seq fun _ hk9 => ?_
    refine run_region ?_
    refine opsR_q rfl (q_move) ?_
    simp only [nrm, Nat.reduceAdd, Nat.reduceMul, Nat.reduceSub, Int.reduceToNat, Int.reduceAdd]
    refine opsR_q rfl (q_move) ?_
    simp only [nrm, Nat.reduceAdd, Nat.reduceMul, Nat.reduceSub, Int.reduceToNat, Int.reduceAdd]
    refine opsR_q rfl (q_call rfl (clamp_spec _ _)) ?_
    simp only [nrm, Nat.reduceAdd, Nat.reduceMul, Nat.reduceSub, Int.reduceToNat, Int.reduceAdd]
    refine opsR_q rfl (q_move) ?_
    simp only [nrm, Nat.reduceAdd, Nat.reduceMul, Nat.reduceSub, Int.reduceToNat, Int.reduceAdd]
    refine opsR_q rfl (by first | exact q_mul64 rfl rfl (by omega) (by omega) | exact q_mul rfl rfl) ?_
    simp only [nrm, Nat.reduceAdd, Nat.reduceMul, Nat.reduceSub, Int.reduceToNat, Int.reduceAdd]
    refine opsR_q rfl (q_move) ?_
    simp only [nrm, Nat.reduceAdd, Nat.reduceMul, Nat.reduceSub, Int.reduceToNat, Int.reduceAdd]
    refine opsR_q rfl (q_call rfl (clamp_spec _ _)) ?_
    simp only [nrm, Nat.reduceAdd, Nat.reduceMul, Nat.reduceSub, Int.reduceToNat, Int.reduceAdd]
    refine opsR_q rfl (by first | exact q_quo64 rfl rfl (by omega) (by omega) (by omega) | exact q_quo rfl rfl (by first | decide | assumption | omega)) ?_
    simp only [nrm, Nat.reduceAdd, Nat.reduceMul, Nat.reduceSub, Int.reduceToNat, Int.reduceAdd]
    refine opsR_q rfl (q_min rfl rfl) ?_
    simp only [nrm, Nat.reduceAdd, Nat.reduceMul, Nat.reduceSub, Int.reduceToNat, Int.reduceAdd]
    refine opsR_q rfl (q_assign) ?_
    simp only [nrm, Nat.reduceAdd, Nat.reduceMul, Nat.reduceSub, Int.reduceToNat, Int.reduceAdd]
    refine opsR_nil ?_
    refine hk9 _ _ ?_
    clear hk9
    refine run_ret ?_
    exact end_tmp rfl rfl rfl .refl (by rw [Q.share, if_neg (by assumption)] at hK; exact hK)
end Go.Proofs.YtopimbpclgejhaaGreatDoor
