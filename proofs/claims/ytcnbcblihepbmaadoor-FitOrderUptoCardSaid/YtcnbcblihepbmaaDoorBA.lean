/- Package stevedorebase: a number made one from 0 to m - 1. -/
import Derived.Test.YtcnbcblihepbmaaDoorTy
import Derived.Test.YtcnbcblihepbmaaDoorS17
set_option autoImplicit false
set_option linter.unusedVariables false
set_option linter.unusedSimpArgs false
namespace Go.Proofs.YtcnbcblihepbmaaDoor
open Go Go.RowKit
def amongOf (n m : Int) : Int := IntKind.i64.wrap ((IntKind.u64.wrap n).tmod (IntKind.u64.wrap m))
theorem wrap_u64_rng (d : Int) : 0 ≤ IntKind.u64.wrap d ∧ IntKind.u64.wrap d ≤ 18446744073709551615 := by
  unfold IntKind.wrap
  have e1 : IntKind.u64.signed = false := rfl
  have e2 : IntKind.u64.bits = 64 := rfl
  simp only [e1, e2, Bool.false_and, Nat.reduceSub, Bool.false_eq_true, if_false, decide_false]
  omega
theorem among_bd (n : Int) {m : Int} (h : 0 < m) (h2 : m ≤ 9223372036854775807) : 0 ≤ amongOf n m ∧ amongOf n m < m := by
  have hw := wrap_u64_id (n := m) (by omega) (by omega)
  have h1 := (wrap_u64_rng n).1
  have hm := Int.emod_nonneg (IntKind.u64.wrap n) (by omega : m ≠ 0)
  have hm2 := Int.emod_lt_of_pos (IntKind.u64.wrap n) h
  rw [amongOf, hw, Int.tmod_eq_emod_of_nonneg h1, wrap_i64_id (by omega) (by omega)]
  exact ⟨hm, hm2⟩
theorem among_id {n m : Int} (h0 : 0 ≤ n) (h : n < m) (h2 : m ≤ 9223372036854775807) : amongOf n m = n := by
  have hw := wrap_u64_id (n := m) (by omega) (by omega)
  have hw2 := wrap_u64_id (n := n) (by omega) (by omega)
  rw [amongOf, hw, hw2, Int.tmod_eq_emod_of_nonneg h0, Int.emod_eq_of_lt h0 h, wrap_i64_id (by omega) (by omega)]
section
attribute [local irreducible] Quiet OpsR Run CallS opS Gh endQ oblE RunN swp
theorem Among_spec {n m : Int} {s : St} (h : 0 < m) (h2 : m ≤ 9223372036854775807) : CallV Tryd.prog 10 #[.int .i64 n, .int .i64 m] s (.int .i64 (amongOf n m)) := by
  intro K hK
  have hw : IntKind.u64.wrap m ≠ 0 := by rw [wrap_u64_id (n := m) (by omega) (by omega)]; omega
  refine callS_of_run Tryd.func10 rfl ?_; simp only [Tryd.ntmps10, List.size_toArray, List.length_cons, List.length_nil, Nat.reduceAdd, Nat.reduceSub, Array.replicate_succ, Array.replicate_zero, List.push_toArray, List.append_toArray, List.nil_append, List.cons_append]
  refine run_seq fun _ hk1 => ?_
  refine run_region ?_
  refine opsR_q rfl (q_assign) ?_
  simp only [nrm]
  refine opsR_nil ?_
  refine hk1 _ _ ?_
  clear hk1
  refine run_seq fun _ hk2 => ?_
  refine run_region ?_
  refine opsR_q rfl (q_move) ?_
  simp only [nrm]
  refine opsR_q rfl (q_conv_int_int rfl) ?_
  simp only [nrm, Nat.reduceAdd, Nat.reduceMul, Nat.reduceSub, Int.reduceToNat, Int.reduceAdd]
  refine opsR_q rfl (q_move) ?_
  simp only [nrm]
  refine opsR_q rfl (q_conv_int_int rfl) ?_
  simp only [nrm, Nat.reduceAdd, Nat.reduceMul, Nat.reduceSub, Int.reduceToNat, Int.reduceAdd]
  refine opsR_q rfl (by exact q_rem rfl rfl (by first | decide | assumption | omega)) ?_
  simp only [nrm, Nat.reduceAdd, Nat.reduceMul, Nat.reduceSub, Int.reduceToNat, Int.reduceAdd]
  refine opsR_q rfl (q_conv_int_int rfl) ?_
  simp only [nrm, Nat.reduceAdd, Nat.reduceMul, Nat.reduceSub, Int.reduceToNat, Int.reduceAdd]
  refine opsR_q rfl (q_assign) ?_
  simp only [nrm]
  refine opsR_nil ?_
  refine hk2 _ _ ?_
  clear hk2
  refine run_ret ?_
  exact end_tmp rfl rfl rfl ghA hK
end
end Go.Proofs.YtcnbcblihepbmaaDoor
