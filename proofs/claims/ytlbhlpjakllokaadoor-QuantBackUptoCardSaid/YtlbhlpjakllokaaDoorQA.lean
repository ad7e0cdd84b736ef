/- Packages quant and stevedoreref01: all but texts. -/
import Derived.Test.YtlbhlpjakllokaaDoorRES
import Derived.Test.YtlbhlpjakllokaaDoorSH
import Derived.Test.YtlbhlpjakllokaaDoorS19
set_option autoImplicit false
set_option linter.unusedVariables false
set_option linter.unusedSimpArgs false
namespace Go.Proofs.YtlbhlpjakllokaaDoor
open Go Go.RowKit
attribute [local irreducible] Quiet OpsR Run CallS opS Gh endQ oblE RunN
theorem Mul64_spec {x y p : Int} {s : St} (hp : x * y = p) (hx : 0 ≤ x) (hx2 : x < 18446744073709551616) (hy : 0 ≤ y) (hy2 : y < 18446744073709551616) : CallV Tryd.prog 38 #[.int .u64 x, .int .u64 y] s (.tuple #[.int .u64 (p / 18446744073709551616), .int .u64 (p % 18446744073709551616)]) := by
  obtain ⟨m, rfl⟩ := Int.eq_ofNat_of_zero_le hx
  obtain ⟨n, rfl⟩ := Int.eq_ofNat_of_zero_le hy
  refine callV_of_below fun w hs => (Tryd.bits_Mul64 m n (by omega) (by omega) w).mono fun e w' ⟨he, hw⟩ => ⟨?_, by rw [hw]; exact Below.refl _ _⟩
  rw [he, ← hp]; rfl
def Q.times (a n : Int) : Int := min (Q.clamp a * Q.clamp n) 1125899906842624
theorem Times_spec (a n : Int) (s : St) : CallV Tryd.prog 21 #[.int .i64 a, .int .i64 n] s (.int .i64 (Q.times a n)) := by
  intro K hK
  have h1 := Q.clamp_lo a; have h2 := Q.clamp_hi a; have h3 := Q.clamp_lo n; have h4 := Q.clamp_hi n
  obtain ⟨p, hp⟩ : ∃ p, Q.clamp a * Q.clamp n = p := ⟨_, rfl⟩
  have h5 : 0 ≤ p := by rw [← hp]; exact Int.mul_nonneg h1 h3
  have w1 := wrap_u64_id (n := Q.clamp a) (by omega) (by omega)
  have w2 := wrap_u64_id (n := Q.clamp n) (by omega) (by omega)
  have ht : Q.times a n = min p 1125899906842624 := by rw [Q.times, hp]
  refine callS_of_run Tryd.func21 rfl ?_; simp only [Tryd.ntmps21, List.size_toArray, List.length_cons, List.length_nil, Nat.reduceAdd, Nat.reduceSub, Array.replicate_succ, Array.replicate_zero, List.push_toArray, List.append_toArray, List.nil_append, List.cons_append]
  refine run_seq fun _ hk1 => ?_
  refine run_region ?_
  refine opsR_q rfl (q_assign) ?_
  simp only [nrm, Nat.reduceAdd, Nat.reduceMul, Nat.reduceSub, Int.reduceToNat, Int.reduceAdd]
  refine opsR_nil ?_
  refine hk1 _ _ ?_
  clear hk1
  refine run_seq fun _ hk2 => ?_
  refine run_region ?_
  refine opsR_q rfl (q_move) ?_
  simp only [nrm, Nat.reduceAdd, Nat.reduceMul, Nat.reduceSub, Int.reduceToNat, Int.reduceAdd]
  refine opsR_q rfl (q_call rfl (clamp_spec _ _)) ?_
  simp only [nrm, Nat.reduceAdd, Nat.reduceMul, Nat.reduceSub, Int.reduceToNat, Int.reduceAdd]
  refine opsR_q rfl (q_conv_int_int rfl) ?_
  simp only [nrm, Nat.reduceAdd, Nat.reduceMul, Nat.reduceSub, Int.reduceToNat, Int.reduceAdd]
  rw [w1]
  refine opsR_q rfl (q_move) ?_
  simp only [nrm, Nat.reduceAdd, Nat.reduceMul, Nat.reduceSub, Int.reduceToNat, Int.reduceAdd]
  refine opsR_q rfl (q_call rfl (clamp_spec _ _)) ?_
  simp only [nrm, Nat.reduceAdd, Nat.reduceMul, Nat.reduceSub, Int.reduceToNat, Int.reduceAdd]
  refine opsR_q rfl (q_conv_int_int rfl) ?_
  simp only [nrm, Nat.reduceAdd, Nat.reduceMul, Nat.reduceSub, Int.reduceToNat, Int.reduceAdd]
  rw [w2]
  refine opsR_q rfl (q_call rfl (Mul64_spec hp (by omega) (by omega) (by omega) (by omega))) ?_
  simp only [nrm, Nat.reduceAdd, Nat.reduceMul, Nat.reduceSub, Int.reduceToNat, Int.reduceAdd]
  refine opsR_q rfl (q_move) ?_
  simp only [nrm, Nat.reduceAdd, Nat.reduceMul, Nat.reduceSub, Int.reduceToNat, Int.reduceAdd]
  refine opsR_q rfl (q_extract rfl rfl) ?_
  simp only [nrm, Nat.reduceAdd, Nat.reduceMul, Nat.reduceSub, Int.reduceToNat, Int.reduceAdd]
  refine opsR_q rfl (q_extract rfl rfl) ?_
  simp only [nrm, Nat.reduceAdd, Nat.reduceMul, Nat.reduceSub, Int.reduceToNat, Int.reduceAdd]
  refine opsR_q rfl (q_assign) ?_
  simp only [nrm, Nat.reduceAdd, Nat.reduceMul, Nat.reduceSub, Int.reduceToNat, Int.reduceAdd]
  refine opsR_q rfl (q_assign) ?_
  simp only [nrm, Nat.reduceAdd, Nat.reduceMul, Nat.reduceSub, Int.reduceToNat, Int.reduceAdd]
  refine opsR_nil ?_
  refine hk2 _ _ ?_
  clear hk2
  refine run_seq fun _ hk7 => ?_
  refine run_seq fun _ hk8 => ?_
  refine run_region ?_
  refine opsR_q rfl (q_move) ?_
  simp only [nrm, Nat.reduceAdd, Nat.reduceMul, Nat.reduceSub, Int.reduceToNat, Int.reduceAdd]
  refine opsR_q rfl (q_gtr rfl rfl) ?_
  simp only [nrm, Nat.reduceAdd, Nat.reduceMul, Nat.reduceSub, Int.reduceToNat, Int.reduceAdd]
  refine opsR_qb rfl (q_move) (fun hc9 => ?_) (fun hc9 => ?_)
  · have ho9 := hc9; try simp only [spl] at hc9
    simp only [nrm, Nat.reduceAdd, Nat.reduceMul, Nat.reduceSub, Int.reduceToNat, Int.reduceAdd]
    refine opsR_skip rfl ?_
    simp only [nrm, Nat.reduceAdd, Nat.reduceMul, Nat.reduceSub, Int.reduceToNat, Int.reduceAdd]
    refine opsR_skip rfl ?_
    simp only [nrm, Nat.reduceAdd, Nat.reduceMul, Nat.reduceSub, Int.reduceToNat, Int.reduceAdd]
    refine opsR_q rfl (q_pick_t rfl) ?_
    simp only [nrm, Nat.reduceAdd, Nat.reduceMul, Nat.reduceSub, Int.reduceToNat, Int.reduceAdd]
    refine opsR_nil ?_
    refine hk8 _ _ ?_
    clear hk8
    refine run_cond (t := true) rfl (fun _ => ?_) (fun h => by cases h)
    refine run_seq fun _ hk10 => ?_
    refine run_region ?_
    refine opsR_q rfl (q_assign) ?_
    simp only [nrm, Nat.reduceAdd, Nat.reduceMul, Nat.reduceSub, Int.reduceToNat, Int.reduceAdd]
    refine opsR_nil ?_
    refine hk10 _ _ ?_
    clear hk10
    refine run_ret ?_
    exact end_tmp rfl rfl rfl (by first | exact .refl | exact .drop | exact .drop2 | exact .drop3 | exact .drop4 | exact Gh.drop.trans .drop4 | exact Gh.drop2.trans .drop4 | exact Gh.drop3.trans .drop4) (eqK hK (congrArg (Go.Value.int .i64) (by rw [ht]; omega)))
  · have ho9 := hc9; try simp only [spl] at hc9
    simp only [nrm, Nat.reduceAdd, Nat.reduceMul, Nat.reduceSub, Int.reduceToNat, Int.reduceAdd]
    refine opsR_q rfl (q_move) ?_
    simp only [nrm, Nat.reduceAdd, Nat.reduceMul, Nat.reduceSub, Int.reduceToNat, Int.reduceAdd]
    refine opsR_q rfl (q_gtr rfl rfl) ?_
    simp only [nrm, Nat.reduceAdd, Nat.reduceMul, Nat.reduceSub, Int.reduceToNat, Int.reduceAdd]
    refine opsR_q rfl (q_pick_f rfl) ?_
    simp only [nrm, Nat.reduceAdd, Nat.reduceMul, Nat.reduceSub, Int.reduceToNat, Int.reduceAdd]
    refine opsR_nil ?_
    refine hk8 _ _ ?_
    clear hk8
    refine run_cond rfl (fun ho11 => ?_) (fun ho11 => ?_)
    · have hc11 := ho11; try simp only [spl] at hc11
      refine run_seq fun _ hk12 => ?_
      refine run_region ?_
      refine opsR_q rfl (q_assign) ?_
      simp only [nrm, Nat.reduceAdd, Nat.reduceMul, Nat.reduceSub, Int.reduceToNat, Int.reduceAdd]
      refine opsR_nil ?_
      refine hk12 _ _ ?_
      clear hk12
      refine run_ret ?_
      exact end_tmp rfl rfl rfl (by first | exact .refl | exact .drop | exact .drop2 | exact .drop3 | exact .drop4 | exact Gh.drop.trans .drop4 | exact Gh.drop2.trans .drop4 | exact Gh.drop3.trans .drop4) (eqK hK (congrArg (Go.Value.int .i64) (by rw [ht]; omega)))
    · have hc11 := ho11; try simp only [spl] at hc11
      refine run_skip ?_
      refine hk7 _ _ ?_
      clear hk7
      refine run_seq fun _ hk13 => ?_
      have w3 := wrap_i64_id (n := p % 18446744073709551616) (by omega) (by omega)
      refine run_region ?_
      refine opsR_q rfl (q_move) ?_
      simp only [nrm, Nat.reduceAdd, Nat.reduceMul, Nat.reduceSub, Int.reduceToNat, Int.reduceAdd]
      refine opsR_q rfl (q_conv_int_int rfl) ?_
      simp only [nrm, Nat.reduceAdd, Nat.reduceMul, Nat.reduceSub, Int.reduceToNat, Int.reduceAdd]
      refine opsR_q rfl (q_assign) ?_
      simp only [nrm, Nat.reduceAdd, Nat.reduceMul, Nat.reduceSub, Int.reduceToNat, Int.reduceAdd]
      refine opsR_nil ?_
      refine hk13 _ _ ?_
      clear hk13
      refine run_ret ?_
      first | exact end_tmp rfl rfl rfl (by first | exact .refl | exact .drop | exact .drop2 | exact .drop3 | exact .drop4 | exact Gh.drop.trans .drop4 | exact Gh.drop2.trans .drop4 | exact Gh.drop3.trans .drop4) hK | exact end_tmp rfl rfl rfl (by first | exact .refl | exact .drop | exact .drop2 | exact .drop3 | exact .drop4 | exact Gh.drop.trans .drop4 | exact Gh.drop2.trans .drop4 | exact Gh.drop3.trans .drop4) (eqK hK (congrArg (Go.Value.int .i64) (by rw [w3, ht]; omega)))
theorem refClamp_spec (a : Int) (s : St) : CallV Tryd.prog 18 #[.int .i64 a] s (.int .i64 (Q.clamp a)) := by
  intro K hK
  refine callS_of_run Tryd.func18 rfl ?_; simp only [Tryd.ntmps18, List.size_toArray, List.length_cons, List.length_nil, Nat.reduceAdd, Nat.reduceSub, Array.replicate_succ, Array.replicate_zero, List.push_toArray, List.append_toArray, List.nil_append, List.cons_append]
  refine run_seq fun _ hk1 => ?_
  refine run_region ?_
  refine opsR_q rfl (q_assign) ?_
  simp only [nrm, Nat.reduceAdd, Nat.reduceMul, Nat.reduceSub, Int.reduceToNat, Int.reduceAdd]
  refine opsR_nil ?_
  refine hk1 _ _ ?_
  clear hk1
  refine run_seq fun _ hk2 => ?_
  refine run_region ?_
  refine opsR_q rfl (q_move) ?_
  simp only [nrm, Nat.reduceAdd, Nat.reduceMul, Nat.reduceSub, Int.reduceToNat, Int.reduceAdd]
  refine opsR_q rfl (q_min rfl rfl) ?_
  simp only [nrm, Nat.reduceAdd, Nat.reduceMul, Nat.reduceSub, Int.reduceToNat, Int.reduceAdd]
  refine opsR_q rfl (q_max rfl rfl) ?_
  simp only [nrm, Nat.reduceAdd, Nat.reduceMul, Nat.reduceSub, Int.reduceToNat, Int.reduceAdd]
  refine opsR_q rfl (q_assign) ?_
  simp only [nrm, Nat.reduceAdd, Nat.reduceMul, Nat.reduceSub, Int.reduceToNat, Int.reduceAdd]
  refine opsR_nil ?_
  refine hk2 _ _ ?_
  clear hk2
  refine run_ret ?_
  first | exact end_tmp rfl rfl rfl (by first | exact .refl | exact .drop | exact .drop2 | exact .drop3 | exact .drop4 | exact Gh.drop.trans .drop4 | exact Gh.drop2.trans .drop4 | exact Gh.drop3.trans .drop4) hK | exact end_tmp rfl rfl rfl (by first | exact .refl | exact .drop | exact .drop2 | exact .drop3 | exact .drop4 | exact Gh.drop.trans .drop4 | exact Gh.drop2.trans .drop4 | exact Gh.drop3.trans .drop4) (eqK hK (congrArg (Go.Value.int .i64) (by unfold Q.clamp; omega)))
theorem refAdd_spec (a b : Int) (s : St) : CallV Tryd.prog 19 #[.int .i64 a, .int .i64 b] s (.int .i64 (Q.add a b)) := by
  intro K hK
  have h1 := Q.clamp_lo a; have h2 := Q.clamp_hi a; have h3 := Q.clamp_lo b; have h4 := Q.clamp_hi b
  refine callS_of_run Tryd.func19 rfl ?_; simp only [Tryd.ntmps19, List.size_toArray, List.length_cons, List.length_nil, Nat.reduceAdd, Nat.reduceSub, Array.replicate_succ, Array.replicate_zero, List.push_toArray, List.append_toArray, List.nil_append, List.cons_append]
  refine run_seq fun _ hk1 => ?_
  refine run_region ?_
  refine opsR_q rfl (q_assign) ?_
  simp only [nrm, Nat.reduceAdd, Nat.reduceMul, Nat.reduceSub, Int.reduceToNat, Int.reduceAdd]
  refine opsR_nil ?_
  refine hk1 _ _ ?_
  clear hk1
  refine run_seq fun _ hk2 => ?_
  refine run_region ?_
  refine opsR_q rfl (q_move) ?_
  simp only [nrm, Nat.reduceAdd, Nat.reduceMul, Nat.reduceSub, Int.reduceToNat, Int.reduceAdd]
  refine opsR_q rfl (q_call rfl (refClamp_spec _ _)) ?_
  simp only [nrm, Nat.reduceAdd, Nat.reduceMul, Nat.reduceSub, Int.reduceToNat, Int.reduceAdd]
  refine opsR_q rfl (q_move) ?_
  simp only [nrm, Nat.reduceAdd, Nat.reduceMul, Nat.reduceSub, Int.reduceToNat, Int.reduceAdd]
  refine opsR_q rfl (q_call rfl (refClamp_spec _ _)) ?_
  simp only [nrm, Nat.reduceAdd, Nat.reduceMul, Nat.reduceSub, Int.reduceToNat, Int.reduceAdd]
  refine opsR_q rfl (by first | exact q_add64 rfl rfl (by omega) (by omega) | exact q_add rfl rfl) ?_
  simp only [nrm, Nat.reduceAdd, Nat.reduceMul, Nat.reduceSub, Int.reduceToNat, Int.reduceAdd]
  refine opsR_q rfl (q_min rfl rfl) ?_
  simp only [nrm, Nat.reduceAdd, Nat.reduceMul, Nat.reduceSub, Int.reduceToNat, Int.reduceAdd]
  refine opsR_q rfl (q_assign) ?_
  simp only [nrm, Nat.reduceAdd, Nat.reduceMul, Nat.reduceSub, Int.reduceToNat, Int.reduceAdd]
  refine opsR_nil ?_
  refine hk2 _ _ ?_
  clear hk2
  refine run_ret ?_
  first | exact end_tmp rfl rfl rfl (by first | exact .refl | exact .drop | exact .drop2 | exact .drop3 | exact .drop4 | exact Gh.drop.trans .drop4 | exact Gh.drop2.trans .drop4 | exact Gh.drop3.trans .drop4) hK | exact end_tmp rfl rfl rfl (by first | exact .refl | exact .drop | exact .drop2 | exact .drop3 | exact .drop4 | exact Gh.drop.trans .drop4 | exact Gh.drop2.trans .drop4 | exact Gh.drop3.trans .drop4) (eqK hK (congrArg (Go.Value.int .i64) (by rw [Q.add]; generalize Q.clamp a = x at *; generalize Q.clamp b = y at *; unfold Q.clamp; omega)))
theorem refSub_spec (a b : Int) (s : St) : CallV Tryd.prog 20 #[.int .i64 a, .int .i64 b] s (.int .i64 (Q.sub a b)) := by
  intro K hK
  have h1 := Q.clamp_lo a; have h2 := Q.clamp_hi a; have h3 := Q.clamp_lo b; have h4 := Q.clamp_hi b
  refine callS_of_run Tryd.func20 rfl ?_; simp only [Tryd.ntmps20, List.size_toArray, List.length_cons, List.length_nil, Nat.reduceAdd, Nat.reduceSub, Array.replicate_succ, Array.replicate_zero, List.push_toArray, List.append_toArray, List.nil_append, List.cons_append]
  refine run_seq fun _ hk1 => ?_
  refine run_region ?_
  refine opsR_q rfl (q_assign) ?_
  simp only [nrm, Nat.reduceAdd, Nat.reduceMul, Nat.reduceSub, Int.reduceToNat, Int.reduceAdd]
  refine opsR_nil ?_
  refine hk1 _ _ ?_
  clear hk1
  refine run_seq fun _ hk2 => ?_
  refine run_region ?_
  refine opsR_q rfl (q_move) ?_
  simp only [nrm, Nat.reduceAdd, Nat.reduceMul, Nat.reduceSub, Int.reduceToNat, Int.reduceAdd]
  refine opsR_q rfl (q_call rfl (refClamp_spec _ _)) ?_
  simp only [nrm, Nat.reduceAdd, Nat.reduceMul, Nat.reduceSub, Int.reduceToNat, Int.reduceAdd]
  refine opsR_q rfl (q_move) ?_
  simp only [nrm, Nat.reduceAdd, Nat.reduceMul, Nat.reduceSub, Int.reduceToNat, Int.reduceAdd]
  refine opsR_q rfl (q_call rfl (refClamp_spec _ _)) ?_
  simp only [nrm, Nat.reduceAdd, Nat.reduceMul, Nat.reduceSub, Int.reduceToNat, Int.reduceAdd]
  refine opsR_q rfl (by first | exact q_sub64 rfl rfl (by omega) (by omega) | exact q_sub rfl rfl) ?_
  simp only [nrm, Nat.reduceAdd, Nat.reduceMul, Nat.reduceSub, Int.reduceToNat, Int.reduceAdd]
  refine opsR_q rfl (q_max rfl rfl) ?_
  simp only [nrm, Nat.reduceAdd, Nat.reduceMul, Nat.reduceSub, Int.reduceToNat, Int.reduceAdd]
  refine opsR_q rfl (q_assign) ?_
  simp only [nrm, Nat.reduceAdd, Nat.reduceMul, Nat.reduceSub, Int.reduceToNat, Int.reduceAdd]
  refine opsR_nil ?_
  refine hk2 _ _ ?_
  clear hk2
  refine run_ret ?_
  first | exact end_tmp rfl rfl rfl (by first | exact .refl | exact .drop | exact .drop2 | exact .drop3 | exact .drop4 | exact Gh.drop.trans .drop4 | exact Gh.drop2.trans .drop4 | exact Gh.drop3.trans .drop4) hK | exact end_tmp rfl rfl rfl (by first | exact .refl | exact .drop | exact .drop2 | exact .drop3 | exact .drop4 | exact Gh.drop.trans .drop4 | exact Gh.drop2.trans .drop4 | exact Gh.drop3.trans .drop4) (eqK hK (congrArg (Go.Value.int .i64) (by rw [Q.sub]; generalize Q.clamp a = x at *; generalize Q.clamp b = y at *; unfold Q.clamp; omega)))
theorem refTimes_spec (a n : Int) (s : St) : CallV Tryd.prog 22 #[.int .i64 a, .int .i64 n] s (.int .i64 (Q.times a n)) := by
  intro K hK
  have h1 := Q.clamp_lo a; have h2 := Q.clamp_hi a; have h3 := Q.clamp_lo n; have h4 := Q.clamp_hi n
  have hm := Int.mul_nonneg h1 h3
  refine callS_of_run Tryd.func22 rfl ?_; simp only [Tryd.ntmps22, List.size_toArray, List.length_cons, List.length_nil, Nat.reduceAdd, Nat.reduceSub, Array.replicate_succ, Array.replicate_zero, List.push_toArray, List.append_toArray, List.nil_append, List.cons_append]
  refine run_seq fun _ hk1 => ?_
  refine run_region ?_
  refine opsR_q rfl (q_assign) ?_
  simp only [nrm, Nat.reduceAdd, Nat.reduceMul, Nat.reduceSub, Int.reduceToNat, Int.reduceAdd]
  refine opsR_nil ?_
  refine hk1 _ _ ?_
  clear hk1
  refine run_seq fun _ hk2 => ?_
  refine run_region ?_
  refine opsR_q rfl (q_move) ?_
  simp only [nrm, Nat.reduceAdd, Nat.reduceMul, Nat.reduceSub, Int.reduceToNat, Int.reduceAdd]
  refine opsR_q rfl (q_call rfl (refClamp_spec _ _)) ?_
  simp only [nrm, Nat.reduceAdd, Nat.reduceMul, Nat.reduceSub, Int.reduceToNat, Int.reduceAdd]
  refine opsR_q rfl (q_move) ?_
  simp only [nrm, Nat.reduceAdd, Nat.reduceMul, Nat.reduceSub, Int.reduceToNat, Int.reduceAdd]
  refine opsR_q rfl (q_call rfl (refClamp_spec _ _)) ?_
  simp only [nrm, Nat.reduceAdd, Nat.reduceMul, Nat.reduceSub, Int.reduceToNat, Int.reduceAdd]
  refine opsR_q rfl (q_assign) ?_
  simp only [nrm, Nat.reduceAdd, Nat.reduceMul, Nat.reduceSub, Int.reduceToNat, Int.reduceAdd]
  refine opsR_q rfl (q_assign) ?_
  simp only [nrm, Nat.reduceAdd, Nat.reduceMul, Nat.reduceSub, Int.reduceToNat, Int.reduceAdd]
  refine opsR_nil ?_
  refine hk2 _ _ ?_
  clear hk2
  refine run_seq fun _ hk5 => ?_
  refine run_seq fun _ hk6 => ?_
  refine run_region ?_
  refine opsR_q rfl (q_move) ?_
  simp only [nrm, Nat.reduceAdd, Nat.reduceMul, Nat.reduceSub, Int.reduceToNat, Int.reduceAdd]
  refine opsR_q rfl (q_eql rfl rfl) ?_
  simp only [nrm, Nat.reduceAdd, Nat.reduceMul, Nat.reduceSub, Int.reduceToNat, Int.reduceAdd]
  refine opsR_qb rfl (q_move) (fun hc7 => ?_) (fun hc7 => ?_)
  · have ho7 := hc7; try simp only [spl] at hc7
    simp only [nrm, Nat.reduceAdd, Nat.reduceMul, Nat.reduceSub, Int.reduceToNat, Int.reduceAdd]
    refine opsR_skip rfl ?_
    simp only [nrm, Nat.reduceAdd, Nat.reduceMul, Nat.reduceSub, Int.reduceToNat, Int.reduceAdd]
    refine opsR_skip rfl ?_
    simp only [nrm, Nat.reduceAdd, Nat.reduceMul, Nat.reduceSub, Int.reduceToNat, Int.reduceAdd]
    refine opsR_q rfl (q_pick_t rfl) ?_
    simp only [nrm, Nat.reduceAdd, Nat.reduceMul, Nat.reduceSub, Int.reduceToNat, Int.reduceAdd]
    refine opsR_nil ?_
    refine hk6 _ _ ?_
    clear hk6
    refine run_cond (t := true) rfl (fun _ => ?_) (fun h => by cases h)
    refine run_seq fun _ hk8 => ?_
    refine run_region ?_
    refine opsR_q rfl (q_assign) ?_
    simp only [nrm, Nat.reduceAdd, Nat.reduceMul, Nat.reduceSub, Int.reduceToNat, Int.reduceAdd]
    refine opsR_nil ?_
    refine hk8 _ _ ?_
    clear hk8
    refine run_ret ?_
    exact end_tmp rfl rfl rfl (by first | exact .refl | exact .drop | exact .drop2 | exact .drop3 | exact .drop4 | exact Gh.drop.trans .drop4 | exact Gh.drop2.trans .drop4 | exact Gh.drop3.trans .drop4) (eqK hK (congrArg (Go.Value.int .i64) (by rw [Q.times]; first | rw [show Q.clamp a = 0 by assumption, Int.zero_mul]; rfl | rw [show Q.clamp n = 0 by assumption, Int.mul_zero]; rfl)))
  · have ho7 := hc7; try simp only [spl] at hc7
    simp only [nrm, Nat.reduceAdd, Nat.reduceMul, Nat.reduceSub, Int.reduceToNat, Int.reduceAdd]
    refine opsR_q rfl (q_move) ?_
    simp only [nrm, Nat.reduceAdd, Nat.reduceMul, Nat.reduceSub, Int.reduceToNat, Int.reduceAdd]
    refine opsR_q rfl (q_eql rfl rfl) ?_
    simp only [nrm, Nat.reduceAdd, Nat.reduceMul, Nat.reduceSub, Int.reduceToNat, Int.reduceAdd]
    refine opsR_q rfl (q_pick_f rfl) ?_
    simp only [nrm, Nat.reduceAdd, Nat.reduceMul, Nat.reduceSub, Int.reduceToNat, Int.reduceAdd]
    refine opsR_nil ?_
    refine hk6 _ _ ?_
    clear hk6
    refine run_cond rfl (fun ho9 => ?_) (fun ho9 => ?_)
    · have hc9 := ho9; try simp only [spl] at hc9
      refine run_seq fun _ hk10 => ?_
      refine run_region ?_
      refine opsR_q rfl (q_assign) ?_
      simp only [nrm, Nat.reduceAdd, Nat.reduceMul, Nat.reduceSub, Int.reduceToNat, Int.reduceAdd]
      refine opsR_nil ?_
      refine hk10 _ _ ?_
      clear hk10
      refine run_ret ?_
      exact end_tmp rfl rfl rfl (by first | exact .refl | exact .drop | exact .drop2 | exact .drop3 | exact .drop4 | exact Gh.drop.trans .drop4 | exact Gh.drop2.trans .drop4 | exact Gh.drop3.trans .drop4) (eqK hK (congrArg (Go.Value.int .i64) (by rw [Q.times]; first | rw [show Q.clamp a = 0 by assumption, Int.zero_mul]; rfl | rw [show Q.clamp n = 0 by assumption, Int.mul_zero]; rfl)))
    · have hc9 := ho9; try simp only [spl] at hc9
      refine run_skip ?_
      refine hk5 _ _ ?_
      clear hk5
      refine run_seq fun _ hk11 => ?_
      refine run_seq fun _ hk12 => ?_
      refine run_region ?_
      refine opsR_q rfl (q_move) ?_
      simp only [nrm, Nat.reduceAdd, Nat.reduceMul, Nat.reduceSub, Int.reduceToNat, Int.reduceAdd]
      refine opsR_q rfl (q_move) ?_
      simp only [nrm, Nat.reduceAdd, Nat.reduceMul, Nat.reduceSub, Int.reduceToNat, Int.reduceAdd]
      refine opsR_q rfl (by first | exact q_quo64 rfl rfl (by omega) (by omega) (by omega) | exact q_quo rfl rfl (by first | decide | assumption | omega)) ?_
      simp only [nrm, Nat.reduceAdd, Nat.reduceMul, Nat.reduceSub, Int.reduceToNat, Int.reduceAdd]
      refine opsR_q rfl (q_gtr rfl rfl) ?_
      simp only [nrm, Nat.reduceAdd, Nat.reduceMul, Nat.reduceSub, Int.reduceToNat, Int.reduceAdd]
      refine opsR_nil ?_
      refine hk12 _ _ ?_
      clear hk12
      refine run_cond rfl (fun ho13 => ?_) (fun ho13 => ?_)
      · have hc13 := ho13; try simp only [spl] at hc13
        refine run_seq fun _ hk14 => ?_
        have hl := (Int.ediv_lt_iff_lt_mul (a := 1125899906842624) (b := Q.clamp a) (by omega : 0 < Q.clamp n)).1 (by omega)
        refine run_region ?_
        refine opsR_q rfl (q_assign) ?_
        simp only [nrm, Nat.reduceAdd, Nat.reduceMul, Nat.reduceSub, Int.reduceToNat, Int.reduceAdd]
        refine opsR_nil ?_
        refine hk14 _ _ ?_
        clear hk14
        refine run_ret ?_
        first | exact end_tmp rfl rfl rfl (by first | exact .refl | exact .drop | exact .drop2 | exact .drop3 | exact .drop4 | exact Gh.drop.trans .drop4 | exact Gh.drop2.trans .drop4 | exact Gh.drop3.trans .drop4) hK | exact end_tmp rfl rfl rfl (by first | exact .refl | exact .drop | exact .drop2 | exact .drop3 | exact .drop4 | exact Gh.drop.trans .drop4 | exact Gh.drop2.trans .drop4 | exact Gh.drop3.trans .drop4) (eqK hK (congrArg (Go.Value.int .i64) (by rw [Q.times]; omega)))
      · have hc13 := ho13; try simp only [spl] at hc13
        refine run_skip ?_
        refine hk11 _ _ ?_
        clear hk11
        refine run_seq fun _ hk15 => ?_
        have hl := (Int.le_ediv_iff_mul_le (a := Q.clamp a) (b := 1125899906842624) (by omega : 0 < Q.clamp n)).1 (by omega)
        refine run_region ?_
        refine opsR_q rfl (q_move) ?_
        simp only [nrm, Nat.reduceAdd, Nat.reduceMul, Nat.reduceSub, Int.reduceToNat, Int.reduceAdd]
        refine opsR_q rfl (q_move) ?_
        simp only [nrm, Nat.reduceAdd, Nat.reduceMul, Nat.reduceSub, Int.reduceToNat, Int.reduceAdd]
        refine opsR_q rfl (by first | exact q_mul64 rfl rfl (by omega) (by omega) | exact q_mul rfl rfl) ?_
        simp only [nrm, Nat.reduceAdd, Nat.reduceMul, Nat.reduceSub, Int.reduceToNat, Int.reduceAdd]
        refine opsR_q rfl (q_assign) ?_
        simp only [nrm, Nat.reduceAdd, Nat.reduceMul, Nat.reduceSub, Int.reduceToNat, Int.reduceAdd]
        refine opsR_nil ?_
        refine hk15 _ _ ?_
        clear hk15
        refine run_ret ?_
        first | exact end_tmp rfl rfl rfl (by first | exact .refl | exact .drop | exact .drop2 | exact .drop3 | exact .drop4 | exact Gh.drop.trans .drop4 | exact Gh.drop2.trans .drop4 | exact Gh.drop3.trans .drop4) hK | exact end_tmp rfl rfl rfl (by first | exact .refl | exact .drop | exact .drop2 | exact .drop3 | exact .drop4 | exact Gh.drop.trans .drop4 | exact Gh.drop2.trans .drop4 | exact Gh.drop3.trans .drop4) (eqK hK (congrArg (Go.Value.int .i64) (by rw [Q.times]; omega)))
theorem refShare_spec (a o sc : Int) (s : St) : CallV Tryd.prog 24 #[.int .i64 a, .int .i64 o, .int .i64 sc] s (.int .i64 (Q.share a o sc)) := by
  intro K hK
  have h1 := Q.clamp_lo a; have h2 := Q.clamp_hi a; have h3 := Q.clamp_lo o; have h4 := Q.clamp_hi o
  have h5 : 0 ≤ Q.clamp a * min (max sc 0) 1000 := Int.mul_nonneg h1 (by omega)
  have h6 : Q.clamp a * min (max sc 0) 1000 ≤ 1125899906842624 * 1000 := Int.mul_le_mul h2 (by omega) (by omega) (by omega)
  have h7 : max 0 (min sc 1000) = min (max sc 0) 1000 := by omega
  refine callS_of_run Tryd.func24 rfl ?_; simp only [Tryd.ntmps24, List.size_toArray, List.length_cons, List.length_nil, Nat.reduceAdd, Nat.reduceSub, Array.replicate_succ, Array.replicate_zero, List.push_toArray, List.append_toArray, List.nil_append, List.cons_append]
  refine run_seq fun _ hk1 => ?_
  refine run_region ?_
  refine opsR_q rfl (q_assign) ?_
  simp only [nrm, Nat.reduceAdd, Nat.reduceMul, Nat.reduceSub, Int.reduceToNat, Int.reduceAdd]
  refine opsR_nil ?_
  refine hk1 _ _ ?_
  clear hk1
  refine run_seq fun _ hk2 => ?_
  refine run_region ?_
  refine opsR_q rfl (q_move) ?_
  simp only [nrm, Nat.reduceAdd, Nat.reduceMul, Nat.reduceSub, Int.reduceToNat, Int.reduceAdd]
  refine opsR_q rfl (q_call rfl (refClamp_spec _ _)) ?_
  simp only [nrm, Nat.reduceAdd, Nat.reduceMul, Nat.reduceSub, Int.reduceToNat, Int.reduceAdd]
  refine opsR_q rfl (q_move) ?_
  simp only [nrm, Nat.reduceAdd, Nat.reduceMul, Nat.reduceSub, Int.reduceToNat, Int.reduceAdd]
  refine opsR_q rfl (q_call rfl (refClamp_spec _ _)) ?_
  simp only [nrm, Nat.reduceAdd, Nat.reduceMul, Nat.reduceSub, Int.reduceToNat, Int.reduceAdd]
  refine opsR_q rfl (q_move) ?_
  simp only [nrm, Nat.reduceAdd, Nat.reduceMul, Nat.reduceSub, Int.reduceToNat, Int.reduceAdd]
  refine opsR_q rfl (q_min rfl rfl) ?_
  simp only [nrm, Nat.reduceAdd, Nat.reduceMul, Nat.reduceSub, Int.reduceToNat, Int.reduceAdd]
  refine opsR_q rfl (q_max rfl rfl) ?_
  simp only [nrm, Nat.reduceAdd, Nat.reduceMul, Nat.reduceSub, Int.reduceToNat, Int.reduceAdd]
  rw [h7]
  refine opsR_q rfl (q_assign) ?_
  simp only [nrm, Nat.reduceAdd, Nat.reduceMul, Nat.reduceSub, Int.reduceToNat, Int.reduceAdd]
  refine opsR_q rfl (q_assign) ?_
  simp only [nrm, Nat.reduceAdd, Nat.reduceMul, Nat.reduceSub, Int.reduceToNat, Int.reduceAdd]
  refine opsR_q rfl (q_assign) ?_
  simp only [nrm, Nat.reduceAdd, Nat.reduceMul, Nat.reduceSub, Int.reduceToNat, Int.reduceAdd]
  refine opsR_nil ?_
  refine hk2 _ _ ?_
  clear hk2
  refine run_seq fun _ hk6 => ?_
  refine run_seq fun _ hk7 => ?_
  refine run_region ?_
  refine opsR_q rfl (q_move) ?_
  simp only [nrm, Nat.reduceAdd, Nat.reduceMul, Nat.reduceSub, Int.reduceToNat, Int.reduceAdd]
  refine opsR_q rfl (q_eql rfl rfl) ?_
  simp only [nrm, Nat.reduceAdd, Nat.reduceMul, Nat.reduceSub, Int.reduceToNat, Int.reduceAdd]
  refine opsR_nil ?_
  refine hk7 _ _ ?_
  clear hk7
  refine run_cond rfl (fun ho8 => ?_) (fun ho8 => ?_)
  · have hc8 := ho8; try simp only [spl] at hc8
    refine run_seq fun _ hk9 => ?_
    refine run_region ?_
    refine opsR_q rfl (q_assign) ?_
    simp only [nrm, Nat.reduceAdd, Nat.reduceMul, Nat.reduceSub, Int.reduceToNat, Int.reduceAdd]
    refine opsR_nil ?_
    refine hk9 _ _ ?_
    clear hk9
    refine run_ret ?_
    exact end_tmp rfl rfl rfl (by first | exact .refl | exact .drop | exact .drop2 | exact .drop3 | exact .drop4 | exact Gh.drop.trans .drop4 | exact Gh.drop2.trans .drop4 | exact Gh.drop3.trans .drop4) (eqK hK (congrArg (Go.Value.int .i64) (by rw [Q.share, if_pos (by assumption)])))
  · have hc8 := ho8; try simp only [spl] at hc8
    refine run_skip ?_
    refine hk6 _ _ ?_
    clear hk6
    refine run_seq fun _ hk10 => ?_
    refine run_region ?_
    refine opsR_q rfl (q_move) ?_
    simp only [nrm, Nat.reduceAdd, Nat.reduceMul, Nat.reduceSub, Int.reduceToNat, Int.reduceAdd]
    refine opsR_q rfl (q_move) ?_
    simp only [nrm, Nat.reduceAdd, Nat.reduceMul, Nat.reduceSub, Int.reduceToNat, Int.reduceAdd]
    refine opsR_q rfl (q_move) ?_
    simp only [nrm, Nat.reduceAdd, Nat.reduceMul, Nat.reduceSub, Int.reduceToNat, Int.reduceAdd]
    refine opsR_q rfl (by first | exact q_mul64 rfl rfl (by omega) (by omega) | exact q_mul rfl rfl) ?_
    simp only [nrm, Nat.reduceAdd, Nat.reduceMul, Nat.reduceSub, Int.reduceToNat, Int.reduceAdd]
    refine opsR_q rfl (q_move) ?_
    simp only [nrm, Nat.reduceAdd, Nat.reduceMul, Nat.reduceSub, Int.reduceToNat, Int.reduceAdd]
    refine opsR_q rfl (by first | exact q_quo64 rfl rfl (by omega) (by omega) (by omega) | exact q_quo rfl rfl (by first | decide | assumption | omega)) ?_
    simp only [nrm, Nat.reduceAdd, Nat.reduceMul, Nat.reduceSub, Int.reduceToNat, Int.reduceAdd]
    refine opsR_q rfl (q_min rfl rfl) ?_
    simp only [nrm, Nat.reduceAdd, Nat.reduceMul, Nat.reduceSub, Int.reduceToNat, Int.reduceAdd]
    refine opsR_q rfl (q_assign) ?_
    simp only [nrm, Nat.reduceAdd, Nat.reduceMul, Nat.reduceSub, Int.reduceToNat, Int.reduceAdd]
    refine opsR_nil ?_
    refine hk10 _ _ ?_
    clear hk10
    refine run_ret ?_
    first | exact end_tmp rfl rfl rfl (by first | exact .refl | exact .drop | exact .drop2 | exact .drop3 | exact .drop4 | exact Gh.drop.trans .drop4 | exact Gh.drop2.trans .drop4 | exact Gh.drop3.trans .drop4) hK | exact end_tmp rfl rfl rfl (by first | exact .refl | exact .drop | exact .drop2 | exact .drop3 | exact .drop4 | exact Gh.drop.trans .drop4 | exact Gh.drop2.trans .drop4 | exact Gh.drop3.trans .drop4) (eqK hK (congrArg (Go.Value.int .i64) (by rw [Q.share, if_neg (by assumption)])))
theorem refPlus_spec (a b c a' b' c' : Int) (s : St) : CallV Tryd.prog 28 #[R3 a b c, R3 a' b' c'] s (R3 (Q.add a a') (Q.add b b') (Q.add c c')) := by
  intro K hK
  refine callS_of_run Tryd.func28 rfl ?_; simp only [Tryd.ntmps28, List.size_toArray, List.length_cons, List.length_nil, Nat.reduceAdd, Nat.reduceSub, Array.replicate_succ, Array.replicate_zero, List.push_toArray, List.append_toArray, List.nil_append, List.cons_append]
  refine run_seq fun _ hk1 => ?_
  refine run_region ?_
  refine opsR_o rfl (o_box fun b2 hb2 => ?_)
  simp only [nrm, Nat.reduceAdd, Nat.reduceMul, Nat.reduceSub, Int.reduceToNat, Int.reduceAdd]
  refine opsR_o rfl (o_box fun b3 hb3 => ?_)
  simp only [nrm, Nat.reduceAdd, Nat.reduceMul, Nat.reduceSub, Int.reduceToNat, Int.reduceAdd]
  refine opsR_o rfl (o_alloc fun b4 hb4 => ?_)
  simp only [nrm, Nat.reduceAdd, Nat.reduceMul, Nat.reduceSub, Int.reduceToNat, Int.reduceAdd]
  refine opsR_nil ?_
  refine hk1 _ _ ?_
  clear hk1
  refine run_seq fun _ hk5 => ?_
  refine run_drawE mixed 16 (by kernel_rfl) rfl ?_
  simp only [List.take_succ_cons, List.take_zero, List.drop_succ_cons, List.drop_zero, List.drop_nil, List.take_nil]
  refine oblE_q rfl (fun I hI => (q_fieldAddr rfl)) ?_
  simp only [nrm, Nat.reduceAdd, Nat.reduceMul, Nat.reduceSub, Int.reduceToNat, Int.reduceAdd]
  refine oblE_q rfl (fun I hI => (q_loadB1 rfl inferInstance rfl)) ?_
  simp only [nrm, Nat.reduceAdd, Nat.reduceMul, Nat.reduceSub, Int.reduceToNat, Int.reduceAdd]
  refine oblE_q rfl (fun I hI => (q_fieldAddr rfl)) ?_
  simp only [nrm, Nat.reduceAdd, Nat.reduceMul, Nat.reduceSub, Int.reduceToNat, Int.reduceAdd]
  refine oblE_q rfl (fun I hI => (q_loadB1 rfl inferInstance rfl)) ?_
  simp only [nrm, Nat.reduceAdd, Nat.reduceMul, Nat.reduceSub, Int.reduceToNat, Int.reduceAdd]
  refine oblE_q rfl (fun I hI => (q_call rfl (refAdd_spec _ _ _))) ?_
  simp only [nrm, Nat.reduceAdd, Nat.reduceMul, Nat.reduceSub, Int.reduceToNat, Int.reduceAdd]
  refine oblE_q rfl (fun I hI => (q_fieldAddr rfl)) ?_
  simp only [nrm, Nat.reduceAdd, Nat.reduceMul, Nat.reduceSub, Int.reduceToNat, Int.reduceAdd]
  refine oblE_q rfl (fun I hI => (q_loadB1 rfl inferInstance rfl)) ?_
  simp only [nrm, Nat.reduceAdd, Nat.reduceMul, Nat.reduceSub, Int.reduceToNat, Int.reduceAdd]
  refine oblE_q rfl (fun I hI => (q_fieldAddr rfl)) ?_
  simp only [nrm, Nat.reduceAdd, Nat.reduceMul, Nat.reduceSub, Int.reduceToNat, Int.reduceAdd]
  refine oblE_q rfl (fun I hI => (q_loadB1 rfl inferInstance rfl)) ?_
  simp only [nrm, Nat.reduceAdd, Nat.reduceMul, Nat.reduceSub, Int.reduceToNat, Int.reduceAdd]
  refine oblE_q rfl (fun I hI => (q_call rfl (refAdd_spec _ _ _))) ?_
  simp only [nrm, Nat.reduceAdd, Nat.reduceMul, Nat.reduceSub, Int.reduceToNat, Int.reduceAdd]
  refine oblE_q rfl (fun I hI => (q_fieldAddr rfl)) ?_
  simp only [nrm, Nat.reduceAdd, Nat.reduceMul, Nat.reduceSub, Int.reduceToNat, Int.reduceAdd]
  refine oblE_q rfl (fun I hI => (q_loadB1 rfl inferInstance rfl)) ?_
  simp only [nrm, Nat.reduceAdd, Nat.reduceMul, Nat.reduceSub, Int.reduceToNat, Int.reduceAdd]
  refine oblE_q rfl (fun I hI => (q_fieldAddr rfl)) ?_
  simp only [nrm, Nat.reduceAdd, Nat.reduceMul, Nat.reduceSub, Int.reduceToNat, Int.reduceAdd]
  refine oblE_q rfl (fun I hI => (q_loadB1 rfl inferInstance rfl)) ?_
  simp only [nrm, Nat.reduceAdd, Nat.reduceMul, Nat.reduceSub, Int.reduceToNat, Int.reduceAdd]
  refine oblE_q rfl (fun I hI => (q_call rfl (refAdd_spec _ _ _))) ?_
  simp only [nrm, Nat.reduceAdd, Nat.reduceMul, Nat.reduceSub, Int.reduceToNat, Int.reduceAdd]
  refine oblE_q rfl (fun I hI => (q_build rfl)) ?_
  simp only [nrm, Nat.reduceAdd, Nat.reduceMul, Nat.reduceSub, Int.reduceToNat, Int.reduceAdd]
  refine oblE_nil (show OpsR _ _ _ _ _ _ from ?_)
  try simp only [nrm, Nat.reduceAdd, Nat.reduceMul, Nat.reduceSub, Int.reduceToNat, Int.reduceAdd]
  refine opsR_o rfl (o_storeB rfl rfl inferInstance (by first | rfl | assumption) (by first | rfl | exact Kd.one _ (by assumption) | assumption) (by first | rfl | (refine Nat.ble_eq_true_of_le ?_; (try simp only [Int.toNat_natCast]); omega)) ?_)
  simp only [nrm, Nat.reduceAdd, Nat.reduceMul, Nat.reduceSub, Int.reduceToNat, Int.reduceAdd]
  refine opsR_nil ?_
  refine hk5 _ _ ?_
  clear hk5
  refine run_ret ?_
  exact end_cell rfl rfl rfl (AtB.has inferInstance) (by first | rfl | assumption) (by first | exact .refl | exact .drop | exact .drop2 | exact .drop3 | exact .drop4 | exact Gh.drop.trans .drop4 | exact Gh.drop2.trans .drop4 | exact Gh.drop3.trans .drop4) hK
theorem refMinus_spec (a b c a' b' c' : Int) (s : St) : CallV Tryd.prog 29 #[R3 a b c, R3 a' b' c'] s (R3 (Q.sub a a') (Q.sub b b') (Q.sub c c')) := by
  intro K hK
  refine callS_of_run Tryd.func29 rfl ?_; simp only [Tryd.ntmps29, List.size_toArray, List.length_cons, List.length_nil, Nat.reduceAdd, Nat.reduceSub, Array.replicate_succ, Array.replicate_zero, List.push_toArray, List.append_toArray, List.nil_append, List.cons_append]
  refine run_seq fun _ hk1 => ?_
  refine run_region ?_
  refine opsR_o rfl (o_box fun b2 hb2 => ?_)
  simp only [nrm, Nat.reduceAdd, Nat.reduceMul, Nat.reduceSub, Int.reduceToNat, Int.reduceAdd]
  refine opsR_o rfl (o_box fun b3 hb3 => ?_)
  simp only [nrm, Nat.reduceAdd, Nat.reduceMul, Nat.reduceSub, Int.reduceToNat, Int.reduceAdd]
  refine opsR_o rfl (o_alloc fun b4 hb4 => ?_)
  simp only [nrm, Nat.reduceAdd, Nat.reduceMul, Nat.reduceSub, Int.reduceToNat, Int.reduceAdd]
  refine opsR_nil ?_
  refine hk1 _ _ ?_
  clear hk1
  refine run_seq fun _ hk5 => ?_
  refine run_drawE mixed 16 (by kernel_rfl) rfl ?_
  simp only [List.take_succ_cons, List.take_zero, List.drop_succ_cons, List.drop_zero, List.drop_nil, List.take_nil]
  refine oblE_q rfl (fun I hI => (q_fieldAddr rfl)) ?_
  simp only [nrm, Nat.reduceAdd, Nat.reduceMul, Nat.reduceSub, Int.reduceToNat, Int.reduceAdd]
  refine oblE_q rfl (fun I hI => (q_loadB1 rfl inferInstance rfl)) ?_
  simp only [nrm, Nat.reduceAdd, Nat.reduceMul, Nat.reduceSub, Int.reduceToNat, Int.reduceAdd]
  refine oblE_q rfl (fun I hI => (q_fieldAddr rfl)) ?_
  simp only [nrm, Nat.reduceAdd, Nat.reduceMul, Nat.reduceSub, Int.reduceToNat, Int.reduceAdd]
  refine oblE_q rfl (fun I hI => (q_loadB1 rfl inferInstance rfl)) ?_
  simp only [nrm, Nat.reduceAdd, Nat.reduceMul, Nat.reduceSub, Int.reduceToNat, Int.reduceAdd]
  refine oblE_q rfl (fun I hI => (q_call rfl (refSub_spec _ _ _))) ?_
  simp only [nrm, Nat.reduceAdd, Nat.reduceMul, Nat.reduceSub, Int.reduceToNat, Int.reduceAdd]
  refine oblE_q rfl (fun I hI => (q_fieldAddr rfl)) ?_
  simp only [nrm, Nat.reduceAdd, Nat.reduceMul, Nat.reduceSub, Int.reduceToNat, Int.reduceAdd]
  refine oblE_q rfl (fun I hI => (q_loadB1 rfl inferInstance rfl)) ?_
  simp only [nrm, Nat.reduceAdd, Nat.reduceMul, Nat.reduceSub, Int.reduceToNat, Int.reduceAdd]
  refine oblE_q rfl (fun I hI => (q_fieldAddr rfl)) ?_
  simp only [nrm, Nat.reduceAdd, Nat.reduceMul, Nat.reduceSub, Int.reduceToNat, Int.reduceAdd]
  refine oblE_q rfl (fun I hI => (q_loadB1 rfl inferInstance rfl)) ?_
  simp only [nrm, Nat.reduceAdd, Nat.reduceMul, Nat.reduceSub, Int.reduceToNat, Int.reduceAdd]
  refine oblE_q rfl (fun I hI => (q_call rfl (refSub_spec _ _ _))) ?_
  simp only [nrm, Nat.reduceAdd, Nat.reduceMul, Nat.reduceSub, Int.reduceToNat, Int.reduceAdd]
  refine oblE_q rfl (fun I hI => (q_fieldAddr rfl)) ?_
  simp only [nrm, Nat.reduceAdd, Nat.reduceMul, Nat.reduceSub, Int.reduceToNat, Int.reduceAdd]
  refine oblE_q rfl (fun I hI => (q_loadB1 rfl inferInstance rfl)) ?_
  simp only [nrm, Nat.reduceAdd, Nat.reduceMul, Nat.reduceSub, Int.reduceToNat, Int.reduceAdd]
  refine oblE_q rfl (fun I hI => (q_fieldAddr rfl)) ?_
  simp only [nrm, Nat.reduceAdd, Nat.reduceMul, Nat.reduceSub, Int.reduceToNat, Int.reduceAdd]
  refine oblE_q rfl (fun I hI => (q_loadB1 rfl inferInstance rfl)) ?_
  simp only [nrm, Nat.reduceAdd, Nat.reduceMul, Nat.reduceSub, Int.reduceToNat, Int.reduceAdd]
  refine oblE_q rfl (fun I hI => (q_call rfl (refSub_spec _ _ _))) ?_
  simp only [nrm, Nat.reduceAdd, Nat.reduceMul, Nat.reduceSub, Int.reduceToNat, Int.reduceAdd]
  refine oblE_q rfl (fun I hI => (q_build rfl)) ?_
  simp only [nrm, Nat.reduceAdd, Nat.reduceMul, Nat.reduceSub, Int.reduceToNat, Int.reduceAdd]
  refine oblE_nil (show OpsR _ _ _ _ _ _ from ?_)
  try simp only [nrm, Nat.reduceAdd, Nat.reduceMul, Nat.reduceSub, Int.reduceToNat, Int.reduceAdd]
  refine opsR_o rfl (o_storeB rfl rfl inferInstance (by first | rfl | assumption) (by first | rfl | exact Kd.one _ (by assumption) | assumption) (by first | rfl | (refine Nat.ble_eq_true_of_le ?_; (try simp only [Int.toNat_natCast]); omega)) ?_)
  simp only [nrm, Nat.reduceAdd, Nat.reduceMul, Nat.reduceSub, Int.reduceToNat, Int.reduceAdd]
  refine opsR_nil ?_
  refine hk5 _ _ ?_
  clear hk5
  refine run_ret ?_
  exact end_cell rfl rfl rfl (AtB.has inferInstance) (by first | rfl | assumption) (by first | exact .refl | exact .drop | exact .drop2 | exact .drop3 | exact .drop4 | exact Gh.drop.trans .drop4 | exact Gh.drop2.trans .drop4 | exact Gh.drop3.trans .drop4) hK
theorem fits_no {w f : Res} (h : ¬ Q.clamp w.CPU ≤ Q.clamp f.CPU ∨ ¬ Q.clamp w.Mem ≤ Q.clamp f.Mem ∨ ¬ Q.clamp w.Disk ≤ Q.clamp f.Disk) : Res.fits w f = false := decide_eq_false (by rintro ⟨a, b, c⟩; rcases h with h | h | h <;> contradiction)
theorem fits_yes {w f : Res} (h1 : Q.clamp w.CPU ≤ Q.clamp f.CPU) (h2 : Q.clamp w.Mem ≤ Q.clamp f.Mem) (h3 : Q.clamp w.Disk ≤ Q.clamp f.Disk) : Res.fits w f = true := decide_eq_true ⟨h1, h2, h3⟩
set_option maxHeartbeats 1000000 in
theorem Fits_spec (w f : Res) (s : St) : CallV Tryd.prog 25 #[w.v, f.v] s (.bool (Res.fits w f)) := by
  intro K hK
  refine callS_of_run Tryd.func25 rfl ?_; simp only [Tryd.ntmps25, List.size_toArray, List.length_cons, List.length_nil, Nat.reduceAdd, Nat.reduceSub, Array.replicate_succ, Array.replicate_zero, List.push_toArray, List.append_toArray, List.nil_append, List.cons_append]
  refine run_seq fun _ hk1 => ?_
  refine run_region ?_
  refine opsR_o rfl (o_box fun b2 hb2 => ?_)
  simp only [nrm, Nat.reduceAdd, Nat.reduceMul, Nat.reduceSub, Int.reduceToNat, Int.reduceAdd]
  refine opsR_o rfl (o_box fun b3 hb3 => ?_)
  simp only [nrm, Nat.reduceAdd, Nat.reduceMul, Nat.reduceSub, Int.reduceToNat, Int.reduceAdd]
  refine opsR_q rfl (q_assign) ?_
  simp only [nrm, Nat.reduceAdd, Nat.reduceMul, Nat.reduceSub, Int.reduceToNat, Int.reduceAdd]
  refine opsR_nil ?_
  refine hk1 _ _ ?_
  clear hk1
  refine run_seq fun _ hk4 => ?_
  refine run_region ?_
  refine opsR_q rfl (by first | exact q_loadBN rfl inferInstance (by rfl) | exact q_loadBW rfl inferInstance (by assumption)) ?_
  simp only [nrm, Nat.reduceAdd, Nat.reduceMul, Nat.reduceSub, Int.reduceToNat, Int.reduceAdd]
  refine opsR_q rfl (q_call rfl (of_spec _ _ _ _)) ?_
  simp only [nrm, Nat.reduceAdd, Nat.reduceMul, Nat.reduceSub, Int.reduceToNat, Int.reduceAdd]
  refine opsR_o rfl (o_alloc fun b6 hb6 => ?_)
  simp only [nrm, Nat.reduceAdd, Nat.reduceMul, Nat.reduceSub, Int.reduceToNat, Int.reduceAdd]
  refine opsR_o rfl (o_storeB rfl rfl inferInstance (by first | rfl | assumption) (by first | rfl | exact Kd.one _ (by assumption) | assumption) (by first | rfl | (refine Nat.ble_eq_true_of_le ?_; (try simp only [Int.toNat_natCast]); omega)) ?_)
  simp only [nrm, Nat.reduceAdd, Nat.reduceMul, Nat.reduceSub, Int.reduceToNat, Int.reduceAdd]
  refine opsR_nil ?_
  refine hk4 _ _ ?_
  clear hk4
  refine run_seq fun _ hk7 => ?_
  refine run_seq fun _ hk8 => ?_
  refine run_region ?_
  refine opsR_q rfl (by first | exact q_loadBN rfl inferInstance (by rfl) | exact q_loadBW rfl inferInstance (by assumption)) ?_
  simp only [nrm, Nat.reduceAdd, Nat.reduceMul, Nat.reduceSub, Int.reduceToNat, Int.reduceAdd]
  refine opsR_q rfl (q_call rfl (of_spec _ _ _ _)) ?_
  simp only [nrm, Nat.reduceAdd, Nat.reduceMul, Nat.reduceSub, Int.reduceToNat, Int.reduceAdd]
  refine opsR_q rfl (q_move) ?_
  simp only [nrm, Nat.reduceAdd, Nat.reduceMul, Nat.reduceSub, Int.reduceToNat, Int.reduceAdd]
  refine opsR_nil ?_
  refine hk8 _ _ ?_
  clear hk8
  refine run_block ?_
  refine run_rounds 4 ?_
  refine run_round fun _ hk10 => ?_
  refine run_seq fun _ hk11 => ?_
  refine run_region ?_
  refine opsR_q rfl (q_lss rfl rfl) ?_
  simp only [nrm, Nat.reduceAdd, Nat.reduceMul, Nat.reduceSub, Int.reduceToNat, Int.reduceAdd]
  refine opsR_nil ?_
  refine hk11 _ _ ?_
  clear hk11
  refine run_seq fun _ hk12 => ?_
  refine run_cond (t := true) rfl (fun _ => ?_) (fun h => by cases h)
  refine run_skip ?_
  refine hk12 _ _ ?_
  clear hk12
  refine run_seq fun _ hk13 => ?_
  refine run_block ?_
  refine run_seq fun _ hk14 => ?_
  refine run_region ?_
  refine opsR_q rfl (q_move) ?_
  simp only [nrm, Nat.reduceAdd, Nat.reduceMul, Nat.reduceSub, Int.reduceToNat, Int.reduceAdd]
  refine opsR_q rfl (q_index_array rfl rfl (by omega) (by omega) rfl rfl) ?_
  simp only [nrm, Nat.reduceAdd, Nat.reduceMul, Nat.reduceSub, Int.reduceToNat, Int.reduceAdd]
  refine opsR_q rfl (q_assign) ?_
  simp only [nrm, Nat.reduceAdd, Nat.reduceMul, Nat.reduceSub, Int.reduceToNat, Int.reduceAdd]
  refine opsR_q rfl (q_assign) ?_
  simp only [nrm, Nat.reduceAdd, Nat.reduceMul, Nat.reduceSub, Int.reduceToNat, Int.reduceAdd]
  refine opsR_nil ?_
  refine hk14 _ _ ?_
  clear hk14
  refine run_seq fun _ hk15 => ?_
  refine run_drawE mixed 7 (by kernel_rfl) rfl ?_
  simp only [List.take_succ_cons, List.take_zero, List.drop_succ_cons, List.drop_zero, List.drop_nil, List.take_nil]
  refine oblE_q rfl (fun I hI => (q_move)) ?_
  simp only [nrm, Nat.reduceAdd, Nat.reduceMul, Nat.reduceSub, Int.reduceToNat, Int.reduceAdd]
  refine oblE_q rfl (fun I hI => (q_call rfl (clamp_spec _ _))) ?_
  simp only [nrm, Nat.reduceAdd, Nat.reduceMul, Nat.reduceSub, Int.reduceToNat, Int.reduceAdd]
  refine oblE_q rfl (fun I hI => (q_move)) ?_
  simp only [nrm, Nat.reduceAdd, Nat.reduceMul, Nat.reduceSub, Int.reduceToNat, Int.reduceAdd]
  refine oblE_q rfl (fun I hI => (q_index_arr rfl rfl (by omega) (by omega))) ?_
  simp only [nrm, Nat.reduceAdd, Nat.reduceMul, Nat.reduceSub, Int.reduceToNat, Int.reduceAdd]
  refine oblE_q rfl (fun I hI => (q_loadB1 rfl inferInstance rfl)) ?_
  simp only [nrm, Nat.reduceAdd, Nat.reduceMul, Nat.reduceSub, Int.reduceToNat, Int.reduceAdd]
  refine oblE_q rfl (fun I hI => (q_call rfl (clamp_spec _ _))) ?_
  simp only [nrm, Nat.reduceAdd, Nat.reduceMul, Nat.reduceSub, Int.reduceToNat, Int.reduceAdd]
  refine oblE_q rfl (fun I hI => (q_gtr rfl rfl)) ?_
  simp only [nrm, Nat.reduceAdd, Nat.reduceMul, Nat.reduceSub, Int.reduceToNat, Int.reduceAdd]
  refine oblE_nil (show OpsR _ _ _ _ _ _ from ?_)
  try simp only [nrm, Nat.reduceAdd, Nat.reduceMul, Nat.reduceSub, Int.reduceToNat, Int.reduceAdd]
  refine opsR_nil ?_
  refine hk15 _ _ ?_
  clear hk15
  refine run_cond rfl (fun ho17 => ?_) (fun ho17 => ?_)
  · have hc17 := ho17; try simp only [spl] at hc17
    refine run_seq fun _ hk18 => ?_
    refine run_region ?_
    refine opsR_q rfl (q_assign) ?_
    simp only [nrm, Nat.reduceAdd, Nat.reduceMul, Nat.reduceSub, Int.reduceToNat, Int.reduceAdd]
    refine opsR_nil ?_
    refine hk18 _ _ ?_
    clear hk18
    refine run_ret ?_
    exact end_tmp rfl rfl rfl (by first | exact .refl | exact .drop | exact .drop2 | exact .drop3 | exact .drop4 | exact Gh.drop.trans .drop4 | exact Gh.drop2.trans .drop4 | exact Gh.drop3.trans .drop4) (eqK hK (congrArg Go.Value.bool (by exact fits_no (by omega))))
  · have hc17 := ho17; try simp only [spl] at hc17
    refine run_skip ?_
    refine hk13 _ _ ?_
    clear hk13
    refine run_region ?_
    refine opsR_q rfl (by first | exact q_add64 rfl rfl (by omega) (by omega) | exact q_add rfl rfl) ?_
    simp only [nrm, Nat.reduceAdd, Nat.reduceMul, Nat.reduceSub, Int.reduceToNat, Int.reduceAdd]
    refine opsR_q rfl (q_move) ?_
    simp only [nrm, Nat.reduceAdd, Nat.reduceMul, Nat.reduceSub, Int.reduceToNat, Int.reduceAdd]
    refine opsR_nil ?_
    refine hk10 _ _ ?_
    clear hk10
    refine run_round fun _ hk19 => ?_
    refine run_seq fun _ hk20 => ?_
    refine run_region ?_
    refine opsR_q rfl (q_lss rfl rfl) ?_
    simp only [nrm, Nat.reduceAdd, Nat.reduceMul, Nat.reduceSub, Int.reduceToNat, Int.reduceAdd]
    refine opsR_nil ?_
    refine hk20 _ _ ?_
    clear hk20
    refine run_seq fun _ hk21 => ?_
    refine run_cond (t := true) rfl (fun _ => ?_) (fun h => by cases h)
    refine run_skip ?_
    refine hk21 _ _ ?_
    clear hk21
    refine run_seq fun _ hk22 => ?_
    refine run_block ?_
    refine run_seq fun _ hk23 => ?_
    refine run_region ?_
    refine opsR_q rfl (q_move) ?_
    simp only [nrm, Nat.reduceAdd, Nat.reduceMul, Nat.reduceSub, Int.reduceToNat, Int.reduceAdd]
    refine opsR_q rfl (q_index_array rfl rfl (by omega) (by omega) rfl rfl) ?_
    simp only [nrm, Nat.reduceAdd, Nat.reduceMul, Nat.reduceSub, Int.reduceToNat, Int.reduceAdd]
    refine opsR_q rfl (q_assign) ?_
    simp only [nrm, Nat.reduceAdd, Nat.reduceMul, Nat.reduceSub, Int.reduceToNat, Int.reduceAdd]
    refine opsR_q rfl (q_assign) ?_
    simp only [nrm, Nat.reduceAdd, Nat.reduceMul, Nat.reduceSub, Int.reduceToNat, Int.reduceAdd]
    refine opsR_nil ?_
    refine hk23 _ _ ?_
    clear hk23
    refine run_seq fun _ hk24 => ?_
    refine run_drawE mixed 7 (by kernel_rfl) rfl ?_
    simp only [List.take_succ_cons, List.take_zero, List.drop_succ_cons, List.drop_zero, List.drop_nil, List.take_nil]
    refine oblE_q rfl (fun I hI => (q_move)) ?_
    simp only [nrm, Nat.reduceAdd, Nat.reduceMul, Nat.reduceSub, Int.reduceToNat, Int.reduceAdd]
    refine oblE_q rfl (fun I hI => (q_call rfl (clamp_spec _ _))) ?_
    simp only [nrm, Nat.reduceAdd, Nat.reduceMul, Nat.reduceSub, Int.reduceToNat, Int.reduceAdd]
    refine oblE_q rfl (fun I hI => (q_move)) ?_
    simp only [nrm, Nat.reduceAdd, Nat.reduceMul, Nat.reduceSub, Int.reduceToNat, Int.reduceAdd]
    refine oblE_q rfl (fun I hI => (q_index_arr rfl rfl (by omega) (by omega))) ?_
    simp only [nrm, Nat.reduceAdd, Nat.reduceMul, Nat.reduceSub, Int.reduceToNat, Int.reduceAdd]
    refine oblE_q rfl (fun I hI => (q_loadB1 rfl inferInstance rfl)) ?_
    simp only [nrm, Nat.reduceAdd, Nat.reduceMul, Nat.reduceSub, Int.reduceToNat, Int.reduceAdd]
    refine oblE_q rfl (fun I hI => (q_call rfl (clamp_spec _ _))) ?_
    simp only [nrm, Nat.reduceAdd, Nat.reduceMul, Nat.reduceSub, Int.reduceToNat, Int.reduceAdd]
    refine oblE_q rfl (fun I hI => (q_gtr rfl rfl)) ?_
    simp only [nrm, Nat.reduceAdd, Nat.reduceMul, Nat.reduceSub, Int.reduceToNat, Int.reduceAdd]
    refine oblE_nil (show OpsR _ _ _ _ _ _ from ?_)
    try simp only [nrm, Nat.reduceAdd, Nat.reduceMul, Nat.reduceSub, Int.reduceToNat, Int.reduceAdd]
    refine opsR_nil ?_
    refine hk24 _ _ ?_
    clear hk24
    refine run_cond rfl (fun ho25 => ?_) (fun ho25 => ?_)
    · have hc25 := ho25; try simp only [spl] at hc25
      refine run_seq fun _ hk26 => ?_
      refine run_region ?_
      refine opsR_q rfl (q_assign) ?_
      simp only [nrm, Nat.reduceAdd, Nat.reduceMul, Nat.reduceSub, Int.reduceToNat, Int.reduceAdd]
      refine opsR_nil ?_
      refine hk26 _ _ ?_
      clear hk26
      refine run_ret ?_
      exact end_tmp rfl rfl rfl (by first | exact .refl | exact .drop | exact .drop2 | exact .drop3 | exact .drop4 | exact Gh.drop.trans .drop4 | exact Gh.drop2.trans .drop4 | exact Gh.drop3.trans .drop4) (eqK hK (congrArg Go.Value.bool (by exact fits_no (by omega))))
    · have hc25 := ho25; try simp only [spl] at hc25
      refine run_skip ?_
      refine hk22 _ _ ?_
      clear hk22
      refine run_region ?_
      refine opsR_q rfl (by first | exact q_add64 rfl rfl (by omega) (by omega) | exact q_add rfl rfl) ?_
      simp only [nrm, Nat.reduceAdd, Nat.reduceMul, Nat.reduceSub, Int.reduceToNat, Int.reduceAdd]
      refine opsR_q rfl (q_move) ?_
      simp only [nrm, Nat.reduceAdd, Nat.reduceMul, Nat.reduceSub, Int.reduceToNat, Int.reduceAdd]
      refine opsR_nil ?_
      refine hk19 _ _ ?_
      clear hk19
      refine run_round fun _ hk27 => ?_
      refine run_seq fun _ hk28 => ?_
      refine run_region ?_
      refine opsR_q rfl (q_lss rfl rfl) ?_
      simp only [nrm, Nat.reduceAdd, Nat.reduceMul, Nat.reduceSub, Int.reduceToNat, Int.reduceAdd]
      refine opsR_nil ?_
      refine hk28 _ _ ?_
      clear hk28
      refine run_seq fun _ hk29 => ?_
      refine run_cond (t := true) rfl (fun _ => ?_) (fun h => by cases h)
      refine run_skip ?_
      refine hk29 _ _ ?_
      clear hk29
      refine run_seq fun _ hk30 => ?_
      refine run_block ?_
      refine run_seq fun _ hk31 => ?_
      refine run_region ?_
      refine opsR_q rfl (q_move) ?_
      simp only [nrm, Nat.reduceAdd, Nat.reduceMul, Nat.reduceSub, Int.reduceToNat, Int.reduceAdd]
      refine opsR_q rfl (q_index_array rfl rfl (by omega) (by omega) rfl rfl) ?_
      simp only [nrm, Nat.reduceAdd, Nat.reduceMul, Nat.reduceSub, Int.reduceToNat, Int.reduceAdd]
      refine opsR_q rfl (q_assign) ?_
      simp only [nrm, Nat.reduceAdd, Nat.reduceMul, Nat.reduceSub, Int.reduceToNat, Int.reduceAdd]
      refine opsR_q rfl (q_assign) ?_
      simp only [nrm, Nat.reduceAdd, Nat.reduceMul, Nat.reduceSub, Int.reduceToNat, Int.reduceAdd]
      refine opsR_nil ?_
      refine hk31 _ _ ?_
      clear hk31
      refine run_seq fun _ hk32 => ?_
      refine run_drawE mixed 7 (by kernel_rfl) rfl ?_
      simp only [List.take_succ_cons, List.take_zero, List.drop_succ_cons, List.drop_zero, List.drop_nil, List.take_nil]
      refine oblE_q rfl (fun I hI => (q_move)) ?_
      simp only [nrm, Nat.reduceAdd, Nat.reduceMul, Nat.reduceSub, Int.reduceToNat, Int.reduceAdd]
      refine oblE_q rfl (fun I hI => (q_call rfl (clamp_spec _ _))) ?_
      simp only [nrm, Nat.reduceAdd, Nat.reduceMul, Nat.reduceSub, Int.reduceToNat, Int.reduceAdd]
      refine oblE_q rfl (fun I hI => (q_move)) ?_
      simp only [nrm, Nat.reduceAdd, Nat.reduceMul, Nat.reduceSub, Int.reduceToNat, Int.reduceAdd]
      refine oblE_q rfl (fun I hI => (q_index_arr rfl rfl (by omega) (by omega))) ?_
      simp only [nrm, Nat.reduceAdd, Nat.reduceMul, Nat.reduceSub, Int.reduceToNat, Int.reduceAdd]
      refine oblE_q rfl (fun I hI => (q_loadB1 rfl inferInstance rfl)) ?_
      simp only [nrm, Nat.reduceAdd, Nat.reduceMul, Nat.reduceSub, Int.reduceToNat, Int.reduceAdd]
      refine oblE_q rfl (fun I hI => (q_call rfl (clamp_spec _ _))) ?_
      simp only [nrm, Nat.reduceAdd, Nat.reduceMul, Nat.reduceSub, Int.reduceToNat, Int.reduceAdd]
      refine oblE_q rfl (fun I hI => (q_gtr rfl rfl)) ?_
      simp only [nrm, Nat.reduceAdd, Nat.reduceMul, Nat.reduceSub, Int.reduceToNat, Int.reduceAdd]
      refine oblE_nil (show OpsR _ _ _ _ _ _ from ?_)
      try simp only [nrm, Nat.reduceAdd, Nat.reduceMul, Nat.reduceSub, Int.reduceToNat, Int.reduceAdd]
      refine opsR_nil ?_
      refine hk32 _ _ ?_
      clear hk32
      refine run_cond rfl (fun ho33 => ?_) (fun ho33 => ?_)
      · have hc33 := ho33; try simp only [spl] at hc33
        refine run_seq fun _ hk34 => ?_
        refine run_region ?_
        refine opsR_q rfl (q_assign) ?_
        simp only [nrm, Nat.reduceAdd, Nat.reduceMul, Nat.reduceSub, Int.reduceToNat, Int.reduceAdd]
        refine opsR_nil ?_
        refine hk34 _ _ ?_
        clear hk34
        refine run_ret ?_
        exact end_tmp rfl rfl rfl (by first | exact .refl | exact .drop | exact .drop2 | exact .drop3 | exact .drop4 | exact Gh.drop.trans .drop4 | exact Gh.drop2.trans .drop4 | exact Gh.drop3.trans .drop4) (eqK hK (congrArg Go.Value.bool (by exact fits_no (by omega))))
      · have hc33 := ho33; try simp only [spl] at hc33
        refine run_skip ?_
        refine hk30 _ _ ?_
        clear hk30
        refine run_region ?_
        refine opsR_q rfl (by first | exact q_add64 rfl rfl (by omega) (by omega) | exact q_add rfl rfl) ?_
        simp only [nrm, Nat.reduceAdd, Nat.reduceMul, Nat.reduceSub, Int.reduceToNat, Int.reduceAdd]
        refine opsR_q rfl (q_move) ?_
        simp only [nrm, Nat.reduceAdd, Nat.reduceMul, Nat.reduceSub, Int.reduceToNat, Int.reduceAdd]
        refine opsR_nil ?_
        refine hk27 _ _ ?_
        clear hk27
        refine run_round fun _ hk35 => ?_
        refine run_seq fun _ hk36 => ?_
        refine run_region ?_
        refine opsR_q rfl (q_lss rfl rfl) ?_
        simp only [nrm, Nat.reduceAdd, Nat.reduceMul, Nat.reduceSub, Int.reduceToNat, Int.reduceAdd]
        refine opsR_nil ?_
        refine hk36 _ _ ?_
        clear hk36
        refine run_seq fun _ hk37 => ?_
        refine run_cond (t := false) rfl (fun h => by cases h) (fun _ => ?_)
        refine run_exit ?_
        refine hk7 _ _ ?_
        clear hk7
        refine run_seq fun _ hk38 => ?_
        refine run_region ?_
        refine opsR_q rfl (q_assign) ?_
        simp only [nrm, Nat.reduceAdd, Nat.reduceMul, Nat.reduceSub, Int.reduceToNat, Int.reduceAdd]
        refine opsR_nil ?_
        refine hk38 _ _ ?_
        clear hk38
        refine run_ret ?_
        first | exact end_tmp rfl rfl rfl (by first | exact .refl | exact .drop | exact .drop2 | exact .drop3 | exact .drop4 | exact Gh.drop.trans .drop4 | exact Gh.drop2.trans .drop4 | exact Gh.drop3.trans .drop4) hK | exact end_tmp rfl rfl rfl (by first | exact .refl | exact .drop | exact .drop2 | exact .drop3 | exact .drop4 | exact Gh.drop.trans .drop4 | exact Gh.drop2.trans .drop4 | exact Gh.drop3.trans .drop4) (eqK hK (congrArg Go.Value.bool (by exact fits_yes (by omega) (by omega) (by omega))))
theorem refFits_spec (w f : Res) (s : St) : CallV Tryd.prog 30 #[w.v, f.v] s (.bool (Res.fits w f)) := by
  intro K hK
  refine callS_of_run Tryd.func30 rfl ?_; simp only [Tryd.ntmps30, List.size_toArray, List.length_cons, List.length_nil, Nat.reduceAdd, Nat.reduceSub, Array.replicate_succ, Array.replicate_zero, List.push_toArray, List.append_toArray, List.nil_append, List.cons_append]
  refine run_seq fun _ hk1 => ?_
  refine run_region ?_
  refine opsR_o rfl (o_box fun b2 hb2 => ?_)
  simp only [nrm, Nat.reduceAdd, Nat.reduceMul, Nat.reduceSub, Int.reduceToNat, Int.reduceAdd]
  refine opsR_o rfl (o_box fun b3 hb3 => ?_)
  simp only [nrm, Nat.reduceAdd, Nat.reduceMul, Nat.reduceSub, Int.reduceToNat, Int.reduceAdd]
  refine opsR_q rfl (q_assign) ?_
  simp only [nrm, Nat.reduceAdd, Nat.reduceMul, Nat.reduceSub, Int.reduceToNat, Int.reduceAdd]
  refine opsR_nil ?_
  refine hk1 _ _ ?_
  clear hk1
  refine run_seq fun _ hk4 => ?_
  refine run_drawE mixed 26 (by kernel_rfl) rfl ?_
  simp only [List.take_succ_cons, List.take_zero, List.drop_succ_cons, List.drop_zero, List.drop_nil, List.take_nil]
  refine oblE_q rfl (fun I hI => (q_fieldAddr rfl)) ?_
  simp only [nrm, Nat.reduceAdd, Nat.reduceMul, Nat.reduceSub, Int.reduceToNat, Int.reduceAdd]
  refine oblE_q rfl (fun I hI => (q_loadB1 rfl inferInstance rfl)) ?_
  simp only [nrm, Nat.reduceAdd, Nat.reduceMul, Nat.reduceSub, Int.reduceToNat, Int.reduceAdd]
  refine oblE_q rfl (fun I hI => (q_call rfl (refClamp_spec _ _))) ?_
  simp only [nrm, Nat.reduceAdd, Nat.reduceMul, Nat.reduceSub, Int.reduceToNat, Int.reduceAdd]
  refine oblE_q rfl (fun I hI => (q_fieldAddr rfl)) ?_
  simp only [nrm, Nat.reduceAdd, Nat.reduceMul, Nat.reduceSub, Int.reduceToNat, Int.reduceAdd]
  refine oblE_q rfl (fun I hI => (q_loadB1 rfl inferInstance rfl)) ?_
  simp only [nrm, Nat.reduceAdd, Nat.reduceMul, Nat.reduceSub, Int.reduceToNat, Int.reduceAdd]
  refine oblE_q rfl (fun I hI => (q_call rfl (refClamp_spec _ _))) ?_
  simp only [nrm, Nat.reduceAdd, Nat.reduceMul, Nat.reduceSub, Int.reduceToNat, Int.reduceAdd]
  refine oblE_q rfl (fun I hI => (q_leq rfl rfl)) ?_
  simp only [nrm, Nat.reduceAdd, Nat.reduceMul, Nat.reduceSub, Int.reduceToNat, Int.reduceAdd]
  refine oblE_qb rfl (fun I hI => (q_move)) (fun hc7 => ?_) (fun hc7 => ?_)
  · have ho7 := hc7; try simp only [spl] at hc7
    simp only [nrm, Nat.reduceAdd, Nat.reduceMul, Nat.reduceSub, Int.reduceToNat, Int.reduceAdd]
    refine oblE_q rfl (fun I hI => (q_fieldAddr rfl)) ?_
    simp only [nrm, Nat.reduceAdd, Nat.reduceMul, Nat.reduceSub, Int.reduceToNat, Int.reduceAdd]
    refine oblE_q rfl (fun I hI => (q_loadB1 rfl inferInstance rfl)) ?_
    simp only [nrm, Nat.reduceAdd, Nat.reduceMul, Nat.reduceSub, Int.reduceToNat, Int.reduceAdd]
    refine oblE_q rfl (fun I hI => (q_call rfl (refClamp_spec _ _))) ?_
    simp only [nrm, Nat.reduceAdd, Nat.reduceMul, Nat.reduceSub, Int.reduceToNat, Int.reduceAdd]
    refine oblE_q rfl (fun I hI => (q_fieldAddr rfl)) ?_
    simp only [nrm, Nat.reduceAdd, Nat.reduceMul, Nat.reduceSub, Int.reduceToNat, Int.reduceAdd]
    refine oblE_q rfl (fun I hI => (q_loadB1 rfl inferInstance rfl)) ?_
    simp only [nrm, Nat.reduceAdd, Nat.reduceMul, Nat.reduceSub, Int.reduceToNat, Int.reduceAdd]
    refine oblE_q rfl (fun I hI => (q_call rfl (refClamp_spec _ _))) ?_
    simp only [nrm, Nat.reduceAdd, Nat.reduceMul, Nat.reduceSub, Int.reduceToNat, Int.reduceAdd]
    refine oblE_q rfl (fun I hI => (q_leq rfl rfl)) ?_
    simp only [nrm, Nat.reduceAdd, Nat.reduceMul, Nat.reduceSub, Int.reduceToNat, Int.reduceAdd]
    refine oblE_q rfl (fun I hI => (q_pick_t rfl)) ?_
    simp only [nrm, Nat.reduceAdd, Nat.reduceMul, Nat.reduceSub, Int.reduceToNat, Int.reduceAdd]
    refine oblE_qb rfl (fun I hI => (q_move)) (fun hc8 => ?_) (fun hc8 => ?_)
    · have ho8 := hc8; try simp only [spl] at hc8
      simp only [nrm, Nat.reduceAdd, Nat.reduceMul, Nat.reduceSub, Int.reduceToNat, Int.reduceAdd]
      refine oblE_q rfl (fun I hI => (q_fieldAddr rfl)) ?_
      simp only [nrm, Nat.reduceAdd, Nat.reduceMul, Nat.reduceSub, Int.reduceToNat, Int.reduceAdd]
      refine oblE_q rfl (fun I hI => (q_loadB1 rfl inferInstance rfl)) ?_
      simp only [nrm, Nat.reduceAdd, Nat.reduceMul, Nat.reduceSub, Int.reduceToNat, Int.reduceAdd]
      refine oblE_q rfl (fun I hI => (q_call rfl (refClamp_spec _ _))) ?_
      simp only [nrm, Nat.reduceAdd, Nat.reduceMul, Nat.reduceSub, Int.reduceToNat, Int.reduceAdd]
      refine oblE_q rfl (fun I hI => (q_fieldAddr rfl)) ?_
      simp only [nrm, Nat.reduceAdd, Nat.reduceMul, Nat.reduceSub, Int.reduceToNat, Int.reduceAdd]
      refine oblE_q rfl (fun I hI => (q_loadB1 rfl inferInstance rfl)) ?_
      simp only [nrm, Nat.reduceAdd, Nat.reduceMul, Nat.reduceSub, Int.reduceToNat, Int.reduceAdd]
      refine oblE_q rfl (fun I hI => (q_call rfl (refClamp_spec _ _))) ?_
      simp only [nrm, Nat.reduceAdd, Nat.reduceMul, Nat.reduceSub, Int.reduceToNat, Int.reduceAdd]
      refine oblE_q rfl (fun I hI => (q_leq rfl rfl)) ?_
      simp only [nrm, Nat.reduceAdd, Nat.reduceMul, Nat.reduceSub, Int.reduceToNat, Int.reduceAdd]
      refine oblE_q rfl (fun I hI => (q_pick_t rfl)) ?_
      simp only [nrm, Nat.reduceAdd, Nat.reduceMul, Nat.reduceSub, Int.reduceToNat, Int.reduceAdd]
      refine oblE_q rfl (fun I hI => (q_assign)) ?_
      simp only [nrm, Nat.reduceAdd, Nat.reduceMul, Nat.reduceSub, Int.reduceToNat, Int.reduceAdd]
      refine oblE_nil (show OpsR _ _ _ _ _ _ from ?_)
      try simp only [nrm, Nat.reduceAdd, Nat.reduceMul, Nat.reduceSub, Int.reduceToNat, Int.reduceAdd]
      refine opsR_nil ?_
      refine hk4 _ _ ?_
      clear hk4
      refine run_ret ?_
      first | exact end_tmp rfl rfl rfl (by first | exact .refl | exact .drop | exact .drop2 | exact .drop3 | exact .drop4 | exact Gh.drop.trans .drop4 | exact Gh.drop2.trans .drop4 | exact Gh.drop3.trans .drop4) hK | exact end_tmp rfl rfl rfl (by first | exact .refl | exact .drop | exact .drop2 | exact .drop3 | exact .drop4 | exact Gh.drop.trans .drop4 | exact Gh.drop2.trans .drop4 | exact Gh.drop3.trans .drop4) (eqK hK (congrArg Go.Value.bool (by first | exact fits_no (by omega) | (rw [Res.fits]; exact decide_eq_decide.2 ⟨fun h => h.2.2, fun h => ⟨by assumption, by assumption, h⟩⟩))))
    · have ho8 := hc8; try simp only [spl] at hc8
      simp only [nrm, Nat.reduceAdd, Nat.reduceMul, Nat.reduceSub, Int.reduceToNat, Int.reduceAdd]
      refine oblE_skip rfl ?_
      simp only [nrm, Nat.reduceAdd, Nat.reduceMul, Nat.reduceSub, Int.reduceToNat, Int.reduceAdd]
      refine oblE_skip rfl ?_
      simp only [nrm, Nat.reduceAdd, Nat.reduceMul, Nat.reduceSub, Int.reduceToNat, Int.reduceAdd]
      refine oblE_skip rfl ?_
      simp only [nrm, Nat.reduceAdd, Nat.reduceMul, Nat.reduceSub, Int.reduceToNat, Int.reduceAdd]
      refine oblE_skip rfl ?_
      simp only [nrm, Nat.reduceAdd, Nat.reduceMul, Nat.reduceSub, Int.reduceToNat, Int.reduceAdd]
      refine oblE_skip rfl ?_
      simp only [nrm, Nat.reduceAdd, Nat.reduceMul, Nat.reduceSub, Int.reduceToNat, Int.reduceAdd]
      refine oblE_skip rfl ?_
      simp only [nrm, Nat.reduceAdd, Nat.reduceMul, Nat.reduceSub, Int.reduceToNat, Int.reduceAdd]
      refine oblE_skip rfl ?_
      simp only [nrm, Nat.reduceAdd, Nat.reduceMul, Nat.reduceSub, Int.reduceToNat, Int.reduceAdd]
      refine oblE_q rfl (fun I hI => (q_pick_f rfl)) ?_
      simp only [nrm, Nat.reduceAdd, Nat.reduceMul, Nat.reduceSub, Int.reduceToNat, Int.reduceAdd]
      refine oblE_q rfl (fun I hI => (q_assign)) ?_
      simp only [nrm, Nat.reduceAdd, Nat.reduceMul, Nat.reduceSub, Int.reduceToNat, Int.reduceAdd]
      refine oblE_nil (show OpsR _ _ _ _ _ _ from ?_)
      try simp only [nrm, Nat.reduceAdd, Nat.reduceMul, Nat.reduceSub, Int.reduceToNat, Int.reduceAdd]
      refine opsR_nil ?_
      refine hk4 _ _ ?_
      clear hk4
      refine run_ret ?_
      first | exact end_tmp rfl rfl rfl (by first | exact .refl | exact .drop | exact .drop2 | exact .drop3 | exact .drop4 | exact Gh.drop.trans .drop4 | exact Gh.drop2.trans .drop4 | exact Gh.drop3.trans .drop4) hK | exact end_tmp rfl rfl rfl (by first | exact .refl | exact .drop | exact .drop2 | exact .drop3 | exact .drop4 | exact Gh.drop.trans .drop4 | exact Gh.drop2.trans .drop4 | exact Gh.drop3.trans .drop4) (eqK hK (congrArg Go.Value.bool (by first | exact fits_no (by omega) | (rw [Res.fits]; exact decide_eq_decide.2 ⟨fun h => h.2.2, fun h => ⟨by assumption, by assumption, h⟩⟩))))
  · have ho7 := hc7; try simp only [spl] at hc7
    simp only [nrm, Nat.reduceAdd, Nat.reduceMul, Nat.reduceSub, Int.reduceToNat, Int.reduceAdd]
    refine oblE_skip rfl ?_
    simp only [nrm, Nat.reduceAdd, Nat.reduceMul, Nat.reduceSub, Int.reduceToNat, Int.reduceAdd]
    refine oblE_skip rfl ?_
    simp only [nrm, Nat.reduceAdd, Nat.reduceMul, Nat.reduceSub, Int.reduceToNat, Int.reduceAdd]
    refine oblE_skip rfl ?_
    simp only [nrm, Nat.reduceAdd, Nat.reduceMul, Nat.reduceSub, Int.reduceToNat, Int.reduceAdd]
    refine oblE_skip rfl ?_
    simp only [nrm, Nat.reduceAdd, Nat.reduceMul, Nat.reduceSub, Int.reduceToNat, Int.reduceAdd]
    refine oblE_skip rfl ?_
    simp only [nrm, Nat.reduceAdd, Nat.reduceMul, Nat.reduceSub, Int.reduceToNat, Int.reduceAdd]
    refine oblE_skip rfl ?_
    simp only [nrm, Nat.reduceAdd, Nat.reduceMul, Nat.reduceSub, Int.reduceToNat, Int.reduceAdd]
    refine oblE_skip rfl ?_
    simp only [nrm, Nat.reduceAdd, Nat.reduceMul, Nat.reduceSub, Int.reduceToNat, Int.reduceAdd]
    refine oblE_q rfl (fun I hI => (q_pick_f rfl)) ?_
    simp only [nrm, Nat.reduceAdd, Nat.reduceMul, Nat.reduceSub, Int.reduceToNat, Int.reduceAdd]
    refine oblE_q rfl (fun I hI => (q_move)) ?_
    simp only [nrm, Nat.reduceAdd, Nat.reduceMul, Nat.reduceSub, Int.reduceToNat, Int.reduceAdd]
    refine oblE_skip rfl ?_
    simp only [nrm, Nat.reduceAdd, Nat.reduceMul, Nat.reduceSub, Int.reduceToNat, Int.reduceAdd]
    refine oblE_skip rfl ?_
    simp only [nrm, Nat.reduceAdd, Nat.reduceMul, Nat.reduceSub, Int.reduceToNat, Int.reduceAdd]
    refine oblE_skip rfl ?_
    simp only [nrm, Nat.reduceAdd, Nat.reduceMul, Nat.reduceSub, Int.reduceToNat, Int.reduceAdd]
    refine oblE_skip rfl ?_
    simp only [nrm, Nat.reduceAdd, Nat.reduceMul, Nat.reduceSub, Int.reduceToNat, Int.reduceAdd]
    refine oblE_skip rfl ?_
    simp only [nrm, Nat.reduceAdd, Nat.reduceMul, Nat.reduceSub, Int.reduceToNat, Int.reduceAdd]
    refine oblE_skip rfl ?_
    simp only [nrm, Nat.reduceAdd, Nat.reduceMul, Nat.reduceSub, Int.reduceToNat, Int.reduceAdd]
    refine oblE_skip rfl ?_
    simp only [nrm, Nat.reduceAdd, Nat.reduceMul, Nat.reduceSub, Int.reduceToNat, Int.reduceAdd]
    refine oblE_q rfl (fun I hI => (q_pick_f rfl)) ?_
    simp only [nrm, Nat.reduceAdd, Nat.reduceMul, Nat.reduceSub, Int.reduceToNat, Int.reduceAdd]
    refine oblE_q rfl (fun I hI => (q_assign)) ?_
    simp only [nrm, Nat.reduceAdd, Nat.reduceMul, Nat.reduceSub, Int.reduceToNat, Int.reduceAdd]
    refine oblE_nil (show OpsR _ _ _ _ _ _ from ?_)
    try simp only [nrm, Nat.reduceAdd, Nat.reduceMul, Nat.reduceSub, Int.reduceToNat, Int.reduceAdd]
    refine opsR_nil ?_
    refine hk4 _ _ ?_
    clear hk4
    refine run_ret ?_
    first | exact end_tmp rfl rfl rfl (by first | exact .refl | exact .drop | exact .drop2 | exact .drop3 | exact .drop4 | exact Gh.drop.trans .drop4 | exact Gh.drop2.trans .drop4 | exact Gh.drop3.trans .drop4) hK | exact end_tmp rfl rfl rfl (by first | exact .refl | exact .drop | exact .drop2 | exact .drop3 | exact .drop4 | exact Gh.drop.trans .drop4 | exact Gh.drop2.trans .drop4 | exact Gh.drop3.trans .drop4) (eqK hK (congrArg Go.Value.bool (by first | exact fits_no (by omega) | (rw [Res.fits]; exact decide_eq_decide.2 ⟨fun h => h.2.2, fun h => ⟨by assumption, by assumption, h⟩⟩))))
theorem Sum_spec {l : List Res} {v : Value} {s : St} (hl : Sl kRes s.I v l) : CallV Tryd.prog 31 #[v] s (Res.sum l).v := by
  intro K hK
  have hle := hl.len.le
  refine callS_of_run Tryd.func31 rfl ?_; simp only [Tryd.ntmps31, List.size_toArray, List.length_cons, List.length_nil, Nat.reduceAdd, Nat.reduceSub, Array.replicate_succ, Array.replicate_zero, List.push_toArray, List.append_toArray, List.nil_append, List.cons_append]
  refine run_seq fun _ hk1 => ?_
  refine run_region ?_
  refine opsR_o rfl (o_alloc fun bA hbA => ?_)
  simp only [nrm, Nat.reduceAdd, Nat.reduceMul, Nat.reduceSub, Int.reduceToNat, Int.reduceAdd]
  refine opsR_nil ?_
  refine hk1 _ _ ?_
  clear hk1
  refine run_seq fun _ hk3 => ?_
  refine run_region ?_
  refine opsR_o rfl (o_alloc fun bB hbB => ?_)
  simp only [nrm, Nat.reduceAdd, Nat.reduceMul, Nat.reduceSub, Int.reduceToNat, Int.reduceAdd]
  refine opsR_nil ?_
  refine hk3 _ _ ?_
  clear hk3
  refine run_seq fun _ hk5 => ?_
  refine run_seq fun _ hk6 => ?_
  refine run_region ?_
  refine opsR_q rfl (q_move) ?_
  simp only [nrm, Nat.reduceAdd, Nat.reduceMul, Nat.reduceSub, Int.reduceToNat, Int.reduceAdd]
  refine opsR_q rfl (q_len_v rfl (by first | exact Sl.len (by assumption) | exact OwnS.len (by assumption) | exact SlR.len (by assumption) | assumption)) ?_
  simp only [nrm, Nat.reduceAdd, Nat.reduceMul, Nat.reduceSub, Int.reduceToNat, Int.reduceAdd]
  refine opsR_q rfl (q_move) ?_
  simp only [nrm, Nat.reduceAdd, Nat.reduceMul, Nat.reduceSub, Int.reduceToNat, Int.reduceAdd]
  refine opsR_nil ?_
  refine hk6 _ _ ?_
  clear hk6
  refine run_block ?_
  refine run_loopF [0, 0, 0, 0, 0, 2, 0, 0, 2, 1, 1, 1, 1, 1, 1, 1, 0] (fun zn zL zst => ∃ (i : Nat) (z5 : Value), zL = [z5, .int .i64 (i : Nat)] ∧ ⟨s.I, (bB, .cells #[.int .i64 (Res.sum (l.take i)).CPU, .int .i64 (Res.sum (l.take i)).Mem, .int .i64 (Res.sum (l.take i)).Disk] 33 (0, 0)) :: (bA, .cells #[.int .i64 0, .int .i64 0, .int .i64 0] 33 (0, 0)) :: s.cs⟩ = zst ∧ zn = l.length - i ∧ (i ≤ l.length)) _ _ ⟨0, _, rfl, rfl, rfl, by first | assumption | omega | exact Hp.le.rfl | rfl | exact all_zero | exact all_succ (by assumption) (by assumption) | (simp; done)⟩ rfl ?_
  rintro _ _ _ jv8 ⟨i, z5, rfl, rfl, rfl, hi⟩ K8 hkl8
  simp only [fr, Nat.zero_add, Nat.reduceAdd]
  refine run_seq fun _ hk9 => ?_
  refine run_region ?_
  refine opsR_q rfl (q_lss rfl rfl) ?_
  simp only [nrm, Nat.reduceAdd, Nat.reduceMul, Nat.reduceSub, Int.reduceToNat, Int.reduceAdd]
  refine opsR_nil ?_
  refine hk9 _ _ ?_
  clear hk9
  refine run_seq fun _ hk12 => ?_
  refine run_cond rfl (fun ho13 => ?_) (fun ho13 => ?_)
  · have hc13 := ho13; try simp only [spl] at hc13
    refine run_skip ?_
    refine hk12 _ _ ?_
    clear hk12
    refine run_seq fun _ hk14 => ?_
    refine run_block ?_
    refine run_seq fun _ hk15 => ?_
    refine run_region ?_
    refine opsR_index rfl rfl rfl (by first | exact Sl.r (by assumption) (by first | exact .rfl | assumption | exact le2 (by assumption) (by assumption) | exact le3 (by assumption) (by assumption) (by assumption) | exact le4 (by assumption) (by assumption) (by assumption) (by assumption) | exact le5 (by assumption) (by assumption) (by assumption) (by assumption) (by assumption) | exact le6 (by assumption) (by assumption) (by assumption) (by assumption) (by assumption) (by assumption)) | (refine OwnS.r (OwnS.mono ?_ (by assumption)) (by intro p hp; simp only [List.mem_append, List.mem_cons, hp, true_or, or_true]); first | exact .rfl | assumption | exact le2 (by assumption) (by assumption) | exact le3 (by assumption) (by assumption) (by assumption) | exact le4 (by assumption) (by assumption) (by assumption) (by assumption) | exact le5 (by assumption) (by assumption) (by assumption) (by assumption) (by assumption) | exact le6 (by assumption) (by assumption) (by assumption) (by assumption) (by assumption) (by assumption)) | assumption) (by rfl) (by first | omega | ((try simp only [List.length_append, List.length_cons, List.length_nil, List.length_set, List.length_replicate, List.length_take, List.length_drop, List.length_map] at *); omega)) (by first | omega | ((try simp only [List.length_append, List.length_cons, List.length_nil, List.length_set, List.length_replicate, List.length_take, List.length_drop, List.length_map] at *); omega)) fun b16 o16 cs16 ha16 hr16 he16 => ?_
    simp only [nrm, Nat.reduceAdd, Nat.reduceMul, Nat.reduceSub, Int.reduceToNat, Int.reduceAdd]
    try simp only [Int.toNat_natCast, Int.reduceToNat, Int.toNat_zero] at hr16
    try simp only [Int.toNat_natCast, Int.reduceToNat, Int.toNat_zero] at he16
    clear ha16
    obtain rfl := kRes.open hr16
    refine opsR_q rfl (by first | exact q_load_atW rfl (by assumption) (by rfl) rfl | exact q_load_atN0 rfl (by assumption) rfl rfl | exact q_load_atN rfl (by assumption) rfl (Nat.le_of_ble_eq_true rfl) (Nat.le_of_ble_eq_true rfl)) ?_
    simp only [nrm, Nat.reduceAdd, Nat.reduceMul, Nat.reduceSub, Int.reduceToNat, Int.reduceAdd]
    refine opsR_o rfl (o_alloc fun b18 hb18 => ?_)
    simp only [nrm, Nat.reduceAdd, Nat.reduceMul, Nat.reduceSub, Int.reduceToNat, Int.reduceAdd]
    refine opsR_o rfl (o_storeB rfl rfl inferInstance (by first | rfl | assumption) (by first | rfl | exact Kd.one _ (by assumption) | assumption) (by first | rfl | (refine Nat.ble_eq_true_of_le ?_; (try simp only [Int.toNat_natCast]); omega)) ?_)
    simp only [nrm, Nat.reduceAdd, Nat.reduceMul, Nat.reduceSub, Int.reduceToNat, Int.reduceAdd]
    refine opsR_nil ?_
    refine hk15 _ _ ?_
    clear hk15
    refine run_region ?_
    refine opsR_q rfl (by first | exact q_loadBN rfl inferInstance (by rfl) | exact q_loadBW rfl inferInstance (by assumption)) ?_
    simp only [nrm, Nat.reduceAdd, Nat.reduceMul, Nat.reduceSub, Int.reduceToNat, Int.reduceAdd]
    refine opsR_q rfl (by first | exact q_loadBN rfl inferInstance (by rfl) | exact q_loadBW rfl inferInstance (by assumption)) ?_
    simp only [nrm, Nat.reduceAdd, Nat.reduceMul, Nat.reduceSub, Int.reduceToNat, Int.reduceAdd]
    refine opsR_q rfl (q_call rfl (Plus_spec _ _ _ _ _ _ _)) ?_
    simp only [nrm, Nat.reduceAdd, Nat.reduceMul, Nat.reduceSub, Int.reduceToNat, Int.reduceAdd]
    refine opsR_o rfl (o_storeB rfl rfl inferInstance (by first | rfl | assumption) (by first | rfl | exact Kd.one _ (by assumption) | assumption) (by first | rfl | (refine Nat.ble_eq_true_of_le ?_; (try simp only [Int.toNat_natCast]); omega)) ?_)
    simp only [nrm, Nat.reduceAdd, Nat.reduceMul, Nat.reduceSub, Int.reduceToNat, Int.reduceAdd]
    refine opsR_nil ?_
    refine hk14 _ _ ?_
    clear hk14
    refine run_gh Gh.drop ?_
    rw [show Q.add (Res.sum (l.take i)).CPU l[i]!.CPU = (Res.sum (l.take (i + 1))).CPU by rw [Res.sum_snoc (by omega)]; rfl, show Q.add (Res.sum (l.take i)).Mem l[i]!.Mem = (Res.sum (l.take (i + 1))).Mem by rw [Res.sum_snoc (by omega)]; rfl, show Q.add (Res.sum (l.take i)).Disk l[i]!.Disk = (Res.sum (l.take (i + 1))).Disk by rw [Res.sum_snoc (by omega)]; rfl]
    refine run_region ?_
    refine opsR_q rfl (by first | exact q_add64 rfl rfl (by omega) (by omega) | exact q_add rfl rfl) ?_
    simp only [nrm, Nat.reduceAdd, Nat.reduceMul, Nat.reduceSub, Int.reduceToNat, Int.reduceAdd]
    refine opsR_q rfl (q_move) ?_
    simp only [nrm, Nat.reduceAdd, Nat.reduceMul, Nat.reduceSub, Int.reduceToNat, Int.reduceAdd]
    refine opsR_nil ?_
    first
    | exact hkl8 _ _ _ _ (by omega) ⟨i + 1, _, rfl, rfl, rfl, by first | assumption | omega | exact Hp.le.rfl | rfl | exact all_zero | exact all_succ (by assumption) (by assumption) | (simp; done)⟩ rfl
  · have hc13 := ho13; try simp only [spl] at hc13
    refine run_exit ?_
    refine hk5 _ _ ?_
    clear hk5
    refine run_seq fun _ hk21 => ?_
    rw [take_all (by omega : l.length ≤ i)]
    refine run_region ?_
    refine opsR_q rfl (by first | exact q_loadBN rfl inferInstance (by rfl) | exact q_loadBW rfl inferInstance (by assumption)) ?_
    simp only [nrm, Nat.reduceAdd, Nat.reduceMul, Nat.reduceSub, Int.reduceToNat, Int.reduceAdd]
    refine opsR_o rfl (o_storeB rfl rfl inferInstance (by first | rfl | assumption) (by first | rfl | exact Kd.one _ (by assumption) | assumption) (by first | rfl | (refine Nat.ble_eq_true_of_le ?_; (try simp only [Int.toNat_natCast]); omega)) ?_)
    simp only [nrm, Nat.reduceAdd, Nat.reduceMul, Nat.reduceSub, Int.reduceToNat, Int.reduceAdd]
    refine opsR_nil ?_
    refine hk21 _ _ ?_
    clear hk21
    refine run_ret ?_
    exact end_cell rfl rfl rfl (AtB.has inferInstance) (by first | rfl | assumption) (by first | exact .refl | exact .drop | exact .drop2 | exact .drop3 | exact .drop4 | exact Gh.drop.trans .drop4 | exact Gh.drop2.trans .drop4 | exact Gh.drop3.trans .drop4) hK
theorem refSum_spec {l : List Res} {v : Value} {s : St} (hl : Sl kRes s.I v l) : CallV Tryd.prog 32 #[v] s (Res.sum l).v := by
  intro K hK
  have hle := hl.len.le
  refine callS_of_run Tryd.func32 rfl ?_; simp only [Tryd.ntmps32, List.size_toArray, List.length_cons, List.length_nil, Nat.reduceAdd, Nat.reduceSub, Array.replicate_succ, Array.replicate_zero, List.push_toArray, List.append_toArray, List.nil_append, List.cons_append]
  refine run_seq fun _ hk1 => ?_
  refine run_region ?_
  refine opsR_o rfl (o_alloc fun bA hbA => ?_)
  simp only [nrm, Nat.reduceAdd, Nat.reduceMul, Nat.reduceSub, Int.reduceToNat, Int.reduceAdd]
  refine opsR_nil ?_
  refine hk1 _ _ ?_
  clear hk1
  refine run_seq fun _ hk3 => ?_
  refine run_region ?_
  refine opsR_q rfl (q_build rfl) ?_
  simp only [nrm, Nat.reduceAdd, Nat.reduceMul, Nat.reduceSub, Int.reduceToNat, Int.reduceAdd]
  refine opsR_o rfl (o_alloc fun bB hbB => ?_)
  simp only [nrm, Nat.reduceAdd, Nat.reduceMul, Nat.reduceSub, Int.reduceToNat, Int.reduceAdd]
  refine opsR_o rfl (o_storeB rfl rfl inferInstance (by first | rfl | assumption) (by first | rfl | exact Kd.one _ (by assumption) | assumption) (by first | rfl | (refine Nat.ble_eq_true_of_le ?_; (try simp only [Int.toNat_natCast]); omega)) ?_)
  simp only [nrm, Nat.reduceAdd, Nat.reduceMul, Nat.reduceSub, Int.reduceToNat, Int.reduceAdd]
  refine opsR_nil ?_
  refine hk3 _ _ ?_
  clear hk3
  refine run_seq fun _ hk5 => ?_
  refine run_seq fun _ hk6 => ?_
  refine run_region ?_
  refine opsR_q rfl (q_assign) ?_
  simp only [nrm, Nat.reduceAdd, Nat.reduceMul, Nat.reduceSub, Int.reduceToNat, Int.reduceAdd]
  refine opsR_nil ?_
  refine hk6 _ _ ?_
  clear hk6
  refine run_block ?_
  refine run_loopF [0, 0, 0, 0, 2, 0, 1, 1, 1, 1, 1, 1, 1, 1, 1, 1, 1, 1, 0] (fun zn zL zst => ∃ (i : Nat), zL = [.int .i64 (i : Nat)] ∧ ⟨s.I, (bB, .cells #[.int .i64 (Res.sum (l.take i)).CPU, .int .i64 (Res.sum (l.take i)).Mem, .int .i64 (Res.sum (l.take i)).Disk] 33 (0, 0)) :: (bA, .cells #[.int .i64 0, .int .i64 0, .int .i64 0] 33 (0, 0)) :: s.cs⟩ = zst ∧ zn = l.length - i ∧ (i ≤ l.length)) _ _ ⟨0, rfl, rfl, rfl, by first | assumption | omega | exact Hp.le.rfl | rfl | exact all_zero | exact all_succ (by assumption) (by assumption) | (simp; done)⟩ rfl ?_
  rintro _ _ _ jv7 ⟨i, rfl, rfl, rfl, hi⟩ K7 hkl7
  simp only [fr, Nat.zero_add, Nat.reduceAdd]
  refine run_seq fun _ hk8 => ?_
  refine run_seq fun _ hk9 => ?_
  refine run_region ?_
  refine opsR_q rfl (q_move) ?_
  simp only [nrm, Nat.reduceAdd, Nat.reduceMul, Nat.reduceSub, Int.reduceToNat, Int.reduceAdd]
  refine opsR_q rfl (q_move) ?_
  simp only [nrm, Nat.reduceAdd, Nat.reduceMul, Nat.reduceSub, Int.reduceToNat, Int.reduceAdd]
  refine opsR_q rfl (q_len_v rfl (by first | exact Sl.len (by assumption) | exact OwnS.len (by assumption) | exact SlR.len (by assumption) | assumption)) ?_
  simp only [nrm, Nat.reduceAdd, Nat.reduceMul, Nat.reduceSub, Int.reduceToNat, Int.reduceAdd]
  refine opsR_q rfl (q_lss rfl rfl) ?_
  simp only [nrm, Nat.reduceAdd, Nat.reduceMul, Nat.reduceSub, Int.reduceToNat, Int.reduceAdd]
  refine opsR_nil ?_
  refine hk9 _ _ ?_
  clear hk9
  refine run_cond rfl (fun ho12 => ?_) (fun ho12 => ?_)
  · have hc12 := ho12; try simp only [spl] at hc12
    refine run_skip ?_
    refine hk8 _ _ ?_
    clear hk8
    refine run_seq fun _ hk13 => ?_
    refine run_block ?_
    refine run_drawE mixed 6 (by kernel_rfl) rfl ?_
    simp only [List.take_succ_cons, List.take_zero, List.drop_succ_cons, List.drop_zero, List.drop_nil, List.take_nil]
    refine oblE_q rfl (fun I hI => (by first | exact q_loadBN rfl inferInstance (by rfl) | exact q_loadBW rfl inferInstance (by assumption))) ?_
    simp only [nrm, Nat.reduceAdd, Nat.reduceMul, Nat.reduceSub, Int.reduceToNat, Int.reduceAdd]
    refine oblE_q rfl (fun I hI => (q_move)) ?_
    simp only [nrm, Nat.reduceAdd, Nat.reduceMul, Nat.reduceSub, Int.reduceToNat, Int.reduceAdd]
    refine oblE_q rfl (fun I hI => (q_move)) ?_
    simp only [nrm, Nat.reduceAdd, Nat.reduceMul, Nat.reduceSub, Int.reduceToNat, Int.reduceAdd]
    refine oblE_index rfl rfl rfl (by first | exact Sl.r (by assumption) (by first | exact .rfl | assumption | exact le2 (by assumption) (by assumption) | exact le3 (by assumption) (by assumption) (by assumption) | exact le4 (by assumption) (by assumption) (by assumption) (by assumption) | exact le5 (by assumption) (by assumption) (by assumption) (by assumption) (by assumption) | exact le6 (by assumption) (by assumption) (by assumption) (by assumption) (by assumption) (by assumption)) | (refine OwnS.r (OwnS.mono ?_ (by assumption)) (by intro p hp; simp only [List.mem_append, List.mem_cons, hp, true_or, or_true]); first | exact .rfl | assumption | exact le2 (by assumption) (by assumption) | exact le3 (by assumption) (by assumption) (by assumption) | exact le4 (by assumption) (by assumption) (by assumption) (by assumption) | exact le5 (by assumption) (by assumption) (by assumption) (by assumption) (by assumption) | exact le6 (by assumption) (by assumption) (by assumption) (by assumption) (by assumption) (by assumption)) | assumption) (by rfl) (by first | omega | ((try simp only [List.length_append, List.length_cons, List.length_nil, List.length_set, List.length_replicate, List.length_take, List.length_drop, List.length_map] at *); omega)) (by first | omega | ((try simp only [List.length_append, List.length_cons, List.length_nil, List.length_set, List.length_replicate, List.length_take, List.length_drop, List.length_map] at *); omega)) fun b15 o15 cs15 ha15 hr15 he15 => ?_
    simp only [nrm, Nat.reduceAdd, Nat.reduceMul, Nat.reduceSub, Int.reduceToNat, Int.reduceAdd]
    try simp only [Int.toNat_natCast, Int.reduceToNat, Int.toNat_zero] at hr15
    try simp only [Int.toNat_natCast, Int.reduceToNat, Int.toNat_zero] at he15
    clear ha15
    obtain rfl := kRes.open hr15
    refine oblE_q rfl (fun I hI => (by first | exact q_load_atW rfl (El.mono (by assumption) hI) (by rfl) rfl | exact q_load_atN0 rfl (El.mono (by assumption) hI) rfl rfl | exact q_load_atN rfl (El.mono (by assumption) hI) rfl (Nat.le_of_ble_eq_true rfl) (Nat.le_of_ble_eq_true rfl))) ?_
    simp only [nrm, Nat.reduceAdd, Nat.reduceMul, Nat.reduceSub, Int.reduceToNat, Int.reduceAdd]
    refine oblE_q rfl (fun I hI => (q_call rfl (refPlus_spec _ _ _ _ _ _ _))) ?_
    simp only [nrm, Nat.reduceAdd, Nat.reduceMul, Nat.reduceSub, Int.reduceToNat, Int.reduceAdd]
    refine oblE_nil (show OpsR _ _ _ _ _ _ from ?_)
    try simp only [nrm, Nat.reduceAdd, Nat.reduceMul, Nat.reduceSub, Int.reduceToNat, Int.reduceAdd]
    refine opsR_o rfl (o_storeB rfl rfl inferInstance (by first | rfl | assumption) (by first | rfl | exact Kd.one _ (by assumption) | assumption) (by first | rfl | (refine Nat.ble_eq_true_of_le ?_; (try simp only [Int.toNat_natCast]); omega)) ?_)
    simp only [nrm, Nat.reduceAdd, Nat.reduceMul, Nat.reduceSub, Int.reduceToNat, Int.reduceAdd]
    refine opsR_nil ?_
    refine hk13 _ _ ?_
    clear hk13
    rw [show Q.add (Res.sum (l.take i)).CPU l[i]!.CPU = (Res.sum (l.take (i + 1))).CPU by rw [Res.sum_snoc (by omega)]; rfl, show Q.add (Res.sum (l.take i)).Mem l[i]!.Mem = (Res.sum (l.take (i + 1))).Mem by rw [Res.sum_snoc (by omega)]; rfl, show Q.add (Res.sum (l.take i)).Disk l[i]!.Disk = (Res.sum (l.take (i + 1))).Disk by rw [Res.sum_snoc (by omega)]; rfl]
    refine run_region ?_
    refine opsR_q rfl (q_move) ?_
    simp only [nrm, Nat.reduceAdd, Nat.reduceMul, Nat.reduceSub, Int.reduceToNat, Int.reduceAdd]
    refine opsR_q rfl (by first | exact q_add64 rfl rfl (by omega) (by omega) | exact q_add rfl rfl) ?_
    simp only [nrm, Nat.reduceAdd, Nat.reduceMul, Nat.reduceSub, Int.reduceToNat, Int.reduceAdd]
    refine opsR_q rfl (q_assign) ?_
    simp only [nrm, Nat.reduceAdd, Nat.reduceMul, Nat.reduceSub, Int.reduceToNat, Int.reduceAdd]
    refine opsR_nil ?_
    first
    | exact hkl7 _ _ _ _ (by omega) ⟨i + 1, rfl, rfl, rfl, by first | assumption | omega | exact Hp.le.rfl | rfl | exact all_zero | exact all_succ (by assumption) (by assumption) | (simp; done)⟩ rfl
  · have hc12 := ho12; try simp only [spl] at hc12
    refine run_exit ?_
    refine hk5 _ _ ?_
    clear hk5
    refine run_seq fun _ hk16 => ?_
    rw [take_all (by omega : l.length ≤ i)]
    refine run_region ?_
    refine opsR_q rfl (by first | exact q_loadBN rfl inferInstance (by rfl) | exact q_loadBW rfl inferInstance (by assumption)) ?_
    simp only [nrm, Nat.reduceAdd, Nat.reduceMul, Nat.reduceSub, Int.reduceToNat, Int.reduceAdd]
    refine opsR_o rfl (o_storeB rfl rfl inferInstance (by first | rfl | assumption) (by first | rfl | exact Kd.one _ (by assumption) | assumption) (by first | rfl | (refine Nat.ble_eq_true_of_le ?_; (try simp only [Int.toNat_natCast]); omega)) ?_)
    simp only [nrm, Nat.reduceAdd, Nat.reduceMul, Nat.reduceSub, Int.reduceToNat, Int.reduceAdd]
    refine opsR_nil ?_
    refine hk16 _ _ ?_
    clear hk16
    refine run_ret ?_
    exact end_cell rfl rfl rfl (AtB.has inferInstance) (by first | rfl | assumption) (by first | exact .refl | exact .drop | exact .drop2 | exact .drop3 | exact .drop4 | exact Gh.drop.trans .drop4 | exact Gh.drop2.trans .drop4 | exact Gh.drop3.trans .drop4) hK
end Go.Proofs.YtlbhlpjakllokaaDoor
