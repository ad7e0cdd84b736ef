/- The laws of chapter 1 but for texts: the walks. -/
import Derived.Test.YtlbhlpjakllokaaDoorQB
set_option autoImplicit false
set_option linter.unusedVariables false
set_option linter.unusedSimpArgs false
namespace Go.Proofs.YtlbhlpjakllokaaDoor
open Go Go.RowKit
theorem add_comm' (a b : Int) : Q.add a b = Q.add b a := by unfold Q.add; rw [Int.add_comm]
theorem add_assoc' (a b c : Int) : Q.add (Q.add a b) c = Q.add a (Q.add b c) := by unfold Q.add Q.clamp; omega
theorem add_sub' {a b : Int} (h : ¬ Q.add a b = 1125899906842624) : Q.sub (Q.add a b) b = Q.clamp a := by unfold Q.sub Q.add Q.clamp at *; omega
theorem less1 {w f l : Int} (h : Q.clamp w ≤ Q.clamp f) : Q.clamp (Q.sub w l) ≤ Q.clamp f := by unfold Q.sub Q.clamp at *; omega
theorem more1 {w f l : Int} (h : Q.clamp w ≤ Q.clamp (Q.sub f l)) : Q.clamp w ≤ Q.clamp f := by unfold Q.sub Q.clamp at *; omega
theorem back1 {w f : Int} (h : Q.clamp w ≤ Q.clamp f) : Q.add (Q.sub f w) w = Q.add f 0 := by unfold Q.add Q.sub Q.clamp at *; omega
theorem fits_less {w f l : Res} (h : Res.fits w f = true) : Res.fits (Res.minus w l) f = true := by
  have h := of_decide_eq_true h
  exact decide_eq_true ⟨less1 h.1, less1 h.2.1, less1 h.2.2⟩
theorem fits_more {w f l : Res} (h : Res.fits w f = false) : Res.fits w (Res.minus f l) = false := by
  have h := of_decide_eq_false h
  exact decide_eq_false fun k => h ⟨more1 k.1, more1 k.2.1, more1 k.2.2⟩
theorem fits_back {w f : Res} (h : Res.fits w f = true) : Res.plus (Res.minus f w) w = Res.plus f Res.zero := by
  have h := of_decide_eq_true h
  simp only [Res.minus, Res.plus, Res.zero, back1 h.1, back1 h.2.1, back1 h.2.2]
section
attribute [local irreducible] Quiet OpsR Run CallS opS Gh endQ oblE RunN swp Go.Op.equalIn Q.add Q.sub Q.clamp Q.share Q.times parseOf printOf Res.fits
theorem works_spec {s : St} (hT : Tabs s.I) (K : Value → St → Prop) (hK : ∀ J, Hp.le s.I J → K (.bool true) ⟨J, s.cs⟩) : CallS Tryd.prog 13 #[] s K := by
  have hp : parseOf ⟨#[49, 53, 48, 48, 109]⟩ = (1500, 0) := by decide +kernel
  have hq : printOf 1500 = ⟨#[49, 53, 48, 48, 109]⟩ := by decide +kernel
  refine callS_of_run Tryd.func13 rfl ?_; simp only [Tryd.ntmps13, List.size_toArray, List.length_cons, List.length_nil, Nat.reduceAdd, Nat.reduceSub, Array.replicate_succ, Array.replicate_zero, List.push_toArray, List.append_toArray, List.nil_append, List.cons_append]
  refine run_seq fun _ hk1 => ?_
  refine run_region ?_
  refine opsR_q rfl (q_assign) ?_
  simp only [nrm, Nat.reduceAdd, Nat.reduceMul, Nat.reduceSub, Int.reduceToNat, Int.reduceAdd]
  refine opsR_nil ?_
  refine hk1 _ _ ?_
  clear hk1
  refine run_seq fun _ hk2 => ?_
  refine run_region ?_
  refine opsR_o rfl (o_call rfl (Parse_spec hT (by first | omega | decide) _ fun JP hJP => ?_))
  try dsimp only at hJP
  try (have hrP : Hp.le s.I JP := (by first | exact .rfl | assumption | exact le2 (by assumption) (by assumption) | exact le3 (by assumption) (by assumption) (by assumption) | exact le4 (by assumption) (by assumption) (by assumption) (by assumption) | exact le5 (by assumption) (by assumption) (by assumption) (by assumption) (by assumption) | exact le6 (by assumption) (by assumption) (by assumption) (by assumption) (by assumption) (by assumption)); have hJP := hJP)
  simp only [nrm, Nat.reduceAdd, Nat.reduceMul, Nat.reduceSub, Int.reduceToNat, Int.reduceAdd]
  rw [hp]
  have hT := hT.mono hJP
  refine opsR_q rfl (q_move) ?_
  simp only [nrm, Nat.reduceAdd, Nat.reduceMul, Nat.reduceSub, Int.reduceToNat, Int.reduceAdd]
  refine opsR_q rfl (q_extract rfl rfl) ?_
  simp only [nrm, Nat.reduceAdd, Nat.reduceMul, Nat.reduceSub, Int.reduceToNat, Int.reduceAdd]
  refine opsR_q rfl (q_extract rfl rfl) ?_
  simp only [nrm, Nat.reduceAdd, Nat.reduceMul, Nat.reduceSub, Int.reduceToNat, Int.reduceAdd]
  refine opsR_q rfl (q_assign) ?_
  simp only [nrm, Nat.reduceAdd, Nat.reduceMul, Nat.reduceSub, Int.reduceToNat, Int.reduceAdd]
  refine opsR_q rfl (q_assign) ?_
  simp only [nrm, Nat.reduceAdd, Nat.reduceMul, Nat.reduceSub, Int.reduceToNat, Int.reduceAdd]
  refine opsR_nil ?_
  refine hk2 _ _ ?_
  clear hk2
  refine run_seq fun _ hk5 => ?_
  refine run_region ?_
  refine opsR_q rfl (q_call rfl (add_spec _ _ _)) ?_
  simp only [nrm, Nat.reduceAdd, Nat.reduceMul, Nat.reduceSub, Int.reduceToNat, Int.reduceAdd]
  refine opsR_q rfl (q_eql rfl rfl) ?_
  simp only [nrm, Nat.reduceAdd, Nat.reduceMul, Nat.reduceSub, Int.reduceToNat, Int.reduceAdd]
  refine opsR_qb rfl (q_move) (fun _ => ?_) (fun h => absurd h (by decide +kernel))
  simp only [nrm, Nat.reduceAdd, Nat.reduceMul, Nat.reduceSub, Int.reduceToNat, Int.reduceAdd]
  refine opsR_q rfl (q_call rfl (Share_spec _ _ _ _)) ?_
  simp only [nrm, Nat.reduceAdd, Nat.reduceMul, Nat.reduceSub, Int.reduceToNat, Int.reduceAdd]
  refine opsR_q rfl (q_eql rfl rfl) ?_
  simp only [nrm, Nat.reduceAdd, Nat.reduceMul, Nat.reduceSub, Int.reduceToNat, Int.reduceAdd]
  refine opsR_q rfl (q_pick_t rfl) ?_
  simp only [nrm, Nat.reduceAdd, Nat.reduceMul, Nat.reduceSub, Int.reduceToNat, Int.reduceAdd]
  refine opsR_qb rfl (q_move) (fun _ => ?_) (fun h => absurd h (by decide +kernel))
  simp only [nrm, Nat.reduceAdd, Nat.reduceMul, Nat.reduceSub, Int.reduceToNat, Int.reduceAdd]
  refine opsR_q rfl (q_move) ?_
  simp only [nrm, Nat.reduceAdd, Nat.reduceMul, Nat.reduceSub, Int.reduceToNat, Int.reduceAdd]
  refine opsR_q rfl (q_eql rfl rfl) ?_
  simp only [nrm, Nat.reduceAdd, Nat.reduceMul, Nat.reduceSub, Int.reduceToNat, Int.reduceAdd]
  refine opsR_q rfl (q_pick_t rfl) ?_
  simp only [nrm, Nat.reduceAdd, Nat.reduceMul, Nat.reduceSub, Int.reduceToNat, Int.reduceAdd]
  refine opsR_qb rfl (q_move) (fun _ => ?_) (fun h => absurd h (by decide +kernel))
  simp only [nrm, Nat.reduceAdd, Nat.reduceMul, Nat.reduceSub, Int.reduceToNat, Int.reduceAdd]
  refine opsR_q rfl (q_move) ?_
  simp only [nrm, Nat.reduceAdd, Nat.reduceMul, Nat.reduceSub, Int.reduceToNat, Int.reduceAdd]
  refine opsR_q rfl (q_eql rfl rfl) ?_
  simp only [nrm, Nat.reduceAdd, Nat.reduceMul, Nat.reduceSub, Int.reduceToNat, Int.reduceAdd]
  refine opsR_q rfl (q_pick_t rfl) ?_
  simp only [nrm, Nat.reduceAdd, Nat.reduceMul, Nat.reduceSub, Int.reduceToNat, Int.reduceAdd]
  refine opsR_qb rfl (q_move) (fun _ => ?_) (fun h => absurd h (by decide +kernel))
  simp only [nrm, Nat.reduceAdd, Nat.reduceMul, Nat.reduceSub, Int.reduceToNat, Int.reduceAdd]
  refine opsR_q rfl (q_call rfl (Print_spec hT)) ?_
  simp only [nrm, Nat.reduceAdd, Nat.reduceMul, Nat.reduceSub, Int.reduceToNat, Int.reduceAdd]
  refine opsR_q rfl (q_eql_string rfl rfl) ?_
  simp only [nrm, Nat.reduceAdd, Nat.reduceMul, Nat.reduceSub, Int.reduceToNat, Int.reduceAdd]
  refine opsR_q rfl (q_pick_t rfl) ?_
  simp only [nrm, Nat.reduceAdd, Nat.reduceMul, Nat.reduceSub, Int.reduceToNat, Int.reduceAdd]
  refine opsR_q rfl (q_assign) ?_
  simp only [nrm, Nat.reduceAdd, Nat.reduceMul, Nat.reduceSub, Int.reduceToNat, Int.reduceAdd]
  refine opsR_nil ?_
  refine hk5 _ _ ?_
  clear hk5
  refine run_ret ?_
  exact end_tmp rfl rfl rfl (by first | exact .refl | exact .drop | exact .drop2 | exact .drop3 | exact .drop4 | exact Gh.drop.trans .drop4 | exact Gh.drop2.trans .drop4 | exact Gh.drop3.trans .drop4) (eqK (hK _ (by first | exact .rfl | assumption | exact le2 (by assumption) (by assumption) | exact le3 (by assumption) (by assumption) (by assumption) | exact le4 (by assumption) (by assumption) (by assumption) (by assumption) | exact le5 (by assumption) (by assumption) (by assumption) (by assumption) (by assumption) | exact le6 (by assumption) (by assumption) (by assumption) (by assumption) (by assumption) (by assumption))) (congrArg Go.Value.bool (by rw [hq]; rfl)))
theorem QuantReckons_walk (a0 a1 a2 : Int) (s : St) (hT : Tabs s.I) (ok0 : (kInt .i64).ok a0) (ok1 : (kInt .i64).ok a1) (ok2 : (kInt .i64).ok a2) (hb : (kInt .i64).bulk a0 + (kInt .i64).bulk a1 + (kInt .i64).bulk a2 ≤ 1048576) :
    CallS Tryd.prog 6 #[.int .i64 a0, .int .i64 a1, .int .i64 a2] s (fun v s' => v = .bool true ∧ Hp.le s.I s'.I) := by
  refine callS_of_run Tryd.func6 rfl ?_; simp only [Tryd.ntmps6, List.size_toArray, List.length_cons, List.length_nil, Nat.reduceAdd, Nat.reduceSub, Array.replicate_succ, Array.replicate_zero, List.push_toArray, List.append_toArray, List.nil_append, List.cons_append]
  refine run_seq fun _ hk1 => ?_
  refine run_region ?_
  refine opsR_q rfl (q_assign) ?_
  simp only [nrm, Nat.reduceAdd, Nat.reduceMul, Nat.reduceSub, Int.reduceToNat, Int.reduceAdd]
  refine opsR_nil ?_
  refine hk1 _ _ ?_
  clear hk1
  refine run_seq fun _ hk2 => ?_
  refine run_region ?_
  refine opsR_q rfl (q_move) ?_
  simp only [nrm, Nat.reduceAdd, Nat.reduceMul, Nat.reduceSub, Int.reduceToNat, Int.reduceAdd]
  refine opsR_q rfl (q_call rfl (clamp_spec _ _)) ?_
  simp only [nrm, Nat.reduceAdd, Nat.reduceMul, Nat.reduceSub, Int.reduceToNat, Int.reduceAdd]
  refine opsR_q rfl (q_move) ?_
  simp only [nrm, Nat.reduceAdd, Nat.reduceMul, Nat.reduceSub, Int.reduceToNat, Int.reduceAdd]
  refine opsR_q rfl (q_call rfl (refClamp_spec _ _)) ?_
  simp only [nrm, Nat.reduceAdd, Nat.reduceMul, Nat.reduceSub, Int.reduceToNat, Int.reduceAdd]
  refine opsR_q rfl (q_eql rfl rfl) ?_
  simp only [nrm, Nat.reduceAdd, Nat.reduceMul, Nat.reduceSub, Int.reduceToNat, Int.reduceAdd]
  refine opsR_qb rfl (q_move) (fun _ => ?_) (fun h => absurd h (by simp))
  simp only [nrm, Nat.reduceAdd, Nat.reduceMul, Nat.reduceSub, Int.reduceToNat, Int.reduceAdd]
  refine opsR_q rfl (q_move) ?_
  simp only [nrm, Nat.reduceAdd, Nat.reduceMul, Nat.reduceSub, Int.reduceToNat, Int.reduceAdd]
  refine opsR_q rfl (q_move) ?_
  simp only [nrm, Nat.reduceAdd, Nat.reduceMul, Nat.reduceSub, Int.reduceToNat, Int.reduceAdd]
  refine opsR_q rfl (q_call rfl (add_spec _ _ _)) ?_
  simp only [nrm, Nat.reduceAdd, Nat.reduceMul, Nat.reduceSub, Int.reduceToNat, Int.reduceAdd]
  refine opsR_q rfl (q_move) ?_
  simp only [nrm, Nat.reduceAdd, Nat.reduceMul, Nat.reduceSub, Int.reduceToNat, Int.reduceAdd]
  refine opsR_q rfl (q_move) ?_
  simp only [nrm, Nat.reduceAdd, Nat.reduceMul, Nat.reduceSub, Int.reduceToNat, Int.reduceAdd]
  refine opsR_q rfl (q_call rfl (refAdd_spec _ _ _)) ?_
  simp only [nrm, Nat.reduceAdd, Nat.reduceMul, Nat.reduceSub, Int.reduceToNat, Int.reduceAdd]
  refine opsR_q rfl (q_eql rfl rfl) ?_
  simp only [nrm, Nat.reduceAdd, Nat.reduceMul, Nat.reduceSub, Int.reduceToNat, Int.reduceAdd]
  refine opsR_q rfl (q_pick_t rfl) ?_
  simp only [nrm, Nat.reduceAdd, Nat.reduceMul, Nat.reduceSub, Int.reduceToNat, Int.reduceAdd]
  refine opsR_qb rfl (q_move) (fun _ => ?_) (fun h => absurd h (by simp))
  simp only [nrm, Nat.reduceAdd, Nat.reduceMul, Nat.reduceSub, Int.reduceToNat, Int.reduceAdd]
  refine opsR_q rfl (q_move) ?_
  simp only [nrm, Nat.reduceAdd, Nat.reduceMul, Nat.reduceSub, Int.reduceToNat, Int.reduceAdd]
  refine opsR_q rfl (q_move) ?_
  simp only [nrm, Nat.reduceAdd, Nat.reduceMul, Nat.reduceSub, Int.reduceToNat, Int.reduceAdd]
  refine opsR_q rfl (q_call rfl (sub_spec _ _ _)) ?_
  simp only [nrm, Nat.reduceAdd, Nat.reduceMul, Nat.reduceSub, Int.reduceToNat, Int.reduceAdd]
  refine opsR_q rfl (q_move) ?_
  simp only [nrm, Nat.reduceAdd, Nat.reduceMul, Nat.reduceSub, Int.reduceToNat, Int.reduceAdd]
  refine opsR_q rfl (q_move) ?_
  simp only [nrm, Nat.reduceAdd, Nat.reduceMul, Nat.reduceSub, Int.reduceToNat, Int.reduceAdd]
  refine opsR_q rfl (q_call rfl (refSub_spec _ _ _)) ?_
  simp only [nrm, Nat.reduceAdd, Nat.reduceMul, Nat.reduceSub, Int.reduceToNat, Int.reduceAdd]
  refine opsR_q rfl (q_eql rfl rfl) ?_
  simp only [nrm, Nat.reduceAdd, Nat.reduceMul, Nat.reduceSub, Int.reduceToNat, Int.reduceAdd]
  refine opsR_q rfl (q_pick_t rfl) ?_
  simp only [nrm, Nat.reduceAdd, Nat.reduceMul, Nat.reduceSub, Int.reduceToNat, Int.reduceAdd]
  refine opsR_qb rfl (q_move) (fun _ => ?_) (fun h => absurd h (by simp))
  simp only [nrm, Nat.reduceAdd, Nat.reduceMul, Nat.reduceSub, Int.reduceToNat, Int.reduceAdd]
  refine opsR_q rfl (q_move) ?_
  simp only [nrm, Nat.reduceAdd, Nat.reduceMul, Nat.reduceSub, Int.reduceToNat, Int.reduceAdd]
  refine opsR_q rfl (q_move) ?_
  simp only [nrm, Nat.reduceAdd, Nat.reduceMul, Nat.reduceSub, Int.reduceToNat, Int.reduceAdd]
  refine opsR_q rfl (q_call rfl (Times_spec _ _ _)) ?_
  simp only [nrm, Nat.reduceAdd, Nat.reduceMul, Nat.reduceSub, Int.reduceToNat, Int.reduceAdd]
  refine opsR_q rfl (q_move) ?_
  simp only [nrm, Nat.reduceAdd, Nat.reduceMul, Nat.reduceSub, Int.reduceToNat, Int.reduceAdd]
  refine opsR_q rfl (q_move) ?_
  simp only [nrm, Nat.reduceAdd, Nat.reduceMul, Nat.reduceSub, Int.reduceToNat, Int.reduceAdd]
  refine opsR_q rfl (q_call rfl (refTimes_spec _ _ _)) ?_
  simp only [nrm, Nat.reduceAdd, Nat.reduceMul, Nat.reduceSub, Int.reduceToNat, Int.reduceAdd]
  refine opsR_q rfl (q_eql rfl rfl) ?_
  simp only [nrm, Nat.reduceAdd, Nat.reduceMul, Nat.reduceSub, Int.reduceToNat, Int.reduceAdd]
  refine opsR_q rfl (q_pick_t rfl) ?_
  simp only [nrm, Nat.reduceAdd, Nat.reduceMul, Nat.reduceSub, Int.reduceToNat, Int.reduceAdd]
  refine opsR_qb rfl (q_move) (fun _ => ?_) (fun h => absurd h (by simp))
  simp only [nrm, Nat.reduceAdd, Nat.reduceMul, Nat.reduceSub, Int.reduceToNat, Int.reduceAdd]
  refine opsR_q rfl (q_move) ?_
  simp only [nrm, Nat.reduceAdd, Nat.reduceMul, Nat.reduceSub, Int.reduceToNat, Int.reduceAdd]
  refine opsR_q rfl (q_move) ?_
  simp only [nrm, Nat.reduceAdd, Nat.reduceMul, Nat.reduceSub, Int.reduceToNat, Int.reduceAdd]
  refine opsR_q rfl (q_move) ?_
  simp only [nrm, Nat.reduceAdd, Nat.reduceMul, Nat.reduceSub, Int.reduceToNat, Int.reduceAdd]
  refine opsR_q rfl (q_call rfl (Share_spec _ _ _ _)) ?_
  simp only [nrm, Nat.reduceAdd, Nat.reduceMul, Nat.reduceSub, Int.reduceToNat, Int.reduceAdd]
  refine opsR_q rfl (q_move) ?_
  simp only [nrm, Nat.reduceAdd, Nat.reduceMul, Nat.reduceSub, Int.reduceToNat, Int.reduceAdd]
  refine opsR_q rfl (q_move) ?_
  simp only [nrm, Nat.reduceAdd, Nat.reduceMul, Nat.reduceSub, Int.reduceToNat, Int.reduceAdd]
  refine opsR_q rfl (q_move) ?_
  simp only [nrm, Nat.reduceAdd, Nat.reduceMul, Nat.reduceSub, Int.reduceToNat, Int.reduceAdd]
  refine opsR_q rfl (q_call rfl (refShare_spec _ _ _ _)) ?_
  simp only [nrm, Nat.reduceAdd, Nat.reduceMul, Nat.reduceSub, Int.reduceToNat, Int.reduceAdd]
  refine opsR_q rfl (q_eql rfl rfl) ?_
  simp only [nrm, Nat.reduceAdd, Nat.reduceMul, Nat.reduceSub, Int.reduceToNat, Int.reduceAdd]
  refine opsR_q rfl (q_pick_t rfl) ?_
  simp only [nrm, Nat.reduceAdd, Nat.reduceMul, Nat.reduceSub, Int.reduceToNat, Int.reduceAdd]
  refine opsR_qb rfl (q_move) (fun _ => ?_) (fun h => absurd h (by simp))
  simp only [nrm, Nat.reduceAdd, Nat.reduceMul, Nat.reduceSub, Int.reduceToNat, Int.reduceAdd]
  refine opsR_o rfl (o_call rfl (works_spec (hT.mono (by first | exact .rfl | assumption | exact le2 (by assumption) (by assumption) | exact le3 (by assumption) (by assumption) (by assumption) | exact le4 (by assumption) (by assumption) (by assumption) (by assumption) | exact le5 (by assumption) (by assumption) (by assumption) (by assumption) (by assumption) | exact le6 (by assumption) (by assumption) (by assumption) (by assumption) (by assumption) (by assumption))) _ fun J6 hJ6 => ?_))
  try dsimp only at hJ6
  try (have hr6 : Hp.le s.I J6 := (by first | exact .rfl | assumption | exact le2 (by assumption) (by assumption) | exact le3 (by assumption) (by assumption) (by assumption) | exact le4 (by assumption) (by assumption) (by assumption) (by assumption) | exact le5 (by assumption) (by assumption) (by assumption) (by assumption) (by assumption) | exact le6 (by assumption) (by assumption) (by assumption) (by assumption) (by assumption) (by assumption)); have hJ6 := hJ6)
  simp only [nrm, Nat.reduceAdd, Nat.reduceMul, Nat.reduceSub, Int.reduceToNat, Int.reduceAdd]
  refine opsR_q rfl (q_pick_t rfl) ?_
  simp only [nrm, Nat.reduceAdd, Nat.reduceMul, Nat.reduceSub, Int.reduceToNat, Int.reduceAdd]
  refine opsR_q rfl (q_assign) ?_
  simp only [nrm, Nat.reduceAdd, Nat.reduceMul, Nat.reduceSub, Int.reduceToNat, Int.reduceAdd]
  refine opsR_nil ?_
  refine hk2 _ _ ?_
  clear hk2
  refine run_ret ?_
  exact end_tmp rfl rfl rfl (by first | exact .refl | exact .drop | exact .drop2 | exact .drop3 | exact .drop4 | exact Gh.drop.trans .drop4 | exact Gh.drop2.trans .drop4 | exact Gh.drop3.trans .drop4) ⟨rfl, by first | exact .rfl | assumption | exact le2 (by assumption) (by assumption) | exact le3 (by assumption) (by assumption) (by assumption) | exact le4 (by assumption) (by assumption) (by assumption) (by assumption) | exact le5 (by assumption) (by assumption) (by assumption) (by assumption) (by assumption) | exact le6 (by assumption) (by assumption) (by assumption) (by assumption) (by assumption) (by assumption)⟩
theorem QuantOrder_walk (a0 a1 a2 : Int) (s : St) (hT : Tabs s.I) (ok0 : (kInt .i64).ok a0) (ok1 : (kInt .i64).ok a1) (ok2 : (kInt .i64).ok a2) (hb : (kInt .i64).bulk a0 + (kInt .i64).bulk a1 + (kInt .i64).bulk a2 ≤ 1048576) :
    CallS Tryd.prog 5 #[.int .i64 a0, .int .i64 a1, .int .i64 a2] s (fun v s' => v = .bool true ∧ Hp.le s.I s'.I) := by
  refine callS_of_run Tryd.func5 rfl ?_; simp only [Tryd.ntmps5, List.size_toArray, List.length_cons, List.length_nil, Nat.reduceAdd, Nat.reduceSub, Array.replicate_succ, Array.replicate_zero, List.push_toArray, List.append_toArray, List.nil_append, List.cons_append]
  refine run_seq fun _ hk1 => ?_
  refine run_region ?_
  refine opsR_q rfl (q_assign) ?_
  simp only [nrm, Nat.reduceAdd, Nat.reduceMul, Nat.reduceSub, Int.reduceToNat, Int.reduceAdd]
  refine opsR_nil ?_
  refine hk1 _ _ ?_
  clear hk1
  refine run_seq fun _ hk2 => ?_
  refine run_seq fun _ hk3 => ?_
  refine run_region ?_
  refine opsR_o rfl (o_call rfl (works_spec (hT.mono (by first | exact .rfl | assumption | exact le2 (by assumption) (by assumption) | exact le3 (by assumption) (by assumption) (by assumption) | exact le4 (by assumption) (by assumption) (by assumption) (by assumption) | exact le5 (by assumption) (by assumption) (by assumption) (by assumption) (by assumption) | exact le6 (by assumption) (by assumption) (by assumption) (by assumption) (by assumption) (by assumption))) _ fun J4 hJ4 => ?_))
  try dsimp only at hJ4
  try (have hr4 : Hp.le s.I J4 := (by first | exact .rfl | assumption | exact le2 (by assumption) (by assumption) | exact le3 (by assumption) (by assumption) (by assumption) | exact le4 (by assumption) (by assumption) (by assumption) (by assumption) | exact le5 (by assumption) (by assumption) (by assumption) (by assumption) (by assumption) | exact le6 (by assumption) (by assumption) (by assumption) (by assumption) (by assumption) (by assumption)); have hJ4 := hJ4)
  simp only [nrm, Nat.reduceAdd, Nat.reduceMul, Nat.reduceSub, Int.reduceToNat, Int.reduceAdd]
  refine opsR_q rfl (q_not rfl) ?_
  simp only [nrm, Nat.reduceAdd, Nat.reduceMul, Nat.reduceSub, Int.reduceToNat, Int.reduceAdd]
  refine opsR_nil ?_
  refine hk3 _ _ ?_
  clear hk3
  refine run_cond (t := false) rfl (fun h => by cases h) (fun _ => ?_)
  refine run_skip ?_
  refine hk2 _ _ ?_
  clear hk2
  refine run_seq fun _ hk6 => ?_
  refine run_seq fun _ hk7 => ?_
  refine run_region ?_
  refine opsR_q rfl (q_move) ?_
  simp only [nrm, Nat.reduceAdd, Nat.reduceMul, Nat.reduceSub, Int.reduceToNat, Int.reduceAdd]
  refine opsR_q rfl (q_move) ?_
  simp only [nrm, Nat.reduceAdd, Nat.reduceMul, Nat.reduceSub, Int.reduceToNat, Int.reduceAdd]
  refine opsR_q rfl (q_call rfl (add_spec _ _ _)) ?_
  simp only [nrm, Nat.reduceAdd, Nat.reduceMul, Nat.reduceSub, Int.reduceToNat, Int.reduceAdd]
  refine opsR_q rfl (q_move) ?_
  simp only [nrm, Nat.reduceAdd, Nat.reduceMul, Nat.reduceSub, Int.reduceToNat, Int.reduceAdd]
  refine opsR_q rfl (q_move) ?_
  simp only [nrm, Nat.reduceAdd, Nat.reduceMul, Nat.reduceSub, Int.reduceToNat, Int.reduceAdd]
  refine opsR_q rfl (q_call rfl (add_spec _ _ _)) ?_
  simp only [nrm, Nat.reduceAdd, Nat.reduceMul, Nat.reduceSub, Int.reduceToNat, Int.reduceAdd]
  refine opsR_q rfl (q_neq rfl rfl) ?_
  simp only [nrm, Nat.reduceAdd, Nat.reduceMul, Nat.reduceSub, Int.reduceToNat, Int.reduceAdd]
  refine opsR_qb rfl (q_move) (fun h => absurd h (by rw [add_comm']; simp)) (fun _ => ?_)
  simp only [nrm, Nat.reduceAdd, Nat.reduceMul, Nat.reduceSub, Int.reduceToNat, Int.reduceAdd]
  refine opsR_q rfl (q_move) ?_
  simp only [nrm, Nat.reduceAdd, Nat.reduceMul, Nat.reduceSub, Int.reduceToNat, Int.reduceAdd]
  refine opsR_q rfl (q_move) ?_
  simp only [nrm, Nat.reduceAdd, Nat.reduceMul, Nat.reduceSub, Int.reduceToNat, Int.reduceAdd]
  refine opsR_q rfl (q_call rfl (add_spec _ _ _)) ?_
  simp only [nrm, Nat.reduceAdd, Nat.reduceMul, Nat.reduceSub, Int.reduceToNat, Int.reduceAdd]
  refine opsR_q rfl (q_move) ?_
  simp only [nrm, Nat.reduceAdd, Nat.reduceMul, Nat.reduceSub, Int.reduceToNat, Int.reduceAdd]
  refine opsR_q rfl (q_call rfl (add_spec _ _ _)) ?_
  simp only [nrm, Nat.reduceAdd, Nat.reduceMul, Nat.reduceSub, Int.reduceToNat, Int.reduceAdd]
  refine opsR_q rfl (q_move) ?_
  simp only [nrm, Nat.reduceAdd, Nat.reduceMul, Nat.reduceSub, Int.reduceToNat, Int.reduceAdd]
  refine opsR_q rfl (q_move) ?_
  simp only [nrm, Nat.reduceAdd, Nat.reduceMul, Nat.reduceSub, Int.reduceToNat, Int.reduceAdd]
  refine opsR_q rfl (q_move) ?_
  simp only [nrm, Nat.reduceAdd, Nat.reduceMul, Nat.reduceSub, Int.reduceToNat, Int.reduceAdd]
  refine opsR_q rfl (q_call rfl (add_spec _ _ _)) ?_
  simp only [nrm, Nat.reduceAdd, Nat.reduceMul, Nat.reduceSub, Int.reduceToNat, Int.reduceAdd]
  refine opsR_q rfl (q_call rfl (add_spec _ _ _)) ?_
  simp only [nrm, Nat.reduceAdd, Nat.reduceMul, Nat.reduceSub, Int.reduceToNat, Int.reduceAdd]
  refine opsR_q rfl (q_neq rfl rfl) ?_
  simp only [nrm, Nat.reduceAdd, Nat.reduceMul, Nat.reduceSub, Int.reduceToNat, Int.reduceAdd]
  refine opsR_q rfl (q_pick_f rfl) ?_
  simp only [nrm, Nat.reduceAdd, Nat.reduceMul, Nat.reduceSub, Int.reduceToNat, Int.reduceAdd]
  refine opsR_nil ?_
  refine hk7 _ _ ?_
  clear hk7
  refine run_cond rfl (fun ho11 => ?_) (fun ho11 => ?_)
  · have hc11 := ho11; try simp only [spl] at hc11
    refine run_seq fun _ hk12 => ?_
    exact absurd (add_assoc' _ _ _) hc11
  · have hc11 := ho11; try simp only [spl] at hc11
    refine run_skip ?_
    refine hk6 _ _ ?_
    clear hk6
    refine run_seq fun _ hk13 => ?_
    refine run_region ?_
    refine opsR_q rfl (q_move) ?_
    simp only [nrm, Nat.reduceAdd, Nat.reduceMul, Nat.reduceSub, Int.reduceToNat, Int.reduceAdd]
    refine opsR_q rfl (q_move) ?_
    simp only [nrm, Nat.reduceAdd, Nat.reduceMul, Nat.reduceSub, Int.reduceToNat, Int.reduceAdd]
    refine opsR_q rfl (q_call rfl (add_spec _ _ _)) ?_
    simp only [nrm, Nat.reduceAdd, Nat.reduceMul, Nat.reduceSub, Int.reduceToNat, Int.reduceAdd]
    refine opsR_q rfl (q_assign) ?_
    simp only [nrm, Nat.reduceAdd, Nat.reduceMul, Nat.reduceSub, Int.reduceToNat, Int.reduceAdd]
    refine opsR_nil ?_
    refine hk13 _ _ ?_
    clear hk13
    refine run_seq fun _ hk14 => ?_
    refine run_region ?_
    refine opsR_q rfl (q_move) ?_
    simp only [nrm, Nat.reduceAdd, Nat.reduceMul, Nat.reduceSub, Int.reduceToNat, Int.reduceAdd]
    refine opsR_q rfl (q_eql rfl rfl) ?_
    simp only [nrm, Nat.reduceAdd, Nat.reduceMul, Nat.reduceSub, Int.reduceToNat, Int.reduceAdd]
    refine opsR_qb rfl (q_move) (fun hc15 => ?_) (fun hc15 => ?_)
    · have ho15 := hc15; try simp only [spl] at hc15
      simp only [nrm, Nat.reduceAdd, Nat.reduceMul, Nat.reduceSub, Int.reduceToNat, Int.reduceAdd]
      refine opsR_skip rfl ?_
      simp only [nrm, Nat.reduceAdd, Nat.reduceMul, Nat.reduceSub, Int.reduceToNat, Int.reduceAdd]
      refine opsR_skip rfl ?_
      simp only [nrm, Nat.reduceAdd, Nat.reduceMul, Nat.reduceSub, Int.reduceToNat, Int.reduceAdd]
      refine opsR_skip rfl ?_
      simp only [nrm, Nat.reduceAdd, Nat.reduceMul, Nat.reduceSub, Int.reduceToNat, Int.reduceAdd]
      refine opsR_skip rfl ?_
      simp only [nrm, Nat.reduceAdd, Nat.reduceMul, Nat.reduceSub, Int.reduceToNat, Int.reduceAdd]
      refine opsR_skip rfl ?_
      simp only [nrm, Nat.reduceAdd, Nat.reduceMul, Nat.reduceSub, Int.reduceToNat, Int.reduceAdd]
      refine opsR_skip rfl ?_
      simp only [nrm, Nat.reduceAdd, Nat.reduceMul, Nat.reduceSub, Int.reduceToNat, Int.reduceAdd]
      refine opsR_q rfl (q_pick_t rfl) ?_
      simp only [nrm, Nat.reduceAdd, Nat.reduceMul, Nat.reduceSub, Int.reduceToNat, Int.reduceAdd]
      refine opsR_q rfl (q_assign) ?_
      simp only [nrm, Nat.reduceAdd, Nat.reduceMul, Nat.reduceSub, Int.reduceToNat, Int.reduceAdd]
      refine opsR_nil ?_
      refine hk14 _ _ ?_
      clear hk14
      refine run_ret ?_
      first | exact end_tmp rfl rfl rfl (by first | exact .refl | exact .drop | exact .drop2 | exact .drop3 | exact .drop4 | exact Gh.drop.trans .drop4 | exact Gh.drop2.trans .drop4 | exact Gh.drop3.trans .drop4) ⟨rfl, by first | exact .rfl | assumption | exact le2 (by assumption) (by assumption) | exact le3 (by assumption) (by assumption) (by assumption) | exact le4 (by assumption) (by assumption) (by assumption) (by assumption) | exact le5 (by assumption) (by assumption) (by assumption) (by assumption) (by assumption) | exact le6 (by assumption) (by assumption) (by assumption) (by assumption) (by assumption) (by assumption)⟩ | exact end_tmp rfl rfl rfl (by first | exact .refl | exact .drop | exact .drop2 | exact .drop3 | exact .drop4 | exact Gh.drop.trans .drop4 | exact Gh.drop2.trans .drop4 | exact Gh.drop3.trans .drop4) ⟨congrArg Go.Value.bool (decide_eq_true (add_sub' (by assumption))), by first | exact .rfl | assumption | exact le2 (by assumption) (by assumption) | exact le3 (by assumption) (by assumption) (by assumption) | exact le4 (by assumption) (by assumption) (by assumption) (by assumption) | exact le5 (by assumption) (by assumption) (by assumption) (by assumption) (by assumption) | exact le6 (by assumption) (by assumption) (by assumption) (by assumption) (by assumption) (by assumption)⟩
    · have ho15 := hc15; try simp only [spl] at hc15
      simp only [nrm, Nat.reduceAdd, Nat.reduceMul, Nat.reduceSub, Int.reduceToNat, Int.reduceAdd]
      refine opsR_q rfl (q_move) ?_
      simp only [nrm, Nat.reduceAdd, Nat.reduceMul, Nat.reduceSub, Int.reduceToNat, Int.reduceAdd]
      refine opsR_q rfl (q_move) ?_
      simp only [nrm, Nat.reduceAdd, Nat.reduceMul, Nat.reduceSub, Int.reduceToNat, Int.reduceAdd]
      refine opsR_q rfl (q_call rfl (sub_spec _ _ _)) ?_
      simp only [nrm, Nat.reduceAdd, Nat.reduceMul, Nat.reduceSub, Int.reduceToNat, Int.reduceAdd]
      refine opsR_q rfl (q_move) ?_
      simp only [nrm, Nat.reduceAdd, Nat.reduceMul, Nat.reduceSub, Int.reduceToNat, Int.reduceAdd]
      refine opsR_q rfl (q_call rfl (clamp_spec _ _)) ?_
      simp only [nrm, Nat.reduceAdd, Nat.reduceMul, Nat.reduceSub, Int.reduceToNat, Int.reduceAdd]
      refine opsR_q rfl (q_eql rfl rfl) ?_
      simp only [nrm, Nat.reduceAdd, Nat.reduceMul, Nat.reduceSub, Int.reduceToNat, Int.reduceAdd]
      refine opsR_q rfl (q_pick_f rfl) ?_
      simp only [nrm, Nat.reduceAdd, Nat.reduceMul, Nat.reduceSub, Int.reduceToNat, Int.reduceAdd]
      refine opsR_q rfl (q_assign) ?_
      simp only [nrm, Nat.reduceAdd, Nat.reduceMul, Nat.reduceSub, Int.reduceToNat, Int.reduceAdd]
      refine opsR_nil ?_
      refine hk14 _ _ ?_
      clear hk14
      refine run_ret ?_
      first | exact end_tmp rfl rfl rfl (by first | exact .refl | exact .drop | exact .drop2 | exact .drop3 | exact .drop4 | exact Gh.drop.trans .drop4 | exact Gh.drop2.trans .drop4 | exact Gh.drop3.trans .drop4) ⟨rfl, by first | exact .rfl | assumption | exact le2 (by assumption) (by assumption) | exact le3 (by assumption) (by assumption) (by assumption) | exact le4 (by assumption) (by assumption) (by assumption) (by assumption) | exact le5 (by assumption) (by assumption) (by assumption) (by assumption) (by assumption) | exact le6 (by assumption) (by assumption) (by assumption) (by assumption) (by assumption) (by assumption)⟩ | exact end_tmp rfl rfl rfl (by first | exact .refl | exact .drop | exact .drop2 | exact .drop3 | exact .drop4 | exact Gh.drop.trans .drop4 | exact Gh.drop2.trans .drop4 | exact Gh.drop3.trans .drop4) ⟨congrArg Go.Value.bool (decide_eq_true (add_sub' (by assumption))), by first | exact .rfl | assumption | exact le2 (by assumption) (by assumption) | exact le3 (by assumption) (by assumption) (by assumption) | exact le4 (by assumption) (by assumption) (by assumption) (by assumption) | exact le5 (by assumption) (by assumption) (by assumption) (by assumption) (by assumption) | exact le6 (by assumption) (by assumption) (by assumption) (by assumption) (by assumption) (by assumption)⟩
set_option maxHeartbeats 1000000 in
theorem QuantFits_walk (a0 : Res) (c0 : List Value) (a1 : Res) (c1 : List Value) (a2 : Res) (c2 : List Value) (s : St) (hT : Tabs s.I) (h0 : kRes.rep s.I a0 c0) (ok0 : kRes.ok a0) (h1 : kRes.rep s.I a1 c1) (ok1 : kRes.ok a1) (h2 : kRes.rep s.I a2 c2) (ok2 : kRes.ok a2)
    (hb : kRes.bulk a0 + kRes.bulk a1 + kRes.bulk a2 ≤ 1048576) : CallS Tryd.prog 7 #[.agg c0.toArray, .agg c1.toArray, .agg c2.toArray] s (fun v s' => v = .bool true ∧ Hp.le s.I s'.I) := by
  obtain rfl := kRes.open h0
  obtain rfl := kRes.open h1
  obtain rfl := kRes.open h2
  refine callS_of_run Tryd.func7 rfl ?_; simp only [Tryd.ntmps7, List.size_toArray, List.length_cons, List.length_nil, Nat.reduceAdd, Nat.reduceSub, Array.replicate_succ, Array.replicate_zero, List.push_toArray, List.append_toArray, List.nil_append, List.cons_append]
  refine run_seq fun _ hk1 => ?_
  refine run_region ?_
  refine opsR_o rfl (o_box fun b2 hb2 => ?_)
  simp only [nrm, Nat.reduceAdd, Nat.reduceMul, Nat.reduceSub, Int.reduceToNat, Int.reduceAdd]
  refine opsR_o rfl (o_box fun b3 hb3 => ?_)
  simp only [nrm, Nat.reduceAdd, Nat.reduceMul, Nat.reduceSub, Int.reduceToNat, Int.reduceAdd]
  refine opsR_o rfl (o_box fun b4 hb4 => ?_)
  simp only [nrm, Nat.reduceAdd, Nat.reduceMul, Nat.reduceSub, Int.reduceToNat, Int.reduceAdd]
  refine opsR_q rfl (q_assign) ?_
  simp only [nrm, Nat.reduceAdd, Nat.reduceMul, Nat.reduceSub, Int.reduceToNat, Int.reduceAdd]
  refine opsR_nil ?_
  refine hk1 _ _ ?_
  clear hk1
  refine run_seq fun _ hk5 => ?_
  refine run_seq fun _ hk6 => ?_
  refine run_region ?_
  refine opsR_o rfl (o_call rfl (works_spec (hT.mono (by first | exact .rfl | assumption | exact le2 (by assumption) (by assumption) | exact le3 (by assumption) (by assumption) (by assumption) | exact le4 (by assumption) (by assumption) (by assumption) (by assumption) | exact le5 (by assumption) (by assumption) (by assumption) (by assumption) (by assumption) | exact le6 (by assumption) (by assumption) (by assumption) (by assumption) (by assumption) (by assumption))) _ fun J7 hJ7 => ?_))
  try dsimp only at hJ7
  try (have hr7 : Hp.le s.I J7 := (by first | exact .rfl | assumption | exact le2 (by assumption) (by assumption) | exact le3 (by assumption) (by assumption) (by assumption) | exact le4 (by assumption) (by assumption) (by assumption) (by assumption) | exact le5 (by assumption) (by assumption) (by assumption) (by assumption) (by assumption) | exact le6 (by assumption) (by assumption) (by assumption) (by assumption) (by assumption) (by assumption)); have hJ7 := hJ7)
  simp only [nrm, Nat.reduceAdd, Nat.reduceMul, Nat.reduceSub, Int.reduceToNat, Int.reduceAdd]
  refine opsR_q rfl (q_not rfl) ?_
  simp only [nrm, Nat.reduceAdd, Nat.reduceMul, Nat.reduceSub, Int.reduceToNat, Int.reduceAdd]
  refine opsR_nil ?_
  refine hk6 _ _ ?_
  clear hk6
  refine run_cond (t := false) rfl (fun h => by cases h) (fun _ => ?_)
  refine run_skip ?_
  refine hk5 _ _ ?_
  clear hk5
  refine run_seq fun _ hk9 => ?_
  refine run_seq fun _ hk10 => ?_
  refine run_drawE mixed 24 (by kernel_rfl) rfl ?_
  simp only [List.take_succ_cons, List.take_zero, List.drop_succ_cons, List.drop_zero, List.drop_nil, List.take_nil]
  refine oblE_q rfl (fun I hI => (by first | exact q_loadBN rfl inferInstance (by rfl) | exact q_loadBW rfl inferInstance (by assumption))) ?_
  simp only [nrm, Nat.reduceAdd, Nat.reduceMul, Nat.reduceSub, Int.reduceToNat, Int.reduceAdd]
  refine oblE_q rfl (fun I hI => (by first | exact q_loadBN rfl inferInstance (by rfl) | exact q_loadBW rfl inferInstance (by assumption))) ?_
  simp only [nrm, Nat.reduceAdd, Nat.reduceMul, Nat.reduceSub, Int.reduceToNat, Int.reduceAdd]
  refine oblE_q rfl (fun I hI => (q_call rfl (Fits_spec ⟨_, _, _⟩ ⟨_, _, _⟩ _))) ?_
  simp only [nrm, Nat.reduceAdd, Nat.reduceMul, Nat.reduceSub, Int.reduceToNat, Int.reduceAdd]
  refine oblE_qb rfl (fun I hI => (q_move)) (fun hc13 => ?_) (fun hc13 => ?_)
  · have ho13 := hc13; try simp only [spl] at hc13
    simp only [nrm, Nat.reduceAdd, Nat.reduceMul, Nat.reduceSub, Int.reduceToNat, Int.reduceAdd]
    refine oblE_q rfl (fun I hI => (by first | exact q_loadBN rfl inferInstance (by rfl) | exact q_loadBW rfl inferInstance (by assumption))) ?_
    simp only [nrm, Nat.reduceAdd, Nat.reduceMul, Nat.reduceSub, Int.reduceToNat, Int.reduceAdd]
    refine oblE_q rfl (fun I hI => (by first | exact q_loadBN rfl inferInstance (by rfl) | exact q_loadBW rfl inferInstance (by assumption))) ?_
    simp only [nrm, Nat.reduceAdd, Nat.reduceMul, Nat.reduceSub, Int.reduceToNat, Int.reduceAdd]
    refine oblE_q rfl (fun I hI => (q_call rfl (Minus_spec _ _ _ _ _ _ _))) ?_
    simp only [nrm, Nat.reduceAdd, Nat.reduceMul, Nat.reduceSub, Int.reduceToNat, Int.reduceAdd]
    refine oblE_q rfl (fun I hI => (by first | exact q_loadBN rfl inferInstance (by rfl) | exact q_loadBW rfl inferInstance (by assumption))) ?_
    simp only [nrm, Nat.reduceAdd, Nat.reduceMul, Nat.reduceSub, Int.reduceToNat, Int.reduceAdd]
    refine oblE_q rfl (fun I hI => (q_call rfl (Fits_spec ⟨_, _, _⟩ ⟨_, _, _⟩ _))) ?_
    simp only [nrm, Nat.reduceAdd, Nat.reduceMul, Nat.reduceSub, Int.reduceToNat, Int.reduceAdd]
    refine oblE_q rfl (fun I hI => (q_not rfl)) ?_
    simp only [nrm, Nat.reduceAdd, Nat.reduceMul, Nat.reduceSub, Int.reduceToNat, Int.reduceAdd]
    refine oblE_q rfl (fun I hI => (q_pick_t rfl)) ?_
    simp only [nrm, Nat.reduceAdd, Nat.reduceMul, Nat.reduceSub, Int.reduceToNat, Int.reduceAdd]
    refine oblE_qb rfl (fun I hI => (q_move)) (fun h => absurd h (by rw [show Res.fits ⟨Q.sub a0.CPU a2.CPU, Q.sub a0.Mem a2.Mem, Q.sub a0.Disk a2.Disk⟩ a1 = true from fits_less (w := a0) (f := a1) (l := a2) (by assumption)]; decide)) (fun _ => ?_)
    simp only [nrm, Nat.reduceAdd, Nat.reduceMul, Nat.reduceSub, Int.reduceToNat, Int.reduceAdd]
    refine oblE_q rfl (fun I hI => (by first | exact q_loadBN rfl inferInstance (by rfl) | exact q_loadBW rfl inferInstance (by assumption))) ?_
    simp only [nrm, Nat.reduceAdd, Nat.reduceMul, Nat.reduceSub, Int.reduceToNat, Int.reduceAdd]
    refine oblE_q rfl (fun I hI => (by first | exact q_loadBN rfl inferInstance (by rfl) | exact q_loadBW rfl inferInstance (by assumption))) ?_
    simp only [nrm, Nat.reduceAdd, Nat.reduceMul, Nat.reduceSub, Int.reduceToNat, Int.reduceAdd]
    refine oblE_q rfl (fun I hI => (q_call rfl (Fits_spec ⟨_, _, _⟩ ⟨_, _, _⟩ _))) ?_
    simp only [nrm, Nat.reduceAdd, Nat.reduceMul, Nat.reduceSub, Int.reduceToNat, Int.reduceAdd]
    refine oblE_q rfl (fun I hI => (q_not rfl)) ?_
    simp only [nrm, Nat.reduceAdd, Nat.reduceMul, Nat.reduceSub, Int.reduceToNat, Int.reduceAdd]
    refine oblE_qb rfl (fun I hI => (q_move)) (fun h => by first | exact absurd h (by rw [ho13]; decide) | exact absurd ho13 (by rw [h]; decide)) (fun _ => ?_)
    simp only [nrm, Nat.reduceAdd, Nat.reduceMul, Nat.reduceSub, Int.reduceToNat, Int.reduceAdd]
    refine oblE_skip rfl ?_
    simp only [nrm, Nat.reduceAdd, Nat.reduceMul, Nat.reduceSub, Int.reduceToNat, Int.reduceAdd]
    refine oblE_skip rfl ?_
    simp only [nrm, Nat.reduceAdd, Nat.reduceMul, Nat.reduceSub, Int.reduceToNat, Int.reduceAdd]
    refine oblE_skip rfl ?_
    simp only [nrm, Nat.reduceAdd, Nat.reduceMul, Nat.reduceSub, Int.reduceToNat, Int.reduceAdd]
    refine oblE_skip rfl ?_
    simp only [nrm, Nat.reduceAdd, Nat.reduceMul, Nat.reduceSub, Int.reduceToNat, Int.reduceAdd]
    refine oblE_skip rfl ?_
    simp only [nrm, Nat.reduceAdd, Nat.reduceMul, Nat.reduceSub, Int.reduceToNat, Int.reduceAdd]
    refine oblE_q rfl (fun I hI => (q_pick_f rfl)) ?_
    simp only [nrm, Nat.reduceAdd, Nat.reduceMul, Nat.reduceSub, Int.reduceToNat, Int.reduceAdd]
    refine oblE_q rfl (fun I hI => (q_pick_f rfl)) ?_
    simp only [nrm, Nat.reduceAdd, Nat.reduceMul, Nat.reduceSub, Int.reduceToNat, Int.reduceAdd]
    refine oblE_nil (show OpsR _ _ _ _ _ _ from ?_)
    try simp only [nrm, Nat.reduceAdd, Nat.reduceMul, Nat.reduceSub, Int.reduceToNat, Int.reduceAdd]
    refine opsR_nil ?_
    refine hk10 _ _ ?_
    clear hk10
    refine run_cond (t := false) rfl (fun h => by cases h) (fun _ => ?_)
    refine run_skip ?_
    refine hk9 _ _ ?_
    clear hk9
    refine run_seq fun _ hk15 => ?_
    refine run_region ?_
    refine opsR_q rfl (by first | exact q_loadBN rfl inferInstance (by rfl) | exact q_loadBW rfl inferInstance (by assumption)) ?_
    simp only [nrm, Nat.reduceAdd, Nat.reduceMul, Nat.reduceSub, Int.reduceToNat, Int.reduceAdd]
    refine opsR_q rfl (q_build rfl) ?_
    simp only [nrm, Nat.reduceAdd, Nat.reduceMul, Nat.reduceSub, Int.reduceToNat, Int.reduceAdd]
    refine opsR_q rfl (q_call rfl (Plus_spec _ _ _ _ _ _ _)) ?_
    simp only [nrm, Nat.reduceAdd, Nat.reduceMul, Nat.reduceSub, Int.reduceToNat, Int.reduceAdd]
    refine opsR_o rfl (o_alloc fun b17 hb17 => ?_)
    simp only [nrm, Nat.reduceAdd, Nat.reduceMul, Nat.reduceSub, Int.reduceToNat, Int.reduceAdd]
    refine opsR_o rfl (o_storeB rfl rfl inferInstance (by first | rfl | assumption) (by first | rfl | exact Kd.one _ (by assumption) | assumption) (by first | rfl | (refine Nat.ble_eq_true_of_le ?_; (try simp only [Int.toNat_natCast]); omega)) ?_)
    simp only [nrm, Nat.reduceAdd, Nat.reduceMul, Nat.reduceSub, Int.reduceToNat, Int.reduceAdd]
    refine opsR_nil ?_
    refine hk15 _ _ ?_
    clear hk15
    refine run_seq fun _ hk18 => ?_
    refine run_drawE mixed 14 (by kernel_rfl) rfl ?_
    simp only [List.take_succ_cons, List.take_zero, List.drop_succ_cons, List.drop_zero, List.drop_nil, List.take_nil]
    refine oblE_q rfl (fun I hI => (by first | exact q_loadBN rfl inferInstance (by rfl) | exact q_loadBW rfl inferInstance (by assumption))) ?_
    simp only [nrm, Nat.reduceAdd, Nat.reduceMul, Nat.reduceSub, Int.reduceToNat, Int.reduceAdd]
    refine oblE_q rfl (fun I hI => (by first | exact q_loadBN rfl inferInstance (by rfl) | exact q_loadBW rfl inferInstance (by assumption))) ?_
    simp only [nrm, Nat.reduceAdd, Nat.reduceMul, Nat.reduceSub, Int.reduceToNat, Int.reduceAdd]
    refine oblE_q rfl (fun I hI => (q_call rfl (Fits_spec ⟨_, _, _⟩ ⟨_, _, _⟩ _))) ?_
    simp only [nrm, Nat.reduceAdd, Nat.reduceMul, Nat.reduceSub, Int.reduceToNat, Int.reduceAdd]
    refine oblE_q rfl (fun I hI => (q_not rfl)) ?_
    simp only [nrm, Nat.reduceAdd, Nat.reduceMul, Nat.reduceSub, Int.reduceToNat, Int.reduceAdd]
    refine oblE_qb rfl (fun I hI => (q_move)) (fun hc19 => ?_) (fun hc19 => ?_)
    · have ho19 := hc19; try simp only [spl] at hc19
      simp only [nrm, Nat.reduceAdd, Nat.reduceMul, Nat.reduceSub, Int.reduceToNat, Int.reduceAdd]
      refine oblE_skip rfl ?_
      simp only [nrm, Nat.reduceAdd, Nat.reduceMul, Nat.reduceSub, Int.reduceToNat, Int.reduceAdd]
      refine oblE_skip rfl ?_
      simp only [nrm, Nat.reduceAdd, Nat.reduceMul, Nat.reduceSub, Int.reduceToNat, Int.reduceAdd]
      refine oblE_skip rfl ?_
      simp only [nrm, Nat.reduceAdd, Nat.reduceMul, Nat.reduceSub, Int.reduceToNat, Int.reduceAdd]
      refine oblE_skip rfl ?_
      simp only [nrm, Nat.reduceAdd, Nat.reduceMul, Nat.reduceSub, Int.reduceToNat, Int.reduceAdd]
      refine oblE_skip rfl ?_
      simp only [nrm, Nat.reduceAdd, Nat.reduceMul, Nat.reduceSub, Int.reduceToNat, Int.reduceAdd]
      refine oblE_skip rfl ?_
      simp only [nrm, Nat.reduceAdd, Nat.reduceMul, Nat.reduceSub, Int.reduceToNat, Int.reduceAdd]
      refine oblE_skip rfl ?_
      simp only [nrm, Nat.reduceAdd, Nat.reduceMul, Nat.reduceSub, Int.reduceToNat, Int.reduceAdd]
      refine oblE_q rfl (fun I hI => (q_pick_t rfl)) ?_
      simp only [nrm, Nat.reduceAdd, Nat.reduceMul, Nat.reduceSub, Int.reduceToNat, Int.reduceAdd]
      refine oblE_q rfl (fun I hI => (q_assign)) ?_
      simp only [nrm, Nat.reduceAdd, Nat.reduceMul, Nat.reduceSub, Int.reduceToNat, Int.reduceAdd]
      refine oblE_nil (show OpsR _ _ _ _ _ _ from ?_)
      try simp only [nrm, Nat.reduceAdd, Nat.reduceMul, Nat.reduceSub, Int.reduceToNat, Int.reduceAdd]
      refine opsR_nil ?_
      refine hk18 _ _ ?_
      clear hk18
      refine run_ret ?_
      first | exact end_tmp rfl rfl rfl (by first | exact .refl | exact .drop | exact .drop2 | exact .drop3 | exact .drop4 | exact Gh.drop.trans .drop4 | exact Gh.drop2.trans .drop4 | exact Gh.drop3.trans .drop4) ⟨rfl, by first | exact .rfl | assumption | exact le2 (by assumption) (by assumption) | exact le3 (by assumption) (by assumption) (by assumption) | exact le4 (by assumption) (by assumption) (by assumption) (by assumption) | exact le5 (by assumption) (by assumption) (by assumption) (by assumption) (by assumption) | exact le6 (by assumption) (by assumption) (by assumption) (by assumption) (by assumption) (by assumption)⟩ | exact end_tmp rfl rfl rfl (by first | exact .refl | exact .drop | exact .drop2 | exact .drop3 | exact .drop4 | exact Gh.drop.trans .drop4 | exact Gh.drop2.trans .drop4 | exact Gh.drop3.trans .drop4) ⟨congrArg Go.Value.bool (decide_eq_true (fits_back (w := a0) (f := a1) (by assumption))), by first | exact .rfl | assumption | exact le2 (by assumption) (by assumption) | exact le3 (by assumption) (by assumption) (by assumption) | exact le4 (by assumption) (by assumption) (by assumption) (by assumption) | exact le5 (by assumption) (by assumption) (by assumption) (by assumption) (by assumption) | exact le6 (by assumption) (by assumption) (by assumption) (by assumption) (by assumption) (by assumption)⟩
    · have ho19 := hc19; try simp only [spl] at hc19
      simp only [nrm, Nat.reduceAdd, Nat.reduceMul, Nat.reduceSub, Int.reduceToNat, Int.reduceAdd]
      refine oblE_q rfl (fun I hI => (by first | exact q_loadBN rfl inferInstance (by rfl) | exact q_loadBW rfl inferInstance (by assumption))) ?_
      simp only [nrm, Nat.reduceAdd, Nat.reduceMul, Nat.reduceSub, Int.reduceToNat, Int.reduceAdd]
      refine oblE_q rfl (fun I hI => (by first | exact q_loadBN rfl inferInstance (by rfl) | exact q_loadBW rfl inferInstance (by assumption))) ?_
      simp only [nrm, Nat.reduceAdd, Nat.reduceMul, Nat.reduceSub, Int.reduceToNat, Int.reduceAdd]
      refine oblE_q rfl (fun I hI => (q_call rfl (Minus_spec _ _ _ _ _ _ _))) ?_
      simp only [nrm, Nat.reduceAdd, Nat.reduceMul, Nat.reduceSub, Int.reduceToNat, Int.reduceAdd]
      refine oblE_q rfl (fun I hI => (by first | exact q_loadBN rfl inferInstance (by rfl) | exact q_loadBW rfl inferInstance (by assumption))) ?_
      simp only [nrm, Nat.reduceAdd, Nat.reduceMul, Nat.reduceSub, Int.reduceToNat, Int.reduceAdd]
      refine oblE_q rfl (fun I hI => (q_call rfl (Plus_spec _ _ _ _ _ _ _))) ?_
      simp only [nrm, Nat.reduceAdd, Nat.reduceMul, Nat.reduceSub, Int.reduceToNat, Int.reduceAdd]
      refine oblE_q rfl (fun I hI => (by first | exact q_loadBN rfl inferInstance (by rfl) | exact q_loadBW rfl inferInstance (by assumption))) ?_
      simp only [nrm, Nat.reduceAdd, Nat.reduceMul, Nat.reduceSub, Int.reduceToNat, Int.reduceAdd]
      refine oblE_q rfl (fun I hI => (q_eql_agg rfl rfl (fun m K h => kRes.eqL (m + 6) h))) ?_
      simp only [nrm, Nat.reduceAdd, Nat.reduceMul, Nat.reduceSub, Int.reduceToNat, Int.reduceAdd]
      refine oblE_q rfl (fun I hI => (q_pick_f rfl)) ?_
      simp only [nrm, Nat.reduceAdd, Nat.reduceMul, Nat.reduceSub, Int.reduceToNat, Int.reduceAdd]
      refine oblE_q rfl (fun I hI => (q_assign)) ?_
      simp only [nrm, Nat.reduceAdd, Nat.reduceMul, Nat.reduceSub, Int.reduceToNat, Int.reduceAdd]
      refine oblE_nil (show OpsR _ _ _ _ _ _ from ?_)
      try simp only [nrm, Nat.reduceAdd, Nat.reduceMul, Nat.reduceSub, Int.reduceToNat, Int.reduceAdd]
      refine opsR_nil ?_
      refine hk18 _ _ ?_
      clear hk18
      refine run_ret ?_
      first | exact end_tmp rfl rfl rfl (by first | exact .refl | exact .drop | exact .drop2 | exact .drop3 | exact .drop4 | exact Gh.drop.trans .drop4 | exact Gh.drop2.trans .drop4 | exact Gh.drop3.trans .drop4) ⟨rfl, by first | exact .rfl | assumption | exact le2 (by assumption) (by assumption) | exact le3 (by assumption) (by assumption) (by assumption) | exact le4 (by assumption) (by assumption) (by assumption) (by assumption) | exact le5 (by assumption) (by assumption) (by assumption) (by assumption) (by assumption) | exact le6 (by assumption) (by assumption) (by assumption) (by assumption) (by assumption) (by assumption)⟩ | exact end_tmp rfl rfl rfl (by first | exact .refl | exact .drop | exact .drop2 | exact .drop3 | exact .drop4 | exact Gh.drop.trans .drop4 | exact Gh.drop2.trans .drop4 | exact Gh.drop3.trans .drop4) ⟨congrArg Go.Value.bool (decide_eq_true (fits_back (w := a0) (f := a1) (by assumption))), by first | exact .rfl | assumption | exact le2 (by assumption) (by assumption) | exact le3 (by assumption) (by assumption) (by assumption) | exact le4 (by assumption) (by assumption) (by assumption) (by assumption) | exact le5 (by assumption) (by assumption) (by assumption) (by assumption) (by assumption) | exact le6 (by assumption) (by assumption) (by assumption) (by assumption) (by assumption) (by assumption)⟩
  · have ho13 := hc13; try simp only [spl] at hc13
    simp only [nrm, Nat.reduceAdd, Nat.reduceMul, Nat.reduceSub, Int.reduceToNat, Int.reduceAdd]
    refine oblE_skip rfl ?_
    simp only [nrm, Nat.reduceAdd, Nat.reduceMul, Nat.reduceSub, Int.reduceToNat, Int.reduceAdd]
    refine oblE_skip rfl ?_
    simp only [nrm, Nat.reduceAdd, Nat.reduceMul, Nat.reduceSub, Int.reduceToNat, Int.reduceAdd]
    refine oblE_skip rfl ?_
    simp only [nrm, Nat.reduceAdd, Nat.reduceMul, Nat.reduceSub, Int.reduceToNat, Int.reduceAdd]
    refine oblE_skip rfl ?_
    simp only [nrm, Nat.reduceAdd, Nat.reduceMul, Nat.reduceSub, Int.reduceToNat, Int.reduceAdd]
    refine oblE_skip rfl ?_
    simp only [nrm, Nat.reduceAdd, Nat.reduceMul, Nat.reduceSub, Int.reduceToNat, Int.reduceAdd]
    refine oblE_skip rfl ?_
    simp only [nrm, Nat.reduceAdd, Nat.reduceMul, Nat.reduceSub, Int.reduceToNat, Int.reduceAdd]
    refine oblE_q rfl (fun I hI => (q_pick_f rfl)) ?_
    simp only [nrm, Nat.reduceAdd, Nat.reduceMul, Nat.reduceSub, Int.reduceToNat, Int.reduceAdd]
    refine oblE_q rfl (fun I hI => (q_move)) ?_
    simp only [nrm, Nat.reduceAdd, Nat.reduceMul, Nat.reduceSub, Int.reduceToNat, Int.reduceAdd]
    refine oblE_q rfl (fun I hI => (by first | exact q_loadBN rfl inferInstance (by rfl) | exact q_loadBW rfl inferInstance (by assumption))) ?_
    simp only [nrm, Nat.reduceAdd, Nat.reduceMul, Nat.reduceSub, Int.reduceToNat, Int.reduceAdd]
    refine oblE_q rfl (fun I hI => (by first | exact q_loadBN rfl inferInstance (by rfl) | exact q_loadBW rfl inferInstance (by assumption))) ?_
    simp only [nrm, Nat.reduceAdd, Nat.reduceMul, Nat.reduceSub, Int.reduceToNat, Int.reduceAdd]
    refine oblE_q rfl (fun I hI => (q_call rfl (Fits_spec ⟨_, _, _⟩ ⟨_, _, _⟩ _))) ?_
    simp only [nrm, Nat.reduceAdd, Nat.reduceMul, Nat.reduceSub, Int.reduceToNat, Int.reduceAdd]
    refine oblE_q rfl (fun I hI => (q_not rfl)) ?_
    simp only [nrm, Nat.reduceAdd, Nat.reduceMul, Nat.reduceSub, Int.reduceToNat, Int.reduceAdd]
    refine oblE_qb rfl (fun I hI => (q_move)) (fun _ => ?_) (fun h => by first | exact absurd h (by rw [ho13]; decide) | exact absurd ho13 (by rw [h]; decide))
    simp only [nrm, Nat.reduceAdd, Nat.reduceMul, Nat.reduceSub, Int.reduceToNat, Int.reduceAdd]
    refine oblE_q rfl (fun I hI => (by first | exact q_loadBN rfl inferInstance (by rfl) | exact q_loadBW rfl inferInstance (by assumption))) ?_
    simp only [nrm, Nat.reduceAdd, Nat.reduceMul, Nat.reduceSub, Int.reduceToNat, Int.reduceAdd]
    refine oblE_q rfl (fun I hI => (by first | exact q_loadBN rfl inferInstance (by rfl) | exact q_loadBW rfl inferInstance (by assumption))) ?_
    simp only [nrm, Nat.reduceAdd, Nat.reduceMul, Nat.reduceSub, Int.reduceToNat, Int.reduceAdd]
    refine oblE_q rfl (fun I hI => (by first | exact q_loadBN rfl inferInstance (by rfl) | exact q_loadBW rfl inferInstance (by assumption))) ?_
    simp only [nrm, Nat.reduceAdd, Nat.reduceMul, Nat.reduceSub, Int.reduceToNat, Int.reduceAdd]
    refine oblE_q rfl (fun I hI => (q_call rfl (Minus_spec _ _ _ _ _ _ _))) ?_
    simp only [nrm, Nat.reduceAdd, Nat.reduceMul, Nat.reduceSub, Int.reduceToNat, Int.reduceAdd]
    refine oblE_q rfl (fun I hI => (q_call rfl (Fits_spec ⟨_, _, _⟩ ⟨_, _, _⟩ _))) ?_
    simp only [nrm, Nat.reduceAdd, Nat.reduceMul, Nat.reduceSub, Int.reduceToNat, Int.reduceAdd]
    refine oblE_q rfl (fun I hI => (q_pick_t rfl)) ?_
    simp only [nrm, Nat.reduceAdd, Nat.reduceMul, Nat.reduceSub, Int.reduceToNat, Int.reduceAdd]
    refine oblE_q rfl (fun I hI => (q_pick_f rfl)) ?_
    simp only [nrm, Nat.reduceAdd, Nat.reduceMul, Nat.reduceSub, Int.reduceToNat, Int.reduceAdd]
    refine oblE_nil (show OpsR _ _ _ _ _ _ from ?_)
    try simp only [nrm, Nat.reduceAdd, Nat.reduceMul, Nat.reduceSub, Int.reduceToNat, Int.reduceAdd]
    refine opsR_nil ?_
    refine hk10 _ _ ?_
    clear hk10
    refine run_cond rfl (fun ho22 => ?_) (fun ho22 => ?_)
    · have hc22 := ho22; try simp only [spl] at hc22
      refine run_seq fun _ hk23 => ?_
      exact absurd hc22 (by rw [show Res.fits a0 ⟨Q.sub a1.CPU a2.CPU, Q.sub a1.Mem a2.Mem, Q.sub a1.Disk a2.Disk⟩ = false from fits_more (w := a0) (f := a1) (l := a2) (by assumption)]; decide)
    · have hc22 := ho22; try simp only [spl] at hc22
      refine run_skip ?_
      refine hk9 _ _ ?_
      clear hk9
      refine run_seq fun _ hk24 => ?_
      refine run_region ?_
      refine opsR_q rfl (by first | exact q_loadBN rfl inferInstance (by rfl) | exact q_loadBW rfl inferInstance (by assumption)) ?_
      simp only [nrm, Nat.reduceAdd, Nat.reduceMul, Nat.reduceSub, Int.reduceToNat, Int.reduceAdd]
      refine opsR_q rfl (q_build rfl) ?_
      simp only [nrm, Nat.reduceAdd, Nat.reduceMul, Nat.reduceSub, Int.reduceToNat, Int.reduceAdd]
      refine opsR_q rfl (q_call rfl (Plus_spec _ _ _ _ _ _ _)) ?_
      simp only [nrm, Nat.reduceAdd, Nat.reduceMul, Nat.reduceSub, Int.reduceToNat, Int.reduceAdd]
      refine opsR_o rfl (o_alloc fun b26 hb26 => ?_)
      simp only [nrm, Nat.reduceAdd, Nat.reduceMul, Nat.reduceSub, Int.reduceToNat, Int.reduceAdd]
      refine opsR_o rfl (o_storeB rfl rfl inferInstance (by first | rfl | assumption) (by first | rfl | exact Kd.one _ (by assumption) | assumption) (by first | rfl | (refine Nat.ble_eq_true_of_le ?_; (try simp only [Int.toNat_natCast]); omega)) ?_)
      simp only [nrm, Nat.reduceAdd, Nat.reduceMul, Nat.reduceSub, Int.reduceToNat, Int.reduceAdd]
      refine opsR_nil ?_
      refine hk24 _ _ ?_
      clear hk24
      refine run_seq fun _ hk27 => ?_
      refine run_drawE mixed 14 (by kernel_rfl) rfl ?_
      simp only [List.take_succ_cons, List.take_zero, List.drop_succ_cons, List.drop_zero, List.drop_nil, List.take_nil]
      refine oblE_q rfl (fun I hI => (by first | exact q_loadBN rfl inferInstance (by rfl) | exact q_loadBW rfl inferInstance (by assumption))) ?_
      simp only [nrm, Nat.reduceAdd, Nat.reduceMul, Nat.reduceSub, Int.reduceToNat, Int.reduceAdd]
      refine oblE_q rfl (fun I hI => (by first | exact q_loadBN rfl inferInstance (by rfl) | exact q_loadBW rfl inferInstance (by assumption))) ?_
      simp only [nrm, Nat.reduceAdd, Nat.reduceMul, Nat.reduceSub, Int.reduceToNat, Int.reduceAdd]
      refine oblE_q rfl (fun I hI => (q_call rfl (Fits_spec ⟨_, _, _⟩ ⟨_, _, _⟩ _))) ?_
      simp only [nrm, Nat.reduceAdd, Nat.reduceMul, Nat.reduceSub, Int.reduceToNat, Int.reduceAdd]
      refine oblE_q rfl (fun I hI => (q_not rfl)) ?_
      simp only [nrm, Nat.reduceAdd, Nat.reduceMul, Nat.reduceSub, Int.reduceToNat, Int.reduceAdd]
      refine oblE_qb rfl (fun I hI => (q_move)) (fun hc28 => ?_) (fun hc28 => ?_)
      · have ho28 := hc28; try simp only [spl] at hc28
        simp only [nrm, Nat.reduceAdd, Nat.reduceMul, Nat.reduceSub, Int.reduceToNat, Int.reduceAdd]
        refine oblE_skip rfl ?_
        simp only [nrm, Nat.reduceAdd, Nat.reduceMul, Nat.reduceSub, Int.reduceToNat, Int.reduceAdd]
        refine oblE_skip rfl ?_
        simp only [nrm, Nat.reduceAdd, Nat.reduceMul, Nat.reduceSub, Int.reduceToNat, Int.reduceAdd]
        refine oblE_skip rfl ?_
        simp only [nrm, Nat.reduceAdd, Nat.reduceMul, Nat.reduceSub, Int.reduceToNat, Int.reduceAdd]
        refine oblE_skip rfl ?_
        simp only [nrm, Nat.reduceAdd, Nat.reduceMul, Nat.reduceSub, Int.reduceToNat, Int.reduceAdd]
        refine oblE_skip rfl ?_
        simp only [nrm, Nat.reduceAdd, Nat.reduceMul, Nat.reduceSub, Int.reduceToNat, Int.reduceAdd]
        refine oblE_skip rfl ?_
        simp only [nrm, Nat.reduceAdd, Nat.reduceMul, Nat.reduceSub, Int.reduceToNat, Int.reduceAdd]
        refine oblE_skip rfl ?_
        simp only [nrm, Nat.reduceAdd, Nat.reduceMul, Nat.reduceSub, Int.reduceToNat, Int.reduceAdd]
        refine oblE_q rfl (fun I hI => (q_pick_t rfl)) ?_
        simp only [nrm, Nat.reduceAdd, Nat.reduceMul, Nat.reduceSub, Int.reduceToNat, Int.reduceAdd]
        refine oblE_q rfl (fun I hI => (q_assign)) ?_
        simp only [nrm, Nat.reduceAdd, Nat.reduceMul, Nat.reduceSub, Int.reduceToNat, Int.reduceAdd]
        refine oblE_nil (show OpsR _ _ _ _ _ _ from ?_)
        try simp only [nrm, Nat.reduceAdd, Nat.reduceMul, Nat.reduceSub, Int.reduceToNat, Int.reduceAdd]
        refine opsR_nil ?_
        refine hk27 _ _ ?_
        clear hk27
        refine run_ret ?_
        first | exact end_tmp rfl rfl rfl (by first | exact .refl | exact .drop | exact .drop2 | exact .drop3 | exact .drop4 | exact Gh.drop.trans .drop4 | exact Gh.drop2.trans .drop4 | exact Gh.drop3.trans .drop4) ⟨rfl, by first | exact .rfl | assumption | exact le2 (by assumption) (by assumption) | exact le3 (by assumption) (by assumption) (by assumption) | exact le4 (by assumption) (by assumption) (by assumption) (by assumption) | exact le5 (by assumption) (by assumption) (by assumption) (by assumption) (by assumption) | exact le6 (by assumption) (by assumption) (by assumption) (by assumption) (by assumption) (by assumption)⟩ | exact end_tmp rfl rfl rfl (by first | exact .refl | exact .drop | exact .drop2 | exact .drop3 | exact .drop4 | exact Gh.drop.trans .drop4 | exact Gh.drop2.trans .drop4 | exact Gh.drop3.trans .drop4) ⟨congrArg Go.Value.bool (decide_eq_true (fits_back (w := a0) (f := a1) (by assumption))), by first | exact .rfl | assumption | exact le2 (by assumption) (by assumption) | exact le3 (by assumption) (by assumption) (by assumption) | exact le4 (by assumption) (by assumption) (by assumption) (by assumption) | exact le5 (by assumption) (by assumption) (by assumption) (by assumption) (by assumption) | exact le6 (by assumption) (by assumption) (by assumption) (by assumption) (by assumption) (by assumption)⟩
      · have ho28 := hc28; try simp only [spl] at hc28
        simp only [nrm, Nat.reduceAdd, Nat.reduceMul, Nat.reduceSub, Int.reduceToNat, Int.reduceAdd]
        refine oblE_q rfl (fun I hI => (by first | exact q_loadBN rfl inferInstance (by rfl) | exact q_loadBW rfl inferInstance (by assumption))) ?_
        simp only [nrm, Nat.reduceAdd, Nat.reduceMul, Nat.reduceSub, Int.reduceToNat, Int.reduceAdd]
        refine oblE_q rfl (fun I hI => (by first | exact q_loadBN rfl inferInstance (by rfl) | exact q_loadBW rfl inferInstance (by assumption))) ?_
        simp only [nrm, Nat.reduceAdd, Nat.reduceMul, Nat.reduceSub, Int.reduceToNat, Int.reduceAdd]
        refine oblE_q rfl (fun I hI => (q_call rfl (Minus_spec _ _ _ _ _ _ _))) ?_
        simp only [nrm, Nat.reduceAdd, Nat.reduceMul, Nat.reduceSub, Int.reduceToNat, Int.reduceAdd]
        refine oblE_q rfl (fun I hI => (by first | exact q_loadBN rfl inferInstance (by rfl) | exact q_loadBW rfl inferInstance (by assumption))) ?_
        simp only [nrm, Nat.reduceAdd, Nat.reduceMul, Nat.reduceSub, Int.reduceToNat, Int.reduceAdd]
        refine oblE_q rfl (fun I hI => (q_call rfl (Plus_spec _ _ _ _ _ _ _))) ?_
        simp only [nrm, Nat.reduceAdd, Nat.reduceMul, Nat.reduceSub, Int.reduceToNat, Int.reduceAdd]
        refine oblE_q rfl (fun I hI => (by first | exact q_loadBN rfl inferInstance (by rfl) | exact q_loadBW rfl inferInstance (by assumption))) ?_
        simp only [nrm, Nat.reduceAdd, Nat.reduceMul, Nat.reduceSub, Int.reduceToNat, Int.reduceAdd]
        refine oblE_q rfl (fun I hI => (q_eql_agg rfl rfl (fun m K h => kRes.eqL (m + 6) h))) ?_
        simp only [nrm, Nat.reduceAdd, Nat.reduceMul, Nat.reduceSub, Int.reduceToNat, Int.reduceAdd]
        refine oblE_q rfl (fun I hI => (q_pick_f rfl)) ?_
        simp only [nrm, Nat.reduceAdd, Nat.reduceMul, Nat.reduceSub, Int.reduceToNat, Int.reduceAdd]
        refine oblE_q rfl (fun I hI => (q_assign)) ?_
        simp only [nrm, Nat.reduceAdd, Nat.reduceMul, Nat.reduceSub, Int.reduceToNat, Int.reduceAdd]
        refine oblE_nil (show OpsR _ _ _ _ _ _ from ?_)
        try simp only [nrm, Nat.reduceAdd, Nat.reduceMul, Nat.reduceSub, Int.reduceToNat, Int.reduceAdd]
        refine opsR_nil ?_
        refine hk27 _ _ ?_
        clear hk27
        refine run_ret ?_
        first | exact end_tmp rfl rfl rfl (by first | exact .refl | exact .drop | exact .drop2 | exact .drop3 | exact .drop4 | exact Gh.drop.trans .drop4 | exact Gh.drop2.trans .drop4 | exact Gh.drop3.trans .drop4) ⟨rfl, by first | exact .rfl | assumption | exact le2 (by assumption) (by assumption) | exact le3 (by assumption) (by assumption) (by assumption) | exact le4 (by assumption) (by assumption) (by assumption) (by assumption) | exact le5 (by assumption) (by assumption) (by assumption) (by assumption) (by assumption) | exact le6 (by assumption) (by assumption) (by assumption) (by assumption) (by assumption) (by assumption)⟩ | exact end_tmp rfl rfl rfl (by first | exact .refl | exact .drop | exact .drop2 | exact .drop3 | exact .drop4 | exact Gh.drop.trans .drop4 | exact Gh.drop2.trans .drop4 | exact Gh.drop3.trans .drop4) ⟨congrArg Go.Value.bool (decide_eq_true (fits_back (w := a0) (f := a1) (by assumption))), by first | exact .rfl | assumption | exact le2 (by assumption) (by assumption) | exact le3 (by assumption) (by assumption) (by assumption) | exact le4 (by assumption) (by assumption) (by assumption) (by assumption) | exact le5 (by assumption) (by assumption) (by assumption) (by assumption) (by assumption) | exact le6 (by assumption) (by assumption) (by assumption) (by assumption) (by assumption) (by assumption)⟩
theorem res_bulk (l : List Res) : l.length + 1 ≤ kRes.slice.bulk l := bulk_len (k := kRes) (fun _ => Nat.le_add_right 1 _) l
set_option maxHeartbeats 1000000 in
theorem QuantParts_walk (a0 : Res) (c0 : List Value) (a1 : Res) (c1 : List Value) (a2 : List Res) (v2 : Value) (s : St) (hT : Tabs s.I) (h0 : kRes.rep s.I a0 c0) (ok0 : kRes.ok a0) (h1 : kRes.rep s.I a1 c1) (ok1 : kRes.ok a1) (h2 : Sl kRes s.I v2 a2) (ok2 : kRes.slice.ok a2)
    (hb : kRes.bulk a0 + kRes.bulk a1 + kRes.slice.bulk a2 ≤ 1048576) : CallS Tryd.prog 8 #[.agg c0.toArray, .agg c1.toArray, v2] s (fun v s' => v = .bool true ∧ Hp.le s.I s'.I) := by
  obtain rfl := kRes.open h0
  obtain rfl := kRes.open h1
  have hb2 := res_bulk a2
  have hle := h2.len.le
  refine callS_of_run Tryd.func8 rfl ?_; simp only [Tryd.ntmps8, List.size_toArray, List.length_cons, List.length_nil, Nat.reduceAdd, Nat.reduceSub, Array.replicate_succ, Array.replicate_zero, List.push_toArray, List.append_toArray, List.nil_append, List.cons_append]
  refine run_seq fun _ hk1 => ?_
  refine run_region ?_
  refine opsR_o rfl (o_box fun b2 hb2 => ?_)
  simp only [nrm, Nat.reduceAdd, Nat.reduceMul, Nat.reduceSub, Int.reduceToNat, Int.reduceAdd]
  refine opsR_o rfl (o_box fun b3 hb3 => ?_)
  simp only [nrm, Nat.reduceAdd, Nat.reduceMul, Nat.reduceSub, Int.reduceToNat, Int.reduceAdd]
  refine opsR_q rfl (q_assign) ?_
  simp only [nrm, Nat.reduceAdd, Nat.reduceMul, Nat.reduceSub, Int.reduceToNat, Int.reduceAdd]
  refine opsR_nil ?_
  refine hk1 _ _ ?_
  clear hk1
  refine run_seq fun _ hk4 => ?_
  refine run_region ?_
  refine opsR_slice0 kRes rfl fun v5 hs5 hv5 => ?_
  simp only [nrm, Nat.reduceAdd, Nat.reduceMul, Nat.reduceSub, Int.reduceToNat, Int.reduceAdd]
  refine opsR_q rfl (q_move) ?_
  simp only [nrm, Nat.reduceAdd, Nat.reduceMul, Nat.reduceSub, Int.reduceToNat, Int.reduceAdd]
  refine opsR_app rfl rfl rfl (by first | assumption | (refine OwnS.mono ?_ (by assumption); first | exact .rfl | assumption | exact le2 (by assumption) (by assumption) | exact le3 (by assumption) (by assumption) (by assumption) | exact le4 (by assumption) (by assumption) (by assumption) (by assumption) | exact le5 (by assumption) (by assumption) (by assumption) (by assumption) (by assumption) | exact le6 (by assumption) (by assumption) (by assumption) (by assumption) (by assumption) (by assumption))) (by infer_instance) (by first | exact Sl.r (by assumption) (by first | exact .rfl | assumption | exact le2 (by assumption) (by assumption) | exact le3 (by assumption) (by assumption) (by assumption) | exact le4 (by assumption) (by assumption) (by assumption) (by assumption) | exact le5 (by assumption) (by assumption) (by assumption) (by assumption) (by assumption) | exact le6 (by assumption) (by assumption) (by assumption) (by assumption) (by assumption) (by assumption)) | (refine OwnS.r (OwnS.mono ?_ (by assumption)) (by intro p hp; simp only [List.mem_append, List.mem_cons, hp, true_or, or_true]); first | exact .rfl | assumption | exact le2 (by assumption) (by assumption) | exact le3 (by assumption) (by assumption) (by assumption) | exact le4 (by assumption) (by assumption) (by assumption) (by assumption) | exact le5 (by assumption) (by assumption) (by assumption) (by assumption) (by assumption) | exact le6 (by assumption) (by assumption) (by assumption) (by assumption) (by assumption) (by assumption)) | assumption) (by rfl) (by rfl) rfl rfl (by first | omega | ((try simp only [List.length_append, List.length_cons, List.length_nil, List.length_set, List.length_replicate, List.length_take, List.length_drop, List.length_map] at *); omega)) fun vR hsR hvR => ?_
  simp only [nrm, Nat.reduceAdd, Nat.reduceMul, Nat.reduceSub, Int.reduceToNat, Int.reduceAdd]
  refine opsR_q rfl (q_assign) ?_
  simp only [nrm, Nat.reduceAdd, Nat.reduceMul, Nat.reduceSub, Int.reduceToNat, Int.reduceAdd]
  refine opsR_nil ?_
  refine hk4 _ _ ?_
  clear hk4
  refine run_seq fun _ hk9 => ?_
  refine run_fz hvR (by infer_instance) fun JF hJF hvF => ?_
  try dsimp only at hJF
  rw [List.nil_append] at hvF
  simp only [nrm, Nat.reduceAdd, Nat.reduceMul, Nat.reduceSub, Int.reduceToNat, Int.reduceAdd]
  refine run_drawE mixed 33 (by kernel_rfl) rfl ?_
  simp only [List.take_succ_cons, List.take_zero, List.drop_succ_cons, List.drop_zero, List.drop_nil, List.take_nil]
  refine oblE_q rfl (fun I hI => (by first | exact q_loadBN rfl inferInstance (by rfl) | exact q_loadBW rfl inferInstance (by assumption))) ?_
  simp only [nrm, Nat.reduceAdd, Nat.reduceMul, Nat.reduceSub, Int.reduceToNat, Int.reduceAdd]
  refine oblE_q rfl (fun I hI => (by first | exact q_loadBN rfl inferInstance (by rfl) | exact q_loadBW rfl inferInstance (by assumption))) ?_
  simp only [nrm, Nat.reduceAdd, Nat.reduceMul, Nat.reduceSub, Int.reduceToNat, Int.reduceAdd]
  refine oblE_q rfl (fun I hI => (q_call rfl (Plus_spec _ _ _ _ _ _ _))) ?_
  simp only [nrm, Nat.reduceAdd, Nat.reduceMul, Nat.reduceSub, Int.reduceToNat, Int.reduceAdd]
  refine oblE_q rfl (fun I hI => (by first | exact q_loadBN rfl inferInstance (by rfl) | exact q_loadBW rfl inferInstance (by assumption))) ?_
  simp only [nrm, Nat.reduceAdd, Nat.reduceMul, Nat.reduceSub, Int.reduceToNat, Int.reduceAdd]
  refine oblE_q rfl (fun I hI => (by first | exact q_loadBN rfl inferInstance (by rfl) | exact q_loadBW rfl inferInstance (by assumption))) ?_
  simp only [nrm, Nat.reduceAdd, Nat.reduceMul, Nat.reduceSub, Int.reduceToNat, Int.reduceAdd]
  refine oblE_q rfl (fun I hI => (q_call rfl (refPlus_spec _ _ _ _ _ _ _))) ?_
  simp only [nrm, Nat.reduceAdd, Nat.reduceMul, Nat.reduceSub, Int.reduceToNat, Int.reduceAdd]
  refine oblE_q rfl (fun I hI => (q_eql_agg rfl rfl (fun m K h => kRes.eqL (m + 6) h))) ?_
  simp only [nrm, Nat.reduceAdd, Nat.reduceMul, Nat.reduceSub, Int.reduceToNat, Int.reduceAdd]
  refine oblE_qb rfl (fun I hI => (q_move)) (fun _ => ?_) (fun h => absurd h (by simp))
  simp only [nrm, Nat.reduceAdd, Nat.reduceMul, Nat.reduceSub, Int.reduceToNat, Int.reduceAdd]
  refine oblE_q rfl (fun I hI => (by first | exact q_loadBN rfl inferInstance (by rfl) | exact q_loadBW rfl inferInstance (by assumption))) ?_
  simp only [nrm, Nat.reduceAdd, Nat.reduceMul, Nat.reduceSub, Int.reduceToNat, Int.reduceAdd]
  refine oblE_q rfl (fun I hI => (by first | exact q_loadBN rfl inferInstance (by rfl) | exact q_loadBW rfl inferInstance (by assumption))) ?_
  simp only [nrm, Nat.reduceAdd, Nat.reduceMul, Nat.reduceSub, Int.reduceToNat, Int.reduceAdd]
  refine oblE_q rfl (fun I hI => (q_call rfl (Minus_spec _ _ _ _ _ _ _))) ?_
  simp only [nrm, Nat.reduceAdd, Nat.reduceMul, Nat.reduceSub, Int.reduceToNat, Int.reduceAdd]
  refine oblE_q rfl (fun I hI => (by first | exact q_loadBN rfl inferInstance (by rfl) | exact q_loadBW rfl inferInstance (by assumption))) ?_
  simp only [nrm, Nat.reduceAdd, Nat.reduceMul, Nat.reduceSub, Int.reduceToNat, Int.reduceAdd]
  refine oblE_q rfl (fun I hI => (by first | exact q_loadBN rfl inferInstance (by rfl) | exact q_loadBW rfl inferInstance (by assumption))) ?_
  simp only [nrm, Nat.reduceAdd, Nat.reduceMul, Nat.reduceSub, Int.reduceToNat, Int.reduceAdd]
  refine oblE_q rfl (fun I hI => (q_call rfl (refMinus_spec _ _ _ _ _ _ _))) ?_
  simp only [nrm, Nat.reduceAdd, Nat.reduceMul, Nat.reduceSub, Int.reduceToNat, Int.reduceAdd]
  refine oblE_q rfl (fun I hI => (q_eql_agg rfl rfl (fun m K h => kRes.eqL (m + 6) h))) ?_
  simp only [nrm, Nat.reduceAdd, Nat.reduceMul, Nat.reduceSub, Int.reduceToNat, Int.reduceAdd]
  refine oblE_q rfl (fun I hI => (q_pick_t rfl)) ?_
  simp only [nrm, Nat.reduceAdd, Nat.reduceMul, Nat.reduceSub, Int.reduceToNat, Int.reduceAdd]
  refine oblE_qb rfl (fun I hI => (q_move)) (fun _ => ?_) (fun h => absurd h (by simp))
  simp only [nrm, Nat.reduceAdd, Nat.reduceMul, Nat.reduceSub, Int.reduceToNat, Int.reduceAdd]
  refine oblE_q rfl (fun I hI => (by first | exact q_loadBN rfl inferInstance (by rfl) | exact q_loadBW rfl inferInstance (by assumption))) ?_
  simp only [nrm, Nat.reduceAdd, Nat.reduceMul, Nat.reduceSub, Int.reduceToNat, Int.reduceAdd]
  refine oblE_q rfl (fun I hI => (by first | exact q_loadBN rfl inferInstance (by rfl) | exact q_loadBW rfl inferInstance (by assumption))) ?_
  simp only [nrm, Nat.reduceAdd, Nat.reduceMul, Nat.reduceSub, Int.reduceToNat, Int.reduceAdd]
  refine oblE_q rfl (fun I hI => (q_call rfl (Fits_spec ⟨_, _, _⟩ ⟨_, _, _⟩ _))) ?_
  simp only [nrm, Nat.reduceAdd, Nat.reduceMul, Nat.reduceSub, Int.reduceToNat, Int.reduceAdd]
  refine oblE_q rfl (fun I hI => (by first | exact q_loadBN rfl inferInstance (by rfl) | exact q_loadBW rfl inferInstance (by assumption))) ?_
  simp only [nrm, Nat.reduceAdd, Nat.reduceMul, Nat.reduceSub, Int.reduceToNat, Int.reduceAdd]
  refine oblE_q rfl (fun I hI => (by first | exact q_loadBN rfl inferInstance (by rfl) | exact q_loadBW rfl inferInstance (by assumption))) ?_
  simp only [nrm, Nat.reduceAdd, Nat.reduceMul, Nat.reduceSub, Int.reduceToNat, Int.reduceAdd]
  refine oblE_q rfl (fun I hI => (q_call rfl (refFits_spec ⟨_, _, _⟩ ⟨_, _, _⟩ _))) ?_
  simp only [nrm, Nat.reduceAdd, Nat.reduceMul, Nat.reduceSub, Int.reduceToNat, Int.reduceAdd]
  refine oblE_q rfl (fun I hI => (q_eql_bool rfl rfl)) ?_
  simp only [nrm, Nat.reduceAdd, Nat.reduceMul, Nat.reduceSub, Int.reduceToNat, Int.reduceAdd]
  refine oblE_q rfl (fun I hI => (q_pick_t rfl)) ?_
  simp only [nrm, Nat.reduceAdd, Nat.reduceMul, Nat.reduceSub, Int.reduceToNat, Int.reduceAdd]
  refine oblE_qb rfl (fun I hI => (q_move)) (fun _ => ?_) (fun h => absurd h (by simp))
  simp only [nrm, Nat.reduceAdd, Nat.reduceMul, Nat.reduceSub, Int.reduceToNat, Int.reduceAdd]
  refine oblE_q rfl (fun I hI => (q_move)) ?_
  simp only [nrm, Nat.reduceAdd, Nat.reduceMul, Nat.reduceSub, Int.reduceToNat, Int.reduceAdd]
  refine oblE_q rfl (fun I hI => (q_call rfl (Sum_spec (by first | assumption | (refine Sl.mono ?_ (by assumption); first | exact .rfl | assumption | exact le2 (by assumption) (by assumption) | exact le3 (by assumption) (by assumption) (by assumption) | exact le4 (by assumption) (by assumption) (by assumption) (by assumption) | exact le5 (by assumption) (by assumption) (by assumption) (by assumption) (by assumption) | exact le6 (by assumption) (by assumption) (by assumption) (by assumption) (by assumption) (by assumption)))))) ?_
  simp only [nrm, Nat.reduceAdd, Nat.reduceMul, Nat.reduceSub, Int.reduceToNat, Int.reduceAdd]
  refine oblE_q rfl (fun I hI => (q_move)) ?_
  simp only [nrm, Nat.reduceAdd, Nat.reduceMul, Nat.reduceSub, Int.reduceToNat, Int.reduceAdd]
  refine oblE_q rfl (fun I hI => (q_call rfl (refSum_spec (by first | assumption | (refine Sl.mono ?_ (by assumption); first | exact .rfl | assumption | exact le2 (by assumption) (by assumption) | exact le3 (by assumption) (by assumption) (by assumption) | exact le4 (by assumption) (by assumption) (by assumption) (by assumption) | exact le5 (by assumption) (by assumption) (by assumption) (by assumption) (by assumption) | exact le6 (by assumption) (by assumption) (by assumption) (by assumption) (by assumption) (by assumption)))))) ?_
  simp only [nrm, Nat.reduceAdd, Nat.reduceMul, Nat.reduceSub, Int.reduceToNat, Int.reduceAdd]
  refine oblE_q rfl (fun I hI => (q_eql_agg rfl rfl (fun m K h => kRes.eqL (m + 6) h))) ?_
  simp only [nrm, Nat.reduceAdd, Nat.reduceMul, Nat.reduceSub, Int.reduceToNat, Int.reduceAdd]
  refine oblE_q rfl (fun I hI => (q_pick_t rfl)) ?_
  simp only [nrm, Nat.reduceAdd, Nat.reduceMul, Nat.reduceSub, Int.reduceToNat, Int.reduceAdd]
  refine oblE_q rfl (fun I hI => (q_assign)) ?_
  simp only [nrm, Nat.reduceAdd, Nat.reduceMul, Nat.reduceSub, Int.reduceToNat, Int.reduceAdd]
  refine oblE_nil (show OpsR _ _ _ _ _ _ from ?_)
  try simp only [nrm, Nat.reduceAdd, Nat.reduceMul, Nat.reduceSub, Int.reduceToNat, Int.reduceAdd]
  refine opsR_nil ?_
  refine hk9 _ _ ?_
  clear hk9
  refine run_seq fun _ hk12 => ?_
  refine run_seq fun _ hk13 => ?_
  refine run_gh Gh.drop2 ?_
  refine run_region ?_
  refine opsR_q rfl (q_assign) ?_
  simp only [nrm, Nat.reduceAdd, Nat.reduceMul, Nat.reduceSub, Int.reduceToNat, Int.reduceAdd]
  refine opsR_nil ?_
  refine hk13 _ _ ?_
  clear hk13
  refine run_block ?_
  refine run_loopF [0, 0, 0, 0, 0, 0, 1, 0, 0, 2, 0, 0, 0, 0, 0, 0, 0, 0, 0, 0, 0, 0, 0, 0, 0, 0, 0, 0, 0, 0, 0, 0, 0, 0, 0, 0, 0, 0, 0, 0, 0, 0, 0, 0, 0, 1, 1, 1, 1, 1, 1, 1, 1, 1, 1, 1, 1, 1, 1, 1, 0, 0, 0, 0] (fun zn zL zst => ∃ (i : Nat), zL = [.int .i64 (i : Nat)] ∧ ⟨JF, s.cs⟩ = zst ∧ zn = a2.length - i ∧ (i ≤ a2.length)) _ _ ⟨0, rfl, rfl, rfl, by first | assumption | omega | exact Hp.le.rfl | rfl | exact all_zero | exact all_succ (by assumption) (by assumption) | (intro _; omega) | (simp; done)⟩ rfl ?_
  rintro _ _ _ jv14 ⟨i, rfl, rfl, rfl, hi⟩ K14 hkl14
  simp only [fr, Nat.zero_add, Nat.reduceAdd]
  refine run_seq fun _ hk15 => ?_
  refine run_seq fun _ hk16 => ?_
  refine run_region ?_
  refine opsR_q rfl (q_move) ?_
  simp only [nrm, Nat.reduceAdd, Nat.reduceMul, Nat.reduceSub, Int.reduceToNat, Int.reduceAdd]
  refine opsR_q rfl (q_move) ?_
  simp only [nrm, Nat.reduceAdd, Nat.reduceMul, Nat.reduceSub, Int.reduceToNat, Int.reduceAdd]
  refine opsR_q rfl (q_len_v rfl (by first | exact Sl.len (by assumption) | exact OwnS.len (by assumption) | exact SlR.len (by assumption) | assumption)) ?_
  simp only [nrm, Nat.reduceAdd, Nat.reduceMul, Nat.reduceSub, Int.reduceToNat, Int.reduceAdd]
  refine opsR_q rfl (q_lss rfl rfl) ?_
  simp only [nrm, Nat.reduceAdd, Nat.reduceMul, Nat.reduceSub, Int.reduceToNat, Int.reduceAdd]
  refine opsR_nil ?_
  refine hk16 _ _ ?_
  clear hk16
  refine run_cond rfl (fun ho19 => ?_) (fun ho19 => ?_)
  · have hc19 := ho19; try simp only [spl] at hc19
    refine run_skip ?_
    refine hk15 _ _ ?_
    clear hk15
    refine run_seq fun _ hk20 => ?_
    refine run_block ?_
    refine run_seq fun _ hk21 => ?_
    refine run_drawE mixed 9 (by kernel_rfl) rfl ?_
    simp only [List.take_succ_cons, List.take_zero, List.drop_succ_cons, List.drop_zero, List.drop_nil, List.take_nil]
    refine oblE_q rfl (fun I hI => (q_move)) ?_
    simp only [nrm, Nat.reduceAdd, Nat.reduceMul, Nat.reduceSub, Int.reduceToNat, Int.reduceAdd]
    refine oblE_q rfl (fun I hI => (q_move)) ?_
    simp only [nrm, Nat.reduceAdd, Nat.reduceMul, Nat.reduceSub, Int.reduceToNat, Int.reduceAdd]
    refine oblE_index rfl rfl rfl (by first | exact Sl.r (by assumption) (by first | exact .rfl | assumption | exact le2 (by assumption) (by assumption) | exact le3 (by assumption) (by assumption) (by assumption) | exact le4 (by assumption) (by assumption) (by assumption) (by assumption) | exact le5 (by assumption) (by assumption) (by assumption) (by assumption) (by assumption) | exact le6 (by assumption) (by assumption) (by assumption) (by assumption) (by assumption) (by assumption)) | (refine OwnS.r (OwnS.mono ?_ (by assumption)) (by intro p hp; simp only [List.mem_append, List.mem_cons, hp, true_or, or_true]); first | exact .rfl | assumption | exact le2 (by assumption) (by assumption) | exact le3 (by assumption) (by assumption) (by assumption) | exact le4 (by assumption) (by assumption) (by assumption) (by assumption) | exact le5 (by assumption) (by assumption) (by assumption) (by assumption) (by assumption) | exact le6 (by assumption) (by assumption) (by assumption) (by assumption) (by assumption) (by assumption)) | assumption) (by rfl) (by first | omega | ((try simp only [List.length_append, List.length_cons, List.length_nil, List.length_set, List.length_replicate, List.length_take, List.length_drop, List.length_map] at *); omega)) (by first | omega | ((try simp only [List.length_append, List.length_cons, List.length_nil, List.length_set, List.length_replicate, List.length_take, List.length_drop, List.length_map] at *); omega)) fun b23 o23 cs23 ha23 hr23 he23 => ?_
    simp only [nrm, Nat.reduceAdd, Nat.reduceMul, Nat.reduceSub, Int.reduceToNat, Int.reduceAdd]
    try simp only [Int.toNat_natCast, Int.reduceToNat, Int.toNat_zero] at hr23
    try simp only [Int.toNat_natCast, Int.reduceToNat, Int.toNat_zero] at he23
    clear ha23
    obtain rfl := kRes.open hr23
    refine oblE_q rfl (fun I hI => (by first | exact q_load_atW rfl (El.mono (by assumption) hI) (by rfl) rfl | exact q_load_atN0 rfl (El.mono (by assumption) hI) rfl rfl | exact q_load_atN rfl (El.mono (by assumption) hI) rfl (Nat.le_of_ble_eq_true rfl) (Nat.le_of_ble_eq_true rfl))) ?_
    simp only [nrm, Nat.reduceAdd, Nat.reduceMul, Nat.reduceSub, Int.reduceToNat, Int.reduceAdd]
    refine oblE_q rfl (fun I hI => (q_move)) ?_
    simp only [nrm, Nat.reduceAdd, Nat.reduceMul, Nat.reduceSub, Int.reduceToNat, Int.reduceAdd]
    refine oblE_q rfl (fun I hI => (q_move)) ?_
    simp only [nrm, Nat.reduceAdd, Nat.reduceMul, Nat.reduceSub, Int.reduceToNat, Int.reduceAdd]
    refine oblE_index rfl rfl rfl (by first | exact Sl.r (by assumption) (by first | exact .rfl | assumption | exact le2 (by assumption) (by assumption) | exact le3 (by assumption) (by assumption) (by assumption) | exact le4 (by assumption) (by assumption) (by assumption) (by assumption) | exact le5 (by assumption) (by assumption) (by assumption) (by assumption) (by assumption) | exact le6 (by assumption) (by assumption) (by assumption) (by assumption) (by assumption) (by assumption)) | (refine OwnS.r (OwnS.mono ?_ (by assumption)) (by intro p hp; simp only [List.mem_append, List.mem_cons, hp, true_or, or_true]); first | exact .rfl | assumption | exact le2 (by assumption) (by assumption) | exact le3 (by assumption) (by assumption) (by assumption) | exact le4 (by assumption) (by assumption) (by assumption) (by assumption) | exact le5 (by assumption) (by assumption) (by assumption) (by assumption) (by assumption) | exact le6 (by assumption) (by assumption) (by assumption) (by assumption) (by assumption) (by assumption)) | assumption) (by rfl) (by first | omega | ((try simp only [List.length_append, List.length_cons, List.length_nil, List.length_set, List.length_replicate, List.length_take, List.length_drop, List.length_map] at *); omega)) (by first | omega | ((try simp only [List.length_append, List.length_cons, List.length_nil, List.length_set, List.length_replicate, List.length_take, List.length_drop, List.length_map] at *); omega)) fun b24 o24 cs24 ha24 hr24 he24 => ?_
    simp only [nrm, Nat.reduceAdd, Nat.reduceMul, Nat.reduceSub, Int.reduceToNat, Int.reduceAdd]
    try simp only [Int.toNat_natCast, Int.reduceToNat, Int.toNat_zero] at hr24
    try simp only [Int.toNat_natCast, Int.reduceToNat, Int.toNat_zero] at he24
    clear ha24
    obtain rfl := kRes.open hr24
    refine oblE_q rfl (fun I hI => (by first | exact q_load_atW rfl (El.mono (by assumption) hI) (by rfl) rfl | exact q_load_atN0 rfl (El.mono (by assumption) hI) rfl rfl | exact q_load_atN rfl (El.mono (by assumption) hI) rfl (Nat.le_of_ble_eq_true rfl) (Nat.le_of_ble_eq_true rfl))) ?_
    simp only [nrm, Nat.reduceAdd, Nat.reduceMul, Nat.reduceSub, Int.reduceToNat, Int.reduceAdd]
    refine oblE_q rfl (fun I hI => (q_neq_agg rfl rfl (fun m K h => kRes.eqL (m + 6) h))) ?_
    simp only [nrm, Nat.reduceAdd, Nat.reduceMul, Nat.reduceSub, Int.reduceToNat, Int.reduceAdd]
    refine oblE_nil (show OpsR _ _ _ _ _ _ from ?_)
    try simp only [nrm, Nat.reduceAdd, Nat.reduceMul, Nat.reduceSub, Int.reduceToNat, Int.reduceAdd]
    refine opsR_nil ?_
    refine hk21 _ _ ?_
    clear hk21
    refine run_cond rfl (fun ho25 => ?_) (fun ho25 => ?_)
    · have hc25 := ho25; try simp only [spl] at hc25
      refine run_seq fun _ hk26 => ?_
      first | exact absurd rfl hc25 | exact absurd trivial hc25 | (exfalso; simp at hc25)
    · have hc25 := ho25; try simp only [spl] at hc25
      refine run_skip ?_
      refine hk20 _ _ ?_
      clear hk20
      refine run_region ?_
      refine opsR_q rfl (q_move) ?_
      simp only [nrm, Nat.reduceAdd, Nat.reduceMul, Nat.reduceSub, Int.reduceToNat, Int.reduceAdd]
      refine opsR_q rfl (by first | exact q_add64 rfl rfl (by omega) (by omega) | exact q_add rfl rfl) ?_
      simp only [nrm, Nat.reduceAdd, Nat.reduceMul, Nat.reduceSub, Int.reduceToNat, Int.reduceAdd]
      refine opsR_q rfl (q_assign) ?_
      simp only [nrm, Nat.reduceAdd, Nat.reduceMul, Nat.reduceSub, Int.reduceToNat, Int.reduceAdd]
      refine opsR_nil ?_
      first
      | exact hkl14 _ _ _ _ (by omega) ⟨i + 1, rfl, rfl, rfl, by first | assumption | omega | exact Hp.le.rfl | rfl | exact all_zero | exact all_succ (by assumption) (by assumption) | (intro _; omega) | (simp; done)⟩ rfl
  · have hc19 := ho19; try simp only [spl] at hc19
    refine run_exit ?_
    refine hk12 _ _ ?_
    clear hk12
    refine run_seq fun _ hk27 => ?_
    refine run_region ?_
    refine opsR_q rfl (q_move) ?_
    simp only [nrm, Nat.reduceAdd, Nat.reduceMul, Nat.reduceSub, Int.reduceToNat, Int.reduceAdd]
    refine opsR_qb rfl (q_move) (fun _ => ?_) (fun h => absurd h (by simp))
    simp only [nrm, Nat.reduceAdd, Nat.reduceMul, Nat.reduceSub, Int.reduceToNat, Int.reduceAdd]
    refine opsR_o rfl (o_call rfl (works_spec (hT.mono (by first | exact .rfl | assumption | exact le2 (by assumption) (by assumption) | exact le3 (by assumption) (by assumption) (by assumption) | exact le4 (by assumption) (by assumption) (by assumption) (by assumption) | exact le5 (by assumption) (by assumption) (by assumption) (by assumption) (by assumption) | exact le6 (by assumption) (by assumption) (by assumption) (by assumption) (by assumption) (by assumption))) _ fun J29 hJ29 => ?_))
    try dsimp only at hJ29
    try (have hr29 : Hp.le s.I J29 := (by first | exact .rfl | assumption | exact le2 (by assumption) (by assumption) | exact le3 (by assumption) (by assumption) (by assumption) | exact le4 (by assumption) (by assumption) (by assumption) (by assumption) | exact le5 (by assumption) (by assumption) (by assumption) (by assumption) (by assumption) | exact le6 (by assumption) (by assumption) (by assumption) (by assumption) (by assumption) (by assumption)); have hJ29 := hJ29)
    simp only [nrm, Nat.reduceAdd, Nat.reduceMul, Nat.reduceSub, Int.reduceToNat, Int.reduceAdd]
    refine opsR_q rfl (q_pick_t rfl) ?_
    simp only [nrm, Nat.reduceAdd, Nat.reduceMul, Nat.reduceSub, Int.reduceToNat, Int.reduceAdd]
    refine opsR_q rfl (q_assign) ?_
    simp only [nrm, Nat.reduceAdd, Nat.reduceMul, Nat.reduceSub, Int.reduceToNat, Int.reduceAdd]
    refine opsR_nil ?_
    refine hk27 _ _ ?_
    clear hk27
    refine run_ret ?_
    exact end_tmp rfl rfl rfl (by first | exact .refl | exact .drop | exact .drop2 | exact .drop3 | exact .drop4 | exact Gh.drop.trans .drop4 | exact Gh.drop2.trans .drop4 | exact Gh.drop3.trans .drop4) ⟨rfl, by first | exact .rfl | assumption | exact le2 (by assumption) (by assumption) | exact le3 (by assumption) (by assumption) (by assumption) | exact le4 (by assumption) (by assumption) (by assumption) (by assumption) | exact le5 (by assumption) (by assumption) (by assumption) (by assumption) (by assumption) | exact le6 (by assumption) (by assumption) (by assumption) (by assumption) (by assumption) (by assumption)⟩
end
end Go.Proofs.YtlbhlpjakllokaaDoor
