/- Package fit: the reasons. -/
import Derived.Test.YtcnbcblihepbmaaGreatDoorFK
import Derived.Test.YtcnbcblihepbmaaGreatDoorS21
import Derived.Test.YtcnbcblihepbmaaGreatDoorS22
import Derived.Test.YtcnbcblihepbmaaGreatDoorS19
import Derived.Test.YtcnbcblihepbmaaGreatDoorG2
import Derived.Test.YtcnbcblihepbmaaGreatDoorC
set_option autoImplicit false
set_option linter.unusedVariables false
set_option linter.unusedSimpArgs false
namespace Go.Proofs.YtcnbcblihepbmaaGreatDoor
open Go Go.RowKit
instance {b : Nat} {o : Obj} {hs cs : List (Nat × Obj)} {i : Nat} [h : AtB b cs i o] : AtB b (hs ++ cs) (hs.length + i) o := ⟨by rw [List.getElem?_append_right (by omega), Nat.add_sub_cancel_left]; exact h.at_⟩
/-- What only adds to memory that never turns leaves the state as it was. -/
theorem callV_of_S {P : Program} {f : FuncId} {args : Array Value} {s : St} {v : Value} (h : ∀ K : Value → St → Prop, (∀ J, Hp.le s.I J → K v ⟨J, s.cs⟩) → CallS P f args s K) : CallV P f args s v := by
  intro K hK w hs
  refine (h (fun v' s' => v' = v ∧ ∃ J, Hp.le s.I J ∧ s' = ⟨J, s.cs⟩) (fun J hJ => ⟨rfl, J, hJ, rfl⟩) w hs).mono ?_
  rintro e w' ⟨v', s', he, hs', hx, rfl, J, hJ, rfl⟩
  exact ⟨_, s, he, Gh.less hJ w' hs', hx, hK⟩
theorem any_eq_mem {xs : List Int} {x : Int} : (xs.any fun y => decide (x = y)) = decide (x ∈ xs) := by
  rw [Bool.eq_iff_iff, List.any_eq_true, decide_eq_true_iff]
  constructor
  · rintro ⟨y, hy, h⟩; rw [of_decide_eq_true h]; exact hy
  · intro h; exact ⟨x, h, decide_eq_true rfl⟩
/-- A reason: its number, and the function that tells it. -/
structure Why where
  why : Int
  is : FuncId
  deriving Inhabited
def kWhy : Kd Why := ⟨2, fun _ x cs => cs = [.int .i64 x.why, .func (.func x.is) #[] #[]], fun h => by rw [h]; rfl, fun _ h => h, fun h => by rw [h]; rfl, fun _ => True, fun _ => 1⟩
def whysL : List Why := [⟨1, 44⟩, ⟨2, 45⟩, ⟨3, 46⟩, ⟨4, 47⟩, ⟨5, 48⟩, ⟨6, 49⟩, ⟨7, 50⟩, ⟨8, 51⟩]
theorem whys_why : ∀ i : Nat, i < 8 → whysL[i]!.why = (i : Int) + 1 := by decide
/-- What a pod and an info keep to. -/
def PairOk (p : Pod) (x : Info) : Prop := x.Node.Taints.length ≤ 1073741824 ∧ LabOk x.Node.Labels ∧ ReqsOk p.Asks
section
attribute [local irreducible] Quiet OpsR Run CallS opS Gh endQ oblE RunN swp Go.Op.equalIn matchOf isKept keptOf clashOf
theorem Free_spec (i : Info) (ci : List Value) (s : St) (hi : kInfo.rep s.I i ci) : CallV Tryz.prog 82 #[.agg ci.toArray] s (Res.v (Res.minus i.Node.Give i.Used)) := by
  intro K hK
  obtain ⟨v1, v2, v3, v4, v5, rfl, h1, h2, h3, h4, h5⟩ := kInfo.open hi
  refine callS_of_run Tryz.func82 rfl ?_; simp only [Tryz.ntmps82, List.size_toArray, List.length_cons, List.length_nil, Nat.reduceAdd, Nat.reduceSub, Array.replicate_succ, Array.replicate_zero, List.push_toArray, List.append_toArray, List.nil_append, List.cons_append]
  refine run_seq fun _ hk1 => ?_
  refine run_region ?_
  refine opsR_o rfl (o_box fun b2 hb2 => ?_)
  simp only [nrm, Nat.reduceAdd, Nat.reduceMul, Nat.reduceSub, Int.reduceToNat, Int.reduceAdd]
  refine opsR_o rfl (o_alloc fun b3 hb3 => ?_)
  simp only [nrm, Nat.reduceAdd, Nat.reduceMul, Nat.reduceSub, Int.reduceToNat, Int.reduceAdd]
  refine opsR_nil ?_
  refine hk1 _ _ ?_
  clear hk1
  refine run_seq fun _ hk4 => ?_
  refine run_region ?_
  refine opsR_q rfl (q_fieldAddr rfl) ?_
  simp only [nrm, Nat.reduceAdd, Nat.reduceMul, Nat.reduceSub, Int.reduceToNat, Int.reduceAdd]
  refine opsR_q rfl (q_fieldAddr rfl) ?_
  simp only [nrm, Nat.reduceAdd, Nat.reduceMul, Nat.reduceSub, Int.reduceToNat, Int.reduceAdd]
  refine opsR_q rfl (by first | exact q_loadBN rfl inferInstance (by rfl) | exact q_loadBW rfl inferInstance (by assumption)) ?_
  simp only [nrm, Nat.reduceAdd, Nat.reduceMul, Nat.reduceSub, Int.reduceToNat, Int.reduceAdd]
  refine opsR_q rfl (q_fieldAddr rfl) ?_
  simp only [nrm, Nat.reduceAdd, Nat.reduceMul, Nat.reduceSub, Int.reduceToNat, Int.reduceAdd]
  refine opsR_q rfl (by first | exact q_loadBN rfl inferInstance (by rfl) | exact q_loadBW rfl inferInstance (by assumption)) ?_
  simp only [nrm, Nat.reduceAdd, Nat.reduceMul, Nat.reduceSub, Int.reduceToNat, Int.reduceAdd]
  refine opsR_q rfl (q_call rfl (Minus_spec _ _ _ _ _ _ _)) ?_
  simp only [nrm, Nat.reduceAdd, Nat.reduceMul, Nat.reduceSub, Int.reduceToNat, Int.reduceAdd]
  refine opsR_o rfl (o_storeB rfl rfl inferInstance (by first | rfl | assumption) (by first | rfl | exact Kd.one _ (by assumption) | assumption) (by first | rfl | (refine Nat.ble_eq_true_of_le ?_; (try simp only [Int.toNat_natCast]); omega)) ?_)
  simp only [nrm, Nat.reduceAdd, Nat.reduceMul, Nat.reduceSub, Int.reduceToNat, Int.reduceAdd]
  refine opsR_nil ?_
  refine hk4 _ _ ?_
  clear hk4
  refine run_ret ?_
  exact end_cell rfl rfl rfl (AtB.has inferInstance) (by first | rfl | assumption) ghA hK
theorem fits_no {w f : Res} (h : ¬ Q.clamp w.CPU ≤ Q.clamp f.CPU ∨ ¬ Q.clamp w.Mem ≤ Q.clamp f.Mem ∨ ¬ Q.clamp w.Disk ≤ Q.clamp f.Disk) : Res.fits w f = false := decide_eq_false (by rintro ⟨a, b, c⟩; rcases h with h | h | h <;> contradiction)
theorem fits_yes {w f : Res} (h1 : Q.clamp w.CPU ≤ Q.clamp f.CPU) (h2 : Q.clamp w.Mem ≤ Q.clamp f.Mem) (h3 : Q.clamp w.Disk ≤ Q.clamp f.Disk) : Res.fits w f = true := decide_eq_true ⟨h1, h2, h3⟩
set_option maxHeartbeats 1000000 in
theorem Fits_spec (w f : Res) (s : St) : CallV Tryz.prog 81 #[w.v, f.v] s (.bool (Res.fits w f)) := by
  intro K hK
  refine callS_of_run Tryz.func81 rfl ?_; simp only [Tryz.ntmps81, List.size_toArray, List.length_cons, List.length_nil, Nat.reduceAdd, Nat.reduceSub, Array.replicate_succ, Array.replicate_zero, List.push_toArray, List.append_toArray, List.nil_append, List.cons_append]
  refine run_seq fun _ hk1 => ?_
  refine run_region ?_
  refine opsR_o rfl (o_box fun b2 hb2 => ?_)
  simp only [nrm, Nat.reduceAdd, Nat.reduceMul, Nat.reduceSub, Int.reduceToNat, Int.reduceAdd]
  refine opsR_o rfl (o_box fun b3 hb3 => ?_)
  simp only [nrm, Nat.reduceAdd, Nat.reduceMul, Nat.reduceSub, Int.reduceToNat, Int.reduceAdd]
  refine opsR_q rfl (q_assign) ?_
  simp only [nrm]
  refine opsR_nil ?_
  refine hk1 _ _ ?_
  clear hk1
  refine run_seq fun _ hk4 => ?_
  refine run_region ?_
  refine opsR_q rfl (by first | exact q_loadBN rfl inferInstance (by rfl) | exact q_loadBW rfl inferInstance (by assumption)) ?_
  simp only [nrm, Nat.reduceAdd, Nat.reduceMul, Nat.reduceSub, Int.reduceToNat, Int.reduceAdd]
  refine opsR_q rfl (q_call rfl (of_spec _ _ _ _)) ?_
  simp only [nrm, Nat.reduceAdd, Nat.reduceMul, Nat.reduceSub, Int.reduceToNat, Int.reduceAdd]
  refine opsR_o rfl (o_alloc fun b6 hb6 => ?_)
  simp only [nrm, Nat.reduceAdd, Nat.reduceMul, Nat.reduceSub, Int.reduceToNat, Int.reduceAdd]
  refine opsR_o rfl (o_storeB rfl rfl inferInstance (by first | rfl | assumption) (by first | rfl | exact Kd.one _ (by assumption) | assumption) (by first | rfl | (refine Nat.ble_eq_true_of_le ?_; (try simp only [Int.toNat_natCast]); omega)) ?_)
  simp only [nrm, Nat.reduceAdd, Nat.reduceMul, Nat.reduceSub, Int.reduceToNat, Int.reduceAdd]
  refine opsR_nil ?_
  refine hk4 _ _ ?_
  clear hk4
  refine run_seq fun _ hk7 => ?_
  refine run_seq fun _ hk8 => ?_
  refine run_region ?_
  refine opsR_q rfl (by first | exact q_loadBN rfl inferInstance (by rfl) | exact q_loadBW rfl inferInstance (by assumption)) ?_
  simp only [nrm, Nat.reduceAdd, Nat.reduceMul, Nat.reduceSub, Int.reduceToNat, Int.reduceAdd]
  refine opsR_q rfl (q_call rfl (of_spec _ _ _ _)) ?_
  simp only [nrm, Nat.reduceAdd, Nat.reduceMul, Nat.reduceSub, Int.reduceToNat, Int.reduceAdd]
  refine opsR_q rfl (q_move) ?_
  simp only [nrm]
  refine opsR_nil ?_
  refine hk8 _ _ ?_
  clear hk8
  refine run_block ?_
  refine run_rounds 4 ?_
  refine run_round fun _ hk10 => ?_
  refine run_seq fun _ hk11 => ?_
  refine run_region ?_
  refine opsR_q rfl (q_lss rfl rfl) ?_
  simp only [nrm, Nat.reduceAdd, Nat.reduceMul, Nat.reduceSub, Int.reduceToNat, Int.reduceAdd]
  refine opsR_nil ?_
  refine hk11 _ _ ?_
  clear hk11
  refine run_seq fun _ hk12 => ?_
  refine run_cond (t := true) rfl (fun _ => ?_) (fun h => by cases h)
  refine run_skip ?_
  refine hk12 _ _ ?_
  clear hk12
  refine run_seq fun _ hk13 => ?_
  refine run_block ?_
  refine run_seq fun _ hk14 => ?_
  refine run_region ?_
  refine opsR_q rfl (q_move) ?_
  simp only [nrm]
  refine opsR_q rfl (q_index_array rfl rfl (by omega) (by omega) rfl rfl) ?_
  simp only [nrm, Nat.reduceAdd, Nat.reduceMul, Nat.reduceSub, Int.reduceToNat, Int.reduceAdd]
  refine opsR_q rfl (q_assign) ?_
  simp only [nrm]
  refine opsR_q rfl (q_assign) ?_
  simp only [nrm]
  refine opsR_nil ?_
  refine hk14 _ _ ?_
  clear hk14
  refine run_seq fun _ hk15 => ?_
  refine run_drawE mixed 7 (by kernel_rfl) rfl ?_
  simp only [List.take_succ_cons, List.take_zero, List.drop_succ_cons, List.drop_zero, List.drop_nil, List.take_nil]
  refine oblE_q rfl (fun I hI => (q_move)) ?_
  simp only [nrm]
  refine oblE_q rfl (fun I hI => (q_call rfl (clamp_spec _ _))) ?_
  simp only [nrm, Nat.reduceAdd, Nat.reduceMul, Nat.reduceSub, Int.reduceToNat, Int.reduceAdd]
  refine oblE_q rfl (fun I hI => (q_move)) ?_
  simp only [nrm]
  refine oblE_q rfl (fun I hI => (q_index_arr rfl rfl (by omega) (by omega))) ?_
  simp only [nrm, Nat.reduceAdd, Nat.reduceMul, Nat.reduceSub, Int.reduceToNat, Int.reduceAdd]
  refine oblE_q rfl (fun I hI => (q_loadB1 rfl inferInstance rfl)) ?_
  simp only [nrm, Nat.reduceAdd, Nat.reduceMul, Nat.reduceSub, Int.reduceToNat, Int.reduceAdd]
  refine oblE_q rfl (fun I hI => (q_call rfl (clamp_spec _ _))) ?_
  simp only [nrm, Nat.reduceAdd, Nat.reduceMul, Nat.reduceSub, Int.reduceToNat, Int.reduceAdd]
  refine oblE_q rfl (fun I hI => (q_gtr rfl rfl)) ?_
  simp only [nrm, Nat.reduceAdd, Nat.reduceMul, Nat.reduceSub, Int.reduceToNat, Int.reduceAdd]
  refine oblE_nil (show OpsR _ _ _ _ _ _ from ?_)
  try simp only [nrm, Nat.reduceAdd, Nat.reduceMul, Nat.reduceSub, Int.reduceToNat, Int.reduceAdd]
  refine opsR_nil ?_
  refine hk15 _ _ ?_
  clear hk15
  refine run_cond rfl (fun ho17 => ?_) (fun ho17 => ?_)
  · have hc17 := ho17; try simp only [spl] at hc17
    refine run_seq fun _ hk18 => ?_
    refine run_region ?_
    refine opsR_q rfl (q_assign) ?_
    simp only [nrm]
    refine opsR_nil ?_
    refine hk18 _ _ ?_
    clear hk18
    refine run_ret ?_
    exact end_tmp rfl rfl rfl ghA (eqK hK (congrArg Go.Value.bool (by exact fits_no (by omega))))
  · have hc17 := ho17; try simp only [spl] at hc17
    refine run_skip ?_
    refine hk13 _ _ ?_
    clear hk13
    refine run_region ?_
    refine opsR_q rfl (by first | exact q_add64 rfl rfl (by omega) (by omega) | exact q_add rfl rfl) ?_
    simp only [nrm, Nat.reduceAdd, Nat.reduceMul, Nat.reduceSub, Int.reduceToNat, Int.reduceAdd]
    refine opsR_q rfl (q_move) ?_
    simp only [nrm]
    refine opsR_nil ?_
    refine hk10 _ _ ?_
    clear hk10
    refine run_round fun _ hk19 => ?_
    refine run_seq fun _ hk20 => ?_
    refine run_region ?_
    refine opsR_q rfl (q_lss rfl rfl) ?_
    simp only [nrm, Nat.reduceAdd, Nat.reduceMul, Nat.reduceSub, Int.reduceToNat, Int.reduceAdd]
    refine opsR_nil ?_
    refine hk20 _ _ ?_
    clear hk20
    refine run_seq fun _ hk21 => ?_
    refine run_cond (t := true) rfl (fun _ => ?_) (fun h => by cases h)
    refine run_skip ?_
    refine hk21 _ _ ?_
    clear hk21
    refine run_seq fun _ hk22 => ?_
    refine run_block ?_
    refine run_seq fun _ hk23 => ?_
    refine run_region ?_
    refine opsR_q rfl (q_move) ?_
    simp only [nrm]
    refine opsR_q rfl (q_index_array rfl rfl (by omega) (by omega) rfl rfl) ?_
    simp only [nrm, Nat.reduceAdd, Nat.reduceMul, Nat.reduceSub, Int.reduceToNat, Int.reduceAdd]
    refine opsR_q rfl (q_assign) ?_
    simp only [nrm]
    refine opsR_q rfl (q_assign) ?_
    simp only [nrm]
    refine opsR_nil ?_
    refine hk23 _ _ ?_
    clear hk23
    refine run_seq fun _ hk24 => ?_
    refine run_drawE mixed 7 (by kernel_rfl) rfl ?_
    simp only [List.take_succ_cons, List.take_zero, List.drop_succ_cons, List.drop_zero, List.drop_nil, List.take_nil]
    refine oblE_q rfl (fun I hI => (q_move)) ?_
    simp only [nrm]
    refine oblE_q rfl (fun I hI => (q_call rfl (clamp_spec _ _))) ?_
    simp only [nrm, Nat.reduceAdd, Nat.reduceMul, Nat.reduceSub, Int.reduceToNat, Int.reduceAdd]
    refine oblE_q rfl (fun I hI => (q_move)) ?_
    simp only [nrm]
    refine oblE_q rfl (fun I hI => (q_index_arr rfl rfl (by omega) (by omega))) ?_
    simp only [nrm, Nat.reduceAdd, Nat.reduceMul, Nat.reduceSub, Int.reduceToNat, Int.reduceAdd]
    refine oblE_q rfl (fun I hI => (q_loadB1 rfl inferInstance rfl)) ?_
    simp only [nrm, Nat.reduceAdd, Nat.reduceMul, Nat.reduceSub, Int.reduceToNat, Int.reduceAdd]
    refine oblE_q rfl (fun I hI => (q_call rfl (clamp_spec _ _))) ?_
    simp only [nrm, Nat.reduceAdd, Nat.reduceMul, Nat.reduceSub, Int.reduceToNat, Int.reduceAdd]
    refine oblE_q rfl (fun I hI => (q_gtr rfl rfl)) ?_
    simp only [nrm, Nat.reduceAdd, Nat.reduceMul, Nat.reduceSub, Int.reduceToNat, Int.reduceAdd]
    refine oblE_nil (show OpsR _ _ _ _ _ _ from ?_)
    try simp only [nrm, Nat.reduceAdd, Nat.reduceMul, Nat.reduceSub, Int.reduceToNat, Int.reduceAdd]
    refine opsR_nil ?_
    refine hk24 _ _ ?_
    clear hk24
    refine run_cond rfl (fun ho25 => ?_) (fun ho25 => ?_)
    · have hc25 := ho25; try simp only [spl] at hc25
      refine run_seq fun _ hk26 => ?_
      refine run_region ?_
      refine opsR_q rfl (q_assign) ?_
      simp only [nrm]
      refine opsR_nil ?_
      refine hk26 _ _ ?_
      clear hk26
      refine run_ret ?_
      exact end_tmp rfl rfl rfl ghA (eqK hK (congrArg Go.Value.bool (by exact fits_no (by omega))))
    · have hc25 := ho25; try simp only [spl] at hc25
      refine run_skip ?_
      refine hk22 _ _ ?_
      clear hk22
      refine run_region ?_
      refine opsR_q rfl (by first | exact q_add64 rfl rfl (by omega) (by omega) | exact q_add rfl rfl) ?_
      simp only [nrm, Nat.reduceAdd, Nat.reduceMul, Nat.reduceSub, Int.reduceToNat, Int.reduceAdd]
      refine opsR_q rfl (q_move) ?_
      simp only [nrm]
      refine opsR_nil ?_
      refine hk19 _ _ ?_
      clear hk19
      refine run_round fun _ hk27 => ?_
      refine run_seq fun _ hk28 => ?_
      refine run_region ?_
      refine opsR_q rfl (q_lss rfl rfl) ?_
      simp only [nrm, Nat.reduceAdd, Nat.reduceMul, Nat.reduceSub, Int.reduceToNat, Int.reduceAdd]
      refine opsR_nil ?_
      refine hk28 _ _ ?_
      clear hk28
      refine run_seq fun _ hk29 => ?_
      refine run_cond (t := true) rfl (fun _ => ?_) (fun h => by cases h)
      refine run_skip ?_
      refine hk29 _ _ ?_
      clear hk29
      refine run_seq fun _ hk30 => ?_
      refine run_block ?_
      refine run_seq fun _ hk31 => ?_
      refine run_region ?_
      refine opsR_q rfl (q_move) ?_
      simp only [nrm]
      refine opsR_q rfl (q_index_array rfl rfl (by omega) (by omega) rfl rfl) ?_
      simp only [nrm, Nat.reduceAdd, Nat.reduceMul, Nat.reduceSub, Int.reduceToNat, Int.reduceAdd]
      refine opsR_q rfl (q_assign) ?_
      simp only [nrm]
      refine opsR_q rfl (q_assign) ?_
      simp only [nrm]
      refine opsR_nil ?_
      refine hk31 _ _ ?_
      clear hk31
      refine run_seq fun _ hk32 => ?_
      refine run_drawE mixed 7 (by kernel_rfl) rfl ?_
      simp only [List.take_succ_cons, List.take_zero, List.drop_succ_cons, List.drop_zero, List.drop_nil, List.take_nil]
      refine oblE_q rfl (fun I hI => (q_move)) ?_
      simp only [nrm]
      refine oblE_q rfl (fun I hI => (q_call rfl (clamp_spec _ _))) ?_
      simp only [nrm, Nat.reduceAdd, Nat.reduceMul, Nat.reduceSub, Int.reduceToNat, Int.reduceAdd]
      refine oblE_q rfl (fun I hI => (q_move)) ?_
      simp only [nrm]
      refine oblE_q rfl (fun I hI => (q_index_arr rfl rfl (by omega) (by omega))) ?_
      simp only [nrm, Nat.reduceAdd, Nat.reduceMul, Nat.reduceSub, Int.reduceToNat, Int.reduceAdd]
      refine oblE_q rfl (fun I hI => (q_loadB1 rfl inferInstance rfl)) ?_
      simp only [nrm, Nat.reduceAdd, Nat.reduceMul, Nat.reduceSub, Int.reduceToNat, Int.reduceAdd]
      refine oblE_q rfl (fun I hI => (q_call rfl (clamp_spec _ _))) ?_
      simp only [nrm, Nat.reduceAdd, Nat.reduceMul, Nat.reduceSub, Int.reduceToNat, Int.reduceAdd]
      refine oblE_q rfl (fun I hI => (q_gtr rfl rfl)) ?_
      simp only [nrm, Nat.reduceAdd, Nat.reduceMul, Nat.reduceSub, Int.reduceToNat, Int.reduceAdd]
      refine oblE_nil (show OpsR _ _ _ _ _ _ from ?_)
      try simp only [nrm, Nat.reduceAdd, Nat.reduceMul, Nat.reduceSub, Int.reduceToNat, Int.reduceAdd]
      refine opsR_nil ?_
      refine hk32 _ _ ?_
      clear hk32
      refine run_cond rfl (fun ho33 => ?_) (fun ho33 => ?_)
      · have hc33 := ho33; try simp only [spl] at hc33
        refine run_seq fun _ hk34 => ?_
        refine run_region ?_
        refine opsR_q rfl (q_assign) ?_
        simp only [nrm]
        refine opsR_nil ?_
        refine hk34 _ _ ?_
        clear hk34
        refine run_ret ?_
        exact end_tmp rfl rfl rfl ghA (eqK hK (congrArg Go.Value.bool (by exact fits_no (by omega))))
      · have hc33 := ho33; try simp only [spl] at hc33
        refine run_skip ?_
        refine hk30 _ _ ?_
        clear hk30
        refine run_region ?_
        refine opsR_q rfl (by first | exact q_add64 rfl rfl (by omega) (by omega) | exact q_add rfl rfl) ?_
        simp only [nrm, Nat.reduceAdd, Nat.reduceMul, Nat.reduceSub, Int.reduceToNat, Int.reduceAdd]
        refine opsR_q rfl (q_move) ?_
        simp only [nrm]
        refine opsR_nil ?_
        refine hk27 _ _ ?_
        clear hk27
        refine run_round fun _ hk35 => ?_
        refine run_seq fun _ hk36 => ?_
        refine run_region ?_
        refine opsR_q rfl (q_lss rfl rfl) ?_
        simp only [nrm, Nat.reduceAdd, Nat.reduceMul, Nat.reduceSub, Int.reduceToNat, Int.reduceAdd]
        refine opsR_nil ?_
        refine hk36 _ _ ?_
        clear hk36
        refine run_seq fun _ hk37 => ?_
        refine run_cond (t := false) rfl (fun h => by cases h) (fun _ => ?_)
        refine run_exit ?_
        refine hk7 _ _ ?_
        clear hk7
        refine run_seq fun _ hk38 => ?_
        refine run_region ?_
        refine opsR_q rfl (q_assign) ?_
        simp only [nrm]
        refine opsR_nil ?_
        refine hk38 _ _ ?_
        clear hk38
        refine run_ret ?_
        first | exact end_tmp rfl rfl rfl ghA hK | exact end_tmp rfl rfl rfl ghA (eqK hK (congrArg Go.Value.bool (by exact fits_yes (by omega) (by omega) (by omega))))
theorem clash1_spec {x : Info} {xc : List Value} {n : Int} {s : St} {bl i : Nat} {e : TypeId} [hA : AtB bl s.cs i (.cells xc.toArray e (0, 0))] (hx : kInfo.rep s.I x xc) :
    CallV Tryz.prog 79 #[.int .i64 n, .pointer (some ⟨bl, 0, none⟩)] s (.bool (decide (n ∈ x.Ports))) := by
  intro K hK
  obtain ⟨v1, v2, v3, v4, v5, rfl, h1, h2, h3, h4, h5⟩ := kInfo.open hx
  refine callS_of_run Tryz.func79 rfl ?_; simp only [Tryz.ntmps79, List.size_toArray, List.length_cons, List.length_nil, Nat.reduceAdd, Nat.reduceSub, Array.replicate_succ, Array.replicate_zero, List.push_toArray, List.append_toArray, List.nil_append, List.cons_append]
  refine run_seq fun _ hk1 => ?_
  refine run_region ?_
  refine opsR_q rfl (q_assign) ?_
  simp only [nrm]
  refine opsR_nil ?_
  refine hk1 _ _ ?_
  clear hk1
  refine run_seq fun _ hk2 => ?_
  refine run_region ?_
  refine opsR_q rfl (q_fieldAddr rfl) ?_
  simp only [nrm, Nat.reduceAdd, Nat.reduceMul, Nat.reduceSub, Int.reduceToNat, Int.reduceAdd]
  refine opsR_q rfl (q_loadB1 rfl inferInstance rfl) ?_
  simp only [nrm, Nat.reduceAdd, Nat.reduceMul, Nat.reduceSub, Int.reduceToNat, Int.reduceAdd]
  refine opsR_q rfl (q_move) ?_
  simp only [nrm]
  refine opsR_q rfl (q_call rfl (Contains_Int (by exact slrA))) ?_
  simp only [nrm, Nat.reduceAdd, Nat.reduceMul, Nat.reduceSub, Int.reduceToNat, Int.reduceAdd]
  refine opsR_q rfl (q_assign) ?_
  simp only [nrm]
  refine opsR_nil ?_
  refine hk2 _ _ ?_
  clear hk2
  refine run_ret ?_
  first | exact end_tmp rfl rfl rfl ghA hK | exact end_tmp rfl rfl rfl ghA (eqK hK (congrArg Go.Value.bool (by exact any_eq_mem.symm)))
theorem Clash_spec {p : Pod} {x : Info} {cp xc : List Value} {s : St} (hp : kPod.rep s.I p cp) (hx : kInfo.rep s.I x xc) : CallV Tryz.prog 66 #[.agg xc.toArray, .agg cp.toArray] s (.bool (clashOf p.Ports x.Ports)) := by
  intro K hK
  have hx' := hx
  obtain ⟨p1, p2, p3, p4, p5, p6, p7, p8, p9, rfl, g1, g2, g3, g4, g5, g6, g7, g8, g9⟩ := kPod.open hp
  obtain ⟨v1, v2, v3, v4, v5, rfl, h1, h2, h3, h4, h5⟩ := kInfo.open hx
  refine callS_of_run Tryz.func66 rfl ?_; simp only [Tryz.ntmps66, List.size_toArray, List.length_cons, List.length_nil, Nat.reduceAdd, Nat.reduceSub, Array.replicate_succ, Array.replicate_zero, List.push_toArray, List.append_toArray, List.nil_append, List.cons_append]
  refine run_seq fun _ hk1 => ?_
  refine run_region ?_
  refine opsR_o rfl (o_box fun b2 hb2 => ?_)
  simp only [nrm, Nat.reduceAdd, Nat.reduceMul, Nat.reduceSub, Int.reduceToNat, Int.reduceAdd]
  refine opsR_o rfl (o_box fun b3 hb3 => ?_)
  simp only [nrm, Nat.reduceAdd, Nat.reduceMul, Nat.reduceSub, Int.reduceToNat, Int.reduceAdd]
  refine opsR_q rfl (q_assign) ?_
  simp only [nrm]
  refine opsR_nil ?_
  refine hk1 _ _ ?_
  clear hk1
  refine run_seq fun _ hk4 => ?_
  refine run_region ?_
  refine opsR_q rfl (q_fieldAddr rfl) ?_
  simp only [nrm, Nat.reduceAdd, Nat.reduceMul, Nat.reduceSub, Int.reduceToNat, Int.reduceAdd]
  refine opsR_q rfl (q_loadB1 rfl inferInstance rfl) ?_
  simp only [nrm, Nat.reduceAdd, Nat.reduceMul, Nat.reduceSub, Int.reduceToNat, Int.reduceAdd]
  refine opsR_q rfl (q_makeFunc) ?_
  simp only [nrm]
  refine opsR_q rfl (q_call rfl (ContainsFunc_Int (p := fun n => decide (n ∈ x.Ports)) (Sl.r g5 (by exact leA)) (fun n cs hn hr => by obtain rfl := hr; exact clash1_spec (x := x) hx'))) ?_
  simp only [nrm, Nat.reduceAdd, Nat.reduceMul, Nat.reduceSub, Int.reduceToNat, Int.reduceAdd]
  refine opsR_q rfl (q_assign) ?_
  simp only [nrm]
  refine opsR_nil ?_
  refine hk4 _ _ ?_
  clear hk4
  refine run_ret ?_
  first | exact end_tmp rfl rfl rfl ghA hK | exact end_tmp rfl rfl rfl ghA (eqK hK (congrArg Go.Value.bool (by unfold clashOf; rfl)))
theorem off_spec {x : FitPair} {cs : List Value} {s : St} (hx : kFitPair.rep s.I x cs) : CallV Tryz.prog 44 #[.agg cs.toArray] s (.bool (whyOf x.xp x.xi 0)) := by
  intro K hK
  obtain ⟨p1, p2, p3, p4, p5, p6, p7, p8, p9, q1, q2, q3, q4, q5, rfl, g1, g2, g3, g4, g5, g6, g7, g8, g9, h1, h2, h3, h4, h5⟩ := kFitPair.open hx
  refine callS_of_run Tryz.func44 rfl ?_; simp only [Tryz.ntmps44, List.size_toArray, List.length_cons, List.length_nil, Nat.reduceAdd, Nat.reduceSub, Array.replicate_succ, Array.replicate_zero, List.push_toArray, List.append_toArray, List.nil_append, List.cons_append]
  refine run_seq fun _ hk1 => ?_
  refine run_region ?_
  refine opsR_o rfl (o_box fun b2 hb2 => ?_)
  simp only [nrm, Nat.reduceAdd, Nat.reduceMul, Nat.reduceSub, Int.reduceToNat, Int.reduceAdd]
  refine opsR_q rfl (q_assign) ?_
  simp only [nrm]
  refine opsR_nil ?_
  refine hk1 _ _ ?_
  clear hk1
  refine run_seq fun _ hk3 => ?_
  refine run_region ?_
  refine opsR_q rfl (q_fieldAddr rfl) ?_
  simp only [nrm, Nat.reduceAdd, Nat.reduceMul, Nat.reduceSub, Int.reduceToNat, Int.reduceAdd]
  refine opsR_q rfl (q_fieldAddr rfl) ?_
  simp only [nrm, Nat.reduceAdd, Nat.reduceMul, Nat.reduceSub, Int.reduceToNat, Int.reduceAdd]
  refine opsR_q rfl (q_fieldAddr rfl) ?_
  simp only [nrm, Nat.reduceAdd, Nat.reduceMul, Nat.reduceSub, Int.reduceToNat, Int.reduceAdd]
  refine opsR_q rfl (q_loadB1 rfl inferInstance rfl) ?_
  simp only [nrm, Nat.reduceAdd, Nat.reduceMul, Nat.reduceSub, Int.reduceToNat, Int.reduceAdd]
  refine opsR_q rfl (q_assign) ?_
  simp only [nrm]
  refine opsR_nil ?_
  refine hk3 _ _ ?_
  clear hk3
  refine run_ret ?_
  exact end_tmp rfl rfl rfl ghA hK
theorem kept_spec {x : FitPair} {cs : List Value} {s : St} (hx : kFitPair.rep s.I x cs) (hn : x.xi.Node.Taints.length ≤ 1073741824) : CallV Tryz.prog 45 #[.agg cs.toArray] s (.bool (whyOf x.xp x.xi 1)) := by
  intro K hK
  obtain ⟨p1, p2, p3, p4, p5, p6, p7, p8, p9, q1, q2, q3, q4, q5, rfl, g1, g2, g3, g4, g5, g6, g7, g8, g9, h1, h2, h3, h4, h5⟩ := kFitPair.open hx
  refine callS_of_run Tryz.func45 rfl ?_; simp only [Tryz.ntmps45, List.size_toArray, List.length_cons, List.length_nil, Nat.reduceAdd, Nat.reduceSub, Array.replicate_succ, Array.replicate_zero, List.push_toArray, List.append_toArray, List.nil_append, List.cons_append]
  refine run_seq fun _ hk1 => ?_
  refine run_region ?_
  refine opsR_o rfl (o_box fun b2 hb2 => ?_)
  simp only [nrm, Nat.reduceAdd, Nat.reduceMul, Nat.reduceSub, Int.reduceToNat, Int.reduceAdd]
  refine opsR_q rfl (q_assign) ?_
  simp only [nrm]
  refine opsR_nil ?_
  refine hk1 _ _ ?_
  clear hk1
  refine run_seq fun _ hk3 => ?_
  refine run_region ?_
  refine opsR_q rfl (q_fieldAddr rfl) ?_
  simp only [nrm, Nat.reduceAdd, Nat.reduceMul, Nat.reduceSub, Int.reduceToNat, Int.reduceAdd]
  refine opsR_q rfl (q_fieldAddr rfl) ?_
  simp only [nrm, Nat.reduceAdd, Nat.reduceMul, Nat.reduceSub, Int.reduceToNat, Int.reduceAdd]
  refine opsR_q rfl (q_fieldAddr rfl) ?_
  simp only [nrm, Nat.reduceAdd, Nat.reduceMul, Nat.reduceSub, Int.reduceToNat, Int.reduceAdd]
  refine opsR_q rfl (q_loadB1 rfl inferInstance rfl) ?_
  simp only [nrm, Nat.reduceAdd, Nat.reduceMul, Nat.reduceSub, Int.reduceToNat, Int.reduceAdd]
  refine opsR_q rfl (q_fieldAddr rfl) ?_
  simp only [nrm, Nat.reduceAdd, Nat.reduceMul, Nat.reduceSub, Int.reduceToNat, Int.reduceAdd]
  refine opsR_q rfl (q_fieldAddr rfl) ?_
  simp only [nrm, Nat.reduceAdd, Nat.reduceMul, Nat.reduceSub, Int.reduceToNat, Int.reduceAdd]
  refine opsR_q rfl (q_loadB1 rfl inferInstance rfl) ?_
  simp only [nrm, Nat.reduceAdd, Nat.reduceMul, Nat.reduceSub, Int.reduceToNat, Int.reduceAdd]
  refine opsR_q rfl (q_call rfl (callV_of_S (Kept_spec (by first | assumption | (refine Sl.mono ?_ (by assumption); exact leA)) (by first | assumption | (refine Sl.mono ?_ (by assumption); exact leA)) hn))) ?_
  simp only [nrm, Nat.reduceAdd, Nat.reduceMul, Nat.reduceSub, Int.reduceToNat, Int.reduceAdd]
  refine opsR_q rfl (q_move) ?_
  simp only [nrm]
  refine opsR_q rfl (q_extract rfl rfl) ?_
  simp only [nrm]
  refine opsR_q rfl (q_extract rfl rfl) ?_
  simp only [nrm]
  refine opsR_o rfl (o_alloc fun b5 hb5 => ?_)
  simp only [nrm, Nat.reduceAdd, Nat.reduceMul, Nat.reduceSub, Int.reduceToNat, Int.reduceAdd]
  refine opsR_o rfl (o_storeB rfl rfl inferInstance (by first | rfl | assumption) (by first | rfl | exact Kd.one _ (by assumption) | assumption) (by first | rfl | (refine Nat.ble_eq_true_of_le ?_; (try simp only [Int.toNat_natCast]); omega)) ?_)
  simp only [nrm, Nat.reduceAdd, Nat.reduceMul, Nat.reduceSub, Int.reduceToNat, Int.reduceAdd]
  refine opsR_q rfl (q_assign) ?_
  simp only [nrm]
  refine opsR_nil ?_
  refine hk3 _ _ ?_
  clear hk3
  refine run_seq fun _ hk6 => ?_
  refine run_region ?_
  refine opsR_q rfl (q_move) ?_
  simp only [nrm]
  refine opsR_q rfl (q_assign) ?_
  simp only [nrm]
  refine opsR_nil ?_
  refine hk6 _ _ ?_
  clear hk6
  refine run_ret ?_
  exact end_tmp rfl rfl rfl ghA hK
theorem asks_spec {x : FitPair} {cs : List Value} {s : St} (hT : Tabs s.I) (hx : kFitPair.rep s.I x cs) (hL : LabOk x.xi.Node.Labels) (hR : ReqsOk x.xp.Asks) : CallV Tryz.prog 46 #[.agg cs.toArray] s (.bool (whyOf x.xp x.xi 2)) := by
  intro K hK
  obtain ⟨p1, p2, p3, p4, p5, p6, p7, p8, p9, q1, q2, q3, q4, q5, rfl, g1, g2, g3, g4, g5, g6, g7, g8, g9, h1, h2, h3, h4, h5⟩ := kFitPair.open hx
  refine callS_of_run Tryz.func46 rfl ?_; simp only [Tryz.ntmps46, List.size_toArray, List.length_cons, List.length_nil, Nat.reduceAdd, Nat.reduceSub, Array.replicate_succ, Array.replicate_zero, List.push_toArray, List.append_toArray, List.nil_append, List.cons_append]
  refine run_seq fun _ hk1 => ?_
  refine run_region ?_
  refine opsR_o rfl (o_box fun b2 hb2 => ?_)
  simp only [nrm, Nat.reduceAdd, Nat.reduceMul, Nat.reduceSub, Int.reduceToNat, Int.reduceAdd]
  refine opsR_q rfl (q_assign) ?_
  simp only [nrm]
  refine opsR_nil ?_
  refine hk1 _ _ ?_
  clear hk1
  refine run_seq fun _ hk3 => ?_
  refine run_region ?_
  refine opsR_q rfl (q_fieldAddr rfl) ?_
  simp only [nrm, Nat.reduceAdd, Nat.reduceMul, Nat.reduceSub, Int.reduceToNat, Int.reduceAdd]
  refine opsR_q rfl (q_fieldAddr rfl) ?_
  simp only [nrm, Nat.reduceAdd, Nat.reduceMul, Nat.reduceSub, Int.reduceToNat, Int.reduceAdd]
  refine opsR_q rfl (q_fieldAddr rfl) ?_
  simp only [nrm, Nat.reduceAdd, Nat.reduceMul, Nat.reduceSub, Int.reduceToNat, Int.reduceAdd]
  refine opsR_q rfl (q_loadB1 rfl inferInstance rfl) ?_
  simp only [nrm, Nat.reduceAdd, Nat.reduceMul, Nat.reduceSub, Int.reduceToNat, Int.reduceAdd]
  refine opsR_q rfl (q_fieldAddr rfl) ?_
  simp only [nrm, Nat.reduceAdd, Nat.reduceMul, Nat.reduceSub, Int.reduceToNat, Int.reduceAdd]
  refine opsR_q rfl (q_fieldAddr rfl) ?_
  simp only [nrm, Nat.reduceAdd, Nat.reduceMul, Nat.reduceSub, Int.reduceToNat, Int.reduceAdd]
  refine opsR_q rfl (q_loadB1 rfl inferInstance rfl) ?_
  simp only [nrm, Nat.reduceAdd, Nat.reduceMul, Nat.reduceSub, Int.reduceToNat, Int.reduceAdd]
  refine opsR_q rfl (q_call rfl (Match_spec (hT.mono (by exact leA)) (by first | assumption | (refine Sl.mono ?_ (by assumption); exact leA)) (by first | assumption | (refine Sl.mono ?_ (by assumption); exact leA)) hL hR)) ?_
  simp only [nrm, Nat.reduceAdd, Nat.reduceMul, Nat.reduceSub, Int.reduceToNat, Int.reduceAdd]
  refine opsR_q rfl (q_not rfl) ?_
  simp only [nrm]
  refine opsR_q rfl (q_assign) ?_
  simp only [nrm]
  refine opsR_nil ?_
  refine hk3 _ _ ?_
  clear hk3
  refine run_ret ?_
  exact end_tmp rfl rfl rfl ghA hK
theorem ports_spec {x : FitPair} {cs : List Value} {s : St} (hx : kFitPair.rep s.I x cs) : CallV Tryz.prog 47 #[.agg cs.toArray] s (.bool (whyOf x.xp x.xi 3)) := by
  intro K hK
  obtain ⟨p1, p2, p3, p4, p5, p6, p7, p8, p9, q1, q2, q3, q4, q5, rfl, g1, g2, g3, g4, g5, g6, g7, g8, g9, h1, h2, h3, h4, h5⟩ := kFitPair.open hx
  have hp2 := kPod.shut (I := s.I) (x := x.xp) (hLabels := g1) (hBears := g2) (hAsks := g3) (hPrefers := g4) (hPorts := g5) (hNear := g6) (hApart := g7) (hSpreads := g8) (hClaims := g9)
  have hi2 := kInfo.shut (I := s.I) (x := x.xi) (hNode_Labels := h1) (hNode_Taints := h2) (hNames := h3) (hPorts := h4) (hDisks := h5)
  refine callS_of_run Tryz.func47 rfl ?_; simp only [Tryz.ntmps47, List.size_toArray, List.length_cons, List.length_nil, Nat.reduceAdd, Nat.reduceSub, Array.replicate_succ, Array.replicate_zero, List.push_toArray, List.append_toArray, List.nil_append, List.cons_append]
  refine run_seq fun _ hk1 => ?_
  refine run_region ?_
  refine opsR_o rfl (o_box fun b2 hb2 => ?_)
  simp only [nrm, Nat.reduceAdd, Nat.reduceMul, Nat.reduceSub, Int.reduceToNat, Int.reduceAdd]
  refine opsR_q rfl (q_assign) ?_
  simp only [nrm]
  refine opsR_nil ?_
  refine hk1 _ _ ?_
  clear hk1
  refine run_seq fun _ hk3 => ?_
  refine run_region ?_
  refine opsR_q rfl (q_fieldAddr rfl) ?_
  simp only [nrm, Nat.reduceAdd, Nat.reduceMul, Nat.reduceSub, Int.reduceToNat, Int.reduceAdd]
  refine opsR_q rfl (by first | exact q_loadBN rfl inferInstance (by rfl) | exact q_loadBW rfl inferInstance (by assumption)) ?_
  simp only [nrm, Nat.reduceAdd, Nat.reduceMul, Nat.reduceSub, Int.reduceToNat, Int.reduceAdd]
  refine opsR_q rfl (q_fieldAddr rfl) ?_
  simp only [nrm, Nat.reduceAdd, Nat.reduceMul, Nat.reduceSub, Int.reduceToNat, Int.reduceAdd]
  refine opsR_q rfl (by first | exact q_loadBN rfl inferInstance (by rfl) | exact q_loadBW rfl inferInstance (by assumption)) ?_
  simp only [nrm, Nat.reduceAdd, Nat.reduceMul, Nat.reduceSub, Int.reduceToNat, Int.reduceAdd]
  refine opsR_q rfl (q_call rfl (Clash_spec (by first | assumption | (refine Kd.mono _ ?_ (by assumption); exact leA)) (by first | assumption | (refine Kd.mono _ ?_ (by assumption); exact leA)))) ?_
  simp only [nrm, Nat.reduceAdd, Nat.reduceMul, Nat.reduceSub, Int.reduceToNat, Int.reduceAdd]
  refine opsR_q rfl (q_assign) ?_
  simp only [nrm]
  refine opsR_nil ?_
  refine hk3 _ _ ?_
  clear hk3
  refine run_ret ?_
  exact end_tmp rfl rfl rfl ghA hK
theorem pods_spec {x : FitPair} {cs : List Value} {s : St} (hx : kFitPair.rep s.I x cs) : CallV Tryz.prog 48 #[.agg cs.toArray] s (.bool (whyOf x.xp x.xi 4)) := by
  intro K hK
  obtain ⟨p1, p2, p3, p4, p5, p6, p7, p8, p9, q1, q2, q3, q4, q5, rfl, g1, g2, g3, g4, g5, g6, g7, g8, g9, h1, h2, h3, h4, h5⟩ := kFitPair.open hx
  refine callS_of_run Tryz.func48 rfl ?_; simp only [Tryz.ntmps48, List.size_toArray, List.length_cons, List.length_nil, Nat.reduceAdd, Nat.reduceSub, Array.replicate_succ, Array.replicate_zero, List.push_toArray, List.append_toArray, List.nil_append, List.cons_append]
  refine run_seq fun _ hk1 => ?_
  refine run_region ?_
  refine opsR_o rfl (o_box fun b2 hb2 => ?_)
  simp only [nrm, Nat.reduceAdd, Nat.reduceMul, Nat.reduceSub, Int.reduceToNat, Int.reduceAdd]
  refine opsR_q rfl (q_assign) ?_
  simp only [nrm]
  refine opsR_nil ?_
  refine hk1 _ _ ?_
  clear hk1
  refine run_seq fun _ hk3 => ?_
  refine run_region ?_
  refine opsR_q rfl (q_fieldAddr rfl) ?_
  simp only [nrm, Nat.reduceAdd, Nat.reduceMul, Nat.reduceSub, Int.reduceToNat, Int.reduceAdd]
  refine opsR_q rfl (q_fieldAddr rfl) ?_
  simp only [nrm, Nat.reduceAdd, Nat.reduceMul, Nat.reduceSub, Int.reduceToNat, Int.reduceAdd]
  refine opsR_q rfl (q_loadB1 rfl inferInstance rfl) ?_
  simp only [nrm, Nat.reduceAdd, Nat.reduceMul, Nat.reduceSub, Int.reduceToNat, Int.reduceAdd]
  refine opsR_q rfl (q_len_v rfl (by first | exact Sl.len (by assumption) | exact OwnS.len (by assumption) | exact SlR.len (by assumption) | assumption)) ?_
  simp only [nrm, Nat.reduceAdd, Nat.reduceMul, Nat.reduceSub, Int.reduceToNat, Int.reduceAdd]
  refine opsR_q rfl (q_fieldAddr rfl) ?_
  simp only [nrm, Nat.reduceAdd, Nat.reduceMul, Nat.reduceSub, Int.reduceToNat, Int.reduceAdd]
  refine opsR_q rfl (q_fieldAddr rfl) ?_
  simp only [nrm, Nat.reduceAdd, Nat.reduceMul, Nat.reduceSub, Int.reduceToNat, Int.reduceAdd]
  refine opsR_q rfl (q_fieldAddr rfl) ?_
  simp only [nrm, Nat.reduceAdd, Nat.reduceMul, Nat.reduceSub, Int.reduceToNat, Int.reduceAdd]
  refine opsR_q rfl (q_loadB1 rfl inferInstance rfl) ?_
  simp only [nrm, Nat.reduceAdd, Nat.reduceMul, Nat.reduceSub, Int.reduceToNat, Int.reduceAdd]
  refine opsR_q rfl (q_geq rfl rfl) ?_
  simp only [nrm, Nat.reduceAdd, Nat.reduceMul, Nat.reduceSub, Int.reduceToNat, Int.reduceAdd]
  refine opsR_q rfl (q_assign) ?_
  simp only [nrm]
  refine opsR_nil ?_
  refine hk3 _ _ ?_
  clear hk3
  refine run_ret ?_
  exact end_tmp rfl rfl rfl ghA hK
theorem lacks_spec {x : FitPair} {r : Res} {cs : List Value} {s : St} (hx : kFitPair.rep s.I x cs) : CallV Tryz.prog 67 #[.agg cs.toArray, R3 r.CPU r.Mem r.Disk] s (.bool (!Res.fits r (Res.minus x.xi.Node.Give x.xi.Used))) := by
  intro K hK
  obtain ⟨p1, p2, p3, p4, p5, p6, p7, p8, p9, q1, q2, q3, q4, q5, rfl, g1, g2, g3, g4, g5, g6, g7, g8, g9, h1, h2, h3, h4, h5⟩ := kFitPair.open hx
  have hi2 := kInfo.shut (I := s.I) (x := x.xi) (hNode_Labels := h1) (hNode_Taints := h2) (hNames := h3) (hPorts := h4) (hDisks := h5)
  refine callS_of_run Tryz.func67 rfl ?_; simp only [Tryz.ntmps67, List.size_toArray, List.length_cons, List.length_nil, Nat.reduceAdd, Nat.reduceSub, Array.replicate_succ, Array.replicate_zero, List.push_toArray, List.append_toArray, List.nil_append, List.cons_append]
  refine run_seq fun _ hk1 => ?_
  refine run_region ?_
  refine opsR_o rfl (o_box fun b2 hb2 => ?_)
  simp only [nrm, Nat.reduceAdd, Nat.reduceMul, Nat.reduceSub, Int.reduceToNat, Int.reduceAdd]
  refine opsR_o rfl (o_box fun b3 hb3 => ?_)
  simp only [nrm, Nat.reduceAdd, Nat.reduceMul, Nat.reduceSub, Int.reduceToNat, Int.reduceAdd]
  refine opsR_q rfl (q_assign) ?_
  simp only [nrm]
  refine opsR_nil ?_
  refine hk1 _ _ ?_
  clear hk1
  refine run_seq fun _ hk4 => ?_
  refine run_drawE mixed 7 (by kernel_rfl) rfl ?_
  simp only [List.take_succ_cons, List.take_zero, List.drop_succ_cons, List.drop_zero, List.drop_nil, List.take_nil]
  refine oblE_q rfl (fun I hI => (by first | exact q_loadBN rfl inferInstance (by rfl) | exact q_loadBW rfl inferInstance (by assumption))) ?_
  simp only [nrm, Nat.reduceAdd, Nat.reduceMul, Nat.reduceSub, Int.reduceToNat, Int.reduceAdd]
  refine oblE_q rfl (fun I hI => (q_fieldAddr rfl)) ?_
  simp only [nrm, Nat.reduceAdd, Nat.reduceMul, Nat.reduceSub, Int.reduceToNat, Int.reduceAdd]
  refine oblE_q rfl (fun I hI => (by first | exact q_loadBN rfl inferInstance (by rfl) | exact q_loadBW rfl inferInstance (by assumption))) ?_
  simp only [nrm, Nat.reduceAdd, Nat.reduceMul, Nat.reduceSub, Int.reduceToNat, Int.reduceAdd]
  refine oblE_q rfl (fun I hI => (q_call rfl (Free_spec _ _ _ (by first | assumption | (refine Kd.mono _ ?_ (by assumption); exact leA))))) ?_
  simp only [nrm, Nat.reduceAdd, Nat.reduceMul, Nat.reduceSub, Int.reduceToNat, Int.reduceAdd]
  refine oblE_q rfl (fun I hI => (q_call rfl (Fits_spec _ _ _))) ?_
  simp only [nrm, Nat.reduceAdd, Nat.reduceMul, Nat.reduceSub, Int.reduceToNat, Int.reduceAdd]
  refine oblE_q rfl (fun I hI => (q_not rfl)) ?_
  simp only [nrm]
  refine oblE_q rfl (fun I hI => (q_assign)) ?_
  simp only [nrm]
  refine oblE_nil (show OpsR _ _ _ _ _ _ from ?_)
  try simp only [nrm, Nat.reduceAdd, Nat.reduceMul, Nat.reduceSub, Int.reduceToNat, Int.reduceAdd]
  refine opsR_nil ?_
  refine hk4 _ _ ?_
  clear hk4
  refine run_ret ?_
  exact end_tmp rfl rfl rfl ghA hK
theorem clamp_sub (a b : Int) : Q.clamp (Q.sub a b) = Q.sub a b := by unfold Q.sub Q.clamp; omega
theorem lack_cpu {a : Int} {g u : Res} : (!Res.fits ⟨a, 0, 0⟩ (Res.minus g u)) = decide (Q.clamp a > Q.sub g.CPU u.CPU) := by
  have h1 := Q.clamp_lo (Q.sub g.Mem u.Mem); have h2 := Q.clamp_lo (Q.sub g.Disk u.Disk); have h3 : Q.clamp 0 = 0 := by decide
  rw [Res.fits, ← decide_not]; refine decide_eq_decide.2 ?_; simp only [Res.minus, h3, clamp_sub] at *; omega
theorem lack_mem {a : Int} {g u : Res} : (!Res.fits ⟨0, a, 0⟩ (Res.minus g u)) = decide (Q.clamp a > Q.sub g.Mem u.Mem) := by
  have h1 := Q.clamp_lo (Q.sub g.CPU u.CPU); have h2 := Q.clamp_lo (Q.sub g.Disk u.Disk); have h3 : Q.clamp 0 = 0 := by decide
  rw [Res.fits, ← decide_not]; refine decide_eq_decide.2 ?_; simp only [Res.minus, h3, clamp_sub] at *; omega
theorem lack_disk {a : Int} {g u : Res} : (!Res.fits ⟨0, 0, a⟩ (Res.minus g u)) = decide (Q.clamp a > Q.sub g.Disk u.Disk) := by
  have h1 := Q.clamp_lo (Q.sub g.CPU u.CPU); have h2 := Q.clamp_lo (Q.sub g.Mem u.Mem); have h3 : Q.clamp 0 = 0 := by decide
  rw [Res.fits, ← decide_not]; refine decide_eq_decide.2 ?_; simp only [Res.minus, h3, clamp_sub] at *; omega
theorem cpu_spec {x : FitPair} {cs : List Value} {s : St} (hx : kFitPair.rep s.I x cs) : CallV Tryz.prog 49 #[.agg cs.toArray] s (.bool (whyOf x.xp x.xi 5)) := by
  intro K hK
  have hx' := hx
  obtain ⟨p1, p2, p3, p4, p5, p6, p7, p8, p9, q1, q2, q3, q4, q5, rfl, g1, g2, g3, g4, g5, g6, g7, g8, g9, h1, h2, h3, h4, h5⟩ := kFitPair.open hx
  refine callS_of_run Tryz.func49 rfl ?_; simp only [Tryz.ntmps49, List.size_toArray, List.length_cons, List.length_nil, Nat.reduceAdd, Nat.reduceSub, Array.replicate_succ, Array.replicate_zero, List.push_toArray, List.append_toArray, List.nil_append, List.cons_append]
  refine run_seq fun _ hk1 => ?_
  refine run_region ?_
  refine opsR_o rfl (o_box fun b2 hb2 => ?_)
  simp only [nrm, Nat.reduceAdd, Nat.reduceMul, Nat.reduceSub, Int.reduceToNat, Int.reduceAdd]
  refine opsR_q rfl (q_assign) ?_
  simp only [nrm]
  refine opsR_nil ?_
  refine hk1 _ _ ?_
  clear hk1
  refine run_seq fun _ hk3 => ?_
  refine run_region ?_
  refine opsR_q rfl (by first | exact q_loadBN rfl inferInstance (by rfl) | exact q_loadBW rfl inferInstance (by assumption)) ?_
  simp only [nrm, Nat.reduceAdd, Nat.reduceMul, Nat.reduceSub, Int.reduceToNat, Int.reduceAdd]
  refine opsR_q rfl (q_fieldAddr rfl) ?_
  simp only [nrm, Nat.reduceAdd, Nat.reduceMul, Nat.reduceSub, Int.reduceToNat, Int.reduceAdd]
  refine opsR_q rfl (q_fieldAddr rfl) ?_
  simp only [nrm, Nat.reduceAdd, Nat.reduceMul, Nat.reduceSub, Int.reduceToNat, Int.reduceAdd]
  refine opsR_q rfl (q_fieldAddr rfl) ?_
  simp only [nrm, Nat.reduceAdd, Nat.reduceMul, Nat.reduceSub, Int.reduceToNat, Int.reduceAdd]
  refine opsR_q rfl (q_loadB1 rfl inferInstance rfl) ?_
  simp only [nrm, Nat.reduceAdd, Nat.reduceMul, Nat.reduceSub, Int.reduceToNat, Int.reduceAdd]
  refine opsR_q rfl (q_build rfl) ?_
  simp only [nrm, Nat.reduceAdd, Nat.reduceMul, Nat.reduceSub, Int.reduceToNat, Int.reduceAdd]
  refine opsR_q rfl (q_call rfl (lacks_spec (x := x) (r := ⟨x.xp.Want.CPU, 0, 0⟩) hx')) ?_
  simp only [nrm, Nat.reduceAdd, Nat.reduceMul, Nat.reduceSub, Int.reduceToNat, Int.reduceAdd]
  refine opsR_q rfl (q_assign) ?_
  simp only [nrm]
  refine opsR_nil ?_
  refine hk3 _ _ ?_
  clear hk3
  refine run_ret ?_
  first | exact end_tmp rfl rfl rfl ghA hK | exact end_tmp rfl rfl rfl ghA (eqK hK (congrArg Go.Value.bool (by exact lack_cpu.symm)))
theorem mem_spec {x : FitPair} {cs : List Value} {s : St} (hx : kFitPair.rep s.I x cs) : CallV Tryz.prog 50 #[.agg cs.toArray] s (.bool (whyOf x.xp x.xi 6)) := by
  intro K hK
  have hx' := hx
  obtain ⟨p1, p2, p3, p4, p5, p6, p7, p8, p9, q1, q2, q3, q4, q5, rfl, g1, g2, g3, g4, g5, g6, g7, g8, g9, h1, h2, h3, h4, h5⟩ := kFitPair.open hx
  refine callS_of_run Tryz.func50 rfl ?_; simp only [Tryz.ntmps50, List.size_toArray, List.length_cons, List.length_nil, Nat.reduceAdd, Nat.reduceSub, Array.replicate_succ, Array.replicate_zero, List.push_toArray, List.append_toArray, List.nil_append, List.cons_append]
  refine run_seq fun _ hk1 => ?_
  refine run_region ?_
  refine opsR_o rfl (o_box fun b2 hb2 => ?_)
  simp only [nrm, Nat.reduceAdd, Nat.reduceMul, Nat.reduceSub, Int.reduceToNat, Int.reduceAdd]
  refine opsR_q rfl (q_assign) ?_
  simp only [nrm]
  refine opsR_nil ?_
  refine hk1 _ _ ?_
  clear hk1
  refine run_seq fun _ hk3 => ?_
  refine run_region ?_
  refine opsR_q rfl (by first | exact q_loadBN rfl inferInstance (by rfl) | exact q_loadBW rfl inferInstance (by assumption)) ?_
  simp only [nrm, Nat.reduceAdd, Nat.reduceMul, Nat.reduceSub, Int.reduceToNat, Int.reduceAdd]
  refine opsR_q rfl (q_fieldAddr rfl) ?_
  simp only [nrm, Nat.reduceAdd, Nat.reduceMul, Nat.reduceSub, Int.reduceToNat, Int.reduceAdd]
  refine opsR_q rfl (q_fieldAddr rfl) ?_
  simp only [nrm, Nat.reduceAdd, Nat.reduceMul, Nat.reduceSub, Int.reduceToNat, Int.reduceAdd]
  refine opsR_q rfl (q_fieldAddr rfl) ?_
  simp only [nrm, Nat.reduceAdd, Nat.reduceMul, Nat.reduceSub, Int.reduceToNat, Int.reduceAdd]
  refine opsR_q rfl (q_loadB1 rfl inferInstance rfl) ?_
  simp only [nrm, Nat.reduceAdd, Nat.reduceMul, Nat.reduceSub, Int.reduceToNat, Int.reduceAdd]
  refine opsR_q rfl (q_build rfl) ?_
  simp only [nrm, Nat.reduceAdd, Nat.reduceMul, Nat.reduceSub, Int.reduceToNat, Int.reduceAdd]
  refine opsR_q rfl (q_call rfl (lacks_spec (x := x) (r := ⟨0, x.xp.Want.Mem, 0⟩) hx')) ?_
  simp only [nrm, Nat.reduceAdd, Nat.reduceMul, Nat.reduceSub, Int.reduceToNat, Int.reduceAdd]
  refine opsR_q rfl (q_assign) ?_
  simp only [nrm]
  refine opsR_nil ?_
  refine hk3 _ _ ?_
  clear hk3
  refine run_ret ?_
  first | exact end_tmp rfl rfl rfl ghA hK | exact end_tmp rfl rfl rfl ghA (eqK hK (congrArg Go.Value.bool (by exact lack_mem.symm)))
theorem disk_spec {x : FitPair} {cs : List Value} {s : St} (hx : kFitPair.rep s.I x cs) : CallV Tryz.prog 51 #[.agg cs.toArray] s (.bool (whyOf x.xp x.xi 7)) := by
  intro K hK
  have hx' := hx
  obtain ⟨p1, p2, p3, p4, p5, p6, p7, p8, p9, q1, q2, q3, q4, q5, rfl, g1, g2, g3, g4, g5, g6, g7, g8, g9, h1, h2, h3, h4, h5⟩ := kFitPair.open hx
  refine callS_of_run Tryz.func51 rfl ?_; simp only [Tryz.ntmps51, List.size_toArray, List.length_cons, List.length_nil, Nat.reduceAdd, Nat.reduceSub, Array.replicate_succ, Array.replicate_zero, List.push_toArray, List.append_toArray, List.nil_append, List.cons_append]
  refine run_seq fun _ hk1 => ?_
  refine run_region ?_
  refine opsR_o rfl (o_box fun b2 hb2 => ?_)
  simp only [nrm, Nat.reduceAdd, Nat.reduceMul, Nat.reduceSub, Int.reduceToNat, Int.reduceAdd]
  refine opsR_q rfl (q_assign) ?_
  simp only [nrm]
  refine opsR_nil ?_
  refine hk1 _ _ ?_
  clear hk1
  refine run_seq fun _ hk3 => ?_
  refine run_region ?_
  refine opsR_q rfl (by first | exact q_loadBN rfl inferInstance (by rfl) | exact q_loadBW rfl inferInstance (by assumption)) ?_
  simp only [nrm, Nat.reduceAdd, Nat.reduceMul, Nat.reduceSub, Int.reduceToNat, Int.reduceAdd]
  refine opsR_q rfl (q_fieldAddr rfl) ?_
  simp only [nrm, Nat.reduceAdd, Nat.reduceMul, Nat.reduceSub, Int.reduceToNat, Int.reduceAdd]
  refine opsR_q rfl (q_fieldAddr rfl) ?_
  simp only [nrm, Nat.reduceAdd, Nat.reduceMul, Nat.reduceSub, Int.reduceToNat, Int.reduceAdd]
  refine opsR_q rfl (q_fieldAddr rfl) ?_
  simp only [nrm, Nat.reduceAdd, Nat.reduceMul, Nat.reduceSub, Int.reduceToNat, Int.reduceAdd]
  refine opsR_q rfl (q_loadB1 rfl inferInstance rfl) ?_
  simp only [nrm, Nat.reduceAdd, Nat.reduceMul, Nat.reduceSub, Int.reduceToNat, Int.reduceAdd]
  refine opsR_q rfl (q_build rfl) ?_
  simp only [nrm, Nat.reduceAdd, Nat.reduceMul, Nat.reduceSub, Int.reduceToNat, Int.reduceAdd]
  refine opsR_q rfl (q_call rfl (lacks_spec (x := x) (r := ⟨0, 0, x.xp.Want.Disk⟩) hx')) ?_
  simp only [nrm, Nat.reduceAdd, Nat.reduceMul, Nat.reduceSub, Int.reduceToNat, Int.reduceAdd]
  refine opsR_q rfl (q_assign) ?_
  simp only [nrm]
  refine opsR_nil ?_
  refine hk3 _ _ ?_
  clear hk3
  refine run_ret ?_
  first | exact end_tmp rfl rfl rfl ghA hK | exact end_tmp rfl rfl rfl ghA (eqK hK (congrArg Go.Value.bool (by exact lack_disk.symm)))
theorem whys_fn : ∀ i : Nat, i < 8 → FnOk Tryz.prog (whysL[i]!).is := by
  intro i h
  match i, h with
  | 0, _ => exact (inferInstance : FnOk Tryz.prog 44)
  | 1, _ => exact (inferInstance : FnOk Tryz.prog 45)
  | 2, _ => exact (inferInstance : FnOk Tryz.prog 46)
  | 3, _ => exact (inferInstance : FnOk Tryz.prog 47)
  | 4, _ => exact (inferInstance : FnOk Tryz.prog 48)
  | 5, _ => exact (inferInstance : FnOk Tryz.prog 49)
  | 6, _ => exact (inferInstance : FnOk Tryz.prog 50)
  | 7, _ => exact (inferInstance : FnOk Tryz.prog 51)
theorem whys_call {x : FitPair} {cs : List Value} {s : St} (hT : Tabs s.I) (hx : kFitPair.rep s.I x cs) (hp : PairOk x.xp x.xi) : ∀ i : Nat, i < 8 → CallV Tryz.prog (whysL[i]!).is #[.agg cs.toArray] s (.bool (whyOf x.xp x.xi i)) := by
  intro i h
  match i, h with
  | 0, _ => exact off_spec hx
  | 1, _ => exact kept_spec hx hp.1
  | 2, _ => exact asks_spec hT hx hp.2.1 hp.2.2
  | 3, _ => exact ports_spec hx
  | 4, _ => exact pods_spec hx
  | 5, _ => exact cpu_spec hx
  | 6, _ => exact mem_spec hx
  | 7, _ => exact disk_spec hx
theorem reasons_spec {s : St} : CallR Tryz.prog 28 #[] s (fun J w => Sl kWhy J w whysL) := by
  intro K hK
  refine callS_of_run Tryz.func28 rfl ?_; simp only [Tryz.ntmps28, List.size_toArray, List.length_cons, List.length_nil, Nat.reduceAdd, Nat.reduceSub, Array.replicate_succ, Array.replicate_zero, List.push_toArray, List.append_toArray, List.nil_append, List.cons_append]
  refine run_seq fun _ hk1 => ?_
  refine run_region ?_
  refine opsR_q rfl (q_assign) ?_
  simp only [nrm]
  refine opsR_nil ?_
  refine hk1 _ _ ?_
  clear hk1
  refine run_seq fun _ hk2 => ?_
  refine run_region ?_
  refine opsR_q rfl (q_build rfl) ?_
  simp only [nrm, Nat.reduceAdd, Nat.reduceMul, Nat.reduceSub, Int.reduceToNat, Int.reduceAdd]
  refine opsR_q rfl (q_build rfl) ?_
  simp only [nrm, Nat.reduceAdd, Nat.reduceMul, Nat.reduceSub, Int.reduceToNat, Int.reduceAdd]
  refine opsR_q rfl (q_build rfl) ?_
  simp only [nrm, Nat.reduceAdd, Nat.reduceMul, Nat.reduceSub, Int.reduceToNat, Int.reduceAdd]
  refine opsR_q rfl (q_build rfl) ?_
  simp only [nrm, Nat.reduceAdd, Nat.reduceMul, Nat.reduceSub, Int.reduceToNat, Int.reduceAdd]
  refine opsR_q rfl (q_build rfl) ?_
  simp only [nrm, Nat.reduceAdd, Nat.reduceMul, Nat.reduceSub, Int.reduceToNat, Int.reduceAdd]
  refine opsR_q rfl (q_build rfl) ?_
  simp only [nrm, Nat.reduceAdd, Nat.reduceMul, Nat.reduceSub, Int.reduceToNat, Int.reduceAdd]
  refine opsR_q rfl (q_build rfl) ?_
  simp only [nrm, Nat.reduceAdd, Nat.reduceMul, Nat.reduceSub, Int.reduceToNat, Int.reduceAdd]
  refine opsR_q rfl (q_build rfl) ?_
  simp only [nrm, Nat.reduceAdd, Nat.reduceMul, Nat.reduceSub, Int.reduceToNat, Int.reduceAdd]
  refine opsR_sliceN kWhy [⟨1, 44⟩, ⟨2, 45⟩, ⟨3, 46⟩, ⟨4, 47⟩, ⟨5, 48⟩, ⟨6, 49⟩, ⟨7, 50⟩, ⟨8, 51⟩] [_, _, _, _, _, _, _, _] rfl rfl rfl (by rfl) (by decide) (by decide) (by rfl) ⟨(by first | rfl | assumption | exact kWhy.shut | (refine Kd.mono _ ?_ (by assumption); exact leA) | (apply kWhy.shut <;> assumption)), (by first | rfl | assumption | exact kWhy.shut | (refine Kd.mono _ ?_ (by assumption); exact leA) | (apply kWhy.shut <;> assumption)), (by first | rfl | assumption | exact kWhy.shut | (refine Kd.mono _ ?_ (by assumption); exact leA) | (apply kWhy.shut <;> assumption)), (by first | rfl | assumption | exact kWhy.shut | (refine Kd.mono _ ?_ (by assumption); exact leA) | (apply kWhy.shut <;> assumption)), (by first | rfl | assumption | exact kWhy.shut | (refine Kd.mono _ ?_ (by assumption); exact leA) | (apply kWhy.shut <;> assumption)), (by first | rfl | assumption | exact kWhy.shut | (refine Kd.mono _ ?_ (by assumption); exact leA) | (apply kWhy.shut <;> assumption)), (by first | rfl | assumption | exact kWhy.shut | (refine Kd.mono _ ?_ (by assumption); exact leA) | (apply kWhy.shut <;> assumption)), (by first | rfl | assumption | exact kWhy.shut | (refine Kd.mono _ ?_ (by assumption); exact leA) | (apply kWhy.shut <;> assumption)), trivial⟩ fun vO hsO hvO => ?_
  simp only [nrm, Nat.reduceAdd, Nat.reduceMul, Nat.reduceSub, Int.reduceToNat, Int.reduceAdd]
  refine opsR_fz hvO (by infer_instance) fun JFO hJFO hvO => ?_; try dsimp only at hJFO; try (have hrFO : Hp.le s.I JFO := (by exact leA); have hJFO := hJFO); try simp only [nrm, Nat.reduceAdd, Nat.reduceMul, Nat.reduceSub, Int.reduceToNat, Int.reduceAdd]
  refine opsR_q rfl (q_assign) ?_
  simp only [nrm]
  refine opsR_nil ?_
  refine hk2 _ _ ?_
  clear hk2
  refine run_ret ?_
  exact end_tmp rfl rfl rfl (by exact ghA) (hK _ _ (by exact leA) (Sl.cast hvO rfl))
end
end Go.Proofs.YtcnbcblihepbmaaGreatDoor
