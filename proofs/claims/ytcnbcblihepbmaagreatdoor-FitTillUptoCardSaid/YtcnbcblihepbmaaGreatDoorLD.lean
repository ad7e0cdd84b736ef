/- Package label and its reference: Match, and the reference's Meets. -/
import Derived.Test.YtcnbcblihepbmaaGreatDoorLC
set_option autoImplicit false
set_option linter.unusedVariables false
set_option linter.unusedSimpArgs false
namespace Go.Proofs.YtcnbcblihepbmaaGreatDoor
open Go Go.RowKit
/-- No text that is read as a number is too long. -/
def LabOk (l : List Label) : Prop := ∀ x ∈ l, x.Value.size ≤ 281474976710656
def ReqOk (r : Req) : Prop := ∀ w ∈ r.Values, w.size ≤ 281474976710656
def ReqsOk (l : List Req) : Prop := ∀ r ∈ l, ReqOk r
theorem get_size {l : List Label} {k : ByteArray} (h : LabOk l) : ∀ x, getOf l k = some x → x.size ≤ 281474976710656 := by
  intro v hv
  unfold getOf at hv
  obtain ⟨x, hx, rfl⟩ := Option.map_eq_some_iff.1 hv
  exact h x (List.mem_of_find?_eq_some hx)
theorem cmp_eq {g : Option ByteArray} {ws : List ByteArray} {f : Nat → Nat → Bool} (hw : (ws.length : Int) = 1) :
    cmpOf g ws f = (g.isSome && (whole 15 (g.getD ⟨#[]⟩).data.toList).isSome && (whole 15 ws[0]!.data.toList).isSome && f ((whole 15 (g.getD ⟨#[]⟩).data.toList).getD 0) ((whole 15 ws[0]!.data.toList).getD 0)) := by
  have e2 := one_get hw
  generalize ws[0]! = w at *
  subst e2
  cases g with
  | none => rfl
  | some d =>
    simp only [cmpOf, numOf, Option.getD_some, Option.isSome_some, Bool.true_and]
    cases h1 : whole 15 d.data.toList with
    | none => rfl
    | some n =>
      cases h2 : whole 15 w.data.toList with
      | none => rfl
      | some m => simp
theorem cmp_no {g : Option ByteArray} {ws : List ByteArray} {f : Nat → Nat → Bool} (hw : ¬ (ws.length : Int) = 1) : cmpOf g ws f = false := by
  match g, ws, hw with
  | none, _, _ => rfl
  | some d, [], _ => rfl
  | some d, [w], h => exact absurd rfl h
  | some d, _ :: _ :: _, _ => rfl
theorem in_somes {g : Option ByteArray} {ws : List ByteArray} : inOf g ws = (g.isSome && ws.any fun y => decide (g.getD ⟨#[]⟩ = y)) := by cases g <;> rfl
section
attribute [local irreducible] Quiet OpsR Run CallS opS Gh endQ oblE RunN swp cmpOf inOf numOf whole
theorem Match_spec {l : List Label} {rs : List Req} {v w : Value} {s : St} (hT : Tabs s.I) (hl : Sl kLabel s.I v l) (hr : Sl kReq s.I w rs) (hL : LabOk l) (hR : ReqsOk rs) :
    CallV Tryz.prog 65 #[v, w] s (.bool (matchOf l rs)) := by
  intro K hK
  have hle := hr.len.le
  refine callS_of_run Tryz.func65 rfl ?_; simp only [Tryz.ntmps65, List.size_toArray, List.length_cons, List.length_nil, Nat.reduceAdd, Nat.reduceSub, Array.replicate_succ, Array.replicate_zero, List.push_toArray, List.append_toArray, List.nil_append, List.cons_append]
  refine run_seq fun _ hk1 => ?_
  refine run_region ?_
  refine opsR_q rfl (q_assign) ?_
  simp only [nrm]
  refine opsR_nil ?_
  refine hk1 _ _ ?_
  clear hk1
  refine run_seq fun _ hk2 => ?_
  refine run_seq fun _ hk3 => ?_
  refine run_region ?_
  refine opsR_q rfl (q_move) ?_
  simp only [nrm]
  refine opsR_q rfl (q_len_v rfl (by first | exact Sl.len (by assumption) | exact OwnS.len (by assumption) | exact SlR.len (by assumption) | assumption)) ?_
  simp only [nrm, Nat.reduceAdd, Nat.reduceMul, Nat.reduceSub, Int.reduceToNat, Int.reduceAdd]
  refine opsR_q rfl (q_move) ?_
  simp only [nrm]
  refine opsR_nil ?_
  refine hk3 _ _ ?_
  clear hk3
  refine run_block ?_
  refine run_loopF [0, 0, 0, 0, 1, 0, 1, 0, 0, 2, 1, 1, 1, 1, 1, 1, 1, 1] (fun zn zL zst => ∃ (i : Nat), zL = [.int .i64 (i : Nat)] ∧ s = zst ∧ zn = rs.length - i ∧ (i ≤ rs.length) ∧ (∀ j, j < i → meetsOf l rs[j]! = true)) _ _ ⟨0, rfl, rfl, rfl, by first | assumption | omega | exact Hp.le.rfl | rfl | exact all_zero | exact all_succ (by assumption) (by assumption) | (intro _; omega) | (simp; done), by first | assumption | omega | exact Hp.le.rfl | rfl | exact all_zero | exact all_succ (by assumption) (by assumption) | (intro _; omega) | (simp; done)⟩ rfl ?_
  rintro _ _ _ jv5 ⟨i, rfl, rfl, rfl, hi, hj⟩ K5 hkl5
  simp only [fr, Nat.zero_add, Nat.reduceAdd]
  refine run_seq fun _ hk6 => ?_
  refine run_region ?_
  refine opsR_q rfl (q_lss rfl rfl) ?_
  simp only [nrm, Nat.reduceAdd, Nat.reduceMul, Nat.reduceSub, Int.reduceToNat, Int.reduceAdd]
  refine opsR_nil ?_
  refine hk6 _ _ ?_
  clear hk6
  refine run_seq fun _ hk9 => ?_
  refine run_cond rfl (fun ho10 => ?_) (fun ho10 => ?_)
  · have hc10 := ho10; try simp only [spl] at hc10
    refine run_skip ?_
    refine hk9 _ _ ?_
    clear hk9
    refine run_seq fun _ hk11 => ?_
    refine run_block ?_
    refine run_seq fun _ hk12 => ?_
    refine run_region ?_
    refine opsR_index rfl rfl rfl slrA (by rfl) idxA idxA fun b13 o13 cs13 ha13 hr13 he13 => ?_
    simp only [nrm, Nat.reduceAdd, Nat.reduceMul, Nat.reduceSub, Int.reduceToNat, Int.reduceAdd]
    try simp only [Int.toNat_natCast, Int.reduceToNat, Int.toNat_zero] at hr13
    try simp only [Int.toNat_natCast, Int.reduceToNat, Int.toNat_zero] at he13
    clear ha13
    obtain ⟨w13_Values, rfl, h13_Values⟩ := kReq.open hr13
    refine opsR_q rfl (by first | exact q_load_atW rfl (by first | assumption | exact El.mono (by assumption) leA) (by rfl) rfl | exact q_load_atN0 rfl (by first | assumption | exact El.mono (by assumption) leA) rfl rfl | exact q_load_atN rfl (by first | assumption | exact El.mono (by assumption) leA) rfl (Nat.le_of_ble_eq_true rfl) (Nat.le_of_ble_eq_true rfl)) ?_
    simp only [nrm, Nat.reduceAdd, Nat.reduceMul, Nat.reduceSub, Int.reduceToNat, Int.reduceAdd]
    refine opsR_o rfl (o_alloc fun b15 hb15 => ?_)
    simp only [nrm, Nat.reduceAdd, Nat.reduceMul, Nat.reduceSub, Int.reduceToNat, Int.reduceAdd]
    refine opsR_o rfl (o_storeB rfl rfl inferInstance (by first | rfl | assumption) (by first | rfl | exact Kd.one _ (by assumption) | assumption) (by first | rfl | (refine Nat.ble_eq_true_of_le ?_; (try simp only [Int.toNat_natCast]); omega)) ?_)
    simp only [nrm, Nat.reduceAdd, Nat.reduceMul, Nat.reduceSub, Int.reduceToNat, Int.reduceAdd]
    refine opsR_nil ?_
    refine hk12 _ _ ?_
    clear hk12
    refine run_seq fun _ hk16 => ?_
    refine run_region ?_
    refine opsR_q rfl (q_move) ?_
    simp only [nrm]
    refine opsR_q rfl (by first | exact q_loadBN rfl inferInstance (by rfl) | exact q_loadBW rfl inferInstance (by assumption)) ?_
    simp only [nrm, Nat.reduceAdd, Nat.reduceMul, Nat.reduceSub, Int.reduceToNat, Int.reduceAdd]
    refine opsR_q rfl (q_call rfl (Meets_spec (by exact hT) (by first | assumption | (refine Sl.mono ?_ (by assumption); exact leA)) (by assumption) (get_size hL) (hR _ (mem_get! (by omega))))) ?_
    simp only [nrm, Nat.reduceAdd, Nat.reduceMul, Nat.reduceSub, Int.reduceToNat, Int.reduceAdd]
    refine opsR_q rfl (q_not rfl) ?_
    simp only [nrm]
    refine opsR_nil ?_
    refine hk16 _ _ ?_
    clear hk16
    refine run_cond rfl (fun ho19 => ?_) (fun ho19 => ?_)
    · have hc19 := ho19; try simp only [spl] at hc19
      refine run_seq fun _ hk20 => ?_
      refine run_region ?_
      refine opsR_q rfl (q_assign) ?_
      simp only [nrm]
      refine opsR_nil ?_
      refine hk20 _ _ ?_
      clear hk20
      refine run_ret ?_
      exact end_tmp rfl rfl rfl ghA (eqK hK (congrArg Go.Value.bool (by exact all_at (p := meetsOf l) (j := i) (by omega) (by assumption))))
    · have hc19 := ho19; try simp only [spl] at hc19
      refine run_skip ?_
      refine hk11 _ _ ?_
      clear hk11
      refine run_gh Gh.drop ?_
      refine run_region ?_
      refine opsR_q rfl (by first | exact q_add64 rfl rfl (by omega) (by omega) | exact q_add rfl rfl) ?_
      simp only [nrm, Nat.reduceAdd, Nat.reduceMul, Nat.reduceSub, Int.reduceToNat, Int.reduceAdd]
      refine opsR_q rfl (q_move) ?_
      simp only [nrm]
      refine opsR_nil ?_
      first
      | exact hkl5 _ _ _ _ (by omega) ⟨i + 1, rfl, rfl, rfl, by first | omega | exact all_zero | exact all_succ hj (by assumption), by first | omega | exact all_zero | exact all_succ hj (by assumption)⟩ rfl
  · have hc10 := ho10; try simp only [spl] at hc10
    refine run_exit ?_
    refine hk2 _ _ ?_
    clear hk2
    refine run_seq fun _ hk21 => ?_
    refine run_region ?_
    refine opsR_q rfl (q_assign) ?_
    simp only [nrm]
    refine opsR_nil ?_
    refine hk21 _ _ ?_
    clear hk21
    refine run_ret ?_
    first | exact end_tmp rfl rfl rfl ghA hK | exact end_tmp rfl rfl rfl ghA (eqK hK (congrArg Go.Value.bool (by exact all_none (p := meetsOf l) (fun j h => hj j (by omega)))))
set_option maxHeartbeats 1000000 in
theorem refMeets_spec {l : List Label} {r : Req} {v : Value} {rs : List Value} {s : St} (hl : Sl kLabel s.I v l) (hr : kReq.rep s.I r rs)
    (hL : ∀ x, getOf l r.Key = some x → x.size ≤ 281474976710656) (hw : ∀ w ∈ r.Values, w.size ≤ 281474976710656) :
    CallV Tryz.prog 54 #[v, .agg rs.toArray] s (.bool (meetsOf l r)) := by
  intro K hK
  obtain ⟨vv, rfl, hv⟩ := kReq.open hr
  have hg := size_getD hL
  have hle := hv.len.le
  refine callS_of_run Tryz.func54 rfl ?_; simp only [Tryz.ntmps54, List.size_toArray, List.length_cons, List.length_nil, Nat.reduceAdd, Nat.reduceSub, Array.replicate_succ, Array.replicate_zero, List.push_toArray, List.append_toArray, List.nil_append, List.cons_append]
  refine run_seq fun _ hk1 => ?_
  refine run_region ?_
  refine opsR_o rfl (o_box fun b2 hb2 => ?_)
  simp only [nrm, Nat.reduceAdd, Nat.reduceMul, Nat.reduceSub, Int.reduceToNat, Int.reduceAdd]
  refine opsR_q rfl (q_assign) ?_
  simp only [nrm]
  refine opsR_nil ?_
  refine hk1 _ _ ?_
  clear hk1
  refine run_seq fun _ hk3 => ?_
  refine run_region ?_
  refine opsR_q rfl (q_move) ?_
  simp only [nrm]
  refine opsR_q rfl (q_fieldAddr rfl) ?_
  simp only [nrm, Nat.reduceAdd, Nat.reduceMul, Nat.reduceSub, Int.reduceToNat, Int.reduceAdd]
  refine opsR_q rfl (q_loadB1 rfl inferInstance rfl) ?_
  simp only [nrm, Nat.reduceAdd, Nat.reduceMul, Nat.reduceSub, Int.reduceToNat, Int.reduceAdd]
  refine opsR_q rfl (q_call rfl (refGet_spec (by first | assumption | (refine Sl.mono ?_ (by assumption); exact leA)))) ?_
  simp only [nrm, Nat.reduceAdd, Nat.reduceMul, Nat.reduceSub, Int.reduceToNat, Int.reduceAdd]
  refine opsR_q rfl (q_move) ?_
  simp only [nrm]
  refine opsR_q rfl (q_extract rfl rfl) ?_
  simp only [nrm]
  refine opsR_q rfl (q_extract rfl rfl) ?_
  simp only [nrm]
  refine opsR_q rfl (q_assign) ?_
  simp only [nrm]
  refine opsR_q rfl (q_assign) ?_
  simp only [nrm]
  refine opsR_nil ?_
  refine hk3 _ _ ?_
  clear hk3
  refine run_seq fun _ hk6 => ?_
  refine run_seq fun _ hk7 => ?_
  refine run_region ?_
  refine opsR_q rfl (q_fieldAddr rfl) ?_
  simp only [nrm, Nat.reduceAdd, Nat.reduceMul, Nat.reduceSub, Int.reduceToNat, Int.reduceAdd]
  refine opsR_q rfl (q_loadB1 rfl inferInstance rfl) ?_
  simp only [nrm, Nat.reduceAdd, Nat.reduceMul, Nat.reduceSub, Int.reduceToNat, Int.reduceAdd]
  refine opsR_nil ?_
  refine hk7 _ _ ?_
  clear hk7
  refine run_block ?_
  refine run_seq fun _ hk8 => ?_
  refine run_region ?_
  refine opsR_q rfl (q_eql rfl rfl) ?_
  simp only [nrm, Nat.reduceAdd, Nat.reduceMul, Nat.reduceSub, Int.reduceToNat, Int.reduceAdd]
  refine opsR_q rfl (q_assign) ?_
  simp only [nrm]
  refine opsR_nil ?_
  refine hk8 _ _ ?_
  clear hk8
  refine run_cond rfl (fun ho9 => ?_) (fun ho9 => ?_)
  · have hc9 := ho9; try simp only [spl] at hc9
    refine run_seq fun _ hk10 => ?_
    refine run_region ?_
    refine opsR_q rfl (q_move) ?_
    simp only [nrm]
    refine opsR_qb rfl (q_move) (fun hc11 => ?_) (fun hc11 => ?_)
    · have ho11 := hc11; try simp only [spl] at hc11
      simp only [nrm, Nat.reduceAdd, Nat.reduceMul, Nat.reduceSub, Int.reduceToNat, Int.reduceAdd]
      refine opsR_q rfl (q_fieldAddr rfl) ?_
      simp only [nrm, Nat.reduceAdd, Nat.reduceMul, Nat.reduceSub, Int.reduceToNat, Int.reduceAdd]
      refine opsR_q rfl (q_loadB1 rfl inferInstance rfl) ?_
      simp only [nrm, Nat.reduceAdd, Nat.reduceMul, Nat.reduceSub, Int.reduceToNat, Int.reduceAdd]
      refine opsR_q rfl (q_move) ?_
      simp only [nrm]
      refine opsR_q rfl (q_call rfl (Has_spec (by exact slrA))) ?_
      simp only [nrm, Nat.reduceAdd, Nat.reduceMul, Nat.reduceSub, Int.reduceToNat, Int.reduceAdd]
      refine opsR_q rfl (q_pick_t rfl) ?_
      simp only [nrm]
      refine opsR_q rfl (q_assign) ?_
      simp only [nrm]
      refine opsR_nil ?_
      refine hk10 _ _ ?_
      clear hk10
      refine run_ret ?_
      first | exact end_tmp rfl rfl rfl ghA hK | exact end_tmp rfl rfl rfl ghA (eqK hK (congrArg Go.Value.bool (by first | (simp [meetsOf, in_somes, *]; done) | (exfalso; omega))))
    · have ho11 := hc11; try simp only [spl] at hc11
      simp only [nrm, Nat.reduceAdd, Nat.reduceMul, Nat.reduceSub, Int.reduceToNat, Int.reduceAdd]
      refine opsR_skip rfl ?_
      simp only [nrm, Nat.reduceAdd, Nat.reduceMul, Nat.reduceSub, Int.reduceToNat, Int.reduceAdd]
      refine opsR_skip rfl ?_
      simp only [nrm, Nat.reduceAdd, Nat.reduceMul, Nat.reduceSub, Int.reduceToNat, Int.reduceAdd]
      refine opsR_skip rfl ?_
      simp only [nrm, Nat.reduceAdd, Nat.reduceMul, Nat.reduceSub, Int.reduceToNat, Int.reduceAdd]
      refine opsR_skip rfl ?_
      simp only [nrm, Nat.reduceAdd, Nat.reduceMul, Nat.reduceSub, Int.reduceToNat, Int.reduceAdd]
      refine opsR_q rfl (q_pick_f rfl) ?_
      simp only [nrm]
      refine opsR_q rfl (q_assign) ?_
      simp only [nrm]
      refine opsR_nil ?_
      refine hk10 _ _ ?_
      clear hk10
      refine run_ret ?_
      first | exact end_tmp rfl rfl rfl ghA hK | exact end_tmp rfl rfl rfl ghA (eqK hK (congrArg Go.Value.bool (by first | (simp [meetsOf, in_somes, *]; done) | (exfalso; omega))))
  · have hc9 := ho9; try simp only [spl] at hc9
    refine run_seq fun _ hk12 => ?_
    refine run_region ?_
    refine opsR_q rfl (q_eql rfl rfl) ?_
    simp only [nrm, Nat.reduceAdd, Nat.reduceMul, Nat.reduceSub, Int.reduceToNat, Int.reduceAdd]
    refine opsR_q rfl (q_assign) ?_
    simp only [nrm]
    refine opsR_nil ?_
    refine hk12 _ _ ?_
    clear hk12
    refine run_cond rfl (fun ho13 => ?_) (fun ho13 => ?_)
    · have hc13 := ho13; try simp only [spl] at hc13
      refine run_seq fun _ hk14 => ?_
      refine run_region ?_
      refine opsR_q rfl (q_move) ?_
      simp only [nrm]
      refine opsR_q rfl (q_not rfl) ?_
      simp only [nrm]
      refine opsR_qb rfl (q_move) (fun hc15 => ?_) (fun hc15 => ?_)
      · have ho15 := hc15; try simp only [spl] at hc15
        simp only [nrm, Nat.reduceAdd, Nat.reduceMul, Nat.reduceSub, Int.reduceToNat, Int.reduceAdd]
        refine opsR_skip rfl ?_
        simp only [nrm, Nat.reduceAdd, Nat.reduceMul, Nat.reduceSub, Int.reduceToNat, Int.reduceAdd]
        refine opsR_skip rfl ?_
        simp only [nrm, Nat.reduceAdd, Nat.reduceMul, Nat.reduceSub, Int.reduceToNat, Int.reduceAdd]
        refine opsR_skip rfl ?_
        simp only [nrm, Nat.reduceAdd, Nat.reduceMul, Nat.reduceSub, Int.reduceToNat, Int.reduceAdd]
        refine opsR_skip rfl ?_
        simp only [nrm, Nat.reduceAdd, Nat.reduceMul, Nat.reduceSub, Int.reduceToNat, Int.reduceAdd]
        refine opsR_skip rfl ?_
        simp only [nrm, Nat.reduceAdd, Nat.reduceMul, Nat.reduceSub, Int.reduceToNat, Int.reduceAdd]
        refine opsR_q rfl (q_pick_t rfl) ?_
        simp only [nrm]
        refine opsR_q rfl (q_assign) ?_
        simp only [nrm]
        refine opsR_nil ?_
        refine hk14 _ _ ?_
        clear hk14
        refine run_ret ?_
        first | exact end_tmp rfl rfl rfl ghA hK | exact end_tmp rfl rfl rfl ghA (eqK hK (congrArg Go.Value.bool (by first | (simp [meetsOf, in_somes, *]; done) | (exfalso; omega))))
      · have ho15 := hc15; try simp only [spl] at hc15
        simp only [nrm, Nat.reduceAdd, Nat.reduceMul, Nat.reduceSub, Int.reduceToNat, Int.reduceAdd]
        refine opsR_q rfl (q_fieldAddr rfl) ?_
        simp only [nrm, Nat.reduceAdd, Nat.reduceMul, Nat.reduceSub, Int.reduceToNat, Int.reduceAdd]
        refine opsR_q rfl (q_loadB1 rfl inferInstance rfl) ?_
        simp only [nrm, Nat.reduceAdd, Nat.reduceMul, Nat.reduceSub, Int.reduceToNat, Int.reduceAdd]
        refine opsR_q rfl (q_move) ?_
        simp only [nrm]
        refine opsR_q rfl (q_call rfl (Has_spec (by exact slrA))) ?_
        simp only [nrm, Nat.reduceAdd, Nat.reduceMul, Nat.reduceSub, Int.reduceToNat, Int.reduceAdd]
        refine opsR_q rfl (q_not rfl) ?_
        simp only [nrm]
        refine opsR_q rfl (q_pick_f rfl) ?_
        simp only [nrm]
        refine opsR_q rfl (q_assign) ?_
        simp only [nrm]
        refine opsR_nil ?_
        refine hk14 _ _ ?_
        clear hk14
        refine run_ret ?_
        first | exact end_tmp rfl rfl rfl ghA hK | exact end_tmp rfl rfl rfl ghA (eqK hK (congrArg Go.Value.bool (by first | (simp [meetsOf, in_somes, *]; done) | (exfalso; omega))))
    · have hc13 := ho13; try simp only [spl] at hc13
      refine run_seq fun _ hk16 => ?_
      refine run_region ?_
      refine opsR_q rfl (q_eql rfl rfl) ?_
      simp only [nrm, Nat.reduceAdd, Nat.reduceMul, Nat.reduceSub, Int.reduceToNat, Int.reduceAdd]
      refine opsR_q rfl (q_assign) ?_
      simp only [nrm]
      refine opsR_nil ?_
      refine hk16 _ _ ?_
      clear hk16
      refine run_cond rfl (fun ho17 => ?_) (fun ho17 => ?_)
      · have hc17 := ho17; try simp only [spl] at hc17
        refine run_seq fun _ hk18 => ?_
        refine run_region ?_
        refine opsR_q rfl (q_move) ?_
        simp only [nrm]
        refine opsR_q rfl (q_assign) ?_
        simp only [nrm]
        refine opsR_nil ?_
        refine hk18 _ _ ?_
        clear hk18
        refine run_ret ?_
        first | exact end_tmp rfl rfl rfl ghA hK | exact end_tmp rfl rfl rfl ghA (eqK hK (congrArg Go.Value.bool (by first | (simp [meetsOf, in_somes, *]; done) | (exfalso; omega))))
      · have hc17 := ho17; try simp only [spl] at hc17
        refine run_seq fun _ hk19 => ?_
        refine run_region ?_
        refine opsR_q rfl (q_eql rfl rfl) ?_
        simp only [nrm, Nat.reduceAdd, Nat.reduceMul, Nat.reduceSub, Int.reduceToNat, Int.reduceAdd]
        refine opsR_q rfl (q_assign) ?_
        simp only [nrm]
        refine opsR_nil ?_
        refine hk19 _ _ ?_
        clear hk19
        refine run_cond rfl (fun ho20 => ?_) (fun ho20 => ?_)
        · have hc20 := ho20; try simp only [spl] at hc20
          refine run_seq fun _ hk21 => ?_
          refine run_region ?_
          refine opsR_q rfl (q_move) ?_
          simp only [nrm]
          refine opsR_q rfl (q_not rfl) ?_
          simp only [nrm]
          refine opsR_q rfl (q_assign) ?_
          simp only [nrm]
          refine opsR_nil ?_
          refine hk21 _ _ ?_
          clear hk21
          refine run_ret ?_
          first | exact end_tmp rfl rfl rfl ghA hK | exact end_tmp rfl rfl rfl ghA (eqK hK (congrArg Go.Value.bool (by first | (simp [meetsOf, in_somes, *]; done) | (exfalso; omega))))
        · have hc20 := ho20; try simp only [spl] at hc20
          refine run_seq fun _ hk22 => ?_
          refine run_seq fun _ hk23 => ?_
          refine run_region ?_
          refine opsR_q rfl (q_eql rfl rfl) ?_
          simp only [nrm, Nat.reduceAdd, Nat.reduceMul, Nat.reduceSub, Int.reduceToNat, Int.reduceAdd]
          refine opsR_q rfl (q_assign) ?_
          simp only [nrm]
          refine opsR_nil ?_
          refine hk23 _ _ ?_
          clear hk23
          refine run_cond rfl (fun ho24 => ?_) (fun ho24 => ?_)
          · have hc24 := ho24; try simp only [spl] at hc24
            refine run_skip ?_
            refine hk22 _ _ ?_
            clear hk22
            refine run_cond rfl (fun _ => ?_) (fun h => by first | exact absurd h (by rw [ho24]; decide) | exact absurd ho24 (by rw [h]; decide))
            refine run_seq fun _ hk25 => ?_
            refine run_seq fun _ hk26 => ?_
            refine run_region ?_
            refine opsR_q rfl (q_fieldAddr rfl) ?_
            simp only [nrm, Nat.reduceAdd, Nat.reduceMul, Nat.reduceSub, Int.reduceToNat, Int.reduceAdd]
            refine opsR_q rfl (q_loadB1 rfl inferInstance rfl) ?_
            simp only [nrm, Nat.reduceAdd, Nat.reduceMul, Nat.reduceSub, Int.reduceToNat, Int.reduceAdd]
            refine opsR_q rfl (q_len_v rfl (by first | exact Sl.len (by assumption) | exact OwnS.len (by assumption) | exact SlR.len (by assumption) | assumption)) ?_
            simp only [nrm, Nat.reduceAdd, Nat.reduceMul, Nat.reduceSub, Int.reduceToNat, Int.reduceAdd]
            refine opsR_q rfl (q_neq rfl rfl) ?_
            simp only [nrm, Nat.reduceAdd, Nat.reduceMul, Nat.reduceSub, Int.reduceToNat, Int.reduceAdd]
            refine opsR_nil ?_
            refine hk26 _ _ ?_
            clear hk26
            refine run_cond rfl (fun ho27 => ?_) (fun ho27 => ?_)
            · have hc27 := ho27; try simp only [spl] at hc27
              refine run_seq fun _ hk28 => ?_
              refine run_region ?_
              refine opsR_q rfl (q_assign) ?_
              simp only [nrm]
              refine opsR_nil ?_
              refine hk28 _ _ ?_
              clear hk28
              refine run_ret ?_
              exact end_tmp rfl rfl rfl ghA (eqK hK (congrArg Go.Value.bool (by first | (simp [meetsOf, cmp_no (by assumption), *]; done) | (exfalso; omega))))
            · have hc27 := ho27; try simp only [spl] at hc27
              refine run_skip ?_
              refine hk25 _ _ ?_
              clear hk25
              refine run_seq fun _ hk29 => ?_
              refine run_region ?_
              refine opsR_q rfl (q_move) ?_
              simp only [nrm]
              refine opsR_q rfl (q_call rfl (Whole_spec (dg := 15) (by decide) (by omega))) ?_
              simp only [nrm, Nat.reduceAdd, Nat.reduceMul, Nat.reduceSub, Int.reduceToNat, Int.reduceAdd]
              refine opsR_q rfl (q_move) ?_
              simp only [nrm]
              refine opsR_q rfl (q_extract rfl rfl) ?_
              simp only [nrm]
              refine opsR_q rfl (q_extract rfl rfl) ?_
              simp only [nrm]
              refine opsR_q rfl (q_assign) ?_
              simp only [nrm]
              refine opsR_q rfl (q_assign) ?_
              simp only [nrm]
              refine opsR_nil ?_
              refine hk29 _ _ ?_
              clear hk29
              refine run_seq fun _ hk30 => ?_
              refine run_region ?_
              refine opsR_q rfl (q_fieldAddr rfl) ?_
              simp only [nrm, Nat.reduceAdd, Nat.reduceMul, Nat.reduceSub, Int.reduceToNat, Int.reduceAdd]
              refine opsR_q rfl (q_loadB1 rfl inferInstance rfl) ?_
              simp only [nrm, Nat.reduceAdd, Nat.reduceMul, Nat.reduceSub, Int.reduceToNat, Int.reduceAdd]
              refine opsR_index rfl rfl rfl slrA (by rfl) idxA idxA fun b31 o31 cs31 ha31 hr31 he31 => ?_
              simp only [nrm, Nat.reduceAdd, Nat.reduceMul, Nat.reduceSub, Int.reduceToNat, Int.reduceAdd]
              try simp only [Int.toNat_natCast, Int.reduceToNat, Int.toNat_zero] at hr31
              try simp only [Int.toNat_natCast, Int.reduceToNat, Int.toNat_zero] at he31
              clear ha31
              obtain rfl := hr31
              refine opsR_q rfl (by first | exact q_load_at1 (i := 0) rfl (by first | assumption | exact El.mono (by assumption) leA) rfl (Nat.le_of_ble_eq_true rfl) rfl | exact q_load_at1 rfl (by first | assumption | exact El.mono (by assumption) leA) rfl (Nat.le_of_ble_eq_true rfl) rfl) ?_
              simp only [nrm, Nat.reduceAdd, Nat.reduceMul, Nat.reduceSub, Int.reduceToNat, Int.reduceAdd]
              have hz := hw _ (mem_get! (i := 0) (by omega))
              refine opsR_q rfl (q_call rfl (Whole_spec (dg := 15) (by decide) (by omega))) ?_
              simp only [nrm, Nat.reduceAdd, Nat.reduceMul, Nat.reduceSub, Int.reduceToNat, Int.reduceAdd]
              refine opsR_q rfl (q_move) ?_
              simp only [nrm]
              refine opsR_q rfl (q_extract rfl rfl) ?_
              simp only [nrm]
              refine opsR_q rfl (q_extract rfl rfl) ?_
              simp only [nrm]
              refine opsR_q rfl (q_assign) ?_
              simp only [nrm]
              refine opsR_q rfl (q_assign) ?_
              simp only [nrm]
              refine opsR_nil ?_
              refine hk30 _ _ ?_
              clear hk30
              refine run_seq fun _ hk32 => ?_
              refine run_seq fun _ hk33 => ?_
              refine run_region ?_
              refine opsR_q rfl (q_fieldAddr rfl) ?_
              simp only [nrm, Nat.reduceAdd, Nat.reduceMul, Nat.reduceSub, Int.reduceToNat, Int.reduceAdd]
              refine opsR_q rfl (q_loadB1 rfl inferInstance rfl) ?_
              simp only [nrm, Nat.reduceAdd, Nat.reduceMul, Nat.reduceSub, Int.reduceToNat, Int.reduceAdd]
              refine opsR_q rfl (q_eql rfl rfl) ?_
              simp only [nrm, Nat.reduceAdd, Nat.reduceMul, Nat.reduceSub, Int.reduceToNat, Int.reduceAdd]
              refine opsR_nil ?_
              refine hk33 _ _ ?_
              clear hk33
              refine run_cond rfl (fun _ => ?_) (fun h => by first | exact absurd h (by rw [ho24]; decide) | exact absurd ho24 (by rw [h]; decide))
              refine run_seq fun _ hk34 => ?_
              refine run_region ?_
              refine opsR_q rfl (q_move) ?_
              simp only [nrm]
              refine opsR_qb rfl (q_move) (fun hc35 => ?_) (fun hc35 => ?_)
              · have ho35 := hc35; try simp only [spl] at hc35
                simp only [nrm, Nat.reduceAdd, Nat.reduceMul, Nat.reduceSub, Int.reduceToNat, Int.reduceAdd]
                refine opsR_q rfl (q_move) ?_
                simp only [nrm]
                refine opsR_q rfl (q_pick_t rfl) ?_
                simp only [nrm]
                refine opsR_qb rfl (q_move) (fun hc36 => ?_) (fun hc36 => ?_)
                · have ho36 := hc36; try simp only [spl] at hc36
                  simp only [nrm, Nat.reduceAdd, Nat.reduceMul, Nat.reduceSub, Int.reduceToNat, Int.reduceAdd]
                  refine opsR_q rfl (q_move) ?_
                  simp only [nrm]
                  refine opsR_q rfl (q_pick_t rfl) ?_
                  simp only [nrm]
                  refine opsR_qb rfl (q_move) (fun hc37 => ?_) (fun hc37 => ?_)
                  · have ho37 := hc37; try simp only [spl] at hc37
                    simp only [nrm, Nat.reduceAdd, Nat.reduceMul, Nat.reduceSub, Int.reduceToNat, Int.reduceAdd]
                    refine opsR_q rfl (q_move) ?_
                    simp only [nrm]
                    refine opsR_q rfl (q_move) ?_
                    simp only [nrm]
                    refine opsR_q rfl (q_gtr rfl rfl) ?_
                    simp only [nrm, Nat.reduceAdd, Nat.reduceMul, Nat.reduceSub, Int.reduceToNat, Int.reduceAdd]
                    refine opsR_q rfl (q_pick_t rfl) ?_
                    simp only [nrm]
                    refine opsR_q rfl (q_assign) ?_
                    simp only [nrm]
                    refine opsR_nil ?_
                    refine hk34 _ _ ?_
                    clear hk34
                    refine run_ret ?_
                    exact end_tmp rfl rfl rfl ghA (eqK hK (congrArg Go.Value.bool (by first | (simp only [meetsOf, cmp_eq (by assumption)]; generalize r.Values[0]! = w0 at *; simp [*]; done) | (exfalso; omega))))
                  · have ho37 := hc37; try simp only [spl] at hc37
                    simp only [nrm, Nat.reduceAdd, Nat.reduceMul, Nat.reduceSub, Int.reduceToNat, Int.reduceAdd]
                    refine opsR_skip rfl ?_
                    simp only [nrm, Nat.reduceAdd, Nat.reduceMul, Nat.reduceSub, Int.reduceToNat, Int.reduceAdd]
                    refine opsR_skip rfl ?_
                    simp only [nrm, Nat.reduceAdd, Nat.reduceMul, Nat.reduceSub, Int.reduceToNat, Int.reduceAdd]
                    refine opsR_skip rfl ?_
                    simp only [nrm, Nat.reduceAdd, Nat.reduceMul, Nat.reduceSub, Int.reduceToNat, Int.reduceAdd]
                    refine opsR_q rfl (q_pick_f rfl) ?_
                    simp only [nrm]
                    refine opsR_q rfl (q_assign) ?_
                    simp only [nrm]
                    refine opsR_nil ?_
                    refine hk34 _ _ ?_
                    clear hk34
                    refine run_ret ?_
                    exact end_tmp rfl rfl rfl ghA (eqK hK (congrArg Go.Value.bool (by first | (simp only [meetsOf, cmp_eq (by assumption)]; generalize r.Values[0]! = w0 at *; simp [*]; done) | (exfalso; omega))))
                · have ho36 := hc36; try simp only [spl] at hc36
                  simp only [nrm, Nat.reduceAdd, Nat.reduceMul, Nat.reduceSub, Int.reduceToNat, Int.reduceAdd]
                  refine opsR_skip rfl ?_
                  simp only [nrm, Nat.reduceAdd, Nat.reduceMul, Nat.reduceSub, Int.reduceToNat, Int.reduceAdd]
                  refine opsR_q rfl (q_pick_f rfl) ?_
                  simp only [nrm]
                  refine opsR_q rfl (q_move) ?_
                  simp only [nrm]
                  refine opsR_skip rfl ?_
                  simp only [nrm, Nat.reduceAdd, Nat.reduceMul, Nat.reduceSub, Int.reduceToNat, Int.reduceAdd]
                  refine opsR_skip rfl ?_
                  simp only [nrm, Nat.reduceAdd, Nat.reduceMul, Nat.reduceSub, Int.reduceToNat, Int.reduceAdd]
                  refine opsR_skip rfl ?_
                  simp only [nrm, Nat.reduceAdd, Nat.reduceMul, Nat.reduceSub, Int.reduceToNat, Int.reduceAdd]
                  refine opsR_q rfl (q_pick_f rfl) ?_
                  simp only [nrm]
                  refine opsR_q rfl (q_assign) ?_
                  simp only [nrm]
                  refine opsR_nil ?_
                  refine hk34 _ _ ?_
                  clear hk34
                  refine run_ret ?_
                  exact end_tmp rfl rfl rfl ghA (eqK hK (congrArg Go.Value.bool (by first | (simp only [meetsOf, cmp_eq (by assumption)]; generalize r.Values[0]! = w0 at *; simp [*]; done) | (exfalso; omega))))
              · have ho35 := hc35; try simp only [spl] at hc35
                simp only [nrm, Nat.reduceAdd, Nat.reduceMul, Nat.reduceSub, Int.reduceToNat, Int.reduceAdd]
                refine opsR_skip rfl ?_
                simp only [nrm, Nat.reduceAdd, Nat.reduceMul, Nat.reduceSub, Int.reduceToNat, Int.reduceAdd]
                refine opsR_q rfl (q_pick_f rfl) ?_
                simp only [nrm]
                refine opsR_q rfl (q_move) ?_
                simp only [nrm]
                refine opsR_skip rfl ?_
                simp only [nrm, Nat.reduceAdd, Nat.reduceMul, Nat.reduceSub, Int.reduceToNat, Int.reduceAdd]
                refine opsR_q rfl (q_pick_f rfl) ?_
                simp only [nrm]
                refine opsR_q rfl (q_move) ?_
                simp only [nrm]
                refine opsR_skip rfl ?_
                simp only [nrm, Nat.reduceAdd, Nat.reduceMul, Nat.reduceSub, Int.reduceToNat, Int.reduceAdd]
                refine opsR_skip rfl ?_
                simp only [nrm, Nat.reduceAdd, Nat.reduceMul, Nat.reduceSub, Int.reduceToNat, Int.reduceAdd]
                refine opsR_skip rfl ?_
                simp only [nrm, Nat.reduceAdd, Nat.reduceMul, Nat.reduceSub, Int.reduceToNat, Int.reduceAdd]
                refine opsR_q rfl (q_pick_f rfl) ?_
                simp only [nrm]
                refine opsR_q rfl (q_assign) ?_
                simp only [nrm]
                refine opsR_nil ?_
                refine hk34 _ _ ?_
                clear hk34
                refine run_ret ?_
                exact end_tmp rfl rfl rfl ghA (eqK hK (congrArg Go.Value.bool (by first | (simp only [meetsOf, cmp_eq (by assumption)]; generalize r.Values[0]! = w0 at *; simp [*]; done) | (exfalso; omega))))
          · have hc24 := ho24; try simp only [spl] at hc24
            refine run_region ?_
            refine opsR_q rfl (q_eql rfl rfl) ?_
            simp only [nrm, Nat.reduceAdd, Nat.reduceMul, Nat.reduceSub, Int.reduceToNat, Int.reduceAdd]
            refine opsR_q rfl (q_assign) ?_
            simp only [nrm]
            refine opsR_nil ?_
            refine hk22 _ _ ?_
            clear hk22
            refine run_cond rfl (fun ho38 => ?_) (fun ho38 => ?_)
            · have hc38 := ho38; try simp only [spl] at hc38
              refine run_seq fun _ hk39 => ?_
              refine run_seq fun _ hk40 => ?_
              refine run_region ?_
              refine opsR_q rfl (q_fieldAddr rfl) ?_
              simp only [nrm, Nat.reduceAdd, Nat.reduceMul, Nat.reduceSub, Int.reduceToNat, Int.reduceAdd]
              refine opsR_q rfl (q_loadB1 rfl inferInstance rfl) ?_
              simp only [nrm, Nat.reduceAdd, Nat.reduceMul, Nat.reduceSub, Int.reduceToNat, Int.reduceAdd]
              refine opsR_q rfl (q_len_v rfl (by first | exact Sl.len (by assumption) | exact OwnS.len (by assumption) | exact SlR.len (by assumption) | assumption)) ?_
              simp only [nrm, Nat.reduceAdd, Nat.reduceMul, Nat.reduceSub, Int.reduceToNat, Int.reduceAdd]
              refine opsR_q rfl (q_neq rfl rfl) ?_
              simp only [nrm, Nat.reduceAdd, Nat.reduceMul, Nat.reduceSub, Int.reduceToNat, Int.reduceAdd]
              refine opsR_nil ?_
              refine hk40 _ _ ?_
              clear hk40
              refine run_cond rfl (fun ho41 => ?_) (fun ho41 => ?_)
              · have hc41 := ho41; try simp only [spl] at hc41
                refine run_seq fun _ hk42 => ?_
                refine run_region ?_
                refine opsR_q rfl (q_assign) ?_
                simp only [nrm]
                refine opsR_nil ?_
                refine hk42 _ _ ?_
                clear hk42
                refine run_ret ?_
                exact end_tmp rfl rfl rfl ghA (eqK hK (congrArg Go.Value.bool (by first | (simp [meetsOf, cmp_no (by assumption), *]; done) | (exfalso; omega))))
              · have hc41 := ho41; try simp only [spl] at hc41
                refine run_skip ?_
                refine hk39 _ _ ?_
                clear hk39
                refine run_seq fun _ hk43 => ?_
                refine run_region ?_
                refine opsR_q rfl (q_move) ?_
                simp only [nrm]
                refine opsR_q rfl (q_call rfl (Whole_spec (dg := 15) (by decide) (by omega))) ?_
                simp only [nrm, Nat.reduceAdd, Nat.reduceMul, Nat.reduceSub, Int.reduceToNat, Int.reduceAdd]
                refine opsR_q rfl (q_move) ?_
                simp only [nrm]
                refine opsR_q rfl (q_extract rfl rfl) ?_
                simp only [nrm]
                refine opsR_q rfl (q_extract rfl rfl) ?_
                simp only [nrm]
                refine opsR_q rfl (q_assign) ?_
                simp only [nrm]
                refine opsR_q rfl (q_assign) ?_
                simp only [nrm]
                refine opsR_nil ?_
                refine hk43 _ _ ?_
                clear hk43
                refine run_seq fun _ hk44 => ?_
                refine run_region ?_
                refine opsR_q rfl (q_fieldAddr rfl) ?_
                simp only [nrm, Nat.reduceAdd, Nat.reduceMul, Nat.reduceSub, Int.reduceToNat, Int.reduceAdd]
                refine opsR_q rfl (q_loadB1 rfl inferInstance rfl) ?_
                simp only [nrm, Nat.reduceAdd, Nat.reduceMul, Nat.reduceSub, Int.reduceToNat, Int.reduceAdd]
                refine opsR_index rfl rfl rfl slrA (by rfl) idxA idxA fun b45 o45 cs45 ha45 hr45 he45 => ?_
                simp only [nrm, Nat.reduceAdd, Nat.reduceMul, Nat.reduceSub, Int.reduceToNat, Int.reduceAdd]
                try simp only [Int.toNat_natCast, Int.reduceToNat, Int.toNat_zero] at hr45
                try simp only [Int.toNat_natCast, Int.reduceToNat, Int.toNat_zero] at he45
                clear ha45
                obtain rfl := hr45
                refine opsR_q rfl (by first | exact q_load_at1 (i := 0) rfl (by first | assumption | exact El.mono (by assumption) leA) rfl (Nat.le_of_ble_eq_true rfl) rfl | exact q_load_at1 rfl (by first | assumption | exact El.mono (by assumption) leA) rfl (Nat.le_of_ble_eq_true rfl) rfl) ?_
                simp only [nrm, Nat.reduceAdd, Nat.reduceMul, Nat.reduceSub, Int.reduceToNat, Int.reduceAdd]
                have hz := hw _ (mem_get! (i := 0) (by omega))
                refine opsR_q rfl (q_call rfl (Whole_spec (dg := 15) (by decide) (by omega))) ?_
                simp only [nrm, Nat.reduceAdd, Nat.reduceMul, Nat.reduceSub, Int.reduceToNat, Int.reduceAdd]
                refine opsR_q rfl (q_move) ?_
                simp only [nrm]
                refine opsR_q rfl (q_extract rfl rfl) ?_
                simp only [nrm]
                refine opsR_q rfl (q_extract rfl rfl) ?_
                simp only [nrm]
                refine opsR_q rfl (q_assign) ?_
                simp only [nrm]
                refine opsR_q rfl (q_assign) ?_
                simp only [nrm]
                refine opsR_nil ?_
                refine hk44 _ _ ?_
                clear hk44
                refine run_seq fun _ hk46 => ?_
                refine run_seq fun _ hk47 => ?_
                refine run_region ?_
                refine opsR_q rfl (q_fieldAddr rfl) ?_
                simp only [nrm, Nat.reduceAdd, Nat.reduceMul, Nat.reduceSub, Int.reduceToNat, Int.reduceAdd]
                refine opsR_q rfl (q_loadB1 rfl inferInstance rfl) ?_
                simp only [nrm, Nat.reduceAdd, Nat.reduceMul, Nat.reduceSub, Int.reduceToNat, Int.reduceAdd]
                refine opsR_q rfl (q_eql rfl rfl) ?_
                simp only [nrm, Nat.reduceAdd, Nat.reduceMul, Nat.reduceSub, Int.reduceToNat, Int.reduceAdd]
                refine opsR_nil ?_
                refine hk47 _ _ ?_
                clear hk47
                refine run_cond rfl (fun h => by first | exact absurd h (by rw [ho24]; decide) | exact absurd ho24 (by rw [h]; decide)) (fun _ => ?_)
                refine run_skip ?_
                refine hk46 _ _ ?_
                clear hk46
                refine run_seq fun _ hk48 => ?_
                refine run_region ?_
                refine opsR_q rfl (q_move) ?_
                simp only [nrm]
                refine opsR_qb rfl (q_move) (fun hc49 => ?_) (fun hc49 => ?_)
                · have ho49 := hc49; try simp only [spl] at hc49
                  simp only [nrm, Nat.reduceAdd, Nat.reduceMul, Nat.reduceSub, Int.reduceToNat, Int.reduceAdd]
                  refine opsR_q rfl (q_move) ?_
                  simp only [nrm]
                  refine opsR_q rfl (q_pick_t rfl) ?_
                  simp only [nrm]
                  refine opsR_qb rfl (q_move) (fun hc50 => ?_) (fun hc50 => ?_)
                  · have ho50 := hc50; try simp only [spl] at hc50
                    simp only [nrm, Nat.reduceAdd, Nat.reduceMul, Nat.reduceSub, Int.reduceToNat, Int.reduceAdd]
                    refine opsR_q rfl (q_move) ?_
                    simp only [nrm]
                    refine opsR_q rfl (q_pick_t rfl) ?_
                    simp only [nrm]
                    refine opsR_qb rfl (q_move) (fun hc51 => ?_) (fun hc51 => ?_)
                    · have ho51 := hc51; try simp only [spl] at hc51
                      simp only [nrm, Nat.reduceAdd, Nat.reduceMul, Nat.reduceSub, Int.reduceToNat, Int.reduceAdd]
                      refine opsR_q rfl (q_move) ?_
                      simp only [nrm]
                      refine opsR_q rfl (q_move) ?_
                      simp only [nrm]
                      refine opsR_q rfl (q_lss rfl rfl) ?_
                      simp only [nrm, Nat.reduceAdd, Nat.reduceMul, Nat.reduceSub, Int.reduceToNat, Int.reduceAdd]
                      refine opsR_q rfl (q_pick_t rfl) ?_
                      simp only [nrm]
                      refine opsR_q rfl (q_assign) ?_
                      simp only [nrm]
                      refine opsR_nil ?_
                      refine hk48 _ _ ?_
                      clear hk48
                      refine run_ret ?_
                      exact end_tmp rfl rfl rfl ghA (eqK hK (congrArg Go.Value.bool (by first | (simp only [meetsOf, cmp_eq (by assumption)]; generalize r.Values[0]! = w0 at *; simp [*]; done) | (exfalso; omega))))
                    · have ho51 := hc51; try simp only [spl] at hc51
                      simp only [nrm, Nat.reduceAdd, Nat.reduceMul, Nat.reduceSub, Int.reduceToNat, Int.reduceAdd]
                      refine opsR_skip rfl ?_
                      simp only [nrm, Nat.reduceAdd, Nat.reduceMul, Nat.reduceSub, Int.reduceToNat, Int.reduceAdd]
                      refine opsR_skip rfl ?_
                      simp only [nrm, Nat.reduceAdd, Nat.reduceMul, Nat.reduceSub, Int.reduceToNat, Int.reduceAdd]
                      refine opsR_skip rfl ?_
                      simp only [nrm, Nat.reduceAdd, Nat.reduceMul, Nat.reduceSub, Int.reduceToNat, Int.reduceAdd]
                      refine opsR_q rfl (q_pick_f rfl) ?_
                      simp only [nrm]
                      refine opsR_q rfl (q_assign) ?_
                      simp only [nrm]
                      refine opsR_nil ?_
                      refine hk48 _ _ ?_
                      clear hk48
                      refine run_ret ?_
                      exact end_tmp rfl rfl rfl ghA (eqK hK (congrArg Go.Value.bool (by first | (simp only [meetsOf, cmp_eq (by assumption)]; generalize r.Values[0]! = w0 at *; simp [*]; done) | (exfalso; omega))))
                  · have ho50 := hc50; try simp only [spl] at hc50
                    simp only [nrm, Nat.reduceAdd, Nat.reduceMul, Nat.reduceSub, Int.reduceToNat, Int.reduceAdd]
                    refine opsR_skip rfl ?_
                    simp only [nrm, Nat.reduceAdd, Nat.reduceMul, Nat.reduceSub, Int.reduceToNat, Int.reduceAdd]
                    refine opsR_q rfl (q_pick_f rfl) ?_
                    simp only [nrm]
                    refine opsR_q rfl (q_move) ?_
                    simp only [nrm]
                    refine opsR_skip rfl ?_
                    simp only [nrm, Nat.reduceAdd, Nat.reduceMul, Nat.reduceSub, Int.reduceToNat, Int.reduceAdd]
                    refine opsR_skip rfl ?_
                    simp only [nrm, Nat.reduceAdd, Nat.reduceMul, Nat.reduceSub, Int.reduceToNat, Int.reduceAdd]
                    refine opsR_skip rfl ?_
                    simp only [nrm, Nat.reduceAdd, Nat.reduceMul, Nat.reduceSub, Int.reduceToNat, Int.reduceAdd]
                    refine opsR_q rfl (q_pick_f rfl) ?_
                    simp only [nrm]
                    refine opsR_q rfl (q_assign) ?_
                    simp only [nrm]
                    refine opsR_nil ?_
                    refine hk48 _ _ ?_
                    clear hk48
                    refine run_ret ?_
                    exact end_tmp rfl rfl rfl ghA (eqK hK (congrArg Go.Value.bool (by first | (simp only [meetsOf, cmp_eq (by assumption)]; generalize r.Values[0]! = w0 at *; simp [*]; done) | (exfalso; omega))))
                · have ho49 := hc49; try simp only [spl] at hc49
                  simp only [nrm, Nat.reduceAdd, Nat.reduceMul, Nat.reduceSub, Int.reduceToNat, Int.reduceAdd]
                  refine opsR_skip rfl ?_
                  simp only [nrm, Nat.reduceAdd, Nat.reduceMul, Nat.reduceSub, Int.reduceToNat, Int.reduceAdd]
                  refine opsR_q rfl (q_pick_f rfl) ?_
                  simp only [nrm]
                  refine opsR_q rfl (q_move) ?_
                  simp only [nrm]
                  refine opsR_skip rfl ?_
                  simp only [nrm, Nat.reduceAdd, Nat.reduceMul, Nat.reduceSub, Int.reduceToNat, Int.reduceAdd]
                  refine opsR_q rfl (q_pick_f rfl) ?_
                  simp only [nrm]
                  refine opsR_q rfl (q_move) ?_
                  simp only [nrm]
                  refine opsR_skip rfl ?_
                  simp only [nrm, Nat.reduceAdd, Nat.reduceMul, Nat.reduceSub, Int.reduceToNat, Int.reduceAdd]
                  refine opsR_skip rfl ?_
                  simp only [nrm, Nat.reduceAdd, Nat.reduceMul, Nat.reduceSub, Int.reduceToNat, Int.reduceAdd]
                  refine opsR_skip rfl ?_
                  simp only [nrm, Nat.reduceAdd, Nat.reduceMul, Nat.reduceSub, Int.reduceToNat, Int.reduceAdd]
                  refine opsR_q rfl (q_pick_f rfl) ?_
                  simp only [nrm]
                  refine opsR_q rfl (q_assign) ?_
                  simp only [nrm]
                  refine opsR_nil ?_
                  refine hk48 _ _ ?_
                  clear hk48
                  refine run_ret ?_
                  exact end_tmp rfl rfl rfl ghA (eqK hK (congrArg Go.Value.bool (by first | (simp only [meetsOf, cmp_eq (by assumption)]; generalize r.Values[0]! = w0 at *; simp [*]; done) | (exfalso; omega))))
            · have hc38 := ho38; try simp only [spl] at hc38
              refine run_skip ?_
              refine hk6 _ _ ?_
              clear hk6
              refine run_seq fun _ hk52 => ?_
              refine run_region ?_
              refine opsR_q rfl (q_assign) ?_
              simp only [nrm]
              refine opsR_nil ?_
              refine hk52 _ _ ?_
              clear hk52
              refine run_ret ?_
              first | exact end_tmp rfl rfl rfl ghA hK | exact end_tmp rfl rfl rfl ghA (eqK hK (congrArg Go.Value.bool (by first | (simp [meetsOf, in_somes, *]; done) | (exfalso; omega))))
theorem refMatch_spec {l : List Label} {rs : List Req} {v w : Value} {s : St} (hl : Sl kLabel s.I v l) (hr : Sl kReq s.I w rs) (hL : LabOk l) (hR : ReqsOk rs) :
    CallV Tryz.prog 31 #[v, w] s (.bool (matchOf l rs)) := by
  intro K hK
  have hle := hr.len.le
  refine callS_of_run Tryz.func31 rfl ?_; simp only [Tryz.ntmps31, List.size_toArray, List.length_cons, List.length_nil, Nat.reduceAdd, Nat.reduceSub, Array.replicate_succ, Array.replicate_zero, List.push_toArray, List.append_toArray, List.nil_append, List.cons_append]
  refine run_seq fun _ hk1 => ?_
  refine run_region ?_
  refine opsR_q rfl (q_assign) ?_
  simp only [nrm]
  refine opsR_nil ?_
  refine hk1 _ _ ?_
  clear hk1
  refine run_seq fun _ hk2 => ?_
  refine run_seq fun _ hk3 => ?_
  refine run_region ?_
  refine opsR_q rfl (q_assign) ?_
  simp only [nrm]
  refine opsR_nil ?_
  refine hk3 _ _ ?_
  clear hk3
  refine run_block ?_
  refine run_loopF [0, 0, 0, 0, 1, 2, 1, 1, 1, 1, 1, 1, 1, 1, 1, 1, 1, 1, 1] (fun zn zL zst => ∃ (i : Nat), zL = [.int .i64 (i : Nat)] ∧ s = zst ∧ zn = rs.length - i ∧ (i ≤ rs.length) ∧ (∀ j, j < i → meetsOf l rs[j]! = true)) _ _ ⟨0, rfl, rfl, rfl, by first | assumption | omega | exact Hp.le.rfl | rfl | exact all_zero | exact all_succ (by assumption) (by assumption) | (intro _; omega) | (simp; done), by first | assumption | omega | exact Hp.le.rfl | rfl | exact all_zero | exact all_succ (by assumption) (by assumption) | (intro _; omega) | (simp; done)⟩ rfl ?_
  rintro _ _ _ jv4 ⟨i, rfl, rfl, rfl, hi, hj⟩ K4 hkl4
  simp only [fr, Nat.zero_add, Nat.reduceAdd]
  refine run_seq fun _ hk5 => ?_
  refine run_seq fun _ hk6 => ?_
  refine run_region ?_
  refine opsR_q rfl (q_move) ?_
  simp only [nrm]
  refine opsR_q rfl (q_move) ?_
  simp only [nrm]
  refine opsR_q rfl (q_len_v rfl (by first | exact Sl.len (by assumption) | exact OwnS.len (by assumption) | exact SlR.len (by assumption) | assumption)) ?_
  simp only [nrm, Nat.reduceAdd, Nat.reduceMul, Nat.reduceSub, Int.reduceToNat, Int.reduceAdd]
  refine opsR_q rfl (q_lss rfl rfl) ?_
  simp only [nrm, Nat.reduceAdd, Nat.reduceMul, Nat.reduceSub, Int.reduceToNat, Int.reduceAdd]
  refine opsR_nil ?_
  refine hk6 _ _ ?_
  clear hk6
  refine run_cond rfl (fun ho9 => ?_) (fun ho9 => ?_)
  · have hc9 := ho9; try simp only [spl] at hc9
    refine run_skip ?_
    refine hk5 _ _ ?_
    clear hk5
    refine run_seq fun _ hk10 => ?_
    refine run_block ?_
    refine run_seq fun _ hk11 => ?_
    refine run_region ?_
    refine opsR_q rfl (q_move) ?_
    simp only [nrm]
    refine opsR_q rfl (q_move) ?_
    simp only [nrm]
    refine opsR_q rfl (q_move) ?_
    simp only [nrm]
    refine opsR_index rfl rfl rfl slrA (by rfl) idxA idxA fun b13 o13 cs13 ha13 hr13 he13 => ?_
    simp only [nrm, Nat.reduceAdd, Nat.reduceMul, Nat.reduceSub, Int.reduceToNat, Int.reduceAdd]
    try simp only [Int.toNat_natCast, Int.reduceToNat, Int.toNat_zero] at hr13
    try simp only [Int.toNat_natCast, Int.reduceToNat, Int.toNat_zero] at he13
    clear ha13
    obtain ⟨w13_Values, rfl, h13_Values⟩ := kReq.open hr13
    refine opsR_q rfl (by first | exact q_load_atW rfl (by first | assumption | exact El.mono (by assumption) leA) (by rfl) rfl | exact q_load_atN0 rfl (by first | assumption | exact El.mono (by assumption) leA) rfl rfl | exact q_load_atN rfl (by first | assumption | exact El.mono (by assumption) leA) rfl (Nat.le_of_ble_eq_true rfl) (Nat.le_of_ble_eq_true rfl)) ?_
    simp only [nrm, Nat.reduceAdd, Nat.reduceMul, Nat.reduceSub, Int.reduceToNat, Int.reduceAdd]
    refine opsR_q rfl (q_call rfl (refMeets_spec (by first | assumption | (refine Sl.mono ?_ (by assumption); exact leA)) (by assumption) (get_size hL) (hR _ (mem_get! (by omega))))) ?_
    simp only [nrm, Nat.reduceAdd, Nat.reduceMul, Nat.reduceSub, Int.reduceToNat, Int.reduceAdd]
    refine opsR_q rfl (q_not rfl) ?_
    simp only [nrm]
    refine opsR_nil ?_
    refine hk11 _ _ ?_
    clear hk11
    refine run_cond rfl (fun ho14 => ?_) (fun ho14 => ?_)
    · have hc14 := ho14; try simp only [spl] at hc14
      refine run_seq fun _ hk15 => ?_
      refine run_region ?_
      refine opsR_q rfl (q_assign) ?_
      simp only [nrm]
      refine opsR_nil ?_
      refine hk15 _ _ ?_
      clear hk15
      refine run_ret ?_
      exact end_tmp rfl rfl rfl ghA (eqK hK (congrArg Go.Value.bool (by exact all_at (p := meetsOf l) (j := i) (by omega) (by assumption))))
    · have hc14 := ho14; try simp only [spl] at hc14
      refine run_skip ?_
      refine hk10 _ _ ?_
      clear hk10
      refine run_region ?_
      refine opsR_q rfl (q_move) ?_
      simp only [nrm]
      refine opsR_q rfl (by first | exact q_add64 rfl rfl (by omega) (by omega) | exact q_add rfl rfl) ?_
      simp only [nrm, Nat.reduceAdd, Nat.reduceMul, Nat.reduceSub, Int.reduceToNat, Int.reduceAdd]
      refine opsR_q rfl (q_assign) ?_
      simp only [nrm]
      refine opsR_nil ?_
      first
      | exact hkl4 _ _ _ _ (by omega) ⟨i + 1, rfl, rfl, rfl, by first | omega | exact all_zero | exact all_succ hj (by assumption), by first | omega | exact all_zero | exact all_succ hj (by assumption)⟩ rfl
  · have hc9 := ho9; try simp only [spl] at hc9
    refine run_exit ?_
    refine hk2 _ _ ?_
    clear hk2
    refine run_seq fun _ hk16 => ?_
    refine run_region ?_
    refine opsR_q rfl (q_assign) ?_
    simp only [nrm]
    refine opsR_nil ?_
    refine hk16 _ _ ?_
    clear hk16
    refine run_ret ?_
    first | exact end_tmp rfl rfl rfl ghA hK | exact end_tmp rfl rfl rfl ghA (eqK hK (congrArg Go.Value.bool (by exact all_none (p := meetsOf l) (fun j h => hj j (by omega)))))
end
end Go.Proofs.YtcnbcblihepbmaaGreatDoor
