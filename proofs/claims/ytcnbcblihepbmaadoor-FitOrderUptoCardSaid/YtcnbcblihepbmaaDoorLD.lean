/- Package label and its reference: Match, and the reference's Meets. -/
import Derived.Test.YtcnbcblihepbmaaDoorLC
set_option autoImplicit false
set_option linter.unusedVariables false
set_option linter.unusedSimpArgs false
namespace Go.Proofs.YtcnbcblihepbmaaDoor
open Go Go.RowKit
/-- No text that is read as a number is too long. -/
def LabOk (l : List Label) : Prop := ∀ x ∈ l, x.Value.size ≤ 281474976710656
def ReqOk (r : Req) : Prop := ∀ w ∈ r.Values, w.size ≤ 281474976710656
def ReqsOk (l : List Req) : Prop := ∀ r ∈ l, ReqOk r
theorem get_size {l : List Label} {k : ByteArray} (h : LabOk l) : ∀ x, getOf l k = some x → x.size ≤ 281474976710656 := by
  intro v hv
  unfold getOf at hv
  obtain ⟨x, hx, rfl⟩ := Option.map_eq_some_iff.1 hv
  exact h x (List.mem_of_find?_eq_some hx)
theorem cmp_eq {g : Option ByteArray} {ws : List ByteArray} {f : Nat → Nat → Bool} (hw : (ws.length : Int) = 1) :
    cmpOf g ws f = (g.isSome && (whole 15 (g.getD ⟨#[]⟩).data.toList).isSome && (whole 15 ws[0]!.data.toList).isSome && f ((whole 15 (g.getD ⟨#[]⟩).data.toList).getD 0) ((whole 15 ws[0]!.data.toList).getD 0)) := by
  have e2 := one_get hw
  generalize ws[0]! = w at *
  subst e2
  cases g with
  | none => rfl
  | some d =>
    simp only [cmpOf, numOf, Option.getD_some, Option.isSome_some, Bool.true_and]
    cases h1 : whole 15 d.data.toList with
    | none => rfl
    | some n =>
      cases h2 : whole 15 w.data.toList with
      | none => rfl
      | some m => simp
theorem cmp_no {g : Option ByteArray} {ws : List ByteArray} {f : Nat → Nat → Bool} (hw : ¬ (ws.length : Int) = 1) : cmpOf g ws f = false := by
  match g, ws, hw with
  | none, _, _ => rfl
  | some d, [], _ => rfl
  | some d, [w], h => exact absurd rfl h
  | some d, _ :: _ :: _, _ => rfl
theorem in_somes {g : Option ByteArray} {ws : List ByteArray} : inOf g ws = (g.isSome && ws.any fun y => decide (g.getD ⟨#[]⟩ = y)) := by cases g <;> rfl
section
attribute [local irreducible] Quiet OpsR Run CallS opS Gh endQ oblE RunN swp cmpOf inOf numOf whole
theorem Match_spec {l : List Label} {rs : List Req} {v w : Value} {s : St} (hT : Tabs s.I) (hl : Sl kLabel s.I v l) (hr : Sl kReq s.I w rs) (hL : LabOk l) (hR : ReqsOk rs) :
    CallV Tryd.prog 37 #[v, w] s (.bool (matchOf l rs)) := by
  intro K hK
  have hle := hr.len.le
  refine callS_of_run Tryd.func37 rfl ?_; simp only [Tryd.ntmps37, List.size_toArray, List.length_cons, List.length_nil, Nat.reduceAdd, Nat.reduceSub, Array.replicate_succ, Array.replicate_zero, List.push_toArray, List.append_toArray, List.nil_append, List.cons_append]
  refine run_seq fun _ hk1 => ?_
  refine run_region ?_
  refine opsR_q rfl (q_assign) ?_
  simp only [nrm]
  refine opsR_nil ?_
  refine hk1 _ _ ?_
  clear hk1
  refine run_seq fun _ hk2 => ?_
  refine run_seq fun _ hk3 => ?_
  refine run_region ?_
  refine opsR_q rfl (q_move) ?_
  simp only [nrm]
  refine opsR_q rfl (q_len_v rfl (by first | exact Sl.len (by assumption) | exact OwnS.len (by assumption) | exact SlR.len (by assumption) | assumption)) ?_
  simp only [nrm, Nat.reduceAdd, Nat.reduceMul, Nat.reduceSub, Int.reduceToNat, Int.reduceAdd]
  refine opsR_q rfl (q_move) ?_
  simp only [nrm]
  refine opsR_nil ?_
  refine hk3 _ _ ?_
  clear hk3
  refine run_block ?_
  refine run_loopF [0, 0, 0, 0, 1, 0, 1, 0, 0, 2, 1, 1, 1, 1, 1, 1, 1, 1] (fun zn zL zst => ∃ (i : Nat), zL = [.int .i64 (i : Nat)] ∧ s = zst ∧ zn = rs.length - i ∧ (i ≤ rs.length) ∧ (∀ j, j < i → meetsOf l rs[j]! = true)) _ _ ⟨0, rfl, rfl, rfl, by first | assumption | omega | exact Hp.le.rfl | rfl | exact all_zero | exact all_succ (by assumption) (by assumption) | (intro _; omega) | (simp; done), by first | assumption | omega | exact Hp.le.rfl | rfl | exact all_zero | exact all_succ (by assumption) (by assumption) | (intro _; omega) | (simp; done)⟩ rfl ?_
  rintro _ _ _ jv5 ⟨i, rfl, rfl, rfl, hi, hj⟩ K5 hkl5
  simp only [fr, Nat.zero_add, Nat.reduceAdd]
  refine run_seq fun _ hk6 => ?_
  refine run_region ?_
  refine opsR_q rfl (q_lss rfl rfl) ?_
  simp only [nrm, Nat.reduceAdd, Nat.reduceMul, Nat.reduceSub, Int.reduceToNat, Int.reduceAdd]
  refine opsR_nil ?_
  refine hk6 _ _ ?_
  clear hk6
  refine run_seq fun _ hk9 => ?_
  refine run_cond rfl (fun ho10 => ?_) (fun ho10 => ?_)
  · have hc10 := ho10; try simp only [spl] at hc10
    refine run_skip ?_
    refine hk9 _ _ ?_
    clear hk9
    refine run_seq fun _ hk11 => ?_
    refine run_block ?_
    refine run_seq fun _ hk12 => ?_
    refine run_region ?_
    refine opsR_index rfl rfl rfl slrA (by rfl) idxA idxA fun b13 o13 cs13 ha13 hr13 he13 => ?_
    simp only [nrm, Nat.reduceAdd, Nat.reduceMul, Nat.reduceSub, Int.reduceToNat, Int.reduceAdd]
    try simp only [Int.toNat_natCast, Int.reduceToNat, Int.toNat_zero] at hr13
    try simp only [Int.toNat_natCast, Int.reduceToNat, Int.toNat_zero] at he13
    clear ha13
    obtain ⟨w13_Values, rfl, h13_Values⟩ := kReq.open hr13
    refine opsR_q rfl (by first | exact q_load_atW rfl (by first | assumption | exact El.mono (by assumption) leA) (by rfl) rfl | exact q_load_atN0 rfl (by first | assumption | exact El.mono (by assumption) leA) rfl rfl | exact q_load_atN rfl (by first | assumption | exact El.mono (by assumption) leA) rfl (Nat.le_of_ble_eq_true rfl) (Nat.le_of_ble_eq_true rfl)) ?_
    simp only [nrm, Nat.reduceAdd, Nat.reduceMul, Nat.reduceSub, Int.reduceToNat, Int.reduceAdd]
    refine opsR_o rfl (o_alloc fun b15 hb15 => ?_)
    simp only [nrm, Nat.reduceAdd, Nat.reduceMul, Nat.reduceSub, Int.reduceToNat, Int.reduceAdd]
    refine opsR_o rfl (o_storeB rfl rfl inferInstance (by first | rfl | assumption) (by first | rfl | exact Kd.one _ (by assumption) | assumption) (by first | rfl | (refine Nat.ble_eq_true_of_le ?_; (try simp only [Int.toNat_natCast]); omega)) ?_)
    simp only [nrm, Nat.reduceAdd, Nat.reduceMul, Nat.reduceSub, Int.reduceToNat, Int.reduceAdd]
    refine opsR_nil ?_
    refine hk12 _ _ ?_
    clear hk12
    refine run_seq fun _ hk16 => ?_
    refine run_region ?_
    refine opsR_q rfl (q_move) ?_
    simp only [nrm]
    refine opsR_q rfl (by first | exact q_loadBN rfl inferInstance (by rfl) | exact q_loadBW rfl inferInstance (by assumption)) ?_
    simp only [nrm, Nat.reduceAdd, Nat.reduceMul, Nat.reduceSub, Int.reduceToNat, Int.reduceAdd]
    refine opsR_q rfl (q_call rfl (Meets_spec (by exact hT) (by first | assumption | (refine Sl.mono ?_ (by assumption); exact leA)) (by assumption) (get_size hL) (hR _ (mem_get! (by omega))))) ?_
    simp only [nrm, Nat.reduceAdd, Nat.reduceMul, Nat.reduceSub, Int.reduceToNat, Int.reduceAdd]
    refine opsR_q rfl (q_not rfl) ?_
    simp only [nrm]
    refine opsR_nil ?_
    refine hk16 _ _ ?_
    clear hk16
    refine run_cond rfl (fun ho19 => ?_) (fun ho19 => ?_)
    · have hc19 := ho19; try simp only [spl] at hc19
      refine run_seq fun _ hk20 => ?_
      refine run_region ?_
      refine opsR_q rfl (q_assign) ?_
      simp only [nrm]
      refine opsR_nil ?_
      refine hk20 _ _ ?_
      clear hk20
      refine run_ret ?_
      exact end_tmp rfl rfl rfl ghA (eqK hK (congrArg Go.Value.bool (by exact all_at (p := meetsOf l) (j := i) (by omega) (by assumption))))
    · have hc19 := ho19; try simp only [spl] at hc19
      refine run_skip ?_
      refine hk11 _ _ ?_
      clear hk11
      refine run_gh Gh.drop ?_
      refine run_region ?_
      refine opsR_q rfl (by first | exact q_add64 rfl rfl (by omega) (by omega) | exact q_add rfl rfl) ?_
      simp only [nrm, Nat.reduceAdd, Nat.reduceMul, Nat.reduceSub, Int.reduceToNat, Int.reduceAdd]
      refine opsR_q rfl (q_move) ?_
      simp only [nrm]
      refine opsR_nil ?_
      first
      | exact hkl5 _ _ _ _ (by omega) ⟨i + 1, rfl, rfl, rfl, by first | omega | exact all_zero | exact all_succ hj (by assumption), by first | omega | exact all_zero | exact all_succ hj (by assumption)⟩ rfl
  · have hc10 := ho10; try simp only [spl] at hc10
    refine run_exit ?_
    refine hk2 _ _ ?_
    clear hk2
    refine run_seq fun _ hk21 => ?_
    refine run_region ?_
    refine opsR_q rfl (q_assign) ?_
    simp only [nrm]
    refine opsR_nil ?_
    refine hk21 _ _ ?_
    clear hk21
    refine run_ret ?_
    first | exact end_tmp rfl rfl rfl ghA hK | exact end_tmp rfl rfl rfl ghA (eqK hK (congrArg Go.Value.bool (by exact all_none (p := meetsOf l) (fun j h => hj j (by omega)))))
end
end Go.Proofs.YtcnbcblihepbmaaDoor
