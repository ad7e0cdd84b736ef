/- Package taint and its reference: what is judged, kept off and shied at; the law's example. -/
import Derived.Test.YtgeidcdelpenjaaDoorTA3
set_option autoImplicit false
set_option linter.unusedVariables false
set_option linter.unusedSimpArgs false
namespace Go.Proofs.YtgeidcdelpenjaaDoor
open Go Go.RowKit
attribute [local irreducible] Quiet OpsR Run CallS opS Gh endQ oblE RunN swp Go.Op.equalIn
section
variable {l : List Taint} {i : Nat}
theorem badT_pair {k : Nat} (h : k < i) (hi : i < l.length) (h1 : l[k]!.Key = l[i]!.Key) (h2 : l[k]!.Effect = l[i]!.Effect) : badT l i = true := by
  have : ((l.take i).any fun o => sortEq o l[i]!) = true := any_at (j := k) (by rw [List.length_take]; omega) (by rw [get!_take h (by omega)]; exact decide_eq_true (by rw [sortOf, sortOf, h1, h2]))
  rw [badT, this]; rfl
theorem badT_none (hi : i < l.length) (h : ∀ k, k < i → ¬ (l[k]!.Key = l[i]!.Key ∧ l[k]!.Effect = l[i]!.Effect)) (h2 : taintOk l[i]! = true) : badT l i = false := by
  have : ((l.take i).any fun o => sortEq o l[i]!) = false := any_none fun j hj => by
    rw [List.length_take] at hj
    rw [get!_take (by omega) (by omega)]
    refine decide_eq_false fun e => h j (by omega) ?_
    simp only [sortOf, TaintSort.mk.injEq] at e
    exact e
  rw [badT, this, h2]; rfl
end
set_option maxHeartbeats 2000000 in
theorem refCheck_spec {l : List Taint} {v : Value} {s : St} (hl : Sl kTaint s.I v l) (ok : ∀ x ∈ l, kTaint.ok x) : CallV Tryd.prog 10 #[v] s (.int .i64 (checkOf l)) := by
  intro K hK
  refine callS_of_run Tryd.func10 rfl ?_; simp only [Tryd.ntmps10, List.size_toArray, List.length_cons, List.length_nil, Nat.reduceAdd, Nat.reduceSub, Array.replicate_succ, Array.replicate_zero, List.push_toArray, List.append_toArray, List.nil_append, List.cons_append]
  refine run_seq fun _ hk1 => ?_
  refine run_region ?_
  refine opsR_q rfl (q_assign) ?_
  simp only [nrm, Nat.reduceAdd, Nat.reduceMul, Nat.reduceSub, Int.reduceToNat, Int.reduceAdd]
  refine opsR_nil ?_
  refine hk1 _ _ ?_
  clear hk1
  refine run_seq fun _ hk2 => ?_
  refine run_seq fun _ hk3 => ?_
  refine run_region ?_
  refine opsR_q rfl (q_move) ?_
  simp only [nrm, Nat.reduceAdd, Nat.reduceMul, Nat.reduceSub, Int.reduceToNat, Int.reduceAdd]
  refine opsR_q rfl (q_len_v rfl (by first | exact Sl.len (by assumption) | exact OwnS.len (by assumption) | exact SlR.len (by assumption) | assumption)) ?_
  simp only [nrm, Nat.reduceAdd, Nat.reduceMul, Nat.reduceSub, Int.reduceToNat, Int.reduceAdd]
  refine opsR_q rfl (q_gtr rfl rfl) ?_
  simp only [nrm, Nat.reduceAdd, Nat.reduceMul, Nat.reduceSub, Int.reduceToNat, Int.reduceAdd]
  refine opsR_nil ?_
  refine hk3 _ _ ?_
  clear hk3
  refine run_cond rfl (fun ho5 => ?_) (fun ho5 => ?_)
  · have hc5 := ho5; try simp only [spl] at hc5
    refine run_seq fun _ hk6 => ?_
    refine run_region ?_
    refine opsR_q rfl (q_assign) ?_
    simp only [nrm, Nat.reduceAdd, Nat.reduceMul, Nat.reduceSub, Int.reduceToNat, Int.reduceAdd]
    refine opsR_nil ?_
    refine hk6 _ _ ?_
    clear hk6
    refine run_ret ?_
    exact end_tmp rfl rfl rfl (by first | exact .refl | exact .drop | exact .drop2 | exact .drop3 | exact .drop4 | exact Gh.drop.trans .drop4 | exact Gh.drop2.trans .drop4 | exact Gh.drop3.trans .drop4) (eqK hK (congrArg (Go.Value.int .i64) (by exact check_long (by omega))))
  · have hc5 := ho5; try simp only [spl] at hc5
    refine run_skip ?_
    refine hk2 _ _ ?_
    clear hk2
    refine run_seq fun _ hk7 => ?_
    refine run_seq fun _ hk8 => ?_
    refine run_region ?_
    refine opsR_q rfl (q_assign) ?_
    simp only [nrm, Nat.reduceAdd, Nat.reduceMul, Nat.reduceSub, Int.reduceToNat, Int.reduceAdd]
    refine opsR_nil ?_
    refine hk8 _ _ ?_
    clear hk8
    refine run_block ?_
    refine run_loopF [0, 0, 1, 2, 2, 0, 0, 0, 1, 1, 1, 1, 1, 1, 1, 1, 1, 1, 1, 1, 1, 1, 1, 1, 1, 1, 1, 1, 1, 1, 1, 1, 1, 1, 1, 1, 1, 1, 1, 1, 1, 1, 1, 1, 1, 1, 1, 1, 1, 1, 1, 1, 1, 1, 1, 1, 1, 1, 1, 1, 1, 1, 1, 1, 1, 1, 1, 1, 1, 1, 1, 1, 1, 1, 1] (fun zn zL zst => ∃ (i : Nat) (z4 : Value), zL = [.int .i64 (i : Nat), z4] ∧ s = zst ∧ zn = l.length - i ∧ (i ≤ l.length) ∧ (∀ j, j < i → badT l j = false)) _ _ ⟨0, _, rfl, rfl, rfl, by first | assumption | omega | exact Hp.le.rfl | rfl | exact all_zero | exact all_succ (by assumption) (by assumption) | (simp; done), by first | assumption | omega | exact Hp.le.rfl | rfl | exact all_zero | exact all_succ (by assumption) (by assumption) | (simp; done)⟩ rfl ?_
    rintro _ _ _ jv9 ⟨i, z4, rfl, rfl, rfl, hi, hj⟩ K9 hkl9
    simp only [fr, Nat.zero_add, Nat.reduceAdd]
    have hsz := fun h => taint_sizes (ok l[i]! (mem_get! (h : i < l.length)))
    refine run_seq fun _ hk10 => ?_
    refine run_seq fun _ hk11 => ?_
    refine run_region ?_
    refine opsR_q rfl (q_move) ?_
    simp only [nrm, Nat.reduceAdd, Nat.reduceMul, Nat.reduceSub, Int.reduceToNat, Int.reduceAdd]
    refine opsR_q rfl (q_move) ?_
    simp only [nrm, Nat.reduceAdd, Nat.reduceMul, Nat.reduceSub, Int.reduceToNat, Int.reduceAdd]
    refine opsR_q rfl (q_len_v rfl (by first | exact Sl.len (by assumption) | exact OwnS.len (by assumption) | exact SlR.len (by assumption) | assumption)) ?_
    simp only [nrm, Nat.reduceAdd, Nat.reduceMul, Nat.reduceSub, Int.reduceToNat, Int.reduceAdd]
    refine opsR_q rfl (q_lss rfl rfl) ?_
    simp only [nrm, Nat.reduceAdd, Nat.reduceMul, Nat.reduceSub, Int.reduceToNat, Int.reduceAdd]
    refine opsR_nil ?_
    refine hk11 _ _ ?_
    clear hk11
    refine run_cond rfl (fun ho14 => ?_) (fun ho14 => ?_)
    · have hc14 := ho14; try simp only [spl] at hc14
      refine run_skip ?_
      refine hk10 _ _ ?_
      clear hk10
      refine run_seq fun _ hk15 => ?_
      refine run_block ?_
      refine run_seq fun _ hk16 => ?_
      refine run_seq fun _ hk17 => ?_
      obtain ⟨hz1, hz2⟩ := hsz (by omega)
      refine run_region ?_
      refine opsR_q rfl (q_move) ?_
      simp only [nrm, Nat.reduceAdd, Nat.reduceMul, Nat.reduceSub, Int.reduceToNat, Int.reduceAdd]
      refine opsR_q rfl (q_move) ?_
      simp only [nrm, Nat.reduceAdd, Nat.reduceMul, Nat.reduceSub, Int.reduceToNat, Int.reduceAdd]
      refine opsR_index rfl rfl rfl (by first | exact Sl.r (by assumption) (by first | exact .rfl | assumption | exact le2 (by assumption) (by assumption) | exact le3 (by assumption) (by assumption) (by assumption) | exact le4 (by assumption) (by assumption) (by assumption) (by assumption) | exact le5 (by assumption) (by assumption) (by assumption) (by assumption) (by assumption) | exact le6 (by assumption) (by assumption) (by assumption) (by assumption) (by assumption) (by assumption)) | (refine OwnS.r (OwnS.mono ?_ (by assumption)) (by intro p hp; simp only [List.mem_append, List.mem_cons, hp, true_or, or_true]); first | exact .rfl | assumption | exact le2 (by assumption) (by assumption) | exact le3 (by assumption) (by assumption) (by assumption) | exact le4 (by assumption) (by assumption) (by assumption) (by assumption) | exact le5 (by assumption) (by assumption) (by assumption) (by assumption) (by assumption) | exact le6 (by assumption) (by assumption) (by assumption) (by assumption) (by assumption) (by assumption)) | assumption) (by rfl) (by first | omega | ((try simp only [List.length_append, List.length_cons, List.length_nil, List.length_set, List.length_replicate, List.length_take, List.length_drop, List.length_map] at *); omega)) (by first | omega | ((try simp only [List.length_append, List.length_cons, List.length_nil, List.length_set, List.length_replicate, List.length_take, List.length_drop, List.length_map] at *); omega)) fun b18 o18 cs18 ha18 hr18 he18 => ?_
      simp only [nrm, Nat.reduceAdd, Nat.reduceMul, Nat.reduceSub, Int.reduceToNat, Int.reduceAdd]
      try simp only [Int.toNat_natCast, Int.reduceToNat, Int.toNat_zero] at hr18
      try simp only [Int.toNat_natCast, Int.reduceToNat, Int.toNat_zero] at he18
      clear ha18
      obtain rfl := kTaint.open hr18
      refine opsR_q rfl (q_fieldAddr rfl) ?_
      simp only [nrm, Nat.reduceAdd, Nat.reduceMul, Nat.reduceSub, Int.reduceToNat, Int.reduceAdd]
      refine opsR_q rfl (by first | exact q_load_at1 (i := 0) rfl (by assumption) rfl (Nat.le_of_ble_eq_true rfl) rfl | exact q_load_at1 rfl (by assumption) rfl (Nat.le_of_ble_eq_true rfl) rfl) ?_
      simp only [nrm, Nat.reduceAdd, Nat.reduceMul, Nat.reduceSub, Int.reduceToNat, Int.reduceAdd]
      refine opsR_q rfl (q_call rfl (refWord_spec (by omega))) ?_
      simp only [nrm, Nat.reduceAdd, Nat.reduceMul, Nat.reduceSub, Int.reduceToNat, Int.reduceAdd]
      refine opsR_q rfl (q_not rfl) ?_
      simp only [nrm, Nat.reduceAdd, Nat.reduceMul, Nat.reduceSub, Int.reduceToNat, Int.reduceAdd]
      refine opsR_qb rfl (q_move) (fun hc19 => ?_) (fun hc19 => ?_)
      · have ho19 := hc19; try simp only [spl] at hc19
        simp only [nrm, Nat.reduceAdd, Nat.reduceMul, Nat.reduceSub, Int.reduceToNat, Int.reduceAdd]
        refine opsR_skip rfl ?_
        simp only [nrm, Nat.reduceAdd, Nat.reduceMul, Nat.reduceSub, Int.reduceToNat, Int.reduceAdd]
        refine opsR_skip rfl ?_
        simp only [nrm, Nat.reduceAdd, Nat.reduceMul, Nat.reduceSub, Int.reduceToNat, Int.reduceAdd]
        refine opsR_skip rfl ?_
        simp only [nrm, Nat.reduceAdd, Nat.reduceMul, Nat.reduceSub, Int.reduceToNat, Int.reduceAdd]
        refine opsR_skip rfl ?_
        simp only [nrm, Nat.reduceAdd, Nat.reduceMul, Nat.reduceSub, Int.reduceToNat, Int.reduceAdd]
        refine opsR_skip rfl ?_
        simp only [nrm, Nat.reduceAdd, Nat.reduceMul, Nat.reduceSub, Int.reduceToNat, Int.reduceAdd]
        refine opsR_skip rfl ?_
        simp only [nrm, Nat.reduceAdd, Nat.reduceMul, Nat.reduceSub, Int.reduceToNat, Int.reduceAdd]
        refine opsR_skip rfl ?_
        simp only [nrm, Nat.reduceAdd, Nat.reduceMul, Nat.reduceSub, Int.reduceToNat, Int.reduceAdd]
        refine opsR_q rfl (q_pick_t rfl) ?_
        simp only [nrm, Nat.reduceAdd, Nat.reduceMul, Nat.reduceSub, Int.reduceToNat, Int.reduceAdd]
        refine opsR_q rfl (q_move) ?_
        simp only [nrm, Nat.reduceAdd, Nat.reduceMul, Nat.reduceSub, Int.reduceToNat, Int.reduceAdd]
        refine opsR_skip rfl ?_
        simp only [nrm, Nat.reduceAdd, Nat.reduceMul, Nat.reduceSub, Int.reduceToNat, Int.reduceAdd]
        refine opsR_skip rfl ?_
        simp only [nrm, Nat.reduceAdd, Nat.reduceMul, Nat.reduceSub, Int.reduceToNat, Int.reduceAdd]
        refine opsR_skip rfl ?_
        simp only [nrm, Nat.reduceAdd, Nat.reduceMul, Nat.reduceSub, Int.reduceToNat, Int.reduceAdd]
        refine opsR_skip rfl ?_
        simp only [nrm, Nat.reduceAdd, Nat.reduceMul, Nat.reduceSub, Int.reduceToNat, Int.reduceAdd]
        refine opsR_skip rfl ?_
        simp only [nrm, Nat.reduceAdd, Nat.reduceMul, Nat.reduceSub, Int.reduceToNat, Int.reduceAdd]
        refine opsR_skip rfl ?_
        simp only [nrm, Nat.reduceAdd, Nat.reduceMul, Nat.reduceSub, Int.reduceToNat, Int.reduceAdd]
        refine opsR_skip rfl ?_
        simp only [nrm, Nat.reduceAdd, Nat.reduceMul, Nat.reduceSub, Int.reduceToNat, Int.reduceAdd]
        refine opsR_skip rfl ?_
        simp only [nrm, Nat.reduceAdd, Nat.reduceMul, Nat.reduceSub, Int.reduceToNat, Int.reduceAdd]
        refine opsR_skip rfl ?_
        simp only [nrm, Nat.reduceAdd, Nat.reduceMul, Nat.reduceSub, Int.reduceToNat, Int.reduceAdd]
        refine opsR_skip rfl ?_
        simp only [nrm, Nat.reduceAdd, Nat.reduceMul, Nat.reduceSub, Int.reduceToNat, Int.reduceAdd]
        refine opsR_skip rfl ?_
        simp only [nrm, Nat.reduceAdd, Nat.reduceMul, Nat.reduceSub, Int.reduceToNat, Int.reduceAdd]
        refine opsR_skip rfl ?_
        simp only [nrm, Nat.reduceAdd, Nat.reduceMul, Nat.reduceSub, Int.reduceToNat, Int.reduceAdd]
        refine opsR_skip rfl ?_
        simp only [nrm, Nat.reduceAdd, Nat.reduceMul, Nat.reduceSub, Int.reduceToNat, Int.reduceAdd]
        refine opsR_skip rfl ?_
        simp only [nrm, Nat.reduceAdd, Nat.reduceMul, Nat.reduceSub, Int.reduceToNat, Int.reduceAdd]
        refine opsR_q rfl (q_pick_t rfl) ?_
        simp only [nrm, Nat.reduceAdd, Nat.reduceMul, Nat.reduceSub, Int.reduceToNat, Int.reduceAdd]
        refine opsR_nil ?_
        refine hk17 _ _ ?_
        clear hk17
        refine run_cond (t := true) rfl (fun _ => ?_) (fun h => by cases h)
        refine run_seq fun _ hk20 => ?_
        refine run_region ?_
        refine opsR_q rfl (q_assign) ?_
        simp only [nrm, Nat.reduceAdd, Nat.reduceMul, Nat.reduceSub, Int.reduceToNat, Int.reduceAdd]
        refine opsR_nil ?_
        refine hk20 _ _ ?_
        clear hk20
        refine run_ret ?_
        exact end_tmp rfl rfl rfl (by first | exact .refl | exact .drop | exact .drop2 | exact .drop3 | exact .drop4 | exact Gh.drop.trans .drop4 | exact Gh.drop2.trans .drop4 | exact Gh.drop3.trans .drop4) (eqK hK (congrArg (Go.Value.int .i64) (by exact check_bad (i := i) (by omega) (by omega) (by first | exact badT_ok (tok_word (by assumption)) | exact badT_ok (tok_val (by assumption)) | exact badT_ok (tok_eff (by assumption) (by assumption))))))
      · have ho19 := hc19; try simp only [spl] at hc19
        simp only [nrm, Nat.reduceAdd, Nat.reduceMul, Nat.reduceSub, Int.reduceToNat, Int.reduceAdd]
        refine opsR_q rfl (q_move) ?_
        simp only [nrm, Nat.reduceAdd, Nat.reduceMul, Nat.reduceSub, Int.reduceToNat, Int.reduceAdd]
        refine opsR_q rfl (q_move) ?_
        simp only [nrm, Nat.reduceAdd, Nat.reduceMul, Nat.reduceSub, Int.reduceToNat, Int.reduceAdd]
        refine opsR_index rfl rfl rfl (by first | exact Sl.r (by assumption) (by first | exact .rfl | assumption | exact le2 (by assumption) (by assumption) | exact le3 (by assumption) (by assumption) (by assumption) | exact le4 (by assumption) (by assumption) (by assumption) (by assumption) | exact le5 (by assumption) (by assumption) (by assumption) (by assumption) (by assumption) | exact le6 (by assumption) (by assumption) (by assumption) (by assumption) (by assumption) (by assumption)) | (refine OwnS.r (OwnS.mono ?_ (by assumption)) (by intro p hp; simp only [List.mem_append, List.mem_cons, hp, true_or, or_true]); first | exact .rfl | assumption | exact le2 (by assumption) (by assumption) | exact le3 (by assumption) (by assumption) (by assumption) | exact le4 (by assumption) (by assumption) (by assumption) (by assumption) | exact le5 (by assumption) (by assumption) (by assumption) (by assumption) (by assumption) | exact le6 (by assumption) (by assumption) (by assumption) (by assumption) (by assumption) (by assumption)) | assumption) (by rfl) (by first | omega | ((try simp only [List.length_append, List.length_cons, List.length_nil, List.length_set, List.length_replicate, List.length_take, List.length_drop, List.length_map] at *); omega)) (by first | omega | ((try simp only [List.length_append, List.length_cons, List.length_nil, List.length_set, List.length_replicate, List.length_take, List.length_drop, List.length_map] at *); omega)) fun b21 o21 cs21 ha21 hr21 he21 => ?_
        simp only [nrm, Nat.reduceAdd, Nat.reduceMul, Nat.reduceSub, Int.reduceToNat, Int.reduceAdd]
        try simp only [Int.toNat_natCast, Int.reduceToNat, Int.toNat_zero] at hr21
        try simp only [Int.toNat_natCast, Int.reduceToNat, Int.toNat_zero] at he21
        clear ha21
        obtain rfl := kTaint.open hr21
        refine opsR_q rfl (q_fieldAddr rfl) ?_
        simp only [nrm, Nat.reduceAdd, Nat.reduceMul, Nat.reduceSub, Int.reduceToNat, Int.reduceAdd]
        refine opsR_q rfl (by first | exact q_load_at1 (i := 0) rfl (by assumption) rfl (Nat.le_of_ble_eq_true rfl) rfl | exact q_load_at1 rfl (by assumption) rfl (Nat.le_of_ble_eq_true rfl) rfl) ?_
        simp only [nrm, Nat.reduceAdd, Nat.reduceMul, Nat.reduceSub, Int.reduceToNat, Int.reduceAdd]
        refine opsR_q rfl (q_call rfl (refValue_spec (by omega))) ?_
        simp only [nrm, Nat.reduceAdd, Nat.reduceMul, Nat.reduceSub, Int.reduceToNat, Int.reduceAdd]
        refine opsR_q rfl (q_not rfl) ?_
        simp only [nrm, Nat.reduceAdd, Nat.reduceMul, Nat.reduceSub, Int.reduceToNat, Int.reduceAdd]
        refine opsR_q rfl (q_pick_f rfl) ?_
        simp only [nrm, Nat.reduceAdd, Nat.reduceMul, Nat.reduceSub, Int.reduceToNat, Int.reduceAdd]
        refine opsR_qb rfl (q_move) (fun hc22 => ?_) (fun hc22 => ?_)
        · have ho22 := hc22; try simp only [spl] at hc22
          simp only [nrm, Nat.reduceAdd, Nat.reduceMul, Nat.reduceSub, Int.reduceToNat, Int.reduceAdd]
          refine opsR_skip rfl ?_
          simp only [nrm, Nat.reduceAdd, Nat.reduceMul, Nat.reduceSub, Int.reduceToNat, Int.reduceAdd]
          refine opsR_skip rfl ?_
          simp only [nrm, Nat.reduceAdd, Nat.reduceMul, Nat.reduceSub, Int.reduceToNat, Int.reduceAdd]
          refine opsR_skip rfl ?_
          simp only [nrm, Nat.reduceAdd, Nat.reduceMul, Nat.reduceSub, Int.reduceToNat, Int.reduceAdd]
          refine opsR_skip rfl ?_
          simp only [nrm, Nat.reduceAdd, Nat.reduceMul, Nat.reduceSub, Int.reduceToNat, Int.reduceAdd]
          refine opsR_skip rfl ?_
          simp only [nrm, Nat.reduceAdd, Nat.reduceMul, Nat.reduceSub, Int.reduceToNat, Int.reduceAdd]
          refine opsR_skip rfl ?_
          simp only [nrm, Nat.reduceAdd, Nat.reduceMul, Nat.reduceSub, Int.reduceToNat, Int.reduceAdd]
          refine opsR_skip rfl ?_
          simp only [nrm, Nat.reduceAdd, Nat.reduceMul, Nat.reduceSub, Int.reduceToNat, Int.reduceAdd]
          refine opsR_skip rfl ?_
          simp only [nrm, Nat.reduceAdd, Nat.reduceMul, Nat.reduceSub, Int.reduceToNat, Int.reduceAdd]
          refine opsR_skip rfl ?_
          simp only [nrm, Nat.reduceAdd, Nat.reduceMul, Nat.reduceSub, Int.reduceToNat, Int.reduceAdd]
          refine opsR_skip rfl ?_
          simp only [nrm, Nat.reduceAdd, Nat.reduceMul, Nat.reduceSub, Int.reduceToNat, Int.reduceAdd]
          refine opsR_skip rfl ?_
          simp only [nrm, Nat.reduceAdd, Nat.reduceMul, Nat.reduceSub, Int.reduceToNat, Int.reduceAdd]
          refine opsR_skip rfl ?_
          simp only [nrm, Nat.reduceAdd, Nat.reduceMul, Nat.reduceSub, Int.reduceToNat, Int.reduceAdd]
          refine opsR_skip rfl ?_
          simp only [nrm, Nat.reduceAdd, Nat.reduceMul, Nat.reduceSub, Int.reduceToNat, Int.reduceAdd]
          refine opsR_skip rfl ?_
          simp only [nrm, Nat.reduceAdd, Nat.reduceMul, Nat.reduceSub, Int.reduceToNat, Int.reduceAdd]
          refine opsR_q rfl (q_pick_t rfl) ?_
          simp only [nrm, Nat.reduceAdd, Nat.reduceMul, Nat.reduceSub, Int.reduceToNat, Int.reduceAdd]
          refine opsR_nil ?_
          refine hk17 _ _ ?_
          clear hk17
          refine run_cond (t := true) rfl (fun _ => ?_) (fun h => by cases h)
          refine run_seq fun _ hk23 => ?_
          refine run_region ?_
          refine opsR_q rfl (q_assign) ?_
          simp only [nrm, Nat.reduceAdd, Nat.reduceMul, Nat.reduceSub, Int.reduceToNat, Int.reduceAdd]
          refine opsR_nil ?_
          refine hk23 _ _ ?_
          clear hk23
          refine run_ret ?_
          exact end_tmp rfl rfl rfl (by first | exact .refl | exact .drop | exact .drop2 | exact .drop3 | exact .drop4 | exact Gh.drop.trans .drop4 | exact Gh.drop2.trans .drop4 | exact Gh.drop3.trans .drop4) (eqK hK (congrArg (Go.Value.int .i64) (by exact check_bad (i := i) (by omega) (by omega) (by first | exact badT_ok (tok_word (by assumption)) | exact badT_ok (tok_val (by assumption)) | exact badT_ok (tok_eff (by assumption) (by assumption))))))
        · have ho22 := hc22; try simp only [spl] at hc22
          simp only [nrm, Nat.reduceAdd, Nat.reduceMul, Nat.reduceSub, Int.reduceToNat, Int.reduceAdd]
          refine opsR_q rfl (q_move) ?_
          simp only [nrm, Nat.reduceAdd, Nat.reduceMul, Nat.reduceSub, Int.reduceToNat, Int.reduceAdd]
          refine opsR_q rfl (q_move) ?_
          simp only [nrm, Nat.reduceAdd, Nat.reduceMul, Nat.reduceSub, Int.reduceToNat, Int.reduceAdd]
          refine opsR_index rfl rfl rfl (by first | exact Sl.r (by assumption) (by first | exact .rfl | assumption | exact le2 (by assumption) (by assumption) | exact le3 (by assumption) (by assumption) (by assumption) | exact le4 (by assumption) (by assumption) (by assumption) (by assumption) | exact le5 (by assumption) (by assumption) (by assumption) (by assumption) (by assumption) | exact le6 (by assumption) (by assumption) (by assumption) (by assumption) (by assumption) (by assumption)) | (refine OwnS.r (OwnS.mono ?_ (by assumption)) (by intro p hp; simp only [List.mem_append, List.mem_cons, hp, true_or, or_true]); first | exact .rfl | assumption | exact le2 (by assumption) (by assumption) | exact le3 (by assumption) (by assumption) (by assumption) | exact le4 (by assumption) (by assumption) (by assumption) (by assumption) | exact le5 (by assumption) (by assumption) (by assumption) (by assumption) (by assumption) | exact le6 (by assumption) (by assumption) (by assumption) (by assumption) (by assumption) (by assumption)) | assumption) (by rfl) (by first | omega | ((try simp only [List.length_append, List.length_cons, List.length_nil, List.length_set, List.length_replicate, List.length_take, List.length_drop, List.length_map] at *); omega)) (by first | omega | ((try simp only [List.length_append, List.length_cons, List.length_nil, List.length_set, List.length_replicate, List.length_take, List.length_drop, List.length_map] at *); omega)) fun b24 o24 cs24 ha24 hr24 he24 => ?_
          simp only [nrm, Nat.reduceAdd, Nat.reduceMul, Nat.reduceSub, Int.reduceToNat, Int.reduceAdd]
          try simp only [Int.toNat_natCast, Int.reduceToNat, Int.toNat_zero] at hr24
          try simp only [Int.toNat_natCast, Int.reduceToNat, Int.toNat_zero] at he24
          clear ha24
          obtain rfl := kTaint.open hr24
          refine opsR_q rfl (q_fieldAddr rfl) ?_
          simp only [nrm, Nat.reduceAdd, Nat.reduceMul, Nat.reduceSub, Int.reduceToNat, Int.reduceAdd]
          refine opsR_q rfl (by first | exact q_load_at1 (i := 0) rfl (by assumption) rfl (Nat.le_of_ble_eq_true rfl) rfl | exact q_load_at1 rfl (by assumption) rfl (Nat.le_of_ble_eq_true rfl) rfl) ?_
          simp only [nrm, Nat.reduceAdd, Nat.reduceMul, Nat.reduceSub, Int.reduceToNat, Int.reduceAdd]
          refine opsR_q rfl (q_neq rfl rfl) ?_
          simp only [nrm, Nat.reduceAdd, Nat.reduceMul, Nat.reduceSub, Int.reduceToNat, Int.reduceAdd]
          refine opsR_qb rfl (q_move) (fun hc25 => ?_) (fun hc25 => ?_)
          · have ho25 := hc25; try simp only [spl] at hc25
            simp only [nrm, Nat.reduceAdd, Nat.reduceMul, Nat.reduceSub, Int.reduceToNat, Int.reduceAdd]
            refine opsR_q rfl (q_move) ?_
            simp only [nrm, Nat.reduceAdd, Nat.reduceMul, Nat.reduceSub, Int.reduceToNat, Int.reduceAdd]
            refine opsR_q rfl (q_move) ?_
            simp only [nrm, Nat.reduceAdd, Nat.reduceMul, Nat.reduceSub, Int.reduceToNat, Int.reduceAdd]
            refine opsR_index rfl rfl rfl (by first | exact Sl.r (by assumption) (by first | exact .rfl | assumption | exact le2 (by assumption) (by assumption) | exact le3 (by assumption) (by assumption) (by assumption) | exact le4 (by assumption) (by assumption) (by assumption) (by assumption) | exact le5 (by assumption) (by assumption) (by assumption) (by assumption) (by assumption) | exact le6 (by assumption) (by assumption) (by assumption) (by assumption) (by assumption) (by assumption)) | (refine OwnS.r (OwnS.mono ?_ (by assumption)) (by intro p hp; simp only [List.mem_append, List.mem_cons, hp, true_or, or_true]); first | exact .rfl | assumption | exact le2 (by assumption) (by assumption) | exact le3 (by assumption) (by assumption) (by assumption) | exact le4 (by assumption) (by assumption) (by assumption) (by assumption) | exact le5 (by assumption) (by assumption) (by assumption) (by assumption) (by assumption) | exact le6 (by assumption) (by assumption) (by assumption) (by assumption) (by assumption) (by assumption)) | assumption) (by rfl) (by first | omega | ((try simp only [List.length_append, List.length_cons, List.length_nil, List.length_set, List.length_replicate, List.length_take, List.length_drop, List.length_map] at *); omega)) (by first | omega | ((try simp only [List.length_append, List.length_cons, List.length_nil, List.length_set, List.length_replicate, List.length_take, List.length_drop, List.length_map] at *); omega)) fun b26 o26 cs26 ha26 hr26 he26 => ?_
            simp only [nrm, Nat.reduceAdd, Nat.reduceMul, Nat.reduceSub, Int.reduceToNat, Int.reduceAdd]
            try simp only [Int.toNat_natCast, Int.reduceToNat, Int.toNat_zero] at hr26
            try simp only [Int.toNat_natCast, Int.reduceToNat, Int.toNat_zero] at he26
            clear ha26
            obtain rfl := kTaint.open hr26
            refine opsR_q rfl (q_fieldAddr rfl) ?_
            simp only [nrm, Nat.reduceAdd, Nat.reduceMul, Nat.reduceSub, Int.reduceToNat, Int.reduceAdd]
            refine opsR_q rfl (by first | exact q_load_at1 (i := 0) rfl (by assumption) rfl (Nat.le_of_ble_eq_true rfl) rfl | exact q_load_at1 rfl (by assumption) rfl (Nat.le_of_ble_eq_true rfl) rfl) ?_
            simp only [nrm, Nat.reduceAdd, Nat.reduceMul, Nat.reduceSub, Int.reduceToNat, Int.reduceAdd]
            refine opsR_q rfl (q_neq rfl rfl) ?_
            simp only [nrm, Nat.reduceAdd, Nat.reduceMul, Nat.reduceSub, Int.reduceToNat, Int.reduceAdd]
            refine opsR_q rfl (q_pick_t rfl) ?_
            simp only [nrm, Nat.reduceAdd, Nat.reduceMul, Nat.reduceSub, Int.reduceToNat, Int.reduceAdd]
            refine opsR_q rfl (q_pick_f rfl) ?_
            simp only [nrm, Nat.reduceAdd, Nat.reduceMul, Nat.reduceSub, Int.reduceToNat, Int.reduceAdd]
            refine opsR_nil ?_
            refine hk17 _ _ ?_
            clear hk17
            refine run_cond rfl (fun ho27 => ?_) (fun ho27 => ?_)
            · have hc27 := ho27; try simp only [spl] at hc27
              refine run_seq fun _ hk28 => ?_
              refine run_region ?_
              refine opsR_q rfl (q_assign) ?_
              simp only [nrm, Nat.reduceAdd, Nat.reduceMul, Nat.reduceSub, Int.reduceToNat, Int.reduceAdd]
              refine opsR_nil ?_
              refine hk28 _ _ ?_
              clear hk28
              refine run_ret ?_
              exact end_tmp rfl rfl rfl (by first | exact .refl | exact .drop | exact .drop2 | exact .drop3 | exact .drop4 | exact Gh.drop.trans .drop4 | exact Gh.drop2.trans .drop4 | exact Gh.drop3.trans .drop4) (eqK hK (congrArg (Go.Value.int .i64) (by exact check_bad (i := i) (by omega) (by omega) (by first | exact badT_ok (tok_word (by assumption)) | exact badT_ok (tok_val (by assumption)) | exact badT_ok (tok_eff (by assumption) (by assumption))))))
            · have hc27 := ho27; try simp only [spl] at hc27
              refine run_skip ?_
              refine hk16 _ _ ?_
              clear hk16
              refine run_seq fun _ hk29 => ?_
              have hok : taintOk l[i]! = true := tok_yes (by assumption) (by assumption) (by omega)
              refine run_region ?_
              refine opsR_q rfl (q_assign) ?_
              simp only [nrm, Nat.reduceAdd, Nat.reduceMul, Nat.reduceSub, Int.reduceToNat, Int.reduceAdd]
              refine opsR_nil ?_
              refine hk29 _ _ ?_
              clear hk29
              refine run_block ?_
              refine run_loopF [0, 0, 1, 0, 2, 0, 0, 0, 0, 0, 0, 0, 0, 0, 0, 0, 0, 0, 0, 0, 0, 0, 0, 0, 0, 0, 0, 0, 0, 0, 0, 0, 0, 0, 0, 0, 0, 0, 0, 0, 0, 0, 0, 0, 0, 0, 1, 1, 1, 1, 1, 1, 1, 1, 1, 1, 1, 1, 1, 1, 1, 1, 1, 1, 1, 1, 1, 1, 1, 1, 1, 1, 1, 1, 1] (fun zn zL zst => ∃ (k : Nat), zL = [.int .i64 (k : Nat)] ∧ s = zst ∧ zn = i - k ∧ (k ≤ i) ∧ (∀ j, j < k → ¬ (l[j]!.Key = l[i]!.Key ∧ l[j]!.Effect = l[i]!.Effect))) _ _ ⟨0, rfl, rfl, rfl, by first | assumption | omega | exact Hp.le.rfl | rfl | exact all_zero | exact all_succ (by assumption) (by assumption) | (simp; done), by first | assumption | omega | exact Hp.le.rfl | rfl | exact all_zero | exact all_succ (by assumption) (by assumption) | (simp; done)⟩ rfl ?_
              rintro _ _ _ jv30 ⟨k, rfl, rfl, rfl, hk, hq⟩ K30 hkl30
              simp only [fr, Nat.zero_add, Nat.reduceAdd]
              refine run_seq fun _ hk31 => ?_
              refine run_seq fun _ hk32 => ?_
              refine run_region ?_
              refine opsR_q rfl (q_move) ?_
              simp only [nrm, Nat.reduceAdd, Nat.reduceMul, Nat.reduceSub, Int.reduceToNat, Int.reduceAdd]
              refine opsR_q rfl (q_move) ?_
              simp only [nrm, Nat.reduceAdd, Nat.reduceMul, Nat.reduceSub, Int.reduceToNat, Int.reduceAdd]
              refine opsR_q rfl (q_lss rfl rfl) ?_
              simp only [nrm, Nat.reduceAdd, Nat.reduceMul, Nat.reduceSub, Int.reduceToNat, Int.reduceAdd]
              refine opsR_nil ?_
              refine hk32 _ _ ?_
              clear hk32
              refine run_cond rfl (fun ho35 => ?_) (fun ho35 => ?_)
              · have hc35 := ho35; try simp only [spl] at hc35
                refine run_skip ?_
                refine hk31 _ _ ?_
                clear hk31
                refine run_seq fun _ hk36 => ?_
                refine run_block ?_
                refine run_seq fun _ hk37 => ?_
                refine run_drawE mixed 24 (by kernel_rfl) rfl ?_
                simp only [List.take_succ_cons, List.take_zero, List.drop_succ_cons, List.drop_zero, List.drop_nil, List.take_nil]
                refine oblE_q rfl (fun I hI => (q_move)) ?_
                simp only [nrm, Nat.reduceAdd, Nat.reduceMul, Nat.reduceSub, Int.reduceToNat, Int.reduceAdd]
                refine oblE_q rfl (fun I hI => (q_move)) ?_
                simp only [nrm, Nat.reduceAdd, Nat.reduceMul, Nat.reduceSub, Int.reduceToNat, Int.reduceAdd]
                refine oblE_index rfl rfl rfl (by first | exact Sl.r (by assumption) (by first | exact .rfl | assumption | exact le2 (by assumption) (by assumption) | exact le3 (by assumption) (by assumption) (by assumption) | exact le4 (by assumption) (by assumption) (by assumption) (by assumption) | exact le5 (by assumption) (by assumption) (by assumption) (by assumption) (by assumption) | exact le6 (by assumption) (by assumption) (by assumption) (by assumption) (by assumption) (by assumption)) | (refine OwnS.r (OwnS.mono ?_ (by assumption)) (by intro p hp; simp only [List.mem_append, List.mem_cons, hp, true_or, or_true]); first | exact .rfl | assumption | exact le2 (by assumption) (by assumption) | exact le3 (by assumption) (by assumption) (by assumption) | exact le4 (by assumption) (by assumption) (by assumption) (by assumption) | exact le5 (by assumption) (by assumption) (by assumption) (by assumption) (by assumption) | exact le6 (by assumption) (by assumption) (by assumption) (by assumption) (by assumption) (by assumption)) | assumption) (by rfl) (by first | omega | ((try simp only [List.length_append, List.length_cons, List.length_nil, List.length_set, List.length_replicate, List.length_take, List.length_drop, List.length_map] at *); omega)) (by first | omega | ((try simp only [List.length_append, List.length_cons, List.length_nil, List.length_set, List.length_replicate, List.length_take, List.length_drop, List.length_map] at *); omega)) fun b39 o39 cs39 ha39 hr39 he39 => ?_
                simp only [nrm, Nat.reduceAdd, Nat.reduceMul, Nat.reduceSub, Int.reduceToNat, Int.reduceAdd]
                try simp only [Int.toNat_natCast, Int.reduceToNat, Int.toNat_zero] at hr39
                try simp only [Int.toNat_natCast, Int.reduceToNat, Int.toNat_zero] at he39
                clear ha39
                obtain rfl := kTaint.open hr39
                refine oblE_q rfl (fun I hI => (q_fieldAddr rfl)) ?_
                simp only [nrm, Nat.reduceAdd, Nat.reduceMul, Nat.reduceSub, Int.reduceToNat, Int.reduceAdd]
                refine oblE_q rfl (fun I hI => (by first | exact q_load_at1 (i := 0) rfl (El.mono (by assumption) hI) rfl (Nat.le_of_ble_eq_true rfl) rfl | exact q_load_at1 rfl (El.mono (by assumption) hI) rfl (Nat.le_of_ble_eq_true rfl) rfl)) ?_
                simp only [nrm, Nat.reduceAdd, Nat.reduceMul, Nat.reduceSub, Int.reduceToNat, Int.reduceAdd]
                refine oblE_q rfl (fun I hI => (q_move)) ?_
                simp only [nrm, Nat.reduceAdd, Nat.reduceMul, Nat.reduceSub, Int.reduceToNat, Int.reduceAdd]
                refine oblE_q rfl (fun I hI => (q_move)) ?_
                simp only [nrm, Nat.reduceAdd, Nat.reduceMul, Nat.reduceSub, Int.reduceToNat, Int.reduceAdd]
                refine oblE_index rfl rfl rfl (by first | exact Sl.r (by assumption) (by first | exact .rfl | assumption | exact le2 (by assumption) (by assumption) | exact le3 (by assumption) (by assumption) (by assumption) | exact le4 (by assumption) (by assumption) (by assumption) (by assumption) | exact le5 (by assumption) (by assumption) (by assumption) (by assumption) (by assumption) | exact le6 (by assumption) (by assumption) (by assumption) (by assumption) (by assumption) (by assumption)) | (refine OwnS.r (OwnS.mono ?_ (by assumption)) (by intro p hp; simp only [List.mem_append, List.mem_cons, hp, true_or, or_true]); first | exact .rfl | assumption | exact le2 (by assumption) (by assumption) | exact le3 (by assumption) (by assumption) (by assumption) | exact le4 (by assumption) (by assumption) (by assumption) (by assumption) | exact le5 (by assumption) (by assumption) (by assumption) (by assumption) (by assumption) | exact le6 (by assumption) (by assumption) (by assumption) (by assumption) (by assumption) (by assumption)) | assumption) (by rfl) (by first | omega | ((try simp only [List.length_append, List.length_cons, List.length_nil, List.length_set, List.length_replicate, List.length_take, List.length_drop, List.length_map] at *); omega)) (by first | omega | ((try simp only [List.length_append, List.length_cons, List.length_nil, List.length_set, List.length_replicate, List.length_take, List.length_drop, List.length_map] at *); omega)) fun b40 o40 cs40 ha40 hr40 he40 => ?_
                simp only [nrm, Nat.reduceAdd, Nat.reduceMul, Nat.reduceSub, Int.reduceToNat, Int.reduceAdd]
                try simp only [Int.toNat_natCast, Int.reduceToNat, Int.toNat_zero] at hr40
                try simp only [Int.toNat_natCast, Int.reduceToNat, Int.toNat_zero] at he40
                clear ha40
                obtain rfl := kTaint.open hr40
                refine oblE_q rfl (fun I hI => (q_fieldAddr rfl)) ?_
                simp only [nrm, Nat.reduceAdd, Nat.reduceMul, Nat.reduceSub, Int.reduceToNat, Int.reduceAdd]
                refine oblE_q rfl (fun I hI => (by first | exact q_load_at1 (i := 0) rfl (El.mono (by assumption) hI) rfl (Nat.le_of_ble_eq_true rfl) rfl | exact q_load_at1 rfl (El.mono (by assumption) hI) rfl (Nat.le_of_ble_eq_true rfl) rfl)) ?_
                simp only [nrm, Nat.reduceAdd, Nat.reduceMul, Nat.reduceSub, Int.reduceToNat, Int.reduceAdd]
                refine oblE_q rfl (fun I hI => (q_eql_string rfl rfl)) ?_
                simp only [nrm, Nat.reduceAdd, Nat.reduceMul, Nat.reduceSub, Int.reduceToNat, Int.reduceAdd]
                refine oblE_qb rfl (fun I hI => (q_move)) (fun hc41 => ?_) (fun hc41 => ?_)
                · have ho41 := hc41; try simp only [spl] at hc41
                  simp only [nrm, Nat.reduceAdd, Nat.reduceMul, Nat.reduceSub, Int.reduceToNat, Int.reduceAdd]
                  refine oblE_q rfl (fun I hI => (q_move)) ?_
                  simp only [nrm, Nat.reduceAdd, Nat.reduceMul, Nat.reduceSub, Int.reduceToNat, Int.reduceAdd]
                  refine oblE_q rfl (fun I hI => (q_move)) ?_
                  simp only [nrm, Nat.reduceAdd, Nat.reduceMul, Nat.reduceSub, Int.reduceToNat, Int.reduceAdd]
                  refine oblE_index rfl rfl rfl (by first | exact Sl.r (by assumption) (by first | exact .rfl | assumption | exact le2 (by assumption) (by assumption) | exact le3 (by assumption) (by assumption) (by assumption) | exact le4 (by assumption) (by assumption) (by assumption) (by assumption) | exact le5 (by assumption) (by assumption) (by assumption) (by assumption) (by assumption) | exact le6 (by assumption) (by assumption) (by assumption) (by assumption) (by assumption) (by assumption)) | (refine OwnS.r (OwnS.mono ?_ (by assumption)) (by intro p hp; simp only [List.mem_append, List.mem_cons, hp, true_or, or_true]); first | exact .rfl | assumption | exact le2 (by assumption) (by assumption) | exact le3 (by assumption) (by assumption) (by assumption) | exact le4 (by assumption) (by assumption) (by assumption) (by assumption) | exact le5 (by assumption) (by assumption) (by assumption) (by assumption) (by assumption) | exact le6 (by assumption) (by assumption) (by assumption) (by assumption) (by assumption) (by assumption)) | assumption) (by rfl) (by first | omega | ((try simp only [List.length_append, List.length_cons, List.length_nil, List.length_set, List.length_replicate, List.length_take, List.length_drop, List.length_map] at *); omega)) (by first | omega | ((try simp only [List.length_append, List.length_cons, List.length_nil, List.length_set, List.length_replicate, List.length_take, List.length_drop, List.length_map] at *); omega)) fun b42 o42 cs42 ha42 hr42 he42 => ?_
                  simp only [nrm, Nat.reduceAdd, Nat.reduceMul, Nat.reduceSub, Int.reduceToNat, Int.reduceAdd]
                  try simp only [Int.toNat_natCast, Int.reduceToNat, Int.toNat_zero] at hr42
                  try simp only [Int.toNat_natCast, Int.reduceToNat, Int.toNat_zero] at he42
                  clear ha42
                  obtain rfl := kTaint.open hr42
                  refine oblE_q rfl (fun I hI => (q_fieldAddr rfl)) ?_
                  simp only [nrm, Nat.reduceAdd, Nat.reduceMul, Nat.reduceSub, Int.reduceToNat, Int.reduceAdd]
                  refine oblE_q rfl (fun I hI => (by first | exact q_load_at1 (i := 0) rfl (El.mono (by assumption) hI) rfl (Nat.le_of_ble_eq_true rfl) rfl | exact q_load_at1 rfl (El.mono (by assumption) hI) rfl (Nat.le_of_ble_eq_true rfl) rfl)) ?_
                  simp only [nrm, Nat.reduceAdd, Nat.reduceMul, Nat.reduceSub, Int.reduceToNat, Int.reduceAdd]
                  refine oblE_q rfl (fun I hI => (q_move)) ?_
                  simp only [nrm, Nat.reduceAdd, Nat.reduceMul, Nat.reduceSub, Int.reduceToNat, Int.reduceAdd]
                  refine oblE_q rfl (fun I hI => (q_move)) ?_
                  simp only [nrm, Nat.reduceAdd, Nat.reduceMul, Nat.reduceSub, Int.reduceToNat, Int.reduceAdd]
                  refine oblE_index rfl rfl rfl (by first | exact Sl.r (by assumption) (by first | exact .rfl | assumption | exact le2 (by assumption) (by assumption) | exact le3 (by assumption) (by assumption) (by assumption) | exact le4 (by assumption) (by assumption) (by assumption) (by assumption) | exact le5 (by assumption) (by assumption) (by assumption) (by assumption) (by assumption) | exact le6 (by assumption) (by assumption) (by assumption) (by assumption) (by assumption) (by assumption)) | (refine OwnS.r (OwnS.mono ?_ (by assumption)) (by intro p hp; simp only [List.mem_append, List.mem_cons, hp, true_or, or_true]); first | exact .rfl | assumption | exact le2 (by assumption) (by assumption) | exact le3 (by assumption) (by assumption) (by assumption) | exact le4 (by assumption) (by assumption) (by assumption) (by assumption) | exact le5 (by assumption) (by assumption) (by assumption) (by assumption) (by assumption) | exact le6 (by assumption) (by assumption) (by assumption) (by assumption) (by assumption) (by assumption)) | assumption) (by rfl) (by first | omega | ((try simp only [List.length_append, List.length_cons, List.length_nil, List.length_set, List.length_replicate, List.length_take, List.length_drop, List.length_map] at *); omega)) (by first | omega | ((try simp only [List.length_append, List.length_cons, List.length_nil, List.length_set, List.length_replicate, List.length_take, List.length_drop, List.length_map] at *); omega)) fun b43 o43 cs43 ha43 hr43 he43 => ?_
                  simp only [nrm, Nat.reduceAdd, Nat.reduceMul, Nat.reduceSub, Int.reduceToNat, Int.reduceAdd]
                  try simp only [Int.toNat_natCast, Int.reduceToNat, Int.toNat_zero] at hr43
                  try simp only [Int.toNat_natCast, Int.reduceToNat, Int.toNat_zero] at he43
                  clear ha43
                  obtain rfl := kTaint.open hr43
                  refine oblE_q rfl (fun I hI => (q_fieldAddr rfl)) ?_
                  simp only [nrm, Nat.reduceAdd, Nat.reduceMul, Nat.reduceSub, Int.reduceToNat, Int.reduceAdd]
                  refine oblE_q rfl (fun I hI => (by first | exact q_load_at1 (i := 0) rfl (El.mono (by assumption) hI) rfl (Nat.le_of_ble_eq_true rfl) rfl | exact q_load_at1 rfl (El.mono (by assumption) hI) rfl (Nat.le_of_ble_eq_true rfl) rfl)) ?_
                  simp only [nrm, Nat.reduceAdd, Nat.reduceMul, Nat.reduceSub, Int.reduceToNat, Int.reduceAdd]
                  refine oblE_q rfl (fun I hI => (q_eql rfl rfl)) ?_
                  simp only [nrm, Nat.reduceAdd, Nat.reduceMul, Nat.reduceSub, Int.reduceToNat, Int.reduceAdd]
                  refine oblE_q rfl (fun I hI => (q_pick_t rfl)) ?_
                  simp only [nrm, Nat.reduceAdd, Nat.reduceMul, Nat.reduceSub, Int.reduceToNat, Int.reduceAdd]
                  refine oblE_nil (show OpsR _ _ _ _ _ _ from ?_)
                  try simp only [nrm, Nat.reduceAdd, Nat.reduceMul, Nat.reduceSub, Int.reduceToNat, Int.reduceAdd]
                  refine opsR_nil ?_
                  refine hk37 _ _ ?_
                  clear hk37
                  refine run_cond rfl (fun ho44 => ?_) (fun ho44 => ?_)
                  · have hc44 := ho44; try simp only [spl] at hc44
                    refine run_seq fun _ hk45 => ?_
                    refine run_region ?_
                    refine opsR_q rfl (q_assign) ?_
                    simp only [nrm, Nat.reduceAdd, Nat.reduceMul, Nat.reduceSub, Int.reduceToNat, Int.reduceAdd]
                    refine opsR_nil ?_
                    refine hk45 _ _ ?_
                    clear hk45
                    refine run_ret ?_
                    exact end_tmp rfl rfl rfl (by first | exact .refl | exact .drop | exact .drop2 | exact .drop3 | exact .drop4 | exact Gh.drop.trans .drop4 | exact Gh.drop2.trans .drop4 | exact Gh.drop3.trans .drop4) (eqK hK (congrArg (Go.Value.int .i64) (by exact check_bad (i := i) (by omega) (by omega) (badT_pair (k := k) (by omega) (by omega) (by assumption) (by assumption)))))
                  · have hc44 := ho44; try simp only [spl] at hc44
                    refine run_skip ?_
                    refine hk36 _ _ ?_
                    clear hk36
                    refine run_region ?_
                    refine opsR_q rfl (q_move) ?_
                    simp only [nrm, Nat.reduceAdd, Nat.reduceMul, Nat.reduceSub, Int.reduceToNat, Int.reduceAdd]
                    refine opsR_q rfl (by first | exact q_add64 rfl rfl (by omega) (by omega) | exact q_add rfl rfl) ?_
                    simp only [nrm, Nat.reduceAdd, Nat.reduceMul, Nat.reduceSub, Int.reduceToNat, Int.reduceAdd]
                    refine opsR_q rfl (q_assign) ?_
                    simp only [nrm, Nat.reduceAdd, Nat.reduceMul, Nat.reduceSub, Int.reduceToNat, Int.reduceAdd]
                    refine opsR_nil ?_
                    first
                    | exact hkl30 _ _ _ _ (by omega) ⟨k + 1, rfl, rfl, rfl, by first | omega | exact all_zero | exact all_succ hq (fun e => absurd (And.left e) (by assumption)) | exact all_succ hq (fun e => absurd (And.right e) (by assumption)), by first | omega | exact all_zero | exact all_succ hq (fun e => absurd (And.left e) (by assumption)) | exact all_succ hq (fun e => absurd (And.right e) (by assumption))⟩ rfl
                · have ho41 := hc41; try simp only [spl] at hc41
                  simp only [nrm, Nat.reduceAdd, Nat.reduceMul, Nat.reduceSub, Int.reduceToNat, Int.reduceAdd]
                  refine oblE_skip rfl ?_
                  simp only [nrm, Nat.reduceAdd, Nat.reduceMul, Nat.reduceSub, Int.reduceToNat, Int.reduceAdd]
                  refine oblE_skip rfl ?_
                  simp only [nrm, Nat.reduceAdd, Nat.reduceMul, Nat.reduceSub, Int.reduceToNat, Int.reduceAdd]
                  refine oblE_skip rfl ?_
                  simp only [nrm, Nat.reduceAdd, Nat.reduceMul, Nat.reduceSub, Int.reduceToNat, Int.reduceAdd]
                  refine oblE_skip rfl ?_
                  simp only [nrm, Nat.reduceAdd, Nat.reduceMul, Nat.reduceSub, Int.reduceToNat, Int.reduceAdd]
                  refine oblE_skip rfl ?_
                  simp only [nrm, Nat.reduceAdd, Nat.reduceMul, Nat.reduceSub, Int.reduceToNat, Int.reduceAdd]
                  refine oblE_skip rfl ?_
                  simp only [nrm, Nat.reduceAdd, Nat.reduceMul, Nat.reduceSub, Int.reduceToNat, Int.reduceAdd]
                  refine oblE_skip rfl ?_
                  simp only [nrm, Nat.reduceAdd, Nat.reduceMul, Nat.reduceSub, Int.reduceToNat, Int.reduceAdd]
                  refine oblE_skip rfl ?_
                  simp only [nrm, Nat.reduceAdd, Nat.reduceMul, Nat.reduceSub, Int.reduceToNat, Int.reduceAdd]
                  refine oblE_skip rfl ?_
                  simp only [nrm, Nat.reduceAdd, Nat.reduceMul, Nat.reduceSub, Int.reduceToNat, Int.reduceAdd]
                  refine oblE_skip rfl ?_
                  simp only [nrm, Nat.reduceAdd, Nat.reduceMul, Nat.reduceSub, Int.reduceToNat, Int.reduceAdd]
                  refine oblE_skip rfl ?_
                  simp only [nrm, Nat.reduceAdd, Nat.reduceMul, Nat.reduceSub, Int.reduceToNat, Int.reduceAdd]
                  refine oblE_q rfl (fun I hI => (q_pick_f rfl)) ?_
                  simp only [nrm, Nat.reduceAdd, Nat.reduceMul, Nat.reduceSub, Int.reduceToNat, Int.reduceAdd]
                  refine oblE_nil (show OpsR _ _ _ _ _ _ from ?_)
                  try simp only [nrm, Nat.reduceAdd, Nat.reduceMul, Nat.reduceSub, Int.reduceToNat, Int.reduceAdd]
                  refine opsR_nil ?_
                  refine hk37 _ _ ?_
                  clear hk37
                  refine run_cond (t := false) rfl (fun h => by cases h) (fun _ => ?_)
                  refine run_skip ?_
                  refine hk36 _ _ ?_
                  clear hk36
                  refine run_region ?_
                  refine opsR_q rfl (q_move) ?_
                  simp only [nrm, Nat.reduceAdd, Nat.reduceMul, Nat.reduceSub, Int.reduceToNat, Int.reduceAdd]
                  refine opsR_q rfl (by first | exact q_add64 rfl rfl (by omega) (by omega) | exact q_add rfl rfl) ?_
                  simp only [nrm, Nat.reduceAdd, Nat.reduceMul, Nat.reduceSub, Int.reduceToNat, Int.reduceAdd]
                  refine opsR_q rfl (q_assign) ?_
                  simp only [nrm, Nat.reduceAdd, Nat.reduceMul, Nat.reduceSub, Int.reduceToNat, Int.reduceAdd]
                  refine opsR_nil ?_
                  first
                  | exact hkl30 _ _ _ _ (by omega) ⟨k + 1, rfl, rfl, rfl, by first | omega | exact all_zero | exact all_succ hq (fun e => absurd (And.left e) (by assumption)) | exact all_succ hq (fun e => absurd (And.right e) (by assumption)), by first | omega | exact all_zero | exact all_succ hq (fun e => absurd (And.left e) (by assumption)) | exact all_succ hq (fun e => absurd (And.right e) (by assumption))⟩ rfl
              · have hc35 := ho35; try simp only [spl] at hc35
                refine run_exit ?_
                refine hk15 _ _ ?_
                clear hk15
                refine run_region ?_
                refine opsR_q rfl (q_move) ?_
                simp only [nrm, Nat.reduceAdd, Nat.reduceMul, Nat.reduceSub, Int.reduceToNat, Int.reduceAdd]
                refine opsR_q rfl (by first | exact q_add64 rfl rfl (by omega) (by omega) | exact q_add rfl rfl) ?_
                simp only [nrm, Nat.reduceAdd, Nat.reduceMul, Nat.reduceSub, Int.reduceToNat, Int.reduceAdd]
                refine opsR_q rfl (q_assign) ?_
                simp only [nrm, Nat.reduceAdd, Nat.reduceMul, Nat.reduceSub, Int.reduceToNat, Int.reduceAdd]
                refine opsR_nil ?_
                first
                | exact hkl9 _ _ _ _ (by omega) ⟨i + 1, _, rfl, rfl, rfl, by first | omega | exact all_zero | exact all_succ hj (badT_none (by omega) (fun k h => hq k (by omega)) hok), by first | omega | exact all_zero | exact all_succ hj (badT_none (by omega) (fun k h => hq k (by omega)) hok)⟩ rfl
          · have ho25 := hc25; try simp only [spl] at hc25
            simp only [nrm, Nat.reduceAdd, Nat.reduceMul, Nat.reduceSub, Int.reduceToNat, Int.reduceAdd]
            refine opsR_skip rfl ?_
            simp only [nrm, Nat.reduceAdd, Nat.reduceMul, Nat.reduceSub, Int.reduceToNat, Int.reduceAdd]
            refine opsR_skip rfl ?_
            simp only [nrm, Nat.reduceAdd, Nat.reduceMul, Nat.reduceSub, Int.reduceToNat, Int.reduceAdd]
            refine opsR_skip rfl ?_
            simp only [nrm, Nat.reduceAdd, Nat.reduceMul, Nat.reduceSub, Int.reduceToNat, Int.reduceAdd]
            refine opsR_skip rfl ?_
            simp only [nrm, Nat.reduceAdd, Nat.reduceMul, Nat.reduceSub, Int.reduceToNat, Int.reduceAdd]
            refine opsR_skip rfl ?_
            simp only [nrm, Nat.reduceAdd, Nat.reduceMul, Nat.reduceSub, Int.reduceToNat, Int.reduceAdd]
            refine opsR_skip rfl ?_
            simp only [nrm, Nat.reduceAdd, Nat.reduceMul, Nat.reduceSub, Int.reduceToNat, Int.reduceAdd]
            refine opsR_q rfl (q_pick_f rfl) ?_
            simp only [nrm, Nat.reduceAdd, Nat.reduceMul, Nat.reduceSub, Int.reduceToNat, Int.reduceAdd]
            refine opsR_q rfl (q_pick_f rfl) ?_
            simp only [nrm, Nat.reduceAdd, Nat.reduceMul, Nat.reduceSub, Int.reduceToNat, Int.reduceAdd]
            refine opsR_nil ?_
            refine hk17 _ _ ?_
            clear hk17
            refine run_cond (t := false) rfl (fun h => by cases h) (fun _ => ?_)
            refine run_skip ?_
            refine hk16 _ _ ?_
            clear hk16
            refine run_seq fun _ hk46 => ?_
            have hok : taintOk l[i]! = true := tok_yes (by assumption) (by assumption) (by omega)
            refine run_region ?_
            refine opsR_q rfl (q_assign) ?_
            simp only [nrm, Nat.reduceAdd, Nat.reduceMul, Nat.reduceSub, Int.reduceToNat, Int.reduceAdd]
            refine opsR_nil ?_
            refine hk46 _ _ ?_
            clear hk46
            refine run_block ?_
            refine run_loopF [0, 0, 1, 0, 2, 0, 0, 0, 0, 0, 0, 0, 0, 0, 0, 0, 0, 0, 0, 0, 0, 0, 0, 0, 0, 0, 0, 0, 0, 0, 0, 0, 0, 0, 0, 0, 0, 0, 0, 0, 0, 0, 0, 0, 0, 0, 1, 1, 1, 1, 1, 1, 1, 1, 1, 1, 1, 1, 1, 1, 1, 1, 1, 1, 1, 1, 1, 1, 1, 1, 1, 1, 1, 1, 1] (fun zn zL zst => ∃ (k : Nat), zL = [.int .i64 (k : Nat)] ∧ s = zst ∧ zn = i - k ∧ (k ≤ i) ∧ (∀ j, j < k → ¬ (l[j]!.Key = l[i]!.Key ∧ l[j]!.Effect = l[i]!.Effect))) _ _ ⟨0, rfl, rfl, rfl, by first | assumption | omega | exact Hp.le.rfl | rfl | exact all_zero | exact all_succ (by assumption) (by assumption) | (simp; done), by first | assumption | omega | exact Hp.le.rfl | rfl | exact all_zero | exact all_succ (by assumption) (by assumption) | (simp; done)⟩ rfl ?_
            rintro _ _ _ jv47 ⟨k, rfl, rfl, rfl, hk, hq⟩ K47 hkl47
            simp only [fr, Nat.zero_add, Nat.reduceAdd]
            refine run_seq fun _ hk48 => ?_
            refine run_seq fun _ hk49 => ?_
            refine run_region ?_
            refine opsR_q rfl (q_move) ?_
            simp only [nrm, Nat.reduceAdd, Nat.reduceMul, Nat.reduceSub, Int.reduceToNat, Int.reduceAdd]
            refine opsR_q rfl (q_move) ?_
            simp only [nrm, Nat.reduceAdd, Nat.reduceMul, Nat.reduceSub, Int.reduceToNat, Int.reduceAdd]
            refine opsR_q rfl (q_lss rfl rfl) ?_
            simp only [nrm, Nat.reduceAdd, Nat.reduceMul, Nat.reduceSub, Int.reduceToNat, Int.reduceAdd]
            refine opsR_nil ?_
            refine hk49 _ _ ?_
            clear hk49
            refine run_cond rfl (fun ho52 => ?_) (fun ho52 => ?_)
            · have hc52 := ho52; try simp only [spl] at hc52
              refine run_skip ?_
              refine hk48 _ _ ?_
              clear hk48
              refine run_seq fun _ hk53 => ?_
              refine run_block ?_
              refine run_seq fun _ hk54 => ?_
              refine run_drawE mixed 24 (by kernel_rfl) rfl ?_
              simp only [List.take_succ_cons, List.take_zero, List.drop_succ_cons, List.drop_zero, List.drop_nil, List.take_nil]
              refine oblE_q rfl (fun I hI => (q_move)) ?_
              simp only [nrm, Nat.reduceAdd, Nat.reduceMul, Nat.reduceSub, Int.reduceToNat, Int.reduceAdd]
              refine oblE_q rfl (fun I hI => (q_move)) ?_
              simp only [nrm, Nat.reduceAdd, Nat.reduceMul, Nat.reduceSub, Int.reduceToNat, Int.reduceAdd]
              refine oblE_index rfl rfl rfl (by first | exact Sl.r (by assumption) (by first | exact .rfl | assumption | exact le2 (by assumption) (by assumption) | exact le3 (by assumption) (by assumption) (by assumption) | exact le4 (by assumption) (by assumption) (by assumption) (by assumption) | exact le5 (by assumption) (by assumption) (by assumption) (by assumption) (by assumption) | exact le6 (by assumption) (by assumption) (by assumption) (by assumption) (by assumption) (by assumption)) | (refine OwnS.r (OwnS.mono ?_ (by assumption)) (by intro p hp; simp only [List.mem_append, List.mem_cons, hp, true_or, or_true]); first | exact .rfl | assumption | exact le2 (by assumption) (by assumption) | exact le3 (by assumption) (by assumption) (by assumption) | exact le4 (by assumption) (by assumption) (by assumption) (by assumption) | exact le5 (by assumption) (by assumption) (by assumption) (by assumption) (by assumption) | exact le6 (by assumption) (by assumption) (by assumption) (by assumption) (by assumption) (by assumption)) | assumption) (by rfl) (by first | omega | ((try simp only [List.length_append, List.length_cons, List.length_nil, List.length_set, List.length_replicate, List.length_take, List.length_drop, List.length_map] at *); omega)) (by first | omega | ((try simp only [List.length_append, List.length_cons, List.length_nil, List.length_set, List.length_replicate, List.length_take, List.length_drop, List.length_map] at *); omega)) fun b56 o56 cs56 ha56 hr56 he56 => ?_
              simp only [nrm, Nat.reduceAdd, Nat.reduceMul, Nat.reduceSub, Int.reduceToNat, Int.reduceAdd]
              try simp only [Int.toNat_natCast, Int.reduceToNat, Int.toNat_zero] at hr56
              try simp only [Int.toNat_natCast, Int.reduceToNat, Int.toNat_zero] at he56
              clear ha56
              obtain rfl := kTaint.open hr56
              refine oblE_q rfl (fun I hI => (q_fieldAddr rfl)) ?_
              simp only [nrm, Nat.reduceAdd, Nat.reduceMul, Nat.reduceSub, Int.reduceToNat, Int.reduceAdd]
              refine oblE_q rfl (fun I hI => (by first | exact q_load_at1 (i := 0) rfl (El.mono (by assumption) hI) rfl (Nat.le_of_ble_eq_true rfl) rfl | exact q_load_at1 rfl (El.mono (by assumption) hI) rfl (Nat.le_of_ble_eq_true rfl) rfl)) ?_
              simp only [nrm, Nat.reduceAdd, Nat.reduceMul, Nat.reduceSub, Int.reduceToNat, Int.reduceAdd]
              refine oblE_q rfl (fun I hI => (q_move)) ?_
              simp only [nrm, Nat.reduceAdd, Nat.reduceMul, Nat.reduceSub, Int.reduceToNat, Int.reduceAdd]
              refine oblE_q rfl (fun I hI => (q_move)) ?_
              simp only [nrm, Nat.reduceAdd, Nat.reduceMul, Nat.reduceSub, Int.reduceToNat, Int.reduceAdd]
              refine oblE_index rfl rfl rfl (by first | exact Sl.r (by assumption) (by first | exact .rfl | assumption | exact le2 (by assumption) (by assumption) | exact le3 (by assumption) (by assumption) (by assumption) | exact le4 (by assumption) (by assumption) (by assumption) (by assumption) | exact le5 (by assumption) (by assumption) (by assumption) (by assumption) (by assumption) | exact le6 (by assumption) (by assumption) (by assumption) (by assumption) (by assumption) (by assumption)) | (refine OwnS.r (OwnS.mono ?_ (by assumption)) (by intro p hp; simp only [List.mem_append, List.mem_cons, hp, true_or, or_true]); first | exact .rfl | assumption | exact le2 (by assumption) (by assumption) | exact le3 (by assumption) (by assumption) (by assumption) | exact le4 (by assumption) (by assumption) (by assumption) (by assumption) | exact le5 (by assumption) (by assumption) (by assumption) (by assumption) (by assumption) | exact le6 (by assumption) (by assumption) (by assumption) (by assumption) (by assumption) (by assumption)) | assumption) (by rfl) (by first | omega | ((try simp only [List.length_append, List.length_cons, List.length_nil, List.length_set, List.length_replicate, List.length_take, List.length_drop, List.length_map] at *); omega)) (by first | omega | ((try simp only [List.length_append, List.length_cons, List.length_nil, List.length_set, List.length_replicate, List.length_take, List.length_drop, List.length_map] at *); omega)) fun b57 o57 cs57 ha57 hr57 he57 => ?_
              simp only [nrm, Nat.reduceAdd, Nat.reduceMul, Nat.reduceSub, Int.reduceToNat, Int.reduceAdd]
              try simp only [Int.toNat_natCast, Int.reduceToNat, Int.toNat_zero] at hr57
              try simp only [Int.toNat_natCast, Int.reduceToNat, Int.toNat_zero] at he57
              clear ha57
              obtain rfl := kTaint.open hr57
              refine oblE_q rfl (fun I hI => (q_fieldAddr rfl)) ?_
              simp only [nrm, Nat.reduceAdd, Nat.reduceMul, Nat.reduceSub, Int.reduceToNat, Int.reduceAdd]
              refine oblE_q rfl (fun I hI => (by first | exact q_load_at1 (i := 0) rfl (El.mono (by assumption) hI) rfl (Nat.le_of_ble_eq_true rfl) rfl | exact q_load_at1 rfl (El.mono (by assumption) hI) rfl (Nat.le_of_ble_eq_true rfl) rfl)) ?_
              simp only [nrm, Nat.reduceAdd, Nat.reduceMul, Nat.reduceSub, Int.reduceToNat, Int.reduceAdd]
              refine oblE_q rfl (fun I hI => (q_eql_string rfl rfl)) ?_
              simp only [nrm, Nat.reduceAdd, Nat.reduceMul, Nat.reduceSub, Int.reduceToNat, Int.reduceAdd]
              refine oblE_qb rfl (fun I hI => (q_move)) (fun hc58 => ?_) (fun hc58 => ?_)
              · have ho58 := hc58; try simp only [spl] at hc58
                simp only [nrm, Nat.reduceAdd, Nat.reduceMul, Nat.reduceSub, Int.reduceToNat, Int.reduceAdd]
                refine oblE_q rfl (fun I hI => (q_move)) ?_
                simp only [nrm, Nat.reduceAdd, Nat.reduceMul, Nat.reduceSub, Int.reduceToNat, Int.reduceAdd]
                refine oblE_q rfl (fun I hI => (q_move)) ?_
                simp only [nrm, Nat.reduceAdd, Nat.reduceMul, Nat.reduceSub, Int.reduceToNat, Int.reduceAdd]
                refine oblE_index rfl rfl rfl (by first | exact Sl.r (by assumption) (by first | exact .rfl | assumption | exact le2 (by assumption) (by assumption) | exact le3 (by assumption) (by assumption) (by assumption) | exact le4 (by assumption) (by assumption) (by assumption) (by assumption) | exact le5 (by assumption) (by assumption) (by assumption) (by assumption) (by assumption) | exact le6 (by assumption) (by assumption) (by assumption) (by assumption) (by assumption) (by assumption)) | (refine OwnS.r (OwnS.mono ?_ (by assumption)) (by intro p hp; simp only [List.mem_append, List.mem_cons, hp, true_or, or_true]); first | exact .rfl | assumption | exact le2 (by assumption) (by assumption) | exact le3 (by assumption) (by assumption) (by assumption) | exact le4 (by assumption) (by assumption) (by assumption) (by assumption) | exact le5 (by assumption) (by assumption) (by assumption) (by assumption) (by assumption) | exact le6 (by assumption) (by assumption) (by assumption) (by assumption) (by assumption) (by assumption)) | assumption) (by rfl) (by first | omega | ((try simp only [List.length_append, List.length_cons, List.length_nil, List.length_set, List.length_replicate, List.length_take, List.length_drop, List.length_map] at *); omega)) (by first | omega | ((try simp only [List.length_append, List.length_cons, List.length_nil, List.length_set, List.length_replicate, List.length_take, List.length_drop, List.length_map] at *); omega)) fun b59 o59 cs59 ha59 hr59 he59 => ?_
                simp only [nrm, Nat.reduceAdd, Nat.reduceMul, Nat.reduceSub, Int.reduceToNat, Int.reduceAdd]
                try simp only [Int.toNat_natCast, Int.reduceToNat, Int.toNat_zero] at hr59
                try simp only [Int.toNat_natCast, Int.reduceToNat, Int.toNat_zero] at he59
                clear ha59
                obtain rfl := kTaint.open hr59
                refine oblE_q rfl (fun I hI => (q_fieldAddr rfl)) ?_
                simp only [nrm, Nat.reduceAdd, Nat.reduceMul, Nat.reduceSub, Int.reduceToNat, Int.reduceAdd]
                refine oblE_q rfl (fun I hI => (by first | exact q_load_at1 (i := 0) rfl (El.mono (by assumption) hI) rfl (Nat.le_of_ble_eq_true rfl) rfl | exact q_load_at1 rfl (El.mono (by assumption) hI) rfl (Nat.le_of_ble_eq_true rfl) rfl)) ?_
                simp only [nrm, Nat.reduceAdd, Nat.reduceMul, Nat.reduceSub, Int.reduceToNat, Int.reduceAdd]
                refine oblE_q rfl (fun I hI => (q_move)) ?_
                simp only [nrm, Nat.reduceAdd, Nat.reduceMul, Nat.reduceSub, Int.reduceToNat, Int.reduceAdd]
                refine oblE_q rfl (fun I hI => (q_move)) ?_
                simp only [nrm, Nat.reduceAdd, Nat.reduceMul, Nat.reduceSub, Int.reduceToNat, Int.reduceAdd]
                refine oblE_index rfl rfl rfl (by first | exact Sl.r (by assumption) (by first | exact .rfl | assumption | exact le2 (by assumption) (by assumption) | exact le3 (by assumption) (by assumption) (by assumption) | exact le4 (by assumption) (by assumption) (by assumption) (by assumption) | exact le5 (by assumption) (by assumption) (by assumption) (by assumption) (by assumption) | exact le6 (by assumption) (by assumption) (by assumption) (by assumption) (by assumption) (by assumption)) | (refine OwnS.r (OwnS.mono ?_ (by assumption)) (by intro p hp; simp only [List.mem_append, List.mem_cons, hp, true_or, or_true]); first | exact .rfl | assumption | exact le2 (by assumption) (by assumption) | exact le3 (by assumption) (by assumption) (by assumption) | exact le4 (by assumption) (by assumption) (by assumption) (by assumption) | exact le5 (by assumption) (by assumption) (by assumption) (by assumption) (by assumption) | exact le6 (by assumption) (by assumption) (by assumption) (by assumption) (by assumption) (by assumption)) | assumption) (by rfl) (by first | omega | ((try simp only [List.length_append, List.length_cons, List.length_nil, List.length_set, List.length_replicate, List.length_take, List.length_drop, List.length_map] at *); omega)) (by first | omega | ((try simp only [List.length_append, List.length_cons, List.length_nil, List.length_set, List.length_replicate, List.length_take, List.length_drop, List.length_map] at *); omega)) fun b60 o60 cs60 ha60 hr60 he60 => ?_
                simp only [nrm, Nat.reduceAdd, Nat.reduceMul, Nat.reduceSub, Int.reduceToNat, Int.reduceAdd]
                try simp only [Int.toNat_natCast, Int.reduceToNat, Int.toNat_zero] at hr60
                try simp only [Int.toNat_natCast, Int.reduceToNat, Int.toNat_zero] at he60
                clear ha60
                obtain rfl := kTaint.open hr60
                refine oblE_q rfl (fun I hI => (q_fieldAddr rfl)) ?_
                simp only [nrm, Nat.reduceAdd, Nat.reduceMul, Nat.reduceSub, Int.reduceToNat, Int.reduceAdd]
                refine oblE_q rfl (fun I hI => (by first | exact q_load_at1 (i := 0) rfl (El.mono (by assumption) hI) rfl (Nat.le_of_ble_eq_true rfl) rfl | exact q_load_at1 rfl (El.mono (by assumption) hI) rfl (Nat.le_of_ble_eq_true rfl) rfl)) ?_
                simp only [nrm, Nat.reduceAdd, Nat.reduceMul, Nat.reduceSub, Int.reduceToNat, Int.reduceAdd]
                refine oblE_q rfl (fun I hI => (q_eql rfl rfl)) ?_
                simp only [nrm, Nat.reduceAdd, Nat.reduceMul, Nat.reduceSub, Int.reduceToNat, Int.reduceAdd]
                refine oblE_q rfl (fun I hI => (q_pick_t rfl)) ?_
                simp only [nrm, Nat.reduceAdd, Nat.reduceMul, Nat.reduceSub, Int.reduceToNat, Int.reduceAdd]
                refine oblE_nil (show OpsR _ _ _ _ _ _ from ?_)
                try simp only [nrm, Nat.reduceAdd, Nat.reduceMul, Nat.reduceSub, Int.reduceToNat, Int.reduceAdd]
                refine opsR_nil ?_
                refine hk54 _ _ ?_
                clear hk54
                refine run_cond rfl (fun ho61 => ?_) (fun ho61 => ?_)
                · have hc61 := ho61; try simp only [spl] at hc61
                  refine run_seq fun _ hk62 => ?_
                  refine run_region ?_
                  refine opsR_q rfl (q_assign) ?_
                  simp only [nrm, Nat.reduceAdd, Nat.reduceMul, Nat.reduceSub, Int.reduceToNat, Int.reduceAdd]
                  refine opsR_nil ?_
                  refine hk62 _ _ ?_
                  clear hk62
                  refine run_ret ?_
                  exact end_tmp rfl rfl rfl (by first | exact .refl | exact .drop | exact .drop2 | exact .drop3 | exact .drop4 | exact Gh.drop.trans .drop4 | exact Gh.drop2.trans .drop4 | exact Gh.drop3.trans .drop4) (eqK hK (congrArg (Go.Value.int .i64) (by exact check_bad (i := i) (by omega) (by omega) (badT_pair (k := k) (by omega) (by omega) (by assumption) (by assumption)))))
                · have hc61 := ho61; try simp only [spl] at hc61
                  refine run_skip ?_
                  refine hk53 _ _ ?_
                  clear hk53
                  refine run_region ?_
                  refine opsR_q rfl (q_move) ?_
                  simp only [nrm, Nat.reduceAdd, Nat.reduceMul, Nat.reduceSub, Int.reduceToNat, Int.reduceAdd]
                  refine opsR_q rfl (by first | exact q_add64 rfl rfl (by omega) (by omega) | exact q_add rfl rfl) ?_
                  simp only [nrm, Nat.reduceAdd, Nat.reduceMul, Nat.reduceSub, Int.reduceToNat, Int.reduceAdd]
                  refine opsR_q rfl (q_assign) ?_
                  simp only [nrm, Nat.reduceAdd, Nat.reduceMul, Nat.reduceSub, Int.reduceToNat, Int.reduceAdd]
                  refine opsR_nil ?_
                  first
                  | exact hkl47 _ _ _ _ (by omega) ⟨k + 1, rfl, rfl, rfl, by first | omega | exact all_zero | exact all_succ hq (fun e => absurd (And.left e) (by assumption)) | exact all_succ hq (fun e => absurd (And.right e) (by assumption)), by first | omega | exact all_zero | exact all_succ hq (fun e => absurd (And.left e) (by assumption)) | exact all_succ hq (fun e => absurd (And.right e) (by assumption))⟩ rfl
              · have ho58 := hc58; try simp only [spl] at hc58
                simp only [nrm, Nat.reduceAdd, Nat.reduceMul, Nat.reduceSub, Int.reduceToNat, Int.reduceAdd]
                refine oblE_skip rfl ?_
                simp only [nrm, Nat.reduceAdd, Nat.reduceMul, Nat.reduceSub, Int.reduceToNat, Int.reduceAdd]
                refine oblE_skip rfl ?_
                simp only [nrm, Nat.reduceAdd, Nat.reduceMul, Nat.reduceSub, Int.reduceToNat, Int.reduceAdd]
                refine oblE_skip rfl ?_
                simp only [nrm, Nat.reduceAdd, Nat.reduceMul, Nat.reduceSub, Int.reduceToNat, Int.reduceAdd]
                refine oblE_skip rfl ?_
                simp only [nrm, Nat.reduceAdd, Nat.reduceMul, Nat.reduceSub, Int.reduceToNat, Int.reduceAdd]
                refine oblE_skip rfl ?_
                simp only [nrm, Nat.reduceAdd, Nat.reduceMul, Nat.reduceSub, Int.reduceToNat, Int.reduceAdd]
                refine oblE_skip rfl ?_
                simp only [nrm, Nat.reduceAdd, Nat.reduceMul, Nat.reduceSub, Int.reduceToNat, Int.reduceAdd]
                refine oblE_skip rfl ?_
                simp only [nrm, Nat.reduceAdd, Nat.reduceMul, Nat.reduceSub, Int.reduceToNat, Int.reduceAdd]
                refine oblE_skip rfl ?_
                simp only [nrm, Nat.reduceAdd, Nat.reduceMul, Nat.reduceSub, Int.reduceToNat, Int.reduceAdd]
                refine oblE_skip rfl ?_
                simp only [nrm, Nat.reduceAdd, Nat.reduceMul, Nat.reduceSub, Int.reduceToNat, Int.reduceAdd]
                refine oblE_skip rfl ?_
                simp only [nrm, Nat.reduceAdd, Nat.reduceMul, Nat.reduceSub, Int.reduceToNat, Int.reduceAdd]
                refine oblE_skip rfl ?_
                simp only [nrm, Nat.reduceAdd, Nat.reduceMul, Nat.reduceSub, Int.reduceToNat, Int.reduceAdd]
                refine oblE_q rfl (fun I hI => (q_pick_f rfl)) ?_
                simp only [nrm, Nat.reduceAdd, Nat.reduceMul, Nat.reduceSub, Int.reduceToNat, Int.reduceAdd]
                refine oblE_nil (show OpsR _ _ _ _ _ _ from ?_)
                try simp only [nrm, Nat.reduceAdd, Nat.reduceMul, Nat.reduceSub, Int.reduceToNat, Int.reduceAdd]
                refine opsR_nil ?_
                refine hk54 _ _ ?_
                clear hk54
                refine run_cond (t := false) rfl (fun h => by cases h) (fun _ => ?_)
                refine run_skip ?_
                refine hk53 _ _ ?_
                clear hk53
                refine run_region ?_
                refine opsR_q rfl (q_move) ?_
                simp only [nrm, Nat.reduceAdd, Nat.reduceMul, Nat.reduceSub, Int.reduceToNat, Int.reduceAdd]
                refine opsR_q rfl (by first | exact q_add64 rfl rfl (by omega) (by omega) | exact q_add rfl rfl) ?_
                simp only [nrm, Nat.reduceAdd, Nat.reduceMul, Nat.reduceSub, Int.reduceToNat, Int.reduceAdd]
                refine opsR_q rfl (q_assign) ?_
                simp only [nrm, Nat.reduceAdd, Nat.reduceMul, Nat.reduceSub, Int.reduceToNat, Int.reduceAdd]
                refine opsR_nil ?_
                first
                | exact hkl47 _ _ _ _ (by omega) ⟨k + 1, rfl, rfl, rfl, by first | omega | exact all_zero | exact all_succ hq (fun e => absurd (And.left e) (by assumption)) | exact all_succ hq (fun e => absurd (And.right e) (by assumption)), by first | omega | exact all_zero | exact all_succ hq (fun e => absurd (And.left e) (by assumption)) | exact all_succ hq (fun e => absurd (And.right e) (by assumption))⟩ rfl
            · have hc52 := ho52; try simp only [spl] at hc52
              refine run_exit ?_
              refine hk15 _ _ ?_
              clear hk15
              refine run_region ?_
              refine opsR_q rfl (q_move) ?_
              simp only [nrm, Nat.reduceAdd, Nat.reduceMul, Nat.reduceSub, Int.reduceToNat, Int.reduceAdd]
              refine opsR_q rfl (by first | exact q_add64 rfl rfl (by omega) (by omega) | exact q_add rfl rfl) ?_
              simp only [nrm, Nat.reduceAdd, Nat.reduceMul, Nat.reduceSub, Int.reduceToNat, Int.reduceAdd]
              refine opsR_q rfl (q_assign) ?_
              simp only [nrm, Nat.reduceAdd, Nat.reduceMul, Nat.reduceSub, Int.reduceToNat, Int.reduceAdd]
              refine opsR_nil ?_
              first
              | exact hkl9 _ _ _ _ (by omega) ⟨i + 1, _, rfl, rfl, rfl, by first | omega | exact all_zero | exact all_succ hj (badT_none (by omega) (fun k h => hq k (by omega)) hok), by first | omega | exact all_zero | exact all_succ hj (badT_none (by omega) (fun k h => hq k (by omega)) hok)⟩ rfl
    · have hc14 := ho14; try simp only [spl] at hc14
      refine run_exit ?_
      refine hk7 _ _ ?_
      clear hk7
      refine run_seq fun _ hk63 => ?_
      refine run_region ?_
      refine opsR_q rfl (q_assign) ?_
      simp only [nrm, Nat.reduceAdd, Nat.reduceMul, Nat.reduceSub, Int.reduceToNat, Int.reduceAdd]
      refine opsR_nil ?_
      refine hk63 _ _ ?_
      clear hk63
      refine run_ret ?_
      exact end_tmp rfl rfl rfl (by first | exact .refl | exact .drop | exact .drop2 | exact .drop3 | exact .drop4 | exact Gh.drop.trans .drop4 | exact Gh.drop2.trans .drop4 | exact Gh.drop3.trans .drop4) (eqK hK (congrArg (Go.Value.int .i64) (by exact check_ok (by omega) (fun j h => hj j (by omega)))))
/-- What a pod bears, judged. -/
def bearOk (b : Bear) : Bool := (decide (b.Effect = 0) || decide (b.Effect = 1) || decide (b.Effect = 2)) && valueOf b.Key && valueOf b.Value && !(b.Any && !decide (b.Value = ⟨#[]⟩)) && (b.Any || !decide (b.Key = ⟨#[]⟩))
def checkB (l : List Bear) : Int := if 64 < l.length then 3 else if l.all bearOk then 0 else 30
theorem checkB_long {l : List Bear} (h : 64 < l.length) : checkB l = 3 := if_pos h
theorem checkB_bad {l : List Bear} {i : Nat} (h : ¬ 64 < l.length) (hi : i < l.length) (hb : bearOk l[i]! = false) : checkB l = 30 := by rw [checkB, if_neg h, if_neg (by rw [all_at hi hb]; decide)]
theorem checkB_ok {l : List Bear} (h : ¬ 64 < l.length) (hb : ∀ j, j < l.length → bearOk l[j]! = true) : checkB l = 0 := by rw [checkB, if_neg h, if_pos (all_none hb)]
section
variable {b : Bear}
theorem bok_eff (h0 : ¬ b.Effect = 0) (h1 : ¬ b.Effect = 1) (h2 : ¬ b.Effect = 2) : bearOk b = false := by simp [bearOk, h0, h1, h2]
theorem bok_key (h : valueOf b.Key = false) : bearOk b = false := by simp [bearOk, h]
theorem bok_val (h : valueOf b.Value = false) : bearOk b = false := by simp [bearOk, h]
theorem bok_any (h : b.Any = true) (h2 : ¬ b.Value = ⟨#[]⟩) : bearOk b = false := by simp [bearOk, h, h2]
theorem bok_no (h : b.Any = false) (h2 : b.Key = ⟨#[]⟩) : bearOk b = false := by simp [bearOk, h, h2]
theorem bok_yes (h : b.Effect = 0 ∨ b.Effect = 1 ∨ b.Effect = 2) (h1 : valueOf b.Key = true) (h2 : valueOf b.Value = true) (h3 : (b.Any = true ∧ b.Value = ⟨#[]⟩) ∨ (b.Any = false ∧ ¬ b.Key = ⟨#[]⟩)) : bearOk b = true := by
  rcases h3 with ⟨h3, h4⟩ | ⟨h3, h4⟩
  · rw [bearOk, h1, h2, h3, decide_eq_true h4]; rcases h with h | h | h <;> simp [h]
  · rw [bearOk, h1, h2, h3, decide_eq_false h4]; rcases h with h | h | h <;> simp [h]
end
end Go.Proofs.YtgeidcdelpenjaaDoor
