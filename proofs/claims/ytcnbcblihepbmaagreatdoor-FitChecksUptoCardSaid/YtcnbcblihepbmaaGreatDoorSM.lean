/- Package stevedorebase: the same texts, labels, requirements. -/
import Derived.Test.YtcnbcblihepbmaaGreatDoorS17
import Derived.Test.YtcnbcblihepbmaaGreatDoorKd
set_option autoImplicit false
set_option linter.unusedVariables false
set_option linter.unusedSimpArgs false
namespace Go.Proofs.YtcnbcblihepbmaaGreatDoor
open Go Go.RowKit
theorem same_ext {α : Type} [Inhabited α] [DecidableEq α] {l m : List α} {i : Nat} (h : (l.length : Int) = m.length) (hi : l.length ≤ i) (hj : ∀ j, j < i → l[j]! = m[j]!) : decide (l = m) = true :=
  decide_eq_true (list_ext! (by omega) fun j h => hj j (by omega))
theorem same_no {α : Type} [Inhabited α] [DecidableEq α] {l m : List α} {i : Nat} (h : ¬ l[i]! = m[i]!) : decide (l = m) = false := decide_eq_false (fun e => h (by rw [e]))
theorem same_len {α : Type} [DecidableEq α] {l m : List α} (h : ¬ (l.length : Int) = m.length) : decide (l = m) = false := decide_eq_false (fun e => h (by rw [e]))
theorem req_ne1 {a b : Req} (h : ¬ a.Key = b.Key) : ¬ a = b := fun e => h (by rw [e])
theorem req_ne2 {a b : Req} (h : ¬ a.Op = b.Op) : ¬ a = b := fun e => h (by rw [e])
theorem req_ne3 {a b : Req} (h : ¬ a.Values = b.Values) : ¬ a = b := fun e => h (by rw [e])
theorem req_eq {a b : Req} (h1 : a.Key = b.Key) (h2 : a.Op = b.Op) (h3 : a.Values = b.Values) : a = b := by
  cases a; cases b; simp_all
section
attribute [local irreducible] Quiet OpsR Run CallS opS Gh endQ oblE RunN swp Go.Op.equalIn
theorem SameTexts_spec {l m : List ByteArray} {v u : Value} {s : St} (hl : Sl kStr s.I v l) (hm : Sl kStr s.I u m) : CallV Tryz.prog 37 #[v, u] s (.bool (decide (l = m))) := by
  intro K hK
  have hle := hl.len.le
  refine callS_of_run Tryz.func37 rfl ?_; simp only [Tryz.ntmps37, List.size_toArray, List.length_cons, List.length_nil, Nat.reduceAdd, Nat.reduceSub, Array.replicate_succ, Array.replicate_zero, List.push_toArray, List.append_toArray, List.nil_append, List.cons_append]
  refine run_seq fun _ hk1 => ?_
  refine run_region ?_
  refine opsR_q rfl (q_assign) ?_
  simp only [nrm]
  refine opsR_nil ?_
  refine hk1 _ _ ?_
  clear hk1
  refine run_seq fun _ hk2 => ?_
  refine run_seq fun _ hk3 => ?_
  refine run_region ?_
  refine opsR_q rfl (q_move) ?_
  simp only [nrm]
  refine opsR_q rfl (q_len_v rfl (by first | exact Sl.len (by assumption) | exact OwnS.len (by assumption) | exact SlR.len (by assumption) | assumption)) ?_
  simp only [nrm, Nat.reduceAdd, Nat.reduceMul, Nat.reduceSub, Int.reduceToNat, Int.reduceAdd]
  refine opsR_q rfl (q_move) ?_
  simp only [nrm]
  refine opsR_q rfl (q_len_v rfl (by first | exact Sl.len (by assumption) | exact OwnS.len (by assumption) | exact SlR.len (by assumption) | assumption)) ?_
  simp only [nrm, Nat.reduceAdd, Nat.reduceMul, Nat.reduceSub, Int.reduceToNat, Int.reduceAdd]
  refine opsR_q rfl (q_neq rfl rfl) ?_
  simp only [nrm, Nat.reduceAdd, Nat.reduceMul, Nat.reduceSub, Int.reduceToNat, Int.reduceAdd]
  refine opsR_nil ?_
  refine hk3 _ _ ?_
  clear hk3
  refine run_cond rfl (fun ho6 => ?_) (fun ho6 => ?_)
  · have hc6 := ho6; try simp only [spl] at hc6
    refine run_seq fun _ hk7 => ?_
    refine run_region ?_
    refine opsR_q rfl (q_assign) ?_
    simp only [nrm]
    refine opsR_nil ?_
    refine hk7 _ _ ?_
    clear hk7
    refine run_ret ?_
    exact end_tmp rfl rfl rfl ghA (eqK hK (congrArg Go.Value.bool (by exact same_len (by assumption))))
  · have hc6 := ho6; try simp only [spl] at hc6
    refine run_skip ?_
    refine hk2 _ _ ?_
    clear hk2
    refine run_seq fun _ hk8 => ?_
    refine run_seq fun _ hk9 => ?_
    refine run_region ?_
    refine opsR_q rfl (q_assign) ?_
    simp only [nrm]
    refine opsR_nil ?_
    refine hk9 _ _ ?_
    clear hk9
    refine run_block ?_
    refine run_loopF [0, 0, 0, 0, 1, 2, 0, 0, 0, 0, 0, 1, 1, 1, 1, 1, 1, 1, 1, 1, 1, 1, 1, 1, 1, 1] (fun zn zL zst => ∃ (i : Nat), zL = [.int .i64 (i : Nat)] ∧ s = zst ∧ zn = l.length - i ∧ (i ≤ l.length) ∧ (∀ j, j < i → l[j]! = m[j]!)) _ _ ⟨0, rfl, rfl, rfl, by first | assumption | omega | exact Hp.le.rfl | rfl | exact all_zero | exact all_succ (by assumption) (by assumption) | (intro _; omega) | (simp; done), by first | assumption | omega | exact Hp.le.rfl | rfl | exact all_zero | exact all_succ (by assumption) (by assumption) | (intro _; omega) | (simp; done)⟩ rfl ?_
    rintro _ _ _ jv10 ⟨i, rfl, rfl, rfl, hi, hj⟩ K10 hkl10
    simp only [fr, Nat.zero_add, Nat.reduceAdd]
    refine run_seq fun _ hk11 => ?_
    refine run_seq fun _ hk12 => ?_
    refine run_region ?_
    refine opsR_q rfl (q_move) ?_
    simp only [nrm]
    refine opsR_q rfl (q_move) ?_
    simp only [nrm]
    refine opsR_q rfl (q_len_v rfl (by first | exact Sl.len (by assumption) | exact OwnS.len (by assumption) | exact SlR.len (by assumption) | assumption)) ?_
    simp only [nrm, Nat.reduceAdd, Nat.reduceMul, Nat.reduceSub, Int.reduceToNat, Int.reduceAdd]
    refine opsR_q rfl (q_lss rfl rfl) ?_
    simp only [nrm, Nat.reduceAdd, Nat.reduceMul, Nat.reduceSub, Int.reduceToNat, Int.reduceAdd]
    refine opsR_nil ?_
    refine hk12 _ _ ?_
    clear hk12
    refine run_cond rfl (fun ho15 => ?_) (fun ho15 => ?_)
    · have hc15 := ho15; try simp only [spl] at hc15
      refine run_skip ?_
      refine hk11 _ _ ?_
      clear hk11
      refine run_seq fun _ hk16 => ?_
      refine run_block ?_
      refine run_seq fun _ hk17 => ?_
      refine run_drawE mixed 9 (by kernel_rfl) rfl ?_
      simp only [List.take_succ_cons, List.take_zero, List.drop_succ_cons, List.drop_zero, List.drop_nil, List.take_nil]
      refine oblE_q rfl (fun I hI => (q_move)) ?_
      simp only [nrm]
      refine oblE_q rfl (fun I hI => (q_move)) ?_
      simp only [nrm]
      refine oblE_index rfl rfl rfl slrA (by rfl) idxA idxA fun b18 o18 cs18 ha18 hr18 he18 => ?_
      simp only [nrm, Nat.reduceAdd, Nat.reduceMul, Nat.reduceSub, Int.reduceToNat, Int.reduceAdd]
      try simp only [Int.toNat_natCast, Int.reduceToNat, Int.toNat_zero] at hr18
      try simp only [Int.toNat_natCast, Int.reduceToNat, Int.toNat_zero] at he18
      clear ha18
      obtain rfl := hr18
      refine oblE_q rfl (fun I hI => (by first | exact q_load_at1 (i := 0) rfl (El.mono (by assumption) hI) rfl (Nat.le_of_ble_eq_true rfl) rfl | exact q_load_at1 rfl (El.mono (by assumption) hI) rfl (Nat.le_of_ble_eq_true rfl) rfl)) ?_
      simp only [nrm, Nat.reduceAdd, Nat.reduceMul, Nat.reduceSub, Int.reduceToNat, Int.reduceAdd]
      refine oblE_q rfl (fun I hI => (q_move)) ?_
      simp only [nrm]
      refine oblE_q rfl (fun I hI => (q_move)) ?_
      simp only [nrm]
      refine oblE_index rfl rfl rfl slrA (by rfl) idxA idxA fun b20 o20 cs20 ha20 hr20 he20 => ?_
      simp only [nrm, Nat.reduceAdd, Nat.reduceMul, Nat.reduceSub, Int.reduceToNat, Int.reduceAdd]
      try simp only [Int.toNat_natCast, Int.reduceToNat, Int.toNat_zero] at hr20
      try simp only [Int.toNat_natCast, Int.reduceToNat, Int.toNat_zero] at he20
      clear ha20
      obtain rfl := hr20
      refine oblE_q rfl (fun I hI => (by first | exact q_load_at1 (i := 0) rfl (El.mono (by assumption) hI) rfl (Nat.le_of_ble_eq_true rfl) rfl | exact q_load_at1 rfl (El.mono (by assumption) hI) rfl (Nat.le_of_ble_eq_true rfl) rfl)) ?_
      simp only [nrm, Nat.reduceAdd, Nat.reduceMul, Nat.reduceSub, Int.reduceToNat, Int.reduceAdd]
      refine oblE_q rfl (fun I hI => (q_neq_string rfl rfl)) ?_
      simp only [nrm, Nat.reduceAdd, Nat.reduceMul, Nat.reduceSub, Int.reduceToNat, Int.reduceAdd]
      refine oblE_nil (show OpsR _ _ _ _ _ _ from ?_)
      try simp only [nrm, Nat.reduceAdd, Nat.reduceMul, Nat.reduceSub, Int.reduceToNat, Int.reduceAdd]
      refine opsR_nil ?_
      refine hk17 _ _ ?_
      clear hk17
      refine run_cond rfl (fun ho21 => ?_) (fun ho21 => ?_)
      · have hc21 := ho21; try simp only [spl] at hc21
        refine run_seq fun _ hk22 => ?_
        refine run_region ?_
        refine opsR_q rfl (q_assign) ?_
        simp only [nrm]
        refine opsR_nil ?_
        refine hk22 _ _ ?_
        clear hk22
        refine run_ret ?_
        exact end_tmp rfl rfl rfl ghA (eqK hK (congrArg Go.Value.bool (by exact same_no (i := i) (by assumption))))
      · have hc21 := ho21; try simp only [spl] at hc21
        refine run_skip ?_
        refine hk16 _ _ ?_
        clear hk16
        refine run_region ?_
        refine opsR_q rfl (q_move) ?_
        simp only [nrm]
        refine opsR_q rfl (by first | exact q_add64 rfl rfl (by omega) (by omega) | exact q_add rfl rfl) ?_
        simp only [nrm, Nat.reduceAdd, Nat.reduceMul, Nat.reduceSub, Int.reduceToNat, Int.reduceAdd]
        refine opsR_q rfl (q_assign) ?_
        simp only [nrm]
        refine opsR_nil ?_
        first
        | exact hkl10 _ _ _ _ (by omega) ⟨i + 1, rfl, rfl, rfl, by first | omega | exact all_zero | exact all_succ hj (by assumption), by first | omega | exact all_zero | exact all_succ hj (by assumption)⟩ rfl
    · have hc15 := ho15; try simp only [spl] at hc15
      refine run_exit ?_
      refine hk8 _ _ ?_
      clear hk8
      refine run_seq fun _ hk23 => ?_
      refine run_region ?_
      refine opsR_q rfl (q_assign) ?_
      simp only [nrm]
      refine opsR_nil ?_
      refine hk23 _ _ ?_
      clear hk23
      refine run_ret ?_
      first | exact end_tmp rfl rfl rfl ghA hK | exact end_tmp rfl rfl rfl ghA (eqK hK (congrArg Go.Value.bool (by exact same_ext (by assumption) (by omega) hj)))
theorem SameLabels_spec {l m : List Label} {v u : Value} {s : St} (hl : Sl kLabel s.I v l) (hm : Sl kLabel s.I u m) : CallV Tryz.prog 34 #[v, u] s (.bool (decide (l = m))) := by
  intro K hK
  have hle := hl.len.le
  refine callS_of_run Tryz.func34 rfl ?_; simp only [Tryz.ntmps34, List.size_toArray, List.length_cons, List.length_nil, Nat.reduceAdd, Nat.reduceSub, Array.replicate_succ, Array.replicate_zero, List.push_toArray, List.append_toArray, List.nil_append, List.cons_append]
  refine run_seq fun _ hk1 => ?_
  refine run_region ?_
  refine opsR_q rfl (q_assign) ?_
  simp only [nrm]
  refine opsR_nil ?_
  refine hk1 _ _ ?_
  clear hk1
  refine run_seq fun _ hk2 => ?_
  refine run_seq fun _ hk3 => ?_
  refine run_region ?_
  refine opsR_q rfl (q_move) ?_
  simp only [nrm]
  refine opsR_q rfl (q_len_v rfl (by first | exact Sl.len (by assumption) | exact OwnS.len (by assumption) | exact SlR.len (by assumption) | assumption)) ?_
  simp only [nrm, Nat.reduceAdd, Nat.reduceMul, Nat.reduceSub, Int.reduceToNat, Int.reduceAdd]
  refine opsR_q rfl (q_move) ?_
  simp only [nrm]
  refine opsR_q rfl (q_len_v rfl (by first | exact Sl.len (by assumption) | exact OwnS.len (by assumption) | exact SlR.len (by assumption) | assumption)) ?_
  simp only [nrm, Nat.reduceAdd, Nat.reduceMul, Nat.reduceSub, Int.reduceToNat, Int.reduceAdd]
  refine opsR_q rfl (q_neq rfl rfl) ?_
  simp only [nrm, Nat.reduceAdd, Nat.reduceMul, Nat.reduceSub, Int.reduceToNat, Int.reduceAdd]
  refine opsR_nil ?_
  refine hk3 _ _ ?_
  clear hk3
  refine run_cond rfl (fun ho6 => ?_) (fun ho6 => ?_)
  · have hc6 := ho6; try simp only [spl] at hc6
    refine run_seq fun _ hk7 => ?_
    refine run_region ?_
    refine opsR_q rfl (q_assign) ?_
    simp only [nrm]
    refine opsR_nil ?_
    refine hk7 _ _ ?_
    clear hk7
    refine run_ret ?_
    exact end_tmp rfl rfl rfl ghA (eqK hK (congrArg Go.Value.bool (by exact same_len (by assumption))))
  · have hc6 := ho6; try simp only [spl] at hc6
    refine run_skip ?_
    refine hk2 _ _ ?_
    clear hk2
    refine run_seq fun _ hk8 => ?_
    refine run_seq fun _ hk9 => ?_
    refine run_region ?_
    refine opsR_q rfl (q_assign) ?_
    simp only [nrm]
    refine opsR_nil ?_
    refine hk9 _ _ ?_
    clear hk9
    refine run_block ?_
    refine run_loopF [0, 0, 0, 0, 1, 2, 0, 0, 0, 0, 0, 1, 1, 1, 1, 1, 1, 1, 1, 1, 1, 1, 1, 1, 1, 1] (fun zn zL zst => ∃ (i : Nat), zL = [.int .i64 (i : Nat)] ∧ s = zst ∧ zn = l.length - i ∧ (i ≤ l.length) ∧ (∀ j, j < i → l[j]! = m[j]!)) _ _ ⟨0, rfl, rfl, rfl, by first | assumption | omega | exact Hp.le.rfl | rfl | exact all_zero | exact all_succ (by assumption) (by assumption) | (intro _; omega) | (simp; done), by first | assumption | omega | exact Hp.le.rfl | rfl | exact all_zero | exact all_succ (by assumption) (by assumption) | (intro _; omega) | (simp; done)⟩ rfl ?_
    rintro _ _ _ jv10 ⟨i, rfl, rfl, rfl, hi, hj⟩ K10 hkl10
    simp only [fr, Nat.zero_add, Nat.reduceAdd]
    refine run_seq fun _ hk11 => ?_
    refine run_seq fun _ hk12 => ?_
    refine run_region ?_
    refine opsR_q rfl (q_move) ?_
    simp only [nrm]
    refine opsR_q rfl (q_move) ?_
    simp only [nrm]
    refine opsR_q rfl (q_len_v rfl (by first | exact Sl.len (by assumption) | exact OwnS.len (by assumption) | exact SlR.len (by assumption) | assumption)) ?_
    simp only [nrm, Nat.reduceAdd, Nat.reduceMul, Nat.reduceSub, Int.reduceToNat, Int.reduceAdd]
    refine opsR_q rfl (q_lss rfl rfl) ?_
    simp only [nrm, Nat.reduceAdd, Nat.reduceMul, Nat.reduceSub, Int.reduceToNat, Int.reduceAdd]
    refine opsR_nil ?_
    refine hk12 _ _ ?_
    clear hk12
    refine run_cond rfl (fun ho15 => ?_) (fun ho15 => ?_)
    · have hc15 := ho15; try simp only [spl] at hc15
      refine run_skip ?_
      refine hk11 _ _ ?_
      clear hk11
      refine run_seq fun _ hk16 => ?_
      refine run_block ?_
      refine run_seq fun _ hk17 => ?_
      refine run_drawE mixed 9 (by kernel_rfl) rfl ?_
      simp only [List.take_succ_cons, List.take_zero, List.drop_succ_cons, List.drop_zero, List.drop_nil, List.take_nil]
      refine oblE_q rfl (fun I hI => (q_move)) ?_
      simp only [nrm]
      refine oblE_q rfl (fun I hI => (q_move)) ?_
      simp only [nrm]
      refine oblE_index rfl rfl rfl slrA (by rfl) idxA idxA fun b18 o18 cs18 ha18 hr18 he18 => ?_
      simp only [nrm, Nat.reduceAdd, Nat.reduceMul, Nat.reduceSub, Int.reduceToNat, Int.reduceAdd]
      try simp only [Int.toNat_natCast, Int.reduceToNat, Int.toNat_zero] at hr18
      try simp only [Int.toNat_natCast, Int.reduceToNat, Int.toNat_zero] at he18
      clear ha18
      obtain rfl := kLabel.open hr18
      refine oblE_q rfl (fun I hI => (by first | exact q_load_atW rfl (El.mono (by assumption) hI) (by rfl) rfl | exact q_load_atN0 rfl (El.mono (by assumption) hI) rfl rfl | exact q_load_atN rfl (El.mono (by assumption) hI) rfl (Nat.le_of_ble_eq_true rfl) (Nat.le_of_ble_eq_true rfl))) ?_
      simp only [nrm, Nat.reduceAdd, Nat.reduceMul, Nat.reduceSub, Int.reduceToNat, Int.reduceAdd]
      refine oblE_q rfl (fun I hI => (q_move)) ?_
      simp only [nrm]
      refine oblE_q rfl (fun I hI => (q_move)) ?_
      simp only [nrm]
      refine oblE_index rfl rfl rfl slrA (by rfl) idxA idxA fun b20 o20 cs20 ha20 hr20 he20 => ?_
      simp only [nrm, Nat.reduceAdd, Nat.reduceMul, Nat.reduceSub, Int.reduceToNat, Int.reduceAdd]
      try simp only [Int.toNat_natCast, Int.reduceToNat, Int.toNat_zero] at hr20
      try simp only [Int.toNat_natCast, Int.reduceToNat, Int.toNat_zero] at he20
      clear ha20
      obtain rfl := kLabel.open hr20
      refine oblE_q rfl (fun I hI => (by first | exact q_load_atW rfl (El.mono (by assumption) hI) (by rfl) rfl | exact q_load_atN0 rfl (El.mono (by assumption) hI) rfl rfl | exact q_load_atN rfl (El.mono (by assumption) hI) rfl (Nat.le_of_ble_eq_true rfl) (Nat.le_of_ble_eq_true rfl))) ?_
      simp only [nrm, Nat.reduceAdd, Nat.reduceMul, Nat.reduceSub, Int.reduceToNat, Int.reduceAdd]
      refine oblE_q rfl (fun I hI => (q_neq_agg rfl rfl (fun m K h => kLabel.eqL (m + 6) h))) ?_
      simp only [nrm, Nat.reduceAdd, Nat.reduceMul, Nat.reduceSub, Int.reduceToNat, Int.reduceAdd]
      refine oblE_nil (show OpsR _ _ _ _ _ _ from ?_)
      try simp only [nrm, Nat.reduceAdd, Nat.reduceMul, Nat.reduceSub, Int.reduceToNat, Int.reduceAdd]
      refine opsR_nil ?_
      refine hk17 _ _ ?_
      clear hk17
      refine run_cond rfl (fun ho21 => ?_) (fun ho21 => ?_)
      · have hc21 := ho21; try simp only [spl] at hc21
        refine run_seq fun _ hk22 => ?_
        refine run_region ?_
        refine opsR_q rfl (q_assign) ?_
        simp only [nrm]
        refine opsR_nil ?_
        refine hk22 _ _ ?_
        clear hk22
        refine run_ret ?_
        exact end_tmp rfl rfl rfl ghA (eqK hK (congrArg Go.Value.bool (by exact same_no (i := i) (by assumption))))
      · have hc21 := ho21; try simp only [spl] at hc21
        refine run_skip ?_
        refine hk16 _ _ ?_
        clear hk16
        refine run_region ?_
        refine opsR_q rfl (q_move) ?_
        simp only [nrm]
        refine opsR_q rfl (by first | exact q_add64 rfl rfl (by omega) (by omega) | exact q_add rfl rfl) ?_
        simp only [nrm, Nat.reduceAdd, Nat.reduceMul, Nat.reduceSub, Int.reduceToNat, Int.reduceAdd]
        refine opsR_q rfl (q_assign) ?_
        simp only [nrm]
        refine opsR_nil ?_
        first
        | exact hkl10 _ _ _ _ (by omega) ⟨i + 1, rfl, rfl, rfl, by first | omega | exact all_zero | exact all_succ hj (by assumption), by first | omega | exact all_zero | exact all_succ hj (by assumption)⟩ rfl
    · have hc15 := ho15; try simp only [spl] at hc15
      refine run_exit ?_
      refine hk8 _ _ ?_
      clear hk8
      refine run_seq fun _ hk23 => ?_
      refine run_region ?_
      refine opsR_q rfl (q_assign) ?_
      simp only [nrm]
      refine opsR_nil ?_
      refine hk23 _ _ ?_
      clear hk23
      refine run_ret ?_
      first | exact end_tmp rfl rfl rfl ghA hK | exact end_tmp rfl rfl rfl ghA (eqK hK (congrArg Go.Value.bool (by exact same_ext (by assumption) (by omega) hj)))
theorem SameReqs_spec {l m : List Req} {v u : Value} {s : St} (hl : Sl kReq s.I v l) (hm : Sl kReq s.I u m) : CallV Tryz.prog 35 #[v, u] s (.bool (decide (l = m))) := by
  intro K hK
  have hle := hl.len.le
  refine callS_of_run Tryz.func35 rfl ?_; simp only [Tryz.ntmps35, List.size_toArray, List.length_cons, List.length_nil, Nat.reduceAdd, Nat.reduceSub, Array.replicate_succ, Array.replicate_zero, List.push_toArray, List.append_toArray, List.nil_append, List.cons_append]
  refine run_seq fun _ hk1 => ?_
  refine run_region ?_
  refine opsR_q rfl (q_assign) ?_
  simp only [nrm]
  refine opsR_nil ?_
  refine hk1 _ _ ?_
  clear hk1
  refine run_seq fun _ hk2 => ?_
  refine run_seq fun _ hk3 => ?_
  refine run_region ?_
  refine opsR_q rfl (q_move) ?_
  simp only [nrm]
  refine opsR_q rfl (q_len_v rfl (by first | exact Sl.len (by assumption) | exact OwnS.len (by assumption) | exact SlR.len (by assumption) | assumption)) ?_
  simp only [nrm, Nat.reduceAdd, Nat.reduceMul, Nat.reduceSub, Int.reduceToNat, Int.reduceAdd]
  refine opsR_q rfl (q_move) ?_
  simp only [nrm]
  refine opsR_q rfl (q_len_v rfl (by first | exact Sl.len (by assumption) | exact OwnS.len (by assumption) | exact SlR.len (by assumption) | assumption)) ?_
  simp only [nrm, Nat.reduceAdd, Nat.reduceMul, Nat.reduceSub, Int.reduceToNat, Int.reduceAdd]
  refine opsR_q rfl (q_neq rfl rfl) ?_
  simp only [nrm, Nat.reduceAdd, Nat.reduceMul, Nat.reduceSub, Int.reduceToNat, Int.reduceAdd]
  refine opsR_nil ?_
  refine hk3 _ _ ?_
  clear hk3
  refine run_cond rfl (fun ho6 => ?_) (fun ho6 => ?_)
  · have hc6 := ho6; try simp only [spl] at hc6
    refine run_seq fun _ hk7 => ?_
    refine run_region ?_
    refine opsR_q rfl (q_assign) ?_
    simp only [nrm]
    refine opsR_nil ?_
    refine hk7 _ _ ?_
    clear hk7
    refine run_ret ?_
    exact end_tmp rfl rfl rfl ghA (eqK hK (congrArg Go.Value.bool (by exact same_len (by assumption))))
  · have hc6 := ho6; try simp only [spl] at hc6
    refine run_skip ?_
    refine hk2 _ _ ?_
    clear hk2
    refine run_seq fun _ hk8 => ?_
    refine run_seq fun _ hk9 => ?_
    refine run_region ?_
    refine opsR_q rfl (q_assign) ?_
    simp only [nrm]
    refine opsR_nil ?_
    refine hk9 _ _ ?_
    clear hk9
    refine run_block ?_
    refine run_loopF [0, 0, 0, 0, 1, 2, 0, 0, 0, 0, 0, 1, 1, 1, 1, 1, 1, 1, 1, 1, 1, 1, 1, 1, 1, 1, 1, 1, 1, 1, 1, 1, 1, 1, 1, 1, 1, 1, 1, 1, 1, 1, 1, 1, 1, 1, 1, 1, 1, 1, 1, 1, 1, 1, 1] (fun zn zL zst => ∃ (i : Nat), zL = [.int .i64 (i : Nat)] ∧ s = zst ∧ zn = l.length - i ∧ (i ≤ l.length) ∧ (∀ j, j < i → l[j]! = m[j]!)) _ _ ⟨0, rfl, rfl, rfl, by first | assumption | omega | exact Hp.le.rfl | rfl | exact all_zero | exact all_succ (by assumption) (by assumption) | (intro _; omega) | (simp; done), by first | assumption | omega | exact Hp.le.rfl | rfl | exact all_zero | exact all_succ (by assumption) (by assumption) | (intro _; omega) | (simp; done)⟩ rfl ?_
    rintro _ _ _ jv10 ⟨i, rfl, rfl, rfl, hi, hj⟩ K10 hkl10
    simp only [fr, Nat.zero_add, Nat.reduceAdd]
    refine run_seq fun _ hk11 => ?_
    refine run_seq fun _ hk12 => ?_
    refine run_region ?_
    refine opsR_q rfl (q_move) ?_
    simp only [nrm]
    refine opsR_q rfl (q_move) ?_
    simp only [nrm]
    refine opsR_q rfl (q_len_v rfl (by first | exact Sl.len (by assumption) | exact OwnS.len (by assumption) | exact SlR.len (by assumption) | assumption)) ?_
    simp only [nrm, Nat.reduceAdd, Nat.reduceMul, Nat.reduceSub, Int.reduceToNat, Int.reduceAdd]
    refine opsR_q rfl (q_lss rfl rfl) ?_
    simp only [nrm, Nat.reduceAdd, Nat.reduceMul, Nat.reduceSub, Int.reduceToNat, Int.reduceAdd]
    refine opsR_nil ?_
    refine hk12 _ _ ?_
    clear hk12
    refine run_cond rfl (fun ho15 => ?_) (fun ho15 => ?_)
    · have hc15 := ho15; try simp only [spl] at hc15
      refine run_skip ?_
      refine hk11 _ _ ?_
      clear hk11
      refine run_seq fun _ hk16 => ?_
      refine run_block ?_
      refine run_seq fun _ hk17 => ?_
      refine run_drawE mixed 38 (by kernel_rfl) rfl ?_
      simp only [List.take_succ_cons, List.take_zero, List.drop_succ_cons, List.drop_zero, List.drop_nil, List.take_nil]
      refine oblE_q rfl (fun I hI => (q_move)) ?_
      simp only [nrm]
      refine oblE_q rfl (fun I hI => (q_move)) ?_
      simp only [nrm]
      refine oblE_index rfl rfl rfl slrA (by rfl) idxA idxA fun b18 o18 cs18 ha18 hr18 he18 => ?_
      simp only [nrm, Nat.reduceAdd, Nat.reduceMul, Nat.reduceSub, Int.reduceToNat, Int.reduceAdd]
      try simp only [Int.toNat_natCast, Int.reduceToNat, Int.toNat_zero] at hr18
      try simp only [Int.toNat_natCast, Int.reduceToNat, Int.toNat_zero] at he18
      clear ha18
      obtain ⟨w18_Values, rfl, h18_Values⟩ := kReq.open hr18
      refine oblE_q rfl (fun I hI => (q_fieldAddr rfl)) ?_
      simp only [nrm, Nat.reduceAdd, Nat.reduceMul, Nat.reduceSub, Int.reduceToNat, Int.reduceAdd]
      refine oblE_q rfl (fun I hI => (by first | exact q_load_at1 (i := 0) rfl (El.mono (by assumption) hI) rfl (Nat.le_of_ble_eq_true rfl) rfl | exact q_load_at1 rfl (El.mono (by assumption) hI) rfl (Nat.le_of_ble_eq_true rfl) rfl)) ?_
      simp only [nrm, Nat.reduceAdd, Nat.reduceMul, Nat.reduceSub, Int.reduceToNat, Int.reduceAdd]
      refine oblE_q rfl (fun I hI => (q_move)) ?_
      simp only [nrm]
      refine oblE_q rfl (fun I hI => (q_move)) ?_
      simp only [nrm]
      refine oblE_index rfl rfl rfl slrA (by rfl) idxA idxA fun b20 o20 cs20 ha20 hr20 he20 => ?_
      simp only [nrm, Nat.reduceAdd, Nat.reduceMul, Nat.reduceSub, Int.reduceToNat, Int.reduceAdd]
      try simp only [Int.toNat_natCast, Int.reduceToNat, Int.toNat_zero] at hr20
      try simp only [Int.toNat_natCast, Int.reduceToNat, Int.toNat_zero] at he20
      clear ha20
      obtain ⟨w20_Values, rfl, h20_Values⟩ := kReq.open hr20
      refine oblE_q rfl (fun I hI => (q_fieldAddr rfl)) ?_
      simp only [nrm, Nat.reduceAdd, Nat.reduceMul, Nat.reduceSub, Int.reduceToNat, Int.reduceAdd]
      refine oblE_q rfl (fun I hI => (by first | exact q_load_at1 (i := 0) rfl (El.mono (by assumption) hI) rfl (Nat.le_of_ble_eq_true rfl) rfl | exact q_load_at1 rfl (El.mono (by assumption) hI) rfl (Nat.le_of_ble_eq_true rfl) rfl)) ?_
      simp only [nrm, Nat.reduceAdd, Nat.reduceMul, Nat.reduceSub, Int.reduceToNat, Int.reduceAdd]
      refine oblE_q rfl (fun I hI => (q_neq_string rfl rfl)) ?_
      simp only [nrm, Nat.reduceAdd, Nat.reduceMul, Nat.reduceSub, Int.reduceToNat, Int.reduceAdd]
      refine oblE_qb rfl (fun I hI => (q_move)) (fun hc21 => ?_) (fun hc21 => ?_)
      · have ho21 := hc21; try simp only [spl] at hc21
        simp only [nrm, Nat.reduceAdd, Nat.reduceMul, Nat.reduceSub, Int.reduceToNat, Int.reduceAdd]
        refine oblE_skip rfl ?_
        simp only [nrm, Nat.reduceAdd, Nat.reduceMul, Nat.reduceSub, Int.reduceToNat, Int.reduceAdd]
        refine oblE_skip rfl ?_
        simp only [nrm, Nat.reduceAdd, Nat.reduceMul, Nat.reduceSub, Int.reduceToNat, Int.reduceAdd]
        refine oblE_skip rfl ?_
        simp only [nrm, Nat.reduceAdd, Nat.reduceMul, Nat.reduceSub, Int.reduceToNat, Int.reduceAdd]
        refine oblE_skip rfl ?_
        simp only [nrm, Nat.reduceAdd, Nat.reduceMul, Nat.reduceSub, Int.reduceToNat, Int.reduceAdd]
        refine oblE_skip rfl ?_
        simp only [nrm, Nat.reduceAdd, Nat.reduceMul, Nat.reduceSub, Int.reduceToNat, Int.reduceAdd]
        refine oblE_skip rfl ?_
        simp only [nrm, Nat.reduceAdd, Nat.reduceMul, Nat.reduceSub, Int.reduceToNat, Int.reduceAdd]
        refine oblE_skip rfl ?_
        simp only [nrm, Nat.reduceAdd, Nat.reduceMul, Nat.reduceSub, Int.reduceToNat, Int.reduceAdd]
        refine oblE_skip rfl ?_
        simp only [nrm, Nat.reduceAdd, Nat.reduceMul, Nat.reduceSub, Int.reduceToNat, Int.reduceAdd]
        refine oblE_skip rfl ?_
        simp only [nrm, Nat.reduceAdd, Nat.reduceMul, Nat.reduceSub, Int.reduceToNat, Int.reduceAdd]
        refine oblE_skip rfl ?_
        simp only [nrm, Nat.reduceAdd, Nat.reduceMul, Nat.reduceSub, Int.reduceToNat, Int.reduceAdd]
        refine oblE_skip rfl ?_
        simp only [nrm, Nat.reduceAdd, Nat.reduceMul, Nat.reduceSub, Int.reduceToNat, Int.reduceAdd]
        refine oblE_q rfl (fun I hI => (q_pick_t rfl)) ?_
        simp only [nrm]
        refine oblE_q rfl (fun I hI => (q_move)) ?_
        simp only [nrm]
        refine oblE_skip rfl ?_
        simp only [nrm, Nat.reduceAdd, Nat.reduceMul, Nat.reduceSub, Int.reduceToNat, Int.reduceAdd]
        refine oblE_skip rfl ?_
        simp only [nrm, Nat.reduceAdd, Nat.reduceMul, Nat.reduceSub, Int.reduceToNat, Int.reduceAdd]
        refine oblE_skip rfl ?_
        simp only [nrm, Nat.reduceAdd, Nat.reduceMul, Nat.reduceSub, Int.reduceToNat, Int.reduceAdd]
        refine oblE_skip rfl ?_
        simp only [nrm, Nat.reduceAdd, Nat.reduceMul, Nat.reduceSub, Int.reduceToNat, Int.reduceAdd]
        refine oblE_skip rfl ?_
        simp only [nrm, Nat.reduceAdd, Nat.reduceMul, Nat.reduceSub, Int.reduceToNat, Int.reduceAdd]
        refine oblE_skip rfl ?_
        simp only [nrm, Nat.reduceAdd, Nat.reduceMul, Nat.reduceSub, Int.reduceToNat, Int.reduceAdd]
        refine oblE_skip rfl ?_
        simp only [nrm, Nat.reduceAdd, Nat.reduceMul, Nat.reduceSub, Int.reduceToNat, Int.reduceAdd]
        refine oblE_skip rfl ?_
        simp only [nrm, Nat.reduceAdd, Nat.reduceMul, Nat.reduceSub, Int.reduceToNat, Int.reduceAdd]
        refine oblE_skip rfl ?_
        simp only [nrm, Nat.reduceAdd, Nat.reduceMul, Nat.reduceSub, Int.reduceToNat, Int.reduceAdd]
        refine oblE_skip rfl ?_
        simp only [nrm, Nat.reduceAdd, Nat.reduceMul, Nat.reduceSub, Int.reduceToNat, Int.reduceAdd]
        refine oblE_skip rfl ?_
        simp only [nrm, Nat.reduceAdd, Nat.reduceMul, Nat.reduceSub, Int.reduceToNat, Int.reduceAdd]
        refine oblE_skip rfl ?_
        simp only [nrm, Nat.reduceAdd, Nat.reduceMul, Nat.reduceSub, Int.reduceToNat, Int.reduceAdd]
        refine oblE_q rfl (fun I hI => (q_pick_t rfl)) ?_
        simp only [nrm]
        refine oblE_nil (show OpsR _ _ _ _ _ _ from ?_)
        try simp only [nrm, Nat.reduceAdd, Nat.reduceMul, Nat.reduceSub, Int.reduceToNat, Int.reduceAdd]
        refine opsR_nil ?_
        refine hk17 _ _ ?_
        clear hk17
        refine run_cond (t := true) rfl (fun _ => ?_) (fun h => by cases h)
        refine run_seq fun _ hk22 => ?_
        refine run_region ?_
        refine opsR_q rfl (q_assign) ?_
        simp only [nrm]
        refine opsR_nil ?_
        refine hk22 _ _ ?_
        clear hk22
        refine run_ret ?_
        exact end_tmp rfl rfl rfl ghA (eqK hK (congrArg Go.Value.bool (by exact same_no (i := i) (by first | exact req_ne1 (by assumption) | exact req_ne2 (by assumption) | exact req_ne3 (by assumption)))))
      · have ho21 := hc21; try simp only [spl] at hc21
        simp only [nrm, Nat.reduceAdd, Nat.reduceMul, Nat.reduceSub, Int.reduceToNat, Int.reduceAdd]
        refine oblE_q rfl (fun I hI => (q_move)) ?_
        simp only [nrm]
        refine oblE_q rfl (fun I hI => (q_move)) ?_
        simp only [nrm]
        refine oblE_index rfl rfl rfl slrA (by rfl) idxA idxA fun b23 o23 cs23 ha23 hr23 he23 => ?_
        simp only [nrm, Nat.reduceAdd, Nat.reduceMul, Nat.reduceSub, Int.reduceToNat, Int.reduceAdd]
        try simp only [Int.toNat_natCast, Int.reduceToNat, Int.toNat_zero] at hr23
        try simp only [Int.toNat_natCast, Int.reduceToNat, Int.toNat_zero] at he23
        clear ha23
        obtain ⟨w23_Values, rfl, h23_Values⟩ := kReq.open hr23
        refine oblE_q rfl (fun I hI => (q_fieldAddr rfl)) ?_
        simp only [nrm, Nat.reduceAdd, Nat.reduceMul, Nat.reduceSub, Int.reduceToNat, Int.reduceAdd]
        refine oblE_q rfl (fun I hI => (by first | exact q_load_at1 (i := 0) rfl (El.mono (by assumption) hI) rfl (Nat.le_of_ble_eq_true rfl) rfl | exact q_load_at1 rfl (El.mono (by assumption) hI) rfl (Nat.le_of_ble_eq_true rfl) rfl)) ?_
        simp only [nrm, Nat.reduceAdd, Nat.reduceMul, Nat.reduceSub, Int.reduceToNat, Int.reduceAdd]
        refine oblE_q rfl (fun I hI => (q_move)) ?_
        simp only [nrm]
        refine oblE_q rfl (fun I hI => (q_move)) ?_
        simp only [nrm]
        refine oblE_index rfl rfl rfl slrA (by rfl) idxA idxA fun b24 o24 cs24 ha24 hr24 he24 => ?_
        simp only [nrm, Nat.reduceAdd, Nat.reduceMul, Nat.reduceSub, Int.reduceToNat, Int.reduceAdd]
        try simp only [Int.toNat_natCast, Int.reduceToNat, Int.toNat_zero] at hr24
        try simp only [Int.toNat_natCast, Int.reduceToNat, Int.toNat_zero] at he24
        clear ha24
        obtain ⟨w24_Values, rfl, h24_Values⟩ := kReq.open hr24
        refine oblE_q rfl (fun I hI => (q_fieldAddr rfl)) ?_
        simp only [nrm, Nat.reduceAdd, Nat.reduceMul, Nat.reduceSub, Int.reduceToNat, Int.reduceAdd]
        refine oblE_q rfl (fun I hI => (by first | exact q_load_at1 (i := 0) rfl (El.mono (by assumption) hI) rfl (Nat.le_of_ble_eq_true rfl) rfl | exact q_load_at1 rfl (El.mono (by assumption) hI) rfl (Nat.le_of_ble_eq_true rfl) rfl)) ?_
        simp only [nrm, Nat.reduceAdd, Nat.reduceMul, Nat.reduceSub, Int.reduceToNat, Int.reduceAdd]
        refine oblE_q rfl (fun I hI => (q_neq rfl rfl)) ?_
        simp only [nrm, Nat.reduceAdd, Nat.reduceMul, Nat.reduceSub, Int.reduceToNat, Int.reduceAdd]
        refine oblE_q rfl (fun I hI => (q_pick_f rfl)) ?_
        simp only [nrm]
        refine oblE_qb rfl (fun I hI => (q_move)) (fun hc25 => ?_) (fun hc25 => ?_)
        · have ho25 := hc25; try simp only [spl] at hc25
          simp only [nrm, Nat.reduceAdd, Nat.reduceMul, Nat.reduceSub, Int.reduceToNat, Int.reduceAdd]
          refine oblE_skip rfl ?_
          simp only [nrm, Nat.reduceAdd, Nat.reduceMul, Nat.reduceSub, Int.reduceToNat, Int.reduceAdd]
          refine oblE_skip rfl ?_
          simp only [nrm, Nat.reduceAdd, Nat.reduceMul, Nat.reduceSub, Int.reduceToNat, Int.reduceAdd]
          refine oblE_skip rfl ?_
          simp only [nrm, Nat.reduceAdd, Nat.reduceMul, Nat.reduceSub, Int.reduceToNat, Int.reduceAdd]
          refine oblE_skip rfl ?_
          simp only [nrm, Nat.reduceAdd, Nat.reduceMul, Nat.reduceSub, Int.reduceToNat, Int.reduceAdd]
          refine oblE_skip rfl ?_
          simp only [nrm, Nat.reduceAdd, Nat.reduceMul, Nat.reduceSub, Int.reduceToNat, Int.reduceAdd]
          refine oblE_skip rfl ?_
          simp only [nrm, Nat.reduceAdd, Nat.reduceMul, Nat.reduceSub, Int.reduceToNat, Int.reduceAdd]
          refine oblE_skip rfl ?_
          simp only [nrm, Nat.reduceAdd, Nat.reduceMul, Nat.reduceSub, Int.reduceToNat, Int.reduceAdd]
          refine oblE_skip rfl ?_
          simp only [nrm, Nat.reduceAdd, Nat.reduceMul, Nat.reduceSub, Int.reduceToNat, Int.reduceAdd]
          refine oblE_skip rfl ?_
          simp only [nrm, Nat.reduceAdd, Nat.reduceMul, Nat.reduceSub, Int.reduceToNat, Int.reduceAdd]
          refine oblE_skip rfl ?_
          simp only [nrm, Nat.reduceAdd, Nat.reduceMul, Nat.reduceSub, Int.reduceToNat, Int.reduceAdd]
          refine oblE_skip rfl ?_
          simp only [nrm, Nat.reduceAdd, Nat.reduceMul, Nat.reduceSub, Int.reduceToNat, Int.reduceAdd]
          refine oblE_skip rfl ?_
          simp only [nrm, Nat.reduceAdd, Nat.reduceMul, Nat.reduceSub, Int.reduceToNat, Int.reduceAdd]
          refine oblE_q rfl (fun I hI => (q_pick_t rfl)) ?_
          simp only [nrm]
          refine oblE_nil (show OpsR _ _ _ _ _ _ from ?_)
          try simp only [nrm, Nat.reduceAdd, Nat.reduceMul, Nat.reduceSub, Int.reduceToNat, Int.reduceAdd]
          refine opsR_nil ?_
          refine hk17 _ _ ?_
          clear hk17
          refine run_cond (t := true) rfl (fun _ => ?_) (fun h => by cases h)
          refine run_seq fun _ hk26 => ?_
          refine run_region ?_
          refine opsR_q rfl (q_assign) ?_
          simp only [nrm]
          refine opsR_nil ?_
          refine hk26 _ _ ?_
          clear hk26
          refine run_ret ?_
          exact end_tmp rfl rfl rfl ghA (eqK hK (congrArg Go.Value.bool (by exact same_no (i := i) (by first | exact req_ne1 (by assumption) | exact req_ne2 (by assumption) | exact req_ne3 (by assumption)))))
        · have ho25 := hc25; try simp only [spl] at hc25
          simp only [nrm, Nat.reduceAdd, Nat.reduceMul, Nat.reduceSub, Int.reduceToNat, Int.reduceAdd]
          refine oblE_q rfl (fun I hI => (q_move)) ?_
          simp only [nrm]
          refine oblE_q rfl (fun I hI => (q_move)) ?_
          simp only [nrm]
          refine oblE_index rfl rfl rfl slrA (by rfl) idxA idxA fun b27 o27 cs27 ha27 hr27 he27 => ?_
          simp only [nrm, Nat.reduceAdd, Nat.reduceMul, Nat.reduceSub, Int.reduceToNat, Int.reduceAdd]
          try simp only [Int.toNat_natCast, Int.reduceToNat, Int.toNat_zero] at hr27
          try simp only [Int.toNat_natCast, Int.reduceToNat, Int.toNat_zero] at he27
          clear ha27
          obtain ⟨w27_Values, rfl, h27_Values⟩ := kReq.open hr27
          refine oblE_q rfl (fun I hI => (q_fieldAddr rfl)) ?_
          simp only [nrm, Nat.reduceAdd, Nat.reduceMul, Nat.reduceSub, Int.reduceToNat, Int.reduceAdd]
          refine oblE_q rfl (fun I hI => (by first | exact q_load_at1 (i := 0) rfl (El.mono (by assumption) hI) rfl (Nat.le_of_ble_eq_true rfl) rfl | exact q_load_at1 rfl (El.mono (by assumption) hI) rfl (Nat.le_of_ble_eq_true rfl) rfl)) ?_
          simp only [nrm, Nat.reduceAdd, Nat.reduceMul, Nat.reduceSub, Int.reduceToNat, Int.reduceAdd]
          refine oblE_q rfl (fun I hI => (q_move)) ?_
          simp only [nrm]
          refine oblE_q rfl (fun I hI => (q_move)) ?_
          simp only [nrm]
          refine oblE_index rfl rfl rfl slrA (by rfl) idxA idxA fun b28 o28 cs28 ha28 hr28 he28 => ?_
          simp only [nrm, Nat.reduceAdd, Nat.reduceMul, Nat.reduceSub, Int.reduceToNat, Int.reduceAdd]
          try simp only [Int.toNat_natCast, Int.reduceToNat, Int.toNat_zero] at hr28
          try simp only [Int.toNat_natCast, Int.reduceToNat, Int.toNat_zero] at he28
          clear ha28
          obtain ⟨w28_Values, rfl, h28_Values⟩ := kReq.open hr28
          refine oblE_q rfl (fun I hI => (q_fieldAddr rfl)) ?_
          simp only [nrm, Nat.reduceAdd, Nat.reduceMul, Nat.reduceSub, Int.reduceToNat, Int.reduceAdd]
          refine oblE_q rfl (fun I hI => (by first | exact q_load_at1 (i := 0) rfl (El.mono (by assumption) hI) rfl (Nat.le_of_ble_eq_true rfl) rfl | exact q_load_at1 rfl (El.mono (by assumption) hI) rfl (Nat.le_of_ble_eq_true rfl) rfl)) ?_
          simp only [nrm, Nat.reduceAdd, Nat.reduceMul, Nat.reduceSub, Int.reduceToNat, Int.reduceAdd]
          refine oblE_q rfl (fun I hI => (q_call rfl (SameTexts_spec (by first | assumption | (refine Sl.mono ?_ (by assumption); exact leA)) (by first | assumption | (refine Sl.mono ?_ (by assumption); exact leA))))) ?_
          simp only [nrm, Nat.reduceAdd, Nat.reduceMul, Nat.reduceSub, Int.reduceToNat, Int.reduceAdd]
          refine oblE_q rfl (fun I hI => (q_not rfl)) ?_
          simp only [nrm]
          refine oblE_q rfl (fun I hI => (q_pick_f rfl)) ?_
          simp only [nrm]
          refine oblE_nil (show OpsR _ _ _ _ _ _ from ?_)
          try simp only [nrm, Nat.reduceAdd, Nat.reduceMul, Nat.reduceSub, Int.reduceToNat, Int.reduceAdd]
          refine opsR_nil ?_
          refine hk17 _ _ ?_
          clear hk17
          refine run_cond rfl (fun ho29 => ?_) (fun ho29 => ?_)
          · have hc29 := ho29; try simp only [spl] at hc29
            refine run_seq fun _ hk30 => ?_
            refine run_region ?_
            refine opsR_q rfl (q_assign) ?_
            simp only [nrm]
            refine opsR_nil ?_
            refine hk30 _ _ ?_
            clear hk30
            refine run_ret ?_
            exact end_tmp rfl rfl rfl ghA (eqK hK (congrArg Go.Value.bool (by exact same_no (i := i) (by first | exact req_ne1 (by assumption) | exact req_ne2 (by assumption) | exact req_ne3 (by assumption)))))
          · have hc29 := ho29; try simp only [spl] at hc29
            refine run_skip ?_
            refine hk16 _ _ ?_
            clear hk16
            refine run_region ?_
            refine opsR_q rfl (q_move) ?_
            simp only [nrm]
            refine opsR_q rfl (by first | exact q_add64 rfl rfl (by omega) (by omega) | exact q_add rfl rfl) ?_
            simp only [nrm, Nat.reduceAdd, Nat.reduceMul, Nat.reduceSub, Int.reduceToNat, Int.reduceAdd]
            refine opsR_q rfl (q_assign) ?_
            simp only [nrm]
            refine opsR_nil ?_
            first
            | exact hkl10 _ _ _ _ (by omega) ⟨i + 1, rfl, rfl, rfl, by first | omega | exact all_zero | exact all_succ hj (req_eq (by assumption) (by assumption) (by assumption)), by first | omega | exact all_zero | exact all_succ hj (req_eq (by assumption) (by assumption) (by assumption))⟩ rfl
    · have hc15 := ho15; try simp only [spl] at hc15
      refine run_exit ?_
      refine hk8 _ _ ?_
      clear hk8
      refine run_seq fun _ hk31 => ?_
      refine run_region ?_
      refine opsR_q rfl (q_assign) ?_
      simp only [nrm]
      refine opsR_nil ?_
      refine hk31 _ _ ?_
      clear hk31
      refine run_ret ?_
      first | exact end_tmp rfl rfl rfl ghA hK | exact end_tmp rfl rfl rfl ghA (eqK hK (congrArg Go.Value.bool (by exact same_ext (by assumption) (by omega) hj)))
end
end Go.Proofs.YtcnbcblihepbmaaGreatDoor
