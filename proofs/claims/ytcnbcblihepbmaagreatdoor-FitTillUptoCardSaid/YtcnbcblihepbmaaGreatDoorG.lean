/- Go's generic functions over slices, at the instances that the seat holds. -/
import Derived.Test.YtcnbcblihepbmaaGreatDoorKd
import Derived.Test.YtcnbcblihepbmaaGreatDoorS16
set_option autoImplicit false
set_option linter.unusedVariables false
set_option linter.unusedSimpArgs false
namespace Go.Proofs.YtcnbcblihepbmaaGreatDoor
open Go Go.RowKit
attribute [local irreducible] Quiet OpsR Run CallS opS Gh endQ oblE RunN
set_option maxHeartbeats 1000000 in
theorem IndexFunc_Int {xs : List Int} {p : Int → Bool} {v : Value} {n : FuncId} [FnOk Tryz.prog n] {fi ca : List Value} {s : St} (hs : SlR (kInt .i64) s v xs) (hf : ∀ x cs, x ∈ xs → (kInt .i64).rep s.I x cs → CallV Tryz.prog n (fi ++ ([cs.headD undef] ++ ca)).toArray s (.bool (p x))) :
    CallV Tryz.prog 95 #[v, .func (.func n) fi.toArray ca.toArray] s (.int .i64 (idxF p xs)) := by
  intro K hK
  have hle := hs.len.le
  refine callS_of_run Tryz.func95 rfl ?_; simp only [Tryz.ntmps95, List.size_toArray, List.length_cons, List.length_nil, Nat.reduceAdd, Nat.reduceSub, Array.replicate_succ, Array.replicate_zero, List.push_toArray, List.append_toArray, List.nil_append, List.cons_append]
  refine run_seq fun _ hk1 => ?_
  refine run_region ?_
  refine opsR_q rfl (q_assign) ?_
  simp only [nrm]
  refine opsR_nil ?_
  refine hk1 _ _ ?_
  clear hk1
  refine run_seq fun _ hk2 => ?_
  refine run_seq fun _ hk3 => ?_
  refine run_region ?_
  refine opsR_q rfl (q_move) ?_
  simp only [nrm]
  refine opsR_q rfl (q_len_v rfl (by first | exact Sl.len (by assumption) | exact OwnS.len (by assumption) | exact SlR.len (by assumption) | assumption)) ?_
  simp only [nrm, Nat.reduceAdd, Nat.reduceMul, Nat.reduceSub, Int.reduceToNat, Int.reduceAdd]
  refine opsR_q rfl (q_move) ?_
  simp only [nrm]
  refine opsR_nil ?_
  refine hk3 _ _ ?_
  clear hk3
  refine run_block ?_
  refine run_loopF [0, 0, 0, 0, 1, 1, 0, 0, 2, 1, 1, 1, 1, 1, 1, 1, 1, 1, 1] (fun zn zL zst => ∃ (i : Nat), zL = [.int .i64 (i : Nat)] ∧ s = zst ∧ zn = xs.length - i ∧ (i ≤ xs.length) ∧ (∀ j, j < i → p xs[j]! = false)) _ _ ⟨0, rfl, rfl, rfl, by first | assumption | omega | exact Hp.le.rfl | rfl | exact all_zero | exact all_succ (by assumption) (by assumption) | (intro _; omega) | (simp; done), by first | assumption | omega | exact Hp.le.rfl | rfl | exact all_zero | exact all_succ (by assumption) (by assumption) | (intro _; omega) | (simp; done)⟩ rfl ?_
  rintro _ _ _ jv5 ⟨i, rfl, rfl, rfl, hi, hj⟩ K5 hkl5
  simp only [fr, Nat.zero_add, Nat.reduceAdd]
  refine run_seq fun _ hk6 => ?_
  refine run_region ?_
  refine opsR_q rfl (q_lss rfl rfl) ?_
  simp only [nrm, Nat.reduceAdd, Nat.reduceMul, Nat.reduceSub, Int.reduceToNat, Int.reduceAdd]
  refine opsR_nil ?_
  refine hk6 _ _ ?_
  clear hk6
  refine run_seq fun _ hk9 => ?_
  refine run_cond rfl (fun ho10 => ?_) (fun ho10 => ?_)
  · have hc10 := ho10; try simp only [spl] at hc10
    refine run_skip ?_
    refine hk9 _ _ ?_
    clear hk9
    refine run_seq fun _ hk11 => ?_
    refine run_block ?_
    refine run_seq fun _ hk12 => ?_
    refine run_region ?_
    refine opsR_q rfl (q_move) ?_
    simp only [nrm]
    refine opsR_q rfl (q_assign) ?_
    simp only [nrm]
    refine opsR_nil ?_
    refine hk12 _ _ ?_
    clear hk12
    refine run_seq fun _ hk13 => ?_
    refine run_region ?_
    refine opsR_q rfl (q_move) ?_
    simp only [nrm]
    refine opsR_q rfl (q_move) ?_
    simp only [nrm]
    refine opsR_q rfl (q_move) ?_
    simp only [nrm]
    refine opsR_index rfl rfl rfl slrA (by rfl) idxA idxA fun b16 o16 cs16 ha16 hr16 he16 => ?_
    simp only [nrm, Nat.reduceAdd, Nat.reduceMul, Nat.reduceSub, Int.reduceToNat, Int.reduceAdd]
    try simp only [Int.toNat_natCast, Int.reduceToNat, Int.toNat_zero] at hr16
    try simp only [Int.toNat_natCast, Int.reduceToNat, Int.toNat_zero] at he16
    clear ha16
    obtain rfl := hr16
    refine opsR_q rfl (by first | exact q_load_at1 (i := 0) rfl (by first | assumption | exact El.mono (by assumption) leA) rfl (Nat.le_of_ble_eq_true rfl) rfl | exact q_load_at1 rfl (by first | assumption | exact El.mono (by assumption) leA) rfl (Nat.le_of_ble_eq_true rfl) rfl) ?_
    simp only [nrm, Nat.reduceAdd, Nat.reduceMul, Nat.reduceSub, Int.reduceToNat, Int.reduceAdd]
    refine opsR_q rfl (q_call rfl (hf _ [_] (mem_get! (by omega)) (by rfl))) ?_
    simp only [nrm, Nat.reduceAdd, Nat.reduceMul, Nat.reduceSub, Int.reduceToNat, Int.reduceAdd]
    refine opsR_nil ?_
    refine hk13 _ _ ?_
    clear hk13
    refine run_cond rfl (fun ho18 => ?_) (fun ho18 => ?_)
    · have hc18 := ho18; try simp only [spl] at hc18
      refine run_seq fun _ hk19 => ?_
      refine run_region ?_
      refine opsR_q rfl (q_move) ?_
      simp only [nrm]
      refine opsR_q rfl (q_assign) ?_
      simp only [nrm]
      refine opsR_nil ?_
      refine hk19 _ _ ?_
      clear hk19
      refine run_ret ?_
      exact end_tmp rfl rfl rfl .refl (eqK hK (by rw [idxF_found hj (by omega) hc18]; rfl))
    · have hc18 := ho18; try simp only [spl] at hc18
      refine run_skip ?_
      refine hk11 _ _ ?_
      clear hk11
      refine run_region ?_
      refine opsR_q rfl (by first | exact q_add64 rfl rfl (by omega) (by omega) | exact q_add rfl rfl) ?_
      simp only [nrm, Nat.reduceAdd, Nat.reduceMul, Nat.reduceSub, Int.reduceToNat, Int.reduceAdd]
      refine opsR_q rfl (q_move) ?_
      simp only [nrm]
      refine opsR_nil ?_
      first
      | exact hkl5 _ _ _ _ (by omega) ⟨i + 1, rfl, rfl, rfl, by first | assumption | omega | exact Hp.le.rfl | rfl | exact all_zero | exact all_succ (by assumption) (by assumption) | (intro _; omega) | (simp; done), by first | assumption | omega | exact Hp.le.rfl | rfl | exact all_zero | exact all_succ (by assumption) (by assumption) | (intro _; omega) | (simp; done)⟩ rfl
  · have hc10 := ho10; try simp only [spl] at hc10
    refine run_exit ?_
    refine hk2 _ _ ?_
    clear hk2
    refine run_seq fun _ hk20 => ?_
    refine run_region ?_
    refine opsR_q rfl (q_assign) ?_
    simp only [nrm]
    refine opsR_nil ?_
    refine hk20 _ _ ?_
    clear hk20
    refine run_ret ?_
    exact end_tmp rfl rfl rfl .refl (eqK hK (by rw [idxF_none (fun j h => hj j (by omega))]; rfl))
set_option maxHeartbeats 1000000 in
theorem IndexFunc_Bear {xs : List Bear} {p : Bear → Bool} {v : Value} {n : FuncId} [FnOk Tryz.prog n] {fi ca : List Value} {s : St} (hs : SlR kBear s v xs) (hf : ∀ x cs, x ∈ xs → kBear.rep s.I x cs → CallV Tryz.prog n (fi ++ ([(Value.agg cs.toArray)] ++ ca)).toArray s (.bool (p x))) :
    CallV Tryz.prog 100 #[v, .func (.func n) fi.toArray ca.toArray] s (.int .i64 (idxF p xs)) := by
  intro K hK
  have hle := hs.len.le
  refine callS_of_run Tryz.func100 rfl ?_; simp only [Tryz.ntmps100, List.size_toArray, List.length_cons, List.length_nil, Nat.reduceAdd, Nat.reduceSub, Array.replicate_succ, Array.replicate_zero, List.push_toArray, List.append_toArray, List.nil_append, List.cons_append]
  refine run_seq fun _ hk1 => ?_
  refine run_region ?_
  refine opsR_q rfl (q_assign) ?_
  simp only [nrm]
  refine opsR_nil ?_
  refine hk1 _ _ ?_
  clear hk1
  refine run_seq fun _ hk2 => ?_
  refine run_seq fun _ hk3 => ?_
  refine run_region ?_
  refine opsR_q rfl (q_move) ?_
  simp only [nrm]
  refine opsR_q rfl (q_len_v rfl (by first | exact Sl.len (by assumption) | exact OwnS.len (by assumption) | exact SlR.len (by assumption) | assumption)) ?_
  simp only [nrm, Nat.reduceAdd, Nat.reduceMul, Nat.reduceSub, Int.reduceToNat, Int.reduceAdd]
  refine opsR_q rfl (q_move) ?_
  simp only [nrm]
  refine opsR_nil ?_
  refine hk3 _ _ ?_
  clear hk3
  refine run_block ?_
  refine run_loopF [0, 0, 0, 0, 1, 1, 0, 0, 2, 1, 1, 1, 1, 1, 1, 1, 1, 1, 1] (fun zn zL zst => ∃ (i : Nat), zL = [.int .i64 (i : Nat)] ∧ s = zst ∧ zn = xs.length - i ∧ (i ≤ xs.length) ∧ (∀ j, j < i → p xs[j]! = false)) _ _ ⟨0, rfl, rfl, rfl, by first | assumption | omega | exact Hp.le.rfl | rfl | exact all_zero | exact all_succ (by assumption) (by assumption) | (intro _; omega) | (simp; done), by first | assumption | omega | exact Hp.le.rfl | rfl | exact all_zero | exact all_succ (by assumption) (by assumption) | (intro _; omega) | (simp; done)⟩ rfl ?_
  rintro _ _ _ jv5 ⟨i, rfl, rfl, rfl, hi, hj⟩ K5 hkl5
  simp only [fr, Nat.zero_add, Nat.reduceAdd]
  refine run_seq fun _ hk6 => ?_
  refine run_region ?_
  refine opsR_q rfl (q_lss rfl rfl) ?_
  simp only [nrm, Nat.reduceAdd, Nat.reduceMul, Nat.reduceSub, Int.reduceToNat, Int.reduceAdd]
  refine opsR_nil ?_
  refine hk6 _ _ ?_
  clear hk6
  refine run_seq fun _ hk9 => ?_
  refine run_cond rfl (fun ho10 => ?_) (fun ho10 => ?_)
  · have hc10 := ho10; try simp only [spl] at hc10
    refine run_skip ?_
    refine hk9 _ _ ?_
    clear hk9
    refine run_seq fun _ hk11 => ?_
    refine run_block ?_
    refine run_seq fun _ hk12 => ?_
    refine run_region ?_
    refine opsR_q rfl (q_move) ?_
    simp only [nrm]
    refine opsR_q rfl (q_assign) ?_
    simp only [nrm]
    refine opsR_nil ?_
    refine hk12 _ _ ?_
    clear hk12
    refine run_seq fun _ hk13 => ?_
    refine run_region ?_
    refine opsR_q rfl (q_move) ?_
    simp only [nrm]
    refine opsR_q rfl (q_move) ?_
    simp only [nrm]
    refine opsR_q rfl (q_move) ?_
    simp only [nrm]
    refine opsR_index rfl rfl rfl slrA (by rfl) idxA idxA fun b16 o16 cs16 ha16 hr16 he16 => ?_
    simp only [nrm, Nat.reduceAdd, Nat.reduceMul, Nat.reduceSub, Int.reduceToNat, Int.reduceAdd]
    try simp only [Int.toNat_natCast, Int.reduceToNat, Int.toNat_zero] at hr16
    try simp only [Int.toNat_natCast, Int.reduceToNat, Int.toNat_zero] at he16
    clear ha16
    skip
    refine opsR_q rfl (by first | exact q_load_atW rfl (by first | assumption | exact El.mono (by assumption) leA) (by rfl) rfl | exact q_load_atN0 rfl (by first | assumption | exact El.mono (by assumption) leA) rfl rfl | exact q_load_atN rfl (by first | assumption | exact El.mono (by assumption) leA) rfl (Nat.le_of_ble_eq_true rfl) (Nat.le_of_ble_eq_true rfl)) ?_
    simp only [nrm, Nat.reduceAdd, Nat.reduceMul, Nat.reduceSub, Int.reduceToNat, Int.reduceAdd]
    refine opsR_q rfl (q_call rfl (hf _ _ (mem_get! (by omega)) (by assumption))) ?_
    simp only [nrm, Nat.reduceAdd, Nat.reduceMul, Nat.reduceSub, Int.reduceToNat, Int.reduceAdd]
    refine opsR_nil ?_
    refine hk13 _ _ ?_
    clear hk13
    refine run_cond rfl (fun ho18 => ?_) (fun ho18 => ?_)
    · have hc18 := ho18; try simp only [spl] at hc18
      refine run_seq fun _ hk19 => ?_
      refine run_region ?_
      refine opsR_q rfl (q_move) ?_
      simp only [nrm]
      refine opsR_q rfl (q_assign) ?_
      simp only [nrm]
      refine opsR_nil ?_
      refine hk19 _ _ ?_
      clear hk19
      refine run_ret ?_
      exact end_tmp rfl rfl rfl .refl (eqK hK (by rw [idxF_found hj (by omega) hc18]; rfl))
    · have hc18 := ho18; try simp only [spl] at hc18
      refine run_skip ?_
      refine hk11 _ _ ?_
      clear hk11
      refine run_region ?_
      refine opsR_q rfl (by first | exact q_add64 rfl rfl (by omega) (by omega) | exact q_add rfl rfl) ?_
      simp only [nrm, Nat.reduceAdd, Nat.reduceMul, Nat.reduceSub, Int.reduceToNat, Int.reduceAdd]
      refine opsR_q rfl (q_move) ?_
      simp only [nrm]
      refine opsR_nil ?_
      first
      | exact hkl5 _ _ _ _ (by omega) ⟨i + 1, rfl, rfl, rfl, by first | assumption | omega | exact Hp.le.rfl | rfl | exact all_zero | exact all_succ (by assumption) (by assumption) | (intro _; omega) | (simp; done), by first | assumption | omega | exact Hp.le.rfl | rfl | exact all_zero | exact all_succ (by assumption) (by assumption) | (intro _; omega) | (simp; done)⟩ rfl
  · have hc10 := ho10; try simp only [spl] at hc10
    refine run_exit ?_
    refine hk2 _ _ ?_
    clear hk2
    refine run_seq fun _ hk20 => ?_
    refine run_region ?_
    refine opsR_q rfl (q_assign) ?_
    simp only [nrm]
    refine opsR_nil ?_
    refine hk20 _ _ ?_
    clear hk20
    refine run_ret ?_
    exact end_tmp rfl rfl rfl .refl (eqK hK (by rw [idxF_none (fun j h => hj j (by omega))]; rfl))
set_option maxHeartbeats 1000000 in
theorem IndexFunc_Label {xs : List Label} {p : Label → Bool} {v : Value} {n : FuncId} [FnOk Tryz.prog n] {fi ca : List Value} {s : St} (hs : SlR kLabel s v xs) (hf : ∀ x cs, x ∈ xs → kLabel.rep s.I x cs → CallV Tryz.prog n (fi ++ ([(Value.agg cs.toArray)] ++ ca)).toArray s (.bool (p x))) :
    CallV Tryz.prog 101 #[v, .func (.func n) fi.toArray ca.toArray] s (.int .i64 (idxF p xs)) := by
  intro K hK
  have hle := hs.len.le
  refine callS_of_run Tryz.func101 rfl ?_; simp only [Tryz.ntmps101, List.size_toArray, List.length_cons, List.length_nil, Nat.reduceAdd, Nat.reduceSub, Array.replicate_succ, Array.replicate_zero, List.push_toArray, List.append_toArray, List.nil_append, List.cons_append]
  refine run_seq fun _ hk1 => ?_
  refine run_region ?_
  refine opsR_q rfl (q_assign) ?_
  simp only [nrm]
  refine opsR_nil ?_
  refine hk1 _ _ ?_
  clear hk1
  refine run_seq fun _ hk2 => ?_
  refine run_seq fun _ hk3 => ?_
  refine run_region ?_
  refine opsR_q rfl (q_move) ?_
  simp only [nrm]
  refine opsR_q rfl (q_len_v rfl (by first | exact Sl.len (by assumption) | exact OwnS.len (by assumption) | exact SlR.len (by assumption) | assumption)) ?_
  simp only [nrm, Nat.reduceAdd, Nat.reduceMul, Nat.reduceSub, Int.reduceToNat, Int.reduceAdd]
  refine opsR_q rfl (q_move) ?_
  simp only [nrm]
  refine opsR_nil ?_
  refine hk3 _ _ ?_
  clear hk3
  refine run_block ?_
  refine run_loopF [0, 0, 0, 0, 1, 1, 0, 0, 2, 1, 1, 1, 1, 1, 1, 1, 1, 1, 1] (fun zn zL zst => ∃ (i : Nat), zL = [.int .i64 (i : Nat)] ∧ s = zst ∧ zn = xs.length - i ∧ (i ≤ xs.length) ∧ (∀ j, j < i → p xs[j]! = false)) _ _ ⟨0, rfl, rfl, rfl, by first | assumption | omega | exact Hp.le.rfl | rfl | exact all_zero | exact all_succ (by assumption) (by assumption) | (intro _; omega) | (simp; done), by first | assumption | omega | exact Hp.le.rfl | rfl | exact all_zero | exact all_succ (by assumption) (by assumption) | (intro _; omega) | (simp; done)⟩ rfl ?_
  rintro _ _ _ jv5 ⟨i, rfl, rfl, rfl, hi, hj⟩ K5 hkl5
  simp only [fr, Nat.zero_add, Nat.reduceAdd]
  refine run_seq fun _ hk6 => ?_
  refine run_region ?_
  refine opsR_q rfl (q_lss rfl rfl) ?_
  simp only [nrm, Nat.reduceAdd, Nat.reduceMul, Nat.reduceSub, Int.reduceToNat, Int.reduceAdd]
  refine opsR_nil ?_
  refine hk6 _ _ ?_
  clear hk6
  refine run_seq fun _ hk9 => ?_
  refine run_cond rfl (fun ho10 => ?_) (fun ho10 => ?_)
  · have hc10 := ho10; try simp only [spl] at hc10
    refine run_skip ?_
    refine hk9 _ _ ?_
    clear hk9
    refine run_seq fun _ hk11 => ?_
    refine run_block ?_
    refine run_seq fun _ hk12 => ?_
    refine run_region ?_
    refine opsR_q rfl (q_move) ?_
    simp only [nrm]
    refine opsR_q rfl (q_assign) ?_
    simp only [nrm]
    refine opsR_nil ?_
    refine hk12 _ _ ?_
    clear hk12
    refine run_seq fun _ hk13 => ?_
    refine run_region ?_
    refine opsR_q rfl (q_move) ?_
    simp only [nrm]
    refine opsR_q rfl (q_move) ?_
    simp only [nrm]
    refine opsR_q rfl (q_move) ?_
    simp only [nrm]
    refine opsR_index rfl rfl rfl slrA (by rfl) idxA idxA fun b16 o16 cs16 ha16 hr16 he16 => ?_
    simp only [nrm, Nat.reduceAdd, Nat.reduceMul, Nat.reduceSub, Int.reduceToNat, Int.reduceAdd]
    try simp only [Int.toNat_natCast, Int.reduceToNat, Int.toNat_zero] at hr16
    try simp only [Int.toNat_natCast, Int.reduceToNat, Int.toNat_zero] at he16
    clear ha16
    skip
    refine opsR_q rfl (by first | exact q_load_atW rfl (by first | assumption | exact El.mono (by assumption) leA) (by rfl) rfl | exact q_load_atN0 rfl (by first | assumption | exact El.mono (by assumption) leA) rfl rfl | exact q_load_atN rfl (by first | assumption | exact El.mono (by assumption) leA) rfl (Nat.le_of_ble_eq_true rfl) (Nat.le_of_ble_eq_true rfl)) ?_
    simp only [nrm, Nat.reduceAdd, Nat.reduceMul, Nat.reduceSub, Int.reduceToNat, Int.reduceAdd]
    refine opsR_q rfl (q_call rfl (hf _ _ (mem_get! (by omega)) (by assumption))) ?_
    simp only [nrm, Nat.reduceAdd, Nat.reduceMul, Nat.reduceSub, Int.reduceToNat, Int.reduceAdd]
    refine opsR_nil ?_
    refine hk13 _ _ ?_
    clear hk13
    refine run_cond rfl (fun ho18 => ?_) (fun ho18 => ?_)
    · have hc18 := ho18; try simp only [spl] at hc18
      refine run_seq fun _ hk19 => ?_
      refine run_region ?_
      refine opsR_q rfl (q_move) ?_
      simp only [nrm]
      refine opsR_q rfl (q_assign) ?_
      simp only [nrm]
      refine opsR_nil ?_
      refine hk19 _ _ ?_
      clear hk19
      refine run_ret ?_
      exact end_tmp rfl rfl rfl .refl (eqK hK (by rw [idxF_found hj (by omega) hc18]; rfl))
    · have hc18 := ho18; try simp only [spl] at hc18
      refine run_skip ?_
      refine hk11 _ _ ?_
      clear hk11
      refine run_region ?_
      refine opsR_q rfl (by first | exact q_add64 rfl rfl (by omega) (by omega) | exact q_add rfl rfl) ?_
      simp only [nrm, Nat.reduceAdd, Nat.reduceMul, Nat.reduceSub, Int.reduceToNat, Int.reduceAdd]
      refine opsR_q rfl (q_move) ?_
      simp only [nrm]
      refine opsR_nil ?_
      first
      | exact hkl5 _ _ _ _ (by omega) ⟨i + 1, rfl, rfl, rfl, by first | assumption | omega | exact Hp.le.rfl | rfl | exact all_zero | exact all_succ (by assumption) (by assumption) | (intro _; omega) | (simp; done), by first | assumption | omega | exact Hp.le.rfl | rfl | exact all_zero | exact all_succ (by assumption) (by assumption) | (intro _; omega) | (simp; done)⟩ rfl
  · have hc10 := ho10; try simp only [spl] at hc10
    refine run_exit ?_
    refine hk2 _ _ ?_
    clear hk2
    refine run_seq fun _ hk20 => ?_
    refine run_region ?_
    refine opsR_q rfl (q_assign) ?_
    simp only [nrm]
    refine opsR_nil ?_
    refine hk20 _ _ ?_
    clear hk20
    refine run_ret ?_
    exact end_tmp rfl rfl rfl .refl (eqK hK (by rw [idxF_none (fun j h => hj j (by omega))]; rfl))
theorem ContainsFunc_Int {xs : List Int} {p : Int → Bool} {v : Value} {n : FuncId} [FnOk Tryz.prog n] {fi ca : List Value} {s : St} (hs : SlR (kInt .i64) s v xs) (hf : ∀ x cs, x ∈ xs → (kInt .i64).rep s.I x cs → CallV Tryz.prog n (fi ++ ([cs.headD undef] ++ ca)).toArray s (.bool (p x))) :
    CallV Tryz.prog 78 #[v, .func (.func n) fi.toArray ca.toArray] s (.bool (xs.any p)) := by
  intro K hK
  have hle := hs.len.le
  refine callS_of_run Tryz.func78 rfl ?_; simp only [Tryz.ntmps78, List.size_toArray, List.length_cons, List.length_nil, Nat.reduceAdd, Nat.reduceSub, Array.replicate_succ, Array.replicate_zero, List.push_toArray, List.append_toArray, List.nil_append, List.cons_append]
  refine run_seq fun _ hk1 => ?_
  refine run_region ?_
  refine opsR_q rfl (q_assign) ?_
  simp only [nrm]
  refine opsR_nil ?_
  refine hk1 _ _ ?_
  clear hk1
  refine run_seq fun _ hk2 => ?_
  refine run_region ?_
  refine opsR_q rfl (q_move) ?_
  simp only [nrm]
  refine opsR_q rfl (q_move) ?_
  simp only [nrm]
  refine opsR_q rfl (q_call rfl (IndexFunc_Int hs hf)) ?_
  simp only [nrm, Nat.reduceAdd, Nat.reduceMul, Nat.reduceSub, Int.reduceToNat, Int.reduceAdd]
  refine opsR_q rfl (q_geq rfl rfl) ?_
  simp only [nrm, Nat.reduceAdd, Nat.reduceMul, Nat.reduceSub, Int.reduceToNat, Int.reduceAdd]
  refine opsR_q rfl (q_assign) ?_
  simp only [nrm]
  refine opsR_nil ?_
  refine hk2 _ _ ?_
  clear hk2
  refine run_ret ?_
  exact end_tmp rfl rfl rfl .refl (eqK hK (by rw [idxF_ge]; rfl))
theorem ContainsFunc_Bear {xs : List Bear} {p : Bear → Bool} {v : Value} {n : FuncId} [FnOk Tryz.prog n] {fi ca : List Value} {s : St} (hs : SlR kBear s v xs) (hf : ∀ x cs, x ∈ xs → kBear.rep s.I x cs → CallV Tryz.prog n (fi ++ ([(Value.agg cs.toArray)] ++ ca)).toArray s (.bool (p x))) :
    CallV Tryz.prog 87 #[v, .func (.func n) fi.toArray ca.toArray] s (.bool (xs.any p)) := by
  intro K hK
  have hle := hs.len.le
  refine callS_of_run Tryz.func87 rfl ?_; simp only [Tryz.ntmps87, List.size_toArray, List.length_cons, List.length_nil, Nat.reduceAdd, Nat.reduceSub, Array.replicate_succ, Array.replicate_zero, List.push_toArray, List.append_toArray, List.nil_append, List.cons_append]
  refine run_seq fun _ hk1 => ?_
  refine run_region ?_
  refine opsR_q rfl (q_assign) ?_
  simp only [nrm]
  refine opsR_nil ?_
  refine hk1 _ _ ?_
  clear hk1
  refine run_seq fun _ hk2 => ?_
  refine run_region ?_
  refine opsR_q rfl (q_move) ?_
  simp only [nrm]
  refine opsR_q rfl (q_move) ?_
  simp only [nrm]
  refine opsR_q rfl (q_call rfl (IndexFunc_Bear hs hf)) ?_
  simp only [nrm, Nat.reduceAdd, Nat.reduceMul, Nat.reduceSub, Int.reduceToNat, Int.reduceAdd]
  refine opsR_q rfl (q_geq rfl rfl) ?_
  simp only [nrm, Nat.reduceAdd, Nat.reduceMul, Nat.reduceSub, Int.reduceToNat, Int.reduceAdd]
  refine opsR_q rfl (q_assign) ?_
  simp only [nrm]
  refine opsR_nil ?_
  refine hk2 _ _ ?_
  clear hk2
  refine run_ret ?_
  exact end_tmp rfl rfl rfl .refl (eqK hK (by rw [idxF_ge]; rfl))
end Go.Proofs.YtcnbcblihepbmaaGreatDoor
