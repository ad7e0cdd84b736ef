/- Go's slices.Index, Contains, and the reference's Has, over texts and numbers. -/
import Derived.Test.YtcnbcblihepbmaaGreatDoorG
set_option autoImplicit false
set_option linter.unusedVariables false
set_option linter.unusedSimpArgs false
namespace Go.Proofs.YtcnbcblihepbmaaGreatDoor
open Go Go.RowKit
theorem idxF_eq {α : Type} [DecidableEq α] [Inhabited α] {x : α} {xs : List α} {i : Nat} (h : ∀ j, j < i → decide (x = xs[j]!) = false) (hi : i < xs.length) (hp : x = xs[i]!) : idxF (fun y => decide (x = y)) xs = i := idxF_found (p := fun y => decide (x = y)) h hi (decide_eq_true hp)
theorem any_eqx {α : Type} [DecidableEq α] [Inhabited α] {x : α} {xs : List α} {i : Nat} (hi : i < xs.length) (hp : xs[i]! = x) : (xs.any fun y => decide (x = y)) = true := any_at (p := fun y => decide (x = y)) hi (decide_eq_true hp.symm)
attribute [local irreducible] Quiet OpsR Run CallS opS Gh endQ oblE RunN
theorem Index_Str {xs : List ByteArray} {x : ByteArray} {v : Value} {s : St} (hs : SlR kStr s v xs) : CallV Tryz.prog 56 #[v, .string x] s (.int .i64 (idxF (fun y => decide (x = y)) xs)) := by
  intro K hK
  have hle := hs.len.le
  refine callS_of_run Tryz.func56 rfl ?_; simp only [Tryz.ntmps56, List.size_toArray, List.length_cons, List.length_nil, Nat.reduceAdd, Nat.reduceSub, Array.replicate_succ, Array.replicate_zero, List.push_toArray, List.append_toArray, List.nil_append, List.cons_append]
  refine run_seq fun _ hk1 => ?_
  refine run_region ?_
  refine opsR_q rfl (q_assign) ?_
  simp only [nrm]
  refine opsR_nil ?_
  refine hk1 _ _ ?_
  clear hk1
  refine run_seq fun _ hk2 => ?_
  refine run_seq fun _ hk3 => ?_
  refine run_region ?_
  refine opsR_q rfl (q_move) ?_
  simp only [nrm]
  refine opsR_q rfl (q_len_v rfl (by first | exact Sl.len (by assumption) | exact OwnS.len (by assumption) | exact SlR.len (by assumption) | assumption)) ?_
  simp only [nrm, Nat.reduceAdd, Nat.reduceMul, Nat.reduceSub, Int.reduceToNat, Int.reduceAdd]
  refine opsR_q rfl (q_move) ?_
  simp only [nrm]
  refine opsR_nil ?_
  refine hk3 _ _ ?_
  clear hk3
  refine run_block ?_
  refine run_loopF [0, 0, 0, 0, 1, 2, 0, 0, 2, 1, 1, 1, 1, 1, 1, 1, 1, 1, 1] (fun zn zL zst => ∃ (i : Nat) (z5 : Value), zL = [z5, .int .i64 (i : Nat)] ∧ s = zst ∧ zn = xs.length - i ∧ (i ≤ xs.length) ∧ (∀ j, j < i → decide (x = xs[j]!) = false)) _ _ ⟨0, _, rfl, rfl, rfl, by first | assumption | omega | exact Hp.le.rfl | rfl | exact all_zero | exact all_succ (by assumption) (by assumption) | (intro _; omega) | (simp; done), by first | assumption | omega | exact Hp.le.rfl | rfl | exact all_zero | exact all_succ (by assumption) (by assumption) | (intro _; omega) | (simp; done)⟩ rfl ?_
  rintro _ _ _ jv5 ⟨i, z5, rfl, rfl, rfl, hi, hj⟩ K5 hkl5
  simp only [fr, Nat.zero_add, Nat.reduceAdd]
  refine run_seq fun _ hk6 => ?_
  refine run_region ?_
  refine opsR_q rfl (q_lss rfl rfl) ?_
  simp only [nrm, Nat.reduceAdd, Nat.reduceMul, Nat.reduceSub, Int.reduceToNat, Int.reduceAdd]
  refine opsR_nil ?_
  refine hk6 _ _ ?_
  clear hk6
  refine run_seq fun _ hk9 => ?_
  refine run_cond rfl (fun ho10 => ?_) (fun ho10 => ?_)
  · have hc10 := ho10; try simp only [spl] at hc10
    refine run_skip ?_
    refine hk9 _ _ ?_
    clear hk9
    refine run_seq fun _ hk11 => ?_
    refine run_block ?_
    refine run_seq fun _ hk12 => ?_
    refine run_region ?_
    refine opsR_q rfl (q_move) ?_
    simp only [nrm]
    refine opsR_q rfl (q_assign) ?_
    simp only [nrm]
    refine opsR_nil ?_
    refine hk12 _ _ ?_
    clear hk12
    refine run_seq fun _ hk13 => ?_
    refine run_region ?_
    refine opsR_q rfl (q_move) ?_
    simp only [nrm]
    refine opsR_q rfl (q_move) ?_
    simp only [nrm]
    refine opsR_q rfl (q_move) ?_
    simp only [nrm]
    refine opsR_index rfl rfl rfl slrA (by rfl) idxA idxA fun b16 o16 cs16 ha16 hr16 he16 => ?_
    simp only [nrm, Nat.reduceAdd, Nat.reduceMul, Nat.reduceSub, Int.reduceToNat, Int.reduceAdd]
    try simp only [Int.toNat_natCast, Int.reduceToNat, Int.toNat_zero] at hr16
    try simp only [Int.toNat_natCast, Int.reduceToNat, Int.toNat_zero] at he16
    clear ha16
    obtain rfl := hr16
    refine opsR_q rfl (by first | exact q_load_at1 (i := 0) rfl (by first | assumption | exact El.mono (by assumption) leA) rfl (Nat.le_of_ble_eq_true rfl) rfl | exact q_load_at1 rfl (by first | assumption | exact El.mono (by assumption) leA) rfl (Nat.le_of_ble_eq_true rfl) rfl) ?_
    simp only [nrm, Nat.reduceAdd, Nat.reduceMul, Nat.reduceSub, Int.reduceToNat, Int.reduceAdd]
    refine opsR_q rfl (q_eql_string rfl rfl) ?_
    simp only [nrm, Nat.reduceAdd, Nat.reduceMul, Nat.reduceSub, Int.reduceToNat, Int.reduceAdd]
    refine opsR_nil ?_
    refine hk13 _ _ ?_
    clear hk13
    refine run_cond rfl (fun ho17 => ?_) (fun ho17 => ?_)
    · have hc17 := ho17; try simp only [spl] at hc17
      refine run_seq fun _ hk18 => ?_
      refine run_region ?_
      refine opsR_q rfl (q_move) ?_
      simp only [nrm]
      refine opsR_q rfl (q_assign) ?_
      simp only [nrm]
      refine opsR_nil ?_
      refine hk18 _ _ ?_
      clear hk18
      refine run_ret ?_
      exact end_tmp rfl rfl rfl ghA (eqK hK (congrArg (Go.Value.int .i64) (by rw [idxF_eq hj (by omega) (by assumption)])))
    · have hc17 := ho17; try simp only [spl] at hc17
      refine run_skip ?_
      refine hk11 _ _ ?_
      clear hk11
      refine run_region ?_
      refine opsR_q rfl (by first | exact q_add64 rfl rfl (by omega) (by omega) | exact q_add rfl rfl) ?_
      simp only [nrm, Nat.reduceAdd, Nat.reduceMul, Nat.reduceSub, Int.reduceToNat, Int.reduceAdd]
      refine opsR_q rfl (q_move) ?_
      simp only [nrm]
      refine opsR_nil ?_
      first
      | exact hkl5 _ _ _ _ (by omega) ⟨i + 1, _, rfl, rfl, rfl, by first | omega | exact all_zero | exact all_succ hj (decide_eq_false (by assumption)), by first | omega | exact all_zero | exact all_succ hj (decide_eq_false (by assumption))⟩ rfl
  · have hc10 := ho10; try simp only [spl] at hc10
    refine run_exit ?_
    refine hk2 _ _ ?_
    clear hk2
    refine run_seq fun _ hk19 => ?_
    refine run_region ?_
    refine opsR_q rfl (q_assign) ?_
    simp only [nrm]
    refine opsR_nil ?_
    refine hk19 _ _ ?_
    clear hk19
    refine run_ret ?_
    exact end_tmp rfl rfl rfl ghA (eqK hK (congrArg (Go.Value.int .i64) (by rw [idxF_none (p := fun y => decide (x = y)) (fun j h => hj j (by omega))])))
theorem Contains_Str {xs : List ByteArray} {x : ByteArray} {v : Value} {s : St} (hs : SlR kStr s v xs) : CallV Tryz.prog 38 #[v, .string x] s (.bool (xs.any fun y => decide (x = y))) := by
  intro K hK
  refine callS_of_run Tryz.func38 rfl ?_; simp only [Tryz.ntmps38, List.size_toArray, List.length_cons, List.length_nil, Nat.reduceAdd, Nat.reduceSub, Array.replicate_succ, Array.replicate_zero, List.push_toArray, List.append_toArray, List.nil_append, List.cons_append]
  refine run_seq fun _ hk1 => ?_
  refine run_region ?_
  refine opsR_q rfl (q_assign) ?_
  simp only [nrm]
  refine opsR_nil ?_
  refine hk1 _ _ ?_
  clear hk1
  refine run_seq fun _ hk2 => ?_
  refine run_region ?_
  refine opsR_q rfl (q_move) ?_
  simp only [nrm]
  refine opsR_q rfl (q_move) ?_
  simp only [nrm]
  refine opsR_q rfl (q_call rfl (Index_Str hs)) ?_
  simp only [nrm, Nat.reduceAdd, Nat.reduceMul, Nat.reduceSub, Int.reduceToNat, Int.reduceAdd]
  refine opsR_q rfl (q_geq rfl rfl) ?_
  simp only [nrm, Nat.reduceAdd, Nat.reduceMul, Nat.reduceSub, Int.reduceToNat, Int.reduceAdd]
  refine opsR_q rfl (q_assign) ?_
  simp only [nrm]
  refine opsR_nil ?_
  refine hk2 _ _ ?_
  clear hk2
  refine run_ret ?_
  first | exact end_tmp rfl rfl rfl ghA hK | exact end_tmp rfl rfl rfl ghA (eqK hK (congrArg Go.Value.bool (by rw [← idxF_ge])))
theorem Index_Int {xs : List Int} {x : Int} {v : Value} {s : St} (hs : SlR (kInt .i64) s v xs) : CallV Tryz.prog 96 #[v, .int .i64 x] s (.int .i64 (idxF (fun y => decide (x = y)) xs)) := by
  intro K hK
  have hle := hs.len.le
  refine callS_of_run Tryz.func96 rfl ?_; simp only [Tryz.ntmps96, List.size_toArray, List.length_cons, List.length_nil, Nat.reduceAdd, Nat.reduceSub, Array.replicate_succ, Array.replicate_zero, List.push_toArray, List.append_toArray, List.nil_append, List.cons_append]
  refine run_seq fun _ hk1 => ?_
  refine run_region ?_
  refine opsR_q rfl (q_assign) ?_
  simp only [nrm]
  refine opsR_nil ?_
  refine hk1 _ _ ?_
  clear hk1
  refine run_seq fun _ hk2 => ?_
  refine run_seq fun _ hk3 => ?_
  refine run_region ?_
  refine opsR_q rfl (q_move) ?_
  simp only [nrm]
  refine opsR_q rfl (q_len_v rfl (by first | exact Sl.len (by assumption) | exact OwnS.len (by assumption) | exact SlR.len (by assumption) | assumption)) ?_
  simp only [nrm, Nat.reduceAdd, Nat.reduceMul, Nat.reduceSub, Int.reduceToNat, Int.reduceAdd]
  refine opsR_q rfl (q_move) ?_
  simp only [nrm]
  refine opsR_nil ?_
  refine hk3 _ _ ?_
  clear hk3
  refine run_block ?_
  refine run_loopF [0, 0, 0, 0, 1, 2, 0, 0, 2, 1, 1, 1, 1, 1, 1, 1, 1, 1, 1] (fun zn zL zst => ∃ (i : Nat) (z5 : Value), zL = [z5, .int .i64 (i : Nat)] ∧ s = zst ∧ zn = xs.length - i ∧ (i ≤ xs.length) ∧ (∀ j, j < i → decide (x = xs[j]!) = false)) _ _ ⟨0, _, rfl, rfl, rfl, by first | assumption | omega | exact Hp.le.rfl | rfl | exact all_zero | exact all_succ (by assumption) (by assumption) | (intro _; omega) | (simp; done), by first | assumption | omega | exact Hp.le.rfl | rfl | exact all_zero | exact all_succ (by assumption) (by assumption) | (intro _; omega) | (simp; done)⟩ rfl ?_
  rintro _ _ _ jv5 ⟨i, z5, rfl, rfl, rfl, hi, hj⟩ K5 hkl5
  simp only [fr, Nat.zero_add, Nat.reduceAdd]
  refine run_seq fun _ hk6 => ?_
  refine run_region ?_
  refine opsR_q rfl (q_lss rfl rfl) ?_
  simp only [nrm, Nat.reduceAdd, Nat.reduceMul, Nat.reduceSub, Int.reduceToNat, Int.reduceAdd]
  refine opsR_nil ?_
  refine hk6 _ _ ?_
  clear hk6
  refine run_seq fun _ hk9 => ?_
  refine run_cond rfl (fun ho10 => ?_) (fun ho10 => ?_)
  · have hc10 := ho10; try simp only [spl] at hc10
    refine run_skip ?_
    refine hk9 _ _ ?_
    clear hk9
    refine run_seq fun _ hk11 => ?_
    refine run_block ?_
    refine run_seq fun _ hk12 => ?_
    refine run_region ?_
    refine opsR_q rfl (q_move) ?_
    simp only [nrm]
    refine opsR_q rfl (q_assign) ?_
    simp only [nrm]
    refine opsR_nil ?_
    refine hk12 _ _ ?_
    clear hk12
    refine run_seq fun _ hk13 => ?_
    refine run_region ?_
    refine opsR_q rfl (q_move) ?_
    simp only [nrm]
    refine opsR_q rfl (q_move) ?_
    simp only [nrm]
    refine opsR_q rfl (q_move) ?_
    simp only [nrm]
    refine opsR_index rfl rfl rfl slrA (by rfl) idxA idxA fun b16 o16 cs16 ha16 hr16 he16 => ?_
    simp only [nrm, Nat.reduceAdd, Nat.reduceMul, Nat.reduceSub, Int.reduceToNat, Int.reduceAdd]
    try simp only [Int.toNat_natCast, Int.reduceToNat, Int.toNat_zero] at hr16
    try simp only [Int.toNat_natCast, Int.reduceToNat, Int.toNat_zero] at he16
    clear ha16
    obtain rfl := hr16
    refine opsR_q rfl (by first | exact q_load_at1 (i := 0) rfl (by first | assumption | exact El.mono (by assumption) leA) rfl (Nat.le_of_ble_eq_true rfl) rfl | exact q_load_at1 rfl (by first | assumption | exact El.mono (by assumption) leA) rfl (Nat.le_of_ble_eq_true rfl) rfl) ?_
    simp only [nrm, Nat.reduceAdd, Nat.reduceMul, Nat.reduceSub, Int.reduceToNat, Int.reduceAdd]
    refine opsR_q rfl (q_eql rfl rfl) ?_
    simp only [nrm, Nat.reduceAdd, Nat.reduceMul, Nat.reduceSub, Int.reduceToNat, Int.reduceAdd]
    refine opsR_nil ?_
    refine hk13 _ _ ?_
    clear hk13
    refine run_cond rfl (fun ho17 => ?_) (fun ho17 => ?_)
    · have hc17 := ho17; try simp only [spl] at hc17
      refine run_seq fun _ hk18 => ?_
      refine run_region ?_
      refine opsR_q rfl (q_move) ?_
      simp only [nrm]
      refine opsR_q rfl (q_assign) ?_
      simp only [nrm]
      refine opsR_nil ?_
      refine hk18 _ _ ?_
      clear hk18
      refine run_ret ?_
      exact end_tmp rfl rfl rfl ghA (eqK hK (congrArg (Go.Value.int .i64) (by rw [idxF_eq hj (by omega) (by assumption)])))
    · have hc17 := ho17; try simp only [spl] at hc17
      refine run_skip ?_
      refine hk11 _ _ ?_
      clear hk11
      refine run_region ?_
      refine opsR_q rfl (by first | exact q_add64 rfl rfl (by omega) (by omega) | exact q_add rfl rfl) ?_
      simp only [nrm, Nat.reduceAdd, Nat.reduceMul, Nat.reduceSub, Int.reduceToNat, Int.reduceAdd]
      refine opsR_q rfl (q_move) ?_
      simp only [nrm]
      refine opsR_nil ?_
      first
      | exact hkl5 _ _ _ _ (by omega) ⟨i + 1, _, rfl, rfl, rfl, by first | omega | exact all_zero | exact all_succ hj (decide_eq_false (by assumption)), by first | omega | exact all_zero | exact all_succ hj (decide_eq_false (by assumption))⟩ rfl
  · have hc10 := ho10; try simp only [spl] at hc10
    refine run_exit ?_
    refine hk2 _ _ ?_
    clear hk2
    refine run_seq fun _ hk19 => ?_
    refine run_region ?_
    refine opsR_q rfl (q_assign) ?_
    simp only [nrm]
    refine opsR_nil ?_
    refine hk19 _ _ ?_
    clear hk19
    refine run_ret ?_
    exact end_tmp rfl rfl rfl ghA (eqK hK (congrArg (Go.Value.int .i64) (by rw [idxF_none (p := fun y => decide (x = y)) (fun j h => hj j (by omega))])))
theorem Contains_Int {xs : List Int} {x : Int} {v : Value} {s : St} (hs : SlR (kInt .i64) s v xs) : CallV Tryz.prog 80 #[v, .int .i64 x] s (.bool (xs.any fun y => decide (x = y))) := by
  intro K hK
  refine callS_of_run Tryz.func80 rfl ?_; simp only [Tryz.ntmps80, List.size_toArray, List.length_cons, List.length_nil, Nat.reduceAdd, Nat.reduceSub, Array.replicate_succ, Array.replicate_zero, List.push_toArray, List.append_toArray, List.nil_append, List.cons_append]
  refine run_seq fun _ hk1 => ?_
  refine run_region ?_
  refine opsR_q rfl (q_assign) ?_
  simp only [nrm]
  refine opsR_nil ?_
  refine hk1 _ _ ?_
  clear hk1
  refine run_seq fun _ hk2 => ?_
  refine run_region ?_
  refine opsR_q rfl (q_move) ?_
  simp only [nrm]
  refine opsR_q rfl (q_move) ?_
  simp only [nrm]
  refine opsR_q rfl (q_call rfl (Index_Int hs)) ?_
  simp only [nrm, Nat.reduceAdd, Nat.reduceMul, Nat.reduceSub, Int.reduceToNat, Int.reduceAdd]
  refine opsR_q rfl (q_geq rfl rfl) ?_
  simp only [nrm, Nat.reduceAdd, Nat.reduceMul, Nat.reduceSub, Int.reduceToNat, Int.reduceAdd]
  refine opsR_q rfl (q_assign) ?_
  simp only [nrm]
  refine opsR_nil ?_
  refine hk2 _ _ ?_
  clear hk2
  refine run_ret ?_
  first | exact end_tmp rfl rfl rfl ghA hK | exact end_tmp rfl rfl rfl ghA (eqK hK (congrArg Go.Value.bool (by rw [← idxF_ge])))
end Go.Proofs.YtcnbcblihepbmaaGreatDoor
