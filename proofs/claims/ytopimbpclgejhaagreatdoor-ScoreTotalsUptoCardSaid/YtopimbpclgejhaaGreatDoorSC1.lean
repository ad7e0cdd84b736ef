/- Packages score and its reference: the best, and the one that a draw picks. -/
import Derived.Test.YtopimbpclgejhaaGreatDoorB
import Derived.Test.YtopimbpclgejhaaGreatDoorS10
set_option autoImplicit false
set_option linter.unusedVariables false
set_option linter.unusedSimpArgs false
namespace Go.Proofs.YtopimbpclgejhaaGreatDoor
open Go Go.RowKit
attribute [local irreducible] Quiet OpsR Run CallS opS Gh endQ oblE RunN
/-- One more number looked at. -/
def bestStep (scores : List Int) (may : List Bool) (out : List Int) (i : Nat) : List Int :=
  if may[i]! = true then
    if out = [] then [(i : Int)]
    else if scores[out[0]!.toNat]! < scores[i]! then [(i : Int)]
    else if scores[i]! = scores[out[0]!.toNat]! then out ++ [(i : Int)] else out
  else out
def bestN (scores : List Int) (may : List Bool) : Nat → List Int
  | 0 => []
  | n + 1 => bestStep scores may (bestN scores may n) n
theorem bestN_mem (scores : List Int) (may : List Bool) (n : Nat) : ∀ x ∈ bestN scores may n, 0 ≤ x ∧ x < n := by
  induction n with
  | zero => intro x hx; cases hx
  | succ n ih =>
    intro x hx
    unfold bestN bestStep at hx
    split at hx
    · split at hx
      · simp at hx; omega
      · split at hx
        · simp at hx; omega
        · split at hx
          · rcases List.mem_append.1 hx with h | h
            · have := ih x h; omega
            · simp at h; omega
          · have := ih x hx; omega
    · have := ih x hx; omega
theorem bestN_len (scores : List Int) (may : List Bool) (n : Nat) : (bestN scores may n).length ≤ n := by
  induction n with
  | zero => simp [bestN]
  | succ n ih =>
    simp only [bestN, bestStep]
    split
    · split
      · simp
      · split
        · simp
        · split
          · simp; omega
          · omega
    · omega
theorem bestN_bd {scores : List Int} {may : List Bool} {n : Nat} (h : 0 < (bestN scores may n).length) : 0 ≤ (bestN scores may n)[0]! ∧ (bestN scores may n)[0]! < n := bestN_mem _ _ _ _ (mem_get! h)
theorem bestN_over (scores : List Int) (may : List Bool) (n : Nat) : bestN scores may (may.length + n) = bestN scores may may.length := by
  induction n with
  | zero => rfl
  | succ n ih =>
    show bestStep scores may (bestN scores may (may.length + n)) (may.length + n) = _
    rw [bestStep, if_neg, ih]
    simp
section
variable {scores : List Int} {may : List Bool} {i : Nat}
theorem best_skip1 (h : (i : Int) ≥ may.length) : bestN scores may i = bestN scores may (i + 1) := by
  simp only [bestN, bestStep]; rw [if_neg]; rw [getElem!_neg _ _ (by omega)]; decide
theorem best_skip2 (h : may[i]! = false) : bestN scores may i = bestN scores may (i + 1) := by
  simp only [bestN, bestStep]; rw [if_neg]; rw [h]; decide
theorem best_skip3 (h1 : may[i]! = true) (h2 : ((bestN scores may i).length : Int) > 0) (h3 : scores[i]! < scores[(bestN scores may i)[0]!.toNat]!) : bestN scores may i = bestN scores may (i + 1) := by
  have hne : bestN scores may i ≠ [] := fun e => by rw [e] at h2; simp at h2
  simp only [bestN, bestStep]; rw [if_pos h1, if_neg hne, if_neg (by omega), if_neg (by omega)]
theorem best_new (h1 : may[i]! = true) (h2 : ((bestN scores may i).length : Int) > 0) (h3 : scores[i]! > scores[(bestN scores may i)[0]!.toNat]!) : [] ++ [(i : Int)] = bestN scores may (i + 1) := by
  have hne : bestN scores may i ≠ [] := fun e => by rw [e] at h2; simp at h2
  simp only [bestN, bestStep]; rw [if_pos h1, if_neg hne, if_pos (by omega)]; rfl
theorem best_more (h1 : may[i]! = true) (h2 : ((bestN scores may i).length : Int) > 0) (h3 : ¬ scores[i]! > scores[(bestN scores may i)[0]!.toNat]!) (h4 : scores[(bestN scores may i)[0]!.toNat]! ≤ scores[i]!) : bestN scores may i ++ [(i : Int)] = bestN scores may (i + 1) := by
  have hne : bestN scores may i ≠ [] := fun e => by rw [e] at h2; simp at h2
  simp only [bestN, bestStep]; rw [if_pos h1, if_neg hne, if_neg (by omega), if_pos (by omega)]
theorem best_first (h1 : may[i]! = true) (h2 : ¬ ((bestN scores may i).length : Int) > 0) : bestN scores may i ++ [(i : Int)] = bestN scores may (i + 1) := by
  have he : bestN scores may i = [] := List.eq_nil_of_length_eq_zero (by omega)
  simp only [bestN, bestStep]; rw [if_pos h1, if_pos he, he]; rfl
end
set_option maxHeartbeats 1000000 in
theorem Best_spec (scores : List Int) (may : List Bool) (v u : Value) (s : St) (hv : Sl (kInt .i64) s.I v scores) (hu : Sl kBool s.I u may) (hb : scores.length ≤ 1073741824) :
    CallR Tryz.prog 36 #[v, u] s (fun J w => Sl (kInt .i64) J w (bestN scores may scores.length)) := by
  intro K hK
  refine callS_of_run Tryz.func36 rfl ?_; simp only [Tryz.ntmps36, List.size_toArray, List.length_cons, List.length_nil, Nat.reduceAdd, Nat.reduceSub, Array.replicate_succ, Array.replicate_zero, List.push_toArray, List.append_toArray, List.nil_append, List.cons_append]
  have hnil := OwnS.nil (kInt .i64) 3 s.I
  refine run_seq fun _ hk1 => ?_
  refine run_region ?_
  refine opsR_q rfl (q_assign) ?_
  simp only [nrm, Nat.reduceAdd, Nat.reduceMul, Nat.reduceSub, Int.reduceToNat, Int.reduceAdd]
  refine opsR_nil ?_
  refine hk1 _ _ ?_
  clear hk1
  refine run_seq fun _ hk2 => ?_
  refine run_region ?_
  refine opsR_q rfl (q_assign) ?_
  simp only [nrm, Nat.reduceAdd, Nat.reduceMul, Nat.reduceSub, Int.reduceToNat, Int.reduceAdd]
  refine opsR_nil ?_
  refine hk2 _ _ ?_
  clear hk2
  refine run_seq fun _ hk3 => ?_
  refine run_seq fun _ hk4 => ?_
  refine run_region ?_
  refine opsR_q rfl (q_move) ?_
  simp only [nrm, Nat.reduceAdd, Nat.reduceMul, Nat.reduceSub, Int.reduceToNat, Int.reduceAdd]
  refine opsR_q rfl (q_len_v rfl (by first | exact Sl.len (by assumption) | exact OwnS.len (by assumption) | exact SlR.len (by assumption) | assumption)) ?_
  simp only [nrm, Nat.reduceAdd, Nat.reduceMul, Nat.reduceSub, Int.reduceToNat, Int.reduceAdd]
  refine opsR_q rfl (q_move) ?_
  simp only [nrm, Nat.reduceAdd, Nat.reduceMul, Nat.reduceSub, Int.reduceToNat, Int.reduceAdd]
  refine opsR_nil ?_
  refine hk4 _ _ ?_
  clear hk4
  refine run_block ?_
  refine run_loopF [0, 0, 0, 0, 0, 2, 1, 1, 0, 0, 2, 1, 1, 1, 1, 1, 1, 1, 1, 1, 1, 1, 1, 1, 1, 1, 1, 1, 1, 1, 1, 1, 1, 1, 1, 1, 1, 1, 1, 1, 1, 1, 1, 1, 1, 1, 1, 1, 1, 1, 1, 1, 1, 1, 1, 1, 1, 1, 1, 1, 0] (fun zn zL zst => ∃ (i : Nat) (v' : Value) (hs : List (Nat × Obj)), zL = [v', .int .i64 (i : Nat)] ∧ ⟨s.I, hs ++ s.cs⟩ = zst ∧ zn = scores.length - i ∧ (i ≤ scores.length) ∧ (OwnS (kInt .i64) 3 s.I v' hs (bestN scores may i))) _ _ ⟨0, _, [], rfl, rfl, rfl, by first | assumption | omega | exact Hp.le.rfl | rfl | exact all_zero | exact all_succ (by assumption) (by assumption) | (intro _; omega) | (simp; done), by first | assumption | omega | exact Hp.le.rfl | rfl | exact all_zero | exact all_succ (by assumption) (by assumption) | (intro _; omega) | (simp; done)⟩ rfl ?_
  rintro _ _ _ jv6 ⟨i, v', hs, rfl, rfl, rfl, hi, hO⟩ K6 hkl6
  simp only [fr, Nat.zero_add, Nat.reduceAdd]
  have hbl := bestN_len scores may i
  have hbd := @bestN_bd scores may i
  refine run_seq fun _ hk7 => ?_
  refine run_region ?_
  refine opsR_q rfl (q_lss rfl rfl) ?_
  simp only [nrm, Nat.reduceAdd, Nat.reduceMul, Nat.reduceSub, Int.reduceToNat, Int.reduceAdd]
  refine opsR_nil ?_
  refine hk7 _ _ ?_
  clear hk7
  refine run_seq fun _ hk10 => ?_
  refine run_cond rfl (fun ho11 => ?_) (fun ho11 => ?_)
  · have hc11 := ho11; try simp only [spl] at hc11
    refine run_skip ?_
    refine hk10 _ _ ?_
    clear hk10
    refine run_seq fun _ hk12 => ?_
    refine run_block ?_
    refine run_seq fun _ hk13 => ?_
    refine run_region ?_
    refine opsR_q rfl (q_move) ?_
    simp only [nrm, Nat.reduceAdd, Nat.reduceMul, Nat.reduceSub, Int.reduceToNat, Int.reduceAdd]
    refine opsR_index rfl rfl rfl (by first | exact Sl.r (by assumption) (by first | exact .rfl | assumption | exact le2 (by assumption) (by assumption) | exact le3 (by assumption) (by assumption) (by assumption) | exact le4 (by assumption) (by assumption) (by assumption) (by assumption) | exact le5 (by assumption) (by assumption) (by assumption) (by assumption) (by assumption) | exact le6 (by assumption) (by assumption) (by assumption) (by assumption) (by assumption) (by assumption)) | (refine OwnS.r (OwnS.mono ?_ (by assumption)) (by intro p hp; simp only [List.mem_append, List.mem_cons, hp, true_or, or_true]); first | exact .rfl | assumption | exact le2 (by assumption) (by assumption) | exact le3 (by assumption) (by assumption) (by assumption) | exact le4 (by assumption) (by assumption) (by assumption) (by assumption) | exact le5 (by assumption) (by assumption) (by assumption) (by assumption) (by assumption) | exact le6 (by assumption) (by assumption) (by assumption) (by assumption) (by assumption) (by assumption)) | assumption) (by rfl) (by first | omega | ((try simp only [List.length_append, List.length_cons, List.length_nil, List.length_set, List.length_replicate, List.length_take, List.length_drop, List.length_map] at *); omega)) (by first | omega | ((try simp only [List.length_append, List.length_cons, List.length_nil, List.length_set, List.length_replicate, List.length_take, List.length_drop, List.length_map] at *); omega)) fun b14 o14 cs14 ha14 hr14 he14 => ?_
    simp only [nrm, Nat.reduceAdd, Nat.reduceMul, Nat.reduceSub, Int.reduceToNat, Int.reduceAdd]
    try simp only [Int.toNat_natCast, Int.reduceToNat, Int.toNat_zero] at hr14
    try simp only [Int.toNat_natCast, Int.reduceToNat, Int.toNat_zero] at he14
    clear ha14
    obtain rfl := hr14
    refine opsR_q rfl (by first | exact q_load_at1 (i := 0) rfl (by assumption) rfl (Nat.le_of_ble_eq_true rfl) rfl | exact q_load_at1 rfl (by assumption) rfl (Nat.le_of_ble_eq_true rfl) rfl) ?_
    simp only [nrm, Nat.reduceAdd, Nat.reduceMul, Nat.reduceSub, Int.reduceToNat, Int.reduceAdd]
    refine opsR_q rfl (q_assign) ?_
    simp only [nrm, Nat.reduceAdd, Nat.reduceMul, Nat.reduceSub, Int.reduceToNat, Int.reduceAdd]
    refine opsR_q rfl (q_assign) ?_
    simp only [nrm, Nat.reduceAdd, Nat.reduceMul, Nat.reduceSub, Int.reduceToNat, Int.reduceAdd]
    refine opsR_nil ?_
    refine hk13 _ _ ?_
    clear hk13
    refine run_seq fun _ hk16 => ?_
    refine run_block ?_
    refine run_seq fun _ hk17 => ?_
    refine run_region ?_
    refine opsR_q rfl (q_move) ?_
    simp only [nrm, Nat.reduceAdd, Nat.reduceMul, Nat.reduceSub, Int.reduceToNat, Int.reduceAdd]
    refine opsR_q rfl (q_move) ?_
    simp only [nrm, Nat.reduceAdd, Nat.reduceMul, Nat.reduceSub, Int.reduceToNat, Int.reduceAdd]
    refine opsR_q rfl (q_len_v rfl (by first | exact Sl.len (by assumption) | exact OwnS.len (by assumption) | exact SlR.len (by assumption) | assumption)) ?_
    simp only [nrm, Nat.reduceAdd, Nat.reduceMul, Nat.reduceSub, Int.reduceToNat, Int.reduceAdd]
    refine opsR_q rfl (q_geq rfl rfl) ?_
    simp only [nrm, Nat.reduceAdd, Nat.reduceMul, Nat.reduceSub, Int.reduceToNat, Int.reduceAdd]
    refine opsR_qb rfl (q_move) (fun hc19 => ?_) (fun hc19 => ?_)
    · have ho19 := hc19; try simp only [spl] at hc19
      simp only [nrm, Nat.reduceAdd, Nat.reduceMul, Nat.reduceSub, Int.reduceToNat, Int.reduceAdd]
      refine opsR_skip rfl ?_
      simp only [nrm, Nat.reduceAdd, Nat.reduceMul, Nat.reduceSub, Int.reduceToNat, Int.reduceAdd]
      refine opsR_skip rfl ?_
      simp only [nrm, Nat.reduceAdd, Nat.reduceMul, Nat.reduceSub, Int.reduceToNat, Int.reduceAdd]
      refine opsR_skip rfl ?_
      simp only [nrm, Nat.reduceAdd, Nat.reduceMul, Nat.reduceSub, Int.reduceToNat, Int.reduceAdd]
      refine opsR_skip rfl ?_
      simp only [nrm, Nat.reduceAdd, Nat.reduceMul, Nat.reduceSub, Int.reduceToNat, Int.reduceAdd]
      refine opsR_skip rfl ?_
      simp only [nrm, Nat.reduceAdd, Nat.reduceMul, Nat.reduceSub, Int.reduceToNat, Int.reduceAdd]
      refine opsR_q rfl (q_pick_t rfl) ?_
      simp only [nrm, Nat.reduceAdd, Nat.reduceMul, Nat.reduceSub, Int.reduceToNat, Int.reduceAdd]
      refine opsR_q rfl (q_assign) ?_
      simp only [nrm, Nat.reduceAdd, Nat.reduceMul, Nat.reduceSub, Int.reduceToNat, Int.reduceAdd]
      refine opsR_nil ?_
      refine hk17 _ _ ?_
      clear hk17
      refine run_cond (t := true) rfl (fun _ => ?_) (fun h => by cases h)
      refine run_exit ?_
      refine hk12 _ _ ?_
      clear hk12
      refine run_region ?_
      refine opsR_q rfl (by first | exact q_add64 rfl rfl (by omega) (by omega) | exact q_add rfl rfl) ?_
      simp only [nrm, Nat.reduceAdd, Nat.reduceMul, Nat.reduceSub, Int.reduceToNat, Int.reduceAdd]
      refine opsR_q rfl (q_move) ?_
      simp only [nrm, Nat.reduceAdd, Nat.reduceMul, Nat.reduceSub, Int.reduceToNat, Int.reduceAdd]
      refine opsR_nil ?_
      first
      | exact hkl6 _ _ _ _ (by omega) ⟨i + 1, _, _, rfl, rfl, rfl, by first | omega | exact OwnS.cast (by assumption) (best_skip1 (by omega)) | exact OwnS.cast (by assumption) (best_skip2 (by assumption)) | exact OwnS.cast (by assumption) (best_skip3 (by assumption) (by omega) (by assumption)) | exact OwnS.cast (by assumption) (best_new (by assumption) (by omega) (by assumption)) | exact OwnS.cast (by assumption) (best_more (by assumption) (by omega) (by omega) (by omega)) | exact OwnS.cast (by assumption) (best_first (by assumption) (by omega)), by first | omega | exact OwnS.cast (by assumption) (best_skip1 (by omega)) | exact OwnS.cast (by assumption) (best_skip2 (by assumption)) | exact OwnS.cast (by assumption) (best_skip3 (by assumption) (by omega) (by assumption)) | exact OwnS.cast (by assumption) (best_new (by assumption) (by omega) (by assumption)) | exact OwnS.cast (by assumption) (best_more (by assumption) (by omega) (by omega) (by omega)) | exact OwnS.cast (by assumption) (best_first (by assumption) (by omega))⟩ rfl
    · have ho19 := hc19; try simp only [spl] at hc19
      simp only [nrm, Nat.reduceAdd, Nat.reduceMul, Nat.reduceSub, Int.reduceToNat, Int.reduceAdd]
      refine opsR_q rfl (q_move) ?_
      simp only [nrm, Nat.reduceAdd, Nat.reduceMul, Nat.reduceSub, Int.reduceToNat, Int.reduceAdd]
      refine opsR_q rfl (q_move) ?_
      simp only [nrm, Nat.reduceAdd, Nat.reduceMul, Nat.reduceSub, Int.reduceToNat, Int.reduceAdd]
      refine opsR_index rfl rfl rfl (by first | exact Sl.r (by assumption) (by first | exact .rfl | assumption | exact le2 (by assumption) (by assumption) | exact le3 (by assumption) (by assumption) (by assumption) | exact le4 (by assumption) (by assumption) (by assumption) (by assumption) | exact le5 (by assumption) (by assumption) (by assumption) (by assumption) (by assumption) | exact le6 (by assumption) (by assumption) (by assumption) (by assumption) (by assumption) (by assumption)) | (refine OwnS.r (OwnS.mono ?_ (by assumption)) (by intro p hp; simp only [List.mem_append, List.mem_cons, hp, true_or, or_true]); first | exact .rfl | assumption | exact le2 (by assumption) (by assumption) | exact le3 (by assumption) (by assumption) (by assumption) | exact le4 (by assumption) (by assumption) (by assumption) (by assumption) | exact le5 (by assumption) (by assumption) (by assumption) (by assumption) (by assumption) | exact le6 (by assumption) (by assumption) (by assumption) (by assumption) (by assumption) (by assumption)) | assumption) (by rfl) (by first | omega | ((try simp only [List.length_append, List.length_cons, List.length_nil, List.length_set, List.length_replicate, List.length_take, List.length_drop, List.length_map] at *); omega)) (by first | omega | ((try simp only [List.length_append, List.length_cons, List.length_nil, List.length_set, List.length_replicate, List.length_take, List.length_drop, List.length_map] at *); omega)) fun b20 o20 cs20 ha20 hr20 he20 => ?_
      simp only [nrm, Nat.reduceAdd, Nat.reduceMul, Nat.reduceSub, Int.reduceToNat, Int.reduceAdd]
      try simp only [Int.toNat_natCast, Int.reduceToNat, Int.toNat_zero] at hr20
      try simp only [Int.toNat_natCast, Int.reduceToNat, Int.toNat_zero] at he20
      clear ha20
      obtain rfl := hr20
      refine opsR_q rfl (by first | exact q_load_at1 (i := 0) rfl (by assumption) rfl (Nat.le_of_ble_eq_true rfl) rfl | exact q_load_at1 rfl (by assumption) rfl (Nat.le_of_ble_eq_true rfl) rfl) ?_
      simp only [nrm, Nat.reduceAdd, Nat.reduceMul, Nat.reduceSub, Int.reduceToNat, Int.reduceAdd]
      refine opsR_q rfl (q_not rfl) ?_
      simp only [nrm, Nat.reduceAdd, Nat.reduceMul, Nat.reduceSub, Int.reduceToNat, Int.reduceAdd]
      refine opsR_q rfl (q_pick_f rfl) ?_
      simp only [nrm, Nat.reduceAdd, Nat.reduceMul, Nat.reduceSub, Int.reduceToNat, Int.reduceAdd]
      refine opsR_q rfl (q_assign) ?_
      simp only [nrm, Nat.reduceAdd, Nat.reduceMul, Nat.reduceSub, Int.reduceToNat, Int.reduceAdd]
      refine opsR_nil ?_
      refine hk17 _ _ ?_
      clear hk17
      refine run_cond rfl (fun ho21 => ?_) (fun ho21 => ?_)
      · have hc21 := ho21; try simp only [spl] at hc21
        refine run_exit ?_
        refine hk12 _ _ ?_
        clear hk12
        refine run_region ?_
        refine opsR_q rfl (by first | exact q_add64 rfl rfl (by omega) (by omega) | exact q_add rfl rfl) ?_
        simp only [nrm, Nat.reduceAdd, Nat.reduceMul, Nat.reduceSub, Int.reduceToNat, Int.reduceAdd]
        refine opsR_q rfl (q_move) ?_
        simp only [nrm, Nat.reduceAdd, Nat.reduceMul, Nat.reduceSub, Int.reduceToNat, Int.reduceAdd]
        refine opsR_nil ?_
        first
        | exact hkl6 _ _ _ _ (by omega) ⟨i + 1, _, _, rfl, rfl, rfl, by first | omega | exact OwnS.cast (by assumption) (best_skip1 (by omega)) | exact OwnS.cast (by assumption) (best_skip2 (by assumption)) | exact OwnS.cast (by assumption) (best_skip3 (by assumption) (by omega) (by assumption)) | exact OwnS.cast (by assumption) (best_new (by assumption) (by omega) (by assumption)) | exact OwnS.cast (by assumption) (best_more (by assumption) (by omega) (by omega) (by omega)) | exact OwnS.cast (by assumption) (best_first (by assumption) (by omega)), by first | omega | exact OwnS.cast (by assumption) (best_skip1 (by omega)) | exact OwnS.cast (by assumption) (best_skip2 (by assumption)) | exact OwnS.cast (by assumption) (best_skip3 (by assumption) (by omega) (by assumption)) | exact OwnS.cast (by assumption) (best_new (by assumption) (by omega) (by assumption)) | exact OwnS.cast (by assumption) (best_more (by assumption) (by omega) (by omega) (by omega)) | exact OwnS.cast (by assumption) (best_first (by assumption) (by omega))⟩ rfl
      · have hc21 := ho21; try simp only [spl] at hc21
        refine run_seq fun _ hk22 => ?_
        refine run_region ?_
        refine opsR_q rfl (q_move) ?_
        simp only [nrm, Nat.reduceAdd, Nat.reduceMul, Nat.reduceSub, Int.reduceToNat, Int.reduceAdd]
        refine opsR_q rfl (q_len_v rfl (by first | exact Sl.len (by assumption) | exact OwnS.len (by assumption) | exact SlR.len (by assumption) | assumption)) ?_
        simp only [nrm, Nat.reduceAdd, Nat.reduceMul, Nat.reduceSub, Int.reduceToNat, Int.reduceAdd]
        refine opsR_q rfl (q_gtr rfl rfl) ?_
        simp only [nrm, Nat.reduceAdd, Nat.reduceMul, Nat.reduceSub, Int.reduceToNat, Int.reduceAdd]
        refine opsR_qb rfl (q_move) (fun hc24 => ?_) (fun hc24 => ?_)
        · have ho24 := hc24; try simp only [spl] at hc24
          simp only [nrm, Nat.reduceAdd, Nat.reduceMul, Nat.reduceSub, Int.reduceToNat, Int.reduceAdd]
          refine opsR_q rfl (q_move) ?_
          simp only [nrm, Nat.reduceAdd, Nat.reduceMul, Nat.reduceSub, Int.reduceToNat, Int.reduceAdd]
          refine opsR_q rfl (q_move) ?_
          simp only [nrm, Nat.reduceAdd, Nat.reduceMul, Nat.reduceSub, Int.reduceToNat, Int.reduceAdd]
          refine opsR_q rfl (q_move) ?_
          simp only [nrm, Nat.reduceAdd, Nat.reduceMul, Nat.reduceSub, Int.reduceToNat, Int.reduceAdd]
          refine opsR_index rfl rfl rfl (by first | exact Sl.r (by assumption) (by first | exact .rfl | assumption | exact le2 (by assumption) (by assumption) | exact le3 (by assumption) (by assumption) (by assumption) | exact le4 (by assumption) (by assumption) (by assumption) (by assumption) | exact le5 (by assumption) (by assumption) (by assumption) (by assumption) (by assumption) | exact le6 (by assumption) (by assumption) (by assumption) (by assumption) (by assumption) (by assumption)) | (refine OwnS.r (OwnS.mono ?_ (by assumption)) (by intro p hp; simp only [List.mem_append, List.mem_cons, hp, true_or, or_true]); first | exact .rfl | assumption | exact le2 (by assumption) (by assumption) | exact le3 (by assumption) (by assumption) (by assumption) | exact le4 (by assumption) (by assumption) (by assumption) (by assumption) | exact le5 (by assumption) (by assumption) (by assumption) (by assumption) (by assumption) | exact le6 (by assumption) (by assumption) (by assumption) (by assumption) (by assumption) (by assumption)) | assumption) (by rfl) (by first | omega | ((try simp only [List.length_append, List.length_cons, List.length_nil, List.length_set, List.length_replicate, List.length_take, List.length_drop, List.length_map] at *); omega)) (by first | omega | ((try simp only [List.length_append, List.length_cons, List.length_nil, List.length_set, List.length_replicate, List.length_take, List.length_drop, List.length_map] at *); omega)) fun b26 o26 cs26 ha26 hr26 he26 => ?_
          simp only [nrm, Nat.reduceAdd, Nat.reduceMul, Nat.reduceSub, Int.reduceToNat, Int.reduceAdd]
          try simp only [Int.toNat_natCast, Int.reduceToNat, Int.toNat_zero] at hr26
          try simp only [Int.toNat_natCast, Int.reduceToNat, Int.toNat_zero] at he26
          clear ha26
          obtain rfl := hr26
          refine opsR_q rfl (by first | exact q_load_at1 (i := 0) rfl (by assumption) rfl (Nat.le_of_ble_eq_true rfl) rfl | exact q_load_at1 rfl (by assumption) rfl (Nat.le_of_ble_eq_true rfl) rfl) ?_
          simp only [nrm, Nat.reduceAdd, Nat.reduceMul, Nat.reduceSub, Int.reduceToNat, Int.reduceAdd]
          refine opsR_index rfl rfl rfl (by first | exact Sl.r (by assumption) (by first | exact .rfl | assumption | exact le2 (by assumption) (by assumption) | exact le3 (by assumption) (by assumption) (by assumption) | exact le4 (by assumption) (by assumption) (by assumption) (by assumption) | exact le5 (by assumption) (by assumption) (by assumption) (by assumption) (by assumption) | exact le6 (by assumption) (by assumption) (by assumption) (by assumption) (by assumption) (by assumption)) | (refine OwnS.r (OwnS.mono ?_ (by assumption)) (by intro p hp; simp only [List.mem_append, List.mem_cons, hp, true_or, or_true]); first | exact .rfl | assumption | exact le2 (by assumption) (by assumption) | exact le3 (by assumption) (by assumption) (by assumption) | exact le4 (by assumption) (by assumption) (by assumption) (by assumption) | exact le5 (by assumption) (by assumption) (by assumption) (by assumption) (by assumption) | exact le6 (by assumption) (by assumption) (by assumption) (by assumption) (by assumption) (by assumption)) | assumption) (by rfl) (by first | omega | ((try simp only [List.length_append, List.length_cons, List.length_nil, List.length_set, List.length_replicate, List.length_take, List.length_drop, List.length_map] at *); omega)) (by first | omega | ((try simp only [List.length_append, List.length_cons, List.length_nil, List.length_set, List.length_replicate, List.length_take, List.length_drop, List.length_map] at *); omega)) fun b27 o27 cs27 ha27 hr27 he27 => ?_
          simp only [nrm, Nat.reduceAdd, Nat.reduceMul, Nat.reduceSub, Int.reduceToNat, Int.reduceAdd]
          try simp only [Int.toNat_natCast, Int.reduceToNat, Int.toNat_zero] at hr27
          try simp only [Int.toNat_natCast, Int.reduceToNat, Int.toNat_zero] at he27
          clear ha27
          obtain rfl := hr27
          refine opsR_q rfl (by first | exact q_load_at1 (i := 0) rfl (by assumption) rfl (Nat.le_of_ble_eq_true rfl) rfl | exact q_load_at1 rfl (by assumption) rfl (Nat.le_of_ble_eq_true rfl) rfl) ?_
          simp only [nrm, Nat.reduceAdd, Nat.reduceMul, Nat.reduceSub, Int.reduceToNat, Int.reduceAdd]
          refine opsR_q rfl (q_lss rfl rfl) ?_
          simp only [nrm, Nat.reduceAdd, Nat.reduceMul, Nat.reduceSub, Int.reduceToNat, Int.reduceAdd]
          refine opsR_q rfl (q_pick_t rfl) ?_
          simp only [nrm, Nat.reduceAdd, Nat.reduceMul, Nat.reduceSub, Int.reduceToNat, Int.reduceAdd]
          refine opsR_q rfl (q_assign) ?_
          simp only [nrm, Nat.reduceAdd, Nat.reduceMul, Nat.reduceSub, Int.reduceToNat, Int.reduceAdd]
          refine opsR_nil ?_
          refine hk22 _ _ ?_
          clear hk22
          refine run_cond rfl (fun ho28 => ?_) (fun ho28 => ?_)
          · have hc28 := ho28; try simp only [spl] at hc28
            refine run_exit ?_
            refine hk12 _ _ ?_
            clear hk12
            refine run_region ?_
            refine opsR_q rfl (by first | exact q_add64 rfl rfl (by omega) (by omega) | exact q_add rfl rfl) ?_
            simp only [nrm, Nat.reduceAdd, Nat.reduceMul, Nat.reduceSub, Int.reduceToNat, Int.reduceAdd]
            refine opsR_q rfl (q_move) ?_
            simp only [nrm, Nat.reduceAdd, Nat.reduceMul, Nat.reduceSub, Int.reduceToNat, Int.reduceAdd]
            refine opsR_nil ?_
            first
            | exact hkl6 _ _ _ _ (by omega) ⟨i + 1, _, _, rfl, rfl, rfl, by first | omega | exact OwnS.cast (by assumption) (best_skip1 (by omega)) | exact OwnS.cast (by assumption) (best_skip2 (by assumption)) | exact OwnS.cast (by assumption) (best_skip3 (by assumption) (by omega) (by assumption)) | exact OwnS.cast (by assumption) (best_new (by assumption) (by omega) (by assumption)) | exact OwnS.cast (by assumption) (best_more (by assumption) (by omega) (by omega) (by omega)) | exact OwnS.cast (by assumption) (best_first (by assumption) (by omega)), by first | omega | exact OwnS.cast (by assumption) (best_skip1 (by omega)) | exact OwnS.cast (by assumption) (best_skip2 (by assumption)) | exact OwnS.cast (by assumption) (best_skip3 (by assumption) (by omega) (by assumption)) | exact OwnS.cast (by assumption) (best_new (by assumption) (by omega) (by assumption)) | exact OwnS.cast (by assumption) (best_more (by assumption) (by omega) (by omega) (by omega)) | exact OwnS.cast (by assumption) (best_first (by assumption) (by omega))⟩ rfl
          · have hc28 := ho28; try simp only [spl] at hc28
            refine run_seq fun _ hk29 => ?_
            refine run_region ?_
            refine opsR_q rfl (q_move) ?_
            simp only [nrm, Nat.reduceAdd, Nat.reduceMul, Nat.reduceSub, Int.reduceToNat, Int.reduceAdd]
            refine opsR_q rfl (q_len_v rfl (by first | exact Sl.len (by assumption) | exact OwnS.len (by assumption) | exact SlR.len (by assumption) | assumption)) ?_
            simp only [nrm, Nat.reduceAdd, Nat.reduceMul, Nat.reduceSub, Int.reduceToNat, Int.reduceAdd]
            refine opsR_q rfl (q_gtr rfl rfl) ?_
            simp only [nrm, Nat.reduceAdd, Nat.reduceMul, Nat.reduceSub, Int.reduceToNat, Int.reduceAdd]
            refine opsR_qb rfl (q_move) (fun _ => ?_) (fun h => by first | exact absurd h (by rw [ho24]; decide) | exact absurd ho24 (by rw [h]; decide))
            simp only [nrm, Nat.reduceAdd, Nat.reduceMul, Nat.reduceSub, Int.reduceToNat, Int.reduceAdd]
            refine opsR_q rfl (q_move) ?_
            simp only [nrm, Nat.reduceAdd, Nat.reduceMul, Nat.reduceSub, Int.reduceToNat, Int.reduceAdd]
            refine opsR_q rfl (q_move) ?_
            simp only [nrm, Nat.reduceAdd, Nat.reduceMul, Nat.reduceSub, Int.reduceToNat, Int.reduceAdd]
            refine opsR_q rfl (q_move) ?_
            simp only [nrm, Nat.reduceAdd, Nat.reduceMul, Nat.reduceSub, Int.reduceToNat, Int.reduceAdd]
            refine opsR_index rfl rfl rfl (by first | exact Sl.r (by assumption) (by first | exact .rfl | assumption | exact le2 (by assumption) (by assumption) | exact le3 (by assumption) (by assumption) (by assumption) | exact le4 (by assumption) (by assumption) (by assumption) (by assumption) | exact le5 (by assumption) (by assumption) (by assumption) (by assumption) (by assumption) | exact le6 (by assumption) (by assumption) (by assumption) (by assumption) (by assumption) (by assumption)) | (refine OwnS.r (OwnS.mono ?_ (by assumption)) (by intro p hp; simp only [List.mem_append, List.mem_cons, hp, true_or, or_true]); first | exact .rfl | assumption | exact le2 (by assumption) (by assumption) | exact le3 (by assumption) (by assumption) (by assumption) | exact le4 (by assumption) (by assumption) (by assumption) (by assumption) | exact le5 (by assumption) (by assumption) (by assumption) (by assumption) (by assumption) | exact le6 (by assumption) (by assumption) (by assumption) (by assumption) (by assumption) (by assumption)) | assumption) (by rfl) (by first | omega | ((try simp only [List.length_append, List.length_cons, List.length_nil, List.length_set, List.length_replicate, List.length_take, List.length_drop, List.length_map] at *); omega)) (by first | omega | ((try simp only [List.length_append, List.length_cons, List.length_nil, List.length_set, List.length_replicate, List.length_take, List.length_drop, List.length_map] at *); omega)) fun b30 o30 cs30 ha30 hr30 he30 => ?_
            simp only [nrm, Nat.reduceAdd, Nat.reduceMul, Nat.reduceSub, Int.reduceToNat, Int.reduceAdd]
            try simp only [Int.toNat_natCast, Int.reduceToNat, Int.toNat_zero] at hr30
            try simp only [Int.toNat_natCast, Int.reduceToNat, Int.toNat_zero] at he30
            clear ha30
            obtain rfl := hr30
            refine opsR_q rfl (by first | exact q_load_at1 (i := 0) rfl (by assumption) rfl (Nat.le_of_ble_eq_true rfl) rfl | exact q_load_at1 rfl (by assumption) rfl (Nat.le_of_ble_eq_true rfl) rfl) ?_
            simp only [nrm, Nat.reduceAdd, Nat.reduceMul, Nat.reduceSub, Int.reduceToNat, Int.reduceAdd]
            refine opsR_index rfl rfl rfl (by first | exact Sl.r (by assumption) (by first | exact .rfl | assumption | exact le2 (by assumption) (by assumption) | exact le3 (by assumption) (by assumption) (by assumption) | exact le4 (by assumption) (by assumption) (by assumption) (by assumption) | exact le5 (by assumption) (by assumption) (by assumption) (by assumption) (by assumption) | exact le6 (by assumption) (by assumption) (by assumption) (by assumption) (by assumption) (by assumption)) | (refine OwnS.r (OwnS.mono ?_ (by assumption)) (by intro p hp; simp only [List.mem_append, List.mem_cons, hp, true_or, or_true]); first | exact .rfl | assumption | exact le2 (by assumption) (by assumption) | exact le3 (by assumption) (by assumption) (by assumption) | exact le4 (by assumption) (by assumption) (by assumption) (by assumption) | exact le5 (by assumption) (by assumption) (by assumption) (by assumption) (by assumption) | exact le6 (by assumption) (by assumption) (by assumption) (by assumption) (by assumption) (by assumption)) | assumption) (by rfl) (by first | omega | ((try simp only [List.length_append, List.length_cons, List.length_nil, List.length_set, List.length_replicate, List.length_take, List.length_drop, List.length_map] at *); omega)) (by first | omega | ((try simp only [List.length_append, List.length_cons, List.length_nil, List.length_set, List.length_replicate, List.length_take, List.length_drop, List.length_map] at *); omega)) fun b31 o31 cs31 ha31 hr31 he31 => ?_
            simp only [nrm, Nat.reduceAdd, Nat.reduceMul, Nat.reduceSub, Int.reduceToNat, Int.reduceAdd]
            try simp only [Int.toNat_natCast, Int.reduceToNat, Int.toNat_zero] at hr31
            try simp only [Int.toNat_natCast, Int.reduceToNat, Int.toNat_zero] at he31
            clear ha31
            obtain rfl := hr31
            refine opsR_q rfl (by first | exact q_load_at1 (i := 0) rfl (by assumption) rfl (Nat.le_of_ble_eq_true rfl) rfl | exact q_load_at1 rfl (by assumption) rfl (Nat.le_of_ble_eq_true rfl) rfl) ?_
            simp only [nrm, Nat.reduceAdd, Nat.reduceMul, Nat.reduceSub, Int.reduceToNat, Int.reduceAdd]
            refine opsR_q rfl (q_gtr rfl rfl) ?_
            simp only [nrm, Nat.reduceAdd, Nat.reduceMul, Nat.reduceSub, Int.reduceToNat, Int.reduceAdd]
            refine opsR_q rfl (q_pick_t rfl) ?_
            simp only [nrm, Nat.reduceAdd, Nat.reduceMul, Nat.reduceSub, Int.reduceToNat, Int.reduceAdd]
            refine opsR_q rfl (q_assign) ?_
            simp only [nrm, Nat.reduceAdd, Nat.reduceMul, Nat.reduceSub, Int.reduceToNat, Int.reduceAdd]
            refine opsR_nil ?_
            refine hk29 _ _ ?_
            clear hk29
            refine run_cond rfl (fun ho32 => ?_) (fun ho32 => ?_)
            · have hc32 := ho32; try simp only [spl] at hc32
              refine run_gh Gh.dropA ?_
              refine run_region ?_
              refine opsR_q rfl (q_assign) ?_
              simp only [nrm, Nat.reduceAdd, Nat.reduceMul, Nat.reduceSub, Int.reduceToNat, Int.reduceAdd]
              refine opsR_nil ?_
              refine hk16 _ _ ?_
              clear hk16
              refine run_region ?_
              refine opsR_q rfl (q_move) ?_
              simp only [nrm, Nat.reduceAdd, Nat.reduceMul, Nat.reduceSub, Int.reduceToNat, Int.reduceAdd]
              refine opsR_q rfl (q_move) ?_
              simp only [nrm, Nat.reduceAdd, Nat.reduceMul, Nat.reduceSub, Int.reduceToNat, Int.reduceAdd]
              refine opsR_slice1 (kInt .i64) rfl rfl (by rfl) (by decide) (by decide) (by rfl) (by first | rfl | assumption | exact (kInt .i64).shut | (refine Kd.mono _ ?_ (by assumption); first | exact .rfl | assumption | exact le2 (by assumption) (by assumption) | exact le3 (by assumption) (by assumption) (by assumption) | exact le4 (by assumption) (by assumption) (by assumption) (by assumption) | exact le5 (by assumption) (by assumption) (by assumption) (by assumption) (by assumption) | exact le6 (by assumption) (by assumption) (by assumption) (by assumption) (by assumption) (by assumption)) | (apply (kInt .i64).shut <;> assumption)) fun v33 hs33 hv33 => ?_
              simp only [nrm, Nat.reduceAdd, Nat.reduceMul, Nat.reduceSub, Int.reduceToNat, Int.reduceAdd]
              refine opsR_app rfl rfl rfl (by first | assumption | (refine OwnS.mono ?_ (by assumption); first | exact .rfl | assumption | exact le2 (by assumption) (by assumption) | exact le3 (by assumption) (by assumption) (by assumption) | exact le4 (by assumption) (by assumption) (by assumption) (by assumption) | exact le5 (by assumption) (by assumption) (by assumption) (by assumption) (by assumption) | exact le6 (by assumption) (by assumption) (by assumption) (by assumption) (by assumption) (by assumption))) (by infer_instance) (by first | exact Sl.r (by assumption) (by first | exact .rfl | assumption | exact le2 (by assumption) (by assumption) | exact le3 (by assumption) (by assumption) (by assumption) | exact le4 (by assumption) (by assumption) (by assumption) (by assumption) | exact le5 (by assumption) (by assumption) (by assumption) (by assumption) (by assumption) | exact le6 (by assumption) (by assumption) (by assumption) (by assumption) (by assumption) (by assumption)) | (refine OwnS.r (OwnS.mono ?_ (by assumption)) (by intro p hp; simp only [List.mem_append, List.mem_cons, hp, true_or, or_true]); first | exact .rfl | assumption | exact le2 (by assumption) (by assumption) | exact le3 (by assumption) (by assumption) (by assumption) | exact le4 (by assumption) (by assumption) (by assumption) (by assumption) | exact le5 (by assumption) (by assumption) (by assumption) (by assumption) (by assumption) | exact le6 (by assumption) (by assumption) (by assumption) (by assumption) (by assumption) (by assumption)) | assumption) (by rfl) (by rfl) rfl rfl (by first | omega | ((try simp only [List.length_append, List.length_cons, List.length_nil, List.length_set, List.length_replicate, List.length_take, List.length_drop, List.length_map] at *); omega)) fun v34 hs34 hv34 => ?_
              simp only [nrm, Nat.reduceAdd, Nat.reduceMul, Nat.reduceSub, Int.reduceToNat, Int.reduceAdd]
              refine opsR_dropS (hs := hs33) ?_
              try simp only [nrm, Nat.reduceAdd, Nat.reduceMul, Nat.reduceSub, Int.reduceToNat, Int.reduceAdd]
              refine opsR_q rfl (q_assign) ?_
              simp only [nrm, Nat.reduceAdd, Nat.reduceMul, Nat.reduceSub, Int.reduceToNat, Int.reduceAdd]
              refine opsR_nil ?_
              refine hk12 _ _ ?_
              clear hk12
              refine run_region ?_
              refine opsR_q rfl (by first | exact q_add64 rfl rfl (by omega) (by omega) | exact q_add rfl rfl) ?_
              simp only [nrm, Nat.reduceAdd, Nat.reduceMul, Nat.reduceSub, Int.reduceToNat, Int.reduceAdd]
              refine opsR_q rfl (q_move) ?_
              simp only [nrm, Nat.reduceAdd, Nat.reduceMul, Nat.reduceSub, Int.reduceToNat, Int.reduceAdd]
              refine opsR_nil ?_
              first
              | exact hkl6 _ _ _ _ (by omega) ⟨i + 1, _, _, rfl, rfl, rfl, by first | omega | exact OwnS.cast (by assumption) (best_skip1 (by omega)) | exact OwnS.cast (by assumption) (best_skip2 (by assumption)) | exact OwnS.cast (by assumption) (best_skip3 (by assumption) (by omega) (by assumption)) | exact OwnS.cast (by assumption) (best_new (by assumption) (by omega) (by assumption)) | exact OwnS.cast (by assumption) (best_more (by assumption) (by omega) (by omega) (by omega)) | exact OwnS.cast (by assumption) (best_first (by assumption) (by omega)), by first | omega | exact OwnS.cast (by assumption) (best_skip1 (by omega)) | exact OwnS.cast (by assumption) (best_skip2 (by assumption)) | exact OwnS.cast (by assumption) (best_skip3 (by assumption) (by omega) (by assumption)) | exact OwnS.cast (by assumption) (best_new (by assumption) (by omega) (by assumption)) | exact OwnS.cast (by assumption) (best_more (by assumption) (by omega) (by omega) (by omega)) | exact OwnS.cast (by assumption) (best_first (by assumption) (by omega))⟩ rfl
            · have hc32 := ho32; try simp only [spl] at hc32
              refine run_skip ?_
              refine hk16 _ _ ?_
              clear hk16
              refine run_region ?_
              refine opsR_q rfl (q_move) ?_
              simp only [nrm, Nat.reduceAdd, Nat.reduceMul, Nat.reduceSub, Int.reduceToNat, Int.reduceAdd]
              refine opsR_q rfl (q_move) ?_
              simp only [nrm, Nat.reduceAdd, Nat.reduceMul, Nat.reduceSub, Int.reduceToNat, Int.reduceAdd]
              refine opsR_slice1 (kInt .i64) rfl rfl (by rfl) (by decide) (by decide) (by rfl) (by first | rfl | assumption | exact (kInt .i64).shut | (refine Kd.mono _ ?_ (by assumption); first | exact .rfl | assumption | exact le2 (by assumption) (by assumption) | exact le3 (by assumption) (by assumption) (by assumption) | exact le4 (by assumption) (by assumption) (by assumption) (by assumption) | exact le5 (by assumption) (by assumption) (by assumption) (by assumption) (by assumption) | exact le6 (by assumption) (by assumption) (by assumption) (by assumption) (by assumption) (by assumption)) | (apply (kInt .i64).shut <;> assumption)) fun v36 hs36 hv36 => ?_
              simp only [nrm, Nat.reduceAdd, Nat.reduceMul, Nat.reduceSub, Int.reduceToNat, Int.reduceAdd]
              refine opsR_app rfl rfl rfl (by first | assumption | (refine OwnS.mono ?_ (by assumption); first | exact .rfl | assumption | exact le2 (by assumption) (by assumption) | exact le3 (by assumption) (by assumption) (by assumption) | exact le4 (by assumption) (by assumption) (by assumption) (by assumption) | exact le5 (by assumption) (by assumption) (by assumption) (by assumption) (by assumption) | exact le6 (by assumption) (by assumption) (by assumption) (by assumption) (by assumption) (by assumption))) (by infer_instance) (by first | exact Sl.r (by assumption) (by first | exact .rfl | assumption | exact le2 (by assumption) (by assumption) | exact le3 (by assumption) (by assumption) (by assumption) | exact le4 (by assumption) (by assumption) (by assumption) (by assumption) | exact le5 (by assumption) (by assumption) (by assumption) (by assumption) (by assumption) | exact le6 (by assumption) (by assumption) (by assumption) (by assumption) (by assumption) (by assumption)) | (refine OwnS.r (OwnS.mono ?_ (by assumption)) (by intro p hp; simp only [List.mem_append, List.mem_cons, hp, true_or, or_true]); first | exact .rfl | assumption | exact le2 (by assumption) (by assumption) | exact le3 (by assumption) (by assumption) (by assumption) | exact le4 (by assumption) (by assumption) (by assumption) (by assumption) | exact le5 (by assumption) (by assumption) (by assumption) (by assumption) (by assumption) | exact le6 (by assumption) (by assumption) (by assumption) (by assumption) (by assumption) (by assumption)) | assumption) (by rfl) (by rfl) rfl rfl (by first | omega | ((try simp only [List.length_append, List.length_cons, List.length_nil, List.length_set, List.length_replicate, List.length_take, List.length_drop, List.length_map] at *); omega)) fun v37 hs37 hv37 => ?_
              simp only [nrm, Nat.reduceAdd, Nat.reduceMul, Nat.reduceSub, Int.reduceToNat, Int.reduceAdd]
              refine opsR_dropS (hs := hs36) ?_
              try simp only [nrm, Nat.reduceAdd, Nat.reduceMul, Nat.reduceSub, Int.reduceToNat, Int.reduceAdd]
              refine opsR_q rfl (q_assign) ?_
              simp only [nrm, Nat.reduceAdd, Nat.reduceMul, Nat.reduceSub, Int.reduceToNat, Int.reduceAdd]
              refine opsR_nil ?_
              refine hk12 _ _ ?_
              clear hk12
              refine run_region ?_
              refine opsR_q rfl (by first | exact q_add64 rfl rfl (by omega) (by omega) | exact q_add rfl rfl) ?_
              simp only [nrm, Nat.reduceAdd, Nat.reduceMul, Nat.reduceSub, Int.reduceToNat, Int.reduceAdd]
              refine opsR_q rfl (q_move) ?_
              simp only [nrm, Nat.reduceAdd, Nat.reduceMul, Nat.reduceSub, Int.reduceToNat, Int.reduceAdd]
              refine opsR_nil ?_
              first
              | exact hkl6 _ _ _ _ (by omega) ⟨i + 1, _, _, rfl, rfl, rfl, by first | omega | exact OwnS.cast (by assumption) (best_skip1 (by omega)) | exact OwnS.cast (by assumption) (best_skip2 (by assumption)) | exact OwnS.cast (by assumption) (best_skip3 (by assumption) (by omega) (by assumption)) | exact OwnS.cast (by assumption) (best_new (by assumption) (by omega) (by assumption)) | exact OwnS.cast (by assumption) (best_more (by assumption) (by omega) (by omega) (by omega)) | exact OwnS.cast (by assumption) (best_first (by assumption) (by omega)), by first | omega | exact OwnS.cast (by assumption) (best_skip1 (by omega)) | exact OwnS.cast (by assumption) (best_skip2 (by assumption)) | exact OwnS.cast (by assumption) (best_skip3 (by assumption) (by omega) (by assumption)) | exact OwnS.cast (by assumption) (best_new (by assumption) (by omega) (by assumption)) | exact OwnS.cast (by assumption) (best_more (by assumption) (by omega) (by omega) (by omega)) | exact OwnS.cast (by assumption) (best_first (by assumption) (by omega))⟩ rfl
        · have ho24 := hc24; try simp only [spl] at hc24
          simp only [nrm, Nat.reduceAdd, Nat.reduceMul, Nat.reduceSub, Int.reduceToNat, Int.reduceAdd]
          refine opsR_skip rfl ?_
          simp only [nrm, Nat.reduceAdd, Nat.reduceMul, Nat.reduceSub, Int.reduceToNat, Int.reduceAdd]
          refine opsR_skip rfl ?_
          simp only [nrm, Nat.reduceAdd, Nat.reduceMul, Nat.reduceSub, Int.reduceToNat, Int.reduceAdd]
          refine opsR_skip rfl ?_
          simp only [nrm, Nat.reduceAdd, Nat.reduceMul, Nat.reduceSub, Int.reduceToNat, Int.reduceAdd]
          refine opsR_skip rfl ?_
          simp only [nrm, Nat.reduceAdd, Nat.reduceMul, Nat.reduceSub, Int.reduceToNat, Int.reduceAdd]
          refine opsR_skip rfl ?_
          simp only [nrm, Nat.reduceAdd, Nat.reduceMul, Nat.reduceSub, Int.reduceToNat, Int.reduceAdd]
          refine opsR_skip rfl ?_
          simp only [nrm, Nat.reduceAdd, Nat.reduceMul, Nat.reduceSub, Int.reduceToNat, Int.reduceAdd]
          refine opsR_skip rfl ?_
          simp only [nrm, Nat.reduceAdd, Nat.reduceMul, Nat.reduceSub, Int.reduceToNat, Int.reduceAdd]
          refine opsR_skip rfl ?_
          simp only [nrm, Nat.reduceAdd, Nat.reduceMul, Nat.reduceSub, Int.reduceToNat, Int.reduceAdd]
          refine opsR_q rfl (q_pick_f rfl) ?_
          simp only [nrm, Nat.reduceAdd, Nat.reduceMul, Nat.reduceSub, Int.reduceToNat, Int.reduceAdd]
          refine opsR_q rfl (q_assign) ?_
          simp only [nrm, Nat.reduceAdd, Nat.reduceMul, Nat.reduceSub, Int.reduceToNat, Int.reduceAdd]
          refine opsR_nil ?_
          refine hk22 _ _ ?_
          clear hk22
          refine run_cond (t := false) rfl (fun h => by cases h) (fun _ => ?_)
          refine run_seq fun _ hk39 => ?_
          refine run_region ?_
          refine opsR_q rfl (q_move) ?_
          simp only [nrm, Nat.reduceAdd, Nat.reduceMul, Nat.reduceSub, Int.reduceToNat, Int.reduceAdd]
          refine opsR_q rfl (q_len_v rfl (by first | exact Sl.len (by assumption) | exact OwnS.len (by assumption) | exact SlR.len (by assumption) | assumption)) ?_
          simp only [nrm, Nat.reduceAdd, Nat.reduceMul, Nat.reduceSub, Int.reduceToNat, Int.reduceAdd]
          refine opsR_q rfl (q_gtr rfl rfl) ?_
          simp only [nrm, Nat.reduceAdd, Nat.reduceMul, Nat.reduceSub, Int.reduceToNat, Int.reduceAdd]
          refine opsR_qb rfl (q_move) (fun h => by first | exact absurd h (by rw [ho24]; decide) | exact absurd ho24 (by rw [h]; decide)) (fun _ => ?_)
          simp only [nrm, Nat.reduceAdd, Nat.reduceMul, Nat.reduceSub, Int.reduceToNat, Int.reduceAdd]
          refine opsR_skip rfl ?_
          simp only [nrm, Nat.reduceAdd, Nat.reduceMul, Nat.reduceSub, Int.reduceToNat, Int.reduceAdd]
          refine opsR_skip rfl ?_
          simp only [nrm, Nat.reduceAdd, Nat.reduceMul, Nat.reduceSub, Int.reduceToNat, Int.reduceAdd]
          refine opsR_skip rfl ?_
          simp only [nrm, Nat.reduceAdd, Nat.reduceMul, Nat.reduceSub, Int.reduceToNat, Int.reduceAdd]
          refine opsR_skip rfl ?_
          simp only [nrm, Nat.reduceAdd, Nat.reduceMul, Nat.reduceSub, Int.reduceToNat, Int.reduceAdd]
          refine opsR_skip rfl ?_
          simp only [nrm, Nat.reduceAdd, Nat.reduceMul, Nat.reduceSub, Int.reduceToNat, Int.reduceAdd]
          refine opsR_skip rfl ?_
          simp only [nrm, Nat.reduceAdd, Nat.reduceMul, Nat.reduceSub, Int.reduceToNat, Int.reduceAdd]
          refine opsR_skip rfl ?_
          simp only [nrm, Nat.reduceAdd, Nat.reduceMul, Nat.reduceSub, Int.reduceToNat, Int.reduceAdd]
          refine opsR_skip rfl ?_
          simp only [nrm, Nat.reduceAdd, Nat.reduceMul, Nat.reduceSub, Int.reduceToNat, Int.reduceAdd]
          refine opsR_q rfl (q_pick_f rfl) ?_
          simp only [nrm, Nat.reduceAdd, Nat.reduceMul, Nat.reduceSub, Int.reduceToNat, Int.reduceAdd]
          refine opsR_q rfl (q_assign) ?_
          simp only [nrm, Nat.reduceAdd, Nat.reduceMul, Nat.reduceSub, Int.reduceToNat, Int.reduceAdd]
          refine opsR_nil ?_
          refine hk39 _ _ ?_
          clear hk39
          refine run_cond (t := false) rfl (fun h => by cases h) (fun _ => ?_)
          refine run_skip ?_
          refine hk16 _ _ ?_
          clear hk16
          refine run_region ?_
          refine opsR_q rfl (q_move) ?_
          simp only [nrm, Nat.reduceAdd, Nat.reduceMul, Nat.reduceSub, Int.reduceToNat, Int.reduceAdd]
          refine opsR_q rfl (q_move) ?_
          simp only [nrm, Nat.reduceAdd, Nat.reduceMul, Nat.reduceSub, Int.reduceToNat, Int.reduceAdd]
          refine opsR_slice1 (kInt .i64) rfl rfl (by rfl) (by decide) (by decide) (by rfl) (by first | rfl | assumption | exact (kInt .i64).shut | (refine Kd.mono _ ?_ (by assumption); first | exact .rfl | assumption | exact le2 (by assumption) (by assumption) | exact le3 (by assumption) (by assumption) (by assumption) | exact le4 (by assumption) (by assumption) (by assumption) (by assumption) | exact le5 (by assumption) (by assumption) (by assumption) (by assumption) (by assumption) | exact le6 (by assumption) (by assumption) (by assumption) (by assumption) (by assumption) (by assumption)) | (apply (kInt .i64).shut <;> assumption)) fun v40 hs40 hv40 => ?_
          simp only [nrm, Nat.reduceAdd, Nat.reduceMul, Nat.reduceSub, Int.reduceToNat, Int.reduceAdd]
          refine opsR_app rfl rfl rfl (by first | assumption | (refine OwnS.mono ?_ (by assumption); first | exact .rfl | assumption | exact le2 (by assumption) (by assumption) | exact le3 (by assumption) (by assumption) (by assumption) | exact le4 (by assumption) (by assumption) (by assumption) (by assumption) | exact le5 (by assumption) (by assumption) (by assumption) (by assumption) (by assumption) | exact le6 (by assumption) (by assumption) (by assumption) (by assumption) (by assumption) (by assumption))) (by infer_instance) (by first | exact Sl.r (by assumption) (by first | exact .rfl | assumption | exact le2 (by assumption) (by assumption) | exact le3 (by assumption) (by assumption) (by assumption) | exact le4 (by assumption) (by assumption) (by assumption) (by assumption) | exact le5 (by assumption) (by assumption) (by assumption) (by assumption) (by assumption) | exact le6 (by assumption) (by assumption) (by assumption) (by assumption) (by assumption) (by assumption)) | (refine OwnS.r (OwnS.mono ?_ (by assumption)) (by intro p hp; simp only [List.mem_append, List.mem_cons, hp, true_or, or_true]); first | exact .rfl | assumption | exact le2 (by assumption) (by assumption) | exact le3 (by assumption) (by assumption) (by assumption) | exact le4 (by assumption) (by assumption) (by assumption) (by assumption) | exact le5 (by assumption) (by assumption) (by assumption) (by assumption) (by assumption) | exact le6 (by assumption) (by assumption) (by assumption) (by assumption) (by assumption) (by assumption)) | assumption) (by rfl) (by rfl) rfl rfl (by first | omega | ((try simp only [List.length_append, List.length_cons, List.length_nil, List.length_set, List.length_replicate, List.length_take, List.length_drop, List.length_map] at *); omega)) fun v41 hs41 hv41 => ?_
          simp only [nrm, Nat.reduceAdd, Nat.reduceMul, Nat.reduceSub, Int.reduceToNat, Int.reduceAdd]
          refine opsR_dropS (hs := hs40) ?_
          try simp only [nrm, Nat.reduceAdd, Nat.reduceMul, Nat.reduceSub, Int.reduceToNat, Int.reduceAdd]
          refine opsR_q rfl (q_assign) ?_
          simp only [nrm, Nat.reduceAdd, Nat.reduceMul, Nat.reduceSub, Int.reduceToNat, Int.reduceAdd]
          refine opsR_nil ?_
          refine hk12 _ _ ?_
          clear hk12
          refine run_region ?_
          refine opsR_q rfl (by first | exact q_add64 rfl rfl (by omega) (by omega) | exact q_add rfl rfl) ?_
          simp only [nrm, Nat.reduceAdd, Nat.reduceMul, Nat.reduceSub, Int.reduceToNat, Int.reduceAdd]
          refine opsR_q rfl (q_move) ?_
          simp only [nrm, Nat.reduceAdd, Nat.reduceMul, Nat.reduceSub, Int.reduceToNat, Int.reduceAdd]
          refine opsR_nil ?_
          first
          | exact hkl6 _ _ _ _ (by omega) ⟨i + 1, _, _, rfl, rfl, rfl, by first | omega | exact OwnS.cast (by assumption) (best_skip1 (by omega)) | exact OwnS.cast (by assumption) (best_skip2 (by assumption)) | exact OwnS.cast (by assumption) (best_skip3 (by assumption) (by omega) (by assumption)) | exact OwnS.cast (by assumption) (best_new (by assumption) (by omega) (by assumption)) | exact OwnS.cast (by assumption) (best_more (by assumption) (by omega) (by omega) (by omega)) | exact OwnS.cast (by assumption) (best_first (by assumption) (by omega)), by first | omega | exact OwnS.cast (by assumption) (best_skip1 (by omega)) | exact OwnS.cast (by assumption) (best_skip2 (by assumption)) | exact OwnS.cast (by assumption) (best_skip3 (by assumption) (by omega) (by assumption)) | exact OwnS.cast (by assumption) (best_new (by assumption) (by omega) (by assumption)) | exact OwnS.cast (by assumption) (best_more (by assumption) (by omega) (by omega) (by omega)) | exact OwnS.cast (by assumption) (best_first (by assumption) (by omega))⟩ rfl
  · have hc11 := ho11; try simp only [spl] at hc11
    refine run_exit ?_
    refine hk3 _ _ ?_
    clear hk3
    refine run_seq fun _ hk43 => ?_
    refine run_region ?_
    refine opsR_q rfl (q_move) ?_
    simp only [nrm, Nat.reduceAdd, Nat.reduceMul, Nat.reduceSub, Int.reduceToNat, Int.reduceAdd]
    refine opsR_q rfl (q_assign) ?_
    simp only [nrm, Nat.reduceAdd, Nat.reduceMul, Nat.reduceSub, Int.reduceToNat, Int.reduceAdd]
    refine opsR_nil ?_
    refine hk43 _ _ ?_
    clear hk43
    obtain rfl : i = scores.length := by omega
    refine run_freeze (A := []) (by assumption) rfl fun J hJ hv => ?_
    refine run_ret ?_
    exact end_tmp rfl rfl rfl .refl (hK _ J hJ hv)
theorem best_end {scores : List Int} {may : List Bool} {i : Nat} (h1 : i ≤ scores.length) (h : ¬ (i < scores.length ∧ i < may.length)) (h2 : i ≤ may.length) : bestN scores may i = bestN scores may scores.length := by
  by_cases h3 : i < scores.length
  · have e1 : i = may.length := by omega
    subst e1
    have := bestN_over scores may (scores.length - may.length)
    rw [show may.length + (scores.length - may.length) = scores.length by omega] at this
    exact this.symm
  · rw [show i = scores.length by omega]
theorem best_new' {scores : List Int} {may : List Bool} {i : Nat} (h1 : may[i]! = true) (h2 : ((bestN scores may i).length : Int) > 0) (h3 : scores[i]! > scores[(bestN scores may i)[0]!.toNat]!) : [] ++ [(i : Int)] = bestN scores may (i + 1) := best_new h1 h2 h3
theorem best_keep {scores : List Int} {may : List Bool} {i : Nat} (h1 : may[i]! = true) (h2 : ((bestN scores may i).length : Int) > 0) (h3 : ¬ scores[i]! > scores[(bestN scores may i)[0]!.toNat]!) (h4 : ¬ scores[i]! = scores[(bestN scores may i)[0]!.toNat]!) : bestN scores may i = bestN scores may (i + 1) := best_skip3 h1 h2 (by omega)
set_option maxHeartbeats 1000000 in
theorem Clone_spec (l : List Int) (v : Value) (s : St) (hl : Sl (kInt .i64) s.I v l) (hb : l.length ≤ 1073741824) : CallR Tryz.prog 35 #[v] s (fun J u => Sl (kInt .i64) J u l) := by
  intro K hK
  refine callS_of_run Tryz.func35 rfl ?_; simp only [Tryz.ntmps35, List.size_toArray, List.length_cons, List.length_nil, Nat.reduceAdd, Nat.reduceSub, Array.replicate_succ, Array.replicate_zero, List.push_toArray, List.append_toArray, List.nil_append, List.cons_append]
  refine run_seq fun _ hk1 => ?_
  refine run_region ?_
  refine opsR_q rfl (q_assign) ?_
  simp only [nrm, Nat.reduceAdd, Nat.reduceMul, Nat.reduceSub, Int.reduceToNat, Int.reduceAdd]
  refine opsR_nil ?_
  refine hk1 _ _ ?_
  clear hk1
  refine run_seq fun _ hk2 => ?_
  refine run_seq fun _ hk3 => ?_
  refine run_region ?_
  refine opsR_q rfl (q_move) ?_
  simp only [nrm, Nat.reduceAdd, Nat.reduceMul, Nat.reduceSub, Int.reduceToNat, Int.reduceAdd]
  refine opsR_nil_eql rfl rfl rfl (by first | exact Sl.r (by assumption) (by first | exact .rfl | assumption | exact le2 (by assumption) (by assumption) | exact le3 (by assumption) (by assumption) (by assumption) | exact le4 (by assumption) (by assumption) (by assumption) (by assumption) | exact le5 (by assumption) (by assumption) (by assumption) (by assumption) (by assumption) | exact le6 (by assumption) (by assumption) (by assumption) (by assumption) (by assumption) (by assumption)) | (refine OwnS.r (OwnS.mono ?_ (by assumption)) (by intro p hp; simp only [List.mem_append, List.mem_cons, hp, true_or, or_true]); first | exact .rfl | assumption | exact le2 (by assumption) (by assumption) | exact le3 (by assumption) (by assumption) (by assumption) | exact le4 (by assumption) (by assumption) (by assumption) (by assumption) | exact le5 (by assumption) (by assumption) (by assumption) (by assumption) (by assumption) | exact le6 (by assumption) (by assumption) (by assumption) (by assumption) (by assumption) (by assumption)) | assumption) fun b5 hb5 => ?_
  simp only [nrm, Nat.reduceAdd, Nat.reduceMul, Nat.reduceSub, Int.reduceToNat, Int.reduceAdd]
  have hnl := hb5
  refine opsR_nil ?_
  refine hk3 _ _ ?_
  clear hk3
  refine run_cond rfl (fun ho6 => ?_) (fun ho6 => ?_)
  · have hc6 := ho6; try simp only [spl] at hc6
    refine run_seq fun _ hk7 => ?_
    refine run_region ?_
    refine opsR_q rfl (q_assign) ?_
    simp only [nrm, Nat.reduceAdd, Nat.reduceMul, Nat.reduceSub, Int.reduceToNat, Int.reduceAdd]
    refine opsR_nil ?_
    refine hk7 _ _ ?_
    clear hk7
    refine run_ret ?_
    have he : l = [] := hnl hc6
    exact end_tmp rfl rfl rfl .refl (hK _ _ .rfl (he ▸ Sl.nil _ _))
  · have hc6 := ho6; try simp only [spl] at hc6
    refine run_skip ?_
    refine hk2 _ _ ?_
    clear hk2
    refine run_seq fun _ hk8 => ?_
    refine run_region ?_
    refine opsR_slice0 (kInt .i64) rfl fun v9 hs9 hv9 => ?_
    simp only [nrm, Nat.reduceAdd, Nat.reduceMul, Nat.reduceSub, Int.reduceToNat, Int.reduceAdd]
    refine opsR_q rfl (q_move) ?_
    simp only [nrm, Nat.reduceAdd, Nat.reduceMul, Nat.reduceSub, Int.reduceToNat, Int.reduceAdd]
    refine opsR_app rfl rfl rfl (by first | assumption | (refine OwnS.mono ?_ (by assumption); first | exact .rfl | assumption | exact le2 (by assumption) (by assumption) | exact le3 (by assumption) (by assumption) (by assumption) | exact le4 (by assumption) (by assumption) (by assumption) (by assumption) | exact le5 (by assumption) (by assumption) (by assumption) (by assumption) (by assumption) | exact le6 (by assumption) (by assumption) (by assumption) (by assumption) (by assumption) (by assumption))) (by infer_instance) (by first | exact Sl.r (by assumption) (by first | exact .rfl | assumption | exact le2 (by assumption) (by assumption) | exact le3 (by assumption) (by assumption) (by assumption) | exact le4 (by assumption) (by assumption) (by assumption) (by assumption) | exact le5 (by assumption) (by assumption) (by assumption) (by assumption) (by assumption) | exact le6 (by assumption) (by assumption) (by assumption) (by assumption) (by assumption) (by assumption)) | (refine OwnS.r (OwnS.mono ?_ (by assumption)) (by intro p hp; simp only [List.mem_append, List.mem_cons, hp, true_or, or_true]); first | exact .rfl | assumption | exact le2 (by assumption) (by assumption) | exact le3 (by assumption) (by assumption) (by assumption) | exact le4 (by assumption) (by assumption) (by assumption) (by assumption) | exact le5 (by assumption) (by assumption) (by assumption) (by assumption) (by assumption) | exact le6 (by assumption) (by assumption) (by assumption) (by assumption) (by assumption) (by assumption)) | assumption) (by rfl) (by rfl) rfl rfl (by first | omega | ((try simp only [List.length_append, List.length_cons, List.length_nil, List.length_set, List.length_replicate, List.length_take, List.length_drop, List.length_map] at *); omega)) fun v10 hs10 hv10 => ?_
    simp only [nrm, Nat.reduceAdd, Nat.reduceMul, Nat.reduceSub, Int.reduceToNat, Int.reduceAdd]
    refine opsR_q rfl (q_assign) ?_
    simp only [nrm, Nat.reduceAdd, Nat.reduceMul, Nat.reduceSub, Int.reduceToNat, Int.reduceAdd]
    refine opsR_nil ?_
    refine hk8 _ _ ?_
    clear hk8
    refine run_freeze (A := []) (by assumption) rfl fun J hJ hv => ?_
    refine run_ret ?_
    exact end_tmp rfl rfl rfl .refl (hK _ J hJ hv)
theorem wrap_u64_bd (d : Int) : 0 ≤ IntKind.u64.wrap d ∧ IntKind.u64.wrap d ≤ 18446744073709551615 := by
  unfold IntKind.wrap
  have e1 : IntKind.u64.signed = false := rfl
  have e2 : IntKind.u64.bits = 64 := rfl
  simp only [e1, e2, Bool.false_and, Nat.reduceSub, Bool.false_eq_true, if_false, decide_false]
  omega
theorem wrap_ne {n : Nat} (h : 0 < n) (h2 : n ≤ 9223372036854775807) : IntKind.u64.wrap n ≠ 0 := by
  rw [wrap_u64_id (n := (n : Int)) (by omega) (by omega)]; omega
theorem pick_bd (d : Int) {n : Nat} (h : 0 < n) (h2 : n ≤ 9223372036854775807) : 0 ≤ (IntKind.u64.wrap d).tmod (IntKind.u64.wrap n) ∧ (IntKind.u64.wrap d).tmod (IntKind.u64.wrap n) < n := by
  rw [wrap_u64_id (n := (n : Int)) (by omega) (by omega)]
  have h1 := (wrap_u64_bd d).1
  rw [Int.tmod_eq_emod_of_nonneg h1]
  exact ⟨Int.emod_nonneg _ (by omega), Int.emod_lt_of_pos _ (by omega)⟩
def pickOf (l : List Int) (draw : Int) : Int := if l = [] then -1 else l[((IntKind.u64.wrap draw).tmod (IntKind.u64.wrap l.length)).toNat]!
theorem Pick_spec (scores : List Int) (may : List Bool) (draw : Int) (v u : Value) (s : St) (hv : Sl (kInt .i64) s.I v scores) (hu : Sl kBool s.I u may) (hb : scores.length ≤ 1073741824) (K : Value → St → Prop)
    (hK : ∀ J, Hp.le s.I J → K (.int .i64 (pickOf (bestN scores may scores.length) draw)) ⟨J, s.cs⟩) : CallS Tryz.prog 17 #[v, u, .int .i64 draw] s K := by
  have hbl := bestN_len scores may scores.length
  refine callS_of_run Tryz.func17 rfl ?_; simp only [Tryz.ntmps17, List.size_toArray, List.length_cons, List.length_nil, Nat.reduceAdd, Nat.reduceSub, Array.replicate_succ, Array.replicate_zero, List.push_toArray, List.append_toArray, List.nil_append, List.cons_append]
  refine run_seq fun _ hk1 => ?_
  refine run_region ?_
  refine opsR_q rfl (q_assign) ?_
  simp only [nrm, Nat.reduceAdd, Nat.reduceMul, Nat.reduceSub, Int.reduceToNat, Int.reduceAdd]
  refine opsR_nil ?_
  refine hk1 _ _ ?_
  clear hk1
  refine run_seq fun _ hk2 => ?_
  refine run_region ?_
  refine opsR_q rfl (q_move) ?_
  simp only [nrm, Nat.reduceAdd, Nat.reduceMul, Nat.reduceSub, Int.reduceToNat, Int.reduceAdd]
  refine opsR_q rfl (q_move) ?_
  simp only [nrm, Nat.reduceAdd, Nat.reduceMul, Nat.reduceSub, Int.reduceToNat, Int.reduceAdd]
  refine opsR_o rfl (o_call rfl (Best_spec _ _ _ _ _ (by first | assumption | (refine Sl.mono ?_ (by assumption); first | exact .rfl | assumption | exact le2 (by assumption) (by assumption) | exact le3 (by assumption) (by assumption) (by assumption) | exact le4 (by assumption) (by assumption) (by assumption) (by assumption) | exact le5 (by assumption) (by assumption) (by assumption) (by assumption) (by assumption) | exact le6 (by assumption) (by assumption) (by assumption) (by assumption) (by assumption) (by assumption))) (by first | assumption | (refine Sl.mono ?_ (by assumption); first | exact .rfl | assumption | exact le2 (by assumption) (by assumption) | exact le3 (by assumption) (by assumption) (by assumption) | exact le4 (by assumption) (by assumption) (by assumption) (by assumption) | exact le5 (by assumption) (by assumption) (by assumption) (by assumption) (by assumption) | exact le6 (by assumption) (by assumption) (by assumption) (by assumption) (by assumption) (by assumption))) (by omega) _ fun v5 J5 hJ5 hv5 => ?_))
  try dsimp only at hJ5 hv5
  try (have hr5 : Hp.le s.I J5 := (by first | exact .rfl | assumption | exact le2 (by assumption) (by assumption) | exact le3 (by assumption) (by assumption) (by assumption) | exact le4 (by assumption) (by assumption) (by assumption) (by assumption) | exact le5 (by assumption) (by assumption) (by assumption) (by assumption) (by assumption) | exact le6 (by assumption) (by assumption) (by assumption) (by assumption) (by assumption) (by assumption)); have hJ5 := hJ5)
  simp only [nrm, Nat.reduceAdd, Nat.reduceMul, Nat.reduceSub, Int.reduceToNat, Int.reduceAdd]
  refine opsR_o rfl (o_call rfl (Clone_spec _ _ _ (by first | assumption | (refine Sl.mono ?_ (by assumption); first | exact .rfl | assumption | exact le2 (by assumption) (by assumption) | exact le3 (by assumption) (by assumption) (by assumption) | exact le4 (by assumption) (by assumption) (by assumption) (by assumption) | exact le5 (by assumption) (by assumption) (by assumption) (by assumption) (by assumption) | exact le6 (by assumption) (by assumption) (by assumption) (by assumption) (by assumption) (by assumption))) (by omega) _ fun v6 J6 hJ6 hv6 => ?_))
  try dsimp only at hJ6 hv6
  try (have hr6 : Hp.le s.I J6 := (by first | exact .rfl | assumption | exact le2 (by assumption) (by assumption) | exact le3 (by assumption) (by assumption) (by assumption) | exact le4 (by assumption) (by assumption) (by assumption) (by assumption) | exact le5 (by assumption) (by assumption) (by assumption) (by assumption) (by assumption) | exact le6 (by assumption) (by assumption) (by assumption) (by assumption) (by assumption) (by assumption)); have hJ6 := hJ6)
  simp only [nrm, Nat.reduceAdd, Nat.reduceMul, Nat.reduceSub, Int.reduceToNat, Int.reduceAdd]
  refine opsR_q rfl (q_assign) ?_
  simp only [nrm, Nat.reduceAdd, Nat.reduceMul, Nat.reduceSub, Int.reduceToNat, Int.reduceAdd]
  refine opsR_nil ?_
  refine hk2 _ _ ?_
  clear hk2
  refine run_seq fun _ hk8 => ?_
  refine run_seq fun _ hk9 => ?_
  generalize hB : bestN scores may scores.length = B at *
  refine run_region ?_
  refine opsR_q rfl (q_move) ?_
  simp only [nrm, Nat.reduceAdd, Nat.reduceMul, Nat.reduceSub, Int.reduceToNat, Int.reduceAdd]
  refine opsR_q rfl (q_len_v rfl (by first | exact Sl.len (by assumption) | exact OwnS.len (by assumption) | exact SlR.len (by assumption) | assumption)) ?_
  simp only [nrm, Nat.reduceAdd, Nat.reduceMul, Nat.reduceSub, Int.reduceToNat, Int.reduceAdd]
  refine opsR_q rfl (q_eql rfl rfl) ?_
  simp only [nrm, Nat.reduceAdd, Nat.reduceMul, Nat.reduceSub, Int.reduceToNat, Int.reduceAdd]
  refine opsR_nil ?_
  refine hk9 _ _ ?_
  clear hk9
  refine run_cond rfl (fun ho10 => ?_) (fun ho10 => ?_)
  · have hc10 := ho10; try simp only [spl] at hc10
    refine run_seq fun _ hk11 => ?_
    refine run_region ?_
    refine opsR_q rfl (q_assign) ?_
    simp only [nrm, Nat.reduceAdd, Nat.reduceMul, Nat.reduceSub, Int.reduceToNat, Int.reduceAdd]
    refine opsR_nil ?_
    refine hk11 _ _ ?_
    clear hk11
    refine run_ret ?_
    have hB0 : B = [] := List.eq_nil_of_length_eq_zero (by omega)
    exact end_tmp rfl rfl rfl .refl (by rw [hB0] at hK; exact hK _ (by first | exact .rfl | assumption | exact le2 (by assumption) (by assumption) | exact le3 (by assumption) (by assumption) (by assumption) | exact le4 (by assumption) (by assumption) (by assumption) (by assumption) | exact le5 (by assumption) (by assumption) (by assumption) (by assumption) (by assumption) | exact le6 (by assumption) (by assumption) (by assumption) (by assumption) (by assumption) (by assumption)))
  · have hc10 := ho10; try simp only [spl] at hc10
    refine run_skip ?_
    refine hk8 _ _ ?_
    clear hk8
    refine run_seq fun _ hk12 => ?_
    have hpb := pick_bd draw (n := B.length) (by omega) (by omega)
    have hne := wrap_ne (n := B.length) (by omega) (by omega)
    refine run_region ?_
    refine opsR_q rfl (q_move) ?_
    simp only [nrm, Nat.reduceAdd, Nat.reduceMul, Nat.reduceSub, Int.reduceToNat, Int.reduceAdd]
    refine opsR_q rfl (q_move) ?_
    simp only [nrm, Nat.reduceAdd, Nat.reduceMul, Nat.reduceSub, Int.reduceToNat, Int.reduceAdd]
    refine opsR_q rfl (q_conv_int_int rfl) ?_
    simp only [nrm, Nat.reduceAdd, Nat.reduceMul, Nat.reduceSub, Int.reduceToNat, Int.reduceAdd]
    refine opsR_q rfl (q_move) ?_
    simp only [nrm, Nat.reduceAdd, Nat.reduceMul, Nat.reduceSub, Int.reduceToNat, Int.reduceAdd]
    refine opsR_q rfl (q_len_v rfl (by first | exact Sl.len (by assumption) | exact OwnS.len (by assumption) | exact SlR.len (by assumption) | assumption)) ?_
    simp only [nrm, Nat.reduceAdd, Nat.reduceMul, Nat.reduceSub, Int.reduceToNat, Int.reduceAdd]
    refine opsR_q rfl (q_conv_int_int rfl) ?_
    simp only [nrm, Nat.reduceAdd, Nat.reduceMul, Nat.reduceSub, Int.reduceToNat, Int.reduceAdd]
    refine opsR_q rfl (by exact q_rem rfl rfl (by first | decide | assumption | omega)) ?_
    simp only [nrm, Nat.reduceAdd, Nat.reduceMul, Nat.reduceSub, Int.reduceToNat, Int.reduceAdd]
    refine opsR_index rfl rfl rfl (by first | exact Sl.r (by assumption) (by first | exact .rfl | assumption | exact le2 (by assumption) (by assumption) | exact le3 (by assumption) (by assumption) (by assumption) | exact le4 (by assumption) (by assumption) (by assumption) (by assumption) | exact le5 (by assumption) (by assumption) (by assumption) (by assumption) (by assumption) | exact le6 (by assumption) (by assumption) (by assumption) (by assumption) (by assumption) (by assumption)) | (refine OwnS.r (OwnS.mono ?_ (by assumption)) (by intro p hp; simp only [List.mem_append, List.mem_cons, hp, true_or, or_true]); first | exact .rfl | assumption | exact le2 (by assumption) (by assumption) | exact le3 (by assumption) (by assumption) (by assumption) | exact le4 (by assumption) (by assumption) (by assumption) (by assumption) | exact le5 (by assumption) (by assumption) (by assumption) (by assumption) (by assumption) | exact le6 (by assumption) (by assumption) (by assumption) (by assumption) (by assumption) (by assumption)) | assumption) (by rfl) (by first | omega | ((try simp only [List.length_append, List.length_cons, List.length_nil, List.length_set, List.length_replicate, List.length_take, List.length_drop, List.length_map] at *); omega)) (by first | omega | ((try simp only [List.length_append, List.length_cons, List.length_nil, List.length_set, List.length_replicate, List.length_take, List.length_drop, List.length_map] at *); omega)) fun b16 o16 cs16 ha16 hr16 he16 => ?_
    simp only [nrm, Nat.reduceAdd, Nat.reduceMul, Nat.reduceSub, Int.reduceToNat, Int.reduceAdd]
    try simp only [Int.toNat_natCast, Int.reduceToNat, Int.toNat_zero] at hr16
    try simp only [Int.toNat_natCast, Int.reduceToNat, Int.toNat_zero] at he16
    clear ha16
    obtain rfl := hr16
    refine opsR_q rfl (by first | exact q_load_at1 (i := 0) rfl (by assumption) rfl (Nat.le_of_ble_eq_true rfl) rfl | exact q_load_at1 rfl (by assumption) rfl (Nat.le_of_ble_eq_true rfl) rfl) ?_
    simp only [nrm, Nat.reduceAdd, Nat.reduceMul, Nat.reduceSub, Int.reduceToNat, Int.reduceAdd]
    refine opsR_q rfl (q_assign) ?_
    simp only [nrm, Nat.reduceAdd, Nat.reduceMul, Nat.reduceSub, Int.reduceToNat, Int.reduceAdd]
    refine opsR_nil ?_
    refine hk12 _ _ ?_
    clear hk12
    refine run_ret ?_
    have hB0 : ¬ B = [] := fun e => by subst e; simp at *
    rw [pickOf, if_neg hB0] at hK
    exact end_tmp rfl rfl rfl .refl (hK _ (by first | exact .rfl | assumption | exact le2 (by assumption) (by assumption) | exact le3 (by assumption) (by assumption) (by assumption) | exact le4 (by assumption) (by assumption) (by assumption) (by assumption) | exact le5 (by assumption) (by assumption) (by assumption) (by assumption) (by assumption) | exact le6 (by assumption) (by assumption) (by assumption) (by assumption) (by assumption) (by assumption)))
end Go.Proofs.YtopimbpclgejhaaGreatDoor
