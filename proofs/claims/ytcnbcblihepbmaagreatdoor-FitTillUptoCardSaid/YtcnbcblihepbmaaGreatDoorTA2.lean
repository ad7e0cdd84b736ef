/- Package taint and its reference: what keeps off, and what is shied at. -/
import Derived.Test.YtcnbcblihepbmaaGreatDoorTA1
import Derived.Test.YtcnbcblihepbmaaGreatDoorG
set_option autoImplicit false
set_option linter.unusedVariables false
set_option linter.unusedSimpArgs false
namespace Go.Proofs.YtcnbcblihepbmaaGreatDoor
open Go Go.RowKit
attribute [local irreducible] Quiet OpsR Run CallS opS Gh endQ oblE RunN swp Go.Op.equalIn
def borneOf (b : List Bear) (t : Taint) : Bool := b.any fun x => bearsOf x t
def openP (b : List Bear) (e : Int) (t : Taint) : Bool := decide (t.Effect = e) && !borneOf b t
def openOf (l : List Taint) (b : List Bear) (e : Int) : List Taint := l.filter (openP b e)
theorem openBears_spec {b : Bear} {t : Taint} {s : St} {bl i : Nat} {e : TypeId} [hA : AtB bl s.cs i (.cells #[.string t.Key, .string t.Value, .int .i64 t.Effect] e (0, 0))] : CallV Tryz.prog 88 #[b.v, .pointer (some ⟨bl, 0, none⟩)] s (.bool (bearsOf b t)) := by
  intro K hK
  refine callS_of_run Tryz.func88 rfl ?_; simp only [Tryz.ntmps88, List.size_toArray, List.length_cons, List.length_nil, Nat.reduceAdd, Nat.reduceSub, Array.replicate_succ, Array.replicate_zero, List.push_toArray, List.append_toArray, List.nil_append, List.cons_append]
  refine run_seq fun _ hk1 => ?_
  refine run_region ?_
  refine opsR_o rfl (o_box fun b2 hb2 => ?_)
  simp only [nrm, Nat.reduceAdd, Nat.reduceMul, Nat.reduceSub, Int.reduceToNat, Int.reduceAdd]
  refine opsR_q rfl (q_assign) ?_
  simp only [nrm]
  refine opsR_nil ?_
  refine hk1 _ _ ?_
  clear hk1
  refine run_seq fun _ hk3 => ?_
  refine run_region ?_
  refine opsR_q rfl (by first | exact q_loadBN rfl inferInstance (by rfl) | exact q_loadBW rfl inferInstance (by assumption)) ?_
  simp only [nrm, Nat.reduceAdd, Nat.reduceMul, Nat.reduceSub, Int.reduceToNat, Int.reduceAdd]
  refine opsR_q rfl (by first | exact q_loadBN rfl inferInstance (by rfl) | exact q_loadBW rfl inferInstance (by assumption)) ?_
  simp only [nrm, Nat.reduceAdd, Nat.reduceMul, Nat.reduceSub, Int.reduceToNat, Int.reduceAdd]
  refine opsR_q rfl (q_call rfl (Bears_spec _ _ _)) ?_
  simp only [nrm, Nat.reduceAdd, Nat.reduceMul, Nat.reduceSub, Int.reduceToNat, Int.reduceAdd]
  refine opsR_q rfl (q_assign) ?_
  simp only [nrm]
  refine opsR_nil ?_
  refine hk3 _ _ ?_
  clear hk3
  refine run_ret ?_
  exact end_tmp rfl rfl rfl ghA hK
theorem openP_no1 {b : List Bear} {e : Int} {t : Taint} (h : ¬ t.Effect = e) : openP b e t = false := by simp [openP, h]
theorem openP_no2 {b : List Bear} {e : Int} {t : Taint} (h : borneOf b t = true) : openP b e t = false := by simp [openP, h]
theorem openP_yes {b : List Bear} {e : Int} {t : Taint} (h : t.Effect = e) (h2 : borneOf b t = false) : openP b e t = true := by simp [openP, h, h2]
set_option maxHeartbeats 1000000 in
theorem open_spec {l : List Taint} {bs : List Bear} {e : Int} {v u : Value} {s : St} (hl : Sl kTaint s.I v l) (hb : Sl kBear s.I u bs) (hn : l.length ≤ 1073741824) :
    CallR Tryz.prog 76 #[v, u, .int .i64 e] s (fun J w => Sl kTaint J w (openOf l bs e)) := by
  intro K hK
  refine callS_of_run Tryz.func76 rfl ?_; simp only [Tryz.ntmps76, List.size_toArray, List.length_cons, List.length_nil, Nat.reduceAdd, Nat.reduceSub, Array.replicate_succ, Array.replicate_zero, List.push_toArray, List.append_toArray, List.nil_append, List.cons_append]
  have hnil := OwnS.nil kTaint 77 s.I
  refine run_seq fun _ hk1 => ?_
  refine run_region ?_
  refine opsR_q rfl (q_assign) ?_
  simp only [nrm]
  refine opsR_nil ?_
  refine hk1 _ _ ?_
  clear hk1
  refine run_seq fun _ hk2 => ?_
  refine run_region ?_
  refine opsR_q rfl (q_assign) ?_
  simp only [nrm]
  refine opsR_nil ?_
  refine hk2 _ _ ?_
  clear hk2
  refine run_seq fun _ hk3 => ?_
  refine run_seq fun _ hk4 => ?_
  refine run_region ?_
  refine opsR_q rfl (q_move) ?_
  simp only [nrm]
  refine opsR_q rfl (q_len_v rfl (by first | exact Sl.len (by assumption) | exact OwnS.len (by assumption) | exact SlR.len (by assumption) | assumption)) ?_
  simp only [nrm, Nat.reduceAdd, Nat.reduceMul, Nat.reduceSub, Int.reduceToNat, Int.reduceAdd]
  refine opsR_q rfl (q_move) ?_
  simp only [nrm]
  refine opsR_nil ?_
  refine hk4 _ _ ?_
  clear hk4
  refine run_block ?_
  refine run_loopF [0, 0, 0, 0, 0, 0, 0, 2, 0, 1, 1, 0, 0, 2, 1, 1, 1, 1, 1, 1, 1, 1, 1, 1, 1, 1, 1, 1, 1, 1, 1, 1, 1, 0] (fun zn zL zst => ∃ (i : Nat) (v' : Value) (hs : List (Nat × Obj)), zL = [v', .int .i64 (i : Nat)] ∧ ⟨s.I, hs ++ s.cs⟩ = zst ∧ zn = l.length - i ∧ (i ≤ l.length) ∧ (OwnS kTaint 77 s.I v' hs ((l.take i).filter (openP bs e)))) _ _ ⟨0, _, [], rfl, rfl, rfl, by first | assumption | omega | exact Hp.le.rfl | rfl | exact all_zero | exact all_succ (by assumption) (by assumption) | (intro _; omega) | (simp; done), by first | assumption | omega | exact Hp.le.rfl | rfl | exact all_zero | exact all_succ (by assumption) (by assumption) | (intro _; omega) | (simp; done)⟩ rfl ?_
  rintro _ _ _ jv6 ⟨i, v', hs, rfl, rfl, rfl, hi, hO⟩ K6 hkl6
  simp only [fr, Nat.zero_add, Nat.reduceAdd]
  have hfl := List.length_filter_le (openP bs e) (l.take i)
  have htl := List.length_take_le i l
  refine run_seq fun _ hk7 => ?_
  refine run_region ?_
  refine opsR_q rfl (q_lss rfl rfl) ?_
  simp only [nrm, Nat.reduceAdd, Nat.reduceMul, Nat.reduceSub, Int.reduceToNat, Int.reduceAdd]
  refine opsR_nil ?_
  refine hk7 _ _ ?_
  clear hk7
  refine run_seq fun _ hk10 => ?_
  refine run_cond rfl (fun ho11 => ?_) (fun ho11 => ?_)
  · have hc11 := ho11; try simp only [spl] at hc11
    refine run_skip ?_
    refine hk10 _ _ ?_
    clear hk10
    refine run_seq fun _ hk12 => ?_
    refine run_block ?_
    refine run_seq fun _ hk13 => ?_
    refine run_region ?_
    refine opsR_index rfl rfl rfl slrA (by rfl) idxA idxA fun b14 o14 cs14 ha14 hr14 he14 => ?_
    simp only [nrm, Nat.reduceAdd, Nat.reduceMul, Nat.reduceSub, Int.reduceToNat, Int.reduceAdd]
    try simp only [Int.toNat_natCast, Int.reduceToNat, Int.toNat_zero] at hr14
    try simp only [Int.toNat_natCast, Int.reduceToNat, Int.toNat_zero] at he14
    clear ha14
    obtain rfl := kTaint.open hr14
    refine opsR_q rfl (by first | exact q_load_atW rfl (by first | assumption | exact El.mono (by assumption) leA) (by rfl) rfl | exact q_load_atN0 rfl (by first | assumption | exact El.mono (by assumption) leA) rfl rfl | exact q_load_atN rfl (by first | assumption | exact El.mono (by assumption) leA) rfl (Nat.le_of_ble_eq_true rfl) (Nat.le_of_ble_eq_true rfl)) ?_
    simp only [nrm, Nat.reduceAdd, Nat.reduceMul, Nat.reduceSub, Int.reduceToNat, Int.reduceAdd]
    refine opsR_o rfl (o_alloc fun b16 hb16 => ?_)
    simp only [nrm, Nat.reduceAdd, Nat.reduceMul, Nat.reduceSub, Int.reduceToNat, Int.reduceAdd]
    refine opsR_o rfl (o_storeB rfl rfl inferInstance (by first | rfl | assumption) (by first | rfl | exact Kd.one _ (by assumption) | assumption) (by first | rfl | (refine Nat.ble_eq_true_of_le ?_; (try simp only [Int.toNat_natCast]); omega)) ?_)
    simp only [nrm, Nat.reduceAdd, Nat.reduceMul, Nat.reduceSub, Int.reduceToNat, Int.reduceAdd]
    refine opsR_nil ?_
    refine hk13 _ _ ?_
    clear hk13
    refine run_seq fun _ hk17 => ?_
    refine run_region ?_
    refine opsR_q rfl (q_move) ?_
    simp only [nrm]
    refine opsR_q rfl (q_makeFunc) ?_
    simp only [nrm]
    refine opsR_q rfl (q_call rfl (ContainsFunc_Bear (p := fun x => bearsOf x l[i]!) (Sl.r (by assumption) (by exact leA)) (fun x cs hx hr => by obtain rfl := kBear.open hr; exact openBears_spec))) ?_
    simp only [nrm, Nat.reduceAdd, Nat.reduceMul, Nat.reduceSub, Int.reduceToNat, Int.reduceAdd]
    refine opsR_q rfl (q_assign) ?_
    simp only [nrm]
    refine opsR_nil ?_
    refine hk17 _ _ ?_
    clear hk17
    refine run_seq fun _ hk20 => ?_
    refine run_region ?_
    refine opsR_q rfl (q_fieldAddr rfl) ?_
    simp only [nrm, Nat.reduceAdd, Nat.reduceMul, Nat.reduceSub, Int.reduceToNat, Int.reduceAdd]
    refine opsR_q rfl (q_loadB1 rfl inferInstance rfl) ?_
    simp only [nrm, Nat.reduceAdd, Nat.reduceMul, Nat.reduceSub, Int.reduceToNat, Int.reduceAdd]
    refine opsR_q rfl (q_move) ?_
    simp only [nrm]
    refine opsR_q rfl (q_eql rfl rfl) ?_
    simp only [nrm, Nat.reduceAdd, Nat.reduceMul, Nat.reduceSub, Int.reduceToNat, Int.reduceAdd]
    refine opsR_qb rfl (q_move) (fun hc23 => ?_) (fun hc23 => ?_)
    · have ho23 := hc23; try simp only [spl] at hc23
      simp only [nrm, Nat.reduceAdd, Nat.reduceMul, Nat.reduceSub, Int.reduceToNat, Int.reduceAdd]
      refine opsR_q rfl (q_move) ?_
      simp only [nrm]
      refine opsR_q rfl (q_not rfl) ?_
      simp only [nrm]
      refine opsR_q rfl (q_pick_t rfl) ?_
      simp only [nrm]
      refine opsR_nil ?_
      refine hk20 _ _ ?_
      clear hk20
      refine run_cond rfl (fun ho24 => ?_) (fun ho24 => ?_)
      · have hc24 := ho24; try simp only [spl] at hc24
        refine run_region ?_
        refine opsR_q rfl (q_move) ?_
        simp only [nrm]
        refine opsR_q rfl (by first | exact q_loadBN rfl inferInstance (by rfl) | exact q_loadBW rfl inferInstance (by assumption)) ?_
        simp only [nrm, Nat.reduceAdd, Nat.reduceMul, Nat.reduceSub, Int.reduceToNat, Int.reduceAdd]
        refine opsR_slice1 kTaint rfl rfl (by rfl) (by decide) (by decide) (by rfl) (by first | rfl | assumption | exact kTaint.shut | (refine Kd.mono _ ?_ (by assumption); exact leA) | (apply kTaint.shut <;> assumption)) fun v26 hs26 hv26 => ?_
        simp only [nrm, Nat.reduceAdd, Nat.reduceMul, Nat.reduceSub, Int.reduceToNat, Int.reduceAdd]
        refine opsR_app rfl rfl rfl (by first | assumption | (refine OwnS.mono ?_ (by assumption); exact leA)) (by infer_instance) slrA (by rfl) (by rfl) rfl rfl idxA fun v27 hs27 hv27 => ?_
        simp only [nrm, Nat.reduceAdd, Nat.reduceMul, Nat.reduceSub, Int.reduceToNat, Int.reduceAdd]
        refine opsR_dropS (hs := hs26) ?_
        try simp only [nrm, Nat.reduceAdd, Nat.reduceMul, Nat.reduceSub, Int.reduceToNat, Int.reduceAdd]
        refine opsR_q rfl (q_assign) ?_
        simp only [nrm]
        refine opsR_nil ?_
        refine hk12 _ _ ?_
        clear hk12
        refine run_gh Gh.drop ?_
        refine run_region ?_
        refine opsR_q rfl (by first | exact q_add64 rfl rfl (by omega) (by omega) | exact q_add rfl rfl) ?_
        simp only [nrm, Nat.reduceAdd, Nat.reduceMul, Nat.reduceSub, Int.reduceToNat, Int.reduceAdd]
        refine opsR_q rfl (q_move) ?_
        simp only [nrm]
        refine opsR_nil ?_
        first
        | exact hkl6 _ _ _ _ (by omega) ⟨i + 1, _, _, rfl, rfl, rfl, by first | omega | exact OwnS.cast (by assumption) (filter_take_no (by omega) (openP_no1 (by assumption))) | exact OwnS.cast (by assumption) (filter_take_no (by omega) (openP_no2 (by assumption))) | exact OwnS.cast (by assumption) (filter_take_yes (by omega) (openP_yes (by assumption) (by assumption))), by first | omega | exact OwnS.cast (by assumption) (filter_take_no (by omega) (openP_no1 (by assumption))) | exact OwnS.cast (by assumption) (filter_take_no (by omega) (openP_no2 (by assumption))) | exact OwnS.cast (by assumption) (filter_take_yes (by omega) (openP_yes (by assumption) (by assumption)))⟩ rfl
      · have hc24 := ho24; try simp only [spl] at hc24
        refine run_skip ?_
        refine hk12 _ _ ?_
        clear hk12
        refine run_gh Gh.drop ?_
        refine run_region ?_
        refine opsR_q rfl (by first | exact q_add64 rfl rfl (by omega) (by omega) | exact q_add rfl rfl) ?_
        simp only [nrm, Nat.reduceAdd, Nat.reduceMul, Nat.reduceSub, Int.reduceToNat, Int.reduceAdd]
        refine opsR_q rfl (q_move) ?_
        simp only [nrm]
        refine opsR_nil ?_
        first
        | exact hkl6 _ _ _ _ (by omega) ⟨i + 1, _, _, rfl, rfl, rfl, by first | omega | exact OwnS.cast (by assumption) (filter_take_no (by omega) (openP_no1 (by assumption))) | exact OwnS.cast (by assumption) (filter_take_no (by omega) (openP_no2 (by assumption))) | exact OwnS.cast (by assumption) (filter_take_yes (by omega) (openP_yes (by assumption) (by assumption))), by first | omega | exact OwnS.cast (by assumption) (filter_take_no (by omega) (openP_no1 (by assumption))) | exact OwnS.cast (by assumption) (filter_take_no (by omega) (openP_no2 (by assumption))) | exact OwnS.cast (by assumption) (filter_take_yes (by omega) (openP_yes (by assumption) (by assumption)))⟩ rfl
    · have ho23 := hc23; try simp only [spl] at hc23
      simp only [nrm, Nat.reduceAdd, Nat.reduceMul, Nat.reduceSub, Int.reduceToNat, Int.reduceAdd]
      refine opsR_skip rfl ?_
      simp only [nrm, Nat.reduceAdd, Nat.reduceMul, Nat.reduceSub, Int.reduceToNat, Int.reduceAdd]
      refine opsR_skip rfl ?_
      simp only [nrm, Nat.reduceAdd, Nat.reduceMul, Nat.reduceSub, Int.reduceToNat, Int.reduceAdd]
      refine opsR_q rfl (q_pick_f rfl) ?_
      simp only [nrm]
      refine opsR_nil ?_
      refine hk20 _ _ ?_
      clear hk20
      refine run_cond (t := false) rfl (fun h => by cases h) (fun _ => ?_)
      refine run_skip ?_
      refine hk12 _ _ ?_
      clear hk12
      refine run_gh Gh.drop ?_
      refine run_region ?_
      refine opsR_q rfl (by first | exact q_add64 rfl rfl (by omega) (by omega) | exact q_add rfl rfl) ?_
      simp only [nrm, Nat.reduceAdd, Nat.reduceMul, Nat.reduceSub, Int.reduceToNat, Int.reduceAdd]
      refine opsR_q rfl (q_move) ?_
      simp only [nrm]
      refine opsR_nil ?_
      first
      | exact hkl6 _ _ _ _ (by omega) ⟨i + 1, _, _, rfl, rfl, rfl, by first | omega | exact OwnS.cast (by assumption) (filter_take_no (by omega) (openP_no1 (by assumption))) | exact OwnS.cast (by assumption) (filter_take_no (by omega) (openP_no2 (by assumption))) | exact OwnS.cast (by assumption) (filter_take_yes (by omega) (openP_yes (by assumption) (by assumption))), by first | omega | exact OwnS.cast (by assumption) (filter_take_no (by omega) (openP_no1 (by assumption))) | exact OwnS.cast (by assumption) (filter_take_no (by omega) (openP_no2 (by assumption))) | exact OwnS.cast (by assumption) (filter_take_yes (by omega) (openP_yes (by assumption) (by assumption)))⟩ rfl
  · have hc11 := ho11; try simp only [spl] at hc11
    refine run_exit ?_
    refine hk3 _ _ ?_
    clear hk3
    refine run_seq fun _ hk29 => ?_
    refine run_region ?_
    refine opsR_q rfl (q_move) ?_
    simp only [nrm]
    refine opsR_q rfl (q_assign) ?_
    simp only [nrm]
    refine opsR_nil ?_
    refine hk29 _ _ ?_
    clear hk29
    refine run_freeze (A := []) (by assumption) rfl fun J hJ hv => ?_
    refine run_ret ?_
    exact end_tmp rfl rfl rfl .refl (hK _ J hJ (hv.cast (by rw [take_all (by omega)]; rfl)))
end Go.Proofs.YtcnbcblihepbmaaGreatDoor
