/- Package fit: all reasons, the first one. -/
import Derived.Test.YtcnbcblihepbmaaGreatDoorFR
set_option autoImplicit false
set_option linter.unusedVariables false
set_option linter.unusedSimpArgs false
namespace Go.Proofs.YtcnbcblihepbmaaGreatDoor
open Go Go.RowKit
section
attribute [local irreducible] Quiet OpsR Run CallS opS Gh endQ oblE RunN swp Go.Op.equalIn matchOf isKept keptOf clashOf whyOf whysL
theorem whysL_len : whysL.length = 8 := by unfold whysL; rfl
set_option maxHeartbeats 1000000 in
theorem All_spec {p : Pod} {x : Info} {cp cx : List Value} {s : St} (hT : Tabs s.I) (hp : kPod.rep s.I p cp) (hx : kInfo.rep s.I x cx) (hok : PairOk p x) :
    CallR Tryz.prog 13 #[.agg cp.toArray, .agg cx.toArray] s (fun J w => Sl (kInt .i64) J w (allOf p x)) := by
  intro K hK
  have hlw := whysL_len
  obtain ⟨p1, p2, p3, p4, p5, p6, p7, p8, p9, rfl, g1, g2, g3, g4, g5, g6, g7, g8, g9⟩ := kPod.open hp
  obtain ⟨q1, q2, q3, q4, q5, rfl, h1, h2, h3, h4, h5⟩ := kInfo.open hx
  have hpair := kFitPair.shut (I := s.I) (x := ⟨p, x⟩) (hxp_Labels := g1) (hxp_Bears := g2) (hxp_Asks := g3) (hxp_Prefers := g4) (hxp_Ports := g5) (hxp_Near := g6) (hxp_Apart := g7) (hxp_Spreads := g8) (hxp_Claims := g9) (hxi_Node_Labels := h1) (hxi_Node_Taints := h2) (hxi_Names := h3) (hxi_Ports := h4) (hxi_Disks := h5)
  refine callS_of_run Tryz.func13 rfl ?_; simp only [Tryz.ntmps13, List.size_toArray, List.length_cons, List.length_nil, Nat.reduceAdd, Nat.reduceSub, Array.replicate_succ, Array.replicate_zero, List.push_toArray, List.append_toArray, List.nil_append, List.cons_append]
  refine run_seq fun _ hk1 => ?_
  refine run_region ?_
  refine opsR_o rfl (o_box fun bP hbP => ?_)
  simp only [nrm, Nat.reduceAdd, Nat.reduceMul, Nat.reduceSub, Int.reduceToNat, Int.reduceAdd]
  refine opsR_o rfl (o_box fun bX hbX => ?_)
  simp only [nrm, Nat.reduceAdd, Nat.reduceMul, Nat.reduceSub, Int.reduceToNat, Int.reduceAdd]
  refine opsR_q rfl (q_assign) ?_
  simp only [nrm]
  refine opsR_nil ?_
  refine hk1 _ _ ?_
  clear hk1
  refine run_seq fun _ hk4 => ?_
  refine run_region ?_
  refine opsR_q rfl (q_assign) ?_
  simp only [nrm]
  refine opsR_nil ?_
  refine hk4 _ _ ?_
  clear hk4
  refine run_seq fun _ hk5 => ?_
  refine run_seq fun _ hk6 => ?_
  refine run_region ?_
  refine opsR_o rfl (o_call rfl (reasons_spec _ fun vW JW hJW hvW => ?_))
  try dsimp only at hJW hvW
  try (have hrW : Hp.le s.I JW := leA; have hJW := hJW)
  simp only [nrm, Nat.reduceAdd, Nat.reduceMul, Nat.reduceSub, Int.reduceToNat, Int.reduceAdd]
  refine opsR_q rfl (q_len_v rfl (by first | exact Sl.len (by assumption) | exact OwnS.len (by assumption) | exact SlR.len (by assumption) | assumption)) ?_
  simp only [nrm, Nat.reduceAdd, Nat.reduceMul, Nat.reduceSub, Int.reduceToNat, Int.reduceAdd]
  have hn0 : OwnS (kInt .i64) 3 JW (.slice none 0 0) [] (allN p x 0) := OwnS.nil _ _ _
  refine opsR_q rfl (q_move) ?_
  simp only [nrm]
  refine opsR_nil ?_
  refine hk6 _ _ ?_
  clear hk6
  refine run_block ?_
  refine run_loopF [0, 0, 0, 0, 0, 2, 0, 2, 0, 0, 2, 1, 1, 1, 1, 1, 1, 1, 1, 1, 1, 1, 1, 1, 1, 1, 0] (fun zn zL zst => ∃ (i : Nat) (v' : Value) (z7 : Value) (hs : (List (Nat × Obj))), zL = [v', z7, .int .i64 (i : Nat)] ∧ ⟨JW, hs ++ (bX, .cells #[.string x.Node.Name, q1, q2, .bool x.Node.Off, .int .i64 x.Node.Give.CPU, .int .i64 x.Node.Give.Mem, .int .i64 x.Node.Give.Disk, .int .i64 x.Node.Pods, .int .i64 x.Node.Disks, q3, .int .i64 x.Used.CPU, .int .i64 x.Used.Mem, .int .i64 x.Used.Disk, q4, q5] 38 (0, 0)) :: (bP, .cells #[.string p.Name, .int .i64 p.Priority, p1, .int .i64 p.Want.CPU, .int .i64 p.Want.Mem, .int .i64 p.Want.Disk, p2, p3, p4, p5, p6, p7, p8, p9, .string p.Node, .string p.Hope] 33 (0, 0)) :: s.cs⟩ = zst ∧ zn = whysL.length - i ∧ (i ≤ whysL.length) ∧ (OwnS (kInt .i64) 3 JW v' hs (allN p x i))) _ _ ⟨0, _, _, [], rfl, rfl, rfl, by first | assumption | omega | exact Hp.le.rfl | rfl | exact all_zero | exact all_succ (by assumption) (by assumption) | (intro _; omega) | (simp; done), by first | assumption | omega | exact Hp.le.rfl | rfl | exact all_zero | exact all_succ (by assumption) (by assumption) | (intro _; omega) | (simp; done)⟩ rfl ?_
  rintro _ _ _ jv9 ⟨i, v', z7, hs, rfl, rfl, rfl, hi, hO⟩ K9 hkl9
  simp only [fr, Nat.zero_add, Nat.reduceAdd]
  have hall := allN_len p x i
  have hfn := whys_fn i
  have hww := whys_why i
  refine run_seq fun _ hk10 => ?_
  refine run_region ?_
  refine opsR_q rfl (q_lss rfl rfl) ?_
  simp only [nrm, Nat.reduceAdd, Nat.reduceMul, Nat.reduceSub, Int.reduceToNat, Int.reduceAdd]
  refine opsR_nil ?_
  refine hk10 _ _ ?_
  clear hk10
  refine run_seq fun _ hk13 => ?_
  refine run_cond rfl (fun ho14 => ?_) (fun ho14 => ?_)
  · have hc14 := ho14; try simp only [spl] at hc14
    refine run_skip ?_
    refine hk13 _ _ ?_
    clear hk13
    refine run_seq fun _ hk15 => ?_
    refine run_block ?_
    refine run_seq fun _ hk16 => ?_
    refine run_region ?_
    refine opsR_index rfl rfl rfl slrA (by rfl) idxA idxA fun b17 o17 cs17 ha17 hr17 he17 => ?_
    simp only [nrm, Nat.reduceAdd, Nat.reduceMul, Nat.reduceSub, Int.reduceToNat, Int.reduceAdd]
    try simp only [Int.toNat_natCast, Int.reduceToNat, Int.toNat_zero] at hr17
    try simp only [Int.toNat_natCast, Int.reduceToNat, Int.toNat_zero] at he17
    clear ha17
    obtain rfl := hr17
    refine opsR_q rfl (by first | exact q_load_atW rfl (by first | assumption | exact El.mono (by assumption) leA) (by rfl) rfl | exact q_load_atN0 rfl (by first | assumption | exact El.mono (by assumption) leA) rfl rfl | exact q_load_atN rfl (by first | assumption | exact El.mono (by assumption) leA) rfl (Nat.le_of_ble_eq_true rfl) (Nat.le_of_ble_eq_true rfl)) ?_
    simp only [nrm, Nat.reduceAdd, Nat.reduceMul, Nat.reduceSub, Int.reduceToNat, Int.reduceAdd]
    refine opsR_o rfl (o_alloc fun b19 hb19 => ?_)
    simp only [nrm, Nat.reduceAdd, Nat.reduceMul, Nat.reduceSub, Int.reduceToNat, Int.reduceAdd]
    refine opsR_o rfl (o_storeB rfl rfl inferInstance (by first | rfl | assumption) (by first | rfl | exact Kd.one _ (by assumption) | assumption) (by first | rfl | (refine Nat.ble_eq_true_of_le ?_; (try simp only [Int.toNat_natCast]); omega)) ?_)
    simp only [nrm, Nat.reduceAdd, Nat.reduceMul, Nat.reduceSub, Int.reduceToNat, Int.reduceAdd]
    refine opsR_nil ?_
    refine hk16 _ _ ?_
    clear hk16
    refine run_seq fun _ hk20 => ?_
    haveI := hfn (by omega)
    have hww := hww (by omega)
    refine run_region ?_
    refine opsR_q rfl (q_fieldAddr rfl) ?_
    simp only [nrm, Nat.reduceAdd, Nat.reduceMul, Nat.reduceSub, Int.reduceToNat, Int.reduceAdd]
    refine opsR_q rfl (q_loadB1 rfl inferInstance rfl) ?_
    simp only [nrm, Nat.reduceAdd, Nat.reduceMul, Nat.reduceSub, Int.reduceToNat, Int.reduceAdd]
    refine opsR_q rfl (by first | exact q_loadBN rfl inferInstance (by rfl) | exact q_loadBW rfl inferInstance (by assumption)) ?_
    simp only [nrm, Nat.reduceAdd, Nat.reduceMul, Nat.reduceSub, Int.reduceToNat, Int.reduceAdd]
    refine opsR_q rfl (by first | exact q_loadBN rfl inferInstance (by rfl) | exact q_loadBW rfl inferInstance (by assumption)) ?_
    simp only [nrm, Nat.reduceAdd, Nat.reduceMul, Nat.reduceSub, Int.reduceToNat, Int.reduceAdd]
    refine opsR_q rfl (q_build (c := #[.string p.Name, .int .i64 p.Priority, p1, .int .i64 p.Want.CPU, .int .i64 p.Want.Mem, .int .i64 p.Want.Disk, p2, p3, p4, p5, p6, p7, p8, p9, .string p.Node, .string p.Hope, .string x.Node.Name, q1, q2, .bool x.Node.Off, .int .i64 x.Node.Give.CPU, .int .i64 x.Node.Give.Mem, .int .i64 x.Node.Give.Disk, .int .i64 x.Node.Pods, .int .i64 x.Node.Disks, q3, .int .i64 x.Used.CPU, .int .i64 x.Used.Mem, .int .i64 x.Used.Disk, q4, q5]) (by kernel_rfl)) ?_
    simp only [nrm, Nat.reduceAdd, Nat.reduceMul, Nat.reduceSub, Int.reduceToNat, Int.reduceAdd]
    refine opsR_q rfl (q_call rfl (whys_call (x := ⟨p, x⟩) (hT.mono (by exact leA)) (Kd.mono _ (by exact leA) hpair) hok i (by omega))) ?_
    simp only [nrm, Nat.reduceAdd, Nat.reduceMul, Nat.reduceSub, Int.reduceToNat, Int.reduceAdd]
    refine opsR_nil ?_
    refine hk20 _ _ ?_
    clear hk20
    refine run_cond rfl (fun ho25 => ?_) (fun ho25 => ?_)
    · have hc25 := ho25; try simp only [spl] at hc25
      refine run_region ?_
      refine opsR_q rfl (q_move) ?_
      simp only [nrm]
      refine opsR_q rfl (q_fieldAddr rfl) ?_
      simp only [nrm, Nat.reduceAdd, Nat.reduceMul, Nat.reduceSub, Int.reduceToNat, Int.reduceAdd]
      refine opsR_q rfl (q_loadB1 rfl inferInstance rfl) ?_
      simp only [nrm, Nat.reduceAdd, Nat.reduceMul, Nat.reduceSub, Int.reduceToNat, Int.reduceAdd]
      refine opsR_slice1 (kInt .i64) rfl rfl (by rfl) (by decide) (by decide) (by rfl) (by first | rfl | assumption | exact (kInt .i64).shut | (refine Kd.mono _ ?_ (by assumption); exact leA) | (apply (kInt .i64).shut <;> assumption)) fun v27 hs27 hv27 => ?_
      simp only [nrm, Nat.reduceAdd, Nat.reduceMul, Nat.reduceSub, Int.reduceToNat, Int.reduceAdd]
      refine opsR_app rfl rfl rfl (by first | assumption | (refine OwnS.mono ?_ (by assumption); exact leA)) (by infer_instance) slrA (by rfl) (by rfl) rfl rfl idxA fun v28 hs28 hv28 => ?_
      simp only [nrm, Nat.reduceAdd, Nat.reduceMul, Nat.reduceSub, Int.reduceToNat, Int.reduceAdd]
      refine opsR_dropS (hs := hs27) ?_
      try simp only [nrm, Nat.reduceAdd, Nat.reduceMul, Nat.reduceSub, Int.reduceToNat, Int.reduceAdd]
      refine opsR_q rfl (q_assign) ?_
      simp only [nrm]
      refine opsR_nil ?_
      refine hk15 _ _ ?_
      clear hk15
      refine run_gh Gh.drop ?_
      refine run_region ?_
      refine opsR_q rfl (by first | exact q_add64 rfl rfl (by omega) (by omega) | exact q_add rfl rfl) ?_
      simp only [nrm, Nat.reduceAdd, Nat.reduceMul, Nat.reduceSub, Int.reduceToNat, Int.reduceAdd]
      refine opsR_q rfl (q_move) ?_
      simp only [nrm]
      refine opsR_nil ?_
      first
      | exact hkl9 _ _ _ _ (by omega) ⟨i + 1, _, _, _, rfl, rfl, rfl, by first | omega | exact OwnS.cap0 _ _ _ _ | exact OwnS.cast (by assumption) (by rw [hww]; exact allN_yes (by assumption)) | exact OwnS.cast (by assumption) (allN_no (by assumption)), by first | omega | exact OwnS.cap0 _ _ _ _ | exact OwnS.cast (by assumption) (by rw [hww]; exact allN_yes (by assumption)) | exact OwnS.cast (by assumption) (allN_no (by assumption))⟩ rfl
    · have hc25 := ho25; try simp only [spl] at hc25
      refine run_skip ?_
      refine hk15 _ _ ?_
      clear hk15
      refine run_gh Gh.drop ?_
      refine run_region ?_
      refine opsR_q rfl (by first | exact q_add64 rfl rfl (by omega) (by omega) | exact q_add rfl rfl) ?_
      simp only [nrm, Nat.reduceAdd, Nat.reduceMul, Nat.reduceSub, Int.reduceToNat, Int.reduceAdd]
      refine opsR_q rfl (q_move) ?_
      simp only [nrm]
      refine opsR_nil ?_
      first
      | exact hkl9 _ _ _ _ (by omega) ⟨i + 1, _, _, _, rfl, rfl, rfl, by first | omega | exact OwnS.cap0 _ _ _ _ | exact OwnS.cast (by assumption) (by rw [hww]; exact allN_yes (by assumption)) | exact OwnS.cast (by assumption) (allN_no (by assumption)), by first | omega | exact OwnS.cap0 _ _ _ _ | exact OwnS.cast (by assumption) (by rw [hww]; exact allN_yes (by assumption)) | exact OwnS.cast (by assumption) (allN_no (by assumption))⟩ rfl
  · have hc14 := ho14; try simp only [spl] at hc14
    refine run_exit ?_
    refine hk5 _ _ ?_
    clear hk5
    refine run_seq fun _ hk30 => ?_
    refine run_region ?_
    refine opsR_q rfl (q_move) ?_
    simp only [nrm]
    refine opsR_q rfl (q_assign) ?_
    simp only [nrm]
    refine opsR_nil ?_
    refine hk30 _ _ ?_
    clear hk30
    refine run_freeze (A := []) hO rfl fun J hJ hv => ?_
    refine run_ret ?_
    exact end_tmp rfl rfl rfl (by exact ghA) (hK _ J (by exact leA) (hv.cast (by rw [show i = 8 by omega]; rfl)))
set_option maxHeartbeats 1000000 in
theorem Check_spec {p : Pod} {x : Info} {cp cx : List Value} {s : St} (hT : Tabs s.I) (hp : kPod.rep s.I p cp) (hx : kInfo.rep s.I x cx) (hok : PairOk p x) (K : Value → St → Prop) (hK : ∀ J, Hp.le s.I J → K (.int .i64 (whyFirst p x)) ⟨J, s.cs⟩) :
    CallS Tryz.prog 10 #[.agg cp.toArray, .agg cx.toArray] s K := by
  have hlw := whysL_len
  obtain ⟨p1, p2, p3, p4, p5, p6, p7, p8, p9, rfl, g1, g2, g3, g4, g5, g6, g7, g8, g9⟩ := kPod.open hp
  obtain ⟨q1, q2, q3, q4, q5, rfl, h1, h2, h3, h4, h5⟩ := kInfo.open hx
  have hpair := kFitPair.shut (I := s.I) (x := ⟨p, x⟩) (hxp_Labels := g1) (hxp_Bears := g2) (hxp_Asks := g3) (hxp_Prefers := g4) (hxp_Ports := g5) (hxp_Near := g6) (hxp_Apart := g7) (hxp_Spreads := g8) (hxp_Claims := g9) (hxi_Node_Labels := h1) (hxi_Node_Taints := h2) (hxi_Names := h3) (hxi_Ports := h4) (hxi_Disks := h5)
  refine callS_of_run Tryz.func10 rfl ?_; simp only [Tryz.ntmps10, List.size_toArray, List.length_cons, List.length_nil, Nat.reduceAdd, Nat.reduceSub, Array.replicate_succ, Array.replicate_zero, List.push_toArray, List.append_toArray, List.nil_append, List.cons_append]
  refine run_seq fun _ hk1 => ?_
  refine run_region ?_
  refine opsR_o rfl (o_box fun bP hbP => ?_)
  simp only [nrm, Nat.reduceAdd, Nat.reduceMul, Nat.reduceSub, Int.reduceToNat, Int.reduceAdd]
  refine opsR_o rfl (o_box fun bX hbX => ?_)
  simp only [nrm, Nat.reduceAdd, Nat.reduceMul, Nat.reduceSub, Int.reduceToNat, Int.reduceAdd]
  refine opsR_q rfl (q_assign) ?_
  simp only [nrm]
  refine opsR_nil ?_
  refine hk1 _ _ ?_
  clear hk1
  refine run_seq fun _ hk4 => ?_
  refine run_seq fun _ hk5 => ?_
  refine run_region ?_
  refine opsR_o rfl (o_call rfl (reasons_spec _ fun vW JW hJW hvW => ?_))
  try dsimp only at hJW hvW
  try (have hrW : Hp.le s.I JW := leA; have hJW := hJW)
  simp only [nrm, Nat.reduceAdd, Nat.reduceMul, Nat.reduceSub, Int.reduceToNat, Int.reduceAdd]
  refine opsR_q rfl (q_len_v rfl (by first | exact Sl.len (by assumption) | exact OwnS.len (by assumption) | exact SlR.len (by assumption) | assumption)) ?_
  simp only [nrm, Nat.reduceAdd, Nat.reduceMul, Nat.reduceSub, Int.reduceToNat, Int.reduceAdd]
  refine opsR_q rfl (q_move) ?_
  simp only [nrm]
  refine opsR_nil ?_
  refine hk5 _ _ ?_
  clear hk5
  refine run_block ?_
  refine run_loopF [0, 0, 0, 0, 1, 0, 2, 0, 0, 2, 1, 1, 1, 1, 1, 1, 1, 1, 1, 1, 1, 1] (fun zn zL zst => ∃ (i : Nat) (z6 : Value), zL = [z6, .int .i64 (i : Nat)] ∧ ⟨JW, (bX, .cells #[.string x.Node.Name, q1, q2, .bool x.Node.Off, .int .i64 x.Node.Give.CPU, .int .i64 x.Node.Give.Mem, .int .i64 x.Node.Give.Disk, .int .i64 x.Node.Pods, .int .i64 x.Node.Disks, q3, .int .i64 x.Used.CPU, .int .i64 x.Used.Mem, .int .i64 x.Used.Disk, q4, q5] 38 (0, 0)) :: (bP, .cells #[.string p.Name, .int .i64 p.Priority, p1, .int .i64 p.Want.CPU, .int .i64 p.Want.Mem, .int .i64 p.Want.Disk, p2, p3, p4, p5, p6, p7, p8, p9, .string p.Node, .string p.Hope] 33 (0, 0)) :: s.cs⟩ = zst ∧ zn = whysL.length - i ∧ (i ≤ whysL.length) ∧ (∀ j, j < i → whyOf p x j = false)) _ _ ⟨0, _, rfl, rfl, rfl, by first | assumption | omega | exact Hp.le.rfl | rfl | exact all_zero | exact all_succ (by assumption) (by assumption) | (intro _; omega) | (simp; done), by first | assumption | omega | exact Hp.le.rfl | rfl | exact all_zero | exact all_succ (by assumption) (by assumption) | (intro _; omega) | (simp; done)⟩ rfl ?_
  rintro _ _ _ jv8 ⟨i, z6, rfl, rfl, rfl, hi, hj⟩ K8 hkl8
  simp only [fr, Nat.zero_add, Nat.reduceAdd]
  have hfn := whys_fn i
  have hww := whys_why i
  refine run_seq fun _ hk9 => ?_
  refine run_region ?_
  refine opsR_q rfl (q_lss rfl rfl) ?_
  simp only [nrm, Nat.reduceAdd, Nat.reduceMul, Nat.reduceSub, Int.reduceToNat, Int.reduceAdd]
  refine opsR_nil ?_
  refine hk9 _ _ ?_
  clear hk9
  refine run_seq fun _ hk12 => ?_
  refine run_cond rfl (fun ho13 => ?_) (fun ho13 => ?_)
  · have hc13 := ho13; try simp only [spl] at hc13
    refine run_skip ?_
    refine hk12 _ _ ?_
    clear hk12
    refine run_seq fun _ hk14 => ?_
    refine run_block ?_
    refine run_seq fun _ hk15 => ?_
    refine run_region ?_
    refine opsR_index rfl rfl rfl slrA (by rfl) idxA idxA fun b16 o16 cs16 ha16 hr16 he16 => ?_
    simp only [nrm, Nat.reduceAdd, Nat.reduceMul, Nat.reduceSub, Int.reduceToNat, Int.reduceAdd]
    try simp only [Int.toNat_natCast, Int.reduceToNat, Int.toNat_zero] at hr16
    try simp only [Int.toNat_natCast, Int.reduceToNat, Int.toNat_zero] at he16
    clear ha16
    obtain rfl := hr16
    refine opsR_q rfl (by first | exact q_load_atW rfl (by first | assumption | exact El.mono (by assumption) leA) (by rfl) rfl | exact q_load_atN0 rfl (by first | assumption | exact El.mono (by assumption) leA) rfl rfl | exact q_load_atN rfl (by first | assumption | exact El.mono (by assumption) leA) rfl (Nat.le_of_ble_eq_true rfl) (Nat.le_of_ble_eq_true rfl)) ?_
    simp only [nrm, Nat.reduceAdd, Nat.reduceMul, Nat.reduceSub, Int.reduceToNat, Int.reduceAdd]
    refine opsR_o rfl (o_alloc fun b18 hb18 => ?_)
    simp only [nrm, Nat.reduceAdd, Nat.reduceMul, Nat.reduceSub, Int.reduceToNat, Int.reduceAdd]
    refine opsR_o rfl (o_storeB rfl rfl inferInstance (by first | rfl | assumption) (by first | rfl | exact Kd.one _ (by assumption) | assumption) (by first | rfl | (refine Nat.ble_eq_true_of_le ?_; (try simp only [Int.toNat_natCast]); omega)) ?_)
    simp only [nrm, Nat.reduceAdd, Nat.reduceMul, Nat.reduceSub, Int.reduceToNat, Int.reduceAdd]
    refine opsR_nil ?_
    refine hk15 _ _ ?_
    clear hk15
    refine run_seq fun _ hk19 => ?_
    haveI := hfn (by omega)
    have hww := hww (by omega)
    refine run_region ?_
    refine opsR_q rfl (q_fieldAddr rfl) ?_
    simp only [nrm, Nat.reduceAdd, Nat.reduceMul, Nat.reduceSub, Int.reduceToNat, Int.reduceAdd]
    refine opsR_q rfl (q_loadB1 rfl inferInstance rfl) ?_
    simp only [nrm, Nat.reduceAdd, Nat.reduceMul, Nat.reduceSub, Int.reduceToNat, Int.reduceAdd]
    refine opsR_q rfl (by first | exact q_loadBN rfl inferInstance (by rfl) | exact q_loadBW rfl inferInstance (by assumption)) ?_
    simp only [nrm, Nat.reduceAdd, Nat.reduceMul, Nat.reduceSub, Int.reduceToNat, Int.reduceAdd]
    refine opsR_q rfl (by first | exact q_loadBN rfl inferInstance (by rfl) | exact q_loadBW rfl inferInstance (by assumption)) ?_
    simp only [nrm, Nat.reduceAdd, Nat.reduceMul, Nat.reduceSub, Int.reduceToNat, Int.reduceAdd]
    refine opsR_q rfl (q_build (c := #[.string p.Name, .int .i64 p.Priority, p1, .int .i64 p.Want.CPU, .int .i64 p.Want.Mem, .int .i64 p.Want.Disk, p2, p3, p4, p5, p6, p7, p8, p9, .string p.Node, .string p.Hope, .string x.Node.Name, q1, q2, .bool x.Node.Off, .int .i64 x.Node.Give.CPU, .int .i64 x.Node.Give.Mem, .int .i64 x.Node.Give.Disk, .int .i64 x.Node.Pods, .int .i64 x.Node.Disks, q3, .int .i64 x.Used.CPU, .int .i64 x.Used.Mem, .int .i64 x.Used.Disk, q4, q5]) (by kernel_rfl)) ?_
    simp only [nrm, Nat.reduceAdd, Nat.reduceMul, Nat.reduceSub, Int.reduceToNat, Int.reduceAdd]
    refine opsR_q rfl (q_call rfl (whys_call (x := ⟨p, x⟩) (hT.mono (by exact leA)) (Kd.mono _ (by exact leA) hpair) hok i (by omega))) ?_
    simp only [nrm, Nat.reduceAdd, Nat.reduceMul, Nat.reduceSub, Int.reduceToNat, Int.reduceAdd]
    refine opsR_nil ?_
    refine hk19 _ _ ?_
    clear hk19
    refine run_cond rfl (fun ho24 => ?_) (fun ho24 => ?_)
    · have hc24 := ho24; try simp only [spl] at hc24
      refine run_seq fun _ hk25 => ?_
      refine run_region ?_
      refine opsR_q rfl (q_fieldAddr rfl) ?_
      simp only [nrm, Nat.reduceAdd, Nat.reduceMul, Nat.reduceSub, Int.reduceToNat, Int.reduceAdd]
      refine opsR_q rfl (q_loadB1 rfl inferInstance rfl) ?_
      simp only [nrm, Nat.reduceAdd, Nat.reduceMul, Nat.reduceSub, Int.reduceToNat, Int.reduceAdd]
      refine opsR_q rfl (q_assign) ?_
      simp only [nrm]
      refine opsR_nil ?_
      refine hk25 _ _ ?_
      clear hk25
      refine run_ret ?_
      exact end_tmp rfl rfl rfl (by exact ghA) (eqK (hK _ (by exact leA)) (congrArg (Value.int .i64) (by rw [hww]; exact first_at (by omega) hj (by assumption))))
    · have hc24 := ho24; try simp only [spl] at hc24
      refine run_skip ?_
      refine hk14 _ _ ?_
      clear hk14
      refine run_gh Gh.drop ?_
      refine run_region ?_
      refine opsR_q rfl (by first | exact q_add64 rfl rfl (by omega) (by omega) | exact q_add rfl rfl) ?_
      simp only [nrm, Nat.reduceAdd, Nat.reduceMul, Nat.reduceSub, Int.reduceToNat, Int.reduceAdd]
      refine opsR_q rfl (q_move) ?_
      simp only [nrm]
      refine opsR_nil ?_
      first
      | exact hkl8 _ _ _ _ (by omega) ⟨i + 1, _, rfl, rfl, rfl, by first | omega | exact all_zero | exact all_succ hj (by assumption), by first | omega | exact all_zero | exact all_succ hj (by assumption)⟩ rfl
  · have hc13 := ho13; try simp only [spl] at hc13
    refine run_exit ?_
    refine hk4 _ _ ?_
    clear hk4
    refine run_seq fun _ hk26 => ?_
    refine run_region ?_
    refine opsR_q rfl (q_assign) ?_
    simp only [nrm]
    refine opsR_nil ?_
    refine hk26 _ _ ?_
    clear hk26
    refine run_ret ?_
    exact end_tmp rfl rfl rfl (by exact ghA) (eqK (hK _ (by exact leA)) (congrArg (Value.int .i64) (first_none fun j h => hj j (by omega))))
end
end Go.Proofs.YtcnbcblihepbmaaGreatDoor
