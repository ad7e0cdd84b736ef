/- Package stevedorebase: a pod's copy, and a pod held against it. -/
import Derived.Test.YtcnbcblihepbmaaGreatDoorCP
import Derived.Test.YtcnbcblihepbmaaGreatDoorSM
import Derived.Test.YtcnbcblihepbmaaGreatDoorFX
set_option autoImplicit false
set_option linter.unusedVariables false
set_option linter.unusedSimpArgs false
namespace Go.Proofs.YtcnbcblihepbmaaGreatDoor
open Go Go.RowKit
theorem prefer_bulk (x : Prefer) : kReq.slice.bulk x.Reqs + 1 ≤ kPrefer.bulk x := by
  simp only [kPrefer, Kd.iso, Kd.pair, kInt]; omega
theorem prefers_bulk (l : List Prefer) : l.length + 1 ≤ kPrefer.slice.bulk l := bulk_len (k := kPrefer) (fun x => by have := prefer_bulk x; omega) l
theorem spread_bulk (x : Spread) : kReq.slice.bulk x.Reqs + 1 ≤ kSpread.bulk x := by
  simp only [kSpread, Kd.iso, Kd.pair, kInt, kStr]; omega
theorem spreads_bulk (l : List Spread) : l.length + 1 ≤ kSpread.slice.bulk l := bulk_len (k := kSpread) (fun x => by have := spread_bulk x; omega) l
theorem bears_bulk (l : List Bear) : l.length + 1 ≤ kBear.slice.bulk l := bulk_len (k := kBear) (fun x => by simp only [kBear, Kd.iso, Kd.pair, kStr]; omega) l
theorem pod_bulks (x : Pod) : kLabel.slice.bulk x.Labels ≤ kPod.bulk x ∧ kBear.slice.bulk x.Bears ≤ kPod.bulk x ∧ kReq.slice.bulk x.Asks ≤ kPod.bulk x ∧ kPrefer.slice.bulk x.Prefers ≤ kPod.bulk x ∧ (kInt .i64).slice.bulk x.Ports ≤ kPod.bulk x ∧ kTerm.slice.bulk x.Near ≤ kPod.bulk x ∧ kTerm.slice.bulk x.Apart ≤ kPod.bulk x ∧ kSpread.slice.bulk x.Spreads ≤ kPod.bulk x ∧ kStr.slice.bulk x.Claims ≤ kPod.bulk x := by
  simp only [kPod, kRes, Kd.iso, Kd.pair]; refine ⟨?_, ?_, ?_, ?_, ?_, ?_, ?_, ?_, ?_⟩ <;> omega
section
attribute [local irreducible] Quiet OpsR Run CallS opS Gh endQ oblE RunN swp Go.Op.equalIn
set_option maxHeartbeats 4000000 in
theorem Pod_spec {p : Pod} {cp : List Value} {s : St} (hp : kPod.rep s.I p cp) (hb : kPod.bulk p ≤ 1073741824) :
    CallR Tryz.prog 9 #[.agg cp.toArray] s (fun J w => ∃ cq, w = .agg cq.toArray ∧ kPod.rep J p cq) := by
  intro K hK
  obtain ⟨b1, b2, b3, b4, b5, b6, b7, b8, b9⟩ := pod_bulks p
  have l1 := labels_bulk p.Labels; have l2 := bears_bulk p.Bears; have l4 := prefers_bulk p.Prefers; have l5 := bulk_len (k := kInt .i64) (fun _ => Nat.le_refl 1) p.Ports; have l8 := spreads_bulk p.Spreads; have l9 := strs_bulk p.Claims
  obtain ⟨p1, p2, p3, p4, p5, p6, p7, p8, p9, rfl, g1, g2, g3, g4, g5, g6, g7, g8, g9⟩ := kPod.open hp
  refine callS_of_run Tryz.func9 rfl ?_; simp only [Tryz.ntmps9, List.size_toArray, List.length_cons, List.length_nil, Nat.reduceAdd, Nat.reduceSub, Array.replicate_succ, Array.replicate_zero, List.push_toArray, List.append_toArray, List.nil_append, List.cons_append]
  refine run_seq fun _ hk1 => ?_
  refine run_region ?_
  refine opsR_o rfl (o_box fun bP hbP => ?_)
  simp only [nrm, Nat.reduceAdd, Nat.reduceMul, Nat.reduceSub, Int.reduceToNat, Int.reduceAdd]
  refine opsR_o rfl (o_alloc fun bR hbR => ?_)
  simp only [nrm, Nat.reduceAdd, Nat.reduceMul, Nat.reduceSub, Int.reduceToNat, Int.reduceAdd]
  refine opsR_nil ?_
  refine hk1 _ _ ?_
  clear hk1
  refine run_seq fun _ hk4 => ?_
  refine run_region ?_
  refine opsR_q rfl (by first | exact q_loadBN rfl inferInstance (by rfl) | exact q_loadBW rfl inferInstance (by assumption)) ?_
  simp only [nrm, Nat.reduceAdd, Nat.reduceMul, Nat.reduceSub, Int.reduceToNat, Int.reduceAdd]
  refine opsR_o rfl (o_alloc fun bQ hbQ => ?_)
  simp only [nrm, Nat.reduceAdd, Nat.reduceMul, Nat.reduceSub, Int.reduceToNat, Int.reduceAdd]
  refine opsR_o rfl (o_storeB rfl rfl inferInstance (by first | rfl | assumption) (by first | rfl | exact Kd.one _ (by assumption) | assumption) (by first | rfl | (refine Nat.ble_eq_true_of_le ?_; (try simp only [Int.toNat_natCast]); omega)) ?_)
  simp only [nrm, Nat.reduceAdd, Nat.reduceMul, Nat.reduceSub, Int.reduceToNat, Int.reduceAdd]
  refine opsR_nil ?_
  refine hk4 _ _ ?_
  clear hk4
  refine run_seq fun _ hk7 => ?_
  refine run_region ?_
  refine opsR_q rfl (q_fieldAddr rfl) ?_
  simp only [nrm, Nat.reduceAdd, Nat.reduceMul, Nat.reduceSub, Int.reduceToNat, Int.reduceAdd]
  refine opsR_q rfl (q_loadB1 rfl inferInstance rfl) ?_
  simp only [nrm, Nat.reduceAdd, Nat.reduceMul, Nat.reduceSub, Int.reduceToNat, Int.reduceAdd]
  refine opsR_o rfl (o_call rfl ((LabelsO_spec (by first | assumption | (refine Sl.mono ?_ (by assumption); exact leA)) (by omega)).toR _ fun vL JL hJL hvL => ?_))
  try dsimp only at hJL hvL
  try (have hrL : Hp.le s.I JL := leA; have hJL := hJL)
  simp only [nrm, Nat.reduceAdd, Nat.reduceMul, Nat.reduceSub, Int.reduceToNat, Int.reduceAdd]
  obtain ⟨AL, cL, rfl, _, _⟩ := hvL.shape
  refine opsR_q rfl (q_fieldAddr rfl) ?_
  simp only [nrm, Nat.reduceAdd, Nat.reduceMul, Nat.reduceSub, Int.reduceToNat, Int.reduceAdd]
  refine opsR_o rfl (o_storeB rfl rfl inferInstance (by first | rfl | assumption) (by first | rfl | exact Kd.one _ (by assumption) | assumption) (by first | rfl | (refine Nat.ble_eq_true_of_le ?_; (try simp only [Int.toNat_natCast]); omega)) ?_)
  simp only [nrm, Nat.reduceAdd, Nat.reduceMul, Nat.reduceSub, Int.reduceToNat, Int.reduceAdd]
  refine opsR_nil ?_
  refine hk7 _ _ ?_
  clear hk7
  refine run_seq fun _ hk10 => ?_
  refine run_region ?_
  refine opsR_slice0 kBear rfl fun v11 hs11 hv11 => ?_
  simp only [nrm, Nat.reduceAdd, Nat.reduceMul, Nat.reduceSub, Int.reduceToNat, Int.reduceAdd]
  refine opsR_q rfl (q_fieldAddr rfl) ?_
  simp only [nrm, Nat.reduceAdd, Nat.reduceMul, Nat.reduceSub, Int.reduceToNat, Int.reduceAdd]
  refine opsR_q rfl (q_loadB1 rfl inferInstance rfl) ?_
  simp only [nrm, Nat.reduceAdd, Nat.reduceMul, Nat.reduceSub, Int.reduceToNat, Int.reduceAdd]
  refine opsR_app rfl rfl rfl (by first | assumption | (refine OwnS.mono ?_ (by assumption); exact leA)) (by infer_instance) slrA (by rfl) (by rfl) rfl rfl idxA fun vB hsB hvB => ?_
  simp only [nrm, Nat.reduceAdd, Nat.reduceMul, Nat.reduceSub, Int.reduceToNat, Int.reduceAdd]
  simp only [List.nil_append] at hvB
  refine opsR_fz hvB (by infer_instance) fun JFB hJFB hvB => ?_; try dsimp only at hJFB; try (have hrFB : Hp.le s.I JFB := (by exact leA); have hJFB := hJFB); try simp only [nrm, Nat.reduceAdd, Nat.reduceMul, Nat.reduceSub, Int.reduceToNat, Int.reduceAdd]
  obtain ⟨AB, cB, rfl, _, _⟩ := hvB.shape
  refine opsR_q rfl (q_fieldAddr rfl) ?_
  simp only [nrm, Nat.reduceAdd, Nat.reduceMul, Nat.reduceSub, Int.reduceToNat, Int.reduceAdd]
  refine opsR_o rfl (o_storeB rfl rfl inferInstance (by first | rfl | assumption) (by first | rfl | exact Kd.one _ (by assumption) | assumption) (by first | rfl | (refine Nat.ble_eq_true_of_le ?_; (try simp only [Int.toNat_natCast]); omega)) ?_)
  simp only [nrm, Nat.reduceAdd, Nat.reduceMul, Nat.reduceSub, Int.reduceToNat, Int.reduceAdd]
  refine opsR_nil ?_
  refine hk10 _ _ ?_
  clear hk10
  refine run_seq fun _ hk13 => ?_
  refine run_region ?_
  refine opsR_q rfl (q_fieldAddr rfl) ?_
  simp only [nrm, Nat.reduceAdd, Nat.reduceMul, Nat.reduceSub, Int.reduceToNat, Int.reduceAdd]
  refine opsR_q rfl (q_loadB1 rfl inferInstance rfl) ?_
  simp only [nrm, Nat.reduceAdd, Nat.reduceMul, Nat.reduceSub, Int.reduceToNat, Int.reduceAdd]
  refine opsR_o rfl (o_call rfl ((ReqsO_spec (by first | assumption | (refine Sl.mono ?_ (by assumption); exact leA)) (by omega)).toR _ fun vA JA hJA hvA => ?_))
  try dsimp only at hJA hvA
  try (have hrA : Hp.le s.I JA := leA; have hJA := hJA)
  simp only [nrm, Nat.reduceAdd, Nat.reduceMul, Nat.reduceSub, Int.reduceToNat, Int.reduceAdd]
  obtain ⟨AA, cA, rfl, _, _⟩ := hvA.shape
  refine opsR_q rfl (q_fieldAddr rfl) ?_
  simp only [nrm, Nat.reduceAdd, Nat.reduceMul, Nat.reduceSub, Int.reduceToNat, Int.reduceAdd]
  refine opsR_o rfl (o_storeB rfl rfl inferInstance (by first | rfl | assumption) (by first | rfl | exact Kd.one _ (by assumption) | assumption) (by first | rfl | (refine Nat.ble_eq_true_of_le ?_; (try simp only [Int.toNat_natCast]); omega)) ?_)
  simp only [nrm, Nat.reduceAdd, Nat.reduceMul, Nat.reduceSub, Int.reduceToNat, Int.reduceAdd]
  refine opsR_nil ?_
  refine hk13 _ _ ?_
  clear hk13
  refine run_seq fun _ hk15 => ?_
  refine run_region ?_
  refine opsR_slice0 kPrefer rfl fun vW hsW hvW => ?_
  simp only [nrm, Nat.reduceAdd, Nat.reduceMul, Nat.reduceSub, Int.reduceToNat, Int.reduceAdd]
  obtain ⟨AW, cW, rfl⟩ := hvW.shape
  refine opsR_q rfl (q_fieldAddr rfl) ?_
  simp only [nrm, Nat.reduceAdd, Nat.reduceMul, Nat.reduceSub, Int.reduceToNat, Int.reduceAdd]
  refine opsR_o rfl (o_storeB rfl rfl inferInstance (by first | rfl | assumption) (by first | rfl | exact Kd.one _ (by assumption) | assumption) (by first | rfl | (refine Nat.ble_eq_true_of_le ?_; (try simp only [Int.toNat_natCast]); omega)) ?_)
  simp only [nrm, Nat.reduceAdd, Nat.reduceMul, Nat.reduceSub, Int.reduceToNat, Int.reduceAdd]
  simp only [set_app, set_app0, nrm]
  refine opsR_nil ?_
  refine hk15 _ _ ?_
  clear hk15
  refine run_seq fun _ hk17 => ?_
  refine run_seq fun _ hk18 => ?_
  refine run_region ?_
  refine opsR_q rfl (q_assign) ?_
  simp only [nrm]
  refine opsR_nil ?_
  refine hk18 _ _ ?_
  clear hk18
  refine run_block ?_
  refine run_loopF [0, 0, 0, 0, 2, 0, 0, 0, 0, 0, 0, 0, 0, 0, 0, 0, 0, 0, 0, 0, 0, 0, 0, 1, 1, 1, 1, 1, 1, 1, 1, 1, 1, 1, 1, 1, 1, 1, 1, 1, 1, 1, 1, 1, 1, 1, 1, 1, 1, 0, 0, 0, 0, 0, 0, 0, 0, 0, 0, 0, 0, 0, 0, 0, 0, 0, 0, 0, 0, 0, 0, 0, 0, 0, 0, 0, 0, 0, 0, 0, 0, 0, 0, 0, 0, 0, 0, 0, 0, 0] (fun zn zL zst => ∃ (i : Nat) (v' : Value) (J : Hp) (hs : (List (Nat × Obj))), zL = [.int .i64 (i : Nat)] ∧ ⟨J, hs ++ (bQ, .cells #[.string p.Name, .int .i64 p.Priority, .slice AL p.Labels.length cL, .int .i64 p.Want.CPU, .int .i64 p.Want.Mem, .int .i64 p.Want.Disk, .slice AB p.Bears.length cB, .slice AA p.Asks.length cA, v', p5, p6, p7, p8, p9, .string p.Node, .string p.Hope] 33 (0, 0)) :: (bR, .cells #[.string ⟨#[]⟩, .int .i64 0, .slice none 0 0, .int .i64 0, .int .i64 0, .int .i64 0, .slice none 0 0, .slice none 0 0, .slice none 0 0, .slice none 0 0, .slice none 0 0, .slice none 0 0, .slice none 0 0, .slice none 0 0, .string ⟨#[]⟩, .string ⟨#[]⟩] 33 (0, 0)) :: (bP, .cells #[.string p.Name, .int .i64 p.Priority, p1, .int .i64 p.Want.CPU, .int .i64 p.Want.Mem, .int .i64 p.Want.Disk, p2, p3, p4, p5, p6, p7, p8, p9, .string p.Node, .string p.Hope] 33 (0, 0)) :: s.cs⟩ = zst ∧ zn = p.Prefers.length - i ∧ (i ≤ p.Prefers.length) ∧ (Hp.le JA J) ∧ (OwnS kPrefer 62 J v' hs (p.Prefers.take i))) _ _ ⟨0, _, JA, _, rfl, rfl, rfl, by first | assumption | omega | exact Hp.le.rfl | rfl | exact all_zero | exact all_succ (by assumption) (by assumption) | (intro _; omega) | (simp; done), by first | assumption | omega | exact Hp.le.rfl | rfl | exact all_zero | exact all_succ (by assumption) (by assumption) | (intro _; omega) | (simp; done), by first | assumption | omega | exact Hp.le.rfl | rfl | exact all_zero | exact all_succ (by assumption) (by assumption) | (intro _; omega) | (simp; done)⟩ rfl ?_
  rintro _ _ _ jv19 ⟨i, v', J, hs, rfl, rfl, rfl, hi, hJ, hO⟩ K19 hkl19
  simp only [fr, Nat.zero_add, Nat.reduceAdd]
  have hrJ : Hp.le s.I J := by exact leA
  have hbi := fun h : i < p.Prefers.length => (mem_bulk (k := kPrefer) (mem_get! h))
  have hbr := prefer_bulk p.Prefers[i]!
  obtain ⟨AP, cP, rfl⟩ := hO.shape
  refine run_seq fun _ hk20 => ?_
  refine run_seq fun _ hk21 => ?_
  refine run_region ?_
  refine opsR_q rfl (q_move) ?_
  simp only [nrm]
  refine opsR_q rfl (q_fieldAddr rfl) ?_
  simp only [nrm, Nat.reduceAdd, Nat.reduceMul, Nat.reduceSub, Int.reduceToNat, Int.reduceAdd]
  refine opsR_q rfl (q_loadB1 rfl inferInstance rfl) ?_
  simp only [nrm, Nat.reduceAdd, Nat.reduceMul, Nat.reduceSub, Int.reduceToNat, Int.reduceAdd]
  refine opsR_q rfl (q_len_v rfl (by first | exact Sl.len (by assumption) | exact OwnS.len (by assumption) | exact SlR.len (by assumption) | assumption)) ?_
  simp only [nrm, Nat.reduceAdd, Nat.reduceMul, Nat.reduceSub, Int.reduceToNat, Int.reduceAdd]
  refine opsR_q rfl (q_lss rfl rfl) ?_
  simp only [nrm, Nat.reduceAdd, Nat.reduceMul, Nat.reduceSub, Int.reduceToNat, Int.reduceAdd]
  refine opsR_nil ?_
  refine hk21 _ _ ?_
  clear hk21
  refine run_cond rfl (fun ho24 => ?_) (fun ho24 => ?_)
  · have hc24 := ho24; try simp only [spl] at hc24
    refine run_skip ?_
    refine hk20 _ _ ?_
    clear hk20
    refine run_seq fun _ hk25 => ?_
    refine run_block ?_
    have hbi := hbi (by omega)
    refine run_mixL mixed [true, false, true, true, true, true, true, true, false, true, true, true, true, true, true, false, false, false, true, false] [false, false, false, false, false, false, false, false, false, false, false, false, false, false, false, false, false, false, false, false] [1, 8, 15, 16, 17, 19] (KeepT [(bP, .cells #[.string p.Name, .int .i64 p.Priority, p1, .int .i64 p.Want.CPU, .int .i64 p.Want.Mem, .int .i64 p.Want.Disk, p2, p3, p4, p5, p6, p7, p8, p9, .string p.Node, .string p.Hope] 33 (0, 0))] _) (by kernel_rfl) rfl ⟨.rfl, by intro pk hpk; simp only [List.mem_cons, List.not_mem_nil, or_false] at hpk; subst hpk; simp only [List.mem_cons, List.mem_append, true_or, or_true]⟩ ?_
    refine oblK_k rfl (fun z hz => (q_fieldAddr rfl)) ?_
    simp only [nrm, Nat.reduceAdd, Nat.reduceMul, Nat.reduceSub, Int.reduceToNat, Int.reduceAdd]
    refine oblK_r ?_
    refine oblK_k rfl (fun z hz => (q_fieldAddr rfl)) ?_
    simp only [nrm, Nat.reduceAdd, Nat.reduceMul, Nat.reduceSub, Int.reduceToNat, Int.reduceAdd]
    refine oblK_k rfl (fun z hz => by have hI := hz.1; first | exact q_load1 rfl (hz.has inferInstance) rfl | exact q_loadB1 rfl inferInstance rfl) ?_
    simp only [nrm, Nat.reduceAdd, Nat.reduceMul, Nat.reduceSub, Int.reduceToNat, Int.reduceAdd]
    refine oblK_k rfl (fun z hz => (q_move)) ?_
    simp only [nrm, Nat.reduceAdd, Nat.reduceMul, Nat.reduceSub, Int.reduceToNat, Int.reduceAdd]
    refine oblK_indexI rfl rfl rfl (by first | assumption | (refine Sl.mono ?_ (by assumption); exact leA)) (by rfl) idxA idxA fun b26 o26 cs26 ha26 hr26 he26 => ?_
    simp only [nrm, Nat.reduceAdd, Nat.reduceMul, Nat.reduceSub, Int.reduceToNat, Int.reduceAdd]
    try simp only [Int.toNat_natCast, Int.reduceToNat, Int.toNat_zero] at hr26
    try simp only [Int.toNat_natCast, Int.reduceToNat, Int.toNat_zero] at he26
    clear ha26
    obtain ⟨w26_Reqs, rfl, h26_Reqs⟩ := kPrefer.open hr26
    refine oblK_k rfl (fun z hz => (q_fieldAddr rfl)) ?_
    simp only [nrm, Nat.reduceAdd, Nat.reduceMul, Nat.reduceSub, Int.reduceToNat, Int.reduceAdd]
    refine oblK_k rfl (fun z hz => by have hI := hz.1; first | exact q_load1 rfl (hz.has inferInstance) rfl | exact q_load_at1 (i := 0) rfl (hz.el (by assumption)) rfl (Nat.le_of_ble_eq_true rfl) rfl | exact q_load_at1 rfl (hz.el (by assumption)) rfl (Nat.le_of_ble_eq_true rfl) rfl) ?_
    simp only [nrm, Nat.reduceAdd, Nat.reduceMul, Nat.reduceSub, Int.reduceToNat, Int.reduceAdd]
    refine oblK_r ?_
    refine oblK_k rfl (fun z hz => (q_fieldAddr rfl)) ?_
    simp only [nrm, Nat.reduceAdd, Nat.reduceMul, Nat.reduceSub, Int.reduceToNat, Int.reduceAdd]
    refine oblK_k rfl (fun z hz => by have hI := hz.1; first | exact q_load1 rfl (hz.has inferInstance) rfl | exact q_loadB1 rfl inferInstance rfl) ?_
    simp only [nrm, Nat.reduceAdd, Nat.reduceMul, Nat.reduceSub, Int.reduceToNat, Int.reduceAdd]
    refine oblK_k rfl (fun z hz => (q_move)) ?_
    simp only [nrm, Nat.reduceAdd, Nat.reduceMul, Nat.reduceSub, Int.reduceToNat, Int.reduceAdd]
    refine oblK_indexI rfl rfl rfl (by first | assumption | (refine Sl.mono ?_ (by assumption); exact leA)) (by rfl) idxA idxA fun b27 o27 cs27 ha27 hr27 he27 => ?_
    simp only [nrm, Nat.reduceAdd, Nat.reduceMul, Nat.reduceSub, Int.reduceToNat, Int.reduceAdd]
    try simp only [Int.toNat_natCast, Int.reduceToNat, Int.toNat_zero] at hr27
    try simp only [Int.toNat_natCast, Int.reduceToNat, Int.toNat_zero] at he27
    clear ha27
    obtain ⟨w27_Reqs, rfl, h27_Reqs⟩ := kPrefer.open hr27
    refine oblK_k rfl (fun z hz => (q_fieldAddr rfl)) ?_
    simp only [nrm, Nat.reduceAdd, Nat.reduceMul, Nat.reduceSub, Int.reduceToNat, Int.reduceAdd]
    refine oblK_k rfl (fun z hz => by have hI := hz.1; first | exact q_load1 rfl (hz.has inferInstance) rfl | exact q_load_at1 (i := 0) rfl (hz.el (by assumption)) rfl (Nat.le_of_ble_eq_true rfl) rfl | exact q_load_at1 rfl (hz.el (by assumption)) rfl (Nat.le_of_ble_eq_true rfl) rfl | exact q_load_slvInt rfl slrA idxA) ?_
    simp only [nrm, Nat.reduceAdd, Nat.reduceMul, Nat.reduceSub, Int.reduceToNat, Int.reduceAdd]
    refine oblK_r ?_
    refine oblK_r ?_
    refine oblK_r ?_
    refine oblK_k rfl (fun z hz => (q_fieldAddr rfl)) ?_
    simp only [nrm, Nat.reduceAdd, Nat.reduceMul, Nat.reduceSub, Int.reduceToNat, Int.reduceAdd]
    refine oblK_r ?_
    refine oblK_nil ?_
    refine restK_pick [1, 8] (by kernel_rfl) ⟨?_, ?_, trivial⟩
    · skip
      refine restK_op rfl ?_
      simp only [List.getElem_toArray, List.getElem_cons_zero, List.getElem_cons_succ]
      refine opsR_q rfl (q_loadB1 rfl inferInstance rfl) ?_
      simp only [nrm, Nat.reduceAdd, Nat.reduceMul, Nat.reduceSub, Int.reduceToNat, Int.reduceAdd]
      refine opsR_nil ⟨rfl, rfl, ⟨by exact leA, by intro pk hpk; simp only [List.mem_cons, List.not_mem_nil, or_false] at hpk; subst hpk; simp only [List.mem_cons, List.mem_append, true_or, or_true]⟩, ?_⟩
      refine restK_pick [8] (by kernel_rfl) ⟨?_, trivial⟩
      refine restK_op rfl ?_
      simp only [List.getElem_toArray, List.getElem_cons_zero, List.getElem_cons_succ]
      refine opsR_o rfl (o_call rfl ((ReqsO_spec (by first | assumption | (refine Sl.mono ?_ (by assumption); exact leA)) (by omega)).toR _ fun vX JX hJX hvX => ?_))
      try dsimp only at hJX hvX
      try (have hrX : Hp.le s.I JX := leA; have hJX := hJX)
      simp only [nrm, Nat.reduceAdd, Nat.reduceMul, Nat.reduceSub, Int.reduceToNat, Int.reduceAdd]
      obtain ⟨AX, cX, rfl, _, _⟩ := hvX.shape
      refine opsR_nil ⟨rfl, rfl, ⟨by exact leA, by intro pk hpk; simp only [List.mem_cons, List.not_mem_nil, or_false] at hpk; subst hpk; simp only [List.mem_cons, List.mem_append, true_or, or_true]⟩, ?_⟩
      refine restK_pick [15] (by kernel_rfl) ⟨?_, trivial⟩
      refine restK_op rfl ?_
      simp only [List.getElem_toArray, List.getElem_cons_zero, List.getElem_cons_succ]
      refine opsR_q rfl (q_build rfl) ?_
      simp only [nrm, Nat.reduceAdd, Nat.reduceMul, Nat.reduceSub, Int.reduceToNat, Int.reduceAdd]
      refine opsR_nil ⟨rfl, rfl, ⟨by exact leA, by intro pk hpk; simp only [List.mem_cons, List.not_mem_nil, or_false] at hpk; subst hpk; simp only [List.mem_cons, List.mem_append, true_or, or_true]⟩, ?_⟩
      refine restK_pick [16] (by kernel_rfl) ⟨?_, trivial⟩
      refine restK_op rfl ?_
      simp only [List.getElem_toArray, List.getElem_cons_zero, List.getElem_cons_succ]
      refine opsR_slice1 kPrefer (w := p.Prefers[i]!) rfl rfl (by rfl) (by decide) (by decide) (by rfl) (by first | rfl | assumption | exact kPrefer.shut | (refine Kd.mono _ ?_ (by assumption); exact leA) | (apply kPrefer.shut <;> assumption)) fun v29 hs29 hv29 => ?_
      simp only [nrm, Nat.reduceAdd, Nat.reduceMul, Nat.reduceSub, Int.reduceToNat, Int.reduceAdd]
      refine opsR_nil ⟨rfl, rfl, ⟨by exact leA, by intro pk hpk; simp only [List.mem_cons, List.not_mem_nil, or_false] at hpk; subst hpk; simp only [List.mem_cons, List.mem_append, true_or, or_true]⟩, ?_⟩
      refine restK_pick [17] (by kernel_rfl) ⟨?_, trivial⟩
      refine restK_op rfl ?_
      simp only [List.getElem_toArray, List.getElem_cons_zero, List.getElem_cons_succ]
      refine opsR_app rfl rfl rfl (by first | assumption | (refine OwnS.mono ?_ (by assumption); exact leA)) (by infer_instance) slrA (by rfl) (by rfl) rfl rfl idxA fun vY hsY hvY => ?_
      simp only [nrm, Nat.reduceAdd, Nat.reduceMul, Nat.reduceSub, Int.reduceToNat, Int.reduceAdd]
      refine opsR_dropS (hs := hs29) ?_
      try simp only [nrm, Nat.reduceAdd, Nat.reduceMul, Nat.reduceSub, Int.reduceToNat, Int.reduceAdd]
      obtain ⟨AY, cY, rfl⟩ := hvY.shape
      refine opsR_nil ⟨rfl, rfl, ⟨by exact leA, by intro pk hpk; simp only [List.mem_cons, List.not_mem_nil, or_false] at hpk; subst hpk; simp only [List.mem_cons, List.mem_append, true_or, or_true]⟩, ?_⟩
      refine restK_pick [19] (by kernel_rfl) ⟨?_, trivial⟩
      refine restK_op rfl ?_
      simp only [List.getElem_toArray, List.getElem_cons_zero, List.getElem_cons_succ]
      refine opsR_o rfl (o_storeB rfl rfl inferInstance (by first | rfl | assumption) (by first | rfl | exact Kd.one _ (by assumption) | assumption) (by first | rfl | (refine Nat.ble_eq_true_of_le ?_; (try simp only [Int.toNat_natCast]); omega)) ?_)
      simp only [nrm, Nat.reduceAdd, Nat.reduceMul, Nat.reduceSub, Int.reduceToNat, Int.reduceAdd]
      simp only [set_app, set_app0, nrm]
      refine opsR_nil ⟨rfl, rfl, ⟨by exact leA, by intro pk hpk; simp only [List.mem_cons, List.not_mem_nil, or_false] at hpk; subst hpk; simp only [List.mem_cons, List.mem_append, true_or, or_true]⟩, ?_⟩
      refine restK_end rfl ?_
      try simp only [nrm, Nat.reduceAdd, Nat.reduceMul, Nat.reduceSub, Int.reduceToNat, Int.reduceAdd]
      refine hk25 _ _ ?_
      clear hk25
      refine run_region ?_
      refine opsR_q rfl (q_move) ?_
      simp only [nrm]
      refine opsR_q rfl (by first | exact q_add64 rfl rfl (by omega) (by omega) | exact q_add rfl rfl) ?_
      simp only [nrm, Nat.reduceAdd, Nat.reduceMul, Nat.reduceSub, Int.reduceToNat, Int.reduceAdd]
      refine opsR_q rfl (q_assign) ?_
      simp only [nrm]
      refine opsR_nil ?_
      first
      | exact hkl19 _ _ _ _ (by omega) ⟨i + 1, _, _, _, rfl, rfl, rfl, by first | omega | exact OwnS.cast (by assumption) rfl | exact OwnS.cast (by assumption) (take_succ! (by omega)).symm | exact leA, by first | omega | exact OwnS.cast (by assumption) rfl | exact OwnS.cast (by assumption) (take_succ! (by omega)).symm | exact leA, by first | omega | exact OwnS.cast (by assumption) rfl | exact OwnS.cast (by assumption) (take_succ! (by omega)).symm | exact leA⟩ rfl
    · skip
      refine restK_op rfl ?_
      simp only [List.getElem_toArray, List.getElem_cons_zero, List.getElem_cons_succ]
      refine opsR_o rfl (o_call rfl ((ReqsO_spec (by first | assumption | (refine Sl.mono ?_ (by assumption); exact leA)) (by omega)).toR _ fun vX JX hJX hvX => ?_))
      try dsimp only at hJX hvX
      try (have hrX : Hp.le s.I JX := leA; have hJX := hJX)
      simp only [nrm, Nat.reduceAdd, Nat.reduceMul, Nat.reduceSub, Int.reduceToNat, Int.reduceAdd]
      obtain ⟨AX, cX, rfl, _, _⟩ := hvX.shape
      refine opsR_nil ⟨rfl, rfl, ⟨by exact leA, by intro pk hpk; simp only [List.mem_cons, List.not_mem_nil, or_false] at hpk; subst hpk; simp only [List.mem_cons, List.mem_append, true_or, or_true]⟩, ?_⟩
      refine restK_pick [1, 15] (by kernel_rfl) ⟨?_, ?_, trivial⟩
      · skip
        refine restK_op rfl ?_
        simp only [List.getElem_toArray, List.getElem_cons_zero, List.getElem_cons_succ]
        refine opsR_q rfl (q_loadB1 rfl inferInstance rfl) ?_
        simp only [nrm, Nat.reduceAdd, Nat.reduceMul, Nat.reduceSub, Int.reduceToNat, Int.reduceAdd]
        refine opsR_nil ⟨rfl, rfl, ⟨by exact leA, by intro pk hpk; simp only [List.mem_cons, List.not_mem_nil, or_false] at hpk; subst hpk; simp only [List.mem_cons, List.mem_append, true_or, or_true]⟩, ?_⟩
        refine restK_pick [15] (by kernel_rfl) ⟨?_, trivial⟩
        refine restK_op rfl ?_
        simp only [List.getElem_toArray, List.getElem_cons_zero, List.getElem_cons_succ]
        refine opsR_q rfl (q_build rfl) ?_
        simp only [nrm, Nat.reduceAdd, Nat.reduceMul, Nat.reduceSub, Int.reduceToNat, Int.reduceAdd]
        refine opsR_nil ⟨rfl, rfl, ⟨by exact leA, by intro pk hpk; simp only [List.mem_cons, List.not_mem_nil, or_false] at hpk; subst hpk; simp only [List.mem_cons, List.mem_append, true_or, or_true]⟩, ?_⟩
        refine restK_pick [16] (by kernel_rfl) ⟨?_, trivial⟩
        refine restK_op rfl ?_
        simp only [List.getElem_toArray, List.getElem_cons_zero, List.getElem_cons_succ]
        refine opsR_slice1 kPrefer (w := p.Prefers[i]!) rfl rfl (by rfl) (by decide) (by decide) (by rfl) (by first | rfl | assumption | exact kPrefer.shut | (refine Kd.mono _ ?_ (by assumption); exact leA) | (apply kPrefer.shut <;> assumption)) fun v32 hs32 hv32 => ?_
        simp only [nrm, Nat.reduceAdd, Nat.reduceMul, Nat.reduceSub, Int.reduceToNat, Int.reduceAdd]
        refine opsR_nil ⟨rfl, rfl, ⟨by exact leA, by intro pk hpk; simp only [List.mem_cons, List.not_mem_nil, or_false] at hpk; subst hpk; simp only [List.mem_cons, List.mem_append, true_or, or_true]⟩, ?_⟩
        refine restK_pick [17] (by kernel_rfl) ⟨?_, trivial⟩
        refine restK_op rfl ?_
        simp only [List.getElem_toArray, List.getElem_cons_zero, List.getElem_cons_succ]
        refine opsR_app rfl rfl rfl (by first | assumption | (refine OwnS.mono ?_ (by assumption); exact leA)) (by infer_instance) slrA (by rfl) (by rfl) rfl rfl idxA fun vY hsY hvY => ?_
        simp only [nrm, Nat.reduceAdd, Nat.reduceMul, Nat.reduceSub, Int.reduceToNat, Int.reduceAdd]
        refine opsR_dropS (hs := hs32) ?_
        try simp only [nrm, Nat.reduceAdd, Nat.reduceMul, Nat.reduceSub, Int.reduceToNat, Int.reduceAdd]
        obtain ⟨AY, cY, rfl⟩ := hvY.shape
        refine opsR_nil ⟨rfl, rfl, ⟨by exact leA, by intro pk hpk; simp only [List.mem_cons, List.not_mem_nil, or_false] at hpk; subst hpk; simp only [List.mem_cons, List.mem_append, true_or, or_true]⟩, ?_⟩
        refine restK_pick [19] (by kernel_rfl) ⟨?_, trivial⟩
        refine restK_op rfl ?_
        simp only [List.getElem_toArray, List.getElem_cons_zero, List.getElem_cons_succ]
        refine opsR_o rfl (o_storeB rfl rfl inferInstance (by first | rfl | assumption) (by first | rfl | exact Kd.one _ (by assumption) | assumption) (by first | rfl | (refine Nat.ble_eq_true_of_le ?_; (try simp only [Int.toNat_natCast]); omega)) ?_)
        simp only [nrm, Nat.reduceAdd, Nat.reduceMul, Nat.reduceSub, Int.reduceToNat, Int.reduceAdd]
        simp only [set_app, set_app0, nrm]
        refine opsR_nil ⟨rfl, rfl, ⟨by exact leA, by intro pk hpk; simp only [List.mem_cons, List.not_mem_nil, or_false] at hpk; subst hpk; simp only [List.mem_cons, List.mem_append, true_or, or_true]⟩, ?_⟩
        refine restK_end rfl ?_
        try simp only [nrm, Nat.reduceAdd, Nat.reduceMul, Nat.reduceSub, Int.reduceToNat, Int.reduceAdd]
        refine hk25 _ _ ?_
        clear hk25
        refine run_region ?_
        refine opsR_q rfl (q_move) ?_
        simp only [nrm]
        refine opsR_q rfl (by first | exact q_add64 rfl rfl (by omega) (by omega) | exact q_add rfl rfl) ?_
        simp only [nrm, Nat.reduceAdd, Nat.reduceMul, Nat.reduceSub, Int.reduceToNat, Int.reduceAdd]
        refine opsR_q rfl (q_assign) ?_
        simp only [nrm]
        refine opsR_nil ?_
        first
        | exact hkl19 _ _ _ _ (by omega) ⟨i + 1, _, _, _, rfl, rfl, rfl, by first | omega | exact OwnS.cast (by assumption) rfl | exact OwnS.cast (by assumption) (take_succ! (by omega)).symm | exact leA, by first | omega | exact OwnS.cast (by assumption) rfl | exact OwnS.cast (by assumption) (take_succ! (by omega)).symm | exact leA, by first | omega | exact OwnS.cast (by assumption) rfl | exact OwnS.cast (by assumption) (take_succ! (by omega)).symm | exact leA⟩ rfl
      · skip
        refine restK_op rfl ?_
        simp only [List.getElem_toArray, List.getElem_cons_zero, List.getElem_cons_succ]
        refine opsR_q rfl (q_build rfl) ?_
        simp only [nrm, Nat.reduceAdd, Nat.reduceMul, Nat.reduceSub, Int.reduceToNat, Int.reduceAdd]
        refine opsR_nil ⟨rfl, rfl, ⟨by exact leA, by intro pk hpk; simp only [List.mem_cons, List.not_mem_nil, or_false] at hpk; subst hpk; simp only [List.mem_cons, List.mem_append, true_or, or_true]⟩, ?_⟩
        refine restK_pick [1, 16] (by kernel_rfl) ⟨?_, ?_, trivial⟩
        · skip
          refine restK_op rfl ?_
          simp only [List.getElem_toArray, List.getElem_cons_zero, List.getElem_cons_succ]
          refine opsR_q rfl (q_loadB1 rfl inferInstance rfl) ?_
          simp only [nrm, Nat.reduceAdd, Nat.reduceMul, Nat.reduceSub, Int.reduceToNat, Int.reduceAdd]
          refine opsR_nil ⟨rfl, rfl, ⟨by exact leA, by intro pk hpk; simp only [List.mem_cons, List.not_mem_nil, or_false] at hpk; subst hpk; simp only [List.mem_cons, List.mem_append, true_or, or_true]⟩, ?_⟩
          refine restK_pick [16] (by kernel_rfl) ⟨?_, trivial⟩
          refine restK_op rfl ?_
          simp only [List.getElem_toArray, List.getElem_cons_zero, List.getElem_cons_succ]
          refine opsR_slice1 kPrefer (w := p.Prefers[i]!) rfl rfl (by rfl) (by decide) (by decide) (by rfl) (by first | rfl | assumption | exact kPrefer.shut | (refine Kd.mono _ ?_ (by assumption); exact leA) | (apply kPrefer.shut <;> assumption)) fun v34 hs34 hv34 => ?_
          simp only [nrm, Nat.reduceAdd, Nat.reduceMul, Nat.reduceSub, Int.reduceToNat, Int.reduceAdd]
          refine opsR_nil ⟨rfl, rfl, ⟨by exact leA, by intro pk hpk; simp only [List.mem_cons, List.not_mem_nil, or_false] at hpk; subst hpk; simp only [List.mem_cons, List.mem_append, true_or, or_true]⟩, ?_⟩
          refine restK_pick [17] (by kernel_rfl) ⟨?_, trivial⟩
          refine restK_op rfl ?_
          simp only [List.getElem_toArray, List.getElem_cons_zero, List.getElem_cons_succ]
          refine opsR_app rfl rfl rfl (by first | assumption | (refine OwnS.mono ?_ (by assumption); exact leA)) (by infer_instance) slrA (by rfl) (by rfl) rfl rfl idxA fun vY hsY hvY => ?_
          simp only [nrm, Nat.reduceAdd, Nat.reduceMul, Nat.reduceSub, Int.reduceToNat, Int.reduceAdd]
          refine opsR_dropS (hs := hs34) ?_
          try simp only [nrm, Nat.reduceAdd, Nat.reduceMul, Nat.reduceSub, Int.reduceToNat, Int.reduceAdd]
          obtain ⟨AY, cY, rfl⟩ := hvY.shape
          refine opsR_nil ⟨rfl, rfl, ⟨by exact leA, by intro pk hpk; simp only [List.mem_cons, List.not_mem_nil, or_false] at hpk; subst hpk; simp only [List.mem_cons, List.mem_append, true_or, or_true]⟩, ?_⟩
          refine restK_pick [19] (by kernel_rfl) ⟨?_, trivial⟩
          refine restK_op rfl ?_
          simp only [List.getElem_toArray, List.getElem_cons_zero, List.getElem_cons_succ]
          refine opsR_o rfl (o_storeB rfl rfl inferInstance (by first | rfl | assumption) (by first | rfl | exact Kd.one _ (by assumption) | assumption) (by first | rfl | (refine Nat.ble_eq_true_of_le ?_; (try simp only [Int.toNat_natCast]); omega)) ?_)
          simp only [nrm, Nat.reduceAdd, Nat.reduceMul, Nat.reduceSub, Int.reduceToNat, Int.reduceAdd]
          simp only [set_app, set_app0, nrm]
          refine opsR_nil ⟨rfl, rfl, ⟨by exact leA, by intro pk hpk; simp only [List.mem_cons, List.not_mem_nil, or_false] at hpk; subst hpk; simp only [List.mem_cons, List.mem_append, true_or, or_true]⟩, ?_⟩
          refine restK_end rfl ?_
          try simp only [nrm, Nat.reduceAdd, Nat.reduceMul, Nat.reduceSub, Int.reduceToNat, Int.reduceAdd]
          refine hk25 _ _ ?_
          clear hk25
          refine run_region ?_
          refine opsR_q rfl (q_move) ?_
          simp only [nrm]
          refine opsR_q rfl (by first | exact q_add64 rfl rfl (by omega) (by omega) | exact q_add rfl rfl) ?_
          simp only [nrm, Nat.reduceAdd, Nat.reduceMul, Nat.reduceSub, Int.reduceToNat, Int.reduceAdd]
          refine opsR_q rfl (q_assign) ?_
          simp only [nrm]
          refine opsR_nil ?_
          first
          | exact hkl19 _ _ _ _ (by omega) ⟨i + 1, _, _, _, rfl, rfl, rfl, by first | omega | exact OwnS.cast (by assumption) rfl | exact OwnS.cast (by assumption) (take_succ! (by omega)).symm | exact leA, by first | omega | exact OwnS.cast (by assumption) rfl | exact OwnS.cast (by assumption) (take_succ! (by omega)).symm | exact leA, by first | omega | exact OwnS.cast (by assumption) rfl | exact OwnS.cast (by assumption) (take_succ! (by omega)).symm | exact leA⟩ rfl
        · skip
          refine restK_op rfl ?_
          simp only [List.getElem_toArray, List.getElem_cons_zero, List.getElem_cons_succ]
          refine opsR_slice1 kPrefer (w := p.Prefers[i]!) rfl rfl (by rfl) (by decide) (by decide) (by rfl) (by first | rfl | assumption | exact kPrefer.shut | (refine Kd.mono _ ?_ (by assumption); exact leA) | (apply kPrefer.shut <;> assumption)) fun v36 hs36 hv36 => ?_
          simp only [nrm, Nat.reduceAdd, Nat.reduceMul, Nat.reduceSub, Int.reduceToNat, Int.reduceAdd]
          refine opsR_nil ⟨rfl, rfl, ⟨by exact leA, by intro pk hpk; simp only [List.mem_cons, List.not_mem_nil, or_false] at hpk; subst hpk; simp only [List.mem_cons, List.mem_append, true_or, or_true]⟩, ?_⟩
          refine restK_pick [1] (by kernel_rfl) ⟨?_, trivial⟩
          refine restK_op rfl ?_
          simp only [List.getElem_toArray, List.getElem_cons_zero, List.getElem_cons_succ]
          refine opsR_q rfl (q_loadB1 rfl inferInstance rfl) ?_
          simp only [nrm, Nat.reduceAdd, Nat.reduceMul, Nat.reduceSub, Int.reduceToNat, Int.reduceAdd]
          refine opsR_nil ⟨rfl, rfl, ⟨by exact leA, by intro pk hpk; simp only [List.mem_cons, List.not_mem_nil, or_false] at hpk; subst hpk; simp only [List.mem_cons, List.mem_append, true_or, or_true]⟩, ?_⟩
          refine restK_pick [17] (by kernel_rfl) ⟨?_, trivial⟩
          refine restK_op rfl ?_
          simp only [List.getElem_toArray, List.getElem_cons_zero, List.getElem_cons_succ]
          refine opsR_app rfl rfl rfl (by first | assumption | (refine OwnS.mono ?_ (by assumption); exact leA)) (by infer_instance) slrA (by rfl) (by rfl) rfl rfl idxA fun vY hsY hvY => ?_
          simp only [nrm, Nat.reduceAdd, Nat.reduceMul, Nat.reduceSub, Int.reduceToNat, Int.reduceAdd]
          refine opsR_dropS (hs := hs36) ?_
          try simp only [nrm, Nat.reduceAdd, Nat.reduceMul, Nat.reduceSub, Int.reduceToNat, Int.reduceAdd]
          obtain ⟨AY, cY, rfl⟩ := hvY.shape
          refine opsR_nil ⟨rfl, rfl, ⟨by exact leA, by intro pk hpk; simp only [List.mem_cons, List.not_mem_nil, or_false] at hpk; subst hpk; simp only [List.mem_cons, List.mem_append, true_or, or_true]⟩, ?_⟩
          refine restK_pick [19] (by kernel_rfl) ⟨?_, trivial⟩
          refine restK_op rfl ?_
          simp only [List.getElem_toArray, List.getElem_cons_zero, List.getElem_cons_succ]
          refine opsR_o rfl (o_storeB rfl rfl inferInstance (by first | rfl | assumption) (by first | rfl | exact Kd.one _ (by assumption) | assumption) (by first | rfl | (refine Nat.ble_eq_true_of_le ?_; (try simp only [Int.toNat_natCast]); omega)) ?_)
          simp only [nrm, Nat.reduceAdd, Nat.reduceMul, Nat.reduceSub, Int.reduceToNat, Int.reduceAdd]
          simp only [set_app, set_app0, nrm]
          refine opsR_nil ⟨rfl, rfl, ⟨by exact leA, by intro pk hpk; simp only [List.mem_cons, List.not_mem_nil, or_false] at hpk; subst hpk; simp only [List.mem_cons, List.mem_append, true_or, or_true]⟩, ?_⟩
          refine restK_end rfl ?_
          try simp only [nrm, Nat.reduceAdd, Nat.reduceMul, Nat.reduceSub, Int.reduceToNat, Int.reduceAdd]
          refine hk25 _ _ ?_
          clear hk25
          refine run_region ?_
          refine opsR_q rfl (q_move) ?_
          simp only [nrm]
          refine opsR_q rfl (by first | exact q_add64 rfl rfl (by omega) (by omega) | exact q_add rfl rfl) ?_
          simp only [nrm, Nat.reduceAdd, Nat.reduceMul, Nat.reduceSub, Int.reduceToNat, Int.reduceAdd]
          refine opsR_q rfl (q_assign) ?_
          simp only [nrm]
          refine opsR_nil ?_
          first
          | exact hkl19 _ _ _ _ (by omega) ⟨i + 1, _, _, _, rfl, rfl, rfl, by first | omega | exact OwnS.cast (by assumption) rfl | exact OwnS.cast (by assumption) (take_succ! (by omega)).symm | exact leA, by first | omega | exact OwnS.cast (by assumption) rfl | exact OwnS.cast (by assumption) (take_succ! (by omega)).symm | exact leA, by first | omega | exact OwnS.cast (by assumption) rfl | exact OwnS.cast (by assumption) (take_succ! (by omega)).symm | exact leA⟩ rfl
  · have hc24 := ho24; try simp only [spl] at hc24
    refine run_exit ?_
    refine hk17 _ _ ?_
    clear hk17
    refine run_seq fun _ hk38 => ?_
    have eL : (p.Prefers.take i).length = p.Prefers.length := by rw [List.length_take]; omega
    have hO := OwnS.cast hO (take_all (by omega))
    rw [eL] at hO ⊢
    refine run_freeze (A := []) hO rfl fun JP hJP hvP => ?_
    have hrAP : Hp.le JA JP := hJ.trans hJP
    have hrP : Hp.le s.I JP := hrJ.trans hJP
    refine run_region ?_
    refine opsR_q rfl (q_fieldAddr rfl) ?_
    simp only [nrm, Nat.reduceAdd, Nat.reduceMul, Nat.reduceSub, Int.reduceToNat, Int.reduceAdd]
    refine opsR_q rfl (q_loadB1 rfl inferInstance rfl) ?_
    simp only [nrm, Nat.reduceAdd, Nat.reduceMul, Nat.reduceSub, Int.reduceToNat, Int.reduceAdd]
    refine opsR_o rfl (o_call rfl ((IntsO_spec (by first | assumption | (refine Sl.mono ?_ (by assumption); exact leA)) (by omega)).toR _ fun vI JI hJI hvI => ?_))
    try dsimp only at hJI hvI
    try (have hrI : Hp.le s.I JI := leA; have hJI := hJI)
    simp only [nrm, Nat.reduceAdd, Nat.reduceMul, Nat.reduceSub, Int.reduceToNat, Int.reduceAdd]
    obtain ⟨AI, cI, rfl, _, _⟩ := hvI.shape
    refine opsR_q rfl (q_fieldAddr rfl) ?_
    simp only [nrm, Nat.reduceAdd, Nat.reduceMul, Nat.reduceSub, Int.reduceToNat, Int.reduceAdd]
    refine opsR_o rfl (o_storeB rfl rfl inferInstance (by first | rfl | assumption) (by first | rfl | exact Kd.one _ (by assumption) | assumption) (by first | rfl | (refine Nat.ble_eq_true_of_le ?_; (try simp only [Int.toNat_natCast]); omega)) ?_)
    simp only [nrm, Nat.reduceAdd, Nat.reduceMul, Nat.reduceSub, Int.reduceToNat, Int.reduceAdd]
    refine opsR_nil ?_
    refine hk38 _ _ ?_
    clear hk38
    refine run_seq fun _ hk41 => ?_
    refine run_drawC mixed 7 (by kernel_rfl) rfl [none, none, some ⟨fun v I => Sl kTerm I v p.Near, fun _ _ _ h1 h2 => Sl.mono h1 h2⟩, none, none, some ⟨fun v I => Sl kTerm I v p.Apart, fun _ _ _ h1 h2 => Sl.mono h1 h2⟩, none] ?_
    simp only [List.take_succ_cons, List.take_zero, List.drop_succ_cons, List.drop_zero, List.drop_nil, List.take_nil, chooseL]
    apply Exists.intro
    apply Exists.intro
    apply Exists.intro
    apply Exists.intro
    apply Exists.intro
    refine obl_q rfl rfl (fun I hI hd => (q_fieldAddr rfl)) ?_
    simp only [nrm, Nat.reduceAdd, Nat.reduceMul, Nat.reduceSub, Int.reduceToNat, Int.reduceAdd]
    refine obl_q rfl rfl (fun I hI hd => (q_loadB1 rfl inferInstance rfl)) ?_
    simp only [nrm, Nat.reduceAdd, Nat.reduceMul, Nat.reduceSub, Int.reduceToNat, Int.reduceAdd]
    refine obl_ex rfl rfl (fun I hI hd K hK => o_call rfl ((terms_spec (by first | assumption | (refine Sl.mono ?_ (by assumption); exact leA)) (by omega)).toR K hK)) fun vN => ?_
    simp only [nrm, Nat.reduceAdd, Nat.reduceMul, Nat.reduceSub, Int.reduceToNat, Int.reduceAdd]
    refine obl_q rfl rfl (fun I hI hd => (q_fieldAddr rfl)) ?_
    simp only [nrm, Nat.reduceAdd, Nat.reduceMul, Nat.reduceSub, Int.reduceToNat, Int.reduceAdd]
    refine obl_q rfl rfl (fun I hI hd => (q_loadB1 rfl inferInstance rfl)) ?_
    simp only [nrm, Nat.reduceAdd, Nat.reduceMul, Nat.reduceSub, Int.reduceToNat, Int.reduceAdd]
    refine obl_ex rfl rfl (fun I hI hd K hK => o_call rfl ((terms_spec (by first | assumption | (refine Sl.mono ?_ (by assumption); exact leA)) (by omega)).toR K hK)) fun vE => ?_
    simp only [nrm, Nat.reduceAdd, Nat.reduceMul, Nat.reduceSub, Int.reduceToNat, Int.reduceAdd]
    refine obl_q rfl rfl (fun I hI hd => (q_fieldAddr rfl)) ?_
    simp only [nrm, Nat.reduceAdd, Nat.reduceMul, Nat.reduceSub, Int.reduceToNat, Int.reduceAdd]
    refine obl_nil (fun I44 hI44 hF44 => ?_)
    simp only [true_and, and_true] at hF44
    obtain ⟨hvN, hvE⟩ := hF44
    obtain ⟨JE, rfl⟩ : ∃ J, J = I44 := ⟨_, rfl⟩
    have hrE : Hp.le s.I JE := by exact leA
    obtain ⟨AN, cN, rfl, _, _⟩ := hvN.shape
    obtain ⟨AE, cE, rfl, _, _⟩ := hvE.shape
    try simp only [nrm, Nat.reduceAdd, Nat.reduceMul, Nat.reduceSub, Int.reduceToNat, Int.reduceAdd]
    refine opsR_o rfl (o_storeB rfl rfl inferInstance (by first | rfl | assumption) (by first | rfl | exact Kd.one _ (by assumption) | assumption) (by first | rfl | (refine Nat.ble_eq_true_of_le ?_; (try simp only [Int.toNat_natCast]); omega)) ?_)
    simp only [nrm, Nat.reduceAdd, Nat.reduceMul, Nat.reduceSub, Int.reduceToNat, Int.reduceAdd]
    refine opsR_q rfl (q_fieldAddr rfl) ?_
    simp only [nrm, Nat.reduceAdd, Nat.reduceMul, Nat.reduceSub, Int.reduceToNat, Int.reduceAdd]
    refine opsR_o rfl (o_storeB rfl rfl inferInstance (by first | rfl | assumption) (by first | rfl | exact Kd.one _ (by assumption) | assumption) (by first | rfl | (refine Nat.ble_eq_true_of_le ?_; (try simp only [Int.toNat_natCast]); omega)) ?_)
    simp only [nrm, Nat.reduceAdd, Nat.reduceMul, Nat.reduceSub, Int.reduceToNat, Int.reduceAdd]
    refine opsR_nil ?_
    refine hk41 _ _ ?_
    clear hk41
    refine run_seq fun _ hk45 => ?_
    refine run_region ?_
    refine opsR_slice0 kSpread rfl fun vV hsV hvV => ?_
    simp only [nrm, Nat.reduceAdd, Nat.reduceMul, Nat.reduceSub, Int.reduceToNat, Int.reduceAdd]
    obtain ⟨AV, cV, rfl⟩ := hvV.shape
    refine opsR_q rfl (q_fieldAddr rfl) ?_
    simp only [nrm, Nat.reduceAdd, Nat.reduceMul, Nat.reduceSub, Int.reduceToNat, Int.reduceAdd]
    refine opsR_o rfl (o_storeB rfl rfl inferInstance (by first | rfl | assumption) (by first | rfl | exact Kd.one _ (by assumption) | assumption) (by first | rfl | (refine Nat.ble_eq_true_of_le ?_; (try simp only [Int.toNat_natCast]); omega)) ?_)
    simp only [nrm, Nat.reduceAdd, Nat.reduceMul, Nat.reduceSub, Int.reduceToNat, Int.reduceAdd]
    simp only [set_app, set_app0, nrm]
    refine opsR_nil ?_
    refine hk45 _ _ ?_
    clear hk45
    refine run_seq fun _ hk47 => ?_
    refine run_seq fun _ hk48 => ?_
    refine run_region ?_
    refine opsR_q rfl (q_assign) ?_
    simp only [nrm]
    refine opsR_nil ?_
    refine hk48 _ _ ?_
    clear hk48
    refine run_block ?_
    refine run_loopF [0, 0, 0, 0, 0, 2, 2, 0, 0, 0, 0, 0, 0, 0, 0, 0, 0, 0, 0, 0, 0, 0, 0, 0, 0, 0, 0, 0, 0, 0, 0, 0, 0, 0, 0, 0, 0, 0, 0, 0, 0, 0, 0, 0, 0, 0, 0, 0, 0, 0, 0, 0, 0, 0, 0, 0, 0, 0, 0, 0, 0, 0, 0, 1, 1, 1, 1, 1, 1, 1, 1, 1, 1, 1, 1, 1, 1, 1, 1, 1, 1, 1, 1, 1, 1, 0, 0, 0, 0, 0] (fun zn zL zst => ∃ (i : Nat) (v' : Value) (z6 : Value) (J : Hp) (hs : (List (Nat × Obj))), zL = [.int .i64 (i : Nat), z6] ∧ ⟨J, hs ++ (bQ, .cells #[.string p.Name, .int .i64 p.Priority, .slice AL p.Labels.length cL, .int .i64 p.Want.CPU, .int .i64 p.Want.Mem, .int .i64 p.Want.Disk, .slice AB p.Bears.length cB, .slice AA p.Asks.length cA, .slice AP p.Prefers.length cP, .slice AI p.Ports.length cI, .slice AN p.Near.length cN, .slice AE p.Apart.length cE, v', p9, .string p.Node, .string p.Hope] 33 (0, 0)) :: (bR, .cells #[.string ⟨#[]⟩, .int .i64 0, .slice none 0 0, .int .i64 0, .int .i64 0, .int .i64 0, .slice none 0 0, .slice none 0 0, .slice none 0 0, .slice none 0 0, .slice none 0 0, .slice none 0 0, .slice none 0 0, .slice none 0 0, .string ⟨#[]⟩, .string ⟨#[]⟩] 33 (0, 0)) :: (bP, .cells #[.string p.Name, .int .i64 p.Priority, p1, .int .i64 p.Want.CPU, .int .i64 p.Want.Mem, .int .i64 p.Want.Disk, p2, p3, p4, p5, p6, p7, p8, p9, .string p.Node, .string p.Hope] 33 (0, 0)) :: s.cs⟩ = zst ∧ zn = p.Spreads.length - i ∧ (i ≤ p.Spreads.length) ∧ (Hp.le JE J) ∧ (OwnS kSpread 66 J v' hs (p.Spreads.take i))) _ _ ⟨0, _, _, JE, _, rfl, rfl, rfl, by first | assumption | omega | exact Hp.le.rfl | rfl | exact all_zero | exact all_succ (by assumption) (by assumption) | (intro _; omega) | (simp; done), by first | assumption | omega | exact Hp.le.rfl | rfl | exact all_zero | exact all_succ (by assumption) (by assumption) | (intro _; omega) | (simp; done), by first | assumption | omega | exact Hp.le.rfl | rfl | exact all_zero | exact all_succ (by assumption) (by assumption) | (intro _; omega) | (simp; done)⟩ rfl ?_
    rintro _ _ _ jv49 ⟨i, v', z6, J, hs, rfl, rfl, rfl, hi, hJ, hO⟩ K49 hkl49
    simp only [fr, Nat.zero_add, Nat.reduceAdd]
    have hrJ : Hp.le s.I J := by exact leA
    have hbi := fun h : i < p.Spreads.length => (mem_bulk (k := kSpread) (mem_get! h))
    have hbr := spread_bulk p.Spreads[i]!
    obtain ⟨AS, cS, rfl⟩ := hO.shape
    refine run_seq fun _ hk50 => ?_
    refine run_seq fun _ hk51 => ?_
    refine run_region ?_
    refine opsR_q rfl (q_move) ?_
    simp only [nrm]
    refine opsR_q rfl (q_fieldAddr rfl) ?_
    simp only [nrm, Nat.reduceAdd, Nat.reduceMul, Nat.reduceSub, Int.reduceToNat, Int.reduceAdd]
    refine opsR_q rfl (q_loadB1 rfl inferInstance rfl) ?_
    simp only [nrm, Nat.reduceAdd, Nat.reduceMul, Nat.reduceSub, Int.reduceToNat, Int.reduceAdd]
    refine opsR_q rfl (q_len_v rfl (by first | exact Sl.len (by assumption) | exact OwnS.len (by assumption) | exact SlR.len (by assumption) | assumption)) ?_
    simp only [nrm, Nat.reduceAdd, Nat.reduceMul, Nat.reduceSub, Int.reduceToNat, Int.reduceAdd]
    refine opsR_q rfl (q_lss rfl rfl) ?_
    simp only [nrm, Nat.reduceAdd, Nat.reduceMul, Nat.reduceSub, Int.reduceToNat, Int.reduceAdd]
    refine opsR_nil ?_
    refine hk51 _ _ ?_
    clear hk51
    refine run_cond rfl (fun ho54 => ?_) (fun ho54 => ?_)
    · have hc54 := ho54; try simp only [spl] at hc54
      refine run_skip ?_
      refine hk50 _ _ ?_
      clear hk50
      refine run_seq fun _ hk55 => ?_
      refine run_block ?_
      refine run_seq fun _ hk56 => ?_
      have hbi := hbi (by omega)
      refine run_region ?_
      refine opsR_q rfl (q_fieldAddr rfl) ?_
      simp only [nrm, Nat.reduceAdd, Nat.reduceMul, Nat.reduceSub, Int.reduceToNat, Int.reduceAdd]
      refine opsR_q rfl (q_loadB1 rfl inferInstance rfl) ?_
      simp only [nrm, Nat.reduceAdd, Nat.reduceMul, Nat.reduceSub, Int.reduceToNat, Int.reduceAdd]
      refine opsR_q rfl (q_move) ?_
      simp only [nrm]
      refine opsR_index rfl rfl rfl slrA (by rfl) idxA idxA fun b57 o57 cs57 ha57 hr57 he57 => ?_
      simp only [nrm, Nat.reduceAdd, Nat.reduceMul, Nat.reduceSub, Int.reduceToNat, Int.reduceAdd]
      try simp only [Int.toNat_natCast, Int.reduceToNat, Int.toNat_zero] at hr57
      try simp only [Int.toNat_natCast, Int.reduceToNat, Int.toNat_zero] at he57
      clear ha57
      obtain ⟨w57_Reqs, rfl, h57_Reqs⟩ := kSpread.open hr57
      refine opsR_q rfl (by first | exact q_load_atW rfl (by first | assumption | exact El.mono (by assumption) leA) (by rfl) rfl | exact q_load_atN0 rfl (by first | assumption | exact El.mono (by assumption) leA) rfl rfl | exact q_load_atN rfl (by first | assumption | exact El.mono (by assumption) leA) rfl (Nat.le_of_ble_eq_true rfl) (Nat.le_of_ble_eq_true rfl)) ?_
      simp only [nrm, Nat.reduceAdd, Nat.reduceMul, Nat.reduceSub, Int.reduceToNat, Int.reduceAdd]
      refine opsR_o rfl (o_alloc fun b58 hb58 => ?_)
      simp only [nrm, Nat.reduceAdd, Nat.reduceMul, Nat.reduceSub, Int.reduceToNat, Int.reduceAdd]
      refine opsR_o rfl (o_storeB rfl rfl inferInstance (by first | rfl | assumption) (by first | rfl | exact Kd.one _ (by assumption) | assumption) (by first | rfl | (refine Nat.ble_eq_true_of_le ?_; (try simp only [Int.toNat_natCast]); omega)) ?_)
      simp only [nrm, Nat.reduceAdd, Nat.reduceMul, Nat.reduceSub, Int.reduceToNat, Int.reduceAdd]
      refine opsR_nil ?_
      refine hk56 _ _ ?_
      clear hk56
      refine run_seq fun _ hk59 => ?_
      refine run_region ?_
      refine opsR_q rfl (q_fieldAddr rfl) ?_
      simp only [nrm, Nat.reduceAdd, Nat.reduceMul, Nat.reduceSub, Int.reduceToNat, Int.reduceAdd]
      refine opsR_q rfl (q_loadB1 rfl inferInstance rfl) ?_
      simp only [nrm, Nat.reduceAdd, Nat.reduceMul, Nat.reduceSub, Int.reduceToNat, Int.reduceAdd]
      refine opsR_o rfl (o_call rfl ((ReqsO_spec (by first | assumption | (refine Sl.mono ?_ (by assumption); exact leA)) (by omega)).toR _ fun vU JU hJU hvU => ?_))
      try dsimp only at hJU hvU
      try (have hrU : Hp.le s.I JU := leA; have hJU := hJU)
      simp only [nrm, Nat.reduceAdd, Nat.reduceMul, Nat.reduceSub, Int.reduceToNat, Int.reduceAdd]
      obtain ⟨AU, cU, rfl, _, _⟩ := hvU.shape
      refine opsR_q rfl (q_fieldAddr rfl) ?_
      simp only [nrm, Nat.reduceAdd, Nat.reduceMul, Nat.reduceSub, Int.reduceToNat, Int.reduceAdd]
      refine opsR_o rfl (o_storeB rfl rfl inferInstance (by first | rfl | assumption) (by first | rfl | exact Kd.one _ (by assumption) | assumption) (by first | rfl | (refine Nat.ble_eq_true_of_le ?_; (try simp only [Int.toNat_natCast]); omega)) ?_)
      simp only [nrm, Nat.reduceAdd, Nat.reduceMul, Nat.reduceSub, Int.reduceToNat, Int.reduceAdd]
      refine opsR_nil ?_
      refine hk59 _ _ ?_
      clear hk59
      refine run_region ?_
      refine opsR_q rfl (q_fieldAddr rfl) ?_
      simp only [nrm, Nat.reduceAdd, Nat.reduceMul, Nat.reduceSub, Int.reduceToNat, Int.reduceAdd]
      refine opsR_q rfl (q_loadB1 rfl inferInstance rfl) ?_
      simp only [nrm, Nat.reduceAdd, Nat.reduceMul, Nat.reduceSub, Int.reduceToNat, Int.reduceAdd]
      refine opsR_q rfl (by first | exact q_loadBN rfl inferInstance (by rfl) | exact q_loadBW rfl inferInstance (by assumption)) ?_
      simp only [nrm, Nat.reduceAdd, Nat.reduceMul, Nat.reduceSub, Int.reduceToNat, Int.reduceAdd]
      refine opsR_slice1 kSpread (w := p.Spreads[i]!) rfl rfl (by rfl) (by decide) (by decide) (by rfl) (by first | rfl | assumption | exact kSpread.shut | (refine Kd.mono _ ?_ (by assumption); exact leA) | (apply kSpread.shut <;> assumption)) fun v63 hs63 hv63 => ?_
      simp only [nrm, Nat.reduceAdd, Nat.reduceMul, Nat.reduceSub, Int.reduceToNat, Int.reduceAdd]
      refine opsR_app rfl rfl rfl (by first | assumption | (refine OwnS.mono ?_ (by assumption); exact leA)) (by infer_instance) slrA (by rfl) (by rfl) rfl rfl idxA fun vY hsY hvY => ?_
      simp only [nrm, Nat.reduceAdd, Nat.reduceMul, Nat.reduceSub, Int.reduceToNat, Int.reduceAdd]
      refine opsR_dropS (hs := hs63) ?_
      try simp only [nrm, Nat.reduceAdd, Nat.reduceMul, Nat.reduceSub, Int.reduceToNat, Int.reduceAdd]
      obtain ⟨AY, cY, rfl⟩ := hvY.shape
      refine opsR_q rfl (q_fieldAddr rfl) ?_
      simp only [nrm, Nat.reduceAdd, Nat.reduceMul, Nat.reduceSub, Int.reduceToNat, Int.reduceAdd]
      refine opsR_o rfl (o_storeB rfl rfl inferInstance (by first | rfl | assumption) (by first | rfl | exact Kd.one _ (by assumption) | assumption) (by first | rfl | (refine Nat.ble_eq_true_of_le ?_; (try simp only [Int.toNat_natCast]); omega)) ?_)
      simp only [nrm, Nat.reduceAdd, Nat.reduceMul, Nat.reduceSub, Int.reduceToNat, Int.reduceAdd]
      simp only [set_app, set_app0, nrm]
      refine opsR_nil ?_
      refine hk55 _ _ ?_
      clear hk55
      refine run_gh Gh.drop ?_
      refine run_region ?_
      refine opsR_q rfl (q_move) ?_
      simp only [nrm]
      refine opsR_q rfl (by first | exact q_add64 rfl rfl (by omega) (by omega) | exact q_add rfl rfl) ?_
      simp only [nrm, Nat.reduceAdd, Nat.reduceMul, Nat.reduceSub, Int.reduceToNat, Int.reduceAdd]
      refine opsR_q rfl (q_assign) ?_
      simp only [nrm]
      refine opsR_nil ?_
      first
      | exact hkl49 _ _ _ _ (by omega) ⟨i + 1, _, _, _, _, rfl, rfl, rfl, by first | omega | exact OwnS.cast (by assumption) rfl | exact OwnS.cast (by assumption) (take_succ! (by omega)).symm | exact leA, by first | omega | exact OwnS.cast (by assumption) rfl | exact OwnS.cast (by assumption) (take_succ! (by omega)).symm | exact leA, by first | omega | exact OwnS.cast (by assumption) rfl | exact OwnS.cast (by assumption) (take_succ! (by omega)).symm | exact leA⟩ rfl
    · have hc54 := ho54; try simp only [spl] at hc54
      refine run_exit ?_
      refine hk47 _ _ ?_
      clear hk47
      refine run_seq fun _ hk65 => ?_
      have eL : (p.Spreads.take i).length = p.Spreads.length := by rw [List.length_take]; omega
      have hO := OwnS.cast hO (take_all (by omega))
      rw [eL] at hO ⊢
      refine run_freeze (A := []) hO rfl fun JS hJS hvS => ?_
      have hrS2 : Hp.le JE JS := hJ.trans hJS
      have hrS : Hp.le s.I JS := hrJ.trans hJS
      refine run_region ?_
      refine opsR_q rfl (q_fieldAddr rfl) ?_
      simp only [nrm, Nat.reduceAdd, Nat.reduceMul, Nat.reduceSub, Int.reduceToNat, Int.reduceAdd]
      refine opsR_q rfl (q_loadB1 rfl inferInstance rfl) ?_
      simp only [nrm, Nat.reduceAdd, Nat.reduceMul, Nat.reduceSub, Int.reduceToNat, Int.reduceAdd]
      refine opsR_o rfl (o_call rfl ((TextsO_spec (by first | assumption | (refine Sl.mono ?_ (by assumption); exact leA)) (by omega)).toR _ fun vT JT hJT hvT => ?_))
      try dsimp only at hJT hvT
      try (have hrT : Hp.le s.I JT := leA; have hJT := hJT)
      simp only [nrm, Nat.reduceAdd, Nat.reduceMul, Nat.reduceSub, Int.reduceToNat, Int.reduceAdd]
      obtain ⟨AT, cT, rfl, _, _⟩ := hvT.shape
      refine opsR_q rfl (q_fieldAddr rfl) ?_
      simp only [nrm, Nat.reduceAdd, Nat.reduceMul, Nat.reduceSub, Int.reduceToNat, Int.reduceAdd]
      refine opsR_o rfl (o_storeB rfl rfl inferInstance (by first | rfl | assumption) (by first | rfl | exact Kd.one _ (by assumption) | assumption) (by first | rfl | (refine Nat.ble_eq_true_of_le ?_; (try simp only [Int.toNat_natCast]); omega)) ?_)
      simp only [nrm, Nat.reduceAdd, Nat.reduceMul, Nat.reduceSub, Int.reduceToNat, Int.reduceAdd]
      refine opsR_nil ?_
      refine hk65 _ _ ?_
      clear hk65
      refine run_seq fun _ hk68 => ?_
      refine run_region ?_
      refine opsR_q rfl (by first | exact q_loadBN rfl inferInstance (by rfl) | exact q_loadBW rfl inferInstance (by assumption)) ?_
      simp only [nrm, Nat.reduceAdd, Nat.reduceMul, Nat.reduceSub, Int.reduceToNat, Int.reduceAdd]
      refine opsR_o rfl (o_storeB rfl rfl inferInstance (by first | rfl | assumption) (by first | rfl | exact Kd.one _ (by assumption) | assumption) (by first | rfl | (refine Nat.ble_eq_true_of_le ?_; (try simp only [Int.toNat_natCast]); omega)) ?_)
      simp only [nrm, Nat.reduceAdd, Nat.reduceMul, Nat.reduceSub, Int.reduceToNat, Int.reduceAdd]
      refine opsR_nil ?_
      refine hk68 _ _ ?_
      clear hk68
      refine run_ret ?_
      have e7 : Hp.le JE JT := hrS2.trans (by assumption)
      have e6 : Hp.le JI JT := Hp.le.trans (by assumption) e7
      have e5 : Hp.le JP JT := Hp.le.trans (by assumption) e6
      have e4 : Hp.le JA JT := hrAP.trans e5
      have e3 : Hp.le JFB JT := Hp.le.trans (by assumption) e4
      have e2 : Hp.le JL JT := Hp.le.trans (by assumption) e3
      have e8 : Hp.le JS JT := by assumption
      exact end_cell rfl rfl rfl (AtB.has inferInstance) (by first | rfl | assumption) (by exact ghA) (hK _ _ (by assumption) ⟨_, rfl, kPod.shut (hLabels := hvL.mono e2) (hBears := hvB.mono e3) (hAsks := hvA.mono e4) (hPrefers := hvP.mono e5) (hPorts := hvI.mono e6) (hNear := hvN.mono e7) (hApart := hvE.mono e7) (hSpreads := hvS.mono e8) (hClaims := hvT)⟩)
end
section
attribute [local irreducible] Quiet OpsR Run CallS opS Gh endQ oblE RunN swp Go.Op.equalIn
theorem sameTerms_spec {l : List Term} {v u : Value} {s : St} (hl : Sl kTerm s.I v l) (hm : Sl kTerm s.I u l) : CallV Tryz.prog 36 #[v, u] s (.bool true) := by
  intro K hK
  have hle := hl.len.le
  refine callS_of_run Tryz.func36 rfl ?_; simp only [Tryz.ntmps36, List.size_toArray, List.length_cons, List.length_nil, Nat.reduceAdd, Nat.reduceSub, Array.replicate_succ, Array.replicate_zero, List.push_toArray, List.append_toArray, List.nil_append, List.cons_append]
  refine run_seq fun _ hk1 => ?_
  refine run_region ?_
  refine opsR_q rfl (q_assign) ?_
  simp only [nrm]
  refine opsR_nil ?_
  refine hk1 _ _ ?_
  clear hk1
  refine run_seq fun _ hk2 => ?_
  refine run_seq fun _ hk3 => ?_
  refine run_region ?_
  refine opsR_q rfl (q_move) ?_
  simp only [nrm]
  refine opsR_q rfl (q_len_v rfl (by first | exact Sl.len (by assumption) | exact OwnS.len (by assumption) | exact SlR.len (by assumption) | assumption)) ?_
  simp only [nrm, Nat.reduceAdd, Nat.reduceMul, Nat.reduceSub, Int.reduceToNat, Int.reduceAdd]
  refine opsR_q rfl (q_move) ?_
  simp only [nrm]
  refine opsR_q rfl (q_len_v rfl (by first | exact Sl.len (by assumption) | exact OwnS.len (by assumption) | exact SlR.len (by assumption) | assumption)) ?_
  simp only [nrm, Nat.reduceAdd, Nat.reduceMul, Nat.reduceSub, Int.reduceToNat, Int.reduceAdd]
  refine opsR_q rfl (q_neq rfl rfl) ?_
  simp only [nrm, Nat.reduceAdd, Nat.reduceMul, Nat.reduceSub, Int.reduceToNat, Int.reduceAdd]
  refine opsR_nil ?_
  refine hk3 _ _ ?_
  clear hk3
  refine run_cond rfl (fun ho6 => ?_) (fun ho6 => ?_)
  · have hc6 := ho6; try simp only [spl] at hc6
    refine run_seq fun _ hk7 => ?_
    first | exact absurd rfl hc6 | exact absurd trivial hc6 | exact absurd hc6 (by simp)
  · have hc6 := ho6; try simp only [spl] at hc6
    refine run_skip ?_
    refine hk2 _ _ ?_
    clear hk2
    refine run_seq fun _ hk8 => ?_
    refine run_seq fun _ hk9 => ?_
    refine run_region ?_
    refine opsR_q rfl (q_assign) ?_
    simp only [nrm]
    refine opsR_nil ?_
    refine hk9 _ _ ?_
    clear hk9
    refine run_block ?_
    refine run_loopF [0, 0, 0, 0, 1, 2, 0, 0, 0, 0, 0, 1, 1, 1, 1, 1, 1, 1, 1, 1, 1, 1, 1, 1, 1, 1, 1, 1, 1, 1, 1, 1, 1, 1, 1, 1, 1, 1, 1, 1, 1, 1] (fun zn zL zst => ∃ (i : Nat), zL = [.int .i64 (i : Nat)] ∧ s = zst ∧ zn = l.length - i ∧ (i ≤ l.length)) _ _ ⟨0, rfl, rfl, rfl, by first | assumption | omega | exact Hp.le.rfl | rfl | exact all_zero | exact all_succ (by assumption) (by assumption) | (intro _; omega) | (simp; done)⟩ rfl ?_
    rintro _ _ _ jv10 ⟨i, rfl, rfl, rfl, hi⟩ K10 hkl10
    simp only [fr, Nat.zero_add, Nat.reduceAdd]
    refine run_seq fun _ hk11 => ?_
    refine run_seq fun _ hk12 => ?_
    refine run_region ?_
    refine opsR_q rfl (q_move) ?_
    simp only [nrm]
    refine opsR_q rfl (q_move) ?_
    simp only [nrm]
    refine opsR_q rfl (q_len_v rfl (by first | exact Sl.len (by assumption) | exact OwnS.len (by assumption) | exact SlR.len (by assumption) | assumption)) ?_
    simp only [nrm, Nat.reduceAdd, Nat.reduceMul, Nat.reduceSub, Int.reduceToNat, Int.reduceAdd]
    refine opsR_q rfl (q_lss rfl rfl) ?_
    simp only [nrm, Nat.reduceAdd, Nat.reduceMul, Nat.reduceSub, Int.reduceToNat, Int.reduceAdd]
    refine opsR_nil ?_
    refine hk12 _ _ ?_
    clear hk12
    refine run_cond rfl (fun ho15 => ?_) (fun ho15 => ?_)
    · have hc15 := ho15; try simp only [spl] at hc15
      refine run_skip ?_
      refine hk11 _ _ ?_
      clear hk11
      refine run_seq fun _ hk16 => ?_
      refine run_block ?_
      refine run_seq fun _ hk17 => ?_
      refine run_drawE mixed 25 (by kernel_rfl) rfl ?_
      simp only [List.take_succ_cons, List.take_zero, List.drop_succ_cons, List.drop_zero, List.drop_nil, List.take_nil]
      refine oblE_q rfl (fun I hI => (q_move)) ?_
      simp only [nrm]
      refine oblE_q rfl (fun I hI => (q_move)) ?_
      simp only [nrm]
      refine oblE_index rfl rfl rfl slrA (by rfl) idxA idxA fun b18 o18 cs18 ha18 hr18 he18 => ?_
      simp only [nrm, Nat.reduceAdd, Nat.reduceMul, Nat.reduceSub, Int.reduceToNat, Int.reduceAdd]
      try simp only [Int.toNat_natCast, Int.reduceToNat, Int.toNat_zero] at hr18
      try simp only [Int.toNat_natCast, Int.reduceToNat, Int.toNat_zero] at he18
      clear ha18
      obtain ⟨w18_Reqs, rfl, h18_Reqs⟩ := kTerm.open hr18
      refine oblE_q rfl (fun I hI => (q_fieldAddr rfl)) ?_
      simp only [nrm, Nat.reduceAdd, Nat.reduceMul, Nat.reduceSub, Int.reduceToNat, Int.reduceAdd]
      refine oblE_q rfl (fun I hI => (by first | exact q_load_at1 (i := 0) rfl (El.mono (by assumption) hI) rfl (Nat.le_of_ble_eq_true rfl) rfl | exact q_load_at1 rfl (El.mono (by assumption) hI) rfl (Nat.le_of_ble_eq_true rfl) rfl)) ?_
      simp only [nrm, Nat.reduceAdd, Nat.reduceMul, Nat.reduceSub, Int.reduceToNat, Int.reduceAdd]
      refine oblE_q rfl (fun I hI => (q_move)) ?_
      simp only [nrm]
      refine oblE_q rfl (fun I hI => (q_move)) ?_
      simp only [nrm]
      refine oblE_index rfl rfl rfl slrA (by rfl) idxA idxA fun b20 o20 cs20 ha20 hr20 he20 => ?_
      simp only [nrm, Nat.reduceAdd, Nat.reduceMul, Nat.reduceSub, Int.reduceToNat, Int.reduceAdd]
      try simp only [Int.toNat_natCast, Int.reduceToNat, Int.toNat_zero] at hr20
      try simp only [Int.toNat_natCast, Int.reduceToNat, Int.toNat_zero] at he20
      clear ha20
      obtain ⟨w20_Reqs, rfl, h20_Reqs⟩ := kTerm.open hr20
      refine oblE_q rfl (fun I hI => (q_fieldAddr rfl)) ?_
      simp only [nrm, Nat.reduceAdd, Nat.reduceMul, Nat.reduceSub, Int.reduceToNat, Int.reduceAdd]
      refine oblE_q rfl (fun I hI => (by first | exact q_load_at1 (i := 0) rfl (El.mono (by assumption) hI) rfl (Nat.le_of_ble_eq_true rfl) rfl | exact q_load_at1 rfl (El.mono (by assumption) hI) rfl (Nat.le_of_ble_eq_true rfl) rfl)) ?_
      simp only [nrm, Nat.reduceAdd, Nat.reduceMul, Nat.reduceSub, Int.reduceToNat, Int.reduceAdd]
      refine oblE_q rfl (fun I hI => (q_neq_string rfl rfl)) ?_
      simp only [nrm, Nat.reduceAdd, Nat.reduceMul, Nat.reduceSub, Int.reduceToNat, Int.reduceAdd]
      refine oblE_qb rfl (fun I hI => (q_move)) (fun h => absurd h (by simp)) (fun _ => ?_)
      simp only [nrm, Nat.reduceAdd, Nat.reduceMul, Nat.reduceSub, Int.reduceToNat, Int.reduceAdd]
      refine oblE_q rfl (fun I hI => (q_move)) ?_
      simp only [nrm]
      refine oblE_q rfl (fun I hI => (q_move)) ?_
      simp only [nrm]
      refine oblE_index rfl rfl rfl slrA (by rfl) idxA idxA fun b21 o21 cs21 ha21 hr21 he21 => ?_
      simp only [nrm, Nat.reduceAdd, Nat.reduceMul, Nat.reduceSub, Int.reduceToNat, Int.reduceAdd]
      try simp only [Int.toNat_natCast, Int.reduceToNat, Int.toNat_zero] at hr21
      try simp only [Int.toNat_natCast, Int.reduceToNat, Int.toNat_zero] at he21
      clear ha21
      obtain ⟨w21_Reqs, rfl, h21_Reqs⟩ := kTerm.open hr21
      refine oblE_q rfl (fun I hI => (q_fieldAddr rfl)) ?_
      simp only [nrm, Nat.reduceAdd, Nat.reduceMul, Nat.reduceSub, Int.reduceToNat, Int.reduceAdd]
      refine oblE_q rfl (fun I hI => (by first | exact q_load_at1 (i := 0) rfl (El.mono (by assumption) hI) rfl (Nat.le_of_ble_eq_true rfl) rfl | exact q_load_at1 rfl (El.mono (by assumption) hI) rfl (Nat.le_of_ble_eq_true rfl) rfl)) ?_
      simp only [nrm, Nat.reduceAdd, Nat.reduceMul, Nat.reduceSub, Int.reduceToNat, Int.reduceAdd]
      refine oblE_q rfl (fun I hI => (q_move)) ?_
      simp only [nrm]
      refine oblE_q rfl (fun I hI => (q_move)) ?_
      simp only [nrm]
      refine oblE_index rfl rfl rfl slrA (by rfl) idxA idxA fun b22 o22 cs22 ha22 hr22 he22 => ?_
      simp only [nrm, Nat.reduceAdd, Nat.reduceMul, Nat.reduceSub, Int.reduceToNat, Int.reduceAdd]
      try simp only [Int.toNat_natCast, Int.reduceToNat, Int.toNat_zero] at hr22
      try simp only [Int.toNat_natCast, Int.reduceToNat, Int.toNat_zero] at he22
      clear ha22
      obtain ⟨w22_Reqs, rfl, h22_Reqs⟩ := kTerm.open hr22
      refine oblE_q rfl (fun I hI => (q_fieldAddr rfl)) ?_
      simp only [nrm, Nat.reduceAdd, Nat.reduceMul, Nat.reduceSub, Int.reduceToNat, Int.reduceAdd]
      refine oblE_q rfl (fun I hI => (by first | exact q_load_at1 (i := 0) rfl (El.mono (by assumption) hI) rfl (Nat.le_of_ble_eq_true rfl) rfl | exact q_load_at1 rfl (El.mono (by assumption) hI) rfl (Nat.le_of_ble_eq_true rfl) rfl)) ?_
      simp only [nrm, Nat.reduceAdd, Nat.reduceMul, Nat.reduceSub, Int.reduceToNat, Int.reduceAdd]
      refine oblE_q rfl (fun I hI => (q_call rfl (SameReqs_spec (by first | assumption | (refine Sl.mono ?_ (by assumption); exact leA)) (by first | assumption | (refine Sl.mono ?_ (by assumption); exact leA))))) ?_
      simp only [nrm, Nat.reduceAdd, Nat.reduceMul, Nat.reduceSub, Int.reduceToNat, Int.reduceAdd]
      refine oblE_q rfl (fun I hI => (q_not rfl)) ?_
      simp only [nrm]
      refine oblE_q rfl (fun I hI => (q_pick_f rfl)) ?_
      simp only [nrm]
      refine oblE_nil (show OpsR _ _ _ _ _ _ from ?_)
      try simp only [nrm, Nat.reduceAdd, Nat.reduceMul, Nat.reduceSub, Int.reduceToNat, Int.reduceAdd]
      refine opsR_nil ?_
      refine hk17 _ _ ?_
      clear hk17
      refine run_cond rfl (fun ho23 => ?_) (fun ho23 => ?_)
      · have hc23 := ho23; try simp only [spl] at hc23
        refine run_seq fun _ hk24 => ?_
        first | exact absurd rfl hc23 | exact absurd trivial hc23 | exact absurd hc23 (by simp)
      · have hc23 := ho23; try simp only [spl] at hc23
        refine run_skip ?_
        refine hk16 _ _ ?_
        clear hk16
        refine run_region ?_
        refine opsR_q rfl (q_move) ?_
        simp only [nrm]
        refine opsR_q rfl (by first | exact q_add64 rfl rfl (by omega) (by omega) | exact q_add rfl rfl) ?_
        simp only [nrm, Nat.reduceAdd, Nat.reduceMul, Nat.reduceSub, Int.reduceToNat, Int.reduceAdd]
        refine opsR_q rfl (q_assign) ?_
        simp only [nrm]
        refine opsR_nil ?_
        first
        | exact hkl10 _ _ _ _ (by omega) ⟨i + 1, rfl, rfl, rfl, by first | assumption | omega | exact Hp.le.rfl | rfl | exact all_zero | exact all_succ (by assumption) (by assumption) | (intro _; omega) | (simp; done)⟩ rfl
    · have hc15 := ho15; try simp only [spl] at hc15
      refine run_exit ?_
      refine hk8 _ _ ?_
      clear hk8
      refine run_seq fun _ hk25 => ?_
      refine run_region ?_
      refine opsR_q rfl (q_assign) ?_
      simp only [nrm]
      refine opsR_nil ?_
      refine hk25 _ _ ?_
      clear hk25
      refine run_ret ?_
      exact end_tmp rfl rfl rfl ghA hK
set_option maxHeartbeats 4000000 in
set_option maxRecDepth 20000 in
theorem SamePod_spec {p : Pod} {ca cb : List Value} {s : St} (ha : kPod.rep s.I p ca) (hb : kPod.rep s.I p cb) : CallV Tryz.prog 15 #[.agg ca.toArray, .agg cb.toArray] s (.bool true) := by
  intro K hK
  obtain ⟨p1, p2, p3, p4, p5, p6, p7, p8, p9, rfl, g1, g2, g3, g4, g5, g6, g7, g8, g9⟩ := kPod.open ha
  obtain ⟨q1, q2, q3, q4, q5, q6, q7, q8, q9, rfl, h1, h2, h3, h4, h5, h6, h7, h8, h9⟩ := kPod.open hb
  have le2 := g2.len.le; have le4 := g4.len.le; have le8 := g8.len.le
  refine callS_of_run Tryz.func15 rfl ?_; simp only [Tryz.ntmps15, List.size_toArray, List.length_cons, List.length_nil, Nat.reduceAdd, Nat.reduceSub, Array.replicate_succ, Array.replicate_zero, List.push_toArray, List.append_toArray, List.nil_append, List.cons_append]
  refine run_seq fun _ hk1 => ?_
  refine run_region ?_
  refine opsR_o rfl (o_box fun bA hbA => ?_)
  simp only [nrm, Nat.reduceAdd, Nat.reduceMul, Nat.reduceSub, Int.reduceToNat, Int.reduceAdd]
  refine opsR_o rfl (o_box fun bB hbB => ?_)
  simp only [nrm, Nat.reduceAdd, Nat.reduceMul, Nat.reduceSub, Int.reduceToNat, Int.reduceAdd]
  refine opsR_q rfl (q_assign) ?_
  simp only [nrm]
  refine opsR_nil ?_
  refine hk1 _ _ ?_
  clear hk1
  refine run_seq fun _ hk4 => ?_
  refine run_seq fun _ hk5 => ?_
  refine run_region ?_
  refine opsR_q rfl (q_fieldAddr rfl) ?_
  simp only [nrm, Nat.reduceAdd, Nat.reduceMul, Nat.reduceSub, Int.reduceToNat, Int.reduceAdd]
  refine opsR_q rfl (q_loadB1 rfl inferInstance rfl) ?_
  simp only [nrm, Nat.reduceAdd, Nat.reduceMul, Nat.reduceSub, Int.reduceToNat, Int.reduceAdd]
  refine opsR_q rfl (q_fieldAddr rfl) ?_
  simp only [nrm, Nat.reduceAdd, Nat.reduceMul, Nat.reduceSub, Int.reduceToNat, Int.reduceAdd]
  refine opsR_q rfl (q_loadB1 rfl inferInstance rfl) ?_
  simp only [nrm, Nat.reduceAdd, Nat.reduceMul, Nat.reduceSub, Int.reduceToNat, Int.reduceAdd]
  refine opsR_q rfl (q_neq_string rfl rfl) ?_
  simp only [nrm, Nat.reduceAdd, Nat.reduceMul, Nat.reduceSub, Int.reduceToNat, Int.reduceAdd]
  refine opsR_qb rfl (q_move) (fun h => absurd h (by simp)) (fun _ => ?_)
  simp only [nrm, Nat.reduceAdd, Nat.reduceMul, Nat.reduceSub, Int.reduceToNat, Int.reduceAdd]
  refine opsR_q rfl (q_fieldAddr rfl) ?_
  simp only [nrm, Nat.reduceAdd, Nat.reduceMul, Nat.reduceSub, Int.reduceToNat, Int.reduceAdd]
  refine opsR_q rfl (q_loadB1 rfl inferInstance rfl) ?_
  simp only [nrm, Nat.reduceAdd, Nat.reduceMul, Nat.reduceSub, Int.reduceToNat, Int.reduceAdd]
  refine opsR_q rfl (q_fieldAddr rfl) ?_
  simp only [nrm, Nat.reduceAdd, Nat.reduceMul, Nat.reduceSub, Int.reduceToNat, Int.reduceAdd]
  refine opsR_q rfl (q_loadB1 rfl inferInstance rfl) ?_
  simp only [nrm, Nat.reduceAdd, Nat.reduceMul, Nat.reduceSub, Int.reduceToNat, Int.reduceAdd]
  refine opsR_q rfl (q_neq rfl rfl) ?_
  simp only [nrm, Nat.reduceAdd, Nat.reduceMul, Nat.reduceSub, Int.reduceToNat, Int.reduceAdd]
  refine opsR_q rfl (q_pick_f rfl) ?_
  simp only [nrm]
  refine opsR_qb rfl (q_move) (fun h => absurd h (by simp)) (fun _ => ?_)
  simp only [nrm, Nat.reduceAdd, Nat.reduceMul, Nat.reduceSub, Int.reduceToNat, Int.reduceAdd]
  refine opsR_q rfl (q_fieldAddr rfl) ?_
  simp only [nrm, Nat.reduceAdd, Nat.reduceMul, Nat.reduceSub, Int.reduceToNat, Int.reduceAdd]
  refine opsR_q rfl (by first | exact q_loadBN rfl inferInstance (by rfl) | exact q_loadBW rfl inferInstance (by assumption)) ?_
  simp only [nrm, Nat.reduceAdd, Nat.reduceMul, Nat.reduceSub, Int.reduceToNat, Int.reduceAdd]
  refine opsR_q rfl (q_fieldAddr rfl) ?_
  simp only [nrm, Nat.reduceAdd, Nat.reduceMul, Nat.reduceSub, Int.reduceToNat, Int.reduceAdd]
  refine opsR_q rfl (by first | exact q_loadBN rfl inferInstance (by rfl) | exact q_loadBW rfl inferInstance (by assumption)) ?_
  simp only [nrm, Nat.reduceAdd, Nat.reduceMul, Nat.reduceSub, Int.reduceToNat, Int.reduceAdd]
  refine opsR_q rfl (q_neq_agg rfl rfl (fun m K h => kRes.eqL (m + 6) h)) ?_
  simp only [nrm, Nat.reduceAdd, Nat.reduceMul, Nat.reduceSub, Int.reduceToNat, Int.reduceAdd]
  refine opsR_q rfl (q_pick_f rfl) ?_
  simp only [nrm]
  refine opsR_qb rfl (q_move) (fun h => absurd h (by simp)) (fun _ => ?_)
  simp only [nrm, Nat.reduceAdd, Nat.reduceMul, Nat.reduceSub, Int.reduceToNat, Int.reduceAdd]
  refine opsR_q rfl (q_fieldAddr rfl) ?_
  simp only [nrm, Nat.reduceAdd, Nat.reduceMul, Nat.reduceSub, Int.reduceToNat, Int.reduceAdd]
  refine opsR_q rfl (q_loadB1 rfl inferInstance rfl) ?_
  simp only [nrm, Nat.reduceAdd, Nat.reduceMul, Nat.reduceSub, Int.reduceToNat, Int.reduceAdd]
  refine opsR_q rfl (q_fieldAddr rfl) ?_
  simp only [nrm, Nat.reduceAdd, Nat.reduceMul, Nat.reduceSub, Int.reduceToNat, Int.reduceAdd]
  refine opsR_q rfl (q_loadB1 rfl inferInstance rfl) ?_
  simp only [nrm, Nat.reduceAdd, Nat.reduceMul, Nat.reduceSub, Int.reduceToNat, Int.reduceAdd]
  refine opsR_q rfl (q_neq_string rfl rfl) ?_
  simp only [nrm, Nat.reduceAdd, Nat.reduceMul, Nat.reduceSub, Int.reduceToNat, Int.reduceAdd]
  refine opsR_q rfl (q_pick_f rfl) ?_
  simp only [nrm]
  refine opsR_qb rfl (q_move) (fun h => absurd h (by simp)) (fun _ => ?_)
  simp only [nrm, Nat.reduceAdd, Nat.reduceMul, Nat.reduceSub, Int.reduceToNat, Int.reduceAdd]
  refine opsR_q rfl (q_fieldAddr rfl) ?_
  simp only [nrm, Nat.reduceAdd, Nat.reduceMul, Nat.reduceSub, Int.reduceToNat, Int.reduceAdd]
  refine opsR_q rfl (q_loadB1 rfl inferInstance rfl) ?_
  simp only [nrm, Nat.reduceAdd, Nat.reduceMul, Nat.reduceSub, Int.reduceToNat, Int.reduceAdd]
  refine opsR_q rfl (q_fieldAddr rfl) ?_
  simp only [nrm, Nat.reduceAdd, Nat.reduceMul, Nat.reduceSub, Int.reduceToNat, Int.reduceAdd]
  refine opsR_q rfl (q_loadB1 rfl inferInstance rfl) ?_
  simp only [nrm, Nat.reduceAdd, Nat.reduceMul, Nat.reduceSub, Int.reduceToNat, Int.reduceAdd]
  refine opsR_q rfl (q_neq_string rfl rfl) ?_
  simp only [nrm, Nat.reduceAdd, Nat.reduceMul, Nat.reduceSub, Int.reduceToNat, Int.reduceAdd]
  refine opsR_q rfl (q_pick_f rfl) ?_
  simp only [nrm]
  refine opsR_qb rfl (q_move) (fun h => absurd h (by simp)) (fun _ => ?_)
  simp only [nrm, Nat.reduceAdd, Nat.reduceMul, Nat.reduceSub, Int.reduceToNat, Int.reduceAdd]
  refine opsR_q rfl (q_fieldAddr rfl) ?_
  simp only [nrm, Nat.reduceAdd, Nat.reduceMul, Nat.reduceSub, Int.reduceToNat, Int.reduceAdd]
  refine opsR_q rfl (q_loadB1 rfl inferInstance rfl) ?_
  simp only [nrm, Nat.reduceAdd, Nat.reduceMul, Nat.reduceSub, Int.reduceToNat, Int.reduceAdd]
  refine opsR_q rfl (q_fieldAddr rfl) ?_
  simp only [nrm, Nat.reduceAdd, Nat.reduceMul, Nat.reduceSub, Int.reduceToNat, Int.reduceAdd]
  refine opsR_q rfl (q_loadB1 rfl inferInstance rfl) ?_
  simp only [nrm, Nat.reduceAdd, Nat.reduceMul, Nat.reduceSub, Int.reduceToNat, Int.reduceAdd]
  refine opsR_q rfl (q_call rfl (SameLabels_spec (by first | assumption | (refine Sl.mono ?_ (by assumption); exact leA)) (by first | assumption | (refine Sl.mono ?_ (by assumption); exact leA)))) ?_
  simp only [nrm, Nat.reduceAdd, Nat.reduceMul, Nat.reduceSub, Int.reduceToNat, Int.reduceAdd]
  refine opsR_q rfl (q_not rfl) ?_
  simp only [nrm]
  refine opsR_q rfl (q_pick_f rfl) ?_
  simp only [nrm]
  refine opsR_qb rfl (q_move) (fun h => absurd h (by simp)) (fun _ => ?_)
  simp only [nrm, Nat.reduceAdd, Nat.reduceMul, Nat.reduceSub, Int.reduceToNat, Int.reduceAdd]
  refine opsR_q rfl (q_fieldAddr rfl) ?_
  simp only [nrm, Nat.reduceAdd, Nat.reduceMul, Nat.reduceSub, Int.reduceToNat, Int.reduceAdd]
  refine opsR_q rfl (q_loadB1 rfl inferInstance rfl) ?_
  simp only [nrm, Nat.reduceAdd, Nat.reduceMul, Nat.reduceSub, Int.reduceToNat, Int.reduceAdd]
  refine opsR_q rfl (q_fieldAddr rfl) ?_
  simp only [nrm, Nat.reduceAdd, Nat.reduceMul, Nat.reduceSub, Int.reduceToNat, Int.reduceAdd]
  refine opsR_q rfl (q_loadB1 rfl inferInstance rfl) ?_
  simp only [nrm, Nat.reduceAdd, Nat.reduceMul, Nat.reduceSub, Int.reduceToNat, Int.reduceAdd]
  refine opsR_q rfl (q_call rfl (SameReqs_spec (by first | assumption | (refine Sl.mono ?_ (by assumption); exact leA)) (by first | assumption | (refine Sl.mono ?_ (by assumption); exact leA)))) ?_
  simp only [nrm, Nat.reduceAdd, Nat.reduceMul, Nat.reduceSub, Int.reduceToNat, Int.reduceAdd]
  refine opsR_q rfl (q_not rfl) ?_
  simp only [nrm]
  refine opsR_q rfl (q_pick_f rfl) ?_
  simp only [nrm]
  refine opsR_qb rfl (q_move) (fun h => absurd h (by simp)) (fun _ => ?_)
  simp only [nrm, Nat.reduceAdd, Nat.reduceMul, Nat.reduceSub, Int.reduceToNat, Int.reduceAdd]
  refine opsR_q rfl (q_fieldAddr rfl) ?_
  simp only [nrm, Nat.reduceAdd, Nat.reduceMul, Nat.reduceSub, Int.reduceToNat, Int.reduceAdd]
  refine opsR_q rfl (q_loadB1 rfl inferInstance rfl) ?_
  simp only [nrm, Nat.reduceAdd, Nat.reduceMul, Nat.reduceSub, Int.reduceToNat, Int.reduceAdd]
  refine opsR_q rfl (q_fieldAddr rfl) ?_
  simp only [nrm, Nat.reduceAdd, Nat.reduceMul, Nat.reduceSub, Int.reduceToNat, Int.reduceAdd]
  refine opsR_q rfl (q_loadB1 rfl inferInstance rfl) ?_
  simp only [nrm, Nat.reduceAdd, Nat.reduceMul, Nat.reduceSub, Int.reduceToNat, Int.reduceAdd]
  refine opsR_q rfl (q_call rfl (SameInts_spec _ _ _ _ _ (by first | assumption | (refine Sl.mono ?_ (by assumption); exact leA)) (by first | assumption | (refine Sl.mono ?_ (by assumption); exact leA)))) ?_
  simp only [nrm, Nat.reduceAdd, Nat.reduceMul, Nat.reduceSub, Int.reduceToNat, Int.reduceAdd]
  refine opsR_q rfl (q_not rfl) ?_
  simp only [nrm]
  refine opsR_q rfl (q_pick_f rfl) ?_
  simp only [nrm]
  refine opsR_qb rfl (q_move) (fun h => absurd h (by simp)) (fun _ => ?_)
  simp only [nrm, Nat.reduceAdd, Nat.reduceMul, Nat.reduceSub, Int.reduceToNat, Int.reduceAdd]
  refine opsR_q rfl (q_fieldAddr rfl) ?_
  simp only [nrm, Nat.reduceAdd, Nat.reduceMul, Nat.reduceSub, Int.reduceToNat, Int.reduceAdd]
  refine opsR_q rfl (q_loadB1 rfl inferInstance rfl) ?_
  simp only [nrm, Nat.reduceAdd, Nat.reduceMul, Nat.reduceSub, Int.reduceToNat, Int.reduceAdd]
  refine opsR_q rfl (q_fieldAddr rfl) ?_
  simp only [nrm, Nat.reduceAdd, Nat.reduceMul, Nat.reduceSub, Int.reduceToNat, Int.reduceAdd]
  refine opsR_q rfl (q_loadB1 rfl inferInstance rfl) ?_
  simp only [nrm, Nat.reduceAdd, Nat.reduceMul, Nat.reduceSub, Int.reduceToNat, Int.reduceAdd]
  refine opsR_q rfl (q_call rfl (sameTerms_spec (by first | assumption | (refine Sl.mono ?_ (by assumption); exact leA)) (by first | assumption | (refine Sl.mono ?_ (by assumption); exact leA)))) ?_
  simp only [nrm, Nat.reduceAdd, Nat.reduceMul, Nat.reduceSub, Int.reduceToNat, Int.reduceAdd]
  refine opsR_q rfl (q_not rfl) ?_
  simp only [nrm]
  refine opsR_q rfl (q_pick_f rfl) ?_
  simp only [nrm]
  refine opsR_qb rfl (q_move) (fun h => absurd h (by simp)) (fun _ => ?_)
  simp only [nrm, Nat.reduceAdd, Nat.reduceMul, Nat.reduceSub, Int.reduceToNat, Int.reduceAdd]
  refine opsR_q rfl (q_fieldAddr rfl) ?_
  simp only [nrm, Nat.reduceAdd, Nat.reduceMul, Nat.reduceSub, Int.reduceToNat, Int.reduceAdd]
  refine opsR_q rfl (q_loadB1 rfl inferInstance rfl) ?_
  simp only [nrm, Nat.reduceAdd, Nat.reduceMul, Nat.reduceSub, Int.reduceToNat, Int.reduceAdd]
  refine opsR_q rfl (q_fieldAddr rfl) ?_
  simp only [nrm, Nat.reduceAdd, Nat.reduceMul, Nat.reduceSub, Int.reduceToNat, Int.reduceAdd]
  refine opsR_q rfl (q_loadB1 rfl inferInstance rfl) ?_
  simp only [nrm, Nat.reduceAdd, Nat.reduceMul, Nat.reduceSub, Int.reduceToNat, Int.reduceAdd]
  refine opsR_q rfl (q_call rfl (sameTerms_spec (by first | assumption | (refine Sl.mono ?_ (by assumption); exact leA)) (by first | assumption | (refine Sl.mono ?_ (by assumption); exact leA)))) ?_
  simp only [nrm, Nat.reduceAdd, Nat.reduceMul, Nat.reduceSub, Int.reduceToNat, Int.reduceAdd]
  refine opsR_q rfl (q_not rfl) ?_
  simp only [nrm]
  refine opsR_q rfl (q_pick_f rfl) ?_
  simp only [nrm]
  refine opsR_qb rfl (q_move) (fun h => absurd h (by simp)) (fun _ => ?_)
  simp only [nrm, Nat.reduceAdd, Nat.reduceMul, Nat.reduceSub, Int.reduceToNat, Int.reduceAdd]
  refine opsR_q rfl (q_fieldAddr rfl) ?_
  simp only [nrm, Nat.reduceAdd, Nat.reduceMul, Nat.reduceSub, Int.reduceToNat, Int.reduceAdd]
  refine opsR_q rfl (q_loadB1 rfl inferInstance rfl) ?_
  simp only [nrm, Nat.reduceAdd, Nat.reduceMul, Nat.reduceSub, Int.reduceToNat, Int.reduceAdd]
  refine opsR_q rfl (q_fieldAddr rfl) ?_
  simp only [nrm, Nat.reduceAdd, Nat.reduceMul, Nat.reduceSub, Int.reduceToNat, Int.reduceAdd]
  refine opsR_q rfl (q_loadB1 rfl inferInstance rfl) ?_
  simp only [nrm, Nat.reduceAdd, Nat.reduceMul, Nat.reduceSub, Int.reduceToNat, Int.reduceAdd]
  refine opsR_q rfl (q_call rfl (SameTexts_spec (by first | assumption | (refine Sl.mono ?_ (by assumption); exact leA)) (by first | assumption | (refine Sl.mono ?_ (by assumption); exact leA)))) ?_
  simp only [nrm, Nat.reduceAdd, Nat.reduceMul, Nat.reduceSub, Int.reduceToNat, Int.reduceAdd]
  refine opsR_q rfl (q_not rfl) ?_
  simp only [nrm]
  refine opsR_q rfl (q_pick_f rfl) ?_
  simp only [nrm]
  refine opsR_nil ?_
  refine hk5 _ _ ?_
  clear hk5
  refine run_cond rfl (fun ho8 => ?_) (fun ho8 => ?_)
  · have hc8 := ho8; try simp only [spl] at hc8
    refine run_seq fun _ hk9 => ?_
    first | exact absurd rfl hc8 | exact absurd trivial hc8 | exact absurd hc8 (by simp)
  · have hc8 := ho8; try simp only [spl] at hc8
    refine run_skip ?_
    refine hk4 _ _ ?_
    clear hk4
    refine run_seq fun _ hk10 => ?_
    refine run_seq fun _ hk11 => ?_
    refine run_region ?_
    refine opsR_q rfl (q_fieldAddr rfl) ?_
    simp only [nrm, Nat.reduceAdd, Nat.reduceMul, Nat.reduceSub, Int.reduceToNat, Int.reduceAdd]
    refine opsR_q rfl (q_loadB1 rfl inferInstance rfl) ?_
    simp only [nrm, Nat.reduceAdd, Nat.reduceMul, Nat.reduceSub, Int.reduceToNat, Int.reduceAdd]
    refine opsR_q rfl (q_len_v rfl (by first | exact Sl.len (by assumption) | exact OwnS.len (by assumption) | exact SlR.len (by assumption) | assumption)) ?_
    simp only [nrm, Nat.reduceAdd, Nat.reduceMul, Nat.reduceSub, Int.reduceToNat, Int.reduceAdd]
    refine opsR_q rfl (q_fieldAddr rfl) ?_
    simp only [nrm, Nat.reduceAdd, Nat.reduceMul, Nat.reduceSub, Int.reduceToNat, Int.reduceAdd]
    refine opsR_q rfl (q_loadB1 rfl inferInstance rfl) ?_
    simp only [nrm, Nat.reduceAdd, Nat.reduceMul, Nat.reduceSub, Int.reduceToNat, Int.reduceAdd]
    refine opsR_q rfl (q_len_v rfl (by first | exact Sl.len (by assumption) | exact OwnS.len (by assumption) | exact SlR.len (by assumption) | assumption)) ?_
    simp only [nrm, Nat.reduceAdd, Nat.reduceMul, Nat.reduceSub, Int.reduceToNat, Int.reduceAdd]
    refine opsR_q rfl (q_neq rfl rfl) ?_
    simp only [nrm, Nat.reduceAdd, Nat.reduceMul, Nat.reduceSub, Int.reduceToNat, Int.reduceAdd]
    refine opsR_qb rfl (q_move) (fun h => absurd h (by simp)) (fun _ => ?_)
    simp only [nrm, Nat.reduceAdd, Nat.reduceMul, Nat.reduceSub, Int.reduceToNat, Int.reduceAdd]
    refine opsR_q rfl (q_fieldAddr rfl) ?_
    simp only [nrm, Nat.reduceAdd, Nat.reduceMul, Nat.reduceSub, Int.reduceToNat, Int.reduceAdd]
    refine opsR_q rfl (q_loadB1 rfl inferInstance rfl) ?_
    simp only [nrm, Nat.reduceAdd, Nat.reduceMul, Nat.reduceSub, Int.reduceToNat, Int.reduceAdd]
    refine opsR_q rfl (q_len_v rfl (by first | exact Sl.len (by assumption) | exact OwnS.len (by assumption) | exact SlR.len (by assumption) | assumption)) ?_
    simp only [nrm, Nat.reduceAdd, Nat.reduceMul, Nat.reduceSub, Int.reduceToNat, Int.reduceAdd]
    refine opsR_q rfl (q_fieldAddr rfl) ?_
    simp only [nrm, Nat.reduceAdd, Nat.reduceMul, Nat.reduceSub, Int.reduceToNat, Int.reduceAdd]
    refine opsR_q rfl (q_loadB1 rfl inferInstance rfl) ?_
    simp only [nrm, Nat.reduceAdd, Nat.reduceMul, Nat.reduceSub, Int.reduceToNat, Int.reduceAdd]
    refine opsR_q rfl (q_len_v rfl (by first | exact Sl.len (by assumption) | exact OwnS.len (by assumption) | exact SlR.len (by assumption) | assumption)) ?_
    simp only [nrm, Nat.reduceAdd, Nat.reduceMul, Nat.reduceSub, Int.reduceToNat, Int.reduceAdd]
    refine opsR_q rfl (q_neq rfl rfl) ?_
    simp only [nrm, Nat.reduceAdd, Nat.reduceMul, Nat.reduceSub, Int.reduceToNat, Int.reduceAdd]
    refine opsR_q rfl (q_pick_f rfl) ?_
    simp only [nrm]
    refine opsR_qb rfl (q_move) (fun h => absurd h (by simp)) (fun _ => ?_)
    simp only [nrm, Nat.reduceAdd, Nat.reduceMul, Nat.reduceSub, Int.reduceToNat, Int.reduceAdd]
    refine opsR_q rfl (q_fieldAddr rfl) ?_
    simp only [nrm, Nat.reduceAdd, Nat.reduceMul, Nat.reduceSub, Int.reduceToNat, Int.reduceAdd]
    refine opsR_q rfl (q_loadB1 rfl inferInstance rfl) ?_
    simp only [nrm, Nat.reduceAdd, Nat.reduceMul, Nat.reduceSub, Int.reduceToNat, Int.reduceAdd]
    refine opsR_q rfl (q_len_v rfl (by first | exact Sl.len (by assumption) | exact OwnS.len (by assumption) | exact SlR.len (by assumption) | assumption)) ?_
    simp only [nrm, Nat.reduceAdd, Nat.reduceMul, Nat.reduceSub, Int.reduceToNat, Int.reduceAdd]
    refine opsR_q rfl (q_fieldAddr rfl) ?_
    simp only [nrm, Nat.reduceAdd, Nat.reduceMul, Nat.reduceSub, Int.reduceToNat, Int.reduceAdd]
    refine opsR_q rfl (q_loadB1 rfl inferInstance rfl) ?_
    simp only [nrm, Nat.reduceAdd, Nat.reduceMul, Nat.reduceSub, Int.reduceToNat, Int.reduceAdd]
    refine opsR_q rfl (q_len_v rfl (by first | exact Sl.len (by assumption) | exact OwnS.len (by assumption) | exact SlR.len (by assumption) | assumption)) ?_
    simp only [nrm, Nat.reduceAdd, Nat.reduceMul, Nat.reduceSub, Int.reduceToNat, Int.reduceAdd]
    refine opsR_q rfl (q_neq rfl rfl) ?_
    simp only [nrm, Nat.reduceAdd, Nat.reduceMul, Nat.reduceSub, Int.reduceToNat, Int.reduceAdd]
    refine opsR_q rfl (q_pick_f rfl) ?_
    simp only [nrm]
    refine opsR_nil ?_
    refine hk11 _ _ ?_
    clear hk11
    refine run_cond rfl (fun ho12 => ?_) (fun ho12 => ?_)
    · have hc12 := ho12; try simp only [spl] at hc12
      refine run_seq fun _ hk13 => ?_
      first | exact absurd rfl hc12 | exact absurd trivial hc12 | exact absurd hc12 (by simp)
    · have hc12 := ho12; try simp only [spl] at hc12
      refine run_skip ?_
      refine hk10 _ _ ?_
      clear hk10
      refine run_seq fun _ hk14 => ?_
      refine run_seq fun _ hk15 => ?_
      refine run_region ?_
      refine opsR_q rfl (q_assign) ?_
      simp only [nrm]
      refine opsR_nil ?_
      refine hk15 _ _ ?_
      clear hk15
      refine run_block ?_
      refine run_loopF [0, 0, 0, 0, 1, 2, 0, 0, 0, 0, 0, 0, 0, 0, 0, 0, 0, 0, 0, 0, 0, 0, 0, 0, 0, 0, 0, 0, 0, 0, 0, 0, 0, 0, 0, 0, 0, 0, 0, 0, 0, 0, 0, 0, 0, 0, 0, 0, 0, 0, 0, 0, 0, 0, 0, 0, 0, 0, 0, 0, 0, 0, 0, 0, 0, 0, 0, 0, 0, 0, 0, 0, 0, 0, 0, 0, 0, 0, 0, 0, 0, 0, 0, 0, 0, 0, 0, 0, 0, 0, 0, 0, 0, 0, 0, 0, 0, 0, 0, 0, 0, 0, 0, 0, 0, 0, 0, 0, 0, 0, 0, 0, 0, 0, 0, 0, 1, 1, 1, 1, 1, 1, 1, 1, 1, 1, 1, 1, 1, 1, 1, 1, 1, 1, 0, 0, 0, 0, 0, 0, 0, 0, 0, 0, 0, 0, 0, 0, 0, 0, 0, 0, 0, 0, 0, 0, 0, 0, 0, 0, 0, 0, 0, 0, 0, 0, 0, 0, 0, 0, 0, 0, 0, 0, 0, 0, 0, 0, 0, 0, 0, 0, 0, 0, 0, 0, 0, 0, 0, 0, 0, 0, 0, 0, 0, 0, 0, 0, 0, 0, 0, 0, 0, 0, 0, 0, 0, 0, 0, 0, 0, 0, 0, 0] (fun zn zL zst => ∃ (i : Nat), zL = [.int .i64 (i : Nat)] ∧ ⟨s.I, (bB, .cells #[.string p.Name, .int .i64 p.Priority, q1, .int .i64 p.Want.CPU, .int .i64 p.Want.Mem, .int .i64 p.Want.Disk, q2, q3, q4, q5, q6, q7, q8, q9, .string p.Node, .string p.Hope] 33 (0, 0)) :: (bA, .cells #[.string p.Name, .int .i64 p.Priority, p1, .int .i64 p.Want.CPU, .int .i64 p.Want.Mem, .int .i64 p.Want.Disk, p2, p3, p4, p5, p6, p7, p8, p9, .string p.Node, .string p.Hope] 33 (0, 0)) :: s.cs⟩ = zst ∧ zn = p.Bears.length - i ∧ (i ≤ p.Bears.length)) _ _ ⟨0, rfl, rfl, rfl, by first | assumption | omega | exact Hp.le.rfl | rfl | exact all_zero | exact all_succ (by assumption) (by assumption) | (intro _; omega) | (simp; done)⟩ rfl ?_
      rintro _ _ _ jv16 ⟨i, rfl, rfl, rfl, hi⟩ K16 hkl16
      simp only [fr, Nat.zero_add, Nat.reduceAdd]
      refine run_seq fun _ hk17 => ?_
      refine run_seq fun _ hk18 => ?_
      refine run_region ?_
      refine opsR_q rfl (q_move) ?_
      simp only [nrm]
      refine opsR_q rfl (q_fieldAddr rfl) ?_
      simp only [nrm, Nat.reduceAdd, Nat.reduceMul, Nat.reduceSub, Int.reduceToNat, Int.reduceAdd]
      refine opsR_q rfl (q_loadB1 rfl inferInstance rfl) ?_
      simp only [nrm, Nat.reduceAdd, Nat.reduceMul, Nat.reduceSub, Int.reduceToNat, Int.reduceAdd]
      refine opsR_q rfl (q_len_v rfl (by first | exact Sl.len (by assumption) | exact OwnS.len (by assumption) | exact SlR.len (by assumption) | assumption)) ?_
      simp only [nrm, Nat.reduceAdd, Nat.reduceMul, Nat.reduceSub, Int.reduceToNat, Int.reduceAdd]
      refine opsR_q rfl (q_lss rfl rfl) ?_
      simp only [nrm, Nat.reduceAdd, Nat.reduceMul, Nat.reduceSub, Int.reduceToNat, Int.reduceAdd]
      refine opsR_nil ?_
      refine hk18 _ _ ?_
      clear hk18
      refine run_cond rfl (fun ho21 => ?_) (fun ho21 => ?_)
      · have hc21 := ho21; try simp only [spl] at hc21
        refine run_skip ?_
        refine hk17 _ _ ?_
        clear hk17
        refine run_seq fun _ hk22 => ?_
        refine run_block ?_
        refine run_seq fun _ hk23 => ?_
        refine run_drawE mixed 11 (by kernel_rfl) rfl ?_
        simp only [List.take_succ_cons, List.take_zero, List.drop_succ_cons, List.drop_zero, List.drop_nil, List.take_nil]
        refine oblE_q rfl (fun I hI => (q_fieldAddr rfl)) ?_
        simp only [nrm, Nat.reduceAdd, Nat.reduceMul, Nat.reduceSub, Int.reduceToNat, Int.reduceAdd]
        refine oblE_q rfl (fun I hI => (q_loadB1 rfl inferInstance rfl)) ?_
        simp only [nrm, Nat.reduceAdd, Nat.reduceMul, Nat.reduceSub, Int.reduceToNat, Int.reduceAdd]
        refine oblE_q rfl (fun I hI => (q_move)) ?_
        simp only [nrm]
        refine oblE_index rfl rfl rfl slrA (by rfl) idxA idxA fun b24 o24 cs24 ha24 hr24 he24 => ?_
        simp only [nrm, Nat.reduceAdd, Nat.reduceMul, Nat.reduceSub, Int.reduceToNat, Int.reduceAdd]
        try simp only [Int.toNat_natCast, Int.reduceToNat, Int.toNat_zero] at hr24
        try simp only [Int.toNat_natCast, Int.reduceToNat, Int.toNat_zero] at he24
        clear ha24
        obtain rfl := kBear.open hr24
        refine oblE_q rfl (fun I hI => (by first | exact q_load_atW rfl (El.mono (by assumption) hI) (by rfl) rfl | exact q_load_atN0 rfl (El.mono (by assumption) hI) rfl rfl | exact q_load_atN rfl (El.mono (by assumption) hI) rfl (Nat.le_of_ble_eq_true rfl) (Nat.le_of_ble_eq_true rfl))) ?_
        simp only [nrm, Nat.reduceAdd, Nat.reduceMul, Nat.reduceSub, Int.reduceToNat, Int.reduceAdd]
        refine oblE_q rfl (fun I hI => (q_fieldAddr rfl)) ?_
        simp only [nrm, Nat.reduceAdd, Nat.reduceMul, Nat.reduceSub, Int.reduceToNat, Int.reduceAdd]
        refine oblE_q rfl (fun I hI => (q_loadB1 rfl inferInstance rfl)) ?_
        simp only [nrm, Nat.reduceAdd, Nat.reduceMul, Nat.reduceSub, Int.reduceToNat, Int.reduceAdd]
        refine oblE_q rfl (fun I hI => (q_move)) ?_
        simp only [nrm]
        refine oblE_index rfl rfl rfl slrA (by rfl) idxA idxA fun b26 o26 cs26 ha26 hr26 he26 => ?_
        simp only [nrm, Nat.reduceAdd, Nat.reduceMul, Nat.reduceSub, Int.reduceToNat, Int.reduceAdd]
        try simp only [Int.toNat_natCast, Int.reduceToNat, Int.toNat_zero] at hr26
        try simp only [Int.toNat_natCast, Int.reduceToNat, Int.toNat_zero] at he26
        clear ha26
        obtain rfl := kBear.open hr26
        refine oblE_q rfl (fun I hI => (by first | exact q_load_atW rfl (El.mono (by assumption) hI) (by rfl) rfl | exact q_load_atN0 rfl (El.mono (by assumption) hI) rfl rfl | exact q_load_atN rfl (El.mono (by assumption) hI) rfl (Nat.le_of_ble_eq_true rfl) (Nat.le_of_ble_eq_true rfl))) ?_
        simp only [nrm, Nat.reduceAdd, Nat.reduceMul, Nat.reduceSub, Int.reduceToNat, Int.reduceAdd]
        refine oblE_q rfl (fun I hI => (q_neq_agg rfl rfl (fun m K h => kBear.eqL (m + 6) h))) ?_
        simp only [nrm, Nat.reduceAdd, Nat.reduceMul, Nat.reduceSub, Int.reduceToNat, Int.reduceAdd]
        refine oblE_nil (show OpsR _ _ _ _ _ _ from ?_)
        try simp only [nrm, Nat.reduceAdd, Nat.reduceMul, Nat.reduceSub, Int.reduceToNat, Int.reduceAdd]
        refine opsR_nil ?_
        refine hk23 _ _ ?_
        clear hk23
        refine run_cond rfl (fun ho27 => ?_) (fun ho27 => ?_)
        · have hc27 := ho27; try simp only [spl] at hc27
          refine run_seq fun _ hk28 => ?_
          first | exact absurd rfl hc27 | exact absurd trivial hc27 | exact absurd hc27 (by simp)
        · have hc27 := ho27; try simp only [spl] at hc27
          refine run_skip ?_
          refine hk22 _ _ ?_
          clear hk22
          refine run_region ?_
          refine opsR_q rfl (q_move) ?_
          simp only [nrm]
          refine opsR_q rfl (by first | exact q_add64 rfl rfl (by omega) (by omega) | exact q_add rfl rfl) ?_
          simp only [nrm, Nat.reduceAdd, Nat.reduceMul, Nat.reduceSub, Int.reduceToNat, Int.reduceAdd]
          refine opsR_q rfl (q_assign) ?_
          simp only [nrm]
          refine opsR_nil ?_
          first
          | exact hkl16 _ _ _ _ (by omega) ⟨i + 1, rfl, rfl, rfl, by first | assumption | omega | exact Hp.le.rfl | rfl | exact all_zero | exact all_succ (by assumption) (by assumption) | (intro _; omega) | (simp; done)⟩ rfl
      · have hc21 := ho21; try simp only [spl] at hc21
        refine run_exit ?_
        refine hk14 _ _ ?_
        clear hk14
        refine run_seq fun _ hk29 => ?_
        refine run_seq fun _ hk30 => ?_
        refine run_region ?_
        refine opsR_q rfl (q_assign) ?_
        simp only [nrm]
        refine opsR_nil ?_
        refine hk30 _ _ ?_
        clear hk30
        refine run_block ?_
        refine run_loopF [0, 0, 0, 0, 1, 0, 2, 0, 0, 0, 0, 0, 0, 0, 0, 0, 0, 0, 0, 0, 0, 0, 0, 0, 0, 0, 0, 0, 0, 0, 0, 0, 0, 0, 0, 0, 0, 0, 0, 0, 0, 0, 0, 0, 0, 0, 0, 0, 0, 0, 0, 0, 0, 0, 0, 0, 0, 0, 0, 0, 0, 0, 0, 0, 0, 0, 0, 0, 0, 0, 0, 0, 0, 0, 0, 0, 0, 0, 0, 0, 0, 0, 0, 0, 0, 0, 0, 0, 0, 0, 0, 0, 0, 0, 0, 0, 0, 0, 0, 0, 0, 0, 0, 0, 0, 0, 0, 0, 0, 0, 0, 0, 0, 0, 0, 0, 0, 0, 0, 0, 0, 0, 0, 0, 0, 0, 0, 0, 0, 0, 0, 0, 0, 0, 1, 1, 1, 1, 1, 1, 1, 1, 1, 1, 1, 1, 1, 1, 1, 1, 1, 1, 1, 1, 1, 1, 1, 1, 1, 1, 1, 1, 1, 1, 1, 1, 1, 1, 1, 1, 0, 0, 0, 0, 0, 0, 0, 0, 0, 0, 0, 0, 0, 0, 0, 0, 0, 0, 0, 0, 0, 0, 0, 0, 0, 0, 0, 0, 0, 0, 0, 0, 0, 0, 0, 0, 0, 0, 0, 0, 0, 0, 0, 0] (fun zn zL zst => ∃ (i : Nat), zL = [.int .i64 (i : Nat)] ∧ ⟨s.I, (bB, .cells #[.string p.Name, .int .i64 p.Priority, q1, .int .i64 p.Want.CPU, .int .i64 p.Want.Mem, .int .i64 p.Want.Disk, q2, q3, q4, q5, q6, q7, q8, q9, .string p.Node, .string p.Hope] 33 (0, 0)) :: (bA, .cells #[.string p.Name, .int .i64 p.Priority, p1, .int .i64 p.Want.CPU, .int .i64 p.Want.Mem, .int .i64 p.Want.Disk, p2, p3, p4, p5, p6, p7, p8, p9, .string p.Node, .string p.Hope] 33 (0, 0)) :: s.cs⟩ = zst ∧ zn = p.Prefers.length - i ∧ (i ≤ p.Prefers.length)) _ _ ⟨0, rfl, rfl, rfl, by first | assumption | omega | exact Hp.le.rfl | rfl | exact all_zero | exact all_succ (by assumption) (by assumption) | (intro _; omega) | (simp; done)⟩ rfl ?_
        rintro _ _ _ jv31 ⟨i, rfl, rfl, rfl, hi⟩ K31 hkl31
        simp only [fr, Nat.zero_add, Nat.reduceAdd]
        refine run_seq fun _ hk32 => ?_
        refine run_seq fun _ hk33 => ?_
        refine run_region ?_
        refine opsR_q rfl (q_move) ?_
        simp only [nrm]
        refine opsR_q rfl (q_fieldAddr rfl) ?_
        simp only [nrm, Nat.reduceAdd, Nat.reduceMul, Nat.reduceSub, Int.reduceToNat, Int.reduceAdd]
        refine opsR_q rfl (q_loadB1 rfl inferInstance rfl) ?_
        simp only [nrm, Nat.reduceAdd, Nat.reduceMul, Nat.reduceSub, Int.reduceToNat, Int.reduceAdd]
        refine opsR_q rfl (q_len_v rfl (by first | exact Sl.len (by assumption) | exact OwnS.len (by assumption) | exact SlR.len (by assumption) | assumption)) ?_
        simp only [nrm, Nat.reduceAdd, Nat.reduceMul, Nat.reduceSub, Int.reduceToNat, Int.reduceAdd]
        refine opsR_q rfl (q_lss rfl rfl) ?_
        simp only [nrm, Nat.reduceAdd, Nat.reduceMul, Nat.reduceSub, Int.reduceToNat, Int.reduceAdd]
        refine opsR_nil ?_
        refine hk33 _ _ ?_
        clear hk33
        refine run_cond rfl (fun ho36 => ?_) (fun ho36 => ?_)
        · have hc36 := ho36; try simp only [spl] at hc36
          refine run_skip ?_
          refine hk32 _ _ ?_
          clear hk32
          refine run_seq fun _ hk37 => ?_
          refine run_block ?_
          refine run_seq fun _ hk38 => ?_
          refine run_drawE mixed 29 (by kernel_rfl) rfl ?_
          simp only [List.take_succ_cons, List.take_zero, List.drop_succ_cons, List.drop_zero, List.drop_nil, List.take_nil]
          refine oblE_q rfl (fun I hI => (q_fieldAddr rfl)) ?_
          simp only [nrm, Nat.reduceAdd, Nat.reduceMul, Nat.reduceSub, Int.reduceToNat, Int.reduceAdd]
          refine oblE_q rfl (fun I hI => (q_loadB1 rfl inferInstance rfl)) ?_
          simp only [nrm, Nat.reduceAdd, Nat.reduceMul, Nat.reduceSub, Int.reduceToNat, Int.reduceAdd]
          refine oblE_q rfl (fun I hI => (q_move)) ?_
          simp only [nrm]
          refine oblE_index rfl rfl rfl slrA (by rfl) idxA idxA fun b39 o39 cs39 ha39 hr39 he39 => ?_
          simp only [nrm, Nat.reduceAdd, Nat.reduceMul, Nat.reduceSub, Int.reduceToNat, Int.reduceAdd]
          try simp only [Int.toNat_natCast, Int.reduceToNat, Int.toNat_zero] at hr39
          try simp only [Int.toNat_natCast, Int.reduceToNat, Int.toNat_zero] at he39
          clear ha39
          obtain ⟨w39_Reqs, rfl, h39_Reqs⟩ := kPrefer.open hr39
          refine oblE_q rfl (fun I hI => (q_fieldAddr rfl)) ?_
          simp only [nrm, Nat.reduceAdd, Nat.reduceMul, Nat.reduceSub, Int.reduceToNat, Int.reduceAdd]
          refine oblE_q rfl (fun I hI => (by first | exact q_load_at1 (i := 0) rfl (El.mono (by assumption) hI) rfl (Nat.le_of_ble_eq_true rfl) rfl | exact q_load_at1 rfl (El.mono (by assumption) hI) rfl (Nat.le_of_ble_eq_true rfl) rfl)) ?_
          simp only [nrm, Nat.reduceAdd, Nat.reduceMul, Nat.reduceSub, Int.reduceToNat, Int.reduceAdd]
          refine oblE_q rfl (fun I hI => (q_fieldAddr rfl)) ?_
          simp only [nrm, Nat.reduceAdd, Nat.reduceMul, Nat.reduceSub, Int.reduceToNat, Int.reduceAdd]
          refine oblE_q rfl (fun I hI => (q_loadB1 rfl inferInstance rfl)) ?_
          simp only [nrm, Nat.reduceAdd, Nat.reduceMul, Nat.reduceSub, Int.reduceToNat, Int.reduceAdd]
          refine oblE_q rfl (fun I hI => (q_move)) ?_
          simp only [nrm]
          refine oblE_index rfl rfl rfl slrA (by rfl) idxA idxA fun b41 o41 cs41 ha41 hr41 he41 => ?_
          simp only [nrm, Nat.reduceAdd, Nat.reduceMul, Nat.reduceSub, Int.reduceToNat, Int.reduceAdd]
          try simp only [Int.toNat_natCast, Int.reduceToNat, Int.toNat_zero] at hr41
          try simp only [Int.toNat_natCast, Int.reduceToNat, Int.toNat_zero] at he41
          clear ha41
          obtain ⟨w41_Reqs, rfl, h41_Reqs⟩ := kPrefer.open hr41
          refine oblE_q rfl (fun I hI => (q_fieldAddr rfl)) ?_
          simp only [nrm, Nat.reduceAdd, Nat.reduceMul, Nat.reduceSub, Int.reduceToNat, Int.reduceAdd]
          refine oblE_q rfl (fun I hI => (by first | exact q_load_at1 (i := 0) rfl (El.mono (by assumption) hI) rfl (Nat.le_of_ble_eq_true rfl) rfl | exact q_load_at1 rfl (El.mono (by assumption) hI) rfl (Nat.le_of_ble_eq_true rfl) rfl)) ?_
          simp only [nrm, Nat.reduceAdd, Nat.reduceMul, Nat.reduceSub, Int.reduceToNat, Int.reduceAdd]
          refine oblE_q rfl (fun I hI => (q_neq rfl rfl)) ?_
          simp only [nrm, Nat.reduceAdd, Nat.reduceMul, Nat.reduceSub, Int.reduceToNat, Int.reduceAdd]
          refine oblE_qb rfl (fun I hI => (q_move)) (fun h => absurd h (by simp)) (fun _ => ?_)
          simp only [nrm, Nat.reduceAdd, Nat.reduceMul, Nat.reduceSub, Int.reduceToNat, Int.reduceAdd]
          refine oblE_q rfl (fun I hI => (q_fieldAddr rfl)) ?_
          simp only [nrm, Nat.reduceAdd, Nat.reduceMul, Nat.reduceSub, Int.reduceToNat, Int.reduceAdd]
          refine oblE_q rfl (fun I hI => (q_loadB1 rfl inferInstance rfl)) ?_
          simp only [nrm, Nat.reduceAdd, Nat.reduceMul, Nat.reduceSub, Int.reduceToNat, Int.reduceAdd]
          refine oblE_q rfl (fun I hI => (q_move)) ?_
          simp only [nrm]
          refine oblE_index rfl rfl rfl slrA (by rfl) idxA idxA fun b42 o42 cs42 ha42 hr42 he42 => ?_
          simp only [nrm, Nat.reduceAdd, Nat.reduceMul, Nat.reduceSub, Int.reduceToNat, Int.reduceAdd]
          try simp only [Int.toNat_natCast, Int.reduceToNat, Int.toNat_zero] at hr42
          try simp only [Int.toNat_natCast, Int.reduceToNat, Int.toNat_zero] at he42
          clear ha42
          obtain ⟨w42_Reqs, rfl, h42_Reqs⟩ := kPrefer.open hr42
          refine oblE_q rfl (fun I hI => (q_fieldAddr rfl)) ?_
          simp only [nrm, Nat.reduceAdd, Nat.reduceMul, Nat.reduceSub, Int.reduceToNat, Int.reduceAdd]
          refine oblE_q rfl (fun I hI => (by first | exact q_load_at1 (i := 0) rfl (El.mono (by assumption) hI) rfl (Nat.le_of_ble_eq_true rfl) rfl | exact q_load_at1 rfl (El.mono (by assumption) hI) rfl (Nat.le_of_ble_eq_true rfl) rfl)) ?_
          simp only [nrm, Nat.reduceAdd, Nat.reduceMul, Nat.reduceSub, Int.reduceToNat, Int.reduceAdd]
          refine oblE_q rfl (fun I hI => (q_fieldAddr rfl)) ?_
          simp only [nrm, Nat.reduceAdd, Nat.reduceMul, Nat.reduceSub, Int.reduceToNat, Int.reduceAdd]
          refine oblE_q rfl (fun I hI => (q_loadB1 rfl inferInstance rfl)) ?_
          simp only [nrm, Nat.reduceAdd, Nat.reduceMul, Nat.reduceSub, Int.reduceToNat, Int.reduceAdd]
          refine oblE_q rfl (fun I hI => (q_move)) ?_
          simp only [nrm]
          refine oblE_index rfl rfl rfl slrA (by rfl) idxA idxA fun b43 o43 cs43 ha43 hr43 he43 => ?_
          simp only [nrm, Nat.reduceAdd, Nat.reduceMul, Nat.reduceSub, Int.reduceToNat, Int.reduceAdd]
          try simp only [Int.toNat_natCast, Int.reduceToNat, Int.toNat_zero] at hr43
          try simp only [Int.toNat_natCast, Int.reduceToNat, Int.toNat_zero] at he43
          clear ha43
          obtain ⟨w43_Reqs, rfl, h43_Reqs⟩ := kPrefer.open hr43
          refine oblE_q rfl (fun I hI => (q_fieldAddr rfl)) ?_
          simp only [nrm, Nat.reduceAdd, Nat.reduceMul, Nat.reduceSub, Int.reduceToNat, Int.reduceAdd]
          refine oblE_q rfl (fun I hI => (by first | exact q_load_at1 (i := 0) rfl (El.mono (by assumption) hI) rfl (Nat.le_of_ble_eq_true rfl) rfl | exact q_load_at1 rfl (El.mono (by assumption) hI) rfl (Nat.le_of_ble_eq_true rfl) rfl)) ?_
          simp only [nrm, Nat.reduceAdd, Nat.reduceMul, Nat.reduceSub, Int.reduceToNat, Int.reduceAdd]
          refine oblE_q rfl (fun I hI => (q_call rfl (SameReqs_spec (by first | assumption | (refine Sl.mono ?_ (by assumption); exact leA)) (by first | assumption | (refine Sl.mono ?_ (by assumption); exact leA))))) ?_
          simp only [nrm, Nat.reduceAdd, Nat.reduceMul, Nat.reduceSub, Int.reduceToNat, Int.reduceAdd]
          refine oblE_q rfl (fun I hI => (q_not rfl)) ?_
          simp only [nrm]
          refine oblE_q rfl (fun I hI => (q_pick_f rfl)) ?_
          simp only [nrm]
          refine oblE_nil (show OpsR _ _ _ _ _ _ from ?_)
          try simp only [nrm, Nat.reduceAdd, Nat.reduceMul, Nat.reduceSub, Int.reduceToNat, Int.reduceAdd]
          refine opsR_nil ?_
          refine hk38 _ _ ?_
          clear hk38
          refine run_cond rfl (fun ho44 => ?_) (fun ho44 => ?_)
          · have hc44 := ho44; try simp only [spl] at hc44
            refine run_seq fun _ hk45 => ?_
            first | exact absurd rfl hc44 | exact absurd trivial hc44 | exact absurd hc44 (by simp)
          · have hc44 := ho44; try simp only [spl] at hc44
            refine run_skip ?_
            refine hk37 _ _ ?_
            clear hk37
            refine run_region ?_
            refine opsR_q rfl (q_move) ?_
            simp only [nrm]
            refine opsR_q rfl (by first | exact q_add64 rfl rfl (by omega) (by omega) | exact q_add rfl rfl) ?_
            simp only [nrm, Nat.reduceAdd, Nat.reduceMul, Nat.reduceSub, Int.reduceToNat, Int.reduceAdd]
            refine opsR_q rfl (q_assign) ?_
            simp only [nrm]
            refine opsR_nil ?_
            first
            | exact hkl31 _ _ _ _ (by omega) ⟨i + 1, rfl, rfl, rfl, by first | assumption | omega | exact Hp.le.rfl | rfl | exact all_zero | exact all_succ (by assumption) (by assumption) | (intro _; omega) | (simp; done)⟩ rfl
        · have hc36 := ho36; try simp only [spl] at hc36
          refine run_exit ?_
          refine hk29 _ _ ?_
          clear hk29
          refine run_seq fun _ hk46 => ?_
          refine run_seq fun _ hk47 => ?_
          refine run_region ?_
          refine opsR_q rfl (q_assign) ?_
          simp only [nrm]
          refine opsR_nil ?_
          refine hk47 _ _ ?_
          clear hk47
          refine run_block ?_
          refine run_loopF [0, 0, 0, 0, 1, 0, 0, 2, 2, 2, 0, 0, 0, 0, 0, 0, 0, 0, 0, 0, 0, 0, 0, 0, 0, 0, 0, 0, 0, 0, 0, 0, 0, 0, 0, 0, 0, 0, 0, 0, 0, 0, 0, 0, 0, 0, 0, 0, 0, 0, 0, 0, 0, 0, 0, 0, 0, 0, 0, 0, 0, 0, 0, 0, 0, 0, 0, 0, 0, 0, 0, 0, 0, 0, 0, 0, 0, 0, 0, 0, 0, 0, 0, 0, 0, 0, 0, 0, 0, 0, 0, 0, 0, 0, 0, 0, 0, 0, 0, 0, 0, 0, 0, 0, 0, 0, 0, 0, 0, 0, 0, 0, 0, 0, 0, 0, 0, 0, 0, 0, 0, 0, 0, 0, 0, 0, 0, 0, 0, 0, 0, 0, 0, 0, 0, 0, 0, 0, 0, 0, 0, 0, 0, 0, 0, 0, 0, 0, 0, 0, 0, 0, 0, 0, 0, 0, 0, 0, 0, 0, 0, 0, 0, 0, 0, 0, 0, 0, 0, 0, 1, 1, 1, 1, 1, 1, 1, 1, 1, 1, 1, 1, 1, 1, 1, 1, 1, 1, 1, 1, 1, 1, 1, 1, 1, 1, 1, 1, 1, 1, 1, 1, 1, 1, 1, 1, 1, 1, 1, 1, 1, 1, 1, 1] (fun zn zL zst => ∃ (i : Nat) (z8 : Value) (z9 : Value), zL = [.int .i64 (i : Nat), z8, z9] ∧ ⟨s.I, (bB, .cells #[.string p.Name, .int .i64 p.Priority, q1, .int .i64 p.Want.CPU, .int .i64 p.Want.Mem, .int .i64 p.Want.Disk, q2, q3, q4, q5, q6, q7, q8, q9, .string p.Node, .string p.Hope] 33 (0, 0)) :: (bA, .cells #[.string p.Name, .int .i64 p.Priority, p1, .int .i64 p.Want.CPU, .int .i64 p.Want.Mem, .int .i64 p.Want.Disk, p2, p3, p4, p5, p6, p7, p8, p9, .string p.Node, .string p.Hope] 33 (0, 0)) :: s.cs⟩ = zst ∧ zn = p.Spreads.length - i ∧ (i ≤ p.Spreads.length)) _ _ ⟨0, _, _, rfl, rfl, rfl, by first | assumption | omega | exact Hp.le.rfl | rfl | exact all_zero | exact all_succ (by assumption) (by assumption) | (intro _; omega) | (simp; done)⟩ rfl ?_
          rintro _ _ _ jv48 ⟨i, z8, z9, rfl, rfl, rfl, hi⟩ K48 hkl48
          simp only [fr, Nat.zero_add, Nat.reduceAdd]
          refine run_seq fun _ hk49 => ?_
          refine run_seq fun _ hk50 => ?_
          refine run_region ?_
          refine opsR_q rfl (q_move) ?_
          simp only [nrm]
          refine opsR_q rfl (q_fieldAddr rfl) ?_
          simp only [nrm, Nat.reduceAdd, Nat.reduceMul, Nat.reduceSub, Int.reduceToNat, Int.reduceAdd]
          refine opsR_q rfl (q_loadB1 rfl inferInstance rfl) ?_
          simp only [nrm, Nat.reduceAdd, Nat.reduceMul, Nat.reduceSub, Int.reduceToNat, Int.reduceAdd]
          refine opsR_q rfl (q_len_v rfl (by first | exact Sl.len (by assumption) | exact OwnS.len (by assumption) | exact SlR.len (by assumption) | assumption)) ?_
          simp only [nrm, Nat.reduceAdd, Nat.reduceMul, Nat.reduceSub, Int.reduceToNat, Int.reduceAdd]
          refine opsR_q rfl (q_lss rfl rfl) ?_
          simp only [nrm, Nat.reduceAdd, Nat.reduceMul, Nat.reduceSub, Int.reduceToNat, Int.reduceAdd]
          refine opsR_nil ?_
          refine hk50 _ _ ?_
          clear hk50
          refine run_cond rfl (fun ho53 => ?_) (fun ho53 => ?_)
          · have hc53 := ho53; try simp only [spl] at hc53
            refine run_skip ?_
            refine hk49 _ _ ?_
            clear hk49
            refine run_seq fun _ hk54 => ?_
            refine run_block ?_
            refine run_seq fun _ hk55 => ?_
            refine run_mixL mixed [true, true, true, true, true, true, true, true, true, true, false, false, false, false] [false, false, false, false, false, false, false, false, false, false, false, false, false, false] [10, 11, 12, 13] (KeepS _) (by kernel_rfl) rfl KeepS.refl ?_
            refine oblK_k rfl (fun z hz => (q_fieldAddr rfl)) ?_
            simp only [nrm, Nat.reduceAdd, Nat.reduceMul, Nat.reduceSub, Int.reduceToNat, Int.reduceAdd]
            refine oblK_k rfl (fun z hz => by have hI := hz.1; first | exact q_load1 rfl (hz.has inferInstance) rfl | exact q_loadB1 rfl inferInstance rfl) ?_
            simp only [nrm, Nat.reduceAdd, Nat.reduceMul, Nat.reduceSub, Int.reduceToNat, Int.reduceAdd]
            refine oblK_k rfl (fun z hz => (q_move)) ?_
            simp only [nrm, Nat.reduceAdd, Nat.reduceMul, Nat.reduceSub, Int.reduceToNat, Int.reduceAdd]
            refine oblK_index rfl rfl rfl slrA (by rfl) idxA idxA fun b56 o56 cs56 ha56 hr56 he56 => ?_
            simp only [nrm, Nat.reduceAdd, Nat.reduceMul, Nat.reduceSub, Int.reduceToNat, Int.reduceAdd]
            try simp only [Int.toNat_natCast, Int.reduceToNat, Int.toNat_zero] at hr56
            try simp only [Int.toNat_natCast, Int.reduceToNat, Int.toNat_zero] at he56
            clear ha56
            obtain ⟨w56_Reqs, rfl, h56_Reqs⟩ := kSpread.open hr56
            refine oblK_k rfl (fun z hz => by have hI := hz.1; first | exact q_loadN rfl (hz.has inferInstance) (Nat.le_of_ble_eq_true rfl) | exact q_load_atW rfl (hz.el (by assumption)) (by rfl) rfl | exact q_load_atN0 rfl (hz.el (by assumption)) rfl rfl | exact q_load_atN rfl (hz.el (by assumption)) rfl (Nat.le_of_ble_eq_true rfl) (Nat.le_of_ble_eq_true rfl)) ?_
            simp only [nrm, Nat.reduceAdd, Nat.reduceMul, Nat.reduceSub, Int.reduceToNat, Int.reduceAdd]
            refine oblK_k rfl (fun z hz => (q_fieldAddr rfl)) ?_
            simp only [nrm, Nat.reduceAdd, Nat.reduceMul, Nat.reduceSub, Int.reduceToNat, Int.reduceAdd]
            refine oblK_k rfl (fun z hz => by have hI := hz.1; first | exact q_load1 rfl (hz.has inferInstance) rfl | exact q_loadB1 rfl inferInstance rfl) ?_
            simp only [nrm, Nat.reduceAdd, Nat.reduceMul, Nat.reduceSub, Int.reduceToNat, Int.reduceAdd]
            refine oblK_k rfl (fun z hz => (q_move)) ?_
            simp only [nrm, Nat.reduceAdd, Nat.reduceMul, Nat.reduceSub, Int.reduceToNat, Int.reduceAdd]
            refine oblK_index rfl rfl rfl slrA (by rfl) idxA idxA fun b57 o57 cs57 ha57 hr57 he57 => ?_
            simp only [nrm, Nat.reduceAdd, Nat.reduceMul, Nat.reduceSub, Int.reduceToNat, Int.reduceAdd]
            try simp only [Int.toNat_natCast, Int.reduceToNat, Int.toNat_zero] at hr57
            try simp only [Int.toNat_natCast, Int.reduceToNat, Int.toNat_zero] at he57
            clear ha57
            obtain ⟨w57_Reqs, rfl, h57_Reqs⟩ := kSpread.open hr57
            refine oblK_k rfl (fun z hz => by have hI := hz.1; first | exact q_loadN rfl (hz.has inferInstance) (Nat.le_of_ble_eq_true rfl) | exact q_load_atW rfl (hz.el (by assumption)) (by rfl) rfl | exact q_load_atN0 rfl (hz.el (by assumption)) rfl rfl | exact q_load_atN rfl (hz.el (by assumption)) rfl (Nat.le_of_ble_eq_true rfl) (Nat.le_of_ble_eq_true rfl)) ?_
            simp only [nrm, Nat.reduceAdd, Nat.reduceMul, Nat.reduceSub, Int.reduceToNat, Int.reduceAdd]
            refine oblK_r ?_
            refine oblK_r ?_
            refine oblK_r ?_
            refine oblK_r ?_
            refine oblK_nil ?_
            refine restK_pick [10, 11] (by kernel_rfl) ⟨?_, ?_, trivial⟩
            · skip
              refine restK_op rfl ?_
              simp only [List.getElem_toArray, List.getElem_cons_zero, List.getElem_cons_succ]
              refine opsR_o rfl (o_alloc fun bX hbX => ?_)
              simp only [nrm, Nat.reduceAdd, Nat.reduceMul, Nat.reduceSub, Int.reduceToNat, Int.reduceAdd]
              refine opsR_nil ⟨rfl, rfl, ⟨by exact leA, by intro p hp; simp only [List.mem_cons, List.mem_append, hp, or_true, true_or]⟩, ?_⟩
              refine restK_pick [11] (by kernel_rfl) ⟨?_, trivial⟩
              refine restK_op rfl ?_
              simp only [List.getElem_toArray, List.getElem_cons_zero, List.getElem_cons_succ]
              refine opsR_o rfl (o_alloc fun bY hbY => ?_)
              simp only [nrm, Nat.reduceAdd, Nat.reduceMul, Nat.reduceSub, Int.reduceToNat, Int.reduceAdd]
              refine opsR_nil ⟨rfl, rfl, ⟨by exact leA, by intro p hp; simp only [List.mem_cons, List.mem_append, hp, or_true, true_or]⟩, ?_⟩
              refine restK_pick [12] (by kernel_rfl) ⟨?_, trivial⟩
              refine restK_op rfl ?_
              simp only [List.getElem_toArray, List.getElem_cons_zero, List.getElem_cons_succ]
              refine opsR_o rfl (o_storeB rfl rfl inferInstance (by first | rfl | assumption) (by first | rfl | exact Kd.one _ (by assumption) | assumption) (by first | rfl | (refine Nat.ble_eq_true_of_le ?_; (try simp only [Int.toNat_natCast]); omega)) ?_)
              simp only [nrm, Nat.reduceAdd, Nat.reduceMul, Nat.reduceSub, Int.reduceToNat, Int.reduceAdd]
              refine opsR_nil ⟨rfl, rfl, ⟨by exact leA, by intro p hp; simp only [List.mem_cons, List.mem_append, hp, or_true, true_or]⟩, ?_⟩
              refine restK_pick [13] (by kernel_rfl) ⟨?_, trivial⟩
              refine restK_op rfl ?_
              simp only [List.getElem_toArray, List.getElem_cons_zero, List.getElem_cons_succ]
              refine opsR_o rfl (o_storeB rfl rfl inferInstance (by first | rfl | assumption) (by first | rfl | exact Kd.one _ (by assumption) | assumption) (by first | rfl | (refine Nat.ble_eq_true_of_le ?_; (try simp only [Int.toNat_natCast]); omega)) ?_)
              simp only [nrm, Nat.reduceAdd, Nat.reduceMul, Nat.reduceSub, Int.reduceToNat, Int.reduceAdd]
              refine opsR_nil ⟨rfl, rfl, ⟨by exact leA, by intro p hp; simp only [List.mem_cons, List.mem_append, hp, or_true, true_or]⟩, ?_⟩
              refine restK_end rfl ?_
              try simp only [nrm, Nat.reduceAdd, Nat.reduceMul, Nat.reduceSub, Int.reduceToNat, Int.reduceAdd]
              refine hk55 _ _ ?_
              clear hk55
              refine run_seq fun _ hk60 => ?_
              refine run_region ?_
              refine opsR_q rfl (q_fieldAddr rfl) ?_
              simp only [nrm, Nat.reduceAdd, Nat.reduceMul, Nat.reduceSub, Int.reduceToNat, Int.reduceAdd]
              refine opsR_q rfl (q_loadB1 rfl inferInstance rfl) ?_
              simp only [nrm, Nat.reduceAdd, Nat.reduceMul, Nat.reduceSub, Int.reduceToNat, Int.reduceAdd]
              refine opsR_q rfl (q_fieldAddr rfl) ?_
              simp only [nrm, Nat.reduceAdd, Nat.reduceMul, Nat.reduceSub, Int.reduceToNat, Int.reduceAdd]
              refine opsR_q rfl (q_loadB1 rfl inferInstance rfl) ?_
              simp only [nrm, Nat.reduceAdd, Nat.reduceMul, Nat.reduceSub, Int.reduceToNat, Int.reduceAdd]
              refine opsR_q rfl (q_neq_string rfl rfl) ?_
              simp only [nrm, Nat.reduceAdd, Nat.reduceMul, Nat.reduceSub, Int.reduceToNat, Int.reduceAdd]
              refine opsR_qb rfl (q_move) (fun h => absurd h (by simp)) (fun _ => ?_)
              simp only [nrm, Nat.reduceAdd, Nat.reduceMul, Nat.reduceSub, Int.reduceToNat, Int.reduceAdd]
              refine opsR_q rfl (q_fieldAddr rfl) ?_
              simp only [nrm, Nat.reduceAdd, Nat.reduceMul, Nat.reduceSub, Int.reduceToNat, Int.reduceAdd]
              refine opsR_q rfl (q_loadB1 rfl inferInstance rfl) ?_
              simp only [nrm, Nat.reduceAdd, Nat.reduceMul, Nat.reduceSub, Int.reduceToNat, Int.reduceAdd]
              refine opsR_q rfl (q_fieldAddr rfl) ?_
              simp only [nrm, Nat.reduceAdd, Nat.reduceMul, Nat.reduceSub, Int.reduceToNat, Int.reduceAdd]
              refine opsR_q rfl (q_loadB1 rfl inferInstance rfl) ?_
              simp only [nrm, Nat.reduceAdd, Nat.reduceMul, Nat.reduceSub, Int.reduceToNat, Int.reduceAdd]
              refine opsR_q rfl (q_neq rfl rfl) ?_
              simp only [nrm, Nat.reduceAdd, Nat.reduceMul, Nat.reduceSub, Int.reduceToNat, Int.reduceAdd]
              refine opsR_q rfl (q_pick_f rfl) ?_
              simp only [nrm]
              refine opsR_qb rfl (q_move) (fun h => absurd h (by simp)) (fun _ => ?_)
              simp only [nrm, Nat.reduceAdd, Nat.reduceMul, Nat.reduceSub, Int.reduceToNat, Int.reduceAdd]
              refine opsR_q rfl (q_fieldAddr rfl) ?_
              simp only [nrm, Nat.reduceAdd, Nat.reduceMul, Nat.reduceSub, Int.reduceToNat, Int.reduceAdd]
              refine opsR_q rfl (q_loadB1 rfl inferInstance rfl) ?_
              simp only [nrm, Nat.reduceAdd, Nat.reduceMul, Nat.reduceSub, Int.reduceToNat, Int.reduceAdd]
              refine opsR_q rfl (q_fieldAddr rfl) ?_
              simp only [nrm, Nat.reduceAdd, Nat.reduceMul, Nat.reduceSub, Int.reduceToNat, Int.reduceAdd]
              refine opsR_q rfl (q_loadB1 rfl inferInstance rfl) ?_
              simp only [nrm, Nat.reduceAdd, Nat.reduceMul, Nat.reduceSub, Int.reduceToNat, Int.reduceAdd]
              refine opsR_q rfl (q_neq rfl rfl) ?_
              simp only [nrm, Nat.reduceAdd, Nat.reduceMul, Nat.reduceSub, Int.reduceToNat, Int.reduceAdd]
              refine opsR_q rfl (q_pick_f rfl) ?_
              simp only [nrm]
              refine opsR_qb rfl (q_move) (fun h => absurd h (by simp)) (fun _ => ?_)
              simp only [nrm, Nat.reduceAdd, Nat.reduceMul, Nat.reduceSub, Int.reduceToNat, Int.reduceAdd]
              refine opsR_q rfl (q_fieldAddr rfl) ?_
              simp only [nrm, Nat.reduceAdd, Nat.reduceMul, Nat.reduceSub, Int.reduceToNat, Int.reduceAdd]
              refine opsR_q rfl (q_loadB1 rfl inferInstance rfl) ?_
              simp only [nrm, Nat.reduceAdd, Nat.reduceMul, Nat.reduceSub, Int.reduceToNat, Int.reduceAdd]
              refine opsR_q rfl (q_fieldAddr rfl) ?_
              simp only [nrm, Nat.reduceAdd, Nat.reduceMul, Nat.reduceSub, Int.reduceToNat, Int.reduceAdd]
              refine opsR_q rfl (q_loadB1 rfl inferInstance rfl) ?_
              simp only [nrm, Nat.reduceAdd, Nat.reduceMul, Nat.reduceSub, Int.reduceToNat, Int.reduceAdd]
              refine opsR_q rfl (q_call rfl (SameReqs_spec (by first | assumption | (refine Sl.mono ?_ (by assumption); exact leA)) (by first | assumption | (refine Sl.mono ?_ (by assumption); exact leA)))) ?_
              simp only [nrm, Nat.reduceAdd, Nat.reduceMul, Nat.reduceSub, Int.reduceToNat, Int.reduceAdd]
              refine opsR_q rfl (q_not rfl) ?_
              simp only [nrm]
              refine opsR_q rfl (q_pick_f rfl) ?_
              simp only [nrm]
              refine opsR_nil ?_
              refine hk60 _ _ ?_
              clear hk60
              refine run_cond rfl (fun ho63 => ?_) (fun ho63 => ?_)
              · have hc63 := ho63; try simp only [spl] at hc63
                refine run_seq fun _ hk64 => ?_
                first | exact absurd rfl hc63 | exact absurd trivial hc63 | exact absurd hc63 (by simp)
              · have hc63 := ho63; try simp only [spl] at hc63
                refine run_skip ?_
                refine hk54 _ _ ?_
                clear hk54
                refine run_gh Gh.drop2 ?_
                refine run_region ?_
                refine opsR_q rfl (q_move) ?_
                simp only [nrm]
                refine opsR_q rfl (by first | exact q_add64 rfl rfl (by omega) (by omega) | exact q_add rfl rfl) ?_
                simp only [nrm, Nat.reduceAdd, Nat.reduceMul, Nat.reduceSub, Int.reduceToNat, Int.reduceAdd]
                refine opsR_q rfl (q_assign) ?_
                simp only [nrm]
                refine opsR_nil ?_
                first
                | exact hkl48 _ _ _ _ (by omega) ⟨i + 1, _, _, rfl, rfl, rfl, by first | assumption | omega | exact Hp.le.rfl | rfl | exact all_zero | exact all_succ (by assumption) (by assumption) | (intro _; omega) | (simp; done)⟩ rfl
            · skip
              refine restK_op rfl ?_
              simp only [List.getElem_toArray, List.getElem_cons_zero, List.getElem_cons_succ]
              refine opsR_o rfl (o_alloc fun bY hbY => ?_)
              simp only [nrm, Nat.reduceAdd, Nat.reduceMul, Nat.reduceSub, Int.reduceToNat, Int.reduceAdd]
              refine opsR_nil ⟨rfl, rfl, ⟨by exact leA, by intro p hp; simp only [List.mem_cons, List.mem_append, hp, or_true, true_or]⟩, ?_⟩
              refine restK_pick [10] (by kernel_rfl) ⟨?_, trivial⟩
              refine restK_op rfl ?_
              simp only [List.getElem_toArray, List.getElem_cons_zero, List.getElem_cons_succ]
              refine opsR_o rfl (o_alloc fun bX hbX => ?_)
              simp only [nrm, Nat.reduceAdd, Nat.reduceMul, Nat.reduceSub, Int.reduceToNat, Int.reduceAdd]
              refine opsR_nil ⟨rfl, rfl, ⟨by exact leA, by intro p hp; simp only [List.mem_cons, List.mem_append, hp, or_true, true_or]⟩, ?_⟩
              refine restK_pick [12] (by kernel_rfl) ⟨?_, trivial⟩
              refine restK_op rfl ?_
              simp only [List.getElem_toArray, List.getElem_cons_zero, List.getElem_cons_succ]
              refine opsR_o rfl (o_storeB rfl rfl inferInstance (by first | rfl | assumption) (by first | rfl | exact Kd.one _ (by assumption) | assumption) (by first | rfl | (refine Nat.ble_eq_true_of_le ?_; (try simp only [Int.toNat_natCast]); omega)) ?_)
              simp only [nrm, Nat.reduceAdd, Nat.reduceMul, Nat.reduceSub, Int.reduceToNat, Int.reduceAdd]
              refine opsR_nil ⟨rfl, rfl, ⟨by exact leA, by intro p hp; simp only [List.mem_cons, List.mem_append, hp, or_true, true_or]⟩, ?_⟩
              refine restK_pick [13] (by kernel_rfl) ⟨?_, trivial⟩
              refine restK_op rfl ?_
              simp only [List.getElem_toArray, List.getElem_cons_zero, List.getElem_cons_succ]
              refine opsR_o rfl (o_storeB rfl rfl inferInstance (by first | rfl | assumption) (by first | rfl | exact Kd.one _ (by assumption) | assumption) (by first | rfl | (refine Nat.ble_eq_true_of_le ?_; (try simp only [Int.toNat_natCast]); omega)) ?_)
              simp only [nrm, Nat.reduceAdd, Nat.reduceMul, Nat.reduceSub, Int.reduceToNat, Int.reduceAdd]
              refine opsR_nil ⟨rfl, rfl, ⟨by exact leA, by intro p hp; simp only [List.mem_cons, List.mem_append, hp, or_true, true_or]⟩, ?_⟩
              refine restK_end rfl ?_
              try simp only [nrm, Nat.reduceAdd, Nat.reduceMul, Nat.reduceSub, Int.reduceToNat, Int.reduceAdd]
              refine hk55 _ _ ?_
              clear hk55
              refine run_seq fun _ hk67 => ?_
              refine run_region ?_
              refine opsR_q rfl (q_fieldAddr rfl) ?_
              simp only [nrm, Nat.reduceAdd, Nat.reduceMul, Nat.reduceSub, Int.reduceToNat, Int.reduceAdd]
              refine opsR_q rfl (q_loadB1 rfl inferInstance rfl) ?_
              simp only [nrm, Nat.reduceAdd, Nat.reduceMul, Nat.reduceSub, Int.reduceToNat, Int.reduceAdd]
              refine opsR_q rfl (q_fieldAddr rfl) ?_
              simp only [nrm, Nat.reduceAdd, Nat.reduceMul, Nat.reduceSub, Int.reduceToNat, Int.reduceAdd]
              refine opsR_q rfl (q_loadB1 rfl inferInstance rfl) ?_
              simp only [nrm, Nat.reduceAdd, Nat.reduceMul, Nat.reduceSub, Int.reduceToNat, Int.reduceAdd]
              refine opsR_q rfl (q_neq_string rfl rfl) ?_
              simp only [nrm, Nat.reduceAdd, Nat.reduceMul, Nat.reduceSub, Int.reduceToNat, Int.reduceAdd]
              refine opsR_qb rfl (q_move) (fun h => absurd h (by simp)) (fun _ => ?_)
              simp only [nrm, Nat.reduceAdd, Nat.reduceMul, Nat.reduceSub, Int.reduceToNat, Int.reduceAdd]
              refine opsR_q rfl (q_fieldAddr rfl) ?_
              simp only [nrm, Nat.reduceAdd, Nat.reduceMul, Nat.reduceSub, Int.reduceToNat, Int.reduceAdd]
              refine opsR_q rfl (q_loadB1 rfl inferInstance rfl) ?_
              simp only [nrm, Nat.reduceAdd, Nat.reduceMul, Nat.reduceSub, Int.reduceToNat, Int.reduceAdd]
              refine opsR_q rfl (q_fieldAddr rfl) ?_
              simp only [nrm, Nat.reduceAdd, Nat.reduceMul, Nat.reduceSub, Int.reduceToNat, Int.reduceAdd]
              refine opsR_q rfl (q_loadB1 rfl inferInstance rfl) ?_
              simp only [nrm, Nat.reduceAdd, Nat.reduceMul, Nat.reduceSub, Int.reduceToNat, Int.reduceAdd]
              refine opsR_q rfl (q_neq rfl rfl) ?_
              simp only [nrm, Nat.reduceAdd, Nat.reduceMul, Nat.reduceSub, Int.reduceToNat, Int.reduceAdd]
              refine opsR_q rfl (q_pick_f rfl) ?_
              simp only [nrm]
              refine opsR_qb rfl (q_move) (fun h => absurd h (by simp)) (fun _ => ?_)
              simp only [nrm, Nat.reduceAdd, Nat.reduceMul, Nat.reduceSub, Int.reduceToNat, Int.reduceAdd]
              refine opsR_q rfl (q_fieldAddr rfl) ?_
              simp only [nrm, Nat.reduceAdd, Nat.reduceMul, Nat.reduceSub, Int.reduceToNat, Int.reduceAdd]
              refine opsR_q rfl (q_loadB1 rfl inferInstance rfl) ?_
              simp only [nrm, Nat.reduceAdd, Nat.reduceMul, Nat.reduceSub, Int.reduceToNat, Int.reduceAdd]
              refine opsR_q rfl (q_fieldAddr rfl) ?_
              simp only [nrm, Nat.reduceAdd, Nat.reduceMul, Nat.reduceSub, Int.reduceToNat, Int.reduceAdd]
              refine opsR_q rfl (q_loadB1 rfl inferInstance rfl) ?_
              simp only [nrm, Nat.reduceAdd, Nat.reduceMul, Nat.reduceSub, Int.reduceToNat, Int.reduceAdd]
              refine opsR_q rfl (q_neq rfl rfl) ?_
              simp only [nrm, Nat.reduceAdd, Nat.reduceMul, Nat.reduceSub, Int.reduceToNat, Int.reduceAdd]
              refine opsR_q rfl (q_pick_f rfl) ?_
              simp only [nrm]
              refine opsR_qb rfl (q_move) (fun h => absurd h (by simp)) (fun _ => ?_)
              simp only [nrm, Nat.reduceAdd, Nat.reduceMul, Nat.reduceSub, Int.reduceToNat, Int.reduceAdd]
              refine opsR_q rfl (q_fieldAddr rfl) ?_
              simp only [nrm, Nat.reduceAdd, Nat.reduceMul, Nat.reduceSub, Int.reduceToNat, Int.reduceAdd]
              refine opsR_q rfl (q_loadB1 rfl inferInstance rfl) ?_
              simp only [nrm, Nat.reduceAdd, Nat.reduceMul, Nat.reduceSub, Int.reduceToNat, Int.reduceAdd]
              refine opsR_q rfl (q_fieldAddr rfl) ?_
              simp only [nrm, Nat.reduceAdd, Nat.reduceMul, Nat.reduceSub, Int.reduceToNat, Int.reduceAdd]
              refine opsR_q rfl (q_loadB1 rfl inferInstance rfl) ?_
              simp only [nrm, Nat.reduceAdd, Nat.reduceMul, Nat.reduceSub, Int.reduceToNat, Int.reduceAdd]
              refine opsR_q rfl (q_call rfl (SameReqs_spec (by first | assumption | (refine Sl.mono ?_ (by assumption); exact leA)) (by first | assumption | (refine Sl.mono ?_ (by assumption); exact leA)))) ?_
              simp only [nrm, Nat.reduceAdd, Nat.reduceMul, Nat.reduceSub, Int.reduceToNat, Int.reduceAdd]
              refine opsR_q rfl (q_not rfl) ?_
              simp only [nrm]
              refine opsR_q rfl (q_pick_f rfl) ?_
              simp only [nrm]
              refine opsR_nil ?_
              refine hk67 _ _ ?_
              clear hk67
              refine run_cond rfl (fun ho70 => ?_) (fun ho70 => ?_)
              · have hc70 := ho70; try simp only [spl] at hc70
                refine run_seq fun _ hk71 => ?_
                first | exact absurd rfl hc70 | exact absurd trivial hc70 | exact absurd hc70 (by simp)
              · have hc70 := ho70; try simp only [spl] at hc70
                refine run_skip ?_
                refine hk54 _ _ ?_
                clear hk54
                refine run_gh Gh.drop2 ?_
                refine run_region ?_
                refine opsR_q rfl (q_move) ?_
                simp only [nrm]
                refine opsR_q rfl (by first | exact q_add64 rfl rfl (by omega) (by omega) | exact q_add rfl rfl) ?_
                simp only [nrm, Nat.reduceAdd, Nat.reduceMul, Nat.reduceSub, Int.reduceToNat, Int.reduceAdd]
                refine opsR_q rfl (q_assign) ?_
                simp only [nrm]
                refine opsR_nil ?_
                first
                | exact hkl48 _ _ _ _ (by omega) ⟨i + 1, _, _, rfl, rfl, rfl, by first | assumption | omega | exact Hp.le.rfl | rfl | exact all_zero | exact all_succ (by assumption) (by assumption) | (intro _; omega) | (simp; done)⟩ rfl
          · have hc53 := ho53; try simp only [spl] at hc53
            refine run_exit ?_
            refine hk46 _ _ ?_
            clear hk46
            refine run_seq fun _ hk72 => ?_
            refine run_region ?_
            refine opsR_q rfl (q_assign) ?_
            simp only [nrm]
            refine opsR_nil ?_
            refine hk72 _ _ ?_
            clear hk72
            refine run_ret ?_
            exact end_tmp rfl rfl rfl ghA hK
end
end Go.Proofs.YtcnbcblihepbmaaGreatDoor
