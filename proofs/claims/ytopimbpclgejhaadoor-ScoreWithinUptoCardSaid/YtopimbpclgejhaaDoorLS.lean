/- Laws of package score: the measures. -/
import Derived.Test.YtopimbpclgejhaaDoorSC3
import Derived.Test.YtopimbpclgejhaaDoorMT
import Derived.Test.YtopimbpclgejhaaDoorS21
set_option autoImplicit false
set_option linter.unusedVariables false
set_option linter.unusedSimpArgs false
namespace Go.Proofs.YtopimbpclgejhaaDoor
open Go Go.RowKit
theorem mem_bulk {α : Type} {k : Kd α} {l : List α} {x : α} (h : x ∈ l) : k.bulk x + 1 ≤ k.slice.bulk l := by
  have : k.bulk x ≤ (l.map k.bulk).sum := by
    induction l with
    | nil => cases h
    | cons y l ih =>
      rw [List.map_cons, List.sum_cons]
      rcases List.mem_cons.1 h with rfl | h
      · omega
      · have := ih h; omega
  exact Nat.succ_le_succ this
theorem label_bulk (x : Label) : x.Value.size ≤ kLabel.bulk x := by
  simp only [kLabel, Kd.iso, Kd.pair, kStr]; omega
theorem info_bulk (x : Info) : kTaint.slice.bulk x.Node.Taints ≤ kInfo.bulk x ∧ kLabel.slice.bulk x.Node.Labels ≤ kInfo.bulk x := by
  simp only [kInfo, kNode, Kd.iso, Kd.pair]; constructor <;> omega
theorem req_bulk (x : Req) : kStr.slice.bulk x.Values ≤ kReq.bulk x := by
  simp only [kReq, Kd.iso, Kd.pair]; omega
theorem prefer_bulk (x : Prefer) : kReq.slice.bulk x.Reqs + 1 ≤ kPrefer.bulk x := by
  simp only [kPrefer, Kd.iso, Kd.pair, kInt]; omega
theorem pod_bulk (x : Pod) : kPrefer.slice.bulk x.Prefers ≤ kPod.bulk x := by
  simp only [kPod, kRes, Kd.iso, Kd.pair]; omega
theorem taints_bulk (l : List Taint) : l.length + 1 ≤ kTaint.slice.bulk l := bulk_len (k := kTaint) (fun _ => Nat.le_trans (Nat.le_add_left 1 _) (Nat.le_add_right _ _)) l
theorem prefers_bulk (l : List Prefer) : l.length + 1 ≤ kPrefer.slice.bulk l := bulk_len (k := kPrefer) (fun x => by have := prefer_bulk x; omega) l
theorem infos_bulk (l : List Info) : l.length + 1 ≤ kInfo.slice.bulk l := bulk_len (k := kInfo) (fun x => by have h := info_bulk x; have := taints_bulk x.Node.Taints; omega) l
theorem reqsOk_of {l : List Req} {m : Nat} (h : kReq.slice.bulk l ≤ m) (hm : m ≤ 281474976710656) : ReqsOk l := fun r hr w hw => by
  have h1 := mem_bulk (k := kReq) hr
  have h2 := req_bulk r
  have h3 := mem_bulk (k := kStr) hw
  have h4 : kStr.bulk w = w.size + 1 := rfl
  omega
theorem infOk_of {x : Info} {m : Nat} (h : kInfo.bulk x ≤ m) (hm : m ≤ 1073741824) : InfOk x := by
  have hi := info_bulk x
  refine ⟨by have := taints_bulk x.Node.Taints; omega, fun y hy => ?_⟩
  have h1 := mem_bulk (k := kLabel) hy
  have h2 := label_bulk y
  omega
theorem podOk_of {p : Pod} {m : Nat} (h : kPod.bulk p ≤ m) (hm : m ≤ 1073741824) : PodOk p := by
  have hi := pod_bulk p
  refine ⟨by have := prefers_bulk p.Prefers; omega, fun q hq => ?_⟩
  have h1 := mem_bulk (k := kPrefer) hq
  have h2 := prefer_bulk q
  exact reqsOk_of (m := m) (by omega) (by omega)
section
attribute [local irreducible] Quiet OpsR Run CallS opS Gh endQ oblE RunN swp Go.Op.equalIn shyOf matchOf likedOf leastOf evenOf normOf
set_option maxHeartbeats 4000000 in
set_option maxRecDepth 20000 in
theorem ScoreMeasures_walk (a0 : Pod) (c0 : List Value) (a1 : List Info) (v1 : Value) (a2 : List Int) (v2 : Value) (a3 : Bool) (s : St) (hT : Tabs s.I) (h0 : kPod.rep s.I a0 c0) (ok0 : kPod.ok a0) (h1 : Sl kInfo s.I v1 a1) (ok1 : kInfo.slice.ok a1) (h2 : Sl (kInt .i64) s.I v2 a2) (ok2 : (kInt .i64).slice.ok a2) (ok3 : kBool.ok a3)
    (hb : kPod.bulk a0 + kInfo.slice.bulk a1 + (kInt .i64).slice.bulk a2 + kBool.bulk a3 ≤ 1048576) : CallS Tryd.prog 3 #[.agg c0.toArray, v1, v2, .bool a3] s (fun v s' => v = .bool true ∧ Hp.le s.I s'.I) := by
  have hb1 := infos_bulk a1
  have hb2 := bulk_len (k := kInt .i64) (fun _ => Nat.le_refl 1) a2
  have hn : ∀ x ∈ a1, InfOk x := fun x hx => infOk_of (m := 1048576) (by have := mem_bulk (k := kInfo) hx; omega) (by omega)
  have hq : PodOk a0 := podOk_of (m := 1048576) (by omega) (by omega)
  have hle1 := h1.len.le
  have h0' := h0
  obtain ⟨p1, p2, p3, p4, p5, p6, p7, p8, p9, rfl, g1, g2, g3, g4, g5, g6, g7, g8, g9⟩ := kPod.open h0
  refine callS_of_run Tryd.func3 rfl ?_; simp only [Tryd.ntmps3, List.size_toArray, List.length_cons, List.length_nil, Nat.reduceAdd, Nat.reduceSub, Array.replicate_succ, Array.replicate_zero, List.push_toArray, List.append_toArray, List.nil_append, List.cons_append]
  refine run_seq fun _ hk1 => ?_
  refine run_region ?_
  refine opsR_o rfl (o_box fun bPX hbPX => ?_)
  simp only [nrm, Nat.reduceAdd, Nat.reduceMul, Nat.reduceSub, Int.reduceToNat, Int.reduceAdd]
  refine opsR_q rfl (q_assign) ?_
  simp only [nrm, Nat.reduceAdd, Nat.reduceMul, Nat.reduceSub, Int.reduceToNat, Int.reduceAdd]
  refine opsR_nil ?_
  refine hk1 _ _ ?_
  clear hk1
  refine run_seq fun _ hk3 => ?_
  refine run_region ?_
  refine opsR_slice0 kInfo rfl fun v4 hs4 hv4 => ?_
  simp only [nrm, Nat.reduceAdd, Nat.reduceMul, Nat.reduceSub, Int.reduceToNat, Int.reduceAdd]
  refine opsR_q rfl (q_move) ?_
  simp only [nrm, Nat.reduceAdd, Nat.reduceMul, Nat.reduceSub, Int.reduceToNat, Int.reduceAdd]
  refine opsR_app rfl rfl rfl (by first | assumption | (refine OwnS.mono ?_ (by assumption); first | exact .rfl | assumption | exact le2 (by assumption) (by assumption) | exact le3 (by assumption) (by assumption) (by assumption) | exact le4 (by assumption) (by assumption) (by assumption) (by assumption) | exact le5 (by assumption) (by assumption) (by assumption) (by assumption) (by assumption) | exact le6 (by assumption) (by assumption) (by assumption) (by assumption) (by assumption) (by assumption))) (by infer_instance) (by first | exact Sl.r (by assumption) (by first | exact .rfl | assumption | exact le2 (by assumption) (by assumption) | exact le3 (by assumption) (by assumption) (by assumption) | exact le4 (by assumption) (by assumption) (by assumption) (by assumption) | exact le5 (by assumption) (by assumption) (by assumption) (by assumption) (by assumption) | exact le6 (by assumption) (by assumption) (by assumption) (by assumption) (by assumption) (by assumption)) | (refine OwnS.r (OwnS.mono ?_ (by assumption)) (by intro p hp; simp only [List.mem_append, List.mem_cons, hp, true_or, or_true]); first | exact .rfl | assumption | exact le2 (by assumption) (by assumption) | exact le3 (by assumption) (by assumption) (by assumption) | exact le4 (by assumption) (by assumption) (by assumption) (by assumption) | exact le5 (by assumption) (by assumption) (by assumption) (by assumption) (by assumption) | exact le6 (by assumption) (by assumption) (by assumption) (by assumption) (by assumption) (by assumption)) | assumption) (by rfl) (by rfl) rfl rfl (by first | omega | ((try simp only [List.length_append, List.length_cons, List.length_nil, List.length_set, List.length_replicate, List.length_take, List.length_drop, List.length_map] at *); omega)) fun v6 hs6 hv6 => ?_
  simp only [nrm, Nat.reduceAdd, Nat.reduceMul, Nat.reduceSub, Int.reduceToNat, Int.reduceAdd]
  simp only [List.nil_append] at hv6; refine opsR_fz hv6 (by infer_instance) fun JF6 hJF6 hv6 => ?_; try dsimp only at hJF6; try (have hrF6 : Hp.le s.I JF6 := (by first | exact .rfl | assumption | exact le2 (by assumption) (by assumption) | exact le3 (by assumption) (by assumption) (by assumption) | exact le4 (by assumption) (by assumption) (by assumption) (by assumption) | exact le5 (by assumption) (by assumption) (by assumption) (by assumption) (by assumption) | exact le6 (by assumption) (by assumption) (by assumption) (by assumption) (by assumption) (by assumption)); have hJF6 := hJF6); try simp only [nrm, Nat.reduceAdd, Nat.reduceMul, Nat.reduceSub, Int.reduceToNat, Int.reduceAdd]
  refine opsR_q rfl (q_assign) ?_
  simp only [nrm, Nat.reduceAdd, Nat.reduceMul, Nat.reduceSub, Int.reduceToNat, Int.reduceAdd]
  refine opsR_nil ?_
  refine hk3 _ _ ?_
  clear hk3
  refine run_seq fun _ hk8 => ?_
  refine run_region ?_
  refine opsR_q rfl (q_move) ?_
  simp only [nrm, Nat.reduceAdd, Nat.reduceMul, Nat.reduceSub, Int.reduceToNat, Int.reduceAdd]
  refine opsR_o rfl (o_call rfl (Ints_spec _ _ _ (by first | assumption | (refine Sl.mono ?_ (by assumption); first | exact .rfl | assumption | exact le2 (by assumption) (by assumption) | exact le3 (by assumption) (by assumption) (by assumption) | exact le4 (by assumption) (by assumption) (by assumption) (by assumption) | exact le5 (by assumption) (by assumption) (by assumption) (by assumption) (by assumption) | exact le6 (by assumption) (by assumption) (by assumption) (by assumption) (by assumption) (by assumption))) (by omega) _ fun vB JB hJB hvB => ?_))
  try dsimp only at hJB hvB
  try (have hrB : Hp.le s.I JB := (by first | exact .rfl | assumption | exact le2 (by assumption) (by assumption) | exact le3 (by assumption) (by assumption) (by assumption) | exact le4 (by assumption) (by assumption) (by assumption) (by assumption) | exact le5 (by assumption) (by assumption) (by assumption) (by assumption) (by assumption) | exact le6 (by assumption) (by assumption) (by assumption) (by assumption) (by assumption) (by assumption)); have hJB := hJB)
  simp only [nrm, Nat.reduceAdd, Nat.reduceMul, Nat.reduceSub, Int.reduceToNat, Int.reduceAdd]
  refine opsR_q rfl (q_assign) ?_
  simp only [nrm, Nat.reduceAdd, Nat.reduceMul, Nat.reduceSub, Int.reduceToNat, Int.reduceAdd]
  refine opsR_nil ?_
  refine hk8 _ _ ?_
  clear hk8
  refine run_seq fun _ hk12 => ?_
  refine run_seq fun _ hk13 => ?_
  refine run_region ?_
  refine opsR_q rfl (q_assign) ?_
  simp only [nrm, Nat.reduceAdd, Nat.reduceMul, Nat.reduceSub, Int.reduceToNat, Int.reduceAdd]
  refine opsR_nil ?_
  refine hk13 _ _ ?_
  clear hk13
  refine run_block ?_
  refine run_loopF [0, 0, 0, 0, 0, 0, 0, 0, 1, 0, 0, 2, 0, 0, 0, 0, 0, 1, 1, 1, 1, 1, 1, 1, 1, 1, 1, 1, 1, 1, 1, 1, 1, 1, 1, 1, 1, 1, 1, 1, 1, 1, 1, 1, 1, 1, 1, 1, 1, 1, 1, 0, 0, 0, 0, 0, 0, 0, 0, 0, 0, 0, 0, 0, 0, 0, 0, 0, 0, 0, 0, 0, 0, 0, 0, 0, 0, 0, 0, 0, 0, 0, 0, 0] (fun zn zL zst => ∃ (i : Nat), zL = [.int .i64 (i : Nat)] ∧ ⟨JB, (bPX, .cells #[.string a0.Name, .int .i64 a0.Priority, p1, .int .i64 a0.Want.CPU, .int .i64 a0.Want.Mem, .int .i64 a0.Want.Disk, p2, p3, p4, p5, p6, p7, p8, p9, .string a0.Node, .string a0.Hope] 33 (0, 0)) :: s.cs⟩ = zst ∧ zn = a1.length - i ∧ (i ≤ a1.length)) _ _ ⟨0, rfl, rfl, rfl, by first | assumption | omega | exact Hp.le.rfl | rfl | exact all_zero | exact all_succ (by assumption) (by assumption) | (intro _; omega) | (simp; done)⟩ rfl ?_
  rintro _ _ _ jv14 ⟨i, rfl, rfl, rfl, hi⟩ K14 hkl14
  simp only [fr, Nat.zero_add, Nat.reduceAdd]
  refine run_seq fun _ hk15 => ?_
  refine run_seq fun _ hk16 => ?_
  refine run_region ?_
  refine opsR_q rfl (q_move) ?_
  simp only [nrm, Nat.reduceAdd, Nat.reduceMul, Nat.reduceSub, Int.reduceToNat, Int.reduceAdd]
  refine opsR_q rfl (q_move) ?_
  simp only [nrm, Nat.reduceAdd, Nat.reduceMul, Nat.reduceSub, Int.reduceToNat, Int.reduceAdd]
  refine opsR_q rfl (q_len_v rfl (by first | exact Sl.len (by assumption) | exact OwnS.len (by assumption) | exact SlR.len (by assumption) | assumption)) ?_
  simp only [nrm, Nat.reduceAdd, Nat.reduceMul, Nat.reduceSub, Int.reduceToNat, Int.reduceAdd]
  refine opsR_q rfl (q_lss rfl rfl) ?_
  simp only [nrm, Nat.reduceAdd, Nat.reduceMul, Nat.reduceSub, Int.reduceToNat, Int.reduceAdd]
  refine opsR_nil ?_
  refine hk16 _ _ ?_
  clear hk16
  refine run_cond rfl (fun ho19 => ?_) (fun ho19 => ?_)
  · have hc19 := ho19; try simp only [spl] at hc19
    refine run_skip ?_
    refine hk15 _ _ ?_
    clear hk15
    refine run_seq fun _ hk20 => ?_
    refine run_block ?_
    refine run_seq fun _ hk21 => ?_
    refine run_drawE mixed 28 (by kernel_rfl) rfl ?_
    simp only [List.take_succ_cons, List.take_zero, List.drop_succ_cons, List.drop_zero, List.drop_nil, List.take_nil]
    refine oblE_q rfl (fun I hI => (by first | exact q_loadBN rfl inferInstance (by rfl) | exact q_loadBW rfl inferInstance (by assumption))) ?_
    simp only [nrm, Nat.reduceAdd, Nat.reduceMul, Nat.reduceSub, Int.reduceToNat, Int.reduceAdd]
    refine oblE_q rfl (fun I hI => (q_move)) ?_
    simp only [nrm, Nat.reduceAdd, Nat.reduceMul, Nat.reduceSub, Int.reduceToNat, Int.reduceAdd]
    refine oblE_q rfl (fun I hI => (q_move)) ?_
    simp only [nrm, Nat.reduceAdd, Nat.reduceMul, Nat.reduceSub, Int.reduceToNat, Int.reduceAdd]
    refine oblE_index rfl rfl rfl (by first | exact Sl.r (by assumption) (by first | exact .rfl | assumption | exact le2 (by assumption) (by assumption) | exact le3 (by assumption) (by assumption) (by assumption) | exact le4 (by assumption) (by assumption) (by assumption) (by assumption) | exact le5 (by assumption) (by assumption) (by assumption) (by assumption) (by assumption) | exact le6 (by assumption) (by assumption) (by assumption) (by assumption) (by assumption) (by assumption)) | (refine OwnS.r (OwnS.mono ?_ (by assumption)) (by intro p hp; simp only [List.mem_append, List.mem_cons, hp, true_or, or_true]); first | exact .rfl | assumption | exact le2 (by assumption) (by assumption) | exact le3 (by assumption) (by assumption) (by assumption) | exact le4 (by assumption) (by assumption) (by assumption) (by assumption) | exact le5 (by assumption) (by assumption) (by assumption) (by assumption) (by assumption) | exact le6 (by assumption) (by assumption) (by assumption) (by assumption) (by assumption) (by assumption)) | assumption) (by rfl) (by first | omega | ((try simp only [List.length_append, List.length_cons, List.length_nil, List.length_set, List.length_replicate, List.length_take, List.length_drop, List.length_map] at *); omega)) (by first | omega | ((try simp only [List.length_append, List.length_cons, List.length_nil, List.length_set, List.length_replicate, List.length_take, List.length_drop, List.length_map] at *); omega)) fun b24 o24 cs24 ha24 hr24 he24 => ?_
    simp only [nrm, Nat.reduceAdd, Nat.reduceMul, Nat.reduceSub, Int.reduceToNat, Int.reduceAdd]
    try simp only [Int.toNat_natCast, Int.reduceToNat, Int.toNat_zero] at hr24
    try simp only [Int.toNat_natCast, Int.reduceToNat, Int.toNat_zero] at he24
    clear ha24
    obtain ⟨w24_Node_Labels, w24_Node_Taints, w24_Names, w24_Ports, w24_Disks, rfl, h24_Node_Labels, h24_Node_Taints, h24_Names, h24_Ports, h24_Disks⟩ := kInfo.open hr24
    refine oblE_q rfl (fun I hI => (by first | exact q_load_atW rfl (El.mono (by assumption) hI) (by rfl) rfl | exact q_load_atN0 rfl (El.mono (by assumption) hI) rfl rfl | exact q_load_atN rfl (El.mono (by assumption) hI) rfl (Nat.le_of_ble_eq_true rfl) (Nat.le_of_ble_eq_true rfl))) ?_
    simp only [nrm, Nat.reduceAdd, Nat.reduceMul, Nat.reduceSub, Int.reduceToNat, Int.reduceAdd]
    refine oblE_q rfl (fun I hI => (q_call rfl (Least_spec _ _ _ _ _ (by first | assumption | (refine Kd.mono _ ?_ (by assumption); first | exact .rfl | assumption | exact le2 (by assumption) (by assumption) | exact le3 (by assumption) (by assumption) (by assumption) | exact le4 (by assumption) (by assumption) (by assumption) (by assumption) | exact le5 (by assumption) (by assumption) (by assumption) (by assumption) (by assumption) | exact le6 (by assumption) (by assumption) (by assumption) (by assumption) (by assumption) (by assumption))) (by first | assumption | (refine Kd.mono _ ?_ (by assumption); first | exact .rfl | assumption | exact le2 (by assumption) (by assumption) | exact le3 (by assumption) (by assumption) (by assumption) | exact le4 (by assumption) (by assumption) (by assumption) (by assumption) | exact le5 (by assumption) (by assumption) (by assumption) (by assumption) (by assumption) | exact le6 (by assumption) (by assumption) (by assumption) (by assumption) (by assumption) (by assumption)))))) ?_
    simp only [nrm, Nat.reduceAdd, Nat.reduceMul, Nat.reduceSub, Int.reduceToNat, Int.reduceAdd]
    refine oblE_q rfl (fun I hI => (by first | exact q_loadBN rfl inferInstance (by rfl) | exact q_loadBW rfl inferInstance (by assumption))) ?_
    simp only [nrm, Nat.reduceAdd, Nat.reduceMul, Nat.reduceSub, Int.reduceToNat, Int.reduceAdd]
    refine oblE_q rfl (fun I hI => (q_move)) ?_
    simp only [nrm, Nat.reduceAdd, Nat.reduceMul, Nat.reduceSub, Int.reduceToNat, Int.reduceAdd]
    refine oblE_q rfl (fun I hI => (q_move)) ?_
    simp only [nrm, Nat.reduceAdd, Nat.reduceMul, Nat.reduceSub, Int.reduceToNat, Int.reduceAdd]
    refine oblE_index rfl rfl rfl (by first | exact Sl.r (by assumption) (by first | exact .rfl | assumption | exact le2 (by assumption) (by assumption) | exact le3 (by assumption) (by assumption) (by assumption) | exact le4 (by assumption) (by assumption) (by assumption) (by assumption) | exact le5 (by assumption) (by assumption) (by assumption) (by assumption) (by assumption) | exact le6 (by assumption) (by assumption) (by assumption) (by assumption) (by assumption) (by assumption)) | (refine OwnS.r (OwnS.mono ?_ (by assumption)) (by intro p hp; simp only [List.mem_append, List.mem_cons, hp, true_or, or_true]); first | exact .rfl | assumption | exact le2 (by assumption) (by assumption) | exact le3 (by assumption) (by assumption) (by assumption) | exact le4 (by assumption) (by assumption) (by assumption) (by assumption) | exact le5 (by assumption) (by assumption) (by assumption) (by assumption) (by assumption) | exact le6 (by assumption) (by assumption) (by assumption) (by assumption) (by assumption) (by assumption)) | assumption) (by rfl) (by first | omega | ((try simp only [List.length_append, List.length_cons, List.length_nil, List.length_set, List.length_replicate, List.length_take, List.length_drop, List.length_map] at *); omega)) (by first | omega | ((try simp only [List.length_append, List.length_cons, List.length_nil, List.length_set, List.length_replicate, List.length_take, List.length_drop, List.length_map] at *); omega)) fun b25 o25 cs25 ha25 hr25 he25 => ?_
    simp only [nrm, Nat.reduceAdd, Nat.reduceMul, Nat.reduceSub, Int.reduceToNat, Int.reduceAdd]
    try simp only [Int.toNat_natCast, Int.reduceToNat, Int.toNat_zero] at hr25
    try simp only [Int.toNat_natCast, Int.reduceToNat, Int.toNat_zero] at he25
    clear ha25
    obtain ⟨w25_Node_Labels, w25_Node_Taints, w25_Names, w25_Ports, w25_Disks, rfl, h25_Node_Labels, h25_Node_Taints, h25_Names, h25_Ports, h25_Disks⟩ := kInfo.open hr25
    refine oblE_q rfl (fun I hI => (by first | exact q_load_atW rfl (El.mono (by assumption) hI) (by rfl) rfl | exact q_load_atN0 rfl (El.mono (by assumption) hI) rfl rfl | exact q_load_atN rfl (El.mono (by assumption) hI) rfl (Nat.le_of_ble_eq_true rfl) (Nat.le_of_ble_eq_true rfl))) ?_
    simp only [nrm, Nat.reduceAdd, Nat.reduceMul, Nat.reduceSub, Int.reduceToNat, Int.reduceAdd]
    refine oblE_q rfl (fun I hI => (q_call rfl (refLeast_spec _ _ _ _ _ (by first | assumption | (refine Kd.mono _ ?_ (by assumption); first | exact .rfl | assumption | exact le2 (by assumption) (by assumption) | exact le3 (by assumption) (by assumption) (by assumption) | exact le4 (by assumption) (by assumption) (by assumption) (by assumption) | exact le5 (by assumption) (by assumption) (by assumption) (by assumption) (by assumption) | exact le6 (by assumption) (by assumption) (by assumption) (by assumption) (by assumption) (by assumption))) (by first | assumption | (refine Kd.mono _ ?_ (by assumption); first | exact .rfl | assumption | exact le2 (by assumption) (by assumption) | exact le3 (by assumption) (by assumption) (by assumption) | exact le4 (by assumption) (by assumption) (by assumption) (by assumption) | exact le5 (by assumption) (by assumption) (by assumption) (by assumption) (by assumption) | exact le6 (by assumption) (by assumption) (by assumption) (by assumption) (by assumption) (by assumption)))))) ?_
    simp only [nrm, Nat.reduceAdd, Nat.reduceMul, Nat.reduceSub, Int.reduceToNat, Int.reduceAdd]
    refine oblE_q rfl (fun I hI => (q_neq rfl rfl)) ?_
    simp only [nrm, Nat.reduceAdd, Nat.reduceMul, Nat.reduceSub, Int.reduceToNat, Int.reduceAdd]
    refine oblE_qb rfl (fun I hI => (q_move)) (fun h => absurd h (by simp)) (fun _ => ?_)
    simp only [nrm, Nat.reduceAdd, Nat.reduceMul, Nat.reduceSub, Int.reduceToNat, Int.reduceAdd]
    refine oblE_q rfl (fun I hI => (by first | exact q_loadBN rfl inferInstance (by rfl) | exact q_loadBW rfl inferInstance (by assumption))) ?_
    simp only [nrm, Nat.reduceAdd, Nat.reduceMul, Nat.reduceSub, Int.reduceToNat, Int.reduceAdd]
    refine oblE_q rfl (fun I hI => (q_move)) ?_
    simp only [nrm, Nat.reduceAdd, Nat.reduceMul, Nat.reduceSub, Int.reduceToNat, Int.reduceAdd]
    refine oblE_q rfl (fun I hI => (q_move)) ?_
    simp only [nrm, Nat.reduceAdd, Nat.reduceMul, Nat.reduceSub, Int.reduceToNat, Int.reduceAdd]
    refine oblE_index rfl rfl rfl (by first | exact Sl.r (by assumption) (by first | exact .rfl | assumption | exact le2 (by assumption) (by assumption) | exact le3 (by assumption) (by assumption) (by assumption) | exact le4 (by assumption) (by assumption) (by assumption) (by assumption) | exact le5 (by assumption) (by assumption) (by assumption) (by assumption) (by assumption) | exact le6 (by assumption) (by assumption) (by assumption) (by assumption) (by assumption) (by assumption)) | (refine OwnS.r (OwnS.mono ?_ (by assumption)) (by intro p hp; simp only [List.mem_append, List.mem_cons, hp, true_or, or_true]); first | exact .rfl | assumption | exact le2 (by assumption) (by assumption) | exact le3 (by assumption) (by assumption) (by assumption) | exact le4 (by assumption) (by assumption) (by assumption) (by assumption) | exact le5 (by assumption) (by assumption) (by assumption) (by assumption) (by assumption) | exact le6 (by assumption) (by assumption) (by assumption) (by assumption) (by assumption) (by assumption)) | assumption) (by rfl) (by first | omega | ((try simp only [List.length_append, List.length_cons, List.length_nil, List.length_set, List.length_replicate, List.length_take, List.length_drop, List.length_map] at *); omega)) (by first | omega | ((try simp only [List.length_append, List.length_cons, List.length_nil, List.length_set, List.length_replicate, List.length_take, List.length_drop, List.length_map] at *); omega)) fun b26 o26 cs26 ha26 hr26 he26 => ?_
    simp only [nrm, Nat.reduceAdd, Nat.reduceMul, Nat.reduceSub, Int.reduceToNat, Int.reduceAdd]
    try simp only [Int.toNat_natCast, Int.reduceToNat, Int.toNat_zero] at hr26
    try simp only [Int.toNat_natCast, Int.reduceToNat, Int.toNat_zero] at he26
    clear ha26
    obtain ⟨w26_Node_Labels, w26_Node_Taints, w26_Names, w26_Ports, w26_Disks, rfl, h26_Node_Labels, h26_Node_Taints, h26_Names, h26_Ports, h26_Disks⟩ := kInfo.open hr26
    refine oblE_q rfl (fun I hI => (by first | exact q_load_atW rfl (El.mono (by assumption) hI) (by rfl) rfl | exact q_load_atN0 rfl (El.mono (by assumption) hI) rfl rfl | exact q_load_atN rfl (El.mono (by assumption) hI) rfl (Nat.le_of_ble_eq_true rfl) (Nat.le_of_ble_eq_true rfl))) ?_
    simp only [nrm, Nat.reduceAdd, Nat.reduceMul, Nat.reduceSub, Int.reduceToNat, Int.reduceAdd]
    refine oblE_q rfl (fun I hI => (q_call rfl (Even_spec _ _ _ _ _ (by first | assumption | (refine Kd.mono _ ?_ (by assumption); first | exact .rfl | assumption | exact le2 (by assumption) (by assumption) | exact le3 (by assumption) (by assumption) (by assumption) | exact le4 (by assumption) (by assumption) (by assumption) (by assumption) | exact le5 (by assumption) (by assumption) (by assumption) (by assumption) (by assumption) | exact le6 (by assumption) (by assumption) (by assumption) (by assumption) (by assumption) (by assumption))) (by first | assumption | (refine Kd.mono _ ?_ (by assumption); first | exact .rfl | assumption | exact le2 (by assumption) (by assumption) | exact le3 (by assumption) (by assumption) (by assumption) | exact le4 (by assumption) (by assumption) (by assumption) (by assumption) | exact le5 (by assumption) (by assumption) (by assumption) (by assumption) (by assumption) | exact le6 (by assumption) (by assumption) (by assumption) (by assumption) (by assumption) (by assumption)))))) ?_
    simp only [nrm, Nat.reduceAdd, Nat.reduceMul, Nat.reduceSub, Int.reduceToNat, Int.reduceAdd]
    refine oblE_q rfl (fun I hI => (by first | exact q_loadBN rfl inferInstance (by rfl) | exact q_loadBW rfl inferInstance (by assumption))) ?_
    simp only [nrm, Nat.reduceAdd, Nat.reduceMul, Nat.reduceSub, Int.reduceToNat, Int.reduceAdd]
    refine oblE_q rfl (fun I hI => (q_move)) ?_
    simp only [nrm, Nat.reduceAdd, Nat.reduceMul, Nat.reduceSub, Int.reduceToNat, Int.reduceAdd]
    refine oblE_q rfl (fun I hI => (q_move)) ?_
    simp only [nrm, Nat.reduceAdd, Nat.reduceMul, Nat.reduceSub, Int.reduceToNat, Int.reduceAdd]
    refine oblE_index rfl rfl rfl (by first | exact Sl.r (by assumption) (by first | exact .rfl | assumption | exact le2 (by assumption) (by assumption) | exact le3 (by assumption) (by assumption) (by assumption) | exact le4 (by assumption) (by assumption) (by assumption) (by assumption) | exact le5 (by assumption) (by assumption) (by assumption) (by assumption) (by assumption) | exact le6 (by assumption) (by assumption) (by assumption) (by assumption) (by assumption) (by assumption)) | (refine OwnS.r (OwnS.mono ?_ (by assumption)) (by intro p hp; simp only [List.mem_append, List.mem_cons, hp, true_or, or_true]); first | exact .rfl | assumption | exact le2 (by assumption) (by assumption) | exact le3 (by assumption) (by assumption) (by assumption) | exact le4 (by assumption) (by assumption) (by assumption) (by assumption) | exact le5 (by assumption) (by assumption) (by assumption) (by assumption) (by assumption) | exact le6 (by assumption) (by assumption) (by assumption) (by assumption) (by assumption) (by assumption)) | assumption) (by rfl) (by first | omega | ((try simp only [List.length_append, List.length_cons, List.length_nil, List.length_set, List.length_replicate, List.length_take, List.length_drop, List.length_map] at *); omega)) (by first | omega | ((try simp only [List.length_append, List.length_cons, List.length_nil, List.length_set, List.length_replicate, List.length_take, List.length_drop, List.length_map] at *); omega)) fun b27 o27 cs27 ha27 hr27 he27 => ?_
    simp only [nrm, Nat.reduceAdd, Nat.reduceMul, Nat.reduceSub, Int.reduceToNat, Int.reduceAdd]
    try simp only [Int.toNat_natCast, Int.reduceToNat, Int.toNat_zero] at hr27
    try simp only [Int.toNat_natCast, Int.reduceToNat, Int.toNat_zero] at he27
    clear ha27
    obtain ⟨w27_Node_Labels, w27_Node_Taints, w27_Names, w27_Ports, w27_Disks, rfl, h27_Node_Labels, h27_Node_Taints, h27_Names, h27_Ports, h27_Disks⟩ := kInfo.open hr27
    refine oblE_q rfl (fun I hI => (by first | exact q_load_atW rfl (El.mono (by assumption) hI) (by rfl) rfl | exact q_load_atN0 rfl (El.mono (by assumption) hI) rfl rfl | exact q_load_atN rfl (El.mono (by assumption) hI) rfl (Nat.le_of_ble_eq_true rfl) (Nat.le_of_ble_eq_true rfl))) ?_
    simp only [nrm, Nat.reduceAdd, Nat.reduceMul, Nat.reduceSub, Int.reduceToNat, Int.reduceAdd]
    refine oblE_q rfl (fun I hI => (q_call rfl (refEven_spec _ _ _ _ _ (by first | assumption | (refine Kd.mono _ ?_ (by assumption); first | exact .rfl | assumption | exact le2 (by assumption) (by assumption) | exact le3 (by assumption) (by assumption) (by assumption) | exact le4 (by assumption) (by assumption) (by assumption) (by assumption) | exact le5 (by assumption) (by assumption) (by assumption) (by assumption) (by assumption) | exact le6 (by assumption) (by assumption) (by assumption) (by assumption) (by assumption) (by assumption))) (by first | assumption | (refine Kd.mono _ ?_ (by assumption); first | exact .rfl | assumption | exact le2 (by assumption) (by assumption) | exact le3 (by assumption) (by assumption) (by assumption) | exact le4 (by assumption) (by assumption) (by assumption) (by assumption) | exact le5 (by assumption) (by assumption) (by assumption) (by assumption) (by assumption) | exact le6 (by assumption) (by assumption) (by assumption) (by assumption) (by assumption) (by assumption)))))) ?_
    simp only [nrm, Nat.reduceAdd, Nat.reduceMul, Nat.reduceSub, Int.reduceToNat, Int.reduceAdd]
    refine oblE_q rfl (fun I hI => (q_neq rfl rfl)) ?_
    simp only [nrm, Nat.reduceAdd, Nat.reduceMul, Nat.reduceSub, Int.reduceToNat, Int.reduceAdd]
    refine oblE_q rfl (fun I hI => (q_pick_f rfl)) ?_
    simp only [nrm, Nat.reduceAdd, Nat.reduceMul, Nat.reduceSub, Int.reduceToNat, Int.reduceAdd]
    refine oblE_nil (show OpsR _ _ _ _ _ _ from ?_)
    try simp only [nrm, Nat.reduceAdd, Nat.reduceMul, Nat.reduceSub, Int.reduceToNat, Int.reduceAdd]
    refine opsR_nil ?_
    refine hk21 _ _ ?_
    clear hk21
    refine run_cond rfl (fun ho28 => ?_) (fun ho28 => ?_)
    · have hc28 := ho28; try simp only [spl] at hc28
      refine run_seq fun _ hk29 => ?_
      refine run_region ?_
      refine opsR_q rfl (q_assign) ?_
      simp only [nrm, Nat.reduceAdd, Nat.reduceMul, Nat.reduceSub, Int.reduceToNat, Int.reduceAdd]
      refine opsR_nil ?_
      refine hk29 _ _ ?_
      clear hk29
      refine run_ret ?_
      first | exact absurd rfl hc28 | exact absurd (by simp) hc28
    · have hc28 := ho28; try simp only [spl] at hc28
      refine run_skip ?_
      refine hk20 _ _ ?_
      clear hk20
      refine run_region ?_
      refine opsR_q rfl (q_move) ?_
      simp only [nrm, Nat.reduceAdd, Nat.reduceMul, Nat.reduceSub, Int.reduceToNat, Int.reduceAdd]
      refine opsR_q rfl (by first | exact q_add64 rfl rfl (by omega) (by omega) | exact q_add rfl rfl) ?_
      simp only [nrm, Nat.reduceAdd, Nat.reduceMul, Nat.reduceSub, Int.reduceToNat, Int.reduceAdd]
      refine opsR_q rfl (q_assign) ?_
      simp only [nrm, Nat.reduceAdd, Nat.reduceMul, Nat.reduceSub, Int.reduceToNat, Int.reduceAdd]
      refine opsR_nil ?_
      first
      | exact hkl14 _ _ _ _ (by omega) ⟨i + 1, rfl, rfl, rfl, by first | assumption | omega | exact Hp.le.rfl | rfl | exact all_zero | exact all_succ (by assumption) (by assumption) | (intro _; omega) | (simp; done)⟩ rfl
  · have hc19 := ho19; try simp only [spl] at hc19
    refine run_exit ?_
    refine hk12 _ _ ?_
    clear hk12
    refine run_seq fun _ hk30 => ?_
    refine run_drawW mixed 28 [0, 0, 3, 0, 0, 31, 63, 127, 255, 255, 1023, 255, 255, 8191, 16383, 32767, 65535, 131071, 131071, 524287, 131071, 131071, 4194303, 8388607, 16777215, 33554431, 67108863, 67108863, 268435455, 536870911, 1073741823, 2147483647, 4294967295, 8589934591] (by kernel_rfl) rfl [none, none, some ⟨fun v I => Sl (kInt .i64) I v (normOf (a1.map fun x : Info => shyOf x.Node.Taints a0.Bears) true), fun _ _ _ h1 h2 => Sl.mono h1 h2⟩, none, none, some ⟨fun v I => Sl (kInt .i64) I v (normOf (a1.map fun x : Info => shyOf x.Node.Taints a0.Bears) true), fun _ _ _ h1 h2 => Sl.mono h1 h2⟩, none, none, none, none, some ⟨fun v I => Sl (kInt .i64) I v (normOf (a1.map fun x : Info => likedOf x.Node.Labels a0.Prefers) false), fun _ _ _ h1 h2 => Sl.mono h1 h2⟩, none, none, some ⟨fun v I => Sl (kInt .i64) I v (normOf (a1.map fun x : Info => likedOf x.Node.Labels a0.Prefers) false), fun _ _ _ h1 h2 => Sl.mono h1 h2⟩, none, none, none, none, none, some ⟨fun v I => Sl (kInt .i64) I v (normOf a2 a3), fun _ _ _ h1 h2 => Sl.mono h1 h2⟩, none, none, some ⟨fun v I => Sl (kInt .i64) I v (normOf a2 a3), fun _ _ _ h1 h2 => Sl.mono h1 h2⟩, none, none, none, none, none] ?_
    simp only [List.take_succ_cons, List.take_zero, List.drop_succ_cons, List.drop_zero, List.drop_nil, List.take_nil, chooseL]
    apply Exists.intro
    apply Exists.intro
    apply Exists.intro
    apply Exists.intro
    apply Exists.intro
    apply Exists.intro
    apply Exists.intro
    apply Exists.intro
    apply Exists.intro
    apply Exists.intro
    apply Exists.intro
    apply Exists.intro
    apply Exists.intro
    apply Exists.intro
    apply Exists.intro
    apply Exists.intro
    apply Exists.intro
    apply Exists.intro
    apply Exists.intro
    apply Exists.intro
    apply Exists.intro
    apply Exists.intro
    refine obl_q rfl rfl (fun I hI hd => (by first | exact q_loadBN rfl inferInstance (by rfl) | exact q_loadBW rfl inferInstance (by assumption))) ?_
    simp only [nrm, Nat.reduceAdd, Nat.reduceMul, Nat.reduceSub, Int.reduceToNat, Int.reduceAdd]
    refine obl_q rfl rfl (fun I hI hd => (q_move)) ?_
    simp only [nrm, Nat.reduceAdd, Nat.reduceMul, Nat.reduceSub, Int.reduceToNat, Int.reduceAdd]
    refine obl_ex rfl rfl (fun I hI hd K hK => o_call rfl (Calm_spec (by first | assumption | (refine Kd.mono _ ?_ (by assumption); first | exact .rfl | assumption | exact le2 (by assumption) (by assumption) | exact le3 (by assumption) (by assumption) (by assumption) | exact le4 (by assumption) (by assumption) (by assumption) (by assumption) | exact le5 (by assumption) (by assumption) (by assumption) (by assumption) (by assumption) | exact le6 (by assumption) (by assumption) (by assumption) (by assumption) (by assumption) (by assumption))) (by first | assumption | (refine Sl.mono ?_ (by assumption); first | exact .rfl | assumption | exact le2 (by assumption) (by assumption) | exact le3 (by assumption) (by assumption) (by assumption) | exact le4 (by assumption) (by assumption) (by assumption) (by assumption) | exact le5 (by assumption) (by assumption) (by assumption) (by assumption) (by assumption) | exact le6 (by assumption) (by assumption) (by assumption) (by assumption) (by assumption) (by assumption))) (by omega) hn K hK)) fun v31 => ?_
    simp only [nrm, Nat.reduceAdd, Nat.reduceMul, Nat.reduceSub, Int.reduceToNat, Int.reduceAdd]
    refine obl_q rfl rfl (fun I hI hd => (by first | exact q_loadBN rfl inferInstance (by rfl) | exact q_loadBW rfl inferInstance (by assumption))) ?_
    simp only [nrm, Nat.reduceAdd, Nat.reduceMul, Nat.reduceSub, Int.reduceToNat, Int.reduceAdd]
    refine obl_q rfl rfl (fun I hI hd => (q_move)) ?_
    simp only [nrm, Nat.reduceAdd, Nat.reduceMul, Nat.reduceSub, Int.reduceToNat, Int.reduceAdd]
    refine obl_ex rfl rfl (fun I hI hd K hK => o_call rfl (refCalm_spec (by first | assumption | (refine Kd.mono _ ?_ (by assumption); first | exact .rfl | assumption | exact le2 (by assumption) (by assumption) | exact le3 (by assumption) (by assumption) (by assumption) | exact le4 (by assumption) (by assumption) (by assumption) (by assumption) | exact le5 (by assumption) (by assumption) (by assumption) (by assumption) (by assumption) | exact le6 (by assumption) (by assumption) (by assumption) (by assumption) (by assumption) (by assumption))) (by first | assumption | (refine Sl.mono ?_ (by assumption); first | exact .rfl | assumption | exact le2 (by assumption) (by assumption) | exact le3 (by assumption) (by assumption) (by assumption) | exact le4 (by assumption) (by assumption) (by assumption) (by assumption) | exact le5 (by assumption) (by assumption) (by assumption) (by assumption) (by assumption) | exact le6 (by assumption) (by assumption) (by assumption) (by assumption) (by assumption) (by assumption))) (by omega) hn K hK)) fun v32 => ?_
    simp only [nrm, Nat.reduceAdd, Nat.reduceMul, Nat.reduceSub, Int.reduceToNat, Int.reduceAdd]
    refine obl_q rfl rfl (fun I hI hd => (by have hx31 : (fun v I => Sl (kInt .i64) I v (normOf (a1.map fun x : Info => shyOf x.Node.Taints a0.Bears) true)) v31 I := depsHold_get hd 53 2 (by kernel_rfl); have hx32 : (fun v I => Sl (kInt .i64) I v (normOf (a1.map fun x : Info => shyOf x.Node.Taints a0.Bears) true)) v32 I := depsHold_get hd 56 5 (by kernel_rfl); exact q_call rfl (SameInts_spec _ _ _ _ _ (by first | assumption | (refine Sl.mono ?_ (by assumption); first | exact .rfl | assumption | exact le2 (by assumption) (by assumption) | exact le3 (by assumption) (by assumption) (by assumption) | exact le4 (by assumption) (by assumption) (by assumption) (by assumption) | exact le5 (by assumption) (by assumption) (by assumption) (by assumption) (by assumption) | exact le6 (by assumption) (by assumption) (by assumption) (by assumption) (by assumption) (by assumption))) (by first | assumption | (refine Sl.mono ?_ (by assumption); first | exact .rfl | assumption | exact le2 (by assumption) (by assumption) | exact le3 (by assumption) (by assumption) (by assumption) | exact le4 (by assumption) (by assumption) (by assumption) (by assumption) | exact le5 (by assumption) (by assumption) (by assumption) (by assumption) (by assumption) | exact le6 (by assumption) (by assumption) (by assumption) (by assumption) (by assumption) (by assumption)))))) ?_
    simp only [nrm, Nat.reduceAdd, Nat.reduceMul, Nat.reduceSub, Int.reduceToNat, Int.reduceAdd]
    refine obl_q rfl rfl (fun I hI hd => quiet_t (q_move) (by simp)) ?_
    simp only [nrm, Nat.reduceAdd, Nat.reduceMul, Nat.reduceSub, Int.reduceToNat, Int.reduceAdd]
    refine obl_q rfl rfl (fun I hI hd => (by first | exact q_loadBN rfl inferInstance (by rfl) | exact q_loadBW rfl inferInstance (by assumption))) ?_
    simp only [nrm, Nat.reduceAdd, Nat.reduceMul, Nat.reduceSub, Int.reduceToNat, Int.reduceAdd]
    refine obl_q rfl rfl (fun I hI hd => (q_move)) ?_
    simp only [nrm, Nat.reduceAdd, Nat.reduceMul, Nat.reduceSub, Int.reduceToNat, Int.reduceAdd]
    refine obl_ex rfl rfl (fun I hI hd K hK => o_call rfl (Liked_spec (by first | assumption | exact hT.mono (by first | exact .rfl | assumption | exact le2 (by assumption) (by assumption) | exact le3 (by assumption) (by assumption) (by assumption) | exact le4 (by assumption) (by assumption) (by assumption) (by assumption) | exact le5 (by assumption) (by assumption) (by assumption) (by assumption) (by assumption) | exact le6 (by assumption) (by assumption) (by assumption) (by assumption) (by assumption) (by assumption))) (by first | assumption | (refine Kd.mono _ ?_ (by assumption); first | exact .rfl | assumption | exact le2 (by assumption) (by assumption) | exact le3 (by assumption) (by assumption) (by assumption) | exact le4 (by assumption) (by assumption) (by assumption) (by assumption) | exact le5 (by assumption) (by assumption) (by assumption) (by assumption) (by assumption) | exact le6 (by assumption) (by assumption) (by assumption) (by assumption) (by assumption) (by assumption))) (by first | assumption | (refine Sl.mono ?_ (by assumption); first | exact .rfl | assumption | exact le2 (by assumption) (by assumption) | exact le3 (by assumption) (by assumption) (by assumption) | exact le4 (by assumption) (by assumption) (by assumption) (by assumption) | exact le5 (by assumption) (by assumption) (by assumption) (by assumption) (by assumption) | exact le6 (by assumption) (by assumption) (by assumption) (by assumption) (by assumption) (by assumption))) (by omega) hn hq K hK)) fun v33 => ?_
    simp only [nrm, Nat.reduceAdd, Nat.reduceMul, Nat.reduceSub, Int.reduceToNat, Int.reduceAdd]
    refine obl_q rfl rfl (fun I hI hd => (by first | exact q_loadBN rfl inferInstance (by rfl) | exact q_loadBW rfl inferInstance (by assumption))) ?_
    simp only [nrm, Nat.reduceAdd, Nat.reduceMul, Nat.reduceSub, Int.reduceToNat, Int.reduceAdd]
    refine obl_q rfl rfl (fun I hI hd => (q_move)) ?_
    simp only [nrm, Nat.reduceAdd, Nat.reduceMul, Nat.reduceSub, Int.reduceToNat, Int.reduceAdd]
    refine obl_ex rfl rfl (fun I hI hd K hK => o_call rfl (refLiked_spec (by first | assumption | (refine Kd.mono _ ?_ (by assumption); first | exact .rfl | assumption | exact le2 (by assumption) (by assumption) | exact le3 (by assumption) (by assumption) (by assumption) | exact le4 (by assumption) (by assumption) (by assumption) (by assumption) | exact le5 (by assumption) (by assumption) (by assumption) (by assumption) (by assumption) | exact le6 (by assumption) (by assumption) (by assumption) (by assumption) (by assumption) (by assumption))) (by first | assumption | (refine Sl.mono ?_ (by assumption); first | exact .rfl | assumption | exact le2 (by assumption) (by assumption) | exact le3 (by assumption) (by assumption) (by assumption) | exact le4 (by assumption) (by assumption) (by assumption) (by assumption) | exact le5 (by assumption) (by assumption) (by assumption) (by assumption) (by assumption) | exact le6 (by assumption) (by assumption) (by assumption) (by assumption) (by assumption) (by assumption))) (by omega) hn hq K hK)) fun v34 => ?_
    simp only [nrm, Nat.reduceAdd, Nat.reduceMul, Nat.reduceSub, Int.reduceToNat, Int.reduceAdd]
    refine obl_q rfl rfl (fun I hI hd => (by have hx33 : (fun v I => Sl (kInt .i64) I v (normOf (a1.map fun x : Info => likedOf x.Node.Labels a0.Prefers) false)) v33 I := depsHold_get hd 61 10 (by kernel_rfl); have hx34 : (fun v I => Sl (kInt .i64) I v (normOf (a1.map fun x : Info => likedOf x.Node.Labels a0.Prefers) false)) v34 I := depsHold_get hd 64 13 (by kernel_rfl); exact q_call rfl (SameInts_spec _ _ _ _ _ (by first | assumption | (refine Sl.mono ?_ (by assumption); first | exact .rfl | assumption | exact le2 (by assumption) (by assumption) | exact le3 (by assumption) (by assumption) (by assumption) | exact le4 (by assumption) (by assumption) (by assumption) (by assumption) | exact le5 (by assumption) (by assumption) (by assumption) (by assumption) (by assumption) | exact le6 (by assumption) (by assumption) (by assumption) (by assumption) (by assumption) (by assumption))) (by first | assumption | (refine Sl.mono ?_ (by assumption); first | exact .rfl | assumption | exact le2 (by assumption) (by assumption) | exact le3 (by assumption) (by assumption) (by assumption) | exact le4 (by assumption) (by assumption) (by assumption) (by assumption) | exact le5 (by assumption) (by assumption) (by assumption) (by assumption) (by assumption) | exact le6 (by assumption) (by assumption) (by assumption) (by assumption) (by assumption) (by assumption)))))) ?_
    simp only [nrm, Nat.reduceAdd, Nat.reduceMul, Nat.reduceSub, Int.reduceToNat, Int.reduceAdd]
    refine obl_q rfl rfl (fun I hI hd => (q_pick_t rfl)) ?_
    simp only [nrm, Nat.reduceAdd, Nat.reduceMul, Nat.reduceSub, Int.reduceToNat, Int.reduceAdd]
    refine obl_q rfl rfl (fun I hI hd => quiet_t (q_move) (by simp)) ?_
    simp only [nrm, Nat.reduceAdd, Nat.reduceMul, Nat.reduceSub, Int.reduceToNat, Int.reduceAdd]
    refine obl_q rfl rfl (fun I hI hd => (q_move)) ?_
    simp only [nrm, Nat.reduceAdd, Nat.reduceMul, Nat.reduceSub, Int.reduceToNat, Int.reduceAdd]
    refine obl_q rfl rfl (fun I hI hd => (q_move)) ?_
    simp only [nrm, Nat.reduceAdd, Nat.reduceMul, Nat.reduceSub, Int.reduceToNat, Int.reduceAdd]
    refine obl_ex rfl rfl (fun I hI hd K hK => o_call rfl (Normal_spec _ _ _ _ (by first | assumption | (refine Sl.mono ?_ (by assumption); first | exact .rfl | assumption | exact le2 (by assumption) (by assumption) | exact le3 (by assumption) (by assumption) (by assumption) | exact le4 (by assumption) (by assumption) (by assumption) (by assumption) | exact le5 (by assumption) (by assumption) (by assumption) (by assumption) (by assumption) | exact le6 (by assumption) (by assumption) (by assumption) (by assumption) (by assumption) (by assumption))) (by first | omega | ((try simp only [List.length_append, List.length_cons, List.length_nil, List.length_set, List.length_replicate, List.length_take, List.length_drop, List.length_map] at *); omega)) K hK)) fun v35 => ?_
    simp only [nrm, Nat.reduceAdd, Nat.reduceMul, Nat.reduceSub, Int.reduceToNat, Int.reduceAdd]
    refine obl_q rfl rfl (fun I hI hd => (q_move)) ?_
    simp only [nrm, Nat.reduceAdd, Nat.reduceMul, Nat.reduceSub, Int.reduceToNat, Int.reduceAdd]
    refine obl_q rfl rfl (fun I hI hd => (q_move)) ?_
    simp only [nrm, Nat.reduceAdd, Nat.reduceMul, Nat.reduceSub, Int.reduceToNat, Int.reduceAdd]
    refine obl_ex rfl rfl (fun I hI hd K hK => o_call rfl (refNormal_spec (by first | assumption | (refine Sl.mono ?_ (by assumption); first | exact .rfl | assumption | exact le2 (by assumption) (by assumption) | exact le3 (by assumption) (by assumption) (by assumption) | exact le4 (by assumption) (by assumption) (by assumption) (by assumption) | exact le5 (by assumption) (by assumption) (by assumption) (by assumption) (by assumption) | exact le6 (by assumption) (by assumption) (by assumption) (by assumption) (by assumption) (by assumption))) (by first | omega | ((try simp only [List.length_append, List.length_cons, List.length_nil, List.length_set, List.length_replicate, List.length_take, List.length_drop, List.length_map] at *); omega)) K hK)) fun v36 => ?_
    simp only [nrm, Nat.reduceAdd, Nat.reduceMul, Nat.reduceSub, Int.reduceToNat, Int.reduceAdd]
    refine obl_q rfl rfl (fun I hI hd => (by have hx35 : (fun v I => Sl (kInt .i64) I v (normOf a2 a3)) v35 I := depsHold_get hd 70 19 (by kernel_rfl); have hx36 : (fun v I => Sl (kInt .i64) I v (normOf a2 a3)) v36 I := depsHold_get hd 73 22 (by kernel_rfl); exact q_call rfl (SameInts_spec _ _ _ _ _ (by first | assumption | (refine Sl.mono ?_ (by assumption); first | exact .rfl | assumption | exact le2 (by assumption) (by assumption) | exact le3 (by assumption) (by assumption) (by assumption) | exact le4 (by assumption) (by assumption) (by assumption) (by assumption) | exact le5 (by assumption) (by assumption) (by assumption) (by assumption) (by assumption) | exact le6 (by assumption) (by assumption) (by assumption) (by assumption) (by assumption) (by assumption))) (by first | assumption | (refine Sl.mono ?_ (by assumption); first | exact .rfl | assumption | exact le2 (by assumption) (by assumption) | exact le3 (by assumption) (by assumption) (by assumption) | exact le4 (by assumption) (by assumption) (by assumption) (by assumption) | exact le5 (by assumption) (by assumption) (by assumption) (by assumption) (by assumption) | exact le6 (by assumption) (by assumption) (by assumption) (by assumption) (by assumption) (by assumption)))))) ?_
    simp only [nrm, Nat.reduceAdd, Nat.reduceMul, Nat.reduceSub, Int.reduceToNat, Int.reduceAdd]
    refine obl_q rfl rfl (fun I hI hd => (q_pick_t rfl)) ?_
    simp only [nrm, Nat.reduceAdd, Nat.reduceMul, Nat.reduceSub, Int.reduceToNat, Int.reduceAdd]
    refine obl_q rfl rfl (fun I hI hd => quiet_t (q_move) (by simp)) ?_
    simp only [nrm, Nat.reduceAdd, Nat.reduceMul, Nat.reduceSub, Int.reduceToNat, Int.reduceAdd]
    refine obl_q rfl rfl (fun I hI hd => (q_move)) ?_
    simp only [nrm, Nat.reduceAdd, Nat.reduceMul, Nat.reduceSub, Int.reduceToNat, Int.reduceAdd]
    refine obl_q rfl rfl (fun I hI hd => (q_move)) ?_
    simp only [nrm, Nat.reduceAdd, Nat.reduceMul, Nat.reduceSub, Int.reduceToNat, Int.reduceAdd]
    refine obl_nil (fun I37 hI37 hF37 => ?_)
    simp only [true_and, and_true] at hF37
    try simp only [nrm, Nat.reduceAdd, Nat.reduceMul, Nat.reduceSub, Int.reduceToNat, Int.reduceAdd]
    refine opsR_q rfl (q_call rfl (SameInts_spec _ _ _ _ _ (by first | assumption | (refine Sl.mono ?_ (by assumption); first | exact .rfl | assumption | exact le2 (by assumption) (by assumption) | exact le3 (by assumption) (by assumption) (by assumption) | exact le4 (by assumption) (by assumption) (by assumption) (by assumption) | exact le5 (by assumption) (by assumption) (by assumption) (by assumption) (by assumption) | exact le6 (by assumption) (by assumption) (by assumption) (by assumption) (by assumption) (by assumption))) (by first | assumption | (refine Sl.mono ?_ (by assumption); first | exact .rfl | assumption | exact le2 (by assumption) (by assumption) | exact le3 (by assumption) (by assumption) (by assumption) | exact le4 (by assumption) (by assumption) (by assumption) (by assumption) | exact le5 (by assumption) (by assumption) (by assumption) (by assumption) (by assumption) | exact le6 (by assumption) (by assumption) (by assumption) (by assumption) (by assumption) (by assumption))))) ?_
    simp only [nrm, Nat.reduceAdd, Nat.reduceMul, Nat.reduceSub, Int.reduceToNat, Int.reduceAdd]
    refine opsR_q rfl (q_pick_t rfl) ?_
    simp only [nrm, Nat.reduceAdd, Nat.reduceMul, Nat.reduceSub, Int.reduceToNat, Int.reduceAdd]
    refine opsR_qb rfl (q_move) (fun _ => ?_) (fun h => absurd h (by simp))
    simp only [nrm, Nat.reduceAdd, Nat.reduceMul, Nat.reduceSub, Int.reduceToNat, Int.reduceAdd]
    refine opsR_q rfl (q_call rfl (callV_of_S (works_spec _))) ?_
    simp only [nrm, Nat.reduceAdd, Nat.reduceMul, Nat.reduceSub, Int.reduceToNat, Int.reduceAdd]
    refine opsR_q rfl (q_pick_t rfl) ?_
    simp only [nrm, Nat.reduceAdd, Nat.reduceMul, Nat.reduceSub, Int.reduceToNat, Int.reduceAdd]
    refine opsR_q rfl (q_assign) ?_
    simp only [nrm, Nat.reduceAdd, Nat.reduceMul, Nat.reduceSub, Int.reduceToNat, Int.reduceAdd]
    refine opsR_nil ?_
    refine hk30 _ _ ?_
    clear hk30
    refine run_ret ?_
    exact end_tmp rfl rfl rfl (by first | exact .refl | exact .drop | exact .drop2 | exact .drop3 | exact .drop4 | exact Gh.drop.trans .drop4 | exact Gh.drop2.trans .drop4 | exact Gh.drop3.trans .drop4) ⟨rfl, by first | exact .rfl | assumption | exact le2 (by assumption) (by assumption) | exact le3 (by assumption) (by assumption) (by assumption) | exact le4 (by assumption) (by assumption) (by assumption) (by assumption) | exact le5 (by assumption) (by assumption) (by assumption) (by assumption) (by assumption) | exact le6 (by assumption) (by assumption) (by assumption) (by assumption) (by assumption) (by assumption)⟩
end
end Go.Proofs.YtopimbpclgejhaaDoor
