/- The reference of package fit: all reasons, the first one, how many find room; the law. -/
import Derived.Test.YtcnbcblihepbmaaGreatDoorFW
set_option autoImplicit false
set_option linter.unusedVariables false
set_option linter.unusedSimpArgs false
namespace Go.Proofs.YtcnbcblihepbmaaGreatDoor
open Go Go.RowKit
section
variable {p : Pod} {x : Info}
theorem yes0 (h : x.Node.Off = true) : whyOf p x 0 = true := h
theorem no0 (h : x.Node.Off = false) : whyOf p x 0 = false := h
theorem yes1 (h : isKept x.Node.Taints p.Bears = true) : whyOf p x 1 = true := h
theorem no1 (h : isKept x.Node.Taints p.Bears = false) : whyOf p x 1 = false := h
theorem yes2 (h : matchOf x.Node.Labels p.Asks = false) : whyOf p x 2 = true := by simp only [whyOf, h]; rfl
theorem no2 (h : matchOf x.Node.Labels p.Asks = true) : whyOf p x 2 = false := by simp only [whyOf, h]; rfl
theorem yes3 (h : clashOf p.Ports x.Ports = true) : whyOf p x 3 = true := h
theorem no3 (h : clashOf p.Ports x.Ports = false) : whyOf p x 3 = false := h
theorem yes4 (h : x.Node.Pods ≤ (x.Names.length : Int)) : whyOf p x 4 = true := decide_eq_true h
theorem no4 (h : ¬ x.Node.Pods ≤ (x.Names.length : Int)) : whyOf p x 4 = false := decide_eq_false h
theorem yes5 (h : Q.sub x.Node.Give.CPU x.Used.CPU < Q.clamp p.Want.CPU) : whyOf p x 5 = true := decide_eq_true h
theorem no5 (h : ¬ Q.sub x.Node.Give.CPU x.Used.CPU < Q.clamp p.Want.CPU) : whyOf p x 5 = false := decide_eq_false h
theorem yes6 (h : Q.sub x.Node.Give.Mem x.Used.Mem < Q.clamp p.Want.Mem) : whyOf p x 6 = true := decide_eq_true h
theorem no6 (h : ¬ Q.sub x.Node.Give.Mem x.Used.Mem < Q.clamp p.Want.Mem) : whyOf p x 6 = false := decide_eq_false h
theorem yes7 (h : Q.sub x.Node.Give.Disk x.Used.Disk < Q.clamp p.Want.Disk) : whyOf p x 7 = true := decide_eq_true h
theorem no7 (h : ¬ Q.sub x.Node.Give.Disk x.Used.Disk < Q.clamp p.Want.Disk) : whyOf p x 7 = false := decide_eq_false h
end
theorem head_at {l : List Int} (h : ¬ (l.length : Int) = 0) : l[0]! = l.headD 0 := by
  cases l with
  | nil => exact absurd rfl h
  | cons a r => rfl
section
attribute [local irreducible] Quiet OpsR Run CallS opS Gh endQ oblE RunN swp Go.Op.equalIn matchOf isKept keptOf clashOf whyOf whysL
theorem refFree_spec {x : Info} {cx : List Value} {s : St} (hx : kInfo.rep s.I x cx) : CallV Tryz.prog 29 #[.agg cx.toArray] s (R3 (Q.sub x.Node.Give.CPU x.Used.CPU) (Q.sub x.Node.Give.Mem x.Used.Mem) (Q.sub x.Node.Give.Disk x.Used.Disk)) := by
  intro K hK
  obtain ⟨q1, q2, q3, q4, q5, rfl, h1, h2, h3, h4, h5⟩ := kInfo.open hx
  refine callS_of_run Tryz.func29 rfl ?_; simp only [Tryz.ntmps29, List.size_toArray, List.length_cons, List.length_nil, Nat.reduceAdd, Nat.reduceSub, Array.replicate_succ, Array.replicate_zero, List.push_toArray, List.append_toArray, List.nil_append, List.cons_append]
  refine run_seq fun _ hk1 => ?_
  refine run_region ?_
  refine opsR_o rfl (o_box fun b2 hb2 => ?_)
  simp only [nrm, Nat.reduceAdd, Nat.reduceMul, Nat.reduceSub, Int.reduceToNat, Int.reduceAdd]
  refine opsR_o rfl (o_alloc fun b3 hb3 => ?_)
  simp only [nrm, Nat.reduceAdd, Nat.reduceMul, Nat.reduceSub, Int.reduceToNat, Int.reduceAdd]
  refine opsR_nil ?_
  refine hk1 _ _ ?_
  clear hk1
  refine run_seq fun _ hk4 => ?_
  refine run_region ?_
  refine opsR_q rfl (q_fieldAddr rfl) ?_
  simp only [nrm, Nat.reduceAdd, Nat.reduceMul, Nat.reduceSub, Int.reduceToNat, Int.reduceAdd]
  refine opsR_q rfl (q_fieldAddr rfl) ?_
  simp only [nrm, Nat.reduceAdd, Nat.reduceMul, Nat.reduceSub, Int.reduceToNat, Int.reduceAdd]
  refine opsR_q rfl (by first | exact q_loadBN rfl inferInstance (by rfl) | exact q_loadBW rfl inferInstance (by assumption)) ?_
  simp only [nrm, Nat.reduceAdd, Nat.reduceMul, Nat.reduceSub, Int.reduceToNat, Int.reduceAdd]
  refine opsR_q rfl (q_fieldAddr rfl) ?_
  simp only [nrm, Nat.reduceAdd, Nat.reduceMul, Nat.reduceSub, Int.reduceToNat, Int.reduceAdd]
  refine opsR_q rfl (by first | exact q_loadBN rfl inferInstance (by rfl) | exact q_loadBW rfl inferInstance (by assumption)) ?_
  simp only [nrm, Nat.reduceAdd, Nat.reduceMul, Nat.reduceSub, Int.reduceToNat, Int.reduceAdd]
  refine opsR_q rfl (q_call rfl (refMinus_spec _ _ _ _ _ _ _)) ?_
  simp only [nrm, Nat.reduceAdd, Nat.reduceMul, Nat.reduceSub, Int.reduceToNat, Int.reduceAdd]
  refine opsR_o rfl (o_storeB rfl rfl inferInstance (by first | rfl | assumption) (by first | rfl | exact Kd.one _ (by assumption) | assumption) (by first | rfl | (refine Nat.ble_eq_true_of_le ?_; (try simp only [Int.toNat_natCast]); omega)) ?_)
  simp only [nrm, Nat.reduceAdd, Nat.reduceMul, Nat.reduceSub, Int.reduceToNat, Int.reduceAdd]
  refine opsR_nil ?_
  refine hk4 _ _ ?_
  clear hk4
  refine run_ret ?_
  exact end_cell rfl rfl rfl (AtB.has inferInstance) (by first | rfl | assumption) ghA hK
theorem refClash_spec {p : Pod} {x : Info} {cp xc : List Value} {s : St} (hp : kPod.rep s.I p cp) (hx : kInfo.rep s.I x xc) : CallV Tryz.prog 32 #[.agg xc.toArray, .agg cp.toArray] s (.bool (clashOf p.Ports x.Ports)) := by
  intro K hK
  obtain ⟨p1, p2, p3, p4, p5, p6, p7, p8, p9, rfl, g1, g2, g3, g4, g5, g6, g7, g8, g9⟩ := kPod.open hp
  obtain ⟨q1, q2, q3, q4, q5, rfl, h1, h2, h3, h4, h5⟩ := kInfo.open hx
  have hle := g5.len.le
  refine callS_of_run Tryz.func32 rfl ?_; simp only [Tryz.ntmps32, List.size_toArray, List.length_cons, List.length_nil, Nat.reduceAdd, Nat.reduceSub, Array.replicate_succ, Array.replicate_zero, List.push_toArray, List.append_toArray, List.nil_append, List.cons_append]
  refine run_seq fun _ hk1 => ?_
  refine run_region ?_
  refine opsR_o rfl (o_box fun bX hbX => ?_)
  simp only [nrm, Nat.reduceAdd, Nat.reduceMul, Nat.reduceSub, Int.reduceToNat, Int.reduceAdd]
  refine opsR_o rfl (o_box fun bP hbP => ?_)
  simp only [nrm, Nat.reduceAdd, Nat.reduceMul, Nat.reduceSub, Int.reduceToNat, Int.reduceAdd]
  refine opsR_q rfl (q_assign) ?_
  simp only [nrm]
  refine opsR_nil ?_
  refine hk1 _ _ ?_
  clear hk1
  refine run_seq fun _ hk4 => ?_
  refine run_seq fun _ hk5 => ?_
  refine run_region ?_
  refine opsR_q rfl (q_assign) ?_
  simp only [nrm]
  refine opsR_nil ?_
  refine hk5 _ _ ?_
  clear hk5
  refine run_block ?_
  refine run_loopF [0, 0, 0, 0, 1, 2, 1, 1, 1, 1, 1, 1, 1, 1, 1, 1, 1, 1, 1, 1, 1] (fun zn zL zst => ∃ (i : Nat), zL = [.int .i64 (i : Nat)] ∧ ⟨s.I, (bP, .cells #[.string p.Name, .int .i64 p.Priority, p1, .int .i64 p.Want.CPU, .int .i64 p.Want.Mem, .int .i64 p.Want.Disk, p2, p3, p4, p5, p6, p7, p8, p9, .string p.Node, .string p.Hope] 33 (0, 0)) :: (bX, .cells #[.string x.Node.Name, q1, q2, .bool x.Node.Off, .int .i64 x.Node.Give.CPU, .int .i64 x.Node.Give.Mem, .int .i64 x.Node.Give.Disk, .int .i64 x.Node.Pods, .int .i64 x.Node.Disks, q3, .int .i64 x.Used.CPU, .int .i64 x.Used.Mem, .int .i64 x.Used.Disk, q4, q5] 38 (0, 0)) :: s.cs⟩ = zst ∧ zn = p.Ports.length - i ∧ (i ≤ p.Ports.length) ∧ (∀ j, j < i → decide (p.Ports[j]! ∈ x.Ports) = false)) _ _ ⟨0, rfl, rfl, rfl, by first | assumption | omega | exact Hp.le.rfl | rfl | exact all_zero | exact all_succ (by assumption) (by assumption) | (intro _; omega) | (simp; done), by first | assumption | omega | exact Hp.le.rfl | rfl | exact all_zero | exact all_succ (by assumption) (by assumption) | (intro _; omega) | (simp; done)⟩ rfl ?_
  rintro _ _ _ jv6 ⟨i, rfl, rfl, rfl, hi, hj⟩ K6 hkl6
  simp only [fr, Nat.zero_add, Nat.reduceAdd]
  refine run_seq fun _ hk7 => ?_
  refine run_seq fun _ hk8 => ?_
  refine run_region ?_
  refine opsR_q rfl (q_move) ?_
  simp only [nrm]
  refine opsR_q rfl (q_fieldAddr rfl) ?_
  simp only [nrm, Nat.reduceAdd, Nat.reduceMul, Nat.reduceSub, Int.reduceToNat, Int.reduceAdd]
  refine opsR_q rfl (q_loadB1 rfl inferInstance rfl) ?_
  simp only [nrm, Nat.reduceAdd, Nat.reduceMul, Nat.reduceSub, Int.reduceToNat, Int.reduceAdd]
  refine opsR_q rfl (q_len_v rfl (by first | exact Sl.len (by assumption) | exact OwnS.len (by assumption) | exact SlR.len (by assumption) | assumption)) ?_
  simp only [nrm, Nat.reduceAdd, Nat.reduceMul, Nat.reduceSub, Int.reduceToNat, Int.reduceAdd]
  refine opsR_q rfl (q_lss rfl rfl) ?_
  simp only [nrm, Nat.reduceAdd, Nat.reduceMul, Nat.reduceSub, Int.reduceToNat, Int.reduceAdd]
  refine opsR_nil ?_
  refine hk8 _ _ ?_
  clear hk8
  refine run_cond rfl (fun ho11 => ?_) (fun ho11 => ?_)
  · have hc11 := ho11; try simp only [spl] at hc11
    refine run_skip ?_
    refine hk7 _ _ ?_
    clear hk7
    refine run_seq fun _ hk12 => ?_
    refine run_block ?_
    refine run_seq fun _ hk13 => ?_
    refine run_drawE mixed 8 (by kernel_rfl) rfl ?_
    simp only [List.take_succ_cons, List.take_zero, List.drop_succ_cons, List.drop_zero, List.drop_nil, List.take_nil]
    refine oblE_q rfl (fun I hI => (q_fieldAddr rfl)) ?_
    simp only [nrm, Nat.reduceAdd, Nat.reduceMul, Nat.reduceSub, Int.reduceToNat, Int.reduceAdd]
    refine oblE_q rfl (fun I hI => (q_loadB1 rfl inferInstance rfl)) ?_
    simp only [nrm, Nat.reduceAdd, Nat.reduceMul, Nat.reduceSub, Int.reduceToNat, Int.reduceAdd]
    refine oblE_q rfl (fun I hI => (q_fieldAddr rfl)) ?_
    simp only [nrm, Nat.reduceAdd, Nat.reduceMul, Nat.reduceSub, Int.reduceToNat, Int.reduceAdd]
    refine oblE_q rfl (fun I hI => (q_loadB1 rfl inferInstance rfl)) ?_
    simp only [nrm, Nat.reduceAdd, Nat.reduceMul, Nat.reduceSub, Int.reduceToNat, Int.reduceAdd]
    refine oblE_q rfl (fun I hI => (q_move)) ?_
    simp only [nrm]
    refine oblE_index rfl rfl rfl slrA (by rfl) idxA idxA fun b15 o15 cs15 ha15 hr15 he15 => ?_
    simp only [nrm, Nat.reduceAdd, Nat.reduceMul, Nat.reduceSub, Int.reduceToNat, Int.reduceAdd]
    try simp only [Int.toNat_natCast, Int.reduceToNat, Int.toNat_zero] at hr15
    try simp only [Int.toNat_natCast, Int.reduceToNat, Int.toNat_zero] at he15
    clear ha15
    obtain rfl := hr15
    refine oblE_q rfl (fun I hI => (by first | exact q_load_at1 (i := 0) rfl (El.mono (by assumption) hI) rfl (Nat.le_of_ble_eq_true rfl) rfl | exact q_load_at1 rfl (El.mono (by assumption) hI) rfl (Nat.le_of_ble_eq_true rfl) rfl)) ?_
    simp only [nrm, Nat.reduceAdd, Nat.reduceMul, Nat.reduceSub, Int.reduceToNat, Int.reduceAdd]
    refine oblE_q rfl (fun I hI => (q_call rfl (HasInt_spec _ _ _ _ (by first | assumption | (refine Sl.mono ?_ (by assumption); exact leA))))) ?_
    simp only [nrm, Nat.reduceAdd, Nat.reduceMul, Nat.reduceSub, Int.reduceToNat, Int.reduceAdd]
    refine oblE_nil (show OpsR _ _ _ _ _ _ from ?_)
    try simp only [nrm, Nat.reduceAdd, Nat.reduceMul, Nat.reduceSub, Int.reduceToNat, Int.reduceAdd]
    refine opsR_nil ?_
    refine hk13 _ _ ?_
    clear hk13
    refine run_cond rfl (fun ho16 => ?_) (fun ho16 => ?_)
    · have hc16 := ho16; try simp only [spl] at hc16
      refine run_seq fun _ hk17 => ?_
      refine run_region ?_
      refine opsR_q rfl (q_assign) ?_
      simp only [nrm]
      refine opsR_nil ?_
      refine hk17 _ _ ?_
      clear hk17
      refine run_ret ?_
      exact end_tmp rfl rfl rfl ghA (eqK hK (congrArg Go.Value.bool (by unfold clashOf; exact any_at (p := fun n => decide (n ∈ x.Ports)) (j := i) (by omega) (decide_eq_true (by assumption)))))
    · have hc16 := ho16; try simp only [spl] at hc16
      refine run_skip ?_
      refine hk12 _ _ ?_
      clear hk12
      refine run_region ?_
      refine opsR_q rfl (q_move) ?_
      simp only [nrm]
      refine opsR_q rfl (by first | exact q_add64 rfl rfl (by omega) (by omega) | exact q_add rfl rfl) ?_
      simp only [nrm, Nat.reduceAdd, Nat.reduceMul, Nat.reduceSub, Int.reduceToNat, Int.reduceAdd]
      refine opsR_q rfl (q_assign) ?_
      simp only [nrm]
      refine opsR_nil ?_
      first
      | exact hkl6 _ _ _ _ (by omega) ⟨i + 1, rfl, rfl, rfl, by first | omega | exact all_zero | exact all_succ hj (decide_eq_false (by assumption)), by first | omega | exact all_zero | exact all_succ hj (decide_eq_false (by assumption))⟩ rfl
  · have hc11 := ho11; try simp only [spl] at hc11
    refine run_exit ?_
    refine hk4 _ _ ?_
    clear hk4
    refine run_seq fun _ hk18 => ?_
    refine run_region ?_
    refine opsR_q rfl (q_assign) ?_
    simp only [nrm]
    refine opsR_nil ?_
    refine hk18 _ _ ?_
    clear hk18
    refine run_ret ?_
    exact end_tmp rfl rfl rfl ghA (eqK hK (congrArg Go.Value.bool (by unfold clashOf; exact any_none (p := fun n => decide (n ∈ x.Ports)) (fun j h => hj j (by omega)))))
set_option maxHeartbeats 1000000 in
theorem refAll_spec {p : Pod} {x : Info} {cp cx : List Value} {s : St} (hp : kPod.rep s.I p cp) (hx : kInfo.rep s.I x cx) (hok : PairOk p x) :
    CallR Tryz.prog 14 #[.agg cp.toArray, .agg cx.toArray] s (fun J w => Sl (kInt .i64) J w (allOf p x)) := by
  intro K hK
  have hL := hok.2.1
  have hR := hok.2.2
  have hp' := hp
  have hx' := hx
  obtain ⟨p1, p2, p3, p4, p5, p6, p7, p8, p9, rfl, g1, g2, g3, g4, g5, g6, g7, g8, g9⟩ := kPod.open hp
  obtain ⟨q1, q2, q3, q4, q5, rfl, h1, h2, h3, h4, h5⟩ := kInfo.open hx
  refine callS_of_run Tryz.func14 rfl ?_; simp only [Tryz.ntmps14, List.size_toArray, List.length_cons, List.length_nil, Nat.reduceAdd, Nat.reduceSub, Array.replicate_succ, Array.replicate_zero, List.push_toArray, List.append_toArray, List.nil_append, List.cons_append]
  refine run_seq fun _ hk1 => ?_
  refine run_region ?_
  refine opsR_o rfl (o_box fun bP hbP => ?_)
  simp only [nrm, Nat.reduceAdd, Nat.reduceMul, Nat.reduceSub, Int.reduceToNat, Int.reduceAdd]
  refine opsR_o rfl (o_box fun bX hbX => ?_)
  simp only [nrm, Nat.reduceAdd, Nat.reduceMul, Nat.reduceSub, Int.reduceToNat, Int.reduceAdd]
  refine opsR_q rfl (q_assign) ?_
  simp only [nrm]
  refine opsR_nil ?_
  refine hk1 _ _ ?_
  clear hk1
  refine run_seq fun _ hk4 => ?_
  refine run_region ?_
  refine opsR_slice0 (kInt .i64) rfl fun v5 hs5 hv5 => ?_
  simp only [nrm, Nat.reduceAdd, Nat.reduceMul, Nat.reduceSub, Int.reduceToNat, Int.reduceAdd]
  refine opsR_q rfl (q_assign) ?_
  simp only [nrm]
  refine opsR_nil ?_
  refine hk4 _ _ ?_
  clear hk4
  refine run_seq fun _ hk7 => ?_
  refine run_region ?_
  refine opsR_q rfl (by first | exact q_loadBN rfl inferInstance (by rfl) | exact q_loadBW rfl inferInstance (by assumption)) ?_
  simp only [nrm, Nat.reduceAdd, Nat.reduceMul, Nat.reduceSub, Int.reduceToNat, Int.reduceAdd]
  refine opsR_q rfl (q_call rfl (refFree_spec (by first | assumption | (refine Kd.mono _ ?_ (by assumption); exact leA)))) ?_
  simp only [nrm, Nat.reduceAdd, Nat.reduceMul, Nat.reduceSub, Int.reduceToNat, Int.reduceAdd]
  refine opsR_o rfl (o_alloc fun bF hbF => ?_)
  simp only [nrm, Nat.reduceAdd, Nat.reduceMul, Nat.reduceSub, Int.reduceToNat, Int.reduceAdd]
  refine opsR_o rfl (o_storeB rfl rfl inferInstance (by first | rfl | assumption) (by first | rfl | exact Kd.one _ (by assumption) | assumption) (by first | rfl | (refine Nat.ble_eq_true_of_le ?_; (try simp only [Int.toNat_natCast]); omega)) ?_)
  simp only [nrm, Nat.reduceAdd, Nat.reduceMul, Nat.reduceSub, Int.reduceToNat, Int.reduceAdd]
  refine opsR_nil ?_
  refine hk7 _ _ ?_
  clear hk7
  refine run_seq fun _ hk10 => ?_
  refine run_region ?_
  refine opsR_q rfl (q_fieldAddr rfl) ?_
  simp only [nrm, Nat.reduceAdd, Nat.reduceMul, Nat.reduceSub, Int.reduceToNat, Int.reduceAdd]
  refine opsR_q rfl (q_fieldAddr rfl) ?_
  simp only [nrm, Nat.reduceAdd, Nat.reduceMul, Nat.reduceSub, Int.reduceToNat, Int.reduceAdd]
  refine opsR_q rfl (q_loadB1 rfl inferInstance rfl) ?_
  simp only [nrm, Nat.reduceAdd, Nat.reduceMul, Nat.reduceSub, Int.reduceToNat, Int.reduceAdd]
  refine opsR_q rfl (q_fieldAddr rfl) ?_
  simp only [nrm, Nat.reduceAdd, Nat.reduceMul, Nat.reduceSub, Int.reduceToNat, Int.reduceAdd]
  refine opsR_q rfl (q_loadB1 rfl inferInstance rfl) ?_
  simp only [nrm, Nat.reduceAdd, Nat.reduceMul, Nat.reduceSub, Int.reduceToNat, Int.reduceAdd]
  refine opsR_q rfl (q_call rfl (refKept_spec (by first | assumption | (refine Sl.mono ?_ (by assumption); exact leA)) (by first | assumption | (refine Sl.mono ?_ (by assumption); exact leA)))) ?_
  simp only [nrm, Nat.reduceAdd, Nat.reduceMul, Nat.reduceSub, Int.reduceToNat, Int.reduceAdd]
  refine opsR_q rfl (q_move) ?_
  simp only [nrm]
  refine opsR_q rfl (q_extract rfl rfl) ?_
  simp only [nrm]
  refine opsR_q rfl (q_extract rfl rfl) ?_
  simp only [nrm]
  refine opsR_o rfl (o_alloc fun bT hbT => ?_)
  simp only [nrm, Nat.reduceAdd, Nat.reduceMul, Nat.reduceSub, Int.reduceToNat, Int.reduceAdd]
  refine opsR_o rfl (o_storeB rfl rfl inferInstance (by first | rfl | assumption) (by first | rfl | exact Kd.one _ (by assumption) | assumption) (by first | rfl | (refine Nat.ble_eq_true_of_le ?_; (try simp only [Int.toNat_natCast]); omega)) ?_)
  simp only [nrm, Nat.reduceAdd, Nat.reduceMul, Nat.reduceSub, Int.reduceToNat, Int.reduceAdd]
  refine opsR_q rfl (q_assign) ?_
  simp only [nrm]
  refine opsR_nil ?_
  refine hk10 _ _ ?_
  clear hk10
  refine run_join [0, 0, 0, 0, 0, 2, 0, 0, 0, 0, 0, 0, 0, 0, 0, 0, 0, 0, 0, 0, 0, 1, 1, 1, 1, 1, 1, 0, 0, 0, 0, 0, 0, 0, 0, 0, 0, 0, 0, 0, 0, 0, 0, 0, 0, 0, 0, 0, 0, 0, 0, 0, 0, 0, 0, 0, 0, 0, 0, 0, 0, 0, 0, 0, 0, 0, 0, 0, 0, 0, 0, 0, 0, 0, 0, 0, 0, 0, 0, 0, 0, 0, 0, 0, 0, 0, 0, 0] (fun zL zst => ∃ (v' : Value) (hs : List (Nat × Obj)), zL = [v'] ∧ ⟨s.I, (bT, .cells #[.string (keptOf x.Node.Taints p.Bears).Key, .string (keptOf x.Node.Taints p.Bears).Value, .int .i64 (keptOf x.Node.Taints p.Bears).Effect] 77 (0, 0)) :: (bF, .cells #[.int .i64 (Q.sub x.Node.Give.CPU x.Used.CPU), .int .i64 (Q.sub x.Node.Give.Mem x.Used.Mem), .int .i64 (Q.sub x.Node.Give.Disk x.Used.Disk)] 24 (0, 0)) :: (hs ++ (bX, .cells #[.string x.Node.Name, q1, q2, .bool x.Node.Off, .int .i64 x.Node.Give.CPU, .int .i64 x.Node.Give.Mem, .int .i64 x.Node.Give.Disk, .int .i64 x.Node.Pods, .int .i64 x.Node.Disks, q3, .int .i64 x.Used.CPU, .int .i64 x.Used.Mem, .int .i64 x.Used.Disk, q4, q5] 38 (0, 0)) :: (bP, .cells #[.string p.Name, .int .i64 p.Priority, p1, .int .i64 p.Want.CPU, .int .i64 p.Want.Mem, .int .i64 p.Want.Disk, p2, p3, p4, p5, p6, p7, p8, p9, .string p.Node, .string p.Hope] 33 (0, 0)) :: s.cs)⟩ = zst ∧ (OwnS (kInt .i64) 3 s.I v' hs (allN p x 1))) (fun K13 hkl13 => ?_) ?_
  · skip
    refine run_seq fun _ hk14 => ?_
    have hn0 := allN_zero p x
    refine run_region ?_
    refine opsR_q rfl (q_fieldAddr rfl) ?_
    simp only [nrm, Nat.reduceAdd, Nat.reduceMul, Nat.reduceSub, Int.reduceToNat, Int.reduceAdd]
    refine opsR_q rfl (q_fieldAddr rfl) ?_
    simp only [nrm, Nat.reduceAdd, Nat.reduceMul, Nat.reduceSub, Int.reduceToNat, Int.reduceAdd]
    refine opsR_q rfl (q_loadB1 rfl inferInstance rfl) ?_
    simp only [nrm, Nat.reduceAdd, Nat.reduceMul, Nat.reduceSub, Int.reduceToNat, Int.reduceAdd]
    refine opsR_nil ?_
    refine hk14 _ _ ?_
    clear hk14
    refine run_cond rfl (fun ho15 => ?_) (fun ho15 => ?_)
    · have hc15 := ho15; try simp only [spl] at hc15
      refine run_region ?_
      refine opsR_q rfl (q_move) ?_
      simp only [nrm]
      refine opsR_slice1 (kInt .i64) rfl rfl (by rfl) (by decide) (by decide) (by rfl) (by first | rfl | assumption | exact (kInt .i64).shut | (refine Kd.mono _ ?_ (by assumption); exact leA) | (apply (kInt .i64).shut <;> assumption)) fun v16 hs16 hv16 => ?_
      simp only [nrm, Nat.reduceAdd, Nat.reduceMul, Nat.reduceSub, Int.reduceToNat, Int.reduceAdd]
      refine opsR_app rfl rfl rfl (by first | assumption | (refine OwnS.mono ?_ (by assumption); exact leA)) (by infer_instance) slrA (by rfl) (by rfl) rfl rfl idxA fun v17 hs17 hv17 => ?_
      simp only [nrm, Nat.reduceAdd, Nat.reduceMul, Nat.reduceSub, Int.reduceToNat, Int.reduceAdd]
      refine opsR_dropS (hs := hs16) ?_
      try simp only [nrm, Nat.reduceAdd, Nat.reduceMul, Nat.reduceSub, Int.reduceToNat, Int.reduceAdd]
      refine opsR_q rfl (q_assign) ?_
      simp only [nrm]
      refine opsR_nil ?_
      first
      | exact hkl13 _ _ _ ⟨_, _, rfl, rfl, by first | exact OwnS.cast (by assumption) (allN_yes (yes0 (by assumption))) | exact OwnS.cast (by assumption) (allN_no (no0 (by assumption)))⟩ rfl
    · have hc15 := ho15; try simp only [spl] at hc15
      refine run_skip ?_
      first
      | exact hkl13 _ _ _ ⟨_, _, rfl, rfl, by first | exact OwnS.cast (by assumption) (allN_yes (yes0 (by assumption))) | exact OwnS.cast (by assumption) (allN_no (no0 (by assumption)))⟩ rfl
  rintro _ _ jv13 ⟨v', hs, rfl, rfl, hO⟩
  simp only [fr, Nat.zero_add, Nat.reduceAdd]
  have hall := allN_len p x 1
  refine run_join [0, 0, 0, 0, 0, 2, 0, 0, 0, 0, 0, 0, 0, 0, 0, 0, 0, 0, 0, 0, 0, 0, 0, 0, 0, 0, 0, 1, 1, 1, 1, 0, 0, 0, 0, 0, 0, 0, 0, 0, 0, 0, 0, 0, 0, 0, 0, 0, 0, 0, 0, 0, 0, 0, 0, 0, 0, 0, 0, 0, 0, 0, 0, 0, 0, 0, 0, 0, 0, 0, 0, 0, 0, 0, 0, 0, 0, 0, 0, 0, 0, 0, 0, 0, 0, 0, 0, 0] (fun zL zst => ∃ (v' : Value) (hs : List (Nat × Obj)), zL = [v'] ∧ ⟨s.I, (bT, .cells #[.string (keptOf x.Node.Taints p.Bears).Key, .string (keptOf x.Node.Taints p.Bears).Value, .int .i64 (keptOf x.Node.Taints p.Bears).Effect] 77 (0, 0)) :: (bF, .cells #[.int .i64 (Q.sub x.Node.Give.CPU x.Used.CPU), .int .i64 (Q.sub x.Node.Give.Mem x.Used.Mem), .int .i64 (Q.sub x.Node.Give.Disk x.Used.Disk)] 24 (0, 0)) :: (hs ++ (bX, .cells #[.string x.Node.Name, q1, q2, .bool x.Node.Off, .int .i64 x.Node.Give.CPU, .int .i64 x.Node.Give.Mem, .int .i64 x.Node.Give.Disk, .int .i64 x.Node.Pods, .int .i64 x.Node.Disks, q3, .int .i64 x.Used.CPU, .int .i64 x.Used.Mem, .int .i64 x.Used.Disk, q4, q5] 38 (0, 0)) :: (bP, .cells #[.string p.Name, .int .i64 p.Priority, p1, .int .i64 p.Want.CPU, .int .i64 p.Want.Mem, .int .i64 p.Want.Disk, p2, p3, p4, p5, p6, p7, p8, p9, .string p.Node, .string p.Hope] 33 (0, 0)) :: s.cs)⟩ = zst ∧ (OwnS (kInt .i64) 3 s.I v' hs (allN p x 2))) (fun K19 hkl19 => ?_) ?_
  · skip
    refine run_seq fun _ hk20 => ?_
    refine run_region ?_
    refine opsR_q rfl (q_move) ?_
    simp only [nrm]
    refine opsR_nil ?_
    refine hk20 _ _ ?_
    clear hk20
    refine run_cond rfl (fun ho22 => ?_) (fun ho22 => ?_)
    · have hc22 := ho22; try simp only [spl] at hc22
      refine run_region ?_
      refine opsR_q rfl (q_move) ?_
      simp only [nrm]
      refine opsR_slice1 (kInt .i64) rfl rfl (by rfl) (by decide) (by decide) (by rfl) (by first | rfl | assumption | exact (kInt .i64).shut | (refine Kd.mono _ ?_ (by assumption); exact leA) | (apply (kInt .i64).shut <;> assumption)) fun v24 hs24 hv24 => ?_
      simp only [nrm, Nat.reduceAdd, Nat.reduceMul, Nat.reduceSub, Int.reduceToNat, Int.reduceAdd]
      refine opsR_app rfl rfl rfl (by first | assumption | (refine OwnS.mono ?_ (by assumption); exact leA)) (by infer_instance) slrA (by rfl) (by rfl) rfl rfl idxA fun v25 hs25 hv25 => ?_
      simp only [nrm, Nat.reduceAdd, Nat.reduceMul, Nat.reduceSub, Int.reduceToNat, Int.reduceAdd]
      refine opsR_dropS (hs := hs24) ?_
      try simp only [nrm, Nat.reduceAdd, Nat.reduceMul, Nat.reduceSub, Int.reduceToNat, Int.reduceAdd]
      refine opsR_q rfl (q_assign) ?_
      simp only [nrm]
      refine opsR_nil ?_
      first
      | exact hkl19 _ _ _ ⟨_, _, rfl, rfl, by first | exact OwnS.cast (by assumption) (allN_yes (yes1 (by assumption))) | exact OwnS.cast (by assumption) (allN_no (no1 (by assumption)))⟩ rfl
    · have hc22 := ho22; try simp only [spl] at hc22
      refine run_skip ?_
      first
      | exact hkl19 _ _ _ ⟨_, _, rfl, rfl, by first | exact OwnS.cast (by assumption) (allN_yes (yes1 (by assumption))) | exact OwnS.cast (by assumption) (allN_no (no1 (by assumption)))⟩ rfl
  rintro _ _ jv19 ⟨v', hs, rfl, rfl, hO⟩
  simp only [fr, Nat.zero_add, Nat.reduceAdd]
  have hall := allN_len p x 2
  refine run_join [0, 0, 0, 0, 0, 2, 0, 0, 0, 0, 0, 0, 0, 0, 0, 0, 0, 0, 0, 0, 0, 0, 0, 0, 0, 0, 0, 0, 0, 0, 0, 1, 1, 1, 1, 1, 1, 1, 1, 1, 1, 0, 0, 0, 0, 0, 0, 0, 0, 0, 0, 0, 0, 0, 0, 0, 0, 0, 0, 0, 0, 0, 0, 0, 0, 0, 0, 0, 0, 0, 0, 0, 0, 0, 0, 0, 0, 0, 0, 0, 0, 0, 0, 0, 0, 0, 0, 0] (fun zL zst => ∃ (v' : Value) (hs : List (Nat × Obj)), zL = [v'] ∧ ⟨s.I, (bT, .cells #[.string (keptOf x.Node.Taints p.Bears).Key, .string (keptOf x.Node.Taints p.Bears).Value, .int .i64 (keptOf x.Node.Taints p.Bears).Effect] 77 (0, 0)) :: (bF, .cells #[.int .i64 (Q.sub x.Node.Give.CPU x.Used.CPU), .int .i64 (Q.sub x.Node.Give.Mem x.Used.Mem), .int .i64 (Q.sub x.Node.Give.Disk x.Used.Disk)] 24 (0, 0)) :: (hs ++ (bX, .cells #[.string x.Node.Name, q1, q2, .bool x.Node.Off, .int .i64 x.Node.Give.CPU, .int .i64 x.Node.Give.Mem, .int .i64 x.Node.Give.Disk, .int .i64 x.Node.Pods, .int .i64 x.Node.Disks, q3, .int .i64 x.Used.CPU, .int .i64 x.Used.Mem, .int .i64 x.Used.Disk, q4, q5] 38 (0, 0)) :: (bP, .cells #[.string p.Name, .int .i64 p.Priority, p1, .int .i64 p.Want.CPU, .int .i64 p.Want.Mem, .int .i64 p.Want.Disk, p2, p3, p4, p5, p6, p7, p8, p9, .string p.Node, .string p.Hope] 33 (0, 0)) :: s.cs)⟩ = zst ∧ (OwnS (kInt .i64) 3 s.I v' hs (allN p x 3))) (fun K27 hkl27 => ?_) ?_
  · skip
    refine run_seq fun _ hk28 => ?_
    refine run_region ?_
    refine opsR_q rfl (q_fieldAddr rfl) ?_
    simp only [nrm, Nat.reduceAdd, Nat.reduceMul, Nat.reduceSub, Int.reduceToNat, Int.reduceAdd]
    refine opsR_q rfl (q_fieldAddr rfl) ?_
    simp only [nrm, Nat.reduceAdd, Nat.reduceMul, Nat.reduceSub, Int.reduceToNat, Int.reduceAdd]
    refine opsR_q rfl (q_loadB1 rfl inferInstance rfl) ?_
    simp only [nrm, Nat.reduceAdd, Nat.reduceMul, Nat.reduceSub, Int.reduceToNat, Int.reduceAdd]
    refine opsR_q rfl (q_fieldAddr rfl) ?_
    simp only [nrm, Nat.reduceAdd, Nat.reduceMul, Nat.reduceSub, Int.reduceToNat, Int.reduceAdd]
    refine opsR_q rfl (q_loadB1 rfl inferInstance rfl) ?_
    simp only [nrm, Nat.reduceAdd, Nat.reduceMul, Nat.reduceSub, Int.reduceToNat, Int.reduceAdd]
    refine opsR_q rfl (q_call rfl (refMatch_spec (by first | assumption | (refine Sl.mono ?_ (by assumption); exact leA)) (by first | assumption | (refine Sl.mono ?_ (by assumption); exact leA)) hL hR)) ?_
    simp only [nrm, Nat.reduceAdd, Nat.reduceMul, Nat.reduceSub, Int.reduceToNat, Int.reduceAdd]
    refine opsR_q rfl (q_not rfl) ?_
    simp only [nrm]
    refine opsR_nil ?_
    refine hk28 _ _ ?_
    clear hk28
    refine run_cond rfl (fun ho31 => ?_) (fun ho31 => ?_)
    · have hc31 := ho31; try simp only [spl] at hc31
      refine run_region ?_
      refine opsR_q rfl (q_move) ?_
      simp only [nrm]
      refine opsR_slice1 (kInt .i64) rfl rfl (by rfl) (by decide) (by decide) (by rfl) (by first | rfl | assumption | exact (kInt .i64).shut | (refine Kd.mono _ ?_ (by assumption); exact leA) | (apply (kInt .i64).shut <;> assumption)) fun v33 hs33 hv33 => ?_
      simp only [nrm, Nat.reduceAdd, Nat.reduceMul, Nat.reduceSub, Int.reduceToNat, Int.reduceAdd]
      refine opsR_app rfl rfl rfl (by first | assumption | (refine OwnS.mono ?_ (by assumption); exact leA)) (by infer_instance) slrA (by rfl) (by rfl) rfl rfl idxA fun v34 hs34 hv34 => ?_
      simp only [nrm, Nat.reduceAdd, Nat.reduceMul, Nat.reduceSub, Int.reduceToNat, Int.reduceAdd]
      refine opsR_dropS (hs := hs33) ?_
      try simp only [nrm, Nat.reduceAdd, Nat.reduceMul, Nat.reduceSub, Int.reduceToNat, Int.reduceAdd]
      refine opsR_q rfl (q_assign) ?_
      simp only [nrm]
      refine opsR_nil ?_
      first
      | exact hkl27 _ _ _ ⟨_, _, rfl, rfl, by first | exact OwnS.cast (by assumption) (allN_yes (yes2 (by assumption))) | exact OwnS.cast (by assumption) (allN_no (no2 (by assumption)))⟩ rfl
    · have hc31 := ho31; try simp only [spl] at hc31
      refine run_skip ?_
      first
      | exact hkl27 _ _ _ ⟨_, _, rfl, rfl, by first | exact OwnS.cast (by assumption) (allN_yes (yes2 (by assumption))) | exact OwnS.cast (by assumption) (allN_no (no2 (by assumption)))⟩ rfl
  rintro _ _ jv27 ⟨v', hs, rfl, rfl, hO⟩
  simp only [fr, Nat.zero_add, Nat.reduceAdd]
  have hall := allN_len p x 3
  refine run_join [0, 0, 0, 0, 0, 2, 0, 0, 0, 0, 0, 0, 0, 0, 0, 0, 0, 0, 0, 0, 0, 0, 0, 0, 0, 0, 0, 0, 0, 0, 0, 0, 0, 0, 0, 0, 0, 0, 0, 0, 0, 1, 1, 1, 1, 1, 1, 0, 0, 0, 0, 0, 0, 0, 0, 0, 0, 0, 0, 0, 0, 0, 0, 0, 0, 0, 0, 0, 0, 0, 0, 0, 0, 0, 0, 0, 0, 0, 0, 0, 0, 0, 0, 0, 0, 0, 0, 0] (fun zL zst => ∃ (v' : Value) (hs : List (Nat × Obj)), zL = [v'] ∧ ⟨s.I, (bT, .cells #[.string (keptOf x.Node.Taints p.Bears).Key, .string (keptOf x.Node.Taints p.Bears).Value, .int .i64 (keptOf x.Node.Taints p.Bears).Effect] 77 (0, 0)) :: (bF, .cells #[.int .i64 (Q.sub x.Node.Give.CPU x.Used.CPU), .int .i64 (Q.sub x.Node.Give.Mem x.Used.Mem), .int .i64 (Q.sub x.Node.Give.Disk x.Used.Disk)] 24 (0, 0)) :: (hs ++ (bX, .cells #[.string x.Node.Name, q1, q2, .bool x.Node.Off, .int .i64 x.Node.Give.CPU, .int .i64 x.Node.Give.Mem, .int .i64 x.Node.Give.Disk, .int .i64 x.Node.Pods, .int .i64 x.Node.Disks, q3, .int .i64 x.Used.CPU, .int .i64 x.Used.Mem, .int .i64 x.Used.Disk, q4, q5] 38 (0, 0)) :: (bP, .cells #[.string p.Name, .int .i64 p.Priority, p1, .int .i64 p.Want.CPU, .int .i64 p.Want.Mem, .int .i64 p.Want.Disk, p2, p3, p4, p5, p6, p7, p8, p9, .string p.Node, .string p.Hope] 33 (0, 0)) :: s.cs)⟩ = zst ∧ (OwnS (kInt .i64) 3 s.I v' hs (allN p x 4))) (fun K36 hkl36 => ?_) ?_
  · skip
    refine run_seq fun _ hk37 => ?_
    refine run_region ?_
    refine opsR_q rfl (by first | exact q_loadBN rfl inferInstance (by rfl) | exact q_loadBW rfl inferInstance (by assumption)) ?_
    simp only [nrm, Nat.reduceAdd, Nat.reduceMul, Nat.reduceSub, Int.reduceToNat, Int.reduceAdd]
    refine opsR_q rfl (by first | exact q_loadBN rfl inferInstance (by rfl) | exact q_loadBW rfl inferInstance (by assumption)) ?_
    simp only [nrm, Nat.reduceAdd, Nat.reduceMul, Nat.reduceSub, Int.reduceToNat, Int.reduceAdd]
    refine opsR_q rfl (q_call rfl (refClash_spec (by first | assumption | (refine Kd.mono _ ?_ (by assumption); exact leA)) (by first | assumption | (refine Kd.mono _ ?_ (by assumption); exact leA)))) ?_
    simp only [nrm, Nat.reduceAdd, Nat.reduceMul, Nat.reduceSub, Int.reduceToNat, Int.reduceAdd]
    refine opsR_nil ?_
    refine hk37 _ _ ?_
    clear hk37
    refine run_cond rfl (fun ho40 => ?_) (fun ho40 => ?_)
    · have hc40 := ho40; try simp only [spl] at hc40
      refine run_region ?_
      refine opsR_q rfl (q_move) ?_
      simp only [nrm]
      refine opsR_slice1 (kInt .i64) rfl rfl (by rfl) (by decide) (by decide) (by rfl) (by first | rfl | assumption | exact (kInt .i64).shut | (refine Kd.mono _ ?_ (by assumption); exact leA) | (apply (kInt .i64).shut <;> assumption)) fun v42 hs42 hv42 => ?_
      simp only [nrm, Nat.reduceAdd, Nat.reduceMul, Nat.reduceSub, Int.reduceToNat, Int.reduceAdd]
      refine opsR_app rfl rfl rfl (by first | assumption | (refine OwnS.mono ?_ (by assumption); exact leA)) (by infer_instance) slrA (by rfl) (by rfl) rfl rfl idxA fun v43 hs43 hv43 => ?_
      simp only [nrm, Nat.reduceAdd, Nat.reduceMul, Nat.reduceSub, Int.reduceToNat, Int.reduceAdd]
      refine opsR_dropS (hs := hs42) ?_
      try simp only [nrm, Nat.reduceAdd, Nat.reduceMul, Nat.reduceSub, Int.reduceToNat, Int.reduceAdd]
      refine opsR_q rfl (q_assign) ?_
      simp only [nrm]
      refine opsR_nil ?_
      first
      | exact hkl36 _ _ _ ⟨_, _, rfl, rfl, by first | exact OwnS.cast (by assumption) (allN_yes (yes3 (by assumption))) | exact OwnS.cast (by assumption) (allN_no (no3 (by assumption)))⟩ rfl
    · have hc40 := ho40; try simp only [spl] at hc40
      refine run_skip ?_
      first
      | exact hkl36 _ _ _ ⟨_, _, rfl, rfl, by first | exact OwnS.cast (by assumption) (allN_yes (yes3 (by assumption))) | exact OwnS.cast (by assumption) (allN_no (no3 (by assumption)))⟩ rfl
  rintro _ _ jv36 ⟨v', hs, rfl, rfl, hO⟩
  simp only [fr, Nat.zero_add, Nat.reduceAdd]
  have hall := allN_len p x 4
  refine run_join [0, 0, 0, 0, 0, 2, 0, 0, 0, 0, 0, 0, 0, 0, 0, 0, 0, 0, 0, 0, 0, 0, 0, 0, 0, 0, 0, 0, 0, 0, 0, 0, 0, 0, 0, 0, 0, 0, 0, 0, 0, 0, 0, 0, 0, 0, 0, 1, 1, 1, 1, 1, 1, 1, 1, 1, 1, 0, 0, 0, 0, 0, 0, 0, 0, 0, 0, 0, 0, 0, 0, 0, 0, 0, 0, 0, 0, 0, 0, 0, 0, 0, 0, 0, 0, 0, 0, 0] (fun zL zst => ∃ (v' : Value) (hs : List (Nat × Obj)), zL = [v'] ∧ ⟨s.I, (bT, .cells #[.string (keptOf x.Node.Taints p.Bears).Key, .string (keptOf x.Node.Taints p.Bears).Value, .int .i64 (keptOf x.Node.Taints p.Bears).Effect] 77 (0, 0)) :: (bF, .cells #[.int .i64 (Q.sub x.Node.Give.CPU x.Used.CPU), .int .i64 (Q.sub x.Node.Give.Mem x.Used.Mem), .int .i64 (Q.sub x.Node.Give.Disk x.Used.Disk)] 24 (0, 0)) :: (hs ++ (bX, .cells #[.string x.Node.Name, q1, q2, .bool x.Node.Off, .int .i64 x.Node.Give.CPU, .int .i64 x.Node.Give.Mem, .int .i64 x.Node.Give.Disk, .int .i64 x.Node.Pods, .int .i64 x.Node.Disks, q3, .int .i64 x.Used.CPU, .int .i64 x.Used.Mem, .int .i64 x.Used.Disk, q4, q5] 38 (0, 0)) :: (bP, .cells #[.string p.Name, .int .i64 p.Priority, p1, .int .i64 p.Want.CPU, .int .i64 p.Want.Mem, .int .i64 p.Want.Disk, p2, p3, p4, p5, p6, p7, p8, p9, .string p.Node, .string p.Hope] 33 (0, 0)) :: s.cs)⟩ = zst ∧ (OwnS (kInt .i64) 3 s.I v' hs (allN p x 5))) (fun K45 hkl45 => ?_) ?_
  · skip
    refine run_seq fun _ hk46 => ?_
    refine run_region ?_
    refine opsR_q rfl (q_fieldAddr rfl) ?_
    simp only [nrm, Nat.reduceAdd, Nat.reduceMul, Nat.reduceSub, Int.reduceToNat, Int.reduceAdd]
    refine opsR_q rfl (q_loadB1 rfl inferInstance rfl) ?_
    simp only [nrm, Nat.reduceAdd, Nat.reduceMul, Nat.reduceSub, Int.reduceToNat, Int.reduceAdd]
    refine opsR_q rfl (q_len_v rfl (by first | exact Sl.len (by assumption) | exact OwnS.len (by assumption) | exact SlR.len (by assumption) | assumption)) ?_
    simp only [nrm, Nat.reduceAdd, Nat.reduceMul, Nat.reduceSub, Int.reduceToNat, Int.reduceAdd]
    refine opsR_q rfl (q_fieldAddr rfl) ?_
    simp only [nrm, Nat.reduceAdd, Nat.reduceMul, Nat.reduceSub, Int.reduceToNat, Int.reduceAdd]
    refine opsR_q rfl (q_fieldAddr rfl) ?_
    simp only [nrm, Nat.reduceAdd, Nat.reduceMul, Nat.reduceSub, Int.reduceToNat, Int.reduceAdd]
    refine opsR_q rfl (q_loadB1 rfl inferInstance rfl) ?_
    simp only [nrm, Nat.reduceAdd, Nat.reduceMul, Nat.reduceSub, Int.reduceToNat, Int.reduceAdd]
    refine opsR_q rfl (q_geq rfl rfl) ?_
    simp only [nrm, Nat.reduceAdd, Nat.reduceMul, Nat.reduceSub, Int.reduceToNat, Int.reduceAdd]
    refine opsR_nil ?_
    refine hk46 _ _ ?_
    clear hk46
    refine run_cond rfl (fun ho48 => ?_) (fun ho48 => ?_)
    · have hc48 := ho48; try simp only [spl] at hc48
      refine run_region ?_
      refine opsR_q rfl (q_move) ?_
      simp only [nrm]
      refine opsR_slice1 (kInt .i64) rfl rfl (by rfl) (by decide) (by decide) (by rfl) (by first | rfl | assumption | exact (kInt .i64).shut | (refine Kd.mono _ ?_ (by assumption); exact leA) | (apply (kInt .i64).shut <;> assumption)) fun v50 hs50 hv50 => ?_
      simp only [nrm, Nat.reduceAdd, Nat.reduceMul, Nat.reduceSub, Int.reduceToNat, Int.reduceAdd]
      refine opsR_app rfl rfl rfl (by first | assumption | (refine OwnS.mono ?_ (by assumption); exact leA)) (by infer_instance) slrA (by rfl) (by rfl) rfl rfl idxA fun v51 hs51 hv51 => ?_
      simp only [nrm, Nat.reduceAdd, Nat.reduceMul, Nat.reduceSub, Int.reduceToNat, Int.reduceAdd]
      refine opsR_dropS (hs := hs50) ?_
      try simp only [nrm, Nat.reduceAdd, Nat.reduceMul, Nat.reduceSub, Int.reduceToNat, Int.reduceAdd]
      refine opsR_q rfl (q_assign) ?_
      simp only [nrm]
      refine opsR_nil ?_
      first
      | exact hkl45 _ _ _ ⟨_, _, rfl, rfl, by first | exact OwnS.cast (by assumption) (allN_yes (yes4 (by omega))) | exact OwnS.cast (by assumption) (allN_no (no4 (by omega)))⟩ rfl
    · have hc48 := ho48; try simp only [spl] at hc48
      refine run_skip ?_
      first
      | exact hkl45 _ _ _ ⟨_, _, rfl, rfl, by first | exact OwnS.cast (by assumption) (allN_yes (yes4 (by omega))) | exact OwnS.cast (by assumption) (allN_no (no4 (by omega)))⟩ rfl
  rintro _ _ jv45 ⟨v', hs, rfl, rfl, hO⟩
  simp only [fr, Nat.zero_add, Nat.reduceAdd]
  have hall := allN_len p x 5
  refine run_join [0, 0, 0, 0, 0, 2, 0, 0, 0, 0, 0, 0, 0, 0, 0, 0, 0, 0, 0, 0, 0, 0, 0, 0, 0, 0, 0, 0, 0, 0, 0, 0, 0, 0, 0, 0, 0, 0, 0, 0, 0, 0, 0, 0, 0, 0, 0, 0, 0, 0, 0, 0, 0, 0, 0, 0, 0, 1, 1, 1, 1, 1, 1, 1, 1, 1, 1, 0, 0, 0, 0, 0, 0, 0, 0, 0, 0, 0, 0, 0, 0, 0, 0, 0, 0, 0, 0, 0] (fun zL zst => ∃ (v' : Value) (hs : List (Nat × Obj)), zL = [v'] ∧ ⟨s.I, (bT, .cells #[.string (keptOf x.Node.Taints p.Bears).Key, .string (keptOf x.Node.Taints p.Bears).Value, .int .i64 (keptOf x.Node.Taints p.Bears).Effect] 77 (0, 0)) :: (bF, .cells #[.int .i64 (Q.sub x.Node.Give.CPU x.Used.CPU), .int .i64 (Q.sub x.Node.Give.Mem x.Used.Mem), .int .i64 (Q.sub x.Node.Give.Disk x.Used.Disk)] 24 (0, 0)) :: (hs ++ (bX, .cells #[.string x.Node.Name, q1, q2, .bool x.Node.Off, .int .i64 x.Node.Give.CPU, .int .i64 x.Node.Give.Mem, .int .i64 x.Node.Give.Disk, .int .i64 x.Node.Pods, .int .i64 x.Node.Disks, q3, .int .i64 x.Used.CPU, .int .i64 x.Used.Mem, .int .i64 x.Used.Disk, q4, q5] 38 (0, 0)) :: (bP, .cells #[.string p.Name, .int .i64 p.Priority, p1, .int .i64 p.Want.CPU, .int .i64 p.Want.Mem, .int .i64 p.Want.Disk, p2, p3, p4, p5, p6, p7, p8, p9, .string p.Node, .string p.Hope] 33 (0, 0)) :: s.cs)⟩ = zst ∧ (OwnS (kInt .i64) 3 s.I v' hs (allN p x 6))) (fun K53 hkl53 => ?_) ?_
  · skip
    refine run_seq fun _ hk54 => ?_
    refine run_drawE mixed 7 (by kernel_rfl) rfl ?_
    simp only [List.take_succ_cons, List.take_zero, List.drop_succ_cons, List.drop_zero, List.drop_nil, List.take_nil]
    refine oblE_q rfl (fun I hI => (q_fieldAddr rfl)) ?_
    simp only [nrm, Nat.reduceAdd, Nat.reduceMul, Nat.reduceSub, Int.reduceToNat, Int.reduceAdd]
    refine oblE_q rfl (fun I hI => (q_fieldAddr rfl)) ?_
    simp only [nrm, Nat.reduceAdd, Nat.reduceMul, Nat.reduceSub, Int.reduceToNat, Int.reduceAdd]
    refine oblE_q rfl (fun I hI => (q_loadB1 rfl inferInstance rfl)) ?_
    simp only [nrm, Nat.reduceAdd, Nat.reduceMul, Nat.reduceSub, Int.reduceToNat, Int.reduceAdd]
    refine oblE_q rfl (fun I hI => (q_call rfl (refClamp_spec _ _))) ?_
    simp only [nrm, Nat.reduceAdd, Nat.reduceMul, Nat.reduceSub, Int.reduceToNat, Int.reduceAdd]
    refine oblE_q rfl (fun I hI => (q_fieldAddr rfl)) ?_
    simp only [nrm, Nat.reduceAdd, Nat.reduceMul, Nat.reduceSub, Int.reduceToNat, Int.reduceAdd]
    refine oblE_q rfl (fun I hI => (q_loadB1 rfl inferInstance rfl)) ?_
    simp only [nrm, Nat.reduceAdd, Nat.reduceMul, Nat.reduceSub, Int.reduceToNat, Int.reduceAdd]
    refine oblE_q rfl (fun I hI => (q_gtr rfl rfl)) ?_
    simp only [nrm, Nat.reduceAdd, Nat.reduceMul, Nat.reduceSub, Int.reduceToNat, Int.reduceAdd]
    refine oblE_nil (show OpsR _ _ _ _ _ _ from ?_)
    try simp only [nrm, Nat.reduceAdd, Nat.reduceMul, Nat.reduceSub, Int.reduceToNat, Int.reduceAdd]
    refine opsR_nil ?_
    refine hk54 _ _ ?_
    clear hk54
    refine run_cond rfl (fun ho57 => ?_) (fun ho57 => ?_)
    · have hc57 := ho57; try simp only [spl] at hc57
      refine run_region ?_
      refine opsR_q rfl (q_move) ?_
      simp only [nrm]
      refine opsR_slice1 (kInt .i64) rfl rfl (by rfl) (by decide) (by decide) (by rfl) (by first | rfl | assumption | exact (kInt .i64).shut | (refine Kd.mono _ ?_ (by assumption); exact leA) | (apply (kInt .i64).shut <;> assumption)) fun v59 hs59 hv59 => ?_
      simp only [nrm, Nat.reduceAdd, Nat.reduceMul, Nat.reduceSub, Int.reduceToNat, Int.reduceAdd]
      refine opsR_app rfl rfl rfl (by first | assumption | (refine OwnS.mono ?_ (by assumption); exact leA)) (by infer_instance) slrA (by rfl) (by rfl) rfl rfl idxA fun v60 hs60 hv60 => ?_
      simp only [nrm, Nat.reduceAdd, Nat.reduceMul, Nat.reduceSub, Int.reduceToNat, Int.reduceAdd]
      refine opsR_dropS (hs := hs59) ?_
      try simp only [nrm, Nat.reduceAdd, Nat.reduceMul, Nat.reduceSub, Int.reduceToNat, Int.reduceAdd]
      refine opsR_q rfl (q_assign) ?_
      simp only [nrm]
      refine opsR_nil ?_
      first
      | exact hkl53 _ _ _ ⟨_, _, rfl, rfl, by first | exact OwnS.cast (by assumption) (allN_yes (yes5 (by omega))) | exact OwnS.cast (by assumption) (allN_no (no5 (by omega)))⟩ rfl
    · have hc57 := ho57; try simp only [spl] at hc57
      refine run_skip ?_
      first
      | exact hkl53 _ _ _ ⟨_, _, rfl, rfl, by first | exact OwnS.cast (by assumption) (allN_yes (yes5 (by omega))) | exact OwnS.cast (by assumption) (allN_no (no5 (by omega)))⟩ rfl
  rintro _ _ jv53 ⟨v', hs, rfl, rfl, hO⟩
  simp only [fr, Nat.zero_add, Nat.reduceAdd]
  have hall := allN_len p x 6
  refine run_join [0, 0, 0, 0, 0, 2, 0, 0, 0, 0, 0, 0, 0, 0, 0, 0, 0, 0, 0, 0, 0, 0, 0, 0, 0, 0, 0, 0, 0, 0, 0, 0, 0, 0, 0, 0, 0, 0, 0, 0, 0, 0, 0, 0, 0, 0, 0, 0, 0, 0, 0, 0, 0, 0, 0, 0, 0, 0, 0, 0, 0, 0, 0, 0, 0, 0, 0, 1, 1, 1, 1, 1, 1, 1, 1, 1, 1, 0, 0, 0, 0, 0, 0, 0, 0, 0, 0, 0] (fun zL zst => ∃ (v' : Value) (hs : List (Nat × Obj)), zL = [v'] ∧ ⟨s.I, (bT, .cells #[.string (keptOf x.Node.Taints p.Bears).Key, .string (keptOf x.Node.Taints p.Bears).Value, .int .i64 (keptOf x.Node.Taints p.Bears).Effect] 77 (0, 0)) :: (bF, .cells #[.int .i64 (Q.sub x.Node.Give.CPU x.Used.CPU), .int .i64 (Q.sub x.Node.Give.Mem x.Used.Mem), .int .i64 (Q.sub x.Node.Give.Disk x.Used.Disk)] 24 (0, 0)) :: (hs ++ (bX, .cells #[.string x.Node.Name, q1, q2, .bool x.Node.Off, .int .i64 x.Node.Give.CPU, .int .i64 x.Node.Give.Mem, .int .i64 x.Node.Give.Disk, .int .i64 x.Node.Pods, .int .i64 x.Node.Disks, q3, .int .i64 x.Used.CPU, .int .i64 x.Used.Mem, .int .i64 x.Used.Disk, q4, q5] 38 (0, 0)) :: (bP, .cells #[.string p.Name, .int .i64 p.Priority, p1, .int .i64 p.Want.CPU, .int .i64 p.Want.Mem, .int .i64 p.Want.Disk, p2, p3, p4, p5, p6, p7, p8, p9, .string p.Node, .string p.Hope] 33 (0, 0)) :: s.cs)⟩ = zst ∧ (OwnS (kInt .i64) 3 s.I v' hs (allN p x 7))) (fun K62 hkl62 => ?_) ?_
  · skip
    refine run_seq fun _ hk63 => ?_
    refine run_drawE mixed 7 (by kernel_rfl) rfl ?_
    simp only [List.take_succ_cons, List.take_zero, List.drop_succ_cons, List.drop_zero, List.drop_nil, List.take_nil]
    refine oblE_q rfl (fun I hI => (q_fieldAddr rfl)) ?_
    simp only [nrm, Nat.reduceAdd, Nat.reduceMul, Nat.reduceSub, Int.reduceToNat, Int.reduceAdd]
    refine oblE_q rfl (fun I hI => (q_fieldAddr rfl)) ?_
    simp only [nrm, Nat.reduceAdd, Nat.reduceMul, Nat.reduceSub, Int.reduceToNat, Int.reduceAdd]
    refine oblE_q rfl (fun I hI => (q_loadB1 rfl inferInstance rfl)) ?_
    simp only [nrm, Nat.reduceAdd, Nat.reduceMul, Nat.reduceSub, Int.reduceToNat, Int.reduceAdd]
    refine oblE_q rfl (fun I hI => (q_call rfl (refClamp_spec _ _))) ?_
    simp only [nrm, Nat.reduceAdd, Nat.reduceMul, Nat.reduceSub, Int.reduceToNat, Int.reduceAdd]
    refine oblE_q rfl (fun I hI => (q_fieldAddr rfl)) ?_
    simp only [nrm, Nat.reduceAdd, Nat.reduceMul, Nat.reduceSub, Int.reduceToNat, Int.reduceAdd]
    refine oblE_q rfl (fun I hI => (q_loadB1 rfl inferInstance rfl)) ?_
    simp only [nrm, Nat.reduceAdd, Nat.reduceMul, Nat.reduceSub, Int.reduceToNat, Int.reduceAdd]
    refine oblE_q rfl (fun I hI => (q_gtr rfl rfl)) ?_
    simp only [nrm, Nat.reduceAdd, Nat.reduceMul, Nat.reduceSub, Int.reduceToNat, Int.reduceAdd]
    refine oblE_nil (show OpsR _ _ _ _ _ _ from ?_)
    try simp only [nrm, Nat.reduceAdd, Nat.reduceMul, Nat.reduceSub, Int.reduceToNat, Int.reduceAdd]
    refine opsR_nil ?_
    refine hk63 _ _ ?_
    clear hk63
    refine run_cond rfl (fun ho66 => ?_) (fun ho66 => ?_)
    · have hc66 := ho66; try simp only [spl] at hc66
      refine run_region ?_
      refine opsR_q rfl (q_move) ?_
      simp only [nrm]
      refine opsR_slice1 (kInt .i64) rfl rfl (by rfl) (by decide) (by decide) (by rfl) (by first | rfl | assumption | exact (kInt .i64).shut | (refine Kd.mono _ ?_ (by assumption); exact leA) | (apply (kInt .i64).shut <;> assumption)) fun v68 hs68 hv68 => ?_
      simp only [nrm, Nat.reduceAdd, Nat.reduceMul, Nat.reduceSub, Int.reduceToNat, Int.reduceAdd]
      refine opsR_app rfl rfl rfl (by first | assumption | (refine OwnS.mono ?_ (by assumption); exact leA)) (by infer_instance) slrA (by rfl) (by rfl) rfl rfl idxA fun v69 hs69 hv69 => ?_
      simp only [nrm, Nat.reduceAdd, Nat.reduceMul, Nat.reduceSub, Int.reduceToNat, Int.reduceAdd]
      refine opsR_dropS (hs := hs68) ?_
      try simp only [nrm, Nat.reduceAdd, Nat.reduceMul, Nat.reduceSub, Int.reduceToNat, Int.reduceAdd]
      refine opsR_q rfl (q_assign) ?_
      simp only [nrm]
      refine opsR_nil ?_
      first
      | exact hkl62 _ _ _ ⟨_, _, rfl, rfl, by first | exact OwnS.cast (by assumption) (allN_yes (yes6 (by omega))) | exact OwnS.cast (by assumption) (allN_no (no6 (by omega)))⟩ rfl
    · have hc66 := ho66; try simp only [spl] at hc66
      refine run_skip ?_
      first
      | exact hkl62 _ _ _ ⟨_, _, rfl, rfl, by first | exact OwnS.cast (by assumption) (allN_yes (yes6 (by omega))) | exact OwnS.cast (by assumption) (allN_no (no6 (by omega)))⟩ rfl
  rintro _ _ jv62 ⟨v', hs, rfl, rfl, hO⟩
  simp only [fr, Nat.zero_add, Nat.reduceAdd]
  have hall := allN_len p x 7
  refine run_join [0, 0, 0, 0, 0, 2, 0, 0, 0, 0, 0, 0, 0, 0, 0, 0, 0, 0, 0, 0, 0, 0, 0, 0, 0, 0, 0, 0, 0, 0, 0, 0, 0, 0, 0, 0, 0, 0, 0, 0, 0, 0, 0, 0, 0, 0, 0, 0, 0, 0, 0, 0, 0, 0, 0, 0, 0, 0, 0, 0, 0, 0, 0, 0, 0, 0, 0, 0, 0, 0, 0, 0, 0, 0, 0, 0, 0, 1, 1, 1, 1, 1, 1, 1, 1, 1, 1, 0] (fun zL zst => ∃ (v' : Value) (hs : List (Nat × Obj)), zL = [v'] ∧ ⟨s.I, (bT, .cells #[.string (keptOf x.Node.Taints p.Bears).Key, .string (keptOf x.Node.Taints p.Bears).Value, .int .i64 (keptOf x.Node.Taints p.Bears).Effect] 77 (0, 0)) :: (bF, .cells #[.int .i64 (Q.sub x.Node.Give.CPU x.Used.CPU), .int .i64 (Q.sub x.Node.Give.Mem x.Used.Mem), .int .i64 (Q.sub x.Node.Give.Disk x.Used.Disk)] 24 (0, 0)) :: (hs ++ (bX, .cells #[.string x.Node.Name, q1, q2, .bool x.Node.Off, .int .i64 x.Node.Give.CPU, .int .i64 x.Node.Give.Mem, .int .i64 x.Node.Give.Disk, .int .i64 x.Node.Pods, .int .i64 x.Node.Disks, q3, .int .i64 x.Used.CPU, .int .i64 x.Used.Mem, .int .i64 x.Used.Disk, q4, q5] 38 (0, 0)) :: (bP, .cells #[.string p.Name, .int .i64 p.Priority, p1, .int .i64 p.Want.CPU, .int .i64 p.Want.Mem, .int .i64 p.Want.Disk, p2, p3, p4, p5, p6, p7, p8, p9, .string p.Node, .string p.Hope] 33 (0, 0)) :: s.cs)⟩ = zst ∧ (OwnS (kInt .i64) 3 s.I v' hs (allN p x 8))) (fun K71 hkl71 => ?_) ?_
  · skip
    refine run_seq fun _ hk72 => ?_
    refine run_drawE mixed 7 (by kernel_rfl) rfl ?_
    simp only [List.take_succ_cons, List.take_zero, List.drop_succ_cons, List.drop_zero, List.drop_nil, List.take_nil]
    refine oblE_q rfl (fun I hI => (q_fieldAddr rfl)) ?_
    simp only [nrm, Nat.reduceAdd, Nat.reduceMul, Nat.reduceSub, Int.reduceToNat, Int.reduceAdd]
    refine oblE_q rfl (fun I hI => (q_fieldAddr rfl)) ?_
    simp only [nrm, Nat.reduceAdd, Nat.reduceMul, Nat.reduceSub, Int.reduceToNat, Int.reduceAdd]
    refine oblE_q rfl (fun I hI => (q_loadB1 rfl inferInstance rfl)) ?_
    simp only [nrm, Nat.reduceAdd, Nat.reduceMul, Nat.reduceSub, Int.reduceToNat, Int.reduceAdd]
    refine oblE_q rfl (fun I hI => (q_call rfl (refClamp_spec _ _))) ?_
    simp only [nrm, Nat.reduceAdd, Nat.reduceMul, Nat.reduceSub, Int.reduceToNat, Int.reduceAdd]
    refine oblE_q rfl (fun I hI => (q_fieldAddr rfl)) ?_
    simp only [nrm, Nat.reduceAdd, Nat.reduceMul, Nat.reduceSub, Int.reduceToNat, Int.reduceAdd]
    refine oblE_q rfl (fun I hI => (q_loadB1 rfl inferInstance rfl)) ?_
    simp only [nrm, Nat.reduceAdd, Nat.reduceMul, Nat.reduceSub, Int.reduceToNat, Int.reduceAdd]
    refine oblE_q rfl (fun I hI => (q_gtr rfl rfl)) ?_
    simp only [nrm, Nat.reduceAdd, Nat.reduceMul, Nat.reduceSub, Int.reduceToNat, Int.reduceAdd]
    refine oblE_nil (show OpsR _ _ _ _ _ _ from ?_)
    try simp only [nrm, Nat.reduceAdd, Nat.reduceMul, Nat.reduceSub, Int.reduceToNat, Int.reduceAdd]
    refine opsR_nil ?_
    refine hk72 _ _ ?_
    clear hk72
    refine run_cond rfl (fun ho75 => ?_) (fun ho75 => ?_)
    · have hc75 := ho75; try simp only [spl] at hc75
      refine run_region ?_
      refine opsR_q rfl (q_move) ?_
      simp only [nrm]
      refine opsR_slice1 (kInt .i64) rfl rfl (by rfl) (by decide) (by decide) (by rfl) (by first | rfl | assumption | exact (kInt .i64).shut | (refine Kd.mono _ ?_ (by assumption); exact leA) | (apply (kInt .i64).shut <;> assumption)) fun v77 hs77 hv77 => ?_
      simp only [nrm, Nat.reduceAdd, Nat.reduceMul, Nat.reduceSub, Int.reduceToNat, Int.reduceAdd]
      refine opsR_app rfl rfl rfl (by first | assumption | (refine OwnS.mono ?_ (by assumption); exact leA)) (by infer_instance) slrA (by rfl) (by rfl) rfl rfl idxA fun v78 hs78 hv78 => ?_
      simp only [nrm, Nat.reduceAdd, Nat.reduceMul, Nat.reduceSub, Int.reduceToNat, Int.reduceAdd]
      refine opsR_dropS (hs := hs77) ?_
      try simp only [nrm, Nat.reduceAdd, Nat.reduceMul, Nat.reduceSub, Int.reduceToNat, Int.reduceAdd]
      refine opsR_q rfl (q_assign) ?_
      simp only [nrm]
      refine opsR_nil ?_
      first
      | exact hkl71 _ _ _ ⟨_, _, rfl, rfl, by first | exact OwnS.cast (by assumption) (allN_yes (yes7 (by omega))) | exact OwnS.cast (by assumption) (allN_no (no7 (by omega)))⟩ rfl
    · have hc75 := ho75; try simp only [spl] at hc75
      refine run_skip ?_
      first
      | exact hkl71 _ _ _ ⟨_, _, rfl, rfl, by first | exact OwnS.cast (by assumption) (allN_yes (yes7 (by omega))) | exact OwnS.cast (by assumption) (allN_no (no7 (by omega)))⟩ rfl
  rintro _ _ jv71 ⟨v', hs, rfl, rfl, hO⟩
  simp only [fr, Nat.zero_add, Nat.reduceAdd]
  have hall := allN_len p x 8
  refine run_seq fun _ hk80 => ?_
  refine run_region ?_
  refine opsR_q rfl (q_move) ?_
  simp only [nrm]
  refine opsR_q rfl (q_assign) ?_
  simp only [nrm]
  refine opsR_nil ?_
  refine hk80 _ _ ?_
  clear hk80
  refine run_freeze (A := [_, _]) hO rfl fun J hJ hv => ?_
  refine run_ret ?_
  exact end_tmp rfl rfl rfl (by exact ghA) (hK _ J (by exact leA) (hv.cast (by unfold allOf; rfl)))
theorem refCheck_spec {p : Pod} {x : Info} {cp cx : List Value} {s : St} (hp : kPod.rep s.I p cp) (hx : kInfo.rep s.I x cx) (hok : PairOk p x) (K : Value → St → Prop) (hK : ∀ J, Hp.le s.I J → K (.int .i64 (whyFirst p x)) ⟨J, s.cs⟩) :
    CallS Tryz.prog 11 #[.agg cp.toArray, .agg cx.toArray] s K := by
  have hp' := hp
  have hx' := hx
  obtain ⟨p1, p2, p3, p4, p5, p6, p7, p8, p9, rfl, g1, g2, g3, g4, g5, g6, g7, g8, g9⟩ := kPod.open hp
  obtain ⟨q1, q2, q3, q4, q5, rfl, h1, h2, h3, h4, h5⟩ := kInfo.open hx
  refine callS_of_run Tryz.func11 rfl ?_; simp only [Tryz.ntmps11, List.size_toArray, List.length_cons, List.length_nil, Nat.reduceAdd, Nat.reduceSub, Array.replicate_succ, Array.replicate_zero, List.push_toArray, List.append_toArray, List.nil_append, List.cons_append]
  refine run_seq fun _ hk1 => ?_
  refine run_region ?_
  refine opsR_o rfl (o_box fun b2 hb2 => ?_)
  simp only [nrm, Nat.reduceAdd, Nat.reduceMul, Nat.reduceSub, Int.reduceToNat, Int.reduceAdd]
  refine opsR_o rfl (o_box fun b3 hb3 => ?_)
  simp only [nrm, Nat.reduceAdd, Nat.reduceMul, Nat.reduceSub, Int.reduceToNat, Int.reduceAdd]
  refine opsR_q rfl (q_assign) ?_
  simp only [nrm]
  refine opsR_nil ?_
  refine hk1 _ _ ?_
  clear hk1
  refine run_seq fun _ hk4 => ?_
  refine run_region ?_
  refine opsR_q rfl (by first | exact q_loadBN rfl inferInstance (by rfl) | exact q_loadBW rfl inferInstance (by assumption)) ?_
  simp only [nrm, Nat.reduceAdd, Nat.reduceMul, Nat.reduceSub, Int.reduceToNat, Int.reduceAdd]
  refine opsR_q rfl (by first | exact q_loadBN rfl inferInstance (by rfl) | exact q_loadBW rfl inferInstance (by assumption)) ?_
  simp only [nrm, Nat.reduceAdd, Nat.reduceMul, Nat.reduceSub, Int.reduceToNat, Int.reduceAdd]
  refine opsR_o rfl (o_call rfl (refAll_spec (by first | assumption | (refine Kd.mono _ ?_ (by assumption); exact leA)) (by first | assumption | (refine Kd.mono _ ?_ (by assumption); exact leA)) hok _ fun v7 J7 hJ7 hv7 => ?_))
  try dsimp only at hJ7 hv7
  try (have hr7 : Hp.le s.I J7 := leA; have hJ7 := hJ7)
  simp only [nrm, Nat.reduceAdd, Nat.reduceMul, Nat.reduceSub, Int.reduceToNat, Int.reduceAdd]
  refine opsR_q rfl (q_assign) ?_
  simp only [nrm]
  refine opsR_nil ?_
  refine hk4 _ _ ?_
  clear hk4
  refine run_seq fun _ hk9 => ?_
  refine run_seq fun _ hk10 => ?_
  refine run_region ?_
  refine opsR_q rfl (q_move) ?_
  simp only [nrm]
  refine opsR_q rfl (q_len_v rfl (by first | exact Sl.len (by assumption) | exact OwnS.len (by assumption) | exact SlR.len (by assumption) | assumption)) ?_
  simp only [nrm, Nat.reduceAdd, Nat.reduceMul, Nat.reduceSub, Int.reduceToNat, Int.reduceAdd]
  refine opsR_q rfl (q_eql rfl rfl) ?_
  simp only [nrm, Nat.reduceAdd, Nat.reduceMul, Nat.reduceSub, Int.reduceToNat, Int.reduceAdd]
  refine opsR_nil ?_
  refine hk10 _ _ ?_
  clear hk10
  refine run_cond rfl (fun ho11 => ?_) (fun ho11 => ?_)
  · have hc11 := ho11; try simp only [spl] at hc11
    refine run_seq fun _ hk12 => ?_
    refine run_region ?_
    refine opsR_q rfl (q_assign) ?_
    simp only [nrm]
    refine opsR_nil ?_
    refine hk12 _ _ ?_
    clear hk12
    refine run_ret ?_
    exact end_tmp rfl rfl rfl (by exact ghA) (eqK (hK _ (by exact leA)) (congrArg (Value.int .i64) (by rw [whyFirst, List.eq_nil_of_length_eq_zero (l := allOf p x) (by omega)]; rfl)))
  · have hc11 := ho11; try simp only [spl] at hc11
    refine run_skip ?_
    refine hk9 _ _ ?_
    clear hk9
    refine run_seq fun _ hk13 => ?_
    refine run_region ?_
    refine opsR_q rfl (q_move) ?_
    simp only [nrm]
    refine opsR_index rfl rfl rfl slrA (by rfl) idxA idxA fun b14 o14 cs14 ha14 hr14 he14 => ?_
    simp only [nrm, Nat.reduceAdd, Nat.reduceMul, Nat.reduceSub, Int.reduceToNat, Int.reduceAdd]
    try simp only [Int.toNat_natCast, Int.reduceToNat, Int.toNat_zero] at hr14
    try simp only [Int.toNat_natCast, Int.reduceToNat, Int.toNat_zero] at he14
    clear ha14
    obtain rfl := hr14
    refine opsR_q rfl (by first | exact q_load_at1 (i := 0) rfl (by first | assumption | exact El.mono (by assumption) leA) rfl (Nat.le_of_ble_eq_true rfl) rfl | exact q_load_at1 rfl (by first | assumption | exact El.mono (by assumption) leA) rfl (Nat.le_of_ble_eq_true rfl) rfl) ?_
    simp only [nrm, Nat.reduceAdd, Nat.reduceMul, Nat.reduceSub, Int.reduceToNat, Int.reduceAdd]
    refine opsR_q rfl (q_assign) ?_
    simp only [nrm]
    refine opsR_nil ?_
    refine hk13 _ _ ?_
    clear hk13
    refine run_ret ?_
    exact end_tmp rfl rfl rfl (by exact ghA) (eqK (hK _ (by exact leA)) (congrArg (Value.int .i64) (by rw [whyFirst]; exact (head_at hc11).symm)))
end
end Go.Proofs.YtcnbcblihepbmaaGreatDoor
