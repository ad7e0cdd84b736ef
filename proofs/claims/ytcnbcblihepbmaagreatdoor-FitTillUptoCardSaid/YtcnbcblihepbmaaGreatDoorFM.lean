/- Package fit: how many pods alike find room; the example. -/
import Derived.Test.YtcnbcblihepbmaaGreatDoorFA
set_option autoImplicit false
set_option linter.unusedVariables false
set_option linter.unusedSimpArgs false
namespace Go.Proofs.YtcnbcblihepbmaaGreatDoor
open Go Go.RowKit
theorem OwnS.shape {α : Type} {k : Kd α} {e : TypeId} {I : Hp} {v : Value} {hs : List (Nat × Obj)} {xs : List α} (h : OwnS k e I v hs xs) : ∃ A c, v = .slice A xs.length c := by
  obtain ⟨_, ⟨A, rfl, _, rfl⟩ | ⟨b, cap, arr, rfl, _⟩⟩ := h
  · exact ⟨A, 0, rfl⟩
  · exact ⟨_, cap, rfl⟩
theorem info_step {p : Pod} {x y : Info} {n : Nat} (h : infoN p x n = y) : infoN p x (n + 1) = { y with Names := y.Names ++ [p.Name], Ports := y.Ports ++ p.Ports, Used := Res.plus y.Used p.Want } := by subst h; rfl
theorem set_app {hs r : List (Nat × Obj)} {i : Nat} {o : Nat × Obj} : (hs ++ r).set (hs.length + i) o = hs ++ r.set i o := by
  rw [List.set_append_right _ _ (by omega), Nat.add_sub_cancel_left]
theorem set_app0 {hs r : List (Nat × Obj)} {o : Nat × Obj} : (hs ++ r).set hs.length o = hs ++ r.set 0 o := set_app (i := 0)
section
attribute [local irreducible] Quiet OpsR Run CallS opS Gh endQ oblE RunN swp Go.Op.equalIn matchOf isKept keptOf clashOf whyOf whysL whyFirst
set_option maxHeartbeats 2000000 in
theorem Most_spec {p : Pod} {x : Info} {limit : Int} {cp cx : List Value} {s : St} (hT : Tabs s.I) (hp : kPod.rep s.I p cp) (hx : kInfo.rep s.I x cx) (hok : PairOk p x) (hb1 : x.Names.length ≤ 1048576) (hb2 : x.Ports.length ≤ 1048576) (hb3 : p.Ports.length ≤ 1048576) :
    CallV Tryz.prog 6 #[.agg cp.toArray, .agg cx.toArray, .int .i64 limit] s (.int .i64 (roomOf p x limit)) := by
  intro K hK
  have hp' := hp
  obtain ⟨L, hL⟩ : ∃ L : Nat, min (max limit 0) 1000 = (L : Int) := ⟨(min (max limit 0) 1000).toNat, by omega⟩
  have hL1 : L ≤ 1000 := by omega
  have hroom : roomOf p x limit = (roomFrom p x L 0 : Nat) := by rw [roomOf, hL]; rfl
  obtain ⟨p1, p2, p3, p4, p5, p6, p7, p8, p9, rfl, g1, g2, g3, g4, g5, g6, g7, g8, g9⟩ := kPod.open hp
  obtain ⟨q1, q2, q3, q4, q5, rfl, h1, h2, h3, h4, h5⟩ := kInfo.open hx
  refine callS_of_run Tryz.func6 rfl ?_; simp only [Tryz.ntmps6, List.size_toArray, List.length_cons, List.length_nil, Nat.reduceAdd, Nat.reduceSub, Array.replicate_succ, Array.replicate_zero, List.push_toArray, List.append_toArray, List.nil_append, List.cons_append]
  refine run_seq fun _ hk1 => ?_
  refine run_region ?_
  refine opsR_o rfl (o_box fun bP hbP => ?_)
  simp only [nrm, Nat.reduceAdd, Nat.reduceMul, Nat.reduceSub, Int.reduceToNat, Int.reduceAdd]
  refine opsR_o rfl (o_box fun bX hbX => ?_)
  simp only [nrm, Nat.reduceAdd, Nat.reduceMul, Nat.reduceSub, Int.reduceToNat, Int.reduceAdd]
  refine opsR_q rfl (q_assign) ?_
  simp only [nrm]
  refine opsR_nil ?_
  refine hk1 _ _ ?_
  clear hk1
  refine run_seq fun _ hk4 => ?_
  refine run_region ?_
  refine opsR_q rfl (q_move) ?_
  simp only [nrm]
  refine opsR_q rfl (q_max rfl rfl) ?_
  simp only [nrm, Nat.reduceAdd, Nat.reduceMul, Nat.reduceSub, Int.reduceToNat, Int.reduceAdd]
  refine opsR_q rfl (q_min rfl rfl) ?_
  simp only [nrm, Nat.reduceAdd, Nat.reduceMul, Nat.reduceSub, Int.reduceToNat, Int.reduceAdd]
  rw [hL]
  refine opsR_q rfl (q_assign) ?_
  simp only [nrm]
  refine opsR_nil ?_
  refine hk4 _ _ ?_
  clear hk4
  refine run_seq fun _ hk6 => ?_
  refine run_region ?_
  refine opsR_q rfl (q_assign) ?_
  simp only [nrm]
  refine opsR_nil ?_
  refine hk6 _ _ ?_
  clear hk6
  refine run_seq fun _ hk7 => ?_
  refine run_region ?_
  refine opsR_slice0 kStr rfl fun v8 hs8 hv8 => ?_
  simp only [nrm, Nat.reduceAdd, Nat.reduceMul, Nat.reduceSub, Int.reduceToNat, Int.reduceAdd]
  refine opsR_q rfl (q_fieldAddr rfl) ?_
  simp only [nrm, Nat.reduceAdd, Nat.reduceMul, Nat.reduceSub, Int.reduceToNat, Int.reduceAdd]
  refine opsR_q rfl (q_loadB1 rfl inferInstance rfl) ?_
  simp only [nrm, Nat.reduceAdd, Nat.reduceMul, Nat.reduceSub, Int.reduceToNat, Int.reduceAdd]
  refine opsR_app rfl rfl rfl (by first | assumption | (refine OwnS.mono ?_ (by assumption); exact leA)) (by infer_instance) slrA (by rfl) (by rfl) rfl rfl idxA fun vN hsN hvN => ?_
  simp only [nrm, Nat.reduceAdd, Nat.reduceMul, Nat.reduceSub, Int.reduceToNat, Int.reduceAdd]
  simp only [List.nil_append] at hvN
  obtain ⟨A1, c1, rfl⟩ := hvN.shape
  refine opsR_q rfl (q_fieldAddr rfl) ?_
  simp only [nrm, Nat.reduceAdd, Nat.reduceMul, Nat.reduceSub, Int.reduceToNat, Int.reduceAdd]
  refine opsR_o rfl (o_storeB rfl rfl inferInstance (by first | rfl | assumption) (by first | rfl | exact Kd.one _ (by assumption) | assumption) (by first | rfl | (refine Nat.ble_eq_true_of_le ?_; (try simp only [Int.toNat_natCast]); omega)) ?_)
  simp only [nrm, Nat.reduceAdd, Nat.reduceMul, Nat.reduceSub, Int.reduceToNat, Int.reduceAdd]
  simp only [set_app, set_app0, nrm]
  refine opsR_nil ?_
  refine hk7 _ _ ?_
  clear hk7
  refine run_seq fun _ hk11 => ?_
  refine run_region ?_
  refine opsR_slice0 (kInt .i64) rfl fun v12 hs12 hv12 => ?_
  simp only [nrm, Nat.reduceAdd, Nat.reduceMul, Nat.reduceSub, Int.reduceToNat, Int.reduceAdd]
  refine opsR_q rfl (q_fieldAddr rfl) ?_
  simp only [nrm, Nat.reduceAdd, Nat.reduceMul, Nat.reduceSub, Int.reduceToNat, Int.reduceAdd]
  refine opsR_q rfl (q_loadB1 rfl inferInstance rfl) ?_
  simp only [nrm, Nat.reduceAdd, Nat.reduceMul, Nat.reduceSub, Int.reduceToNat, Int.reduceAdd]
  refine opsR_app rfl rfl rfl (by first | assumption | (refine OwnS.mono ?_ (by assumption); exact leA)) (by infer_instance) slrA (by rfl) (by rfl) rfl rfl idxA fun vM hsM hvM => ?_
  simp only [nrm, Nat.reduceAdd, Nat.reduceMul, Nat.reduceSub, Int.reduceToNat, Int.reduceAdd]
  simp only [List.nil_append] at hvM
  obtain ⟨A2, c2, rfl⟩ := hvM.shape
  refine opsR_q rfl (q_fieldAddr rfl) ?_
  simp only [nrm, Nat.reduceAdd, Nat.reduceMul, Nat.reduceSub, Int.reduceToNat, Int.reduceAdd]
  refine opsR_o rfl (o_storeB rfl rfl inferInstance (by first | rfl | assumption) (by first | rfl | exact Kd.one _ (by assumption) | assumption) (by first | rfl | (refine Nat.ble_eq_true_of_le ?_; (try simp only [Int.toNat_natCast]); omega)) ?_)
  simp only [nrm, Nat.reduceAdd, Nat.reduceMul, Nat.reduceSub, Int.reduceToNat, Int.reduceAdd]
  simp only [set_app, set_app0, nrm]
  refine opsR_nil ?_
  refine hk11 _ _ ?_
  clear hk11
  refine run_seq fun _ hk14 => ?_
  refine run_block ?_
  refine run_loopF [0, 0, 0, 0, 0, 0, 0, 2, 0, 0, 0, 0, 0, 0, 0, 0, 0, 0, 0, 0, 0, 1, 1, 1, 1, 1, 1, 1, 1, 1, 1, 1, 1, 1, 1, 1, 1, 1, 1, 1, 1, 1, 1, 1, 1, 1, 1, 1, 1, 1, 1, 0] (fun zn zL zst => ∃ (n : Nat) (v1 : Value) (v2 : Value) (ns : (List ByteArray)) (qs : (List Int)) (u : Res) (hs1 : (List (Nat × Obj))) (hs2 : (List (Nat × Obj))), zL = [.int .i64 (n : Nat)] ∧ ⟨s.I, hs2 ++ (hs1 ++ (bX, .cells #[.string x.Node.Name, q1, q2, .bool x.Node.Off, .int .i64 x.Node.Give.CPU, .int .i64 x.Node.Give.Mem, .int .i64 x.Node.Give.Disk, .int .i64 x.Node.Pods, .int .i64 x.Node.Disks, v1, .int .i64 u.CPU, .int .i64 u.Mem, .int .i64 u.Disk, v2, q5] 38 (0, 0)) :: (bP, .cells #[.string p.Name, .int .i64 p.Priority, p1, .int .i64 p.Want.CPU, .int .i64 p.Want.Mem, .int .i64 p.Want.Disk, p2, p3, p4, p5, p6, p7, p8, p9, .string p.Node, .string p.Hope] 33 (0, 0)) :: s.cs)⟩ = zst ∧ zn = L - n ∧ (n ≤ L) ∧ (OwnS kStr 9 s.I v1 hs1 ns) ∧ (OwnS (kInt .i64) 3 s.I v2 hs2 qs) ∧ (infoN p x n = ⟨x.Node, ns, u, qs, x.Disks⟩) ∧ (roomFrom p x L 0 = roomFrom p x (L - n) n)) _ _ ⟨0, _, _, x.Names, x.Ports, x.Used, _, _, rfl, rfl, rfl, by first | assumption | omega | exact Hp.le.rfl | rfl | exact all_zero | exact all_succ (by assumption) (by assumption) | (intro _; omega) | (simp; done), by first | assumption | omega | exact Hp.le.rfl | rfl | exact all_zero | exact all_succ (by assumption) (by assumption) | (intro _; omega) | (simp; done), by first | assumption | omega | exact Hp.le.rfl | rfl | exact all_zero | exact all_succ (by assumption) (by assumption) | (intro _; omega) | (simp; done), by first | assumption | omega | exact Hp.le.rfl | rfl | exact all_zero | exact all_succ (by assumption) (by assumption) | (intro _; omega) | (simp; done), by first | assumption | omega | exact Hp.le.rfl | rfl | exact all_zero | exact all_succ (by assumption) (by assumption) | (intro _; omega) | (simp; done)⟩ rfl ?_
  rintro _ _ _ jv15 ⟨n, v1, v2, ns, qs, u, hs1, hs2, rfl, rfl, rfl, hn, hO1, hO2, hy, hr⟩ K15 hkl15
  simp only [fr, Nat.zero_add, Nat.reduceAdd]
  have hsz := infoN_sizes p x n
  rw [hy] at hsz
  obtain ⟨_, _, hs3, hs4⟩ := hsz
  simp only at hs3 hs4
  have hmul : n * p.Ports.length ≤ 1000 * p.Ports.length := Nat.mul_le_mul_right _ (by omega)
  obtain ⟨A3, c3, rfl⟩ := hO1.shape
  obtain ⟨A4, c4, rfl⟩ := hO2.shape
  refine run_seq fun _ hk16 => ?_
  refine run_seq fun _ hk17 => ?_
  refine run_region ?_
  refine opsR_q rfl (q_move) ?_
  simp only [nrm]
  refine opsR_q rfl (q_move) ?_
  simp only [nrm]
  refine opsR_q rfl (q_lss rfl rfl) ?_
  simp only [nrm, Nat.reduceAdd, Nat.reduceMul, Nat.reduceSub, Int.reduceToNat, Int.reduceAdd]
  refine opsR_qb rfl (q_move) (fun hc20 => ?_) (fun hc20 => ?_)
  · have ho20 := hc20; try simp only [spl] at hc20
    simp only [nrm, Nat.reduceAdd, Nat.reduceMul, Nat.reduceSub, Int.reduceToNat, Int.reduceAdd]
    refine opsR_q rfl (by first | exact q_loadBN rfl inferInstance (by rfl) | exact q_loadBW rfl inferInstance (by assumption)) ?_
    simp only [nrm, Nat.reduceAdd, Nat.reduceMul, Nat.reduceSub, Int.reduceToNat, Int.reduceAdd]
    refine opsR_q rfl (by first | exact q_loadBN rfl inferInstance (by rfl) | exact q_loadBW rfl inferInstance (by assumption)) ?_
    simp only [nrm, Nat.reduceAdd, Nat.reduceMul, Nat.reduceSub, Int.reduceToNat, Int.reduceAdd]
    refine opsR_q rfl (q_call rfl (CallV.own hO2 fun J hJ k2 => CallV.own (hO1.mono hJ) fun J2 hJ2 k1 => callV_of_S (Check_spec (p := p) (x := ⟨x.Node, ns, u, qs, x.Disks⟩) (hT.mono (hJ.trans hJ2)) (Kd.mono _ (hJ.trans hJ2) hp') (kInfo.shut (hNode_Labels := h1.mono (hJ.trans hJ2)) (hNode_Taints := h2.mono (hJ.trans hJ2)) (hNames := k1) (hPorts := k2.mono hJ2) (hDisks := h5.mono (hJ.trans hJ2))) hok))) ?_
    simp only [nrm, Nat.reduceAdd, Nat.reduceMul, Nat.reduceSub, Int.reduceToNat, Int.reduceAdd]
    refine opsR_q rfl (q_eql rfl rfl) ?_
    simp only [nrm, Nat.reduceAdd, Nat.reduceMul, Nat.reduceSub, Int.reduceToNat, Int.reduceAdd]
    refine opsR_q rfl (q_pick_t rfl) ?_
    simp only [nrm]
    refine opsR_nil ?_
    refine hk17 _ _ ?_
    clear hk17
    refine run_cond rfl (fun ho23 => ?_) (fun ho23 => ?_)
    · have hc23 := ho23; try simp only [spl] at hc23
      refine run_skip ?_
      refine hk16 _ _ ?_
      clear hk16
      refine run_block ?_
      refine run_seq fun _ hk24 => ?_
      refine run_region ?_
      refine opsR_q rfl (q_fieldAddr rfl) ?_
      simp only [nrm, Nat.reduceAdd, Nat.reduceMul, Nat.reduceSub, Int.reduceToNat, Int.reduceAdd]
      refine opsR_q rfl (q_loadB1 rfl inferInstance rfl) ?_
      simp only [nrm, Nat.reduceAdd, Nat.reduceMul, Nat.reduceSub, Int.reduceToNat, Int.reduceAdd]
      refine opsR_q rfl (q_fieldAddr rfl) ?_
      simp only [nrm, Nat.reduceAdd, Nat.reduceMul, Nat.reduceSub, Int.reduceToNat, Int.reduceAdd]
      refine opsR_q rfl (q_loadB1 rfl inferInstance rfl) ?_
      simp only [nrm, Nat.reduceAdd, Nat.reduceMul, Nat.reduceSub, Int.reduceToNat, Int.reduceAdd]
      refine opsR_slice1 kStr rfl rfl (by rfl) (by decide) (by decide) (by rfl) (by first | rfl | assumption | exact kStr.shut | (refine Kd.mono _ ?_ (by assumption); exact leA) | (apply kStr.shut <;> assumption)) fun v25 hs25 hv25 => ?_
      simp only [nrm, Nat.reduceAdd, Nat.reduceMul, Nat.reduceSub, Int.reduceToNat, Int.reduceAdd]
      refine opsR_app rfl rfl rfl (by first | assumption | (refine OwnS.mono ?_ (by assumption); exact leA)) (by infer_instance) slrA (by rfl) (by rfl) rfl rfl idxA fun v26 hs26 hv26 => ?_
      simp only [nrm, Nat.reduceAdd, Nat.reduceMul, Nat.reduceSub, Int.reduceToNat, Int.reduceAdd]
      refine opsR_dropS (hs := hs25) ?_
      try simp only [nrm, Nat.reduceAdd, Nat.reduceMul, Nat.reduceSub, Int.reduceToNat, Int.reduceAdd]
      obtain ⟨A5, c5, rfl⟩ := hv26.shape
      refine opsR_q rfl (q_fieldAddr rfl) ?_
      simp only [nrm, Nat.reduceAdd, Nat.reduceMul, Nat.reduceSub, Int.reduceToNat, Int.reduceAdd]
      refine opsR_o rfl (o_storeB rfl rfl inferInstance (by first | rfl | assumption) (by first | rfl | exact Kd.one _ (by assumption) | assumption) (by first | rfl | (refine Nat.ble_eq_true_of_le ?_; (try simp only [Int.toNat_natCast]); omega)) ?_)
      simp only [nrm, Nat.reduceAdd, Nat.reduceMul, Nat.reduceSub, Int.reduceToNat, Int.reduceAdd]
      simp only [set_app, set_app0, nrm]
      refine opsR_nil ?_
      refine hk24 _ _ ?_
      clear hk24
      refine run_seq fun _ hk27 => ?_
      refine run_region ?_
      refine opsR_q rfl (q_fieldAddr rfl) ?_
      simp only [nrm, Nat.reduceAdd, Nat.reduceMul, Nat.reduceSub, Int.reduceToNat, Int.reduceAdd]
      refine opsR_q rfl (q_loadB1 rfl inferInstance rfl) ?_
      simp only [nrm, Nat.reduceAdd, Nat.reduceMul, Nat.reduceSub, Int.reduceToNat, Int.reduceAdd]
      refine opsR_q rfl (q_fieldAddr rfl) ?_
      simp only [nrm, Nat.reduceAdd, Nat.reduceMul, Nat.reduceSub, Int.reduceToNat, Int.reduceAdd]
      refine opsR_q rfl (q_loadB1 rfl inferInstance rfl) ?_
      simp only [nrm, Nat.reduceAdd, Nat.reduceMul, Nat.reduceSub, Int.reduceToNat, Int.reduceAdd]
      refine opsR_app rfl rfl rfl (by first | assumption | (refine OwnS.mono ?_ (by assumption); exact leA)) (by infer_instance) slrA (by rfl) (by rfl) rfl rfl idxA fun v28 hs28 hv28 => ?_
      simp only [nrm, Nat.reduceAdd, Nat.reduceMul, Nat.reduceSub, Int.reduceToNat, Int.reduceAdd]
      obtain ⟨A6, c6, rfl⟩ := hv28.shape
      refine opsR_q rfl (q_fieldAddr rfl) ?_
      simp only [nrm, Nat.reduceAdd, Nat.reduceMul, Nat.reduceSub, Int.reduceToNat, Int.reduceAdd]
      refine opsR_o rfl (o_storeB rfl rfl inferInstance (by first | rfl | assumption) (by first | rfl | exact Kd.one _ (by assumption) | assumption) (by first | rfl | (refine Nat.ble_eq_true_of_le ?_; (try simp only [Int.toNat_natCast]); omega)) ?_)
      simp only [nrm, Nat.reduceAdd, Nat.reduceMul, Nat.reduceSub, Int.reduceToNat, Int.reduceAdd]
      simp only [set_app, set_app0, nrm]
      refine opsR_nil ?_
      refine hk27 _ _ ?_
      clear hk27
      refine run_seq fun _ hk29 => ?_
      refine run_region ?_
      refine opsR_q rfl (q_fieldAddr rfl) ?_
      simp only [nrm, Nat.reduceAdd, Nat.reduceMul, Nat.reduceSub, Int.reduceToNat, Int.reduceAdd]
      refine opsR_q rfl (by first | exact q_loadBN rfl inferInstance (by rfl) | exact q_loadBW rfl inferInstance (by assumption)) ?_
      simp only [nrm, Nat.reduceAdd, Nat.reduceMul, Nat.reduceSub, Int.reduceToNat, Int.reduceAdd]
      refine opsR_q rfl (q_fieldAddr rfl) ?_
      simp only [nrm, Nat.reduceAdd, Nat.reduceMul, Nat.reduceSub, Int.reduceToNat, Int.reduceAdd]
      refine opsR_q rfl (by first | exact q_loadBN rfl inferInstance (by rfl) | exact q_loadBW rfl inferInstance (by assumption)) ?_
      simp only [nrm, Nat.reduceAdd, Nat.reduceMul, Nat.reduceSub, Int.reduceToNat, Int.reduceAdd]
      refine opsR_q rfl (q_call rfl (Plus_spec _ _ _ _ _ _ _)) ?_
      simp only [nrm, Nat.reduceAdd, Nat.reduceMul, Nat.reduceSub, Int.reduceToNat, Int.reduceAdd]
      refine opsR_q rfl (q_fieldAddr rfl) ?_
      simp only [nrm, Nat.reduceAdd, Nat.reduceMul, Nat.reduceSub, Int.reduceToNat, Int.reduceAdd]
      refine opsR_o rfl (o_storeB rfl rfl inferInstance (by first | rfl | assumption) (by first | rfl | exact Kd.one _ (by assumption) | assumption) (by first | rfl | (refine Nat.ble_eq_true_of_le ?_; (try simp only [Int.toNat_natCast]); omega)) ?_)
      simp only [nrm, Nat.reduceAdd, Nat.reduceMul, Nat.reduceSub, Int.reduceToNat, Int.reduceAdd]
      simp only [set_app, set_app0, nrm]
      refine opsR_nil ?_
      refine hk29 _ _ ?_
      clear hk29
      refine run_region ?_
      refine opsR_q rfl (q_move) ?_
      simp only [nrm]
      refine opsR_q rfl (by first | exact q_add64 rfl rfl (by omega) (by omega) | exact q_add rfl rfl) ?_
      simp only [nrm, Nat.reduceAdd, Nat.reduceMul, Nat.reduceSub, Int.reduceToNat, Int.reduceAdd]
      refine opsR_q rfl (q_assign) ?_
      simp only [nrm]
      refine opsR_nil ?_
      first
      | exact hkl15 _ _ _ _ (by omega) ⟨n + 1, _, _, _, _, Res.plus u p.Want, _, _, rfl, rfl, rfl, by first | assumption | omega | exact info_step hy | (rw [hr, room_go (by rw [hy]; assumption) (by omega), Nat.sub_sub]), by first | assumption | omega | exact info_step hy | (rw [hr, room_go (by rw [hy]; assumption) (by omega), Nat.sub_sub]), by first | assumption | omega | exact info_step hy | (rw [hr, room_go (by rw [hy]; assumption) (by omega), Nat.sub_sub]), by first | assumption | omega | exact info_step hy | (rw [hr, room_go (by rw [hy]; assumption) (by omega), Nat.sub_sub]), by first | assumption | omega | exact info_step hy | (rw [hr, room_go (by rw [hy]; assumption) (by omega), Nat.sub_sub])⟩ rfl
    · have hc23 := ho23; try simp only [spl] at hc23
      refine run_exit ?_
      refine hk14 _ _ ?_
      clear hk14
      refine run_seq fun _ hk30 => ?_
      refine run_region ?_
      refine opsR_q rfl (q_move) ?_
      simp only [nrm]
      refine opsR_q rfl (q_assign) ?_
      simp only [nrm]
      refine opsR_nil ?_
      refine hk30 _ _ ?_
      clear hk30
      refine run_gh (Gh.dropA.trans Gh.dropA) ?_
      refine run_ret ?_
      first | exact end_tmp rfl rfl rfl ghA hK | exact end_tmp rfl rfl rfl ghA (eqK hK (congrArg (Go.Value.int .i64) (by rw [hroom, hr]; congr 1; first | (rw [show L - n = 0 by omega]; rfl) | exact room_no (by rw [hy]; assumption))))
  · have ho20 := hc20; try simp only [spl] at hc20
    simp only [nrm, Nat.reduceAdd, Nat.reduceMul, Nat.reduceSub, Int.reduceToNat, Int.reduceAdd]
    refine opsR_skip rfl ?_
    simp only [nrm, Nat.reduceAdd, Nat.reduceMul, Nat.reduceSub, Int.reduceToNat, Int.reduceAdd]
    refine opsR_skip rfl ?_
    simp only [nrm, Nat.reduceAdd, Nat.reduceMul, Nat.reduceSub, Int.reduceToNat, Int.reduceAdd]
    refine opsR_skip rfl ?_
    simp only [nrm, Nat.reduceAdd, Nat.reduceMul, Nat.reduceSub, Int.reduceToNat, Int.reduceAdd]
    refine opsR_skip rfl ?_
    simp only [nrm, Nat.reduceAdd, Nat.reduceMul, Nat.reduceSub, Int.reduceToNat, Int.reduceAdd]
    refine opsR_q rfl (q_pick_f rfl) ?_
    simp only [nrm]
    refine opsR_nil ?_
    refine hk17 _ _ ?_
    clear hk17
    refine run_cond (t := false) rfl (fun h => by cases h) (fun _ => ?_)
    refine run_exit ?_
    refine hk14 _ _ ?_
    clear hk14
    refine run_seq fun _ hk31 => ?_
    refine run_region ?_
    refine opsR_q rfl (q_move) ?_
    simp only [nrm]
    refine opsR_q rfl (q_assign) ?_
    simp only [nrm]
    refine opsR_nil ?_
    refine hk31 _ _ ?_
    clear hk31
    refine run_gh (Gh.dropA.trans Gh.dropA) ?_
    refine run_ret ?_
    first | exact end_tmp rfl rfl rfl ghA hK | exact end_tmp rfl rfl rfl ghA (eqK hK (congrArg (Go.Value.int .i64) (by rw [hroom, hr]; congr 1; first | (rw [show L - n = 0 by omega]; rfl) | exact room_no (by rw [hy]; assumption))))
end
end Go.Proofs.YtcnbcblihepbmaaGreatDoor
