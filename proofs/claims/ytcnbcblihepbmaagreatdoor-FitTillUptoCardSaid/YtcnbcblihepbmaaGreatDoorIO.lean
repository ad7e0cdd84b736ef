/- Package info: what stands on a node. -/
import Derived.Test.YtcnbcblihepbmaaGreatDoorPT
import Derived.Test.YtcnbcblihepbmaaGreatDoorFW
set_option autoImplicit false
set_option linter.unusedVariables false
set_option linter.unusedSimpArgs false
namespace Go.Proofs.YtcnbcblihepbmaaGreatDoor
open Go Go.RowKit
/-- An info with a pod more. -/
structure WithIs (x : Info) (p : Pod) (y : Info) : Prop where
  node : y.Node = x.Node
  used : y.Used = Res.plus x.Used p.Want
  nlen : ¬ p.Name ∈ x.Names → y.Names.length = x.Names.length + 1
  nle : y.Names.length ≤ x.Names.length + 1
  nmem : ∀ q, q ∈ y.Names ↔ q ∈ x.Names ∨ q = p.Name
  pmem : ∀ q, q ∈ y.Ports ↔ q ∈ x.Ports ∨ q ∈ p.Ports
  ple : y.Ports.length ≤ x.Ports.length + p.Ports.length
  dle : y.Disks.length ≤ x.Disks.length + p.Claims.length
theorem mem_step {α : Type} [Inhabited α] {l xs qs ys : List α} {k : Nat} (hk : k < l.length) (h : ∀ q, q ∈ qs ↔ q ∈ xs ∨ q ∈ l.take k) (hp : PutIs qs l[k]! ys) : ∀ q, q ∈ ys ↔ q ∈ xs ∨ q ∈ l.take (k + 1) := by
  intro q
  rw [hp.mem, h, take_succ! hk, List.mem_append, List.mem_singleton, or_assoc]
section
attribute [local irreducible] Quiet OpsR Run CallS opS Gh endQ oblE RunN swp Go.Op.equalIn
set_option maxHeartbeats 2000000 in
theorem with_spec {x : Info} {p : Pod} {cx cp : List Value} {s : St} (hx : kInfo.rep s.I x cx) (hp : kPod.rep s.I p cp) (hb1 : x.Names.length ≤ 100000000) (hb2 : x.Ports.length + p.Ports.length ≤ 100000000) (hb3 : x.Disks.length + p.Claims.length ≤ 100000000) :
    CallR Tryz.prog 39 #[.agg cx.toArray, .agg cp.toArray] s (fun J w => ∃ y cy, w = .agg cy.toArray ∧ kInfo.rep J y cy ∧ WithIs x p y) := by
  intro K hK
  obtain ⟨p1, p2, p3, p4, p5, p6, p7, p8, p9, rfl, g1, g2, g3, g4, g5, g6, g7, g8, g9⟩ := kPod.open hp
  obtain ⟨q1, q2, q3, q4, q5, rfl, h1, h2, h3, h4, h5⟩ := kInfo.open hx
  obtain ⟨B4, d4, rfl, _, _⟩ := h4.shape
  obtain ⟨B5, d5, rfl, _, _⟩ := h5.shape
  refine callS_of_run Tryz.func39 rfl ?_; simp only [Tryz.ntmps39, List.size_toArray, List.length_cons, List.length_nil, Nat.reduceAdd, Nat.reduceSub, Array.replicate_succ, Array.replicate_zero, List.push_toArray, List.append_toArray, List.nil_append, List.cons_append]
  refine run_seq fun _ hk1 => ?_
  refine run_region ?_
  refine opsR_o rfl (o_box fun bX hbX => ?_)
  simp only [nrm, Nat.reduceAdd, Nat.reduceMul, Nat.reduceSub, Int.reduceToNat, Int.reduceAdd]
  refine opsR_o rfl (o_box fun bP hbP => ?_)
  simp only [nrm, Nat.reduceAdd, Nat.reduceMul, Nat.reduceSub, Int.reduceToNat, Int.reduceAdd]
  refine opsR_o rfl (o_alloc fun bR hbR => ?_)
  simp only [nrm, Nat.reduceAdd, Nat.reduceMul, Nat.reduceSub, Int.reduceToNat, Int.reduceAdd]
  refine opsR_nil ?_
  refine hk1 _ _ ?_
  clear hk1
  refine run_seq fun _ hk5 => ?_
  refine run_region ?_
  refine opsR_q rfl (q_fieldAddr rfl) ?_
  simp only [nrm, Nat.reduceAdd, Nat.reduceMul, Nat.reduceSub, Int.reduceToNat, Int.reduceAdd]
  refine opsR_q rfl (q_loadB1 rfl inferInstance rfl) ?_
  simp only [nrm, Nat.reduceAdd, Nat.reduceMul, Nat.reduceSub, Int.reduceToNat, Int.reduceAdd]
  refine opsR_q rfl (q_fieldAddr rfl) ?_
  simp only [nrm, Nat.reduceAdd, Nat.reduceMul, Nat.reduceSub, Int.reduceToNat, Int.reduceAdd]
  refine opsR_q rfl (q_loadB1 rfl inferInstance rfl) ?_
  simp only [nrm, Nat.reduceAdd, Nat.reduceMul, Nat.reduceSub, Int.reduceToNat, Int.reduceAdd]
  refine opsR_o rfl (o_call rfl (put_Str (by first | assumption | (refine Sl.mono ?_ (by assumption); exact leA)) (by omega) _ fun vN JN hJN hvN => ?_))
  try dsimp only at hJN hvN
  try (have hrN : Hp.le s.I JN := leA; have hJN := hJN)
  simp only [nrm, Nat.reduceAdd, Nat.reduceMul, Nat.reduceSub, Int.reduceToNat, Int.reduceAdd]
  obtain ⟨ns, hns, hput⟩ := hvN
  obtain ⟨AN, cN, rfl, _, _⟩ := hns.shape
  have h4N := h4.mono hJN
  refine opsR_q rfl (q_fieldAddr rfl) ?_
  simp only [nrm, Nat.reduceAdd, Nat.reduceMul, Nat.reduceSub, Int.reduceToNat, Int.reduceAdd]
  refine opsR_o rfl (o_storeB rfl rfl inferInstance (by first | rfl | assumption) (by first | rfl | exact Kd.one _ (by assumption) | assumption) (by first | rfl | (refine Nat.ble_eq_true_of_le ?_; (try simp only [Int.toNat_natCast]); omega)) ?_)
  simp only [nrm, Nat.reduceAdd, Nat.reduceMul, Nat.reduceSub, Int.reduceToNat, Int.reduceAdd]
  refine opsR_nil ?_
  refine hk5 _ _ ?_
  clear hk5
  refine run_seq fun _ hk9 => ?_
  refine run_region ?_
  refine opsR_q rfl (q_fieldAddr rfl) ?_
  simp only [nrm, Nat.reduceAdd, Nat.reduceMul, Nat.reduceSub, Int.reduceToNat, Int.reduceAdd]
  refine opsR_q rfl (by first | exact q_loadBN rfl inferInstance (by rfl) | exact q_loadBW rfl inferInstance (by assumption)) ?_
  simp only [nrm, Nat.reduceAdd, Nat.reduceMul, Nat.reduceSub, Int.reduceToNat, Int.reduceAdd]
  refine opsR_q rfl (q_fieldAddr rfl) ?_
  simp only [nrm, Nat.reduceAdd, Nat.reduceMul, Nat.reduceSub, Int.reduceToNat, Int.reduceAdd]
  refine opsR_q rfl (by first | exact q_loadBN rfl inferInstance (by rfl) | exact q_loadBW rfl inferInstance (by assumption)) ?_
  simp only [nrm, Nat.reduceAdd, Nat.reduceMul, Nat.reduceSub, Int.reduceToNat, Int.reduceAdd]
  refine opsR_q rfl (q_call rfl (Plus_spec _ _ _ _ _ _ _)) ?_
  simp only [nrm, Nat.reduceAdd, Nat.reduceMul, Nat.reduceSub, Int.reduceToNat, Int.reduceAdd]
  refine opsR_q rfl (q_fieldAddr rfl) ?_
  simp only [nrm, Nat.reduceAdd, Nat.reduceMul, Nat.reduceSub, Int.reduceToNat, Int.reduceAdd]
  refine opsR_o rfl (o_storeB rfl rfl inferInstance (by first | rfl | assumption) (by first | rfl | exact Kd.one _ (by assumption) | assumption) (by first | rfl | (refine Nat.ble_eq_true_of_le ?_; (try simp only [Int.toNat_natCast]); omega)) ?_)
  simp only [nrm, Nat.reduceAdd, Nat.reduceMul, Nat.reduceSub, Int.reduceToNat, Int.reduceAdd]
  refine opsR_nil ?_
  refine hk9 _ _ ?_
  clear hk9
  refine run_seq fun _ hk10 => ?_
  refine run_seq fun _ hk11 => ?_
  refine run_region ?_
  refine opsR_q rfl (q_fieldAddr rfl) ?_
  simp only [nrm, Nat.reduceAdd, Nat.reduceMul, Nat.reduceSub, Int.reduceToNat, Int.reduceAdd]
  refine opsR_q rfl (q_loadB1 rfl inferInstance rfl) ?_
  simp only [nrm, Nat.reduceAdd, Nat.reduceMul, Nat.reduceSub, Int.reduceToNat, Int.reduceAdd]
  refine opsR_q rfl (q_len_v rfl (by first | exact Sl.len (by assumption) | exact OwnS.len (by assumption) | exact SlR.len (by assumption) | assumption)) ?_
  simp only [nrm, Nat.reduceAdd, Nat.reduceMul, Nat.reduceSub, Int.reduceToNat, Int.reduceAdd]
  refine opsR_q rfl (q_move) ?_
  simp only [nrm]
  refine opsR_nil ?_
  refine hk11 _ _ ?_
  clear hk11
  refine run_block ?_
  refine run_loopF [0, 0, 0, 0, 0, 0, 1, 0, 0, 0, 0, 0, 0, 0, 0, 0, 0, 0, 0, 0, 0, 0, 0, 0, 2, 1, 1, 1, 1, 1, 1, 1, 1, 1, 0, 0, 0, 0, 0, 0, 0, 0, 0, 0, 0, 0, 0, 0] (fun zn zL zst => ∃ (k : Nat) (v' : Value) (qs : (List Int)) (J : Hp), zL = [.int .i64 (k : Nat)] ∧ ⟨J, (bR, .cells #[.string ⟨#[]⟩, .slice none 0 0, .slice none 0 0, .bool false, .int .i64 0, .int .i64 0, .int .i64 0, .int .i64 0, .int .i64 0, .slice none 0 0, .int .i64 0, .int .i64 0, .int .i64 0, .slice none 0 0, .slice none 0 0] 38 (0, 0)) :: (bP, .cells #[.string p.Name, .int .i64 p.Priority, p1, .int .i64 p.Want.CPU, .int .i64 p.Want.Mem, .int .i64 p.Want.Disk, p2, p3, p4, p5, p6, p7, p8, p9, .string p.Node, .string p.Hope] 33 (0, 0)) :: (bX, .cells #[.string x.Node.Name, q1, q2, .bool x.Node.Off, .int .i64 x.Node.Give.CPU, .int .i64 x.Node.Give.Mem, .int .i64 x.Node.Give.Disk, .int .i64 x.Node.Pods, .int .i64 x.Node.Disks, .slice AN ns.length cN, .int .i64 (Q.add x.Used.CPU p.Want.CPU), .int .i64 (Q.add x.Used.Mem p.Want.Mem), .int .i64 (Q.add x.Used.Disk p.Want.Disk), v', .slice B5 x.Disks.length d5] 38 (0, 0)) :: s.cs⟩ = zst ∧ zn = p.Ports.length - k ∧ (k ≤ p.Ports.length) ∧ (Hp.le JN J) ∧ (Sl (kInt .i64) J v' qs) ∧ (∀ q, q ∈ qs ↔ q ∈ x.Ports ∨ q ∈ p.Ports.take k) ∧ (qs.length ≤ x.Ports.length + k)) _ _ ⟨0, _, x.Ports, JN, rfl, rfl, rfl, by first | assumption | omega | exact Hp.le.rfl | rfl | exact all_zero | exact all_succ (by assumption) (by assumption) | (intro _; omega) | (simp; done), by first | assumption | omega | exact Hp.le.rfl | rfl | exact all_zero | exact all_succ (by assumption) (by assumption) | (intro _; omega) | (simp; done), by first | assumption | omega | exact Hp.le.rfl | rfl | exact all_zero | exact all_succ (by assumption) (by assumption) | (intro _; omega) | (simp; done), by first | assumption | omega | exact Hp.le.rfl | rfl | exact all_zero | exact all_succ (by assumption) (by assumption) | (intro _; omega) | (simp; done), by first | assumption | omega | exact Hp.le.rfl | rfl | exact all_zero | exact all_succ (by assumption) (by assumption) | (intro _; omega) | (simp; done)⟩ rfl ?_
  rintro _ _ _ jv12 ⟨k, v', qs, J, rfl, rfl, rfl, hk, hJ, hQ, hm, hq⟩ K12 hkl12
  simp only [fr, Nat.zero_add, Nat.reduceAdd]
  have hrJ : Hp.le s.I J := Hp.le.trans (by assumption) hJ
  obtain ⟨A6, c6, rfl, _, _⟩ := hQ.shape
  refine run_seq fun _ hk13 => ?_
  refine run_region ?_
  refine opsR_q rfl (q_lss rfl rfl) ?_
  simp only [nrm, Nat.reduceAdd, Nat.reduceMul, Nat.reduceSub, Int.reduceToNat, Int.reduceAdd]
  refine opsR_nil ?_
  refine hk13 _ _ ?_
  clear hk13
  refine run_seq fun _ hk16 => ?_
  refine run_cond rfl (fun ho17 => ?_) (fun ho17 => ?_)
  · have hc17 := ho17; try simp only [spl] at hc17
    refine run_skip ?_
    refine hk16 _ _ ?_
    clear hk16
    refine run_seq fun _ hk18 => ?_
    refine run_block ?_
    refine run_seq fun _ hk19 => ?_
    refine run_region ?_
    refine opsR_index rfl rfl rfl slrA (by rfl) idxA idxA fun b20 o20 cs20 ha20 hr20 he20 => ?_
    simp only [nrm, Nat.reduceAdd, Nat.reduceMul, Nat.reduceSub, Int.reduceToNat, Int.reduceAdd]
    try simp only [Int.toNat_natCast, Int.reduceToNat, Int.toNat_zero] at hr20
    try simp only [Int.toNat_natCast, Int.reduceToNat, Int.toNat_zero] at he20
    clear ha20
    obtain rfl := hr20
    refine opsR_q rfl (by first | exact q_load_at1 (i := 0) rfl (by first | assumption | exact El.mono (by assumption) leA) rfl (Nat.le_of_ble_eq_true rfl) rfl | exact q_load_at1 rfl (by first | assumption | exact El.mono (by assumption) leA) rfl (Nat.le_of_ble_eq_true rfl) rfl) ?_
    simp only [nrm, Nat.reduceAdd, Nat.reduceMul, Nat.reduceSub, Int.reduceToNat, Int.reduceAdd]
    refine opsR_q rfl (q_assign) ?_
    simp only [nrm]
    refine opsR_nil ?_
    refine hk19 _ _ ?_
    clear hk19
    refine run_region ?_
    refine opsR_q rfl (q_fieldAddr rfl) ?_
    simp only [nrm, Nat.reduceAdd, Nat.reduceMul, Nat.reduceSub, Int.reduceToNat, Int.reduceAdd]
    refine opsR_q rfl (q_loadB1 rfl inferInstance rfl) ?_
    simp only [nrm, Nat.reduceAdd, Nat.reduceMul, Nat.reduceSub, Int.reduceToNat, Int.reduceAdd]
    refine opsR_q rfl (q_move) ?_
    simp only [nrm]
    refine opsR_o rfl (o_call rfl (put_Int (by first | assumption | (refine Sl.mono ?_ (by assumption); exact leA)) (by omega) _ fun vY JY hJY hvY => ?_))
    try dsimp only at hJY hvY
    try (have hrY : Hp.le s.I JY := leA; have hJY := hJY)
    simp only [nrm, Nat.reduceAdd, Nat.reduceMul, Nat.reduceSub, Int.reduceToNat, Int.reduceAdd]
    obtain ⟨ys, hys, hpu⟩ := hvY
    obtain ⟨A7, c7, rfl, _, _⟩ := hys.shape
    refine opsR_q rfl (q_fieldAddr rfl) ?_
    simp only [nrm, Nat.reduceAdd, Nat.reduceMul, Nat.reduceSub, Int.reduceToNat, Int.reduceAdd]
    refine opsR_o rfl (o_storeB rfl rfl inferInstance (by first | rfl | assumption) (by first | rfl | exact Kd.one _ (by assumption) | assumption) (by first | rfl | (refine Nat.ble_eq_true_of_le ?_; (try simp only [Int.toNat_natCast]); omega)) ?_)
    simp only [nrm, Nat.reduceAdd, Nat.reduceMul, Nat.reduceSub, Int.reduceToNat, Int.reduceAdd]
    refine opsR_nil ?_
    refine hk18 _ _ ?_
    clear hk18
    refine run_region ?_
    refine opsR_q rfl (by first | exact q_add64 rfl rfl (by omega) (by omega) | exact q_add rfl rfl) ?_
    simp only [nrm, Nat.reduceAdd, Nat.reduceMul, Nat.reduceSub, Int.reduceToNat, Int.reduceAdd]
    refine opsR_q rfl (q_move) ?_
    simp only [nrm]
    refine opsR_nil ?_
    first
    | exact hkl12 _ _ _ _ (by omega) ⟨k + 1, _, _, _, rfl, rfl, rfl, by first | assumption | omega | (intro q; simp; done) | exact mem_step (by omega) hm hpu | (have := hpu.len_le; omega) | first | assumption | (refine Sl.mono ?_ (by assumption); exact leA) | exact leA, by first | assumption | omega | (intro q; simp; done) | exact mem_step (by omega) hm hpu | (have := hpu.len_le; omega) | first | assumption | (refine Sl.mono ?_ (by assumption); exact leA) | exact leA, by first | assumption | omega | (intro q; simp; done) | exact mem_step (by omega) hm hpu | (have := hpu.len_le; omega) | first | assumption | (refine Sl.mono ?_ (by assumption); exact leA) | exact leA, by first | assumption | omega | (intro q; simp; done) | exact mem_step (by omega) hm hpu | (have := hpu.len_le; omega) | first | assumption | (refine Sl.mono ?_ (by assumption); exact leA) | exact leA, by first | assumption | omega | (intro q; simp; done) | exact mem_step (by omega) hm hpu | (have := hpu.len_le; omega) | first | assumption | (refine Sl.mono ?_ (by assumption); exact leA) | exact leA⟩ rfl
  · have hc17 := ho17; try simp only [spl] at hc17
    refine run_exit ?_
    refine hk10 _ _ ?_
    clear hk10
    refine run_seq fun _ hk24 => ?_
    refine run_seq fun _ hk25 => ?_
    have h5J := h5.mono hrJ
    refine run_region ?_
    refine opsR_q rfl (q_fieldAddr rfl) ?_
    simp only [nrm, Nat.reduceAdd, Nat.reduceMul, Nat.reduceSub, Int.reduceToNat, Int.reduceAdd]
    refine opsR_q rfl (q_loadB1 rfl inferInstance rfl) ?_
    simp only [nrm, Nat.reduceAdd, Nat.reduceMul, Nat.reduceSub, Int.reduceToNat, Int.reduceAdd]
    refine opsR_q rfl (q_len_v rfl (by first | exact Sl.len (by assumption) | exact OwnS.len (by assumption) | exact SlR.len (by assumption) | assumption)) ?_
    simp only [nrm, Nat.reduceAdd, Nat.reduceMul, Nat.reduceSub, Int.reduceToNat, Int.reduceAdd]
    refine opsR_q rfl (q_move) ?_
    simp only [nrm]
    refine opsR_nil ?_
    refine hk25 _ _ ?_
    clear hk25
    refine run_block ?_
    refine run_loopF [0, 0, 0, 0, 0, 0, 0, 0, 1, 0, 0, 0, 0, 0, 0, 0, 0, 0, 0, 0, 0, 0, 0, 0, 0, 0, 0, 0, 0, 0, 0, 0, 0, 0, 0, 0, 0, 2, 1, 1, 1, 1, 1, 1, 1, 1, 1, 0] (fun zn zL zst => ∃ (k2 : Nat) (v2 : Value) (ds : (List ByteArray)) (J2 : Hp), zL = [.int .i64 (k2 : Nat)] ∧ ⟨J2, (bR, .cells #[.string ⟨#[]⟩, .slice none 0 0, .slice none 0 0, .bool false, .int .i64 0, .int .i64 0, .int .i64 0, .int .i64 0, .int .i64 0, .slice none 0 0, .int .i64 0, .int .i64 0, .int .i64 0, .slice none 0 0, .slice none 0 0] 38 (0, 0)) :: (bP, .cells #[.string p.Name, .int .i64 p.Priority, p1, .int .i64 p.Want.CPU, .int .i64 p.Want.Mem, .int .i64 p.Want.Disk, p2, p3, p4, p5, p6, p7, p8, p9, .string p.Node, .string p.Hope] 33 (0, 0)) :: (bX, .cells #[.string x.Node.Name, q1, q2, .bool x.Node.Off, .int .i64 x.Node.Give.CPU, .int .i64 x.Node.Give.Mem, .int .i64 x.Node.Give.Disk, .int .i64 x.Node.Pods, .int .i64 x.Node.Disks, .slice AN ns.length cN, .int .i64 (Q.add x.Used.CPU p.Want.CPU), .int .i64 (Q.add x.Used.Mem p.Want.Mem), .int .i64 (Q.add x.Used.Disk p.Want.Disk), .slice A6 qs.length c6, v2] 38 (0, 0)) :: s.cs⟩ = zst ∧ zn = p.Claims.length - k2 ∧ (k2 ≤ p.Claims.length) ∧ (Hp.le J J2) ∧ (Sl kStr J2 v2 ds) ∧ (ds.length ≤ x.Disks.length + k2)) _ _ ⟨0, _, x.Disks, J, rfl, rfl, rfl, by first | assumption | omega | exact Hp.le.rfl | rfl | exact all_zero | exact all_succ (by assumption) (by assumption) | (intro _; omega) | (simp; done), by first | assumption | omega | exact Hp.le.rfl | rfl | exact all_zero | exact all_succ (by assumption) (by assumption) | (intro _; omega) | (simp; done), by first | assumption | omega | exact Hp.le.rfl | rfl | exact all_zero | exact all_succ (by assumption) (by assumption) | (intro _; omega) | (simp; done), by first | assumption | omega | exact Hp.le.rfl | rfl | exact all_zero | exact all_succ (by assumption) (by assumption) | (intro _; omega) | (simp; done)⟩ rfl ?_
    rintro _ _ _ jv27 ⟨k2, v2, ds, J2, rfl, rfl, rfl, hk2, hJ2, hD, hd⟩ K27 hkl27
    simp only [fr, Nat.zero_add, Nat.reduceAdd]
    have hrJ2 : Hp.le s.I J2 := hrJ.trans hJ2
    obtain ⟨A8, c8, rfl, _, _⟩ := hD.shape
    refine run_seq fun _ hk28 => ?_
    refine run_region ?_
    refine opsR_q rfl (q_lss rfl rfl) ?_
    simp only [nrm, Nat.reduceAdd, Nat.reduceMul, Nat.reduceSub, Int.reduceToNat, Int.reduceAdd]
    refine opsR_nil ?_
    refine hk28 _ _ ?_
    clear hk28
    refine run_seq fun _ hk31 => ?_
    refine run_cond rfl (fun ho32 => ?_) (fun ho32 => ?_)
    · have hc32 := ho32; try simp only [spl] at hc32
      refine run_skip ?_
      refine hk31 _ _ ?_
      clear hk31
      refine run_seq fun _ hk33 => ?_
      refine run_block ?_
      refine run_seq fun _ hk34 => ?_
      refine run_region ?_
      refine opsR_index rfl rfl rfl slrA (by rfl) idxA idxA fun b35 o35 cs35 ha35 hr35 he35 => ?_
      simp only [nrm, Nat.reduceAdd, Nat.reduceMul, Nat.reduceSub, Int.reduceToNat, Int.reduceAdd]
      try simp only [Int.toNat_natCast, Int.reduceToNat, Int.toNat_zero] at hr35
      try simp only [Int.toNat_natCast, Int.reduceToNat, Int.toNat_zero] at he35
      clear ha35
      obtain rfl := hr35
      refine opsR_q rfl (by first | exact q_load_at1 (i := 0) rfl (by first | assumption | exact El.mono (by assumption) leA) rfl (Nat.le_of_ble_eq_true rfl) rfl | exact q_load_at1 rfl (by first | assumption | exact El.mono (by assumption) leA) rfl (Nat.le_of_ble_eq_true rfl) rfl) ?_
      simp only [nrm, Nat.reduceAdd, Nat.reduceMul, Nat.reduceSub, Int.reduceToNat, Int.reduceAdd]
      refine opsR_q rfl (q_assign) ?_
      simp only [nrm]
      refine opsR_nil ?_
      refine hk34 _ _ ?_
      clear hk34
      refine run_region ?_
      refine opsR_q rfl (q_fieldAddr rfl) ?_
      simp only [nrm, Nat.reduceAdd, Nat.reduceMul, Nat.reduceSub, Int.reduceToNat, Int.reduceAdd]
      refine opsR_q rfl (q_loadB1 rfl inferInstance rfl) ?_
      simp only [nrm, Nat.reduceAdd, Nat.reduceMul, Nat.reduceSub, Int.reduceToNat, Int.reduceAdd]
      refine opsR_q rfl (q_move) ?_
      simp only [nrm]
      refine opsR_o rfl (o_call rfl (put_Str (by first | assumption | (refine Sl.mono ?_ (by assumption); exact leA)) (by omega) _ fun vW JW hJW hvW => ?_))
      try dsimp only at hJW hvW
      try (have hrW : Hp.le s.I JW := leA; have hJW := hJW)
      simp only [nrm, Nat.reduceAdd, Nat.reduceMul, Nat.reduceSub, Int.reduceToNat, Int.reduceAdd]
      obtain ⟨ys, hys, hpu⟩ := hvW
      obtain ⟨A9, c9, rfl, _, _⟩ := hys.shape
      refine opsR_q rfl (q_fieldAddr rfl) ?_
      simp only [nrm, Nat.reduceAdd, Nat.reduceMul, Nat.reduceSub, Int.reduceToNat, Int.reduceAdd]
      refine opsR_o rfl (o_storeB rfl rfl inferInstance (by first | rfl | assumption) (by first | rfl | exact Kd.one _ (by assumption) | assumption) (by first | rfl | (refine Nat.ble_eq_true_of_le ?_; (try simp only [Int.toNat_natCast]); omega)) ?_)
      simp only [nrm, Nat.reduceAdd, Nat.reduceMul, Nat.reduceSub, Int.reduceToNat, Int.reduceAdd]
      refine opsR_nil ?_
      refine hk33 _ _ ?_
      clear hk33
      refine run_region ?_
      refine opsR_q rfl (by first | exact q_add64 rfl rfl (by omega) (by omega) | exact q_add rfl rfl) ?_
      simp only [nrm, Nat.reduceAdd, Nat.reduceMul, Nat.reduceSub, Int.reduceToNat, Int.reduceAdd]
      refine opsR_q rfl (q_move) ?_
      simp only [nrm]
      refine opsR_nil ?_
      first
      | exact hkl27 _ _ _ _ (by omega) ⟨k2 + 1, _, _, _, rfl, rfl, rfl, by first | assumption | omega | (have := hpu.len_le; omega) | first | assumption | (refine Sl.mono ?_ (by assumption); exact leA) | exact leA, by first | assumption | omega | (have := hpu.len_le; omega) | first | assumption | (refine Sl.mono ?_ (by assumption); exact leA) | exact leA, by first | assumption | omega | (have := hpu.len_le; omega) | first | assumption | (refine Sl.mono ?_ (by assumption); exact leA) | exact leA, by first | assumption | omega | (have := hpu.len_le; omega) | first | assumption | (refine Sl.mono ?_ (by assumption); exact leA) | exact leA⟩ rfl
    · have hc32 := ho32; try simp only [spl] at hc32
      refine run_exit ?_
      refine hk24 _ _ ?_
      clear hk24
      refine run_seq fun _ hk39 => ?_
      have hfin := kInfo.shut (I := J2) (x := ⟨x.Node, ns, Res.plus x.Used p.Want, qs, ds⟩) (hNode_Labels := h1.mono hrJ2) (hNode_Taints := h2.mono hrJ2) (hNames := hns.mono (hJ.trans hJ2)) (hPorts := hQ.mono hJ2) (hDisks := hD)
      refine run_region ?_
      refine opsR_q rfl (by first | exact q_loadBN rfl inferInstance (by rfl) | exact q_loadBW rfl inferInstance (by assumption)) ?_
      simp only [nrm, Nat.reduceAdd, Nat.reduceMul, Nat.reduceSub, Int.reduceToNat, Int.reduceAdd]
      refine opsR_o rfl (o_storeB rfl rfl inferInstance (by first | rfl | assumption) (by first | rfl | exact Kd.one _ (by assumption) | assumption) (by first | rfl | (refine Nat.ble_eq_true_of_le ?_; (try simp only [Int.toNat_natCast]); omega)) ?_)
      simp only [nrm, Nat.reduceAdd, Nat.reduceMul, Nat.reduceSub, Int.reduceToNat, Int.reduceAdd]
      refine opsR_nil ?_
      refine hk39 _ _ ?_
      clear hk39
      refine run_ret ?_
      have eP : p.Ports.take k = p.Ports := take_all (by omega)
      rw [eP] at hm
      have hw : WithIs x p ⟨x.Node, ns, Res.plus x.Used p.Want, qs, ds⟩ := ⟨rfl, rfl, fun h => hput.len h, hput.len_le, fun q => hput.mem q, hm, (show qs.length ≤ _ by omega), (show ds.length ≤ _ by omega)⟩
      exact end_cell rfl rfl rfl (AtB.has inferInstance) (by first | rfl | assumption) ghA (hK _ _ leA ⟨_, _, rfl, hfin, hw⟩)
end
end Go.Proofs.YtcnbcblihepbmaaGreatDoor
