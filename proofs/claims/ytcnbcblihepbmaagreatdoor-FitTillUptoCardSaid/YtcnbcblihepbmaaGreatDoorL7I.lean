/- The law FitTill holds where what is read is of bulk at most 1048576: as many find room as are told, and one more does not; the walk, the row and its card. -/
import Derived.Test.YtcnbcblihepbmaaGreatDoorFI
import Derived.Test.YtcnbcblihepbmaaGreatDoorC
set_option autoImplicit false
set_option linter.unusedVariables false
set_option linter.unusedSimpArgs false
namespace Go.Proofs.YtcnbcblihepbmaaGreatDoor
open Go Go.RowKit
theorem all_same {p : Pod} {y y' : Info} (h1 : y.Node = y'.Node) (h2 : y.Names.length = y'.Names.length) (h3 : ∀ q, q ∈ y.Ports ↔ q ∈ y'.Ports) (h4 : y.Used = y'.Used) : allOf p y = allOf p y' := by
  have hc : clashOf p.Ports y.Ports = clashOf p.Ports y'.Ports := by
    unfold clashOf
    rw [show (fun n => decide (n ∈ y.Ports)) = fun n => decide (n ∈ y'.Ports) from funext fun n => decide_eq_decide.2 (h3 n)]
  have hw : whyOf p y = whyOf p y' := by
    funext k
    match k with
    | 0 => simp only [whyOf, h1]
    | 1 => simp only [whyOf, h1]
    | 2 => simp only [whyOf, h1]
    | 3 => simp only [whyOf, hc]
    | 4 => simp only [whyOf, h1, h2]
    | 5 => simp only [whyOf, h1, h4]
    | 6 => simp only [whyOf, h1, h4]
    | _ + 7 => simp only [whyOf, h1, h4]
  rw [allOf, allOf, allN, allN, hw]
/-- Infos that are alike for what may stand there. -/
structure Like (a b : Info) : Prop where
  node : a.Node = b.Node
  nlen : a.Names.length = b.Names.length
  pmem : ∀ q, q ∈ a.Ports ↔ q ∈ b.Ports
  used : a.Used = b.Used
theorem like_first {p : Pod} {a b : Info} (h : Like a b) : whyFirst p a = whyFirst p b := by rw [whyFirst, whyFirst, all_same h.node h.nlen h.pmem h.used]
theorem like_step {p q : Pod} {x a y : Info} {k : Nat} (h : Like a (infoN p x k)) (hw : WithIs a q y) (hn : ¬ q.Name ∈ a.Names) (h1 : q.Want = p.Want) (h2 : q.Ports = p.Ports) : Like y (infoN p x (k + 1)) := by
  refine ⟨hw.node.trans h.node, ?_, fun n => ?_, ?_⟩
  · rw [hw.nlen hn, h.nlen]; simp [infoN]
  · rw [hw.pmem, h.pmem, h2]; simp [infoN]
  · rw [hw.used, h.used, h1]; rfl
theorem room_facts (p : Pod) (x : Info) : ∀ (f n : Nat), n ≤ roomFrom p x f n ∧ roomFrom p x f n ≤ n + f ∧ (∀ k, n ≤ k → k < roomFrom p x f n → whyFirst p (infoN p x k) = 0) ∧ (roomFrom p x f n < n + f → ¬ whyFirst p (infoN p x (roomFrom p x f n)) = 0) := by
  intro f
  induction f with
  | zero => intro n; exact ⟨Nat.le_refl _, Nat.le_refl _, fun k h1 h2 => absurd h2 (by simp only [roomFrom]; omega), fun h => absurd h (by simp only [roomFrom]; omega)⟩
  | succ f ih =>
    intro n
    by_cases hw : whyFirst p (infoN p x n) = 0
    · have e : roomFrom p x (f + 1) n = roomFrom p x f (n + 1) := by rw [roomFrom, if_pos hw]
      obtain ⟨h1, h2, h3, h4⟩ := ih (n + 1)
      rw [e]
      refine ⟨by omega, by omega, fun k hk1 hk2 => ?_, fun h => h4 (by omega)⟩
      by_cases hkn : k = n
      · subst hkn; exact hw
      · exact h3 k (by omega) hk2
    · have e : roomFrom p x (f + 1) n = n := by rw [roomFrom, if_neg hw]
      rw [e]
      exact ⟨Nat.le_refl _, by omega, fun k h1 h2 => absurd h2 (by omega), fun _ => hw⟩
theorem len15 {cs : List Value} (h : cs.length = 15) : ∃ a b c d e f g i j k l m n o p, cs = [a, b, c, d, e, f, g, i, j, k, l, m, n, o, p] := by
  match cs, h with
  | [a, b, c, d, e, f, g, i, j, k, l, m, n, o, p], _ => exact ⟨a, b, c, d, e, f, g, i, j, k, l, m, n, o, p, rfl⟩
section
attribute [local irreducible] Quiet OpsR Run CallS opS Gh endQ oblE RunN swp Go.Op.equalIn matchOf isKept keptOf clashOf whyOf whysL whyFirst allOf roomOf infoN
set_option maxHeartbeats 4000000 in
set_option maxRecDepth 20000 in
theorem FitTill_walk (a0 : Pod) (c0 : List Value) (a1 : Node) (c1 : List Value) (a2 : List Pod) (v2 : Value) (a3 : Int) (s : St) (hT : Tabs s.I) (h0 : kPod.rep s.I a0 c0) (ok0 : kPod.ok a0) (h1 : kNode.rep s.I a1 c1) (ok1 : kNode.ok a1) (h2 : Sl kPod s.I v2 a2) (ok2 : kPod.slice.ok a2) (ok3 : (kInt .i64).ok a3)
    (hb : kPod.bulk a0 + kNode.bulk a1 + kPod.slice.bulk a2 + (kInt .i64).bulk a3 ≤ 1048576) : CallS Tryz.prog 5 #[.agg c0.toArray, .agg c1.toArray, v2, .int .i64 a3] s (fun v s' => v = .bool true ∧ Hp.le s.I s'.I) := by
  have hle2 := h2.len.le
  have hs1 : a2.length ≤ 1048576 ∧ (a2.map (·.Ports.length)).sum ≤ 1048576 ∧ (a2.map (·.Claims.length)).sum ≤ 1048576 := by
    have : ∀ l : List Pod, l.length + 1 ≤ kPod.slice.bulk l ∧ (l.map (·.Ports.length)).sum + 1 ≤ kPod.slice.bulk l ∧ (l.map (·.Claims.length)).sum + 1 ≤ kPod.slice.bulk l := by
      intro l
      induction l with
      | nil => exact ⟨Nat.le_refl _, Nat.le_refl _, Nat.le_refl _⟩
      | cons p l ih =>
        have h1 : p.Ports.length + 1 ≤ (kInt .i64).slice.bulk p.Ports := bulk_len (k := kInt .i64) (fun _ => Nat.le_refl 1) p.Ports
        have h2 := strs_bulk p.Claims
        have h3 : (kInt .i64).slice.bulk p.Ports ≤ kPod.bulk p ∧ kStr.slice.bulk p.Claims ≤ kPod.bulk p := by simp only [kPod, kRes, Kd.iso, Kd.pair]; constructor <;> omega
        simp only [Kd.slice, List.map_cons, List.sum_cons, List.length_cons] at ih h1 h2 h3 ⊢
        omega
    have := this a2; omega
  have hok : ∀ y : Info, y.Node = a1 → PairOk a0 y := by
    rintro y rfl
    have h1 : kTaint.slice.bulk y.Node.Taints ≤ kNode.bulk y.Node ∧ kLabel.slice.bulk y.Node.Labels ≤ kNode.bulk y.Node := by simp only [kNode, Kd.iso, Kd.pair]; constructor <;> omega
    have h2 := pod_bulk a0
    exact ⟨by have := taints_bulk y.Node.Taints; omega, labOk_of (m := 1048576) (by omega) (by omega), reqsOk_of (m := 1048576) (by omega) (by omega)⟩
  obtain ⟨hs1a, hs1b, hs1c⟩ := hs1
  have hpp : a0.Ports.length ≤ 1048576 ∧ a0.Claims.length ≤ 1048576 := by
    have h1 : a0.Ports.length + 1 ≤ (kInt .i64).slice.bulk a0.Ports := bulk_len (k := kInt .i64) (fun _ => Nat.le_refl 1) a0.Ports
    have h2 := strs_bulk a0.Claims
    have h3 : (kInt .i64).slice.bulk a0.Ports ≤ kPod.bulk a0 ∧ kStr.slice.bulk a0.Claims ≤ kPod.bulk a0 := by simp only [kPod, kRes, Kd.iso, Kd.pair]; constructor <;> omega
    omega
  obtain ⟨hpp1, hpp2⟩ := hpp
  obtain ⟨L, hL, hL40⟩ : ∃ L : Nat, amongOf a3 40 = L ∧ L < 40 := by
    have := among_bd a3 (m := 40) (by omega) (by omega)
    exact ⟨(amongOf a3 40).toNat, by omega, by omega⟩
  have h0' := h0
  have h1' := h1
  obtain ⟨p1, p2, p3, p4, p5, p6, p7, p8, p9, rfl, g1, g2, g3, g4, g5, g6, g7, g8, g9⟩ := kPod.open h0
  obtain ⟨u1, u2, rfl, k1, k2⟩ := kNode.open h1
  refine callS_of_run Tryz.func5 rfl ?_; simp only [Tryz.ntmps5, List.size_toArray, List.length_cons, List.length_nil, Nat.reduceAdd, Nat.reduceSub, Array.replicate_succ, Array.replicate_zero, List.push_toArray, List.append_toArray, List.nil_append, List.cons_append]
  refine run_seq fun _ hk1 => ?_
  refine run_region ?_
  refine opsR_o rfl (o_box fun bP hbP => ?_)
  simp only [nrm, Nat.reduceAdd, Nat.reduceMul, Nat.reduceSub, Int.reduceToNat, Int.reduceAdd]
  refine opsR_o rfl (o_box fun bN hbN => ?_)
  simp only [nrm, Nat.reduceAdd, Nat.reduceMul, Nat.reduceSub, Int.reduceToNat, Int.reduceAdd]
  refine opsR_q rfl (q_assign) ?_
  simp only [nrm]
  refine opsR_nil ?_
  refine hk1 _ _ ?_
  clear hk1
  refine run_seq fun _ hk4 => ?_
  refine run_seq fun _ hk5 => ?_
  refine run_region ?_
  refine opsR_q rfl (q_call rfl (works_spec (hT.mono (by exact leA)))) ?_
  simp only [nrm, Nat.reduceAdd, Nat.reduceMul, Nat.reduceSub, Int.reduceToNat, Int.reduceAdd]
  refine opsR_q rfl (q_not rfl) ?_
  simp only [nrm]
  refine opsR_nil ?_
  refine hk5 _ _ ?_
  clear hk5
  refine run_cond (t := false) rfl (fun h => by cases h) (fun _ => ?_)
  refine run_skip ?_
  refine hk4 _ _ ?_
  clear hk4
  refine run_seq fun _ hk6 => ?_
  refine run_region ?_
  refine opsR_q rfl (q_move) ?_
  simp only [nrm]
  refine opsR_q rfl (q_call rfl (Among_spec (by omega) (by omega))) ?_
  simp only [nrm, Nat.reduceAdd, Nat.reduceMul, Nat.reduceSub, Int.reduceToNat, Int.reduceAdd]
  rw [hL]
  refine opsR_q rfl (q_assign) ?_
  simp only [nrm]
  refine opsR_nil ?_
  refine hk6 _ _ ?_
  clear hk6
  refine run_seq fun _ hk8 => ?_
  refine run_region ?_
  refine opsR_q rfl (by first | exact q_loadBN rfl inferInstance (by rfl) | exact q_loadBW rfl inferInstance (by assumption)) ?_
  simp only [nrm, Nat.reduceAdd, Nat.reduceMul, Nat.reduceSub, Int.reduceToNat, Int.reduceAdd]
  refine opsR_q rfl (q_move) ?_
  simp only [nrm]
  refine opsR_o rfl (o_call rfl (Of_spec (n := a1) (l := a2) (Kd.mono _ (by exact leA) h1') (by first | assumption | (refine Sl.mono ?_ (by assumption); exact leA)) (by omega) (by omega) (by omega) _ fun vO JO hJO hvO => ?_))
  try dsimp only at hJO hvO
  try (have hrO : Hp.le s.I JO := leA; have hJO := hJO)
  simp only [nrm, Nat.reduceAdd, Nat.reduceMul, Nat.reduceSub, Int.reduceToNat, Int.reduceAdd]
  obtain ⟨y, cy, m0, rfl, hy, hof⟩ := hvO
  have hy0 := hy
  have hof1 := hof.nlen; have hof2 := hof.mle; have hof3 := hof.ple; have hof4 := hof.dle
  have hofn := hof.node
  obtain ⟨e1, e2, e3, e4, e5, rfl, _, _, _, _, _⟩ := kInfo.open hy
  obtain ⟨r, hr, hr1, hrz, hre⟩ : ∃ r : Nat, roomOf a0 y L = r ∧ r ≤ L ∧ (∀ k, k < r → whyFirst a0 (infoN a0 y k) = 0) ∧ (r < L → ¬ whyFirst a0 (infoN a0 y r) = 0) := by
    have hf := room_facts a0 y L 0
    refine ⟨roomFrom a0 y L 0, ?_, by omega, fun k hk => hf.2.2.1 k (Nat.zero_le _) hk, fun h => hf.2.2.2 (by omega)⟩
    unfold roomOf
    rw [show (min (max (L : Int) 0) 1000).toNat = L by omega]
  have hlike0 : Like y (infoN a0 y 0) := by unfold infoN; exact ⟨rfl, rfl, fun _ => Iff.rfl, rfl⟩
  have hyb : y.Names.length ≤ 1048576 + 0 ∧ y.Ports.length ≤ 1048576 + 0 * a0.Ports.length ∧ y.Disks.length ≤ 1048576 + 0 * a0.Claims.length := by omega
  refine opsR_o rfl (o_alloc fun bI hbI => ?_)
  simp only [nrm, Nat.reduceAdd, Nat.reduceMul, Nat.reduceSub, Int.reduceToNat, Int.reduceAdd]
  refine opsR_o rfl (o_storeB rfl rfl inferInstance (by first | rfl | assumption) (by first | rfl | exact Kd.one _ (by assumption) | assumption) (by first | rfl | (refine Nat.ble_eq_true_of_le ?_; (try simp only [Int.toNat_natCast]); omega)) ?_)
  simp only [nrm, Nat.reduceAdd, Nat.reduceMul, Nat.reduceSub, Int.reduceToNat, Int.reduceAdd]
  refine opsR_nil ?_
  refine hk8 _ _ ?_
  clear hk8
  refine run_seq fun _ hk13 => ?_
  refine run_region ?_
  refine opsR_q rfl (by first | exact q_loadBN rfl inferInstance (by rfl) | exact q_loadBW rfl inferInstance (by assumption)) ?_
  simp only [nrm, Nat.reduceAdd, Nat.reduceMul, Nat.reduceSub, Int.reduceToNat, Int.reduceAdd]
  refine opsR_q rfl (by first | exact q_loadBN rfl inferInstance (by rfl) | exact q_loadBW rfl inferInstance (by assumption)) ?_
  simp only [nrm, Nat.reduceAdd, Nat.reduceMul, Nat.reduceSub, Int.reduceToNat, Int.reduceAdd]
  refine opsR_q rfl (q_move) ?_
  simp only [nrm]
  refine opsR_q rfl (q_call rfl (Most_spec (p := a0) (x := y) (hT.mono (by exact leA)) (Kd.mono _ (by exact leA) h0') (Kd.mono _ (by exact leA) hy0) (hok y hofn) (by omega) (by omega) hpp1)) ?_
  simp only [nrm, Nat.reduceAdd, Nat.reduceMul, Nat.reduceSub, Int.reduceToNat, Int.reduceAdd]
  rw [hr]
  refine opsR_q rfl (q_assign) ?_
  simp only [nrm]
  refine opsR_nil ?_
  refine hk13 _ _ ?_
  clear hk13
  refine run_seq fun _ hk16 => ?_
  refine run_seq fun _ hk17 => ?_
  refine run_region ?_
  refine opsR_q rfl (q_move) ?_
  simp only [nrm]
  refine opsR_q rfl (q_lss rfl rfl) ?_
  simp only [nrm, Nat.reduceAdd, Nat.reduceMul, Nat.reduceSub, Int.reduceToNat, Int.reduceAdd]
  refine opsR_qb rfl (q_move) (fun h => absurd h (by rw [decide_eq_true_iff]; omega)) (fun _ => ?_)
  simp only [nrm, Nat.reduceAdd, Nat.reduceMul, Nat.reduceSub, Int.reduceToNat, Int.reduceAdd]
  refine opsR_q rfl (q_move) ?_
  simp only [nrm]
  refine opsR_q rfl (q_move) ?_
  simp only [nrm]
  refine opsR_q rfl (q_gtr rfl rfl) ?_
  simp only [nrm, Nat.reduceAdd, Nat.reduceMul, Nat.reduceSub, Int.reduceToNat, Int.reduceAdd]
  refine opsR_q rfl (q_pick_f rfl) ?_
  simp only [nrm]
  refine opsR_nil ?_
  refine hk17 _ _ ?_
  clear hk17
  refine run_cond rfl (fun ho18 => ?_) (fun ho18 => ?_)
  · have hc18 := ho18; try simp only [spl] at hc18
    refine run_seq fun _ hk19 => ?_
    exact absurd hc18 (by omega)
  · have hc18 := ho18; try simp only [spl] at hc18
    refine run_skip ?_
    refine hk16 _ _ ?_
    clear hk16
    refine run_seq fun _ hk20 => ?_
    refine run_seq fun _ hk21 => ?_
    refine run_region ?_
    refine opsR_q rfl (q_assign) ?_
    simp only [nrm]
    refine opsR_nil ?_
    refine hk21 _ _ ?_
    clear hk21
    refine run_block ?_
    refine run_loopF [0, 0, 0, 0, 0, 0, 0, 0, 1, 0, 0, 2, 1, 1, 1, 0, 0, 0, 0, 0, 0, 0, 0, 0, 0, 0, 0, 0, 0, 0, 0, 0, 0, 1, 1, 1, 1, 1, 1, 1, 1, 1, 1, 1, 1, 1, 1, 1, 1, 1, 1, 1, 1, 1, 1, 1, 1, 1, 1, 1, 1, 0, 0, 0, 0, 0, 0, 0, 0, 0] (fun zn zL zst => ∃ (k : Nat) (z : Info) (cz : (List Value)) (J : Hp), zL = [.int .i64 (k : Nat)] ∧ ⟨J, (bI, .cells cz.toArray 38 (0, 0)) :: (bN, .cells #[.string a1.Name, u1, u2, .bool a1.Off, .int .i64 a1.Give.CPU, .int .i64 a1.Give.Mem, .int .i64 a1.Give.Disk, .int .i64 a1.Pods, .int .i64 a1.Disks] 36 (0, 0)) :: (bP, .cells #[.string a0.Name, .int .i64 a0.Priority, p1, .int .i64 a0.Want.CPU, .int .i64 a0.Want.Mem, .int .i64 a0.Want.Disk, p2, p3, p4, p5, p6, p7, p8, p9, .string a0.Node, .string a0.Hope] 33 (0, 0)) :: s.cs⟩ = zst ∧ zn = r - k ∧ (k ≤ r) ∧ (Hp.le s.I J) ∧ (kInfo.rep J z cz) ∧ (Like z (infoN a0 y k)) ∧ (z.Names.length ≤ 1048576 + k ∧ z.Ports.length ≤ 1048576 + k * a0.Ports.length ∧ z.Disks.length ≤ 1048576 + k * a0.Claims.length)) _ _ ⟨0, y, _, JO, rfl, rfl, rfl, by first | assumption | omega | exact Hp.le.rfl | rfl | exact all_zero | exact all_succ (by assumption) (by assumption) | (intro _; omega) | (simp; done), by first | assumption | omega | exact Hp.le.rfl | rfl | exact all_zero | exact all_succ (by assumption) (by assumption) | (intro _; omega) | (simp; done), by first | assumption | omega | exact Hp.le.rfl | rfl | exact all_zero | exact all_succ (by assumption) (by assumption) | (intro _; omega) | (simp; done), by first | assumption | omega | exact Hp.le.rfl | rfl | exact all_zero | exact all_succ (by assumption) (by assumption) | (intro _; omega) | (simp; done), by first | assumption | omega | exact Hp.le.rfl | rfl | exact all_zero | exact all_succ (by assumption) (by assumption) | (intro _; omega) | (simp; done)⟩ rfl ?_
    rintro _ _ _ jv22 ⟨k, z, cz, J, rfl, rfl, rfl, hk, hJ, hz, hlike, hzb⟩ K22 hkl22
    simp only [fr, Nat.zero_add, Nat.reduceAdd]
    have hzn : z.Node = a1 := (hlike.node.trans (infoN_sizes a0 y k).1).trans hofn
    have hk40 : k ≤ 40 := by omega
    have hmu1 : k * a0.Ports.length ≤ 40 * a0.Ports.length := Nat.mul_le_mul_right _ hk40
    have hmu2 : k * a0.Claims.length ≤ 40 * a0.Claims.length := Nat.mul_le_mul_right _ hk40
    have hmu3 := Nat.succ_mul k a0.Ports.length
    have hmu4 := Nat.succ_mul k a0.Claims.length
    have hz0 := hz
    obtain ⟨f1, f2, f3, f4, f5, rfl, _, _, _, _, _⟩ := kInfo.open hz
    refine run_seq fun _ hk23 => ?_
    refine run_seq fun _ hk24 => ?_
    refine run_region ?_
    refine opsR_q rfl (q_move) ?_
    simp only [nrm]
    refine opsR_q rfl (q_move) ?_
    simp only [nrm]
    refine opsR_q rfl (q_lss rfl rfl) ?_
    simp only [nrm, Nat.reduceAdd, Nat.reduceMul, Nat.reduceSub, Int.reduceToNat, Int.reduceAdd]
    refine opsR_nil ?_
    refine hk24 _ _ ?_
    clear hk24
    refine run_cond rfl (fun ho27 => ?_) (fun ho27 => ?_)
    · have hc27 := ho27; try simp only [spl] at hc27
      refine run_skip ?_
      refine hk23 _ _ ?_
      clear hk23
      refine run_seq fun _ hk28 => ?_
      refine run_block ?_
      refine run_seq fun _ hk29 => ?_
      refine run_seq fun _ hk30 => ?_
      refine run_region ?_
      refine opsR_q rfl (by first | exact q_loadBN rfl inferInstance (by rfl) | exact q_loadBW rfl inferInstance (by assumption)) ?_
      simp only [nrm, Nat.reduceAdd, Nat.reduceMul, Nat.reduceSub, Int.reduceToNat, Int.reduceAdd]
      refine opsR_q rfl (by first | exact q_loadBN rfl inferInstance (by rfl) | exact q_loadBW rfl inferInstance (by assumption)) ?_
      simp only [nrm, Nat.reduceAdd, Nat.reduceMul, Nat.reduceSub, Int.reduceToNat, Int.reduceAdd]
      refine opsR_q rfl (q_call rfl (callV_of_S (Check_spec (p := a0) (x := z) (hT.mono (by exact leA)) (Kd.mono _ (by exact leA) h0') (Kd.mono _ (by exact leA) hz0) (hok z hzn)))) ?_
      simp only [nrm, Nat.reduceAdd, Nat.reduceMul, Nat.reduceSub, Int.reduceToNat, Int.reduceAdd]
      refine opsR_q rfl (q_neq rfl rfl) ?_
      simp only [nrm, Nat.reduceAdd, Nat.reduceMul, Nat.reduceSub, Int.reduceToNat, Int.reduceAdd]
      refine opsR_nil ?_
      refine hk30 _ _ ?_
      clear hk30
      refine run_cond rfl (fun ho33 => ?_) (fun ho33 => ?_)
      · have hc33 := ho33; try simp only [spl] at hc33
        refine run_seq fun _ hk34 => ?_
        exact absurd (by rw [like_first hlike]; exact hrz k (by omega)) hc33
      · have hc33 := ho33; try simp only [spl] at hc33
        refine run_skip ?_
        refine hk29 _ _ ?_
        clear hk29
        refine run_seq fun _ hk35 => ?_
        refine run_region ?_
        refine opsR_q rfl (by first | exact q_loadBN rfl inferInstance (by rfl) | exact q_loadBW rfl inferInstance (by assumption)) ?_
        simp only [nrm, Nat.reduceAdd, Nat.reduceMul, Nat.reduceSub, Int.reduceToNat, Int.reduceAdd]
        refine opsR_o rfl (o_alloc fun bQ hbQ => ?_)
        simp only [nrm, Nat.reduceAdd, Nat.reduceMul, Nat.reduceSub, Int.reduceToNat, Int.reduceAdd]
        refine opsR_o rfl (o_storeB rfl rfl inferInstance (by first | rfl | assumption) (by first | rfl | exact Kd.one _ (by assumption) | assumption) (by first | rfl | (refine Nat.ble_eq_true_of_le ?_; (try simp only [Int.toNat_natCast]); omega)) ?_)
        simp only [nrm, Nat.reduceAdd, Nat.reduceMul, Nat.reduceSub, Int.reduceToNat, Int.reduceAdd]
        refine opsR_nil ?_
        refine hk35 _ _ ?_
        clear hk35
        refine run_seq fun _ hk37 => ?_
        have hsz4 : (⟨#[99, 111, 112, 121]⟩ : ByteArray).size = 4 := rfl
        have hsz1 : (⟨#[46]⟩ : ByteArray).size = 1 := rfl
        refine run_region ?_
        refine opsR_q rfl (q_move) ?_
        simp only [nrm]
        refine opsR_o rfl (o_call rfl (ItoaS_spec (by omega) _ fun vA hvA => ?_))
        simp only [nrm, Nat.reduceAdd, Nat.reduceMul, Nat.reduceSub, Int.reduceToNat, Int.reduceAdd]
        obtain ⟨bA, rfl, hbA⟩ := hvA
        refine opsR_q rfl (q_add_string rfl rfl idxA) ?_
        simp only [nrm, Nat.reduceAdd, Nat.reduceMul, Nat.reduceSub, Int.reduceToNat, Int.reduceAdd]
        have hsA : ((⟨#[99, 111, 112, 121]⟩ : ByteArray) ++ bA).size = 4 + bA.size := by rw [ByteArray.size_append]; rfl
        refine opsR_q rfl (q_add_string rfl rfl idxA) ?_
        simp only [nrm, Nat.reduceAdd, Nat.reduceMul, Nat.reduceSub, Int.reduceToNat, Int.reduceAdd]
        have hsB : ((⟨#[99, 111, 112, 121]⟩ : ByteArray) ++ bA ++ ⟨#[46]⟩).size = 4 + bA.size + 1 := by rw [ByteArray.size_append, hsA]; rfl
        refine opsR_q rfl (q_move) ?_
        simp only [nrm]
        refine opsR_q rfl (q_len_v rfl (by first | exact Sl.len (by assumption) | exact OwnS.len (by assumption) | exact SlR.len (by assumption) | assumption)) ?_
        simp only [nrm, Nat.reduceAdd, Nat.reduceMul, Nat.reduceSub, Int.reduceToNat, Int.reduceAdd]
        refine opsR_o rfl (o_call rfl (ItoaS_spec (by omega) _ fun vB hvB => ?_))
        simp only [nrm, Nat.reduceAdd, Nat.reduceMul, Nat.reduceSub, Int.reduceToNat, Int.reduceAdd]
        obtain ⟨bB, rfl, hbB⟩ := hvB
        refine opsR_q rfl (q_add_string rfl rfl idxA) ?_
        simp only [nrm, Nat.reduceAdd, Nat.reduceMul, Nat.reduceSub, Int.reduceToNat, Int.reduceAdd]
        obtain ⟨nm, hnm⟩ : ∃ nm, nm = (⟨#[99, 111, 112, 121]⟩ : ByteArray) ++ bA ++ ⟨#[46]⟩ ++ bB := ⟨_, rfl⟩; rw [← hnm]
        refine opsR_q rfl (q_fieldAddr rfl) ?_
        simp only [nrm, Nat.reduceAdd, Nat.reduceMul, Nat.reduceSub, Int.reduceToNat, Int.reduceAdd]
        refine opsR_o rfl (o_storeB rfl rfl inferInstance (by first | rfl | assumption) (by first | rfl | exact Kd.one _ (by assumption) | assumption) (by first | rfl | (refine Nat.ble_eq_true_of_le ?_; (try simp only [Int.toNat_natCast]); omega)) ?_)
        simp only [nrm, Nat.reduceAdd, Nat.reduceMul, Nat.reduceSub, Int.reduceToNat, Int.reduceAdd]
        refine opsR_nil ?_
        refine hk37 _ _ ?_
        clear hk37
        refine run_seq fun _ hk44 => ?_
        have hpq := kPod.shut (I := s.I) (x := { a0 with Name := nm }) (hLabels := g1) (hBears := g2) (hAsks := g3) (hPrefers := g4) (hPorts := g5) (hNear := g6) (hApart := g7) (hSpreads := g8) (hClaims := g9)
        refine run_region ?_
        refine opsR_q rfl (by first | exact q_loadBN rfl inferInstance (by rfl) | exact q_loadBW rfl inferInstance (by assumption)) ?_
        simp only [nrm, Nat.reduceAdd, Nat.reduceMul, Nat.reduceSub, Int.reduceToNat, Int.reduceAdd]
        refine opsR_q rfl (by first | exact q_loadBN rfl inferInstance (by rfl) | exact q_loadBW rfl inferInstance (by assumption)) ?_
        simp only [nrm, Nat.reduceAdd, Nat.reduceMul, Nat.reduceSub, Int.reduceToNat, Int.reduceAdd]
        refine opsR_o rfl (o_call rfl (Add_spec (x := z) (p := { a0 with Name := nm }) (Kd.mono _ (by exact leA) hz0) (Kd.mono _ (by exact leA) hpq) (by omega) (by show z.Ports.length + a0.Ports.length ≤ _; omega) (by show z.Disks.length + a0.Claims.length ≤ _; omega) _ fun vW JW hJW hvW => ?_))
        try dsimp only at hJW hvW
        try (have hrW : Hp.le s.I JW := leA; have hJW := hJW)
        simp only [nrm, Nat.reduceAdd, Nat.reduceMul, Nat.reduceSub, Int.reduceToNat, Int.reduceAdd]
        obtain ⟨cw, ew, rfl, hlen, hone, hcase⟩ := hvW
        obtain ⟨w1, w2, w3, w4, w5, w6, w7, w8, w9, w10, w11, w12, w13, w14, w15, rfl⟩ := len15 hlen
        refine opsR_q rfl (q_move) ?_
        simp only [nrm]
        refine opsR_q rfl (q_extract rfl rfl) ?_
        simp only [nrm]
        refine opsR_q rfl (q_extract rfl rfl) ?_
        simp only [nrm]
        refine opsR_o rfl (o_alloc fun bV hbV => ?_)
        simp only [nrm, Nat.reduceAdd, Nat.reduceMul, Nat.reduceSub, Int.reduceToNat, Int.reduceAdd]
        refine opsR_o rfl (o_storeB rfl rfl inferInstance (by first | rfl | assumption) (by first | rfl | exact Kd.one _ (by assumption) | assumption) (by first | rfl | (refine Nat.ble_eq_true_of_le ?_; (try simp only [Int.toNat_natCast]); omega)) ?_)
        simp only [nrm, Nat.reduceAdd, Nat.reduceMul, Nat.reduceSub, Int.reduceToNat, Int.reduceAdd]
        refine opsR_q rfl (q_assign) ?_
        simp only [nrm]
        refine opsR_nil ?_
        refine hk44 _ _ ?_
        clear hk44
        refine run_seq fun _ hk48 => ?_
        refine run_seq fun _ hk49 => ?_
        refine run_region ?_
        refine opsR_q rfl (q_move) ?_
        simp only [nrm]
        refine opsR_q rfl (q_neq rfl rfl) ?_
        simp only [nrm, Nat.reduceAdd, Nat.reduceMul, Nat.reduceSub, Int.reduceToNat, Int.reduceAdd]
        refine opsR_nil ?_
        refine hk49 _ _ ?_
        clear hk49
        refine run_cond rfl (fun ho50 => ?_) (fun ho50 => ?_)
        · have hc50 := ho50; try simp only [spl] at hc50
          refine run_seq fun _ hk51 => ?_
          refine run_region ?_
          refine opsR_q rfl (q_assign) ?_
          simp only [nrm]
          refine opsR_nil ?_
          refine hk51 _ _ ?_
          clear hk51
          refine run_ret ?_
          exact end_tmp rfl rfl rfl (Gh.drop2.trans (Gh.drop.trans Gh.drop2)) ⟨rfl, leA⟩
        · have hc50 := ho50; try simp only [spl] at hc50
          refine run_skip ?_
          refine hk48 _ _ ?_
          clear hk48
          obtain ⟨_, hnn, z', hz', hw⟩ := hcase.resolve_left (fun h => h hc50)
          refine run_region ?_
          refine opsR_q rfl (by first | exact q_loadBN rfl inferInstance (by rfl) | exact q_loadBW rfl inferInstance (by assumption)) ?_
          simp only [nrm, Nat.reduceAdd, Nat.reduceMul, Nat.reduceSub, Int.reduceToNat, Int.reduceAdd]
          refine opsR_o rfl (o_storeB rfl rfl inferInstance (by first | rfl | assumption) (by first | rfl | exact Kd.one _ (by assumption) | assumption) (by first | rfl | (refine Nat.ble_eq_true_of_le ?_; (try simp only [Int.toNat_natCast]); omega)) ?_)
          simp only [nrm, Nat.reduceAdd, Nat.reduceMul, Nat.reduceSub, Int.reduceToNat, Int.reduceAdd]
          refine opsR_nil ?_
          refine hk28 _ _ ?_
          clear hk28
          refine run_gh Gh.drop2 ?_
          refine run_region ?_
          refine opsR_q rfl (q_move) ?_
          simp only [nrm]
          refine opsR_q rfl (by first | exact q_add64 rfl rfl (by omega) (by omega) | exact q_add rfl rfl) ?_
          simp only [nrm, Nat.reduceAdd, Nat.reduceMul, Nat.reduceSub, Int.reduceToNat, Int.reduceAdd]
          refine opsR_q rfl (q_assign) ?_
          simp only [nrm]
          refine opsR_nil ?_
          first
          | exact hkl22 _ _ _ _ (by omega) ⟨k + 1, _, _, _, rfl, rfl, rfl, by first | assumption | omega | exact like_step hlike hw hnn rfl rfl | (have i1 := hw.nle; have i2 := hw.ple; have i3 := hw.dle; simp only [Nat.succ_eq_add_one] at hmu3 hmu4; simp only at i2 i3; omega) | exact leA, by first | assumption | omega | exact like_step hlike hw hnn rfl rfl | (have i1 := hw.nle; have i2 := hw.ple; have i3 := hw.dle; simp only [Nat.succ_eq_add_one] at hmu3 hmu4; simp only at i2 i3; omega) | exact leA, by first | assumption | omega | exact like_step hlike hw hnn rfl rfl | (have i1 := hw.nle; have i2 := hw.ple; have i3 := hw.dle; simp only [Nat.succ_eq_add_one] at hmu3 hmu4; simp only at i2 i3; omega) | exact leA, by first | assumption | omega | exact like_step hlike hw hnn rfl rfl | (have i1 := hw.nle; have i2 := hw.ple; have i3 := hw.dle; simp only [Nat.succ_eq_add_one] at hmu3 hmu4; simp only at i2 i3; omega) | exact leA, by first | assumption | omega | exact like_step hlike hw hnn rfl rfl | (have i1 := hw.nle; have i2 := hw.ple; have i3 := hw.dle; simp only [Nat.succ_eq_add_one] at hmu3 hmu4; simp only at i2 i3; omega) | exact leA⟩ rfl
    · have hc27 := ho27; try simp only [spl] at hc27
      refine run_exit ?_
      refine hk20 _ _ ?_
      clear hk20
      refine run_seq fun _ hk53 => ?_
      have ekr : k = r := by omega
      refine run_region ?_
      refine opsR_q rfl (q_move) ?_
      simp only [nrm]
      refine opsR_q rfl (q_move) ?_
      simp only [nrm]
      refine opsR_q rfl (q_eql rfl rfl) ?_
      simp only [nrm, Nat.reduceAdd, Nat.reduceMul, Nat.reduceSub, Int.reduceToNat, Int.reduceAdd]
      refine opsR_qb rfl (q_move) (fun hc55 => ?_) (fun hc55 => ?_)
      · have ho55 := hc55; try simp only [spl] at hc55
        simp only [nrm, Nat.reduceAdd, Nat.reduceMul, Nat.reduceSub, Int.reduceToNat, Int.reduceAdd]
        refine opsR_skip rfl ?_
        simp only [nrm, Nat.reduceAdd, Nat.reduceMul, Nat.reduceSub, Int.reduceToNat, Int.reduceAdd]
        refine opsR_skip rfl ?_
        simp only [nrm, Nat.reduceAdd, Nat.reduceMul, Nat.reduceSub, Int.reduceToNat, Int.reduceAdd]
        refine opsR_skip rfl ?_
        simp only [nrm, Nat.reduceAdd, Nat.reduceMul, Nat.reduceSub, Int.reduceToNat, Int.reduceAdd]
        refine opsR_skip rfl ?_
        simp only [nrm, Nat.reduceAdd, Nat.reduceMul, Nat.reduceSub, Int.reduceToNat, Int.reduceAdd]
        refine opsR_q rfl (q_pick_t rfl) ?_
        simp only [nrm]
        refine opsR_q rfl (q_assign) ?_
        simp only [nrm]
        refine opsR_nil ?_
        refine hk53 _ _ ?_
        clear hk53
        refine run_ret ?_
        first | exact end_tmp rfl rfl rfl ghA ⟨rfl, leA⟩ | exact end_tmp rfl rfl rfl ghA ⟨congrArg Value.bool (decide_eq_true (by rw [like_first hlike, ekr]; exact hre (by omega))), leA⟩
      · have ho55 := hc55; try simp only [spl] at hc55
        simp only [nrm, Nat.reduceAdd, Nat.reduceMul, Nat.reduceSub, Int.reduceToNat, Int.reduceAdd]
        refine opsR_q rfl (by first | exact q_loadBN rfl inferInstance (by rfl) | exact q_loadBW rfl inferInstance (by assumption)) ?_
        simp only [nrm, Nat.reduceAdd, Nat.reduceMul, Nat.reduceSub, Int.reduceToNat, Int.reduceAdd]
        refine opsR_q rfl (by first | exact q_loadBN rfl inferInstance (by rfl) | exact q_loadBW rfl inferInstance (by assumption)) ?_
        simp only [nrm, Nat.reduceAdd, Nat.reduceMul, Nat.reduceSub, Int.reduceToNat, Int.reduceAdd]
        refine opsR_q rfl (q_call rfl (callV_of_S (Check_spec (p := a0) (x := z) (hT.mono (by exact leA)) (Kd.mono _ (by exact leA) h0') (Kd.mono _ (by exact leA) hz0) (hok z hzn)))) ?_
        simp only [nrm, Nat.reduceAdd, Nat.reduceMul, Nat.reduceSub, Int.reduceToNat, Int.reduceAdd]
        refine opsR_q rfl (q_neq rfl rfl) ?_
        simp only [nrm, Nat.reduceAdd, Nat.reduceMul, Nat.reduceSub, Int.reduceToNat, Int.reduceAdd]
        refine opsR_q rfl (q_pick_f rfl) ?_
        simp only [nrm]
        refine opsR_q rfl (q_assign) ?_
        simp only [nrm]
        refine opsR_nil ?_
        refine hk53 _ _ ?_
        clear hk53
        refine run_ret ?_
        first | exact end_tmp rfl rfl rfl ghA ⟨rfl, leA⟩ | exact end_tmp rfl rfl rfl ghA ⟨congrArg Value.bool (decide_eq_true (by rw [like_first hlike, ekr]; exact hre (by omega))), leA⟩
end
end Go.Proofs.YtcnbcblihepbmaaGreatDoor
namespace Go.Proofs.YtcnbcblihepbmaaGreatDoor
open Go Go.RowKit Go.Deep Go.ChangeShapes Go.WideShapes Go.ChangeAt
theorem FitTill_tabs {W : World} (h : laidMetH Tryz.prog Rows.fitTillUptoRow.laid W) : Tabs (World.hp W) := by
  obtain ⟨ps, ⟨g0, t0, cs0, f0, p0, q0, hg0, ht0, hv0, hd0, ⟨g1, t1, cs1, f1, p1, q1, hg1, ht1, hv1, hd1, ⟨g2, t2, cs2, f2, p2, q2, hg2, ht2, hv2, hd2, ⟨g3, t3, cs3, f3, p3, q3, hg3, ht3, hv3, hd3, ⟨g4, t4, cs4, f4, p4, q4, hg4, ht4, hv4, hd4, _, _⟩, _⟩, _⟩, _⟩, _⟩, _, _⟩ := h
  obtain rfl := Option.some.inj ((show Tryz.prog.globalNamed "internal/strconv.uint64pow10" = some 2 by kernel_rfl).symm.trans hg2)
  obtain rfl := Option.some.inj ((show (Tryz.prog.globals[2]?).map (·.type) = some 169 by kernel_rfl).symm.trans ht2)
  obtain ⟨e2, r2, hb2⟩ := var_cells (show Tryz.prog.globalNamed "internal/strconv.uint64pow10" = some 2 by kernel_rfl) hv2
  rw [show Rows.laid_internal_strconv_uint64pow10 = Lib.tabData .u64 Lib.pow10Tab from by kernel_rfl] at hd2
  have hc2 := Lib.cells_of_tab Tryz.underlying169 Tryz.underlying89 (by kernel_rfl) (by kernel_rfl) hd2
  have hb2' : World.hp W 2 = some (.cells (Lib.pow10Tab.map fun z => Value.int .u64 z).toArray e2 r2) := by rw [← hc2]; exact hb2
  obtain rfl := Option.some.inj ((show Tryz.prog.globalNamed "strconv.ErrRange" = some 1 by kernel_rfl).symm.trans hg3)
  obtain rfl := Option.some.inj ((show (Tryz.prog.globals[1]?).map (·.type) = some 141 by kernel_rfl).symm.trans ht3)
  obtain ⟨e3, r3, hb3⟩ := var_cells (show Tryz.prog.globalNamed "strconv.ErrRange" = some 1 by kernel_rfl) hv3
  obtain ⟨_, u3, x3, hc3, _, _⟩ := iface_of_trod Tryz.underlying141 hd3
  have hb3' : World.hp W 1 = some (.cells #[.iface u3 x3] e3 r3) := by rw [show cs3 = #[.iface u3 x3] from Array.toList_inj.1 hc3] at hb3; exact hb3
  obtain rfl := Option.some.inj ((show Tryz.prog.globalNamed "strconv.ErrSyntax" = some 0 by kernel_rfl).symm.trans hg4)
  obtain rfl := Option.some.inj ((show (Tryz.prog.globals[0]?).map (·.type) = some 141 by kernel_rfl).symm.trans ht4)
  obtain ⟨e4, r4, hb4⟩ := var_cells (show Tryz.prog.globalNamed "strconv.ErrSyntax" = some 0 by kernel_rfl) hv4
  obtain ⟨_, u4, x4, hc4, _, _⟩ := iface_of_trod Tryz.underlying141 hd4
  have hb4' : World.hp W 0 = some (.cells #[.iface u4 x4] e4 r4) := by rw [show cs4 = #[.iface u4 x4] from Array.toList_inj.1 hc4] at hb4; exact hb4
  exact ⟨⟨_, _, hb2'⟩, ⟨_, _, _, _, hb4'⟩, ⟨_, _, _, _, hb3'⟩⟩
theorem FitTill_laidOut : laidOutB Tryz.prog = true := by kernel_rfl
theorem FitTill_own : ownKnob Tryz.prog.godebug = none := by kernel_rfl
set_option maxRecDepth 60000 in
theorem FitTill_contract (H : Type) (enc : TypeId × Value → H) (W : World) (base : Nat) (args : Array Value) (ds gs : List (DataW H)) (before : List MemPlace)
    (hval : ∀ (j : Nat) t v, Tryz.f5.params[j]? = some t → args[j]? = some v → Value.okWide Tryz.prog W .any base t v)
    (hW : DataW.Whole enc Tryz.prog Tryz.f5.params.toList Rows.fitTillSpec.vars false W args.toList ds gs before) (hk : Rows.uptoSmall H (ds ++ gs) = true) (hL : laidMetH Tryz.prog Rows.fitTillUptoRow.laid W) :
    Calls Tryz.prog 5 args W fun e W' => ∃ v, e = .returned v ∧ Rows.fitTillSpec.post enc Tryz.prog Tryz.f5 false true false false W args v W' := by
  have hW' := hW
  obtain ⟨p, q, hA0, hV, rfl, hfz, hnd⟩ := hW
  have hA : DataW.TrodAll enc Tryz.prog W 0 (fun _ => true) true Tryz.f5.params.toList args.toList ds p := hA0
  rw [Tryz.params5] at hA hval
  obtain ⟨v0, vs0, d0, ds0, p0, q0, hargs, rfl, rfl, h0, r0⟩ := trodAll_cons hA
  obtain ⟨v1, vs1, d1, ds1, p1, q1, rfl, rfl, rfl, h1, r1⟩ := trodAll_cons r0
  obtain ⟨v2, vs2, d2, ds2, p2, q2, rfl, rfl, rfl, h2, r2⟩ := trodAll_cons r1
  obtain ⟨v3, vs3, d3, ds3, p3, q3, rfl, rfl, rfl, h3, r3⟩ := trodAll_cons r2
  obtain ⟨rfl, rfl, rfl⟩ := trodAll_nil r3
  obtain rfl : args = #[v0, v1, v2, v3] := by cases args; simp_all
  obtain ⟨rfl, rfl⟩ := trodVars_none hV
  have k0 := h0
  have lt0 : ∀ x ∈ p0, x.block < W.heap.size := by obtain ⟨m, hm⟩ := k0; exact DataW.trod_lt m _ _ _ hm
  obtain ⟨cs0, rfl, _⟩ := okWide_struct Tryz.underlying33 (hval 0 33 v0 rfl rfl)
  obtain ⟨f0, hf0⟩ := h0
  obtain ⟨a0, hs0, ok0, bk0⟩ := openPod.op hf0
  have k1 := h1
  have lt1 : ∀ x ∈ p1, x.block < W.heap.size := by obtain ⟨m, hm⟩ := k1; exact DataW.trod_lt m _ _ _ hm
  obtain ⟨cs1, rfl, _⟩ := okWide_struct Tryz.underlying36 (hval 1 36 v1 rfl rfl)
  obtain ⟨f1, hf1⟩ := h1
  obtain ⟨a1, hs1, ok1, bk1⟩ := openNode.op hf1
  have k2 := h2
  have lt2 : ∀ x ∈ p2, x.block < W.heap.size := by obtain ⟨m, hm⟩ := k2; exact DataW.trod_lt m _ _ _ hm
  obtain ⟨x2, l2, c2, rfl⟩ := okWide_slice Tryz.underlying48 (hval 2 48 v2 rfl rfl)
  obtain ⟨f2, hf2⟩ := h2
  obtain ⟨a2, ⟨w2, hw2, hs2⟩, ok2, bk2⟩ := (openSlice openPod (by kernel_rfl) (by decide) : OpenK Tryz.prog 48 kPod.slice).op hf2
  obtain rfl : Value.slice x2 l2 c2 = w2 := by simpa [Value.cells] using hw2
  have k3 := h3
  have lt3 : ∀ x ∈ p3, x.block < W.heap.size := by obtain ⟨m, hm⟩ := k3; exact DataW.trod_lt m _ _ _ hm
  obtain ⟨n3, rfl⟩ := okWide_int Tryz.underlying3 (hval 3 3 v3 rfl rfl)
  obtain ⟨f3, hf3⟩ := h3
  obtain ⟨a3, hs3, ok3, bk3⟩ := (openInt (by kernel_rfl) : OpenK Tryz.prog 3 (kInt .i64)).op hf3
  obtain rfl : n3 = a3 := by simpa [Value.cells, kInt, kBool, kStr] using hs3
  replace bk0 : _ ≤ Rows.uptoBulk d0 := bk0
  replace bk1 : _ ≤ Rows.uptoBulk d1 := bk1
  replace bk2 : _ ≤ Rows.uptoBulk d2 := bk2
  replace bk3 : _ ≤ Rows.uptoBulk d3 := bk3
  have hbk : Rows.uptoBulkAll ([d0, d1, d2, d3] ++ ([] : List (DataW H))) ≤ 1048576 := of_decide_eq_true hk
  simp only [List.append_nil, Rows.uptoBulkAll] at hbk
  clear hA0
  simp only [List.append_nil] at hW'
  refine (FitTill_walk a0 cs0.toList a1 cs1.toList a2 _ n3 ⟨World.hp W, []⟩ (FitTill_tabs hL) hs0 ok0 hs1 ok1 hs2 ok2 ok3 (by omega) W (sat_hp W)).mono fun e W' ⟨v, s', he, hs', hx, hv, hle⟩ => ?_
  have bel := below_of hs' hx hle
  subst he; subst hv
  exact ⟨_, rfl, _, _, _, [], _, [], hW', trodAll_mk1 (shut_bool Tryz.underlying4 _), (trodAll_cons_mk (Below.trod FitTill_laidOut (by kernel_rfl) (of_decide_eq_true (by kernel_rfl)) k0 bel lt0) (trodAll_cons_mk (Below.trod FitTill_laidOut (by kernel_rfl) (of_decide_eq_true (by kernel_rfl)) k1 bel lt1) (trodAll_cons_mk (Below.trod FitTill_laidOut (by kernel_rfl) (of_decide_eq_true (by kernel_rfl)) k2 bel lt2) (trodAll_cons_mk (Below.trod FitTill_laidOut (by kernel_rfl) (of_decide_eq_true (by kernel_rfl)) k3 bel lt3) trodAll_mk0)))), rfl, bel.frame _, fun h => by cases h⟩
noncomputable def FitTill_low : Nat := (World.holding Tryz.prog default ⟨#[], #[], []⟩).heap.size
noncomputable def FitTill_world (os : Os) : World := { (World.holding Tryz.prog os ⟨#[.cells #[.string ⟨([118, 97, 108, 117, 101, 32, 111, 117, 116, 32, 111, 102, 32, 114, 97, 110, 103, 101] : List UInt8).toArray⟩] 167, .cells #[.string ⟨([105, 110, 118, 97, 108, 105, 100, 32, 115, 121, 110, 116, 97, 120] : List UInt8).toArray⟩] 167], #[], []⟩) with heap := ((((((World.holding Tryz.prog os ⟨#[.cells #[.string ⟨([118, 97, 108, 117, 101, 32, 111, 117, 116, 32, 111, 102, 32, 114, 97, 110, 103, 101] : List UInt8).toArray⟩] 167, .cells #[.string ⟨([105, 110, 118, 97, 108, 105, 100, 32, 115, 121, 110, 116, 97, 120] : List UInt8).toArray⟩] 167], #[], []⟩).heap).modify 3 (layCells Rows.laid_math_bits_deBruijn32tab)).modify 4 (layCells Rows.laid_math_bits_deBruijn64tab)).modify 2 (layCells Rows.laid_internal_strconv_uint64pow10)).modify 1 (layIface 165 (FitTill_low + 0))).modify 0 (layIface 165 (FitTill_low + 1)) }
set_option maxRecDepth 100000 in
theorem FitTill_met (os : Os) : laidMet Tryz.prog Rows.fitTillUptoRow.laid ((FitTill_world os).forCall (fun _ _ => 0) ⟨#[], #[.agg #[.string ByteArray.empty, .int .i64 0, .slice none 0 0, .int .i64 0, .int .i64 0, .int .i64 0, .slice none 0 0, .slice none 0 0, .slice none 0 0, .slice none 0 0, .slice none 0 0, .slice none 0 0, .slice none 0 0, .slice none 0 0, .string ByteArray.empty, .string ByteArray.empty], .agg #[.string ByteArray.empty, .slice none 0 0, .slice none 0 0, .bool false, .int .i64 0, .int .i64 0, .int .i64 0, .int .i64 0, .int .i64 0], .slice none 0 0, .int .i64 0], []⟩).memory := laidMet_of_run' 8 (by kernel_rfl) (by kernel_rfl)
set_option maxRecDepth 100000 in
theorem FitTill_reads (os : Os) {H : Type} (enc : TypeId × Value → H) : ∃ places, DataW.whole enc Tryz.prog ((FitTill_world os).forCall (fun _ _ => 0) ⟨#[], #[.agg #[.string ByteArray.empty, .int .i64 0, .slice none 0 0, .int .i64 0, .int .i64 0, .int .i64 0, .slice none 0 0, .slice none 0 0, .slice none 0 0, .slice none 0 0, .slice none 0 0, .slice none 0 0, .slice none 0 0, .slice none 0 0, .string ByteArray.empty, .string ByteArray.empty], .agg #[.string ByteArray.empty, .slice none 0 0, .slice none 0 0, .bool false, .int .i64 0, .int .i64 0, .int .i64 0, .int .i64 0, .int .i64 0], .slice none 0 0, .int .i64 0], []⟩).memory Tryz.f5.params.toList Rows.fitTillSpec.vars false (#[.agg #[.string ByteArray.empty, .int .i64 0, .slice none 0 0, .int .i64 0, .int .i64 0, .int .i64 0, .slice none 0 0, .slice none 0 0, .slice none 0 0, .slice none 0 0, .slice none 0 0, .slice none 0 0, .slice none 0 0, .slice none 0 0, .string ByteArray.empty, .string ByteArray.empty], .agg #[.string ByteArray.empty, .slice none 0 0, .slice none 0 0, .bool false, .int .i64 0, .int .i64 0, .int .i64 0, .int .i64 0, .int .i64 0], .slice none 0 0, .int .i64 0] : Array Value).toList 8 = some ([.agg [.lit (.string []), .lit (.int .i64 0), .nil, .agg [.lit (.int .i64 0), .lit (.int .i64 0), .lit (.int .i64 0)], .nil, .nil, .nil, .nil, .nil, .nil, .nil, .nil, .lit (.string []), .lit (.string [])], .agg [.lit (.string []), .nil, .nil, .lit (.bool false), .agg [.lit (.int .i64 0), .lit (.int .i64 0), .lit (.int .i64 0)], .lit (.int .i64 0), .lit (.int .i64 0)], .nil, .lit (.int .i64 0)], [], places) := ⟨[], by kernel_rfl⟩
set_option maxRecDepth 100000 in
theorem FitTill_lifted (os : Os) (started : os.Started) (H : Type) (enc : TypeId × Value → H) (F : Stop.Interp) :
    ReturnsInHanded {} Tryz.checked os 5 .any ((Rows.OpenSpec.upto Rows.fitTillSpec).preRow enc Tryz.prog Tryz.f5 Rows.fitTillUptoRow.domain false Rows.fitTillUptoRow.laid) (((Rows.OpenSpec.upto Rows.fitTillSpec).at F).post enc Tryz.prog Tryz.f5 false true false false) := by
  obtain ⟨places, hx⟩ := FitTill_reads os enc
  refine returnsInHanded_of_row (C := Tryz.checked) (s := Rows.OpenSpec.upto Rows.fitTillSpec) FitTill_own started (by kernel_rfl) Tryz.func5
    (witness_row_at (enc := enc) (C := Tryz.checked) false (FitTill_world os) #[.agg #[.string ByteArray.empty, .int .i64 0, .slice none 0 0, .int .i64 0, .int .i64 0, .int .i64 0, .slice none 0 0, .slice none 0 0, .slice none 0 0, .slice none 0 0, .slice none 0 0, .slice none 0 0, .slice none 0 0, .slice none 0 0, .string ByteArray.empty, .string ByteArray.empty], .agg #[.string ByteArray.empty, .slice none 0 0, .slice none 0 0, .bool false, .int .i64 0, .int .i64 0, .int .i64 0, .int .i64 0, .int .i64 0], .slice none 0 0, .int .i64 0] rfl (by kernel_rfl) (by kernel_rfl) (by kernel_rfl)
      (OpenSpec.preRow_of_cond 8 hx (by kernel_rfl) (fun k hk => by cases hk; kernel_rfl) (by kernel_rfl) (FitTill_met os))) ?_
  intro W base args ds gs before hval hW _ hcond _ hL _ _
  exact FitTill_contract H enc W base args ds gs before hval hW (hcond _ rfl) hL
theorem FitTill_over : Rows.fitTillUptoRow.holds Tryz.pinned (Rows.OpenSpec.upto Rows.fitTillSpec) :=
  OpenClaim.holds_of_cond 5 Tryz.f5 rfl rfl rfl rfl rfl rfl rfl ⟨rfl, rfl, rfl, rfl, rfl⟩ rfl rfl rfl rfl rfl (by kernel_rfl) Tryz.func5 (by kernel_rfl)
    (of_decide_eq_true (by kernel_rfl)) (by unfold Func.isWrapper; first | (rw [if_pos (by decide +kernel)]; kernel_rfl) | (rw [if_neg (by decide +kernel)]; exact ⟨rfl, rfl⟩))
    (fun os started H enc _ F => by rw [OpenClaim.pre_eq_preRow]; exact FitTill_lifted os started H enc F)
theorem FitTill_plain (f : FuncId) (fn : Func) (hf : Tryz.pinned.checked.prog.funcNamed "stevedore/stevedorelaw07.FitTill" = some f) (hfn : Tryz.pinned.checked.prog.funcs[f]? = some fn) :
    true = Tryz.pinned.checked.prog.looks [] ∧ ∀ (j : Nat) t, fn.params[j]? = some t → Tryz.pinned.checked.prog.wantsStandIn t = false := by
  obtain rfl : f = 5 := Option.some.inj ((show Tryz.prog.funcNamed "stevedore/stevedorelaw07.FitTill" = some 5 by kernel_rfl).symm.trans hf) |>.symm
  obtain rfl : fn = Tryz.f5 := (Option.some.inj (Tryz.func5.symm.trans hfn)).symm
  refine ⟨by kernel_rfl, fun j t ht => ?_⟩
  rw [Tryz.params5] at ht
  have hm := Array.mem_of_getElem? ht
  simp only [List.mem_toArray, List.mem_cons, List.mem_nil_iff, or_false] at hm
  rcases hm with rfl | rfl | rfl | rfl
  · exact (show Tryz.prog.wantsStandIn 33 = false by kernel_rfl)
  · exact (show Tryz.prog.wantsStandIn 36 = false by kernel_rfl)
  · exact (show Tryz.prog.wantsStandIn 48 = false by kernel_rfl)
  · exact (show Tryz.prog.wantsStandIn 3 = false by kernel_rfl)
theorem FitTill_proved : Rows.FitTillUptoCardSaid :=
  Claim7.holds_tied_plain_at .later [] _ _ _ _ FitTill_over (fun _ h => by cases h) (by kernel_rfl) (fun _ h => by cases h) fitTillUpto_row_tie rfl ⟨rfl, rfl⟩ (by kernel_rfl) rfl FitTill_plain (by kernel_rfl)
end Go.Proofs.YtcnbcblihepbmaaGreatDoor
