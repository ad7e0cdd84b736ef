/- Laws of package fit: the example; more wanted, more used. -/
import Derived.Test.YtcnbcblihepbmaaDoorFM
import Derived.Test.YtcnbcblihepbmaaDoorB
import Derived.Test.YtcnbcblihepbmaaDoorBKL
set_option autoImplicit false
set_option linter.unusedVariables false
set_option linter.unusedSimpArgs false
namespace Go.Proofs.YtcnbcblihepbmaaDoor
open Go Go.RowKit
section
variable {P : Program} {fn : Func} {K : Value → St → Prop} {a : Act} {s s' : St}
theorem end_cell2 {t u : Tmp} {ty tz : TypeId} {n m : Nat} {z y : Value} [TyV P ty true n z] [TyV P tz true m y] {bl bm : Nat} {c d : Array Value} {e e' : TypeId} {f f' : Nat × Nat} (h : fn.results = #[.cell t ty, .cell u tz]) (hd : a.defers = []) (ht : a.tmps.getD t undef = .pointer (some ⟨bl, 0, none⟩))
    (hb : s.has bl (.cells c e f)) (hn : c.size = n) (hu : a.tmps.getD u undef = .pointer (some ⟨bm, 0, none⟩)) (hm : s.has bm (.cells d e' f')) (hn2 : d.size = m) (g : Gh s s') (hk : K (.tuple #[.agg c, .agg d]) s') : endQ P fn K .ret a s := by
  refine ⟨trivial, hd, s', g, ?_⟩
  have ht' : a.tmps[t]?.getD undef = .pointer (some ⟨bl, 0, none⟩) := by simpa using ht
  have hu' : a.tmps[u]?.getD undef = .pointer (some ⟨bm, 0, none⟩) := by simpa using hu
  simp [results, h, rwp_bind', ht', hu', asAddr, rwp_pure, rwp_map]
  exact rwp_whole (P := P) (t := ty) (z := z) hb hn (K := fun v => rwp P (loadVar tz ⟨bm, 0, none⟩) s (fun w => K (.tuple #[v, w]) s')) (rwp_whole (P := P) (t := tz) (z := y) hm hn2 (K := fun w => K (.tuple #[.agg c, w]) s') hk)
end
def nB : ByteArray := ⟨#[110]⟩
def pB : ByteArray := ⟨#[112]⟩
def eB : ByteArray := ⟨#[]⟩
def wI : Info := ⟨⟨nB, [], [], false, ⟨1000, 0, 0⟩, 2, 0⟩, [], ⟨0, 0, 0⟩, [], []⟩
def wJ : Info := ⟨⟨nB, [], [], true, ⟨1000, 0, 0⟩, 2, 0⟩, [], ⟨0, 0, 0⟩, [], []⟩
def wP : Pod := { (default : Pod) with Name := pB, Node := eB, Hope := eB, Want := ⟨600, 0, 0⟩ }
theorem wI_ok : PairOk wP wI := ⟨Nat.zero_le _, (fun x (h : x ∈ ([] : List Label)) => nomatch h : LabOk []), (fun x (h : x ∈ ([] : List Req)) => nomatch h : ReqsOk [])⟩
theorem wJ_ok : PairOk wP wJ := ⟨Nat.zero_le _, (fun x (h : x ∈ ([] : List Label)) => nomatch h : LabOk []), (fun x (h : x ∈ ([] : List Req)) => nomatch h : ReqsOk [])⟩
theorem w_1 : whyFirst wP wI = 0 := by decide +kernel
theorem w_2 : roomOf wP wI 9 = 1 := by decide +kernel
theorem w_3 : whyFirst wP wJ = 1 := by decide +kernel
section
attribute [local irreducible] Quiet OpsR Run CallS opS Gh endQ oblE RunN swp Go.Op.equalIn matchOf isKept keptOf clashOf whyOf whysL whyFirst roomOf allOf
theorem room_spec {s : St} : CallV Tryd.prog 13 #[] s (.tuple #[.agg #[.string nB, .slice none 0 0, .slice none 0 0, .bool false, .int .i64 1000, .int .i64 0, .int .i64 0, .int .i64 2, .int .i64 0, .slice none 0 0, .int .i64 0, .int .i64 0, .int .i64 0, .slice none 0 0, .slice none 0 0],
    .agg #[.string pB, .int .i64 0, .slice none 0 0, .int .i64 600, .int .i64 0, .int .i64 0, .slice none 0 0, .slice none 0 0, .slice none 0 0, .slice none 0 0, .slice none 0 0, .slice none 0 0, .slice none 0 0, .slice none 0 0, .string eB, .string eB]]) := by
  intro K hK
  refine callS_of_run Tryd.func13 rfl ?_; simp only [Tryd.ntmps13, List.size_toArray, List.length_cons, List.length_nil, Nat.reduceAdd, Nat.reduceSub, Array.replicate_succ, Array.replicate_zero, List.push_toArray, List.append_toArray, List.nil_append, List.cons_append]
  refine run_seq fun _ hk1 => ?_
  refine run_region ?_
  refine opsR_o rfl (o_alloc fun b2 hb2 => ?_)
  simp only [nrm, Nat.reduceAdd, Nat.reduceMul, Nat.reduceSub, Int.reduceToNat, Int.reduceAdd]
  refine opsR_o rfl (o_alloc fun b3 hb3 => ?_)
  simp only [nrm, Nat.reduceAdd, Nat.reduceMul, Nat.reduceSub, Int.reduceToNat, Int.reduceAdd]
  refine opsR_nil ?_
  refine hk1 _ _ ?_
  clear hk1
  refine run_seq fun _ hk4 => ?_
  refine run_region ?_
  refine opsR_q rfl (q_build rfl) ?_
  simp only [nrm, Nat.reduceAdd, Nat.reduceMul, Nat.reduceSub, Int.reduceToNat, Int.reduceAdd]
  refine opsR_q rfl (q_build rfl) ?_
  simp only [nrm, Nat.reduceAdd, Nat.reduceMul, Nat.reduceSub, Int.reduceToNat, Int.reduceAdd]
  refine opsR_q rfl (q_build rfl) ?_
  simp only [nrm, Nat.reduceAdd, Nat.reduceMul, Nat.reduceSub, Int.reduceToNat, Int.reduceAdd]
  refine opsR_q rfl (q_build rfl) ?_
  simp only [nrm, Nat.reduceAdd, Nat.reduceMul, Nat.reduceSub, Int.reduceToNat, Int.reduceAdd]
  refine opsR_q rfl (q_build rfl) ?_
  simp only [nrm, Nat.reduceAdd, Nat.reduceMul, Nat.reduceSub, Int.reduceToNat, Int.reduceAdd]
  refine opsR_o rfl (o_storeB rfl rfl inferInstance (by first | rfl | assumption) (by first | rfl | exact Kd.one _ (by assumption) | assumption) (by first | rfl | (refine Nat.ble_eq_true_of_le ?_; (try simp only [Int.toNat_natCast]); omega)) ?_)
  simp only [nrm, Nat.reduceAdd, Nat.reduceMul, Nat.reduceSub, Int.reduceToNat, Int.reduceAdd]
  refine opsR_o rfl (o_storeB rfl rfl inferInstance (by first | rfl | assumption) (by first | rfl | exact Kd.one _ (by assumption) | assumption) (by first | rfl | (refine Nat.ble_eq_true_of_le ?_; (try simp only [Int.toNat_natCast]); omega)) ?_)
  simp only [nrm, Nat.reduceAdd, Nat.reduceMul, Nat.reduceSub, Int.reduceToNat, Int.reduceAdd]
  refine opsR_nil ?_
  refine hk4 _ _ ?_
  clear hk4
  refine run_ret ?_
  exact end_cell2 rfl rfl rfl (AtB.has inferInstance) (by first | rfl | assumption) rfl (AtB.has inferInstance) (by first | rfl | assumption) ghA hK
theorem works_spec {s : St} (hT : Tabs s.I) : CallV Tryd.prog 5 #[] s (.bool true) := by
  intro K hK
  have hp := kPod.shut (I := s.I) (x := wP) (hLabels := Sl.nil _ _) (hBears := Sl.nil _ _) (hAsks := Sl.nil _ _) (hPrefers := Sl.nil _ _) (hPorts := Sl.nil _ _) (hNear := Sl.nil _ _) (hApart := Sl.nil _ _) (hSpreads := Sl.nil _ _) (hClaims := Sl.nil _ _)
  have hi := kInfo.shut (I := s.I) (x := wI) (hNode_Labels := Sl.nil _ _) (hNode_Taints := Sl.nil _ _) (hNames := Sl.nil _ _) (hPorts := Sl.nil _ _) (hDisks := Sl.nil _ _)
  have hj := kInfo.shut (I := s.I) (x := wJ) (hNode_Labels := Sl.nil _ _) (hNode_Taints := Sl.nil _ _) (hNames := Sl.nil _ _) (hPorts := Sl.nil _ _) (hDisks := Sl.nil _ _)
  refine callS_of_run Tryd.func5 rfl ?_; simp only [Tryd.ntmps5, List.size_toArray, List.length_cons, List.length_nil, Nat.reduceAdd, Nat.reduceSub, Array.replicate_succ, Array.replicate_zero, List.push_toArray, List.append_toArray, List.nil_append, List.cons_append]
  refine run_seq fun _ hk1 => ?_
  refine run_region ?_
  refine opsR_q rfl (q_assign) ?_
  simp only [nrm]
  refine opsR_nil ?_
  refine hk1 _ _ ?_
  clear hk1
  refine run_seq fun _ hk2 => ?_
  refine run_region ?_
  refine opsR_q rfl (q_call rfl (room_spec)) ?_
  simp only [nrm, Nat.reduceAdd, Nat.reduceMul, Nat.reduceSub, Int.reduceToNat, Int.reduceAdd]
  refine opsR_q rfl (q_move) ?_
  simp only [nrm]
  refine opsR_q rfl (q_extract rfl rfl) ?_
  simp only [nrm]
  refine opsR_q rfl (q_extract rfl rfl) ?_
  simp only [nrm]
  refine opsR_o rfl (o_alloc fun b3 hb3 => ?_)
  simp only [nrm, Nat.reduceAdd, Nat.reduceMul, Nat.reduceSub, Int.reduceToNat, Int.reduceAdd]
  refine opsR_o rfl (o_alloc fun b4 hb4 => ?_)
  simp only [nrm, Nat.reduceAdd, Nat.reduceMul, Nat.reduceSub, Int.reduceToNat, Int.reduceAdd]
  refine opsR_o rfl (o_storeB rfl rfl inferInstance (by first | rfl | assumption) (by first | rfl | exact Kd.one _ (by assumption) | assumption) (by first | rfl | (refine Nat.ble_eq_true_of_le ?_; (try simp only [Int.toNat_natCast]); omega)) ?_)
  simp only [nrm, Nat.reduceAdd, Nat.reduceMul, Nat.reduceSub, Int.reduceToNat, Int.reduceAdd]
  refine opsR_o rfl (o_storeB rfl rfl inferInstance (by first | rfl | assumption) (by first | rfl | exact Kd.one _ (by assumption) | assumption) (by first | rfl | (refine Nat.ble_eq_true_of_le ?_; (try simp only [Int.toNat_natCast]); omega)) ?_)
  simp only [nrm, Nat.reduceAdd, Nat.reduceMul, Nat.reduceSub, Int.reduceToNat, Int.reduceAdd]
  refine opsR_nil ?_
  refine hk2 _ _ ?_
  clear hk2
  refine run_seq fun _ hk5 => ?_
  refine run_region ?_
  refine opsR_q rfl (by first | exact q_loadBN rfl inferInstance (by rfl) | exact q_loadBW rfl inferInstance (by assumption)) ?_
  simp only [nrm, Nat.reduceAdd, Nat.reduceMul, Nat.reduceSub, Int.reduceToNat, Int.reduceAdd]
  refine opsR_o rfl (o_alloc fun b7 hb7 => ?_)
  simp only [nrm, Nat.reduceAdd, Nat.reduceMul, Nat.reduceSub, Int.reduceToNat, Int.reduceAdd]
  refine opsR_o rfl (o_storeB rfl rfl inferInstance (by first | rfl | assumption) (by first | rfl | exact Kd.one _ (by assumption) | assumption) (by first | rfl | (refine Nat.ble_eq_true_of_le ?_; (try simp only [Int.toNat_natCast]); omega)) ?_)
  simp only [nrm, Nat.reduceAdd, Nat.reduceMul, Nat.reduceSub, Int.reduceToNat, Int.reduceAdd]
  refine opsR_nil ?_
  refine hk5 _ _ ?_
  clear hk5
  refine run_seq fun _ hk8 => ?_
  refine run_region ?_
  refine opsR_q rfl (q_fieldAddr rfl) ?_
  simp only [nrm, Nat.reduceAdd, Nat.reduceMul, Nat.reduceSub, Int.reduceToNat, Int.reduceAdd]
  refine opsR_q rfl (q_fieldAddr rfl) ?_
  simp only [nrm, Nat.reduceAdd, Nat.reduceMul, Nat.reduceSub, Int.reduceToNat, Int.reduceAdd]
  refine opsR_o rfl (o_storeB rfl rfl inferInstance (by first | rfl | assumption) (by first | rfl | exact Kd.one _ (by assumption) | assumption) (by first | rfl | (refine Nat.ble_eq_true_of_le ?_; (try simp only [Int.toNat_natCast]); omega)) ?_)
  simp only [nrm, Nat.reduceAdd, Nat.reduceMul, Nat.reduceSub, Int.reduceToNat, Int.reduceAdd]
  refine opsR_nil ?_
  refine hk8 _ _ ?_
  clear hk8
  refine run_seq fun _ hk10 => ?_
  refine run_region ?_
  refine opsR_q rfl (by first | exact q_loadBN rfl inferInstance (by rfl) | exact q_loadBW rfl inferInstance (by assumption)) ?_
  simp only [nrm, Nat.reduceAdd, Nat.reduceMul, Nat.reduceSub, Int.reduceToNat, Int.reduceAdd]
  refine opsR_q rfl (by first | exact q_loadBN rfl inferInstance (by rfl) | exact q_loadBW rfl inferInstance (by assumption)) ?_
  simp only [nrm, Nat.reduceAdd, Nat.reduceMul, Nat.reduceSub, Int.reduceToNat, Int.reduceAdd]
  refine opsR_q rfl (q_call rfl (callV_of_S (Check_spec (p := wP) (x := wI) hT hp hi wI_ok))) ?_
  simp only [nrm, Nat.reduceAdd, Nat.reduceMul, Nat.reduceSub, Int.reduceToNat, Int.reduceAdd]
  refine opsR_q rfl (q_eql rfl rfl) ?_
  simp only [nrm, Nat.reduceAdd, Nat.reduceMul, Nat.reduceSub, Int.reduceToNat, Int.reduceAdd]
  refine opsR_qb rfl (q_move) (fun _ => ?_) (fun h => absurd h (by rw [w_1]; decide))
  simp only [nrm, Nat.reduceAdd, Nat.reduceMul, Nat.reduceSub, Int.reduceToNat, Int.reduceAdd]
  refine opsR_q rfl (by first | exact q_loadBN rfl inferInstance (by rfl) | exact q_loadBW rfl inferInstance (by assumption)) ?_
  simp only [nrm, Nat.reduceAdd, Nat.reduceMul, Nat.reduceSub, Int.reduceToNat, Int.reduceAdd]
  refine opsR_q rfl (by first | exact q_loadBN rfl inferInstance (by rfl) | exact q_loadBW rfl inferInstance (by assumption)) ?_
  simp only [nrm, Nat.reduceAdd, Nat.reduceMul, Nat.reduceSub, Int.reduceToNat, Int.reduceAdd]
  refine opsR_q rfl (q_call rfl (Most_spec (p := wP) (x := wI) hT hp hi wI_ok (by decide) (by decide) (by decide))) ?_
  simp only [nrm, Nat.reduceAdd, Nat.reduceMul, Nat.reduceSub, Int.reduceToNat, Int.reduceAdd]
  refine opsR_q rfl (q_eql rfl rfl) ?_
  simp only [nrm, Nat.reduceAdd, Nat.reduceMul, Nat.reduceSub, Int.reduceToNat, Int.reduceAdd]
  refine opsR_q rfl (q_pick_t rfl) ?_
  simp only [nrm]
  refine opsR_qb rfl (q_move) (fun _ => ?_) (fun h => absurd h (by rw [w_2]; decide))
  simp only [nrm, Nat.reduceAdd, Nat.reduceMul, Nat.reduceSub, Int.reduceToNat, Int.reduceAdd]
  refine opsR_q rfl (by first | exact q_loadBN rfl inferInstance (by rfl) | exact q_loadBW rfl inferInstance (by assumption)) ?_
  simp only [nrm, Nat.reduceAdd, Nat.reduceMul, Nat.reduceSub, Int.reduceToNat, Int.reduceAdd]
  refine opsR_q rfl (by first | exact q_loadBN rfl inferInstance (by rfl) | exact q_loadBW rfl inferInstance (by assumption)) ?_
  simp only [nrm, Nat.reduceAdd, Nat.reduceMul, Nat.reduceSub, Int.reduceToNat, Int.reduceAdd]
  refine opsR_q rfl (q_call rfl (callV_of_S (Check_spec (p := wP) (x := wJ) hT hp hj wJ_ok))) ?_
  simp only [nrm, Nat.reduceAdd, Nat.reduceMul, Nat.reduceSub, Int.reduceToNat, Int.reduceAdd]
  refine opsR_q rfl (q_eql rfl rfl) ?_
  simp only [nrm, Nat.reduceAdd, Nat.reduceMul, Nat.reduceSub, Int.reduceToNat, Int.reduceAdd]
  refine opsR_q rfl (q_pick_t rfl) ?_
  simp only [nrm]
  refine opsR_q rfl (q_assign) ?_
  simp only [nrm]
  refine opsR_nil ?_
  refine hk10 _ _ ?_
  clear hk10
  refine run_ret ?_
  first | exact end_tmp rfl rfl rfl ghA hK | exact end_tmp rfl rfl rfl ghA (eqK hK (congrArg Go.Value.bool (by rw [w_3]; rfl)))
theorem taints_bulk (l : List Taint) : l.length + 1 ≤ kTaint.slice.bulk l := bulk_len (k := kTaint) (fun _ => Nat.le_trans (Nat.le_add_left 1 _) (Nat.le_add_right _ _)) l
theorem info_bulk (x : Info) : kTaint.slice.bulk x.Node.Taints ≤ kInfo.bulk x ∧ kLabel.slice.bulk x.Node.Labels ≤ kInfo.bulk x ∧ kStr.slice.bulk x.Names ≤ kInfo.bulk x ∧ (kInt .i64).slice.bulk x.Ports ≤ kInfo.bulk x := by
  simp only [kInfo, kNode, Kd.iso, Kd.pair]; refine ⟨?_, ?_, ?_, ?_⟩ <;> omega
theorem pod_bulk (x : Pod) : kReq.slice.bulk x.Asks ≤ kPod.bulk x ∧ (kInt .i64).slice.bulk x.Ports ≤ kPod.bulk x := by
  simp only [kPod, kRes, Kd.iso, Kd.pair]; constructor <;> omega
theorem pairOk_of {p : Pod} {x : Info} {m : Nat} (h : kPod.bulk p + kInfo.bulk x ≤ m) (hm : m ≤ 1073741824) : PairOk p x := by
  have h1 := info_bulk x
  have h2 := pod_bulk p
  exact ⟨by have := taints_bulk x.Node.Taints; omega, labOk_of (m := m) (by omega) (by omega), reqsOk_of (m := m) (by omega) (by omega)⟩
set_option maxHeartbeats 1000000 in
theorem FitMore_walk (a0 : Pod) (c0 : List Value) (a1 : Info) (c1 : List Value) (a2 : Res) (c2 : List Value) (s : St) (hT : Tabs s.I) (h0 : kPod.rep s.I a0 c0) (ok0 : kPod.ok a0) (h1 : kInfo.rep s.I a1 c1) (ok1 : kInfo.ok a1) (h2 : kRes.rep s.I a2 c2) (ok2 : kRes.ok a2)
    (hb : kPod.bulk a0 + kInfo.bulk a1 + kRes.bulk a2 ≤ 1048576) : CallS Tryd.prog 3 #[.agg c0.toArray, .agg c1.toArray, .agg c2.toArray] s (fun v s' => v = .bool true ∧ Hp.le s.I s'.I) := by
  have hok : PairOk a0 a1 := pairOk_of (m := 1048576) (by omega) (by omega)
  have hm1 : ∀ n ∈ allOf a0 a1, n ∈ allOf { a0 with Want := Res.plus a0.Want a2 } a1 := fun n hn => by obtain ⟨k, h1, h2, h3⟩ := mem_all.1 hn; exact mem_all.2 ⟨k, h1, why_want h2, h3⟩
  have hm2 : ∀ n ∈ allOf a0 a1, n ∈ allOf a0 { a1 with Used := Res.plus a1.Used a2 } := fun n hn => by obtain ⟨k, h1, h2, h3⟩ := mem_all.1 hn; exact mem_all.2 ⟨k, h1, why_used h2, h3⟩
  have hal : (allOf a0 a1).length ≤ 8 := by unfold allOf; exact allN_len a0 a1 8
  have h0' := h0
  have h1' := h1
  obtain ⟨p1, p2, p3, p4, p5, p6, p7, p8, p9, rfl, g1, g2, g3, g4, g5, g6, g7, g8, g9⟩ := kPod.open h0
  obtain ⟨q1, q2, q3, q4, q5, rfl, k1, k2, k3, k4, k5⟩ := kInfo.open h1
  obtain rfl := kRes.open h2
  have hpq := kPod.shut (I := s.I) (x := { a0 with Want := Res.plus a0.Want a2 }) (hLabels := g1) (hBears := g2) (hAsks := g3) (hPrefers := g4) (hPorts := g5) (hNear := g6) (hApart := g7) (hSpreads := g8) (hClaims := g9)
  have hij := kInfo.shut (I := s.I) (x := { a1 with Used := Res.plus a1.Used a2 }) (hNode_Labels := k1) (hNode_Taints := k2) (hNames := k3) (hPorts := k4) (hDisks := k5)
  refine callS_of_run Tryd.func3 rfl ?_; simp only [Tryd.ntmps3, List.size_toArray, List.length_cons, List.length_nil, Nat.reduceAdd, Nat.reduceSub, Array.replicate_succ, Array.replicate_zero, List.push_toArray, List.append_toArray, List.nil_append, List.cons_append]
  refine run_seq fun _ hk1 => ?_
  refine run_region ?_
  refine opsR_o rfl (o_box fun bP hbP => ?_)
  simp only [nrm, Nat.reduceAdd, Nat.reduceMul, Nat.reduceSub, Int.reduceToNat, Int.reduceAdd]
  refine opsR_o rfl (o_box fun bX hbX => ?_)
  simp only [nrm, Nat.reduceAdd, Nat.reduceMul, Nat.reduceSub, Int.reduceToNat, Int.reduceAdd]
  refine opsR_o rfl (o_box fun bM hbM => ?_)
  simp only [nrm, Nat.reduceAdd, Nat.reduceMul, Nat.reduceSub, Int.reduceToNat, Int.reduceAdd]
  refine opsR_q rfl (q_assign) ?_
  simp only [nrm]
  refine opsR_nil ?_
  refine hk1 _ _ ?_
  clear hk1
  refine run_seq fun _ hk5 => ?_
  refine run_seq fun _ hk6 => ?_
  refine run_region ?_
  refine opsR_q rfl (q_call rfl (works_spec (hT.mono (by exact leA)))) ?_
  simp only [nrm, Nat.reduceAdd, Nat.reduceMul, Nat.reduceSub, Int.reduceToNat, Int.reduceAdd]
  refine opsR_q rfl (q_not rfl) ?_
  simp only [nrm]
  refine opsR_nil ?_
  refine hk6 _ _ ?_
  clear hk6
  refine run_cond (t := false) rfl (fun h => by cases h) (fun _ => ?_)
  refine run_skip ?_
  refine hk5 _ _ ?_
  clear hk5
  refine run_seq fun _ hk7 => ?_
  refine run_mixL mixed [true, true, false, false, false, false] [false, false, false, false, false, false] [2, 3, 4, 5] (KeepS _) (by kernel_rfl) rfl KeepS.refl ?_
  refine oblK_k rfl (fun z hz => by have hI := hz.1; first | exact q_loadN rfl (hz.has inferInstance) (Nat.le_of_ble_eq_true rfl) | exact q_loadBN rfl inferInstance (by rfl) | exact q_loadBW rfl inferInstance (by assumption)) ?_
  simp only [nrm, Nat.reduceAdd, Nat.reduceMul, Nat.reduceSub, Int.reduceToNat, Int.reduceAdd]
  refine oblK_k rfl (fun z hz => by have hI := hz.1; first | exact q_loadN rfl (hz.has inferInstance) (Nat.le_of_ble_eq_true rfl) | exact q_loadBN rfl inferInstance (by rfl) | exact q_loadBW rfl inferInstance (by assumption)) ?_
  simp only [nrm, Nat.reduceAdd, Nat.reduceMul, Nat.reduceSub, Int.reduceToNat, Int.reduceAdd]
  refine oblK_r ?_
  refine oblK_r ?_
  refine oblK_r ?_
  refine oblK_r ?_
  refine oblK_nil ?_
  refine restK_pick [2, 3] (by kernel_rfl) ⟨?_, ?_, trivial⟩
  · skip
    refine restK_op rfl ?_
    simp only [List.getElem_toArray, List.getElem_cons_zero, List.getElem_cons_succ]
    refine opsR_o rfl (o_alloc fun bQ hbQ => ?_)
    simp only [nrm, Nat.reduceAdd, Nat.reduceMul, Nat.reduceSub, Int.reduceToNat, Int.reduceAdd]
    refine opsR_nil ⟨rfl, rfl, ⟨by exact leA, by intro p hp; simp only [List.mem_cons, List.mem_append, hp, or_true, true_or]⟩, ?_⟩
    refine restK_pick [3] (by kernel_rfl) ⟨?_, trivial⟩
    refine restK_op rfl ?_
    simp only [List.getElem_toArray, List.getElem_cons_zero, List.getElem_cons_succ]
    refine opsR_o rfl (o_alloc fun bJ hbJ => ?_)
    simp only [nrm, Nat.reduceAdd, Nat.reduceMul, Nat.reduceSub, Int.reduceToNat, Int.reduceAdd]
    refine opsR_nil ⟨rfl, rfl, ⟨by exact leA, by intro p hp; simp only [List.mem_cons, List.mem_append, hp, or_true, true_or]⟩, ?_⟩
    refine restK_pick [4] (by kernel_rfl) ⟨?_, trivial⟩
    refine restK_op rfl ?_
    simp only [List.getElem_toArray, List.getElem_cons_zero, List.getElem_cons_succ]
    refine opsR_o rfl (o_storeB rfl rfl inferInstance (by first | rfl | assumption) (by first | rfl | exact Kd.one _ (by assumption) | assumption) (by first | rfl | (refine Nat.ble_eq_true_of_le ?_; (try simp only [Int.toNat_natCast]); omega)) ?_)
    simp only [nrm, Nat.reduceAdd, Nat.reduceMul, Nat.reduceSub, Int.reduceToNat, Int.reduceAdd]
    refine opsR_nil ⟨rfl, rfl, ⟨by exact leA, by intro p hp; simp only [List.mem_cons, List.mem_append, hp, or_true, true_or]⟩, ?_⟩
    refine restK_pick [5] (by kernel_rfl) ⟨?_, trivial⟩
    refine restK_op rfl ?_
    simp only [List.getElem_toArray, List.getElem_cons_zero, List.getElem_cons_succ]
    refine opsR_o rfl (o_storeB rfl rfl inferInstance (by first | rfl | assumption) (by first | rfl | exact Kd.one _ (by assumption) | assumption) (by first | rfl | (refine Nat.ble_eq_true_of_le ?_; (try simp only [Int.toNat_natCast]); omega)) ?_)
    simp only [nrm, Nat.reduceAdd, Nat.reduceMul, Nat.reduceSub, Int.reduceToNat, Int.reduceAdd]
    refine opsR_nil ⟨rfl, rfl, ⟨by exact leA, by intro p hp; simp only [List.mem_cons, List.mem_append, hp, or_true, true_or]⟩, ?_⟩
    refine restK_end rfl ?_
    try simp only [nrm, Nat.reduceAdd, Nat.reduceMul, Nat.reduceSub, Int.reduceToNat, Int.reduceAdd]
    refine hk7 _ _ ?_
    clear hk7
    refine run_seq fun _ hk10 => ?_
    first | (show Run _ _ _ _ ⟨_, (bJ, _) :: _⟩; skip) | refine run_gh (Gh.perm (List.Perm.swap _ _ _)) ?_
    refine run_region ?_
    refine opsR_q rfl (q_fieldAddr rfl) ?_
    simp only [nrm, Nat.reduceAdd, Nat.reduceMul, Nat.reduceSub, Int.reduceToNat, Int.reduceAdd]
    refine opsR_q rfl (by first | exact q_loadBN rfl inferInstance (by rfl) | exact q_loadBW rfl inferInstance (by assumption)) ?_
    simp only [nrm, Nat.reduceAdd, Nat.reduceMul, Nat.reduceSub, Int.reduceToNat, Int.reduceAdd]
    refine opsR_q rfl (by first | exact q_loadBN rfl inferInstance (by rfl) | exact q_loadBW rfl inferInstance (by assumption)) ?_
    simp only [nrm, Nat.reduceAdd, Nat.reduceMul, Nat.reduceSub, Int.reduceToNat, Int.reduceAdd]
    refine opsR_q rfl (q_call rfl (Plus_spec _ _ _ _ _ _ _)) ?_
    simp only [nrm, Nat.reduceAdd, Nat.reduceMul, Nat.reduceSub, Int.reduceToNat, Int.reduceAdd]
    refine opsR_q rfl (q_fieldAddr rfl) ?_
    simp only [nrm, Nat.reduceAdd, Nat.reduceMul, Nat.reduceSub, Int.reduceToNat, Int.reduceAdd]
    refine opsR_o rfl (o_storeB rfl rfl inferInstance (by first | rfl | assumption) (by first | rfl | exact Kd.one _ (by assumption) | assumption) (by first | rfl | (refine Nat.ble_eq_true_of_le ?_; (try simp only [Int.toNat_natCast]); omega)) ?_)
    simp only [nrm, Nat.reduceAdd, Nat.reduceMul, Nat.reduceSub, Int.reduceToNat, Int.reduceAdd]
    refine opsR_nil ?_
    refine hk10 _ _ ?_
    clear hk10
    refine run_seq fun _ hk14 => ?_
    refine run_region ?_
    refine opsR_q rfl (q_fieldAddr rfl) ?_
    simp only [nrm, Nat.reduceAdd, Nat.reduceMul, Nat.reduceSub, Int.reduceToNat, Int.reduceAdd]
    refine opsR_q rfl (by first | exact q_loadBN rfl inferInstance (by rfl) | exact q_loadBW rfl inferInstance (by assumption)) ?_
    simp only [nrm, Nat.reduceAdd, Nat.reduceMul, Nat.reduceSub, Int.reduceToNat, Int.reduceAdd]
    refine opsR_q rfl (by first | exact q_loadBN rfl inferInstance (by rfl) | exact q_loadBW rfl inferInstance (by assumption)) ?_
    simp only [nrm, Nat.reduceAdd, Nat.reduceMul, Nat.reduceSub, Int.reduceToNat, Int.reduceAdd]
    refine opsR_q rfl (q_call rfl (Plus_spec _ _ _ _ _ _ _)) ?_
    simp only [nrm, Nat.reduceAdd, Nat.reduceMul, Nat.reduceSub, Int.reduceToNat, Int.reduceAdd]
    refine opsR_q rfl (q_fieldAddr rfl) ?_
    simp only [nrm, Nat.reduceAdd, Nat.reduceMul, Nat.reduceSub, Int.reduceToNat, Int.reduceAdd]
    refine opsR_o rfl (o_storeB rfl rfl inferInstance (by first | rfl | assumption) (by first | rfl | exact Kd.one _ (by assumption) | assumption) (by first | rfl | (refine Nat.ble_eq_true_of_le ?_; (try simp only [Int.toNat_natCast]); omega)) ?_)
    simp only [nrm, Nat.reduceAdd, Nat.reduceMul, Nat.reduceSub, Int.reduceToNat, Int.reduceAdd]
    refine opsR_nil ?_
    refine hk14 _ _ ?_
    clear hk14
    refine run_seq fun _ hk17 => ?_
    refine run_drawW mixed 8 [0, 0, 3, 0, 0, 31, 0, 0, 255, 511, 1023, 2047] (by kernel_rfl) rfl [none, none, some ⟨fun v I => Sl (kInt .i64) I v (allOf a0 a1), fun _ _ _ h1 h2 => Sl.mono h1 h2⟩, none, none, some ⟨fun v I => Sl (kInt .i64) I v (allOf { a0 with Want := Res.plus a0.Want a2 } a1), fun _ _ _ h1 h2 => Sl.mono h1 h2⟩, none, none] ?_
    simp only [List.take_succ_cons, List.take_zero, List.drop_succ_cons, List.drop_zero, List.drop_nil, List.take_nil, chooseL]
    apply Exists.intro
    apply Exists.intro
    apply Exists.intro
    apply Exists.intro
    apply Exists.intro
    apply Exists.intro
    refine obl_q rfl rfl (fun I hI hd => (by first | exact q_loadBN rfl inferInstance (by rfl) | exact q_loadBW rfl inferInstance (by assumption))) ?_
    simp only [nrm, Nat.reduceAdd, Nat.reduceMul, Nat.reduceSub, Int.reduceToNat, Int.reduceAdd]
    refine obl_q rfl rfl (fun I hI hd => (by first | exact q_loadBN rfl inferInstance (by rfl) | exact q_loadBW rfl inferInstance (by assumption))) ?_
    simp only [nrm, Nat.reduceAdd, Nat.reduceMul, Nat.reduceSub, Int.reduceToNat, Int.reduceAdd]
    refine obl_ex rfl rfl (fun I hI hd K hK => o_call rfl (All_spec (p := a0) (x := a1) (hT.mono (by exact leA)) (Kd.mono _ (by exact leA) h0') (Kd.mono _ (by exact leA) h1') hok K hK)) fun v18 => ?_
    simp only [nrm, Nat.reduceAdd, Nat.reduceMul, Nat.reduceSub, Int.reduceToNat, Int.reduceAdd]
    refine obl_q rfl rfl (fun I hI hd => (by first | exact q_loadBN rfl inferInstance (by rfl) | exact q_loadBW rfl inferInstance (by assumption))) ?_
    simp only [nrm, Nat.reduceAdd, Nat.reduceMul, Nat.reduceSub, Int.reduceToNat, Int.reduceAdd]
    refine obl_q rfl rfl (fun I hI hd => (by first | exact q_loadBN rfl inferInstance (by rfl) | exact q_loadBW rfl inferInstance (by assumption))) ?_
    simp only [nrm, Nat.reduceAdd, Nat.reduceMul, Nat.reduceSub, Int.reduceToNat, Int.reduceAdd]
    refine obl_ex rfl rfl (fun I hI hd K hK => o_call rfl (All_spec (p := { a0 with Want := Res.plus a0.Want a2 }) (x := a1) (hT.mono (by exact leA)) (Kd.mono _ (by exact leA) hpq) (Kd.mono _ (by exact leA) h1') hok K hK)) fun v19 => ?_
    simp only [nrm, Nat.reduceAdd, Nat.reduceMul, Nat.reduceSub, Int.reduceToNat, Int.reduceAdd]
    refine obl_q rfl rfl (fun I hI hd => (by first | exact q_loadBN rfl inferInstance (by rfl) | exact q_loadBW rfl inferInstance (by assumption))) ?_
    simp only [nrm, Nat.reduceAdd, Nat.reduceMul, Nat.reduceSub, Int.reduceToNat, Int.reduceAdd]
    refine obl_q rfl rfl (fun I hI hd => (by first | exact q_loadBN rfl inferInstance (by rfl) | exact q_loadBW rfl inferInstance (by assumption))) ?_
    simp only [nrm, Nat.reduceAdd, Nat.reduceMul, Nat.reduceSub, Int.reduceToNat, Int.reduceAdd]
    refine obl_nil (fun I20 hI20 hF20 => ?_)
    simp only [true_and, and_true] at hF20
    obtain ⟨hA, hB⟩ := hF20
    try simp only [nrm, Nat.reduceAdd, Nat.reduceMul, Nat.reduceSub, Int.reduceToNat, Int.reduceAdd]
    refine opsR_o rfl (o_call rfl (All_spec (p := a0) (x := { a1 with Used := Res.plus a1.Used a2 }) (hT.mono (by exact leA)) (Kd.mono _ (by exact leA) h0') (Kd.mono _ (by exact leA) hij) hok _ fun vL JL hJL hvL => ?_))
    try dsimp only at hJL hvL
    try (have hrL : Hp.le s.I JL := leA; have hJL := hJL)
    simp only [nrm, Nat.reduceAdd, Nat.reduceMul, Nat.reduceSub, Int.reduceToNat, Int.reduceAdd]
    refine opsR_q rfl (q_assign) ?_
    simp only [nrm]
    refine opsR_q rfl (q_assign) ?_
    simp only [nrm]
    refine opsR_q rfl (q_assign) ?_
    simp only [nrm]
    refine opsR_nil ?_
    refine hk17 _ _ ?_
    clear hk17
    refine run_seq fun _ hk25 => ?_
    refine run_seq fun _ hk26 => ?_
    refine run_region ?_
    refine opsR_q rfl (q_assign) ?_
    simp only [nrm]
    refine opsR_nil ?_
    refine hk26 _ _ ?_
    clear hk26
    refine run_block ?_
    refine run_loopF [0, 0, 0, 0, 0, 0, 1, 0, 0, 0, 0, 0, 2, 0, 0, 0, 0, 0, 0, 0, 0, 0, 0, 0, 0, 0, 0, 0, 0, 0, 0, 0, 0, 0, 0, 0, 1, 1, 1, 1, 1, 1, 1, 1, 1, 1, 1, 1, 1, 1, 1, 1, 1, 1, 1, 1, 1, 1] (fun zn zL zst => ∃ (i : Nat), zL = [.int .i64 (i : Nat)] ∧ ⟨JL, (bJ, .cells #[.string a1.Node.Name, q1, q2, .bool a1.Node.Off, .int .i64 a1.Node.Give.CPU, .int .i64 a1.Node.Give.Mem, .int .i64 a1.Node.Give.Disk, .int .i64 a1.Node.Pods, .int .i64 a1.Node.Disks, q3, .int .i64 (Q.add a1.Used.CPU a2.CPU), .int .i64 (Q.add a1.Used.Mem a2.Mem), .int .i64 (Q.add a1.Used.Disk a2.Disk), q4, q5] 38 (0, 0)) :: (bQ, .cells #[.string a0.Name, .int .i64 a0.Priority, p1, .int .i64 (Q.add a0.Want.CPU a2.CPU), .int .i64 (Q.add a0.Want.Mem a2.Mem), .int .i64 (Q.add a0.Want.Disk a2.Disk), p2, p3, p4, p5, p6, p7, p8, p9, .string a0.Node, .string a0.Hope] 33 (0, 0)) :: (bM, .cells #[.int .i64 a2.CPU, .int .i64 a2.Mem, .int .i64 a2.Disk] 24 (0, 0)) :: (bX, .cells #[.string a1.Node.Name, q1, q2, .bool a1.Node.Off, .int .i64 a1.Node.Give.CPU, .int .i64 a1.Node.Give.Mem, .int .i64 a1.Node.Give.Disk, .int .i64 a1.Node.Pods, .int .i64 a1.Node.Disks, q3, .int .i64 a1.Used.CPU, .int .i64 a1.Used.Mem, .int .i64 a1.Used.Disk, q4, q5] 38 (0, 0)) :: (bP, .cells #[.string a0.Name, .int .i64 a0.Priority, p1, .int .i64 a0.Want.CPU, .int .i64 a0.Want.Mem, .int .i64 a0.Want.Disk, p2, p3, p4, p5, p6, p7, p8, p9, .string a0.Node, .string a0.Hope] 33 (0, 0)) :: s.cs⟩ = zst ∧ zn = (allOf a0 a1).length - i ∧ (i ≤ (allOf a0 a1).length)) _ _ ⟨0, rfl, rfl, rfl, by first | assumption | omega | exact Hp.le.rfl | rfl | exact all_zero | exact all_succ (by assumption) (by assumption) | (intro _; omega) | (simp; done)⟩ rfl ?_
    rintro _ _ _ jv27 ⟨i, rfl, rfl, rfl, hi⟩ K27 hkl27
    simp only [fr, Nat.zero_add, Nat.reduceAdd]
    refine run_seq fun _ hk28 => ?_
    refine run_seq fun _ hk29 => ?_
    refine run_region ?_
    refine opsR_q rfl (q_move) ?_
    simp only [nrm]
    refine opsR_q rfl (q_move) ?_
    simp only [nrm]
    refine opsR_q rfl (q_len_v rfl (by first | exact Sl.len (by assumption) | exact OwnS.len (by assumption) | exact SlR.len (by assumption) | assumption)) ?_
    simp only [nrm, Nat.reduceAdd, Nat.reduceMul, Nat.reduceSub, Int.reduceToNat, Int.reduceAdd]
    refine opsR_q rfl (q_lss rfl rfl) ?_
    simp only [nrm, Nat.reduceAdd, Nat.reduceMul, Nat.reduceSub, Int.reduceToNat, Int.reduceAdd]
    refine opsR_nil ?_
    refine hk29 _ _ ?_
    clear hk29
    refine run_cond rfl (fun ho32 => ?_) (fun ho32 => ?_)
    · have hc32 := ho32; try simp only [spl] at hc32
      refine run_skip ?_
      refine hk28 _ _ ?_
      clear hk28
      refine run_seq fun _ hk33 => ?_
      refine run_block ?_
      refine run_seq fun _ hk34 => ?_
      have hx1 := hm1 _ (mem_get! (i := i) (by omega))
      have hx2 := hm2 _ (mem_get! (i := i) (by omega))
      refine run_region ?_
      refine opsR_q rfl (q_move) ?_
      simp only [nrm]
      refine opsR_q rfl (q_move) ?_
      simp only [nrm]
      refine opsR_q rfl (q_move) ?_
      simp only [nrm]
      refine opsR_index rfl rfl rfl slrA (by rfl) idxA idxA fun b36 o36 cs36 ha36 hr36 he36 => ?_
      simp only [nrm, Nat.reduceAdd, Nat.reduceMul, Nat.reduceSub, Int.reduceToNat, Int.reduceAdd]
      try simp only [Int.toNat_natCast, Int.reduceToNat, Int.toNat_zero] at hr36
      try simp only [Int.toNat_natCast, Int.reduceToNat, Int.toNat_zero] at he36
      clear ha36
      obtain rfl := hr36
      refine opsR_q rfl (by first | exact q_load_at1 (i := 0) rfl (by first | assumption | exact El.mono (by assumption) leA) rfl (Nat.le_of_ble_eq_true rfl) rfl | exact q_load_at1 rfl (by first | assumption | exact El.mono (by assumption) leA) rfl (Nat.le_of_ble_eq_true rfl) rfl) ?_
      simp only [nrm, Nat.reduceAdd, Nat.reduceMul, Nat.reduceSub, Int.reduceToNat, Int.reduceAdd]
      refine opsR_q rfl (q_call rfl (HasInt_spec _ _ _ _ (by first | assumption | (refine Sl.mono ?_ (by assumption); exact leA)))) ?_
      simp only [nrm, Nat.reduceAdd, Nat.reduceMul, Nat.reduceSub, Int.reduceToNat, Int.reduceAdd]
      refine opsR_q rfl (q_not rfl) ?_
      simp only [nrm]
      refine opsR_qb rfl (q_move) (fun h => absurd h (by rw [decide_eq_true hx1]; decide)) (fun _ => ?_)
      simp only [nrm, Nat.reduceAdd, Nat.reduceMul, Nat.reduceSub, Int.reduceToNat, Int.reduceAdd]
      refine opsR_q rfl (q_move) ?_
      simp only [nrm]
      refine opsR_q rfl (q_move) ?_
      simp only [nrm]
      refine opsR_q rfl (q_move) ?_
      simp only [nrm]
      refine opsR_index rfl rfl rfl slrA (by rfl) idxA idxA fun b38 o38 cs38 ha38 hr38 he38 => ?_
      simp only [nrm, Nat.reduceAdd, Nat.reduceMul, Nat.reduceSub, Int.reduceToNat, Int.reduceAdd]
      try simp only [Int.toNat_natCast, Int.reduceToNat, Int.toNat_zero] at hr38
      try simp only [Int.toNat_natCast, Int.reduceToNat, Int.toNat_zero] at he38
      clear ha38
      obtain rfl := hr38
      refine opsR_q rfl (by first | exact q_load_at1 (i := 0) rfl (by first | assumption | exact El.mono (by assumption) leA) rfl (Nat.le_of_ble_eq_true rfl) rfl | exact q_load_at1 rfl (by first | assumption | exact El.mono (by assumption) leA) rfl (Nat.le_of_ble_eq_true rfl) rfl) ?_
      simp only [nrm, Nat.reduceAdd, Nat.reduceMul, Nat.reduceSub, Int.reduceToNat, Int.reduceAdd]
      refine opsR_q rfl (q_call rfl (HasInt_spec _ _ _ _ (by first | assumption | (refine Sl.mono ?_ (by assumption); exact leA)))) ?_
      simp only [nrm, Nat.reduceAdd, Nat.reduceMul, Nat.reduceSub, Int.reduceToNat, Int.reduceAdd]
      refine opsR_q rfl (q_not rfl) ?_
      simp only [nrm]
      refine opsR_q rfl (q_pick_f rfl) ?_
      simp only [nrm]
      refine opsR_nil ?_
      refine hk34 _ _ ?_
      clear hk34
      refine run_cond rfl (fun ho39 => ?_) (fun ho39 => ?_)
      · have hc39 := ho39; try simp only [spl] at hc39
        refine run_seq fun _ hk40 => ?_
        exact absurd hx2 hc39
      · have hc39 := ho39; try simp only [spl] at hc39
        refine run_skip ?_
        refine hk33 _ _ ?_
        clear hk33
        refine run_region ?_
        refine opsR_q rfl (q_move) ?_
        simp only [nrm]
        refine opsR_q rfl (by first | exact q_add64 rfl rfl (by omega) (by omega) | exact q_add rfl rfl) ?_
        simp only [nrm, Nat.reduceAdd, Nat.reduceMul, Nat.reduceSub, Int.reduceToNat, Int.reduceAdd]
        refine opsR_q rfl (q_assign) ?_
        simp only [nrm]
        refine opsR_nil ?_
        first
        | exact hkl27 _ _ _ _ (by omega) ⟨i + 1, rfl, rfl, rfl, by first | assumption | omega | exact Hp.le.rfl | rfl | exact all_zero | exact all_succ (by assumption) (by assumption) | (intro _; omega) | (simp; done)⟩ rfl
    · have hc32 := ho32; try simp only [spl] at hc32
      refine run_exit ?_
      refine hk25 _ _ ?_
      clear hk25
      refine run_seq fun _ hk41 => ?_
      refine run_region ?_
      refine opsR_q rfl (q_assign) ?_
      simp only [nrm]
      refine opsR_nil ?_
      refine hk41 _ _ ?_
      clear hk41
      refine run_ret ?_
      exact end_tmp rfl rfl rfl (by exact ghA) ⟨rfl, by exact leA⟩
  · skip
    refine restK_op rfl ?_
    simp only [List.getElem_toArray, List.getElem_cons_zero, List.getElem_cons_succ]
    refine opsR_o rfl (o_alloc fun bJ hbJ => ?_)
    simp only [nrm, Nat.reduceAdd, Nat.reduceMul, Nat.reduceSub, Int.reduceToNat, Int.reduceAdd]
    refine opsR_nil ⟨rfl, rfl, ⟨by exact leA, by intro p hp; simp only [List.mem_cons, List.mem_append, hp, or_true, true_or]⟩, ?_⟩
    refine restK_pick [2] (by kernel_rfl) ⟨?_, trivial⟩
    refine restK_op rfl ?_
    simp only [List.getElem_toArray, List.getElem_cons_zero, List.getElem_cons_succ]
    refine opsR_o rfl (o_alloc fun bQ hbQ => ?_)
    simp only [nrm, Nat.reduceAdd, Nat.reduceMul, Nat.reduceSub, Int.reduceToNat, Int.reduceAdd]
    refine opsR_nil ⟨rfl, rfl, ⟨by exact leA, by intro p hp; simp only [List.mem_cons, List.mem_append, hp, or_true, true_or]⟩, ?_⟩
    refine restK_pick [4] (by kernel_rfl) ⟨?_, trivial⟩
    refine restK_op rfl ?_
    simp only [List.getElem_toArray, List.getElem_cons_zero, List.getElem_cons_succ]
    refine opsR_o rfl (o_storeB rfl rfl inferInstance (by first | rfl | assumption) (by first | rfl | exact Kd.one _ (by assumption) | assumption) (by first | rfl | (refine Nat.ble_eq_true_of_le ?_; (try simp only [Int.toNat_natCast]); omega)) ?_)
    simp only [nrm, Nat.reduceAdd, Nat.reduceMul, Nat.reduceSub, Int.reduceToNat, Int.reduceAdd]
    refine opsR_nil ⟨rfl, rfl, ⟨by exact leA, by intro p hp; simp only [List.mem_cons, List.mem_append, hp, or_true, true_or]⟩, ?_⟩
    refine restK_pick [5] (by kernel_rfl) ⟨?_, trivial⟩
    refine restK_op rfl ?_
    simp only [List.getElem_toArray, List.getElem_cons_zero, List.getElem_cons_succ]
    refine opsR_o rfl (o_storeB rfl rfl inferInstance (by first | rfl | assumption) (by first | rfl | exact Kd.one _ (by assumption) | assumption) (by first | rfl | (refine Nat.ble_eq_true_of_le ?_; (try simp only [Int.toNat_natCast]); omega)) ?_)
    simp only [nrm, Nat.reduceAdd, Nat.reduceMul, Nat.reduceSub, Int.reduceToNat, Int.reduceAdd]
    refine opsR_nil ⟨rfl, rfl, ⟨by exact leA, by intro p hp; simp only [List.mem_cons, List.mem_append, hp, or_true, true_or]⟩, ?_⟩
    refine restK_end rfl ?_
    try simp only [nrm, Nat.reduceAdd, Nat.reduceMul, Nat.reduceSub, Int.reduceToNat, Int.reduceAdd]
    refine hk7 _ _ ?_
    clear hk7
    refine run_seq fun _ hk44 => ?_
    first | (show Run _ _ _ _ ⟨_, (bJ, _) :: _⟩; skip) | refine run_gh (Gh.perm (List.Perm.swap _ _ _)) ?_
    refine run_region ?_
    refine opsR_q rfl (q_fieldAddr rfl) ?_
    simp only [nrm, Nat.reduceAdd, Nat.reduceMul, Nat.reduceSub, Int.reduceToNat, Int.reduceAdd]
    refine opsR_q rfl (by first | exact q_loadBN rfl inferInstance (by rfl) | exact q_loadBW rfl inferInstance (by assumption)) ?_
    simp only [nrm, Nat.reduceAdd, Nat.reduceMul, Nat.reduceSub, Int.reduceToNat, Int.reduceAdd]
    refine opsR_q rfl (by first | exact q_loadBN rfl inferInstance (by rfl) | exact q_loadBW rfl inferInstance (by assumption)) ?_
    simp only [nrm, Nat.reduceAdd, Nat.reduceMul, Nat.reduceSub, Int.reduceToNat, Int.reduceAdd]
    refine opsR_q rfl (q_call rfl (Plus_spec _ _ _ _ _ _ _)) ?_
    simp only [nrm, Nat.reduceAdd, Nat.reduceMul, Nat.reduceSub, Int.reduceToNat, Int.reduceAdd]
    refine opsR_q rfl (q_fieldAddr rfl) ?_
    simp only [nrm, Nat.reduceAdd, Nat.reduceMul, Nat.reduceSub, Int.reduceToNat, Int.reduceAdd]
    refine opsR_o rfl (o_storeB rfl rfl inferInstance (by first | rfl | assumption) (by first | rfl | exact Kd.one _ (by assumption) | assumption) (by first | rfl | (refine Nat.ble_eq_true_of_le ?_; (try simp only [Int.toNat_natCast]); omega)) ?_)
    simp only [nrm, Nat.reduceAdd, Nat.reduceMul, Nat.reduceSub, Int.reduceToNat, Int.reduceAdd]
    refine opsR_nil ?_
    refine hk44 _ _ ?_
    clear hk44
    refine run_seq fun _ hk48 => ?_
    refine run_region ?_
    refine opsR_q rfl (q_fieldAddr rfl) ?_
    simp only [nrm, Nat.reduceAdd, Nat.reduceMul, Nat.reduceSub, Int.reduceToNat, Int.reduceAdd]
    refine opsR_q rfl (by first | exact q_loadBN rfl inferInstance (by rfl) | exact q_loadBW rfl inferInstance (by assumption)) ?_
    simp only [nrm, Nat.reduceAdd, Nat.reduceMul, Nat.reduceSub, Int.reduceToNat, Int.reduceAdd]
    refine opsR_q rfl (by first | exact q_loadBN rfl inferInstance (by rfl) | exact q_loadBW rfl inferInstance (by assumption)) ?_
    simp only [nrm, Nat.reduceAdd, Nat.reduceMul, Nat.reduceSub, Int.reduceToNat, Int.reduceAdd]
    refine opsR_q rfl (q_call rfl (Plus_spec _ _ _ _ _ _ _)) ?_
    simp only [nrm, Nat.reduceAdd, Nat.reduceMul, Nat.reduceSub, Int.reduceToNat, Int.reduceAdd]
    refine opsR_q rfl (q_fieldAddr rfl) ?_
    simp only [nrm, Nat.reduceAdd, Nat.reduceMul, Nat.reduceSub, Int.reduceToNat, Int.reduceAdd]
    refine opsR_o rfl (o_storeB rfl rfl inferInstance (by first | rfl | assumption) (by first | rfl | exact Kd.one _ (by assumption) | assumption) (by first | rfl | (refine Nat.ble_eq_true_of_le ?_; (try simp only [Int.toNat_natCast]); omega)) ?_)
    simp only [nrm, Nat.reduceAdd, Nat.reduceMul, Nat.reduceSub, Int.reduceToNat, Int.reduceAdd]
    refine opsR_nil ?_
    refine hk48 _ _ ?_
    clear hk48
    refine run_seq fun _ hk51 => ?_
    refine run_drawW mixed 8 [0, 0, 3, 0, 0, 31, 0, 0, 255, 511, 1023, 2047] (by kernel_rfl) rfl [none, none, some ⟨fun v I => Sl (kInt .i64) I v (allOf a0 a1), fun _ _ _ h1 h2 => Sl.mono h1 h2⟩, none, none, some ⟨fun v I => Sl (kInt .i64) I v (allOf { a0 with Want := Res.plus a0.Want a2 } a1), fun _ _ _ h1 h2 => Sl.mono h1 h2⟩, none, none] ?_
    simp only [List.take_succ_cons, List.take_zero, List.drop_succ_cons, List.drop_zero, List.drop_nil, List.take_nil, chooseL]
    apply Exists.intro
    apply Exists.intro
    apply Exists.intro
    apply Exists.intro
    apply Exists.intro
    apply Exists.intro
    refine obl_q rfl rfl (fun I hI hd => (by first | exact q_loadBN rfl inferInstance (by rfl) | exact q_loadBW rfl inferInstance (by assumption))) ?_
    simp only [nrm, Nat.reduceAdd, Nat.reduceMul, Nat.reduceSub, Int.reduceToNat, Int.reduceAdd]
    refine obl_q rfl rfl (fun I hI hd => (by first | exact q_loadBN rfl inferInstance (by rfl) | exact q_loadBW rfl inferInstance (by assumption))) ?_
    simp only [nrm, Nat.reduceAdd, Nat.reduceMul, Nat.reduceSub, Int.reduceToNat, Int.reduceAdd]
    refine obl_ex rfl rfl (fun I hI hd K hK => o_call rfl (All_spec (p := a0) (x := a1) (hT.mono (by exact leA)) (Kd.mono _ (by exact leA) h0') (Kd.mono _ (by exact leA) h1') hok K hK)) fun v52 => ?_
    simp only [nrm, Nat.reduceAdd, Nat.reduceMul, Nat.reduceSub, Int.reduceToNat, Int.reduceAdd]
    refine obl_q rfl rfl (fun I hI hd => (by first | exact q_loadBN rfl inferInstance (by rfl) | exact q_loadBW rfl inferInstance (by assumption))) ?_
    simp only [nrm, Nat.reduceAdd, Nat.reduceMul, Nat.reduceSub, Int.reduceToNat, Int.reduceAdd]
    refine obl_q rfl rfl (fun I hI hd => (by first | exact q_loadBN rfl inferInstance (by rfl) | exact q_loadBW rfl inferInstance (by assumption))) ?_
    simp only [nrm, Nat.reduceAdd, Nat.reduceMul, Nat.reduceSub, Int.reduceToNat, Int.reduceAdd]
    refine obl_ex rfl rfl (fun I hI hd K hK => o_call rfl (All_spec (p := { a0 with Want := Res.plus a0.Want a2 }) (x := a1) (hT.mono (by exact leA)) (Kd.mono _ (by exact leA) hpq) (Kd.mono _ (by exact leA) h1') hok K hK)) fun v53 => ?_
    simp only [nrm, Nat.reduceAdd, Nat.reduceMul, Nat.reduceSub, Int.reduceToNat, Int.reduceAdd]
    refine obl_q rfl rfl (fun I hI hd => (by first | exact q_loadBN rfl inferInstance (by rfl) | exact q_loadBW rfl inferInstance (by assumption))) ?_
    simp only [nrm, Nat.reduceAdd, Nat.reduceMul, Nat.reduceSub, Int.reduceToNat, Int.reduceAdd]
    refine obl_q rfl rfl (fun I hI hd => (by first | exact q_loadBN rfl inferInstance (by rfl) | exact q_loadBW rfl inferInstance (by assumption))) ?_
    simp only [nrm, Nat.reduceAdd, Nat.reduceMul, Nat.reduceSub, Int.reduceToNat, Int.reduceAdd]
    refine obl_nil (fun I54 hI54 hF54 => ?_)
    simp only [true_and, and_true] at hF54
    obtain ⟨hA, hB⟩ := hF54
    try simp only [nrm, Nat.reduceAdd, Nat.reduceMul, Nat.reduceSub, Int.reduceToNat, Int.reduceAdd]
    refine opsR_o rfl (o_call rfl (All_spec (p := a0) (x := { a1 with Used := Res.plus a1.Used a2 }) (hT.mono (by exact leA)) (Kd.mono _ (by exact leA) h0') (Kd.mono _ (by exact leA) hij) hok _ fun vL JL hJL hvL => ?_))
    try dsimp only at hJL hvL
    try (have hrL : Hp.le s.I JL := leA; have hJL := hJL)
    simp only [nrm, Nat.reduceAdd, Nat.reduceMul, Nat.reduceSub, Int.reduceToNat, Int.reduceAdd]
    refine opsR_q rfl (q_assign) ?_
    simp only [nrm]
    refine opsR_q rfl (q_assign) ?_
    simp only [nrm]
    refine opsR_q rfl (q_assign) ?_
    simp only [nrm]
    refine opsR_nil ?_
    refine hk51 _ _ ?_
    clear hk51
    refine run_seq fun _ hk59 => ?_
    refine run_seq fun _ hk60 => ?_
    refine run_region ?_
    refine opsR_q rfl (q_assign) ?_
    simp only [nrm]
    refine opsR_nil ?_
    refine hk60 _ _ ?_
    clear hk60
    refine run_block ?_
    refine run_loopF [0, 0, 0, 0, 0, 0, 1, 0, 0, 0, 0, 0, 2, 0, 0, 0, 0, 0, 0, 0, 0, 0, 0, 0, 0, 0, 0, 0, 0, 0, 0, 0, 0, 0, 0, 0, 1, 1, 1, 1, 1, 1, 1, 1, 1, 1, 1, 1, 1, 1, 1, 1, 1, 1, 1, 1, 1, 1] (fun zn zL zst => ∃ (i : Nat), zL = [.int .i64 (i : Nat)] ∧ ⟨JL, (bJ, .cells #[.string a1.Node.Name, q1, q2, .bool a1.Node.Off, .int .i64 a1.Node.Give.CPU, .int .i64 a1.Node.Give.Mem, .int .i64 a1.Node.Give.Disk, .int .i64 a1.Node.Pods, .int .i64 a1.Node.Disks, q3, .int .i64 (Q.add a1.Used.CPU a2.CPU), .int .i64 (Q.add a1.Used.Mem a2.Mem), .int .i64 (Q.add a1.Used.Disk a2.Disk), q4, q5] 38 (0, 0)) :: (bQ, .cells #[.string a0.Name, .int .i64 a0.Priority, p1, .int .i64 (Q.add a0.Want.CPU a2.CPU), .int .i64 (Q.add a0.Want.Mem a2.Mem), .int .i64 (Q.add a0.Want.Disk a2.Disk), p2, p3, p4, p5, p6, p7, p8, p9, .string a0.Node, .string a0.Hope] 33 (0, 0)) :: (bM, .cells #[.int .i64 a2.CPU, .int .i64 a2.Mem, .int .i64 a2.Disk] 24 (0, 0)) :: (bX, .cells #[.string a1.Node.Name, q1, q2, .bool a1.Node.Off, .int .i64 a1.Node.Give.CPU, .int .i64 a1.Node.Give.Mem, .int .i64 a1.Node.Give.Disk, .int .i64 a1.Node.Pods, .int .i64 a1.Node.Disks, q3, .int .i64 a1.Used.CPU, .int .i64 a1.Used.Mem, .int .i64 a1.Used.Disk, q4, q5] 38 (0, 0)) :: (bP, .cells #[.string a0.Name, .int .i64 a0.Priority, p1, .int .i64 a0.Want.CPU, .int .i64 a0.Want.Mem, .int .i64 a0.Want.Disk, p2, p3, p4, p5, p6, p7, p8, p9, .string a0.Node, .string a0.Hope] 33 (0, 0)) :: s.cs⟩ = zst ∧ zn = (allOf a0 a1).length - i ∧ (i ≤ (allOf a0 a1).length)) _ _ ⟨0, rfl, rfl, rfl, by first | assumption | omega | exact Hp.le.rfl | rfl | exact all_zero | exact all_succ (by assumption) (by assumption) | (intro _; omega) | (simp; done)⟩ rfl ?_
    rintro _ _ _ jv61 ⟨i, rfl, rfl, rfl, hi⟩ K61 hkl61
    simp only [fr, Nat.zero_add, Nat.reduceAdd]
    refine run_seq fun _ hk62 => ?_
    refine run_seq fun _ hk63 => ?_
    refine run_region ?_
    refine opsR_q rfl (q_move) ?_
    simp only [nrm]
    refine opsR_q rfl (q_move) ?_
    simp only [nrm]
    refine opsR_q rfl (q_len_v rfl (by first | exact Sl.len (by assumption) | exact OwnS.len (by assumption) | exact SlR.len (by assumption) | assumption)) ?_
    simp only [nrm, Nat.reduceAdd, Nat.reduceMul, Nat.reduceSub, Int.reduceToNat, Int.reduceAdd]
    refine opsR_q rfl (q_lss rfl rfl) ?_
    simp only [nrm, Nat.reduceAdd, Nat.reduceMul, Nat.reduceSub, Int.reduceToNat, Int.reduceAdd]
    refine opsR_nil ?_
    refine hk63 _ _ ?_
    clear hk63
    refine run_cond rfl (fun ho66 => ?_) (fun ho66 => ?_)
    · have hc66 := ho66; try simp only [spl] at hc66
      refine run_skip ?_
      refine hk62 _ _ ?_
      clear hk62
      refine run_seq fun _ hk67 => ?_
      refine run_block ?_
      refine run_seq fun _ hk68 => ?_
      have hx1 := hm1 _ (mem_get! (i := i) (by omega))
      have hx2 := hm2 _ (mem_get! (i := i) (by omega))
      refine run_region ?_
      refine opsR_q rfl (q_move) ?_
      simp only [nrm]
      refine opsR_q rfl (q_move) ?_
      simp only [nrm]
      refine opsR_q rfl (q_move) ?_
      simp only [nrm]
      refine opsR_index rfl rfl rfl slrA (by rfl) idxA idxA fun b70 o70 cs70 ha70 hr70 he70 => ?_
      simp only [nrm, Nat.reduceAdd, Nat.reduceMul, Nat.reduceSub, Int.reduceToNat, Int.reduceAdd]
      try simp only [Int.toNat_natCast, Int.reduceToNat, Int.toNat_zero] at hr70
      try simp only [Int.toNat_natCast, Int.reduceToNat, Int.toNat_zero] at he70
      clear ha70
      obtain rfl := hr70
      refine opsR_q rfl (by first | exact q_load_at1 (i := 0) rfl (by first | assumption | exact El.mono (by assumption) leA) rfl (Nat.le_of_ble_eq_true rfl) rfl | exact q_load_at1 rfl (by first | assumption | exact El.mono (by assumption) leA) rfl (Nat.le_of_ble_eq_true rfl) rfl) ?_
      simp only [nrm, Nat.reduceAdd, Nat.reduceMul, Nat.reduceSub, Int.reduceToNat, Int.reduceAdd]
      refine opsR_q rfl (q_call rfl (HasInt_spec _ _ _ _ (by first | assumption | (refine Sl.mono ?_ (by assumption); exact leA)))) ?_
      simp only [nrm, Nat.reduceAdd, Nat.reduceMul, Nat.reduceSub, Int.reduceToNat, Int.reduceAdd]
      refine opsR_q rfl (q_not rfl) ?_
      simp only [nrm]
      refine opsR_qb rfl (q_move) (fun h => absurd h (by rw [decide_eq_true hx1]; decide)) (fun _ => ?_)
      simp only [nrm, Nat.reduceAdd, Nat.reduceMul, Nat.reduceSub, Int.reduceToNat, Int.reduceAdd]
      refine opsR_q rfl (q_move) ?_
      simp only [nrm]
      refine opsR_q rfl (q_move) ?_
      simp only [nrm]
      refine opsR_q rfl (q_move) ?_
      simp only [nrm]
      refine opsR_index rfl rfl rfl slrA (by rfl) idxA idxA fun b72 o72 cs72 ha72 hr72 he72 => ?_
      simp only [nrm, Nat.reduceAdd, Nat.reduceMul, Nat.reduceSub, Int.reduceToNat, Int.reduceAdd]
      try simp only [Int.toNat_natCast, Int.reduceToNat, Int.toNat_zero] at hr72
      try simp only [Int.toNat_natCast, Int.reduceToNat, Int.toNat_zero] at he72
      clear ha72
      obtain rfl := hr72
      refine opsR_q rfl (by first | exact q_load_at1 (i := 0) rfl (by first | assumption | exact El.mono (by assumption) leA) rfl (Nat.le_of_ble_eq_true rfl) rfl | exact q_load_at1 rfl (by first | assumption | exact El.mono (by assumption) leA) rfl (Nat.le_of_ble_eq_true rfl) rfl) ?_
      simp only [nrm, Nat.reduceAdd, Nat.reduceMul, Nat.reduceSub, Int.reduceToNat, Int.reduceAdd]
      refine opsR_q rfl (q_call rfl (HasInt_spec _ _ _ _ (by first | assumption | (refine Sl.mono ?_ (by assumption); exact leA)))) ?_
      simp only [nrm, Nat.reduceAdd, Nat.reduceMul, Nat.reduceSub, Int.reduceToNat, Int.reduceAdd]
      refine opsR_q rfl (q_not rfl) ?_
      simp only [nrm]
      refine opsR_q rfl (q_pick_f rfl) ?_
      simp only [nrm]
      refine opsR_nil ?_
      refine hk68 _ _ ?_
      clear hk68
      refine run_cond rfl (fun ho73 => ?_) (fun ho73 => ?_)
      · have hc73 := ho73; try simp only [spl] at hc73
        refine run_seq fun _ hk74 => ?_
        exact absurd hx2 hc73
      · have hc73 := ho73; try simp only [spl] at hc73
        refine run_skip ?_
        refine hk67 _ _ ?_
        clear hk67
        refine run_region ?_
        refine opsR_q rfl (q_move) ?_
        simp only [nrm]
        refine opsR_q rfl (by first | exact q_add64 rfl rfl (by omega) (by omega) | exact q_add rfl rfl) ?_
        simp only [nrm, Nat.reduceAdd, Nat.reduceMul, Nat.reduceSub, Int.reduceToNat, Int.reduceAdd]
        refine opsR_q rfl (q_assign) ?_
        simp only [nrm]
        refine opsR_nil ?_
        first
        | exact hkl61 _ _ _ _ (by omega) ⟨i + 1, rfl, rfl, rfl, by first | assumption | omega | exact Hp.le.rfl | rfl | exact all_zero | exact all_succ (by assumption) (by assumption) | (intro _; omega) | (simp; done)⟩ rfl
    · have hc66 := ho66; try simp only [spl] at hc66
      refine run_exit ?_
      refine hk59 _ _ ?_
      clear hk59
      refine run_seq fun _ hk75 => ?_
      refine run_region ?_
      refine opsR_q rfl (q_assign) ?_
      simp only [nrm]
      refine opsR_nil ?_
      refine hk75 _ _ ?_
      clear hk75
      refine run_ret ?_
      exact end_tmp rfl rfl rfl (by exact ghA) ⟨rfl, by exact leA⟩
end
end Go.Proofs.YtcnbcblihepbmaaDoor
