/- Laws of package fit: the example; more wanted, more used. -/
import Derived.Test.YtcnbcblihepbmaaGreatDoorFM
import Derived.Test.YtcnbcblihepbmaaGreatDoorB
import Derived.Test.YtcnbcblihepbmaaGreatDoorBKL
set_option autoImplicit false
set_option linter.unusedVariables false
set_option linter.unusedSimpArgs false
namespace Go.Proofs.YtcnbcblihepbmaaGreatDoor
open Go Go.RowKit
section
variable {P : Program} {fn : Func} {K : Value → St → Prop} {a : Act} {s s' : St}
theorem end_cell2 {t u : Tmp} {ty tz : TypeId} {n m : Nat} {z y : Value} [TyV P ty true n z] [TyV P tz true m y] {bl bm : Nat} {c d : Array Value} {e e' : TypeId} {f f' : Nat × Nat} (h : fn.results = #[.cell t ty, .cell u tz]) (hd : a.defers = []) (ht : a.tmps.getD t undef = .pointer (some ⟨bl, 0, none⟩))
    (hb : s.has bl (.cells c e f)) (hn : c.size = n) (hu : a.tmps.getD u undef = .pointer (some ⟨bm, 0, none⟩)) (hm : s.has bm (.cells d e' f')) (hn2 : d.size = m) (g : Gh s s') (hk : K (.tuple #[.agg c, .agg d]) s') : endQ P fn K .ret a s := by
  refine ⟨trivial, hd, s', g, ?_⟩
  have ht' : a.tmps[t]?.getD undef = .pointer (some ⟨bl, 0, none⟩) := by simpa using ht
  have hu' : a.tmps[u]?.getD undef = .pointer (some ⟨bm, 0, none⟩) := by simpa using hu
  simp [results, h, rwp_bind', ht', hu', asAddr, rwp_pure, rwp_map]
  exact rwp_whole (P := P) (t := ty) (z := z) hb hn (K := fun v => rwp P (loadVar tz ⟨bm, 0, none⟩) s (fun w => K (.tuple #[v, w]) s')) (rwp_whole (P := P) (t := tz) (z := y) hm hn2 (K := fun w => K (.tuple #[.agg c, w]) s') hk)
end
def nB : ByteArray := ⟨#[110]⟩
def pB : ByteArray := ⟨#[112]⟩
def eB : ByteArray := ⟨#[]⟩
def wI : Info := ⟨⟨nB, [], [], false, ⟨1000, 0, 0⟩, 2, 0⟩, [], ⟨0, 0, 0⟩, [], []⟩
def wJ : Info := ⟨⟨nB, [], [], true, ⟨1000, 0, 0⟩, 2, 0⟩, [], ⟨0, 0, 0⟩, [], []⟩
def wP : Pod := { (default : Pod) with Name := pB, Node := eB, Hope := eB, Want := ⟨600, 0, 0⟩ }
theorem wI_ok : PairOk wP wI := ⟨Nat.zero_le _, (fun x (h : x ∈ ([] : List Label)) => nomatch h : LabOk []), (fun x (h : x ∈ ([] : List Req)) => nomatch h : ReqsOk [])⟩
theorem wJ_ok : PairOk wP wJ := ⟨Nat.zero_le _, (fun x (h : x ∈ ([] : List Label)) => nomatch h : LabOk []), (fun x (h : x ∈ ([] : List Req)) => nomatch h : ReqsOk [])⟩
theorem w_1 : whyFirst wP wI = 0 := by decide +kernel
theorem w_2 : roomOf wP wI 9 = 1 := by decide +kernel
theorem w_3 : whyFirst wP wJ = 1 := by decide +kernel
section
attribute [local irreducible] Quiet OpsR Run CallS opS Gh endQ oblE RunN swp Go.Op.equalIn matchOf isKept keptOf clashOf whyOf whysL whyFirst roomOf allOf
theorem room_spec {s : St} : CallV Tryz.prog 22 #[] s (.tuple #[.agg #[.string nB, .slice none 0 0, .slice none 0 0, .bool false, .int .i64 1000, .int .i64 0, .int .i64 0, .int .i64 2, .int .i64 0, .slice none 0 0, .int .i64 0, .int .i64 0, .int .i64 0, .slice none 0 0, .slice none 0 0],
    .agg #[.string pB, .int .i64 0, .slice none 0 0, .int .i64 600, .int .i64 0, .int .i64 0, .slice none 0 0, .slice none 0 0, .slice none 0 0, .slice none 0 0, .slice none 0 0, .slice none 0 0, .slice none 0 0, .slice none 0 0, .string eB, .string eB]]) := by
  intro K hK
  refine callS_of_run Tryz.func22 rfl ?_; simp only [Tryz.ntmps22, List.size_toArray, List.length_cons, List.length_nil, Nat.reduceAdd, Nat.reduceSub, Array.replicate_succ, Array.replicate_zero, List.push_toArray, List.append_toArray, List.nil_append, List.cons_append]
  refine run_seq fun _ hk1 => ?_
  refine run_region ?_
  refine opsR_o rfl (o_alloc fun b2 hb2 => ?_)
  simp only [nrm, Nat.reduceAdd, Nat.reduceMul, Nat.reduceSub, Int.reduceToNat, Int.reduceAdd]
  refine opsR_o rfl (o_alloc fun b3 hb3 => ?_)
  simp only [nrm, Nat.reduceAdd, Nat.reduceMul, Nat.reduceSub, Int.reduceToNat, Int.reduceAdd]
  refine opsR_nil ?_
  refine hk1 _ _ ?_
  clear hk1
  refine run_seq fun _ hk4 => ?_
  refine run_region ?_
  refine opsR_q rfl (q_build rfl) ?_
  simp only [nrm, Nat.reduceAdd, Nat.reduceMul, Nat.reduceSub, Int.reduceToNat, Int.reduceAdd]
  refine opsR_q rfl (q_build rfl) ?_
  simp only [nrm, Nat.reduceAdd, Nat.reduceMul, Nat.reduceSub, Int.reduceToNat, Int.reduceAdd]
  refine opsR_q rfl (q_build rfl) ?_
  simp only [nrm, Nat.reduceAdd, Nat.reduceMul, Nat.reduceSub, Int.reduceToNat, Int.reduceAdd]
  refine opsR_q rfl (q_build rfl) ?_
  simp only [nrm, Nat.reduceAdd, Nat.reduceMul, Nat.reduceSub, Int.reduceToNat, Int.reduceAdd]
  refine opsR_q rfl (q_build rfl) ?_
  simp only [nrm, Nat.reduceAdd, Nat.reduceMul, Nat.reduceSub, Int.reduceToNat, Int.reduceAdd]
  refine opsR_o rfl (o_storeB rfl rfl inferInstance (by first | rfl | assumption) (by first | rfl | exact Kd.one _ (by assumption) | assumption) (by first | rfl | (refine Nat.ble_eq_true_of_le ?_; (try simp only [Int.toNat_natCast]); omega)) ?_)
  simp only [nrm, Nat.reduceAdd, Nat.reduceMul, Nat.reduceSub, Int.reduceToNat, Int.reduceAdd]
  refine opsR_o rfl (o_storeB rfl rfl inferInstance (by first | rfl | assumption) (by first | rfl | exact Kd.one _ (by assumption) | assumption) (by first | rfl | (refine Nat.ble_eq_true_of_le ?_; (try simp only [Int.toNat_natCast]); omega)) ?_)
  simp only [nrm, Nat.reduceAdd, Nat.reduceMul, Nat.reduceSub, Int.reduceToNat, Int.reduceAdd]
  refine opsR_nil ?_
  refine hk4 _ _ ?_
  clear hk4
  refine run_ret ?_
  exact end_cell2 rfl rfl rfl (AtB.has inferInstance) (by first | rfl | assumption) rfl (AtB.has inferInstance) (by first | rfl | assumption) ghA hK
theorem works_spec {s : St} (hT : Tabs s.I) : CallV Tryz.prog 8 #[] s (.bool true) := by
  intro K hK
  have hp := kPod.shut (I := s.I) (x := wP) (hLabels := Sl.nil _ _) (hBears := Sl.nil _ _) (hAsks := Sl.nil _ _) (hPrefers := Sl.nil _ _) (hPorts := Sl.nil _ _) (hNear := Sl.nil _ _) (hApart := Sl.nil _ _) (hSpreads := Sl.nil _ _) (hClaims := Sl.nil _ _)
  have hi := kInfo.shut (I := s.I) (x := wI) (hNode_Labels := Sl.nil _ _) (hNode_Taints := Sl.nil _ _) (hNames := Sl.nil _ _) (hPorts := Sl.nil _ _) (hDisks := Sl.nil _ _)
  have hj := kInfo.shut (I := s.I) (x := wJ) (hNode_Labels := Sl.nil _ _) (hNode_Taints := Sl.nil _ _) (hNames := Sl.nil _ _) (hPorts := Sl.nil _ _) (hDisks := Sl.nil _ _)
  refine callS_of_run Tryz.func8 rfl ?_; simp only [Tryz.ntmps8, List.size_toArray, List.length_cons, List.length_nil, Nat.reduceAdd, Nat.reduceSub, Array.replicate_succ, Array.replicate_zero, List.push_toArray, List.append_toArray, List.nil_append, List.cons_append]
  refine run_seq fun _ hk1 => ?_
  refine run_region ?_
  refine opsR_q rfl (q_assign) ?_
  simp only [nrm]
  refine opsR_nil ?_
  refine hk1 _ _ ?_
  clear hk1
  refine run_seq fun _ hk2 => ?_
  refine run_region ?_
  refine opsR_q rfl (q_call rfl (room_spec)) ?_
  simp only [nrm, Nat.reduceAdd, Nat.reduceMul, Nat.reduceSub, Int.reduceToNat, Int.reduceAdd]
  refine opsR_q rfl (q_move) ?_
  simp only [nrm]
  refine opsR_q rfl (q_extract rfl rfl) ?_
  simp only [nrm]
  refine opsR_q rfl (q_extract rfl rfl) ?_
  simp only [nrm]
  refine opsR_o rfl (o_alloc fun b3 hb3 => ?_)
  simp only [nrm, Nat.reduceAdd, Nat.reduceMul, Nat.reduceSub, Int.reduceToNat, Int.reduceAdd]
  refine opsR_o rfl (o_alloc fun b4 hb4 => ?_)
  simp only [nrm, Nat.reduceAdd, Nat.reduceMul, Nat.reduceSub, Int.reduceToNat, Int.reduceAdd]
  refine opsR_o rfl (o_storeB rfl rfl inferInstance (by first | rfl | assumption) (by first | rfl | exact Kd.one _ (by assumption) | assumption) (by first | rfl | (refine Nat.ble_eq_true_of_le ?_; (try simp only [Int.toNat_natCast]); omega)) ?_)
  simp only [nrm, Nat.reduceAdd, Nat.reduceMul, Nat.reduceSub, Int.reduceToNat, Int.reduceAdd]
  refine opsR_o rfl (o_storeB rfl rfl inferInstance (by first | rfl | assumption) (by first | rfl | exact Kd.one _ (by assumption) | assumption) (by first | rfl | (refine Nat.ble_eq_true_of_le ?_; (try simp only [Int.toNat_natCast]); omega)) ?_)
  simp only [nrm, Nat.reduceAdd, Nat.reduceMul, Nat.reduceSub, Int.reduceToNat, Int.reduceAdd]
  refine opsR_nil ?_
  refine hk2 _ _ ?_
  clear hk2
  refine run_seq fun _ hk5 => ?_
  refine run_region ?_
  refine opsR_q rfl (by first | exact q_loadBN rfl inferInstance (by rfl) | exact q_loadBW rfl inferInstance (by assumption)) ?_
  simp only [nrm, Nat.reduceAdd, Nat.reduceMul, Nat.reduceSub, Int.reduceToNat, Int.reduceAdd]
  refine opsR_o rfl (o_alloc fun b7 hb7 => ?_)
  simp only [nrm, Nat.reduceAdd, Nat.reduceMul, Nat.reduceSub, Int.reduceToNat, Int.reduceAdd]
  refine opsR_o rfl (o_storeB rfl rfl inferInstance (by first | rfl | assumption) (by first | rfl | exact Kd.one _ (by assumption) | assumption) (by first | rfl | (refine Nat.ble_eq_true_of_le ?_; (try simp only [Int.toNat_natCast]); omega)) ?_)
  simp only [nrm, Nat.reduceAdd, Nat.reduceMul, Nat.reduceSub, Int.reduceToNat, Int.reduceAdd]
  refine opsR_nil ?_
  refine hk5 _ _ ?_
  clear hk5
  refine run_seq fun _ hk8 => ?_
  refine run_region ?_
  refine opsR_q rfl (q_fieldAddr rfl) ?_
  simp only [nrm, Nat.reduceAdd, Nat.reduceMul, Nat.reduceSub, Int.reduceToNat, Int.reduceAdd]
  refine opsR_q rfl (q_fieldAddr rfl) ?_
  simp only [nrm, Nat.reduceAdd, Nat.reduceMul, Nat.reduceSub, Int.reduceToNat, Int.reduceAdd]
  refine opsR_o rfl (o_storeB rfl rfl inferInstance (by first | rfl | assumption) (by first | rfl | exact Kd.one _ (by assumption) | assumption) (by first | rfl | (refine Nat.ble_eq_true_of_le ?_; (try simp only [Int.toNat_natCast]); omega)) ?_)
  simp only [nrm, Nat.reduceAdd, Nat.reduceMul, Nat.reduceSub, Int.reduceToNat, Int.reduceAdd]
  refine opsR_nil ?_
  refine hk8 _ _ ?_
  clear hk8
  refine run_seq fun _ hk10 => ?_
  refine run_region ?_
  refine opsR_q rfl (by first | exact q_loadBN rfl inferInstance (by rfl) | exact q_loadBW rfl inferInstance (by assumption)) ?_
  simp only [nrm, Nat.reduceAdd, Nat.reduceMul, Nat.reduceSub, Int.reduceToNat, Int.reduceAdd]
  refine opsR_q rfl (by first | exact q_loadBN rfl inferInstance (by rfl) | exact q_loadBW rfl inferInstance (by assumption)) ?_
  simp only [nrm, Nat.reduceAdd, Nat.reduceMul, Nat.reduceSub, Int.reduceToNat, Int.reduceAdd]
  refine opsR_q rfl (q_call rfl (callV_of_S (Check_spec (p := wP) (x := wI) hT hp hi wI_ok))) ?_
  simp only [nrm, Nat.reduceAdd, Nat.reduceMul, Nat.reduceSub, Int.reduceToNat, Int.reduceAdd]
  refine opsR_q rfl (q_eql rfl rfl) ?_
  simp only [nrm, Nat.reduceAdd, Nat.reduceMul, Nat.reduceSub, Int.reduceToNat, Int.reduceAdd]
  refine opsR_qb rfl (q_move) (fun _ => ?_) (fun h => absurd h (by rw [w_1]; decide))
  simp only [nrm, Nat.reduceAdd, Nat.reduceMul, Nat.reduceSub, Int.reduceToNat, Int.reduceAdd]
  refine opsR_q rfl (by first | exact q_loadBN rfl inferInstance (by rfl) | exact q_loadBW rfl inferInstance (by assumption)) ?_
  simp only [nrm, Nat.reduceAdd, Nat.reduceMul, Nat.reduceSub, Int.reduceToNat, Int.reduceAdd]
  refine opsR_q rfl (by first | exact q_loadBN rfl inferInstance (by rfl) | exact q_loadBW rfl inferInstance (by assumption)) ?_
  simp only [nrm, Nat.reduceAdd, Nat.reduceMul, Nat.reduceSub, Int.reduceToNat, Int.reduceAdd]
  refine opsR_q rfl (q_call rfl (Most_spec (p := wP) (x := wI) hT hp hi wI_ok (by decide) (by decide) (by decide))) ?_
  simp only [nrm, Nat.reduceAdd, Nat.reduceMul, Nat.reduceSub, Int.reduceToNat, Int.reduceAdd]
  refine opsR_q rfl (q_eql rfl rfl) ?_
  simp only [nrm, Nat.reduceAdd, Nat.reduceMul, Nat.reduceSub, Int.reduceToNat, Int.reduceAdd]
  refine opsR_q rfl (q_pick_t rfl) ?_
  simp only [nrm]
  refine opsR_qb rfl (q_move) (fun _ => ?_) (fun h => absurd h (by rw [w_2]; decide))
  simp only [nrm, Nat.reduceAdd, Nat.reduceMul, Nat.reduceSub, Int.reduceToNat, Int.reduceAdd]
  refine opsR_q rfl (by first | exact q_loadBN rfl inferInstance (by rfl) | exact q_loadBW rfl inferInstance (by assumption)) ?_
  simp only [nrm, Nat.reduceAdd, Nat.reduceMul, Nat.reduceSub, Int.reduceToNat, Int.reduceAdd]
  refine opsR_q rfl (by first | exact q_loadBN rfl inferInstance (by rfl) | exact q_loadBW rfl inferInstance (by assumption)) ?_
  simp only [nrm, Nat.reduceAdd, Nat.reduceMul, Nat.reduceSub, Int.reduceToNat, Int.reduceAdd]
  refine opsR_q rfl (q_call rfl (callV_of_S (Check_spec (p := wP) (x := wJ) hT hp hj wJ_ok))) ?_
  simp only [nrm, Nat.reduceAdd, Nat.reduceMul, Nat.reduceSub, Int.reduceToNat, Int.reduceAdd]
  refine opsR_q rfl (q_eql rfl rfl) ?_
  simp only [nrm, Nat.reduceAdd, Nat.reduceMul, Nat.reduceSub, Int.reduceToNat, Int.reduceAdd]
  refine opsR_q rfl (q_pick_t rfl) ?_
  simp only [nrm]
  refine opsR_q rfl (q_assign) ?_
  simp only [nrm]
  refine opsR_nil ?_
  refine hk10 _ _ ?_
  clear hk10
  refine run_ret ?_
  first | exact end_tmp rfl rfl rfl ghA hK | exact end_tmp rfl rfl rfl ghA (eqK hK (congrArg Go.Value.bool (by rw [w_3]; rfl)))
theorem taints_bulk (l : List Taint) : l.length + 1 ≤ kTaint.slice.bulk l := bulk_len (k := kTaint) (fun _ => Nat.le_trans (Nat.le_add_left 1 _) (Nat.le_add_right _ _)) l
theorem info_bulk (x : Info) : kTaint.slice.bulk x.Node.Taints ≤ kInfo.bulk x ∧ kLabel.slice.bulk x.Node.Labels ≤ kInfo.bulk x ∧ kStr.slice.bulk x.Names ≤ kInfo.bulk x ∧ (kInt .i64).slice.bulk x.Ports ≤ kInfo.bulk x := by
  simp only [kInfo, kNode, Kd.iso, Kd.pair]; refine ⟨?_, ?_, ?_, ?_⟩ <;> omega
theorem pod_bulk (x : Pod) : kReq.slice.bulk x.Asks ≤ kPod.bulk x ∧ (kInt .i64).slice.bulk x.Ports ≤ kPod.bulk x := by
  simp only [kPod, kRes, Kd.iso, Kd.pair]; constructor <;> omega
theorem pairOk_of {p : Pod} {x : Info} {m : Nat} (h : kPod.bulk p + kInfo.bulk x ≤ m) (hm : m ≤ 1073741824) : PairOk p x := by
  have h1 := info_bulk x
  have h2 := pod_bulk p
  exact ⟨by have := taints_bulk x.Node.Taints; omega, labOk_of (m := m) (by omega) (by omega), reqsOk_of (m := m) (by omega) (by omega)⟩
end
end Go.Proofs.YtcnbcblihepbmaaGreatDoor
