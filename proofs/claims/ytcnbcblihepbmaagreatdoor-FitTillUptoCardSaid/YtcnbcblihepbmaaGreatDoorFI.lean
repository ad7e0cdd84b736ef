/- Package info: an info with a pod more, for itself; numerals that are short. -/
import Derived.Test.YtcnbcblihepbmaaGreatDoorIP
set_option autoImplicit false
set_option linter.unusedVariables false
set_option linter.unusedSimpArgs false
namespace Go.Proofs.YtcnbcblihepbmaaGreatDoor
open Go Go.RowKit
def amongOf (n m : Int) : Int := IntKind.i64.wrap ((IntKind.u64.wrap n).tmod (IntKind.u64.wrap m))
theorem wrap_u64_rng (d : Int) : 0 ≤ IntKind.u64.wrap d ∧ IntKind.u64.wrap d ≤ 18446744073709551615 := by
  unfold IntKind.wrap
  have e1 : IntKind.u64.signed = false := rfl
  have e2 : IntKind.u64.bits = 64 := rfl
  simp only [e1, e2, Bool.false_and, Nat.reduceSub, Bool.false_eq_true, if_false, decide_false]
  omega
theorem among_bd (n : Int) {m : Int} (h : 0 < m) (h2 : m ≤ 9223372036854775807) : 0 ≤ amongOf n m ∧ amongOf n m < m := by
  have hw := wrap_u64_id (n := m) (by omega) (by omega)
  have h1 := (wrap_u64_rng n).1
  have hm := Int.emod_nonneg (IntKind.u64.wrap n) (by omega : m ≠ 0)
  have hm2 := Int.emod_lt_of_pos (IntKind.u64.wrap n) h
  rw [amongOf, hw, Int.tmod_eq_emod_of_nonneg h1, wrap_i64_id (by omega) (by omega)]
  exact ⟨hm, hm2⟩
theorem among_id {n m : Int} (h0 : 0 ≤ n) (h : n < m) (h2 : m ≤ 9223372036854775807) : amongOf n m = n := by
  have hw := wrap_u64_id (n := m) (by omega) (by omega)
  have hw2 := wrap_u64_id (n := n) (by omega) (by omega)
  rw [amongOf, hw, hw2, Int.tmod_eq_emod_of_nonneg h0, Int.emod_eq_of_lt h0 h, wrap_i64_id (by omega) (by omega)]
section
attribute [local irreducible] Quiet OpsR Run CallS opS Gh endQ oblE RunN swp
theorem Among_spec {n m : Int} {s : St} (h : 0 < m) (h2 : m ≤ 9223372036854775807) : CallV Tryz.prog 16 #[.int .i64 n, .int .i64 m] s (.int .i64 (amongOf n m)) := by
  intro K hK
  have hw : IntKind.u64.wrap m ≠ 0 := by rw [wrap_u64_id (n := m) (by omega) (by omega)]; omega
  refine callS_of_run Tryz.func16 rfl ?_; simp only [Tryz.ntmps16, List.size_toArray, List.length_cons, List.length_nil, Nat.reduceAdd, Nat.reduceSub, Array.replicate_succ, Array.replicate_zero, List.push_toArray, List.append_toArray, List.nil_append, List.cons_append]
  refine run_seq fun _ hk1 => ?_
  refine run_region ?_
  refine opsR_q rfl (q_assign) ?_
  simp only [nrm]
  refine opsR_nil ?_
  refine hk1 _ _ ?_
  clear hk1
  refine run_seq fun _ hk2 => ?_
  refine run_region ?_
  refine opsR_q rfl (q_move) ?_
  simp only [nrm]
  refine opsR_q rfl (q_conv_int_int rfl) ?_
  simp only [nrm, Nat.reduceAdd, Nat.reduceMul, Nat.reduceSub, Int.reduceToNat, Int.reduceAdd]
  refine opsR_q rfl (q_move) ?_
  simp only [nrm]
  refine opsR_q rfl (q_conv_int_int rfl) ?_
  simp only [nrm, Nat.reduceAdd, Nat.reduceMul, Nat.reduceSub, Int.reduceToNat, Int.reduceAdd]
  refine opsR_q rfl (by exact q_rem rfl rfl (by first | decide | assumption | omega)) ?_
  simp only [nrm, Nat.reduceAdd, Nat.reduceMul, Nat.reduceSub, Int.reduceToNat, Int.reduceAdd]
  refine opsR_q rfl (q_conv_int_int rfl) ?_
  simp only [nrm, Nat.reduceAdd, Nat.reduceMul, Nat.reduceSub, Int.reduceToNat, Int.reduceAdd]
  refine opsR_q rfl (q_assign) ?_
  simp only [nrm]
  refine opsR_nil ?_
  refine hk2 _ _ ?_
  clear hk2
  refine run_ret ?_
  exact end_tmp rfl rfl rfl ghA hK
end
section
attribute [local irreducible] Quiet OpsR Run CallS opS Gh endQ oblE RunN swp Go.Op.equalIn
theorem Clone_Str {l : List ByteArray} {v : Value} {s : St} (hl : Sl kStr s.I v l) (hb : l.length ≤ 1073741824) : CallR Tryz.prog 59 #[v] s (fun J w => Sl kStr J w l) := by
  intro K hK
  refine callS_of_run Tryz.func59 rfl ?_; simp only [Tryz.ntmps59, List.size_toArray, List.length_cons, List.length_nil, Nat.reduceAdd, Nat.reduceSub, Array.replicate_succ, Array.replicate_zero, List.push_toArray, List.append_toArray, List.nil_append, List.cons_append]
  refine run_seq fun _ hk1 => ?_
  refine run_region ?_
  refine opsR_q rfl (q_assign) ?_
  simp only [nrm]
  refine opsR_nil ?_
  refine hk1 _ _ ?_
  clear hk1
  refine run_seq fun _ hk2 => ?_
  refine run_seq fun _ hk3 => ?_
  refine run_region ?_
  refine opsR_q rfl (q_move) ?_
  simp only [nrm]
  refine opsR_nil_eql rfl rfl rfl slrA fun bZ hbZ => ?_
  simp only [nrm, Nat.reduceAdd, Nat.reduceMul, Nat.reduceSub, Int.reduceToNat, Int.reduceAdd]
  have hnl := hbZ
  refine opsR_nil ?_
  refine hk3 _ _ ?_
  clear hk3
  refine run_cond rfl (fun ho6 => ?_) (fun ho6 => ?_)
  · have hc6 := ho6; try simp only [spl] at hc6
    refine run_seq fun _ hk7 => ?_
    refine run_region ?_
    refine opsR_q rfl (q_assign) ?_
    simp only [nrm]
    refine opsR_nil ?_
    refine hk7 _ _ ?_
    clear hk7
    refine run_ret ?_
    have he : l = [] := hnl hc6
    exact end_tmp rfl rfl rfl .refl (hK _ _ .rfl (he ▸ Sl.nil _ _))
  · have hc6 := ho6; try simp only [spl] at hc6
    refine run_skip ?_
    refine hk2 _ _ ?_
    clear hk2
    refine run_seq fun _ hk8 => ?_
    refine run_region ?_
    refine opsR_slice0 kStr rfl fun v9 hs9 hv9 => ?_
    simp only [nrm, Nat.reduceAdd, Nat.reduceMul, Nat.reduceSub, Int.reduceToNat, Int.reduceAdd]
    refine opsR_q rfl (q_move) ?_
    simp only [nrm]
    refine opsR_app rfl rfl rfl (by first | assumption | (refine OwnS.mono ?_ (by assumption); exact leA)) (by infer_instance) slrA (by rfl) (by rfl) rfl rfl idxA fun vC hsC hvC => ?_
    simp only [nrm, Nat.reduceAdd, Nat.reduceMul, Nat.reduceSub, Int.reduceToNat, Int.reduceAdd]
    simp only [List.nil_append] at hvC; refine opsR_fz hvC (by infer_instance) fun JFC hJFC hvC => ?_; try dsimp only at hJFC; try (have hrFC : Hp.le s.I JFC := (by exact leA); have hJFC := hJFC); try simp only [nrm, Nat.reduceAdd, Nat.reduceMul, Nat.reduceSub, Int.reduceToNat, Int.reduceAdd]
    refine opsR_q rfl (q_assign) ?_
    simp only [nrm]
    refine opsR_nil ?_
    refine hk8 _ _ ?_
    clear hk8
    refine run_ret ?_
    exact end_tmp rfl rfl rfl ghA (hK _ _ leA hvC)
theorem Clone_Int {l : List Int} {v : Value} {s : St} (hl : Sl (kInt .i64) s.I v l) (hb : l.length ≤ 1073741824) : CallR Tryz.prog 60 #[v] s (fun J w => Sl (kInt .i64) J w l) := by
  intro K hK
  refine callS_of_run Tryz.func60 rfl ?_; simp only [Tryz.ntmps60, List.size_toArray, List.length_cons, List.length_nil, Nat.reduceAdd, Nat.reduceSub, Array.replicate_succ, Array.replicate_zero, List.push_toArray, List.append_toArray, List.nil_append, List.cons_append]
  refine run_seq fun _ hk1 => ?_
  refine run_region ?_
  refine opsR_q rfl (q_assign) ?_
  simp only [nrm]
  refine opsR_nil ?_
  refine hk1 _ _ ?_
  clear hk1
  refine run_seq fun _ hk2 => ?_
  refine run_seq fun _ hk3 => ?_
  refine run_region ?_
  refine opsR_q rfl (q_move) ?_
  simp only [nrm]
  refine opsR_nil_eql rfl rfl rfl slrA fun bZ hbZ => ?_
  simp only [nrm, Nat.reduceAdd, Nat.reduceMul, Nat.reduceSub, Int.reduceToNat, Int.reduceAdd]
  have hnl := hbZ
  refine opsR_nil ?_
  refine hk3 _ _ ?_
  clear hk3
  refine run_cond rfl (fun ho6 => ?_) (fun ho6 => ?_)
  · have hc6 := ho6; try simp only [spl] at hc6
    refine run_seq fun _ hk7 => ?_
    refine run_region ?_
    refine opsR_q rfl (q_assign) ?_
    simp only [nrm]
    refine opsR_nil ?_
    refine hk7 _ _ ?_
    clear hk7
    refine run_ret ?_
    have he : l = [] := hnl hc6
    exact end_tmp rfl rfl rfl .refl (hK _ _ .rfl (he ▸ Sl.nil _ _))
  · have hc6 := ho6; try simp only [spl] at hc6
    refine run_skip ?_
    refine hk2 _ _ ?_
    clear hk2
    refine run_seq fun _ hk8 => ?_
    refine run_region ?_
    refine opsR_slice0 (kInt .i64) rfl fun v9 hs9 hv9 => ?_
    simp only [nrm, Nat.reduceAdd, Nat.reduceMul, Nat.reduceSub, Int.reduceToNat, Int.reduceAdd]
    refine opsR_q rfl (q_move) ?_
    simp only [nrm]
    refine opsR_app rfl rfl rfl (by first | assumption | (refine OwnS.mono ?_ (by assumption); exact leA)) (by infer_instance) slrA (by rfl) (by rfl) rfl rfl idxA fun vC hsC hvC => ?_
    simp only [nrm, Nat.reduceAdd, Nat.reduceMul, Nat.reduceSub, Int.reduceToNat, Int.reduceAdd]
    simp only [List.nil_append] at hvC; refine opsR_fz hvC (by infer_instance) fun JFC hJFC hvC => ?_; try dsimp only at hJFC; try (have hrFC : Hp.le s.I JFC := (by exact leA); have hJFC := hJFC); try simp only [nrm, Nat.reduceAdd, Nat.reduceMul, Nat.reduceSub, Int.reduceToNat, Int.reduceAdd]
    refine opsR_q rfl (q_assign) ?_
    simp only [nrm]
    refine opsR_nil ?_
    refine hk8 _ _ ?_
    clear hk8
    refine run_ret ?_
    exact end_tmp rfl rfl rfl ghA (hK _ _ leA hvC)
theorem own_spec {x : Info} {cx : List Value} {s : St} (hx : kInfo.rep s.I x cx) (hb1 : x.Names.length ≤ 100000000) (hb2 : x.Ports.length ≤ 100000000) (hb3 : x.Disks.length ≤ 100000000) :
    CallR Tryz.prog 40 #[.agg cx.toArray] s (fun J w => ∃ cy, w = .agg cy.toArray ∧ kInfo.rep J x cy) := by
  intro K hK
  obtain ⟨q1, q2, q3, q4, q5, rfl, h1, h2, h3, h4, h5⟩ := kInfo.open hx
  refine callS_of_run Tryz.func40 rfl ?_; simp only [Tryz.ntmps40, List.size_toArray, List.length_cons, List.length_nil, Nat.reduceAdd, Nat.reduceSub, Array.replicate_succ, Array.replicate_zero, List.push_toArray, List.append_toArray, List.nil_append, List.cons_append]
  refine run_seq fun _ hk1 => ?_
  refine run_region ?_
  refine opsR_o rfl (o_box fun b2 hb2 => ?_)
  simp only [nrm, Nat.reduceAdd, Nat.reduceMul, Nat.reduceSub, Int.reduceToNat, Int.reduceAdd]
  refine opsR_o rfl (o_alloc fun b3 hb3 => ?_)
  simp only [nrm, Nat.reduceAdd, Nat.reduceMul, Nat.reduceSub, Int.reduceToNat, Int.reduceAdd]
  refine opsR_nil ?_
  refine hk1 _ _ ?_
  clear hk1
  refine run_seq fun _ hk4 => ?_
  refine run_drawC mixed 10 (by kernel_rfl) rfl [none, none, some ⟨fun v I => Sl kStr I v x.Names, fun _ _ _ h1 h2 => Sl.mono h1 h2⟩, none, none, some ⟨fun v I => Sl (kInt .i64) I v x.Ports, fun _ _ _ h1 h2 => Sl.mono h1 h2⟩, none, none, some ⟨fun v I => Sl kStr I v x.Disks, fun _ _ _ h1 h2 => Sl.mono h1 h2⟩, none] ?_
  simp only [List.take_succ_cons, List.take_zero, List.drop_succ_cons, List.drop_zero, List.drop_nil, List.take_nil, chooseL]
  apply Exists.intro
  apply Exists.intro
  apply Exists.intro
  apply Exists.intro
  apply Exists.intro
  apply Exists.intro
  apply Exists.intro
  refine obl_q rfl rfl (fun I hI hd => (q_fieldAddr rfl)) ?_
  simp only [nrm, Nat.reduceAdd, Nat.reduceMul, Nat.reduceSub, Int.reduceToNat, Int.reduceAdd]
  refine obl_q rfl rfl (fun I hI hd => (q_loadB1 rfl inferInstance rfl)) ?_
  simp only [nrm, Nat.reduceAdd, Nat.reduceMul, Nat.reduceSub, Int.reduceToNat, Int.reduceAdd]
  refine obl_ex rfl rfl (fun I hI hd K hK => o_call rfl (Clone_Str (by first | assumption | (refine Sl.mono ?_ (by assumption); exact leA)) (by omega) K hK)) fun vA => ?_
  simp only [nrm, Nat.reduceAdd, Nat.reduceMul, Nat.reduceSub, Int.reduceToNat, Int.reduceAdd]
  refine obl_q rfl rfl (fun I hI hd => (q_fieldAddr rfl)) ?_
  simp only [nrm, Nat.reduceAdd, Nat.reduceMul, Nat.reduceSub, Int.reduceToNat, Int.reduceAdd]
  refine obl_q rfl rfl (fun I hI hd => (q_loadB1 rfl inferInstance rfl)) ?_
  simp only [nrm, Nat.reduceAdd, Nat.reduceMul, Nat.reduceSub, Int.reduceToNat, Int.reduceAdd]
  refine obl_ex rfl rfl (fun I hI hd K hK => o_call rfl (Clone_Int (by first | assumption | (refine Sl.mono ?_ (by assumption); exact leA)) (by omega) K hK)) fun vB => ?_
  simp only [nrm, Nat.reduceAdd, Nat.reduceMul, Nat.reduceSub, Int.reduceToNat, Int.reduceAdd]
  refine obl_q rfl rfl (fun I hI hd => (q_fieldAddr rfl)) ?_
  simp only [nrm, Nat.reduceAdd, Nat.reduceMul, Nat.reduceSub, Int.reduceToNat, Int.reduceAdd]
  refine obl_q rfl rfl (fun I hI hd => (q_loadB1 rfl inferInstance rfl)) ?_
  simp only [nrm, Nat.reduceAdd, Nat.reduceMul, Nat.reduceSub, Int.reduceToNat, Int.reduceAdd]
  refine obl_ex rfl rfl (fun I hI hd K hK => o_call rfl (Clone_Str (by first | assumption | (refine Sl.mono ?_ (by assumption); exact leA)) (by omega) K hK)) fun vC => ?_
  simp only [nrm, Nat.reduceAdd, Nat.reduceMul, Nat.reduceSub, Int.reduceToNat, Int.reduceAdd]
  refine obl_q rfl rfl (fun I hI hd => (q_fieldAddr rfl)) ?_
  simp only [nrm, Nat.reduceAdd, Nat.reduceMul, Nat.reduceSub, Int.reduceToNat, Int.reduceAdd]
  refine obl_nil (fun I8 hI8 hF8 => ?_)
  simp only [true_and, and_true] at hF8
  obtain ⟨⟨hA, hB⟩, hC⟩ := hF8
  obtain ⟨JE, rfl⟩ : ∃ J, J = I8 := ⟨_, rfl⟩
  have hrE : Hp.le s.I JE := by exact leA
  obtain ⟨A1, c1, rfl, _, _⟩ := hA.shape
  obtain ⟨A2, c2, rfl, _, _⟩ := hB.shape
  obtain ⟨A3, c3, rfl, _, _⟩ := hC.shape
  try simp only [nrm, Nat.reduceAdd, Nat.reduceMul, Nat.reduceSub, Int.reduceToNat, Int.reduceAdd]
  refine opsR_o rfl (o_storeB rfl rfl inferInstance (by first | rfl | assumption) (by first | rfl | exact Kd.one _ (by assumption) | assumption) (by first | rfl | (refine Nat.ble_eq_true_of_le ?_; (try simp only [Int.toNat_natCast]); omega)) ?_)
  simp only [nrm, Nat.reduceAdd, Nat.reduceMul, Nat.reduceSub, Int.reduceToNat, Int.reduceAdd]
  refine opsR_q rfl (q_fieldAddr rfl) ?_
  simp only [nrm, Nat.reduceAdd, Nat.reduceMul, Nat.reduceSub, Int.reduceToNat, Int.reduceAdd]
  refine opsR_o rfl (o_storeB rfl rfl inferInstance (by first | rfl | assumption) (by first | rfl | exact Kd.one _ (by assumption) | assumption) (by first | rfl | (refine Nat.ble_eq_true_of_le ?_; (try simp only [Int.toNat_natCast]); omega)) ?_)
  simp only [nrm, Nat.reduceAdd, Nat.reduceMul, Nat.reduceSub, Int.reduceToNat, Int.reduceAdd]
  refine opsR_q rfl (q_fieldAddr rfl) ?_
  simp only [nrm, Nat.reduceAdd, Nat.reduceMul, Nat.reduceSub, Int.reduceToNat, Int.reduceAdd]
  refine opsR_o rfl (o_storeB rfl rfl inferInstance (by first | rfl | assumption) (by first | rfl | exact Kd.one _ (by assumption) | assumption) (by first | rfl | (refine Nat.ble_eq_true_of_le ?_; (try simp only [Int.toNat_natCast]); omega)) ?_)
  simp only [nrm, Nat.reduceAdd, Nat.reduceMul, Nat.reduceSub, Int.reduceToNat, Int.reduceAdd]
  refine opsR_nil ?_
  refine hk4 _ _ ?_
  clear hk4
  refine run_seq fun _ hk10 => ?_
  have hfin := kInfo.shut (I := JE) (x := x) (hNode_Labels := h1.mono hrE) (hNode_Taints := h2.mono hrE) (hNames := hA) (hPorts := hB) (hDisks := hC)
  refine run_region ?_
  refine opsR_q rfl (by first | exact q_loadBN rfl inferInstance (by rfl) | exact q_loadBW rfl inferInstance (by assumption)) ?_
  simp only [nrm, Nat.reduceAdd, Nat.reduceMul, Nat.reduceSub, Int.reduceToNat, Int.reduceAdd]
  refine opsR_o rfl (o_storeB rfl rfl inferInstance (by first | rfl | assumption) (by first | rfl | exact Kd.one _ (by assumption) | assumption) (by first | rfl | (refine Nat.ble_eq_true_of_le ?_; (try simp only [Int.toNat_natCast]); omega)) ?_)
  simp only [nrm, Nat.reduceAdd, Nat.reduceMul, Nat.reduceSub, Int.reduceToNat, Int.reduceAdd]
  refine opsR_nil ?_
  refine hk10 _ _ ?_
  clear hk10
  refine run_ret ?_
  exact end_cell rfl rfl rfl (AtB.has inferInstance) (by first | rfl | assumption) ghA (hK _ _ leA ⟨_, rfl, hfin⟩)
def OwnV (x : Info) (w : Value) (J : Hp) : Prop := ∃ cy, w = .agg cy.toArray ∧ kInfo.rep J x cy
theorem OwnV.mono {x : Info} {w : Value} {I J : Hp} (hl : Hp.le I J) (h : OwnV x w I) : OwnV x w J := by
  obtain ⟨cy, e, hr⟩ := h; exact ⟨cy, e, Kd.mono _ hl hr⟩
def AddV (x : Info) (p : Pod) (w : Value) (J : Hp) : Prop := ∃ (cy : List Value) (e : Int), w = .tuple #[.agg cy.toArray, .int .i64 e] ∧ cy.length = 15 ∧ cy.all vOne = true ∧ (¬ e = 0 ∨ (e = 0 ∧ ¬ p.Name ∈ x.Names ∧ ∃ y, kInfo.rep J y cy ∧ WithIs x p y))
theorem Add_spec {x : Info} {p : Pod} {cx cp : List Value} {s : St} (hx : kInfo.rep s.I x cx) (hp : kPod.rep s.I p cp) (hb1 : x.Names.length ≤ 100000000) (hb2 : x.Ports.length + p.Ports.length ≤ 100000000) (hb3 : x.Disks.length + p.Claims.length ≤ 100000000) :
    CallR Tryz.prog 19 #[.agg cx.toArray, .agg cp.toArray] s (fun J w => AddV x p w J) := by
  intro K hK
  have hx' := hx
  have hp' := hp
  obtain ⟨p1, p2, p3, p4, p5, p6, p7, p8, p9, rfl, g1, g2, g3, g4, g5, g6, g7, g8, g9⟩ := kPod.open hp
  obtain ⟨q1, q2, q3, q4, q5, rfl, h1, h2, h3, h4, h5⟩ := kInfo.open hx
  refine callS_of_run Tryz.func19 rfl ?_; simp only [Tryz.ntmps19, List.size_toArray, List.length_cons, List.length_nil, Nat.reduceAdd, Nat.reduceSub, Array.replicate_succ, Array.replicate_zero, List.push_toArray, List.append_toArray, List.nil_append, List.cons_append]
  refine run_seq fun _ hk1 => ?_
  refine run_region ?_
  refine opsR_o rfl (o_box fun b2 hb2 => ?_)
  simp only [nrm, Nat.reduceAdd, Nat.reduceMul, Nat.reduceSub, Int.reduceToNat, Int.reduceAdd]
  refine opsR_o rfl (o_box fun b3 hb3 => ?_)
  simp only [nrm, Nat.reduceAdd, Nat.reduceMul, Nat.reduceSub, Int.reduceToNat, Int.reduceAdd]
  refine opsR_o rfl (o_alloc fun b4 hb4 => ?_)
  simp only [nrm, Nat.reduceAdd, Nat.reduceMul, Nat.reduceSub, Int.reduceToNat, Int.reduceAdd]
  refine opsR_q rfl (q_assign) ?_
  simp only [nrm]
  refine opsR_nil ?_
  refine hk1 _ _ ?_
  clear hk1
  refine run_seq fun _ hk5 => ?_
  refine run_seq fun _ hk6 => ?_
  refine run_region ?_
  refine opsR_q rfl (q_fieldAddr rfl) ?_
  simp only [nrm, Nat.reduceAdd, Nat.reduceMul, Nat.reduceSub, Int.reduceToNat, Int.reduceAdd]
  refine opsR_q rfl (q_loadB1 rfl inferInstance rfl) ?_
  simp only [nrm, Nat.reduceAdd, Nat.reduceMul, Nat.reduceSub, Int.reduceToNat, Int.reduceAdd]
  refine opsR_q rfl (q_fieldAddr rfl) ?_
  simp only [nrm, Nat.reduceAdd, Nat.reduceMul, Nat.reduceSub, Int.reduceToNat, Int.reduceAdd]
  refine opsR_q rfl (q_loadB1 rfl inferInstance rfl) ?_
  simp only [nrm, Nat.reduceAdd, Nat.reduceMul, Nat.reduceSub, Int.reduceToNat, Int.reduceAdd]
  refine opsR_q rfl (q_call rfl (Contains_Str slrA)) ?_
  simp only [nrm, Nat.reduceAdd, Nat.reduceMul, Nat.reduceSub, Int.reduceToNat, Int.reduceAdd]
  rw [any_memG]
  refine opsR_nil ?_
  refine hk6 _ _ ?_
  clear hk6
  refine run_cond rfl (fun ho9 => ?_) (fun ho9 => ?_)
  · have hc9 := ho9; try simp only [spl] at hc9
    refine run_seq fun _ hk10 => ?_
    refine run_region ?_
    refine opsR_q rfl (q_build rfl) ?_
    simp only [nrm, Nat.reduceAdd, Nat.reduceMul, Nat.reduceSub, Int.reduceToNat, Int.reduceAdd]
    refine opsR_o rfl (o_storeB rfl rfl inferInstance (by first | rfl | assumption) (by first | rfl | exact Kd.one _ (by assumption) | assumption) (by first | rfl | (refine Nat.ble_eq_true_of_le ?_; (try simp only [Int.toNat_natCast]); omega)) ?_)
    simp only [nrm, Nat.reduceAdd, Nat.reduceMul, Nat.reduceSub, Int.reduceToNat, Int.reduceAdd]
    refine opsR_q rfl (q_assign) ?_
    simp only [nrm]
    refine opsR_nil ?_
    refine hk10 _ _ ?_
    clear hk10
    refine run_ret ?_
    exact end_cell_tmp rfl rfl rfl (AtB.has inferInstance) (by first | rfl | assumption) rfl ghA (hK _ _ .rfl ⟨_, _, rfl, rfl, rfl, .inl (by decide)⟩)
  · have hc9 := ho9; try simp only [spl] at hc9
    refine run_skip ?_
    refine hk5 _ _ ?_
    clear hk5
    refine run_seq fun _ hk11 => ?_
    refine run_drawC mixed 3 (by kernel_rfl) rfl [none, some ⟨fun v I => OwnV x v I, fun _ _ _ h1 h2 => OwnV.mono h1 h2⟩, none] ?_
    simp only [List.take_succ_cons, List.take_zero, List.drop_succ_cons, List.drop_zero, List.drop_nil, List.take_nil, chooseL]
    apply Exists.intro
    apply Exists.intro
    refine obl_q rfl rfl (fun I hI hd => (by first | exact q_loadBN rfl inferInstance (by rfl) | exact q_loadBW rfl inferInstance (by assumption))) ?_
    simp only [nrm, Nat.reduceAdd, Nat.reduceMul, Nat.reduceSub, Int.reduceToNat, Int.reduceAdd]
    refine obl_ex rfl rfl (fun I hI hd K hK => o_call rfl (own_spec (x := x) (Kd.mono _ (by exact leA) hx') (by omega) (by omega) (by omega) K hK)) fun vO => ?_
    simp only [nrm, Nat.reduceAdd, Nat.reduceMul, Nat.reduceSub, Int.reduceToNat, Int.reduceAdd]
    refine obl_q rfl rfl (fun I hI hd => (by first | exact q_loadBN rfl inferInstance (by rfl) | exact q_loadBW rfl inferInstance (by assumption))) ?_
    simp only [nrm, Nat.reduceAdd, Nat.reduceMul, Nat.reduceSub, Int.reduceToNat, Int.reduceAdd]
    refine obl_nil (fun I13 hI13 hF13 => ?_)
    simp only [true_and, and_true] at hF13
    obtain ⟨cy, rfl, hy⟩ := hF13
    try simp only [nrm, Nat.reduceAdd, Nat.reduceMul, Nat.reduceSub, Int.reduceToNat, Int.reduceAdd]
    refine opsR_o rfl (o_call rfl (with_spec (x := x) (p := p) (Kd.mono _ (by exact leA) hy) (Kd.mono _ (by exact leA) hp') (by assumption) (by assumption) (by assumption) _ fun vW JW hJW hvW => ?_))
    try dsimp only at hJW hvW
    try (have hrW : Hp.le s.I JW := leA; have hJW := hJW)
    simp only [nrm, Nat.reduceAdd, Nat.reduceMul, Nat.reduceSub, Int.reduceToNat, Int.reduceAdd]
    obtain ⟨y, cy', rfl, hy', hw⟩ := hvW
    have hyw := hy'
    obtain ⟨f1, f2, f3, f4, f5, rfl, _, _, _, _, _⟩ := kInfo.open hy'
    refine opsR_o rfl (o_storeB rfl rfl inferInstance (by first | rfl | assumption) (by first | rfl | exact Kd.one _ (by assumption) | assumption) (by first | rfl | (refine Nat.ble_eq_true_of_le ?_; (try simp only [Int.toNat_natCast]); omega)) ?_)
    simp only [nrm, Nat.reduceAdd, Nat.reduceMul, Nat.reduceSub, Int.reduceToNat, Int.reduceAdd]
    refine opsR_q rfl (q_assign) ?_
    simp only [nrm]
    refine opsR_nil ?_
    refine hk11 _ _ ?_
    clear hk11
    refine run_ret ?_
    exact end_cell_tmp rfl rfl rfl (AtB.has inferInstance) (by first | rfl | assumption) rfl ghA (hK _ _ leA ⟨_, _, rfl, rfl, Kd.one _ hyw, .inr ⟨rfl, by assumption, y, hyw, hw⟩⟩)
/-- So many digits are written, so much is left. -/
def ShortN (z m : Nat) : Prop := (z = 0 ∧ m ≤ 9999999) ∨ (z = 1 ∧ m ≤ 999999) ∨ (z = 2 ∧ m ≤ 99999) ∨ (z = 3 ∧ m ≤ 9999) ∨ (z = 4 ∧ m ≤ 999) ∨ (z = 5 ∧ m ≤ 99) ∨ (z = 6 ∧ m ≤ 9) ∨ (z = 7 ∧ m = 0)
theorem short_zero {n : Nat} (h : n ≤ 9999999) : ShortN (⟨#[]⟩ : ByteArray).size n := .inl ⟨rfl, h⟩
theorem short_step {z m : Nat} (h : ShortN z m) (hm : 0 < m) : ShortN (1 + z) (m / 10) := by unfold ShortN at *; omega
theorem short_m {z m : Nat} (h : ShortN z m) : m ≤ 9999999 := by unfold ShortN at h; omega
theorem short_le {z m : Nat} (h : ShortN z m) : z ≤ 7 := by unfold ShortN at h; omega
/-- A short number's text: whatever it is, it is short. -/
theorem ItoaS_spec {n : Nat} {s : St} (h1 : n ≤ 9999999) : CallQ Tryz.prog 18 #[.int .i64 n] s (fun v => ∃ b : ByteArray, v = .string b ∧ b.size ≤ 8) := by
  intro K hK
  have hone : ∀ m : Int, (⟨([m].map fun n => UInt8.ofNat n.toNat).toArray⟩ : ByteArray).size = 1 := fun _ => rfl
  refine callS_of_run Tryz.func18 rfl ?_; simp only [Tryz.ntmps18, List.size_toArray, List.length_cons, List.length_nil, Nat.reduceAdd, Nat.reduceSub, Array.replicate_succ, Array.replicate_zero, List.push_toArray, List.append_toArray, List.nil_append, List.cons_append]
  refine run_seq fun _ hk1 => ?_
  refine run_region ?_
  refine opsR_q rfl (q_assign) ?_
  simp only [nrm]
  refine opsR_nil ?_
  refine hk1 _ _ ?_
  clear hk1
  refine run_seq fun _ hk2 => ?_
  refine run_seq fun _ hk3 => ?_
  refine run_region ?_
  refine opsR_q rfl (q_move) ?_
  simp only [nrm]
  refine opsR_q rfl (q_eql rfl rfl) ?_
  simp only [nrm, Nat.reduceAdd, Nat.reduceMul, Nat.reduceSub, Int.reduceToNat, Int.reduceAdd]
  refine opsR_nil ?_
  refine hk3 _ _ ?_
  clear hk3
  refine run_cond rfl (fun ho5 => ?_) (fun ho5 => ?_)
  · have hc5 := ho5; try simp only [spl] at hc5
    refine run_seq fun _ hk6 => ?_
    refine run_region ?_
    refine opsR_q rfl (q_assign) ?_
    simp only [nrm]
    refine opsR_nil ?_
    refine hk6 _ _ ?_
    clear hk6
    refine run_ret ?_
    exact end_tmp rfl rfl rfl .refl (hK _ ⟨_, rfl, by decide⟩)
  · have hc5 := ho5; try simp only [spl] at hc5
    refine run_skip ?_
    refine hk2 _ _ ?_
    clear hk2
    refine run_seq fun _ hk7 => ?_
    refine run_region ?_
    refine opsR_q rfl (q_assign) ?_
    simp only [nrm]
    refine opsR_nil ?_
    refine hk7 _ _ ?_
    clear hk7
    refine run_seq fun _ hk8 => ?_
    have hi0 := short_zero h1
    refine run_region ?_
    refine opsR_q rfl (q_move) ?_
    simp only [nrm]
    refine opsR_q rfl (q_lss rfl rfl) ?_
    simp only [nrm, Nat.reduceAdd, Nat.reduceMul, Nat.reduceSub, Int.reduceToNat, Int.reduceAdd]
    refine opsR_q rfl (q_assign) ?_
    simp only [nrm]
    refine opsR_nil ?_
    refine hk8 _ _ ?_
    clear hk8
    refine run_seq fun _ hk9 => ?_
    refine run_block ?_
    refine run_loopF [2, 0, 0, 2, 0, 1, 0, 0, 0, 0, 1, 1, 1, 1, 1, 1, 1, 1, 1, 1, 1, 1, 1, 1, 1, 1, 1, 0, 0, 0, 0] (fun zn zL zst => ∃ (m : Nat) (acc : ByteArray), zL = [.int .i64 (m : Nat), .string acc] ∧ s = zst ∧ zn = m + 1 ∧ (ShortN acc.size m)) _ _ ⟨n, ⟨#[]⟩, rfl, rfl, rfl, by first | assumption | omega | exact Hp.le.rfl | rfl | exact all_zero | exact all_succ (by assumption) (by assumption) | (intro _; omega) | (simp; done)⟩ rfl ?_
    rintro _ _ _ jv10 ⟨m, acc, rfl, rfl, rfl, hmk⟩ K10 hkl10
    simp only [fr, Nat.zero_add, Nat.reduceAdd]
    have hac := short_le hmk
    have hmm := short_m hmk
    have hos := hone (48 + ((m % 10 : Nat) : Int))
    have t10 : ((m : Nat) : Int).tmod 10 = ((m % 10 : Nat) : Int) := rfl
    have d10 : ((m : Nat) : Int) / 10 = ((m / 10 : Nat) : Int) := by omega
    refine run_seq fun _ hk11 => ?_
    refine run_seq fun _ hk12 => ?_
    refine run_region ?_
    refine opsR_q rfl (q_move) ?_
    simp only [nrm]
    refine opsR_q rfl (q_neq rfl rfl) ?_
    simp only [nrm, Nat.reduceAdd, Nat.reduceMul, Nat.reduceSub, Int.reduceToNat, Int.reduceAdd]
    refine opsR_nil ?_
    refine hk12 _ _ ?_
    clear hk12
    refine run_cond rfl (fun ho14 => ?_) (fun ho14 => ?_)
    · have hc14 := ho14; try simp only [spl] at hc14
      refine run_skip ?_
      refine hk11 _ _ ?_
      clear hk11
      refine run_block ?_
      refine run_seq fun _ hk15 => ?_
      refine run_region ?_
      refine opsR_q rfl (q_move) ?_
      simp only [nrm]
      refine opsR_q rfl (by exact q_rem rfl rfl (by first | decide | assumption | omega)) ?_
      simp only [nrm, Nat.reduceAdd, Nat.reduceMul, Nat.reduceSub, Int.reduceToNat, Int.reduceAdd]
      rw [t10]
      refine opsR_q rfl (q_assign) ?_
      simp only [nrm]
      refine opsR_nil ?_
      refine hk15 _ _ ?_
      clear hk15
      refine run_seq fun _ hk16 => ?_
      refine run_seq fun _ hk17 => ?_
      refine run_region ?_
      refine opsR_q rfl (q_move) ?_
      simp only [nrm]
      refine opsR_q rfl (q_lss rfl rfl) ?_
      simp only [nrm, Nat.reduceAdd, Nat.reduceMul, Nat.reduceSub, Int.reduceToNat, Int.reduceAdd]
      refine opsR_nil ?_
      refine hk17 _ _ ?_
      clear hk17
      refine run_cond rfl (fun ho18 => ?_) (fun ho18 => ?_)
      · have hc18 := ho18; try simp only [spl] at hc18
        exfalso; omega
      · have hc18 := ho18; try simp only [spl] at hc18
        refine run_skip ?_
        refine hk16 _ _ ?_
        clear hk16
        refine run_seq fun _ hk19 => ?_
        have w1 := wrap_u8_id (n := 48 + ((m % 10 : Nat) : Int)) (by omega) (by omega)
        refine run_region ?_
        refine opsR_q rfl (q_move) ?_
        simp only [nrm]
        refine opsR_q rfl (by first | exact q_add64 rfl rfl (by omega) (by omega) | exact q_add rfl rfl) ?_
        simp only [nrm, Nat.reduceAdd, Nat.reduceMul, Nat.reduceSub, Int.reduceToNat, Int.reduceAdd]
        refine opsR_q rfl (q_conv_int_int rfl) ?_
        simp only [nrm, Nat.reduceAdd, Nat.reduceMul, Nat.reduceSub, Int.reduceToNat, Int.reduceAdd]
        rw [w1]
        refine opsR_slice1 (kInt .u8) rfl rfl (by rfl) (by decide) (by decide) (by rfl) (by first | rfl | assumption | exact (kInt .u8).shut | (refine Kd.mono _ ?_ (by assumption); exact leA) | (apply (kInt .u8).shut <;> assumption)) fun v20 hs20 hv20 => ?_
        simp only [nrm, Nat.reduceAdd, Nat.reduceMul, Nat.reduceSub, Int.reduceToNat, Int.reduceAdd]
        refine opsR_q rfl (q_conv_slice_string rfl slrA) ?_
        simp only [nrm, Nat.reduceAdd, Nat.reduceMul, Nat.reduceSub, Int.reduceToNat, Int.reduceAdd]
        refine opsR_q rfl (q_move) ?_
        simp only [nrm]
        refine opsR_q rfl (q_add_string rfl rfl idxA) ?_
        simp only [nrm, Nat.reduceAdd, Nat.reduceMul, Nat.reduceSub, Int.reduceToNat, Int.reduceAdd]
        refine opsR_q rfl (q_assign) ?_
        simp only [nrm]
        refine opsR_nil ?_
        refine hk19 _ _ ?_
        clear hk19
        refine run_gh Gh.dropA ?_
        refine run_region ?_
        refine opsR_q rfl (q_move) ?_
        simp only [nrm]
        refine opsR_q rfl (by first | exact q_quo64 rfl rfl (by omega) (by omega) (by omega) | exact q_quo rfl rfl (by first | decide | assumption | omega)) ?_
        simp only [nrm, Nat.reduceAdd, Nat.reduceMul, Nat.reduceSub, Int.reduceToNat, Int.reduceAdd]
        rw [d10]
        refine opsR_q rfl (q_assign) ?_
        simp only [nrm]
        refine opsR_nil ?_
        first
        | exact hkl10 _ _ _ _ (by omega) ⟨m / 10, _, rfl, rfl, rfl, by first | omega | (rw [ByteArray.size_append, hone]; exact short_step hmk (by omega))⟩ rfl
    · have hc14 := ho14; try simp only [spl] at hc14
      refine run_exit ?_
      refine hk9 _ _ ?_
      clear hk9
      refine run_seq fun _ hk23 => ?_
      refine run_seq fun _ hk24 => ?_
      refine run_region ?_
      refine opsR_q rfl (q_move) ?_
      simp only [nrm]
      refine opsR_nil ?_
      refine hk24 _ _ ?_
      clear hk24
      refine run_cond rfl (fun ho26 => ?_) (fun ho26 => ?_)
      · have hc26 := ho26; try simp only [spl] at hc26
        exfalso; omega
      · have hc26 := ho26; try simp only [spl] at hc26
        refine run_skip ?_
        refine hk23 _ _ ?_
        clear hk23
        refine run_seq fun _ hk27 => ?_
        refine run_region ?_
        refine opsR_q rfl (q_move) ?_
        simp only [nrm]
        refine opsR_q rfl (q_assign) ?_
        simp only [nrm]
        refine opsR_nil ?_
        refine hk27 _ _ ?_
        clear hk27
        refine run_ret ?_
        exact end_tmp rfl rfl rfl .refl (hK _ ⟨_, rfl, by omega⟩)
end
end Go.Proofs.YtcnbcblihepbmaaGreatDoor
