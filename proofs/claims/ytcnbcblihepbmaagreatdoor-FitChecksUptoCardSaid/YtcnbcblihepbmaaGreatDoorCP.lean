/- Package stevedorebase: copies. -/
import Derived.Test.YtcnbcblihepbmaaGreatDoorBKL
import Derived.Test.YtcnbcblihepbmaaGreatDoorS20
import Derived.Test.YtcnbcblihepbmaaGreatDoorS11
set_option autoImplicit false
set_option linter.unusedVariables false
set_option linter.unusedSimpArgs false
namespace Go.Proofs.YtcnbcblihepbmaaGreatDoor
open Go Go.RowKit
section
attribute [local irreducible] Quiet OpsR Run CallS opS Gh endQ oblE RunN swp Go.Op.equalIn
theorem TextsO_spec {l : List ByteArray} {v : Value} {s : St} (hl : Sl kStr s.I v l) (hb : l.length ≤ 1073741824) : CallO Tryz.prog 27 #[v] s (fun J u hs => OwnS kStr 9 J u hs l) := by
  intro K hK
  refine callS_of_run Tryz.func27 rfl ?_; simp only [Tryz.ntmps27, List.size_toArray, List.length_cons, List.length_nil, Nat.reduceAdd, Nat.reduceSub, Array.replicate_succ, Array.replicate_zero, List.push_toArray, List.append_toArray, List.nil_append, List.cons_append]
  refine run_seq fun _ hk1 => ?_
  refine run_region ?_
  refine opsR_q rfl (q_assign) ?_
  simp only [nrm]
  refine opsR_nil ?_
  refine hk1 _ _ ?_
  clear hk1
  refine run_seq fun _ hk2 => ?_
  refine run_region ?_
  refine opsR_slice0 kStr rfl fun v3 hs3 hv3 => ?_
  simp only [nrm, Nat.reduceAdd, Nat.reduceMul, Nat.reduceSub, Int.reduceToNat, Int.reduceAdd]
  refine opsR_q rfl (q_move) ?_
  simp only [nrm]
  refine opsR_app rfl rfl rfl (by first | assumption | (refine OwnS.mono ?_ (by assumption); exact leA)) (by infer_instance) slrA (by rfl) (by rfl) rfl rfl idxA fun v5 hs5 hv5 => ?_
  simp only [nrm, Nat.reduceAdd, Nat.reduceMul, Nat.reduceSub, Int.reduceToNat, Int.reduceAdd]
  refine opsR_q rfl (q_assign) ?_
  simp only [nrm]
  refine opsR_nil ?_
  refine hk2 _ _ ?_
  clear hk2
  refine run_ret ?_
  exact end_tmp rfl rfl rfl .refl (hK _ _ _ .rfl (by assumption))
theorem IntsO_spec {l : List Int} {v : Value} {s : St} (hl : Sl (kInt .i64) s.I v l) (hb : l.length ≤ 1073741824) : CallO Tryz.prog 25 #[v] s (fun J u hs => OwnS (kInt .i64) 3 J u hs l) := by
  intro K hK
  refine callS_of_run Tryz.func25 rfl ?_; simp only [Tryz.ntmps25, List.size_toArray, List.length_cons, List.length_nil, Nat.reduceAdd, Nat.reduceSub, Array.replicate_succ, Array.replicate_zero, List.push_toArray, List.append_toArray, List.nil_append, List.cons_append]
  refine run_seq fun _ hk1 => ?_
  refine run_region ?_
  refine opsR_q rfl (q_assign) ?_
  simp only [nrm]
  refine opsR_nil ?_
  refine hk1 _ _ ?_
  clear hk1
  refine run_seq fun _ hk2 => ?_
  refine run_region ?_
  refine opsR_slice0 (kInt .i64) rfl fun v3 hs3 hv3 => ?_
  simp only [nrm, Nat.reduceAdd, Nat.reduceMul, Nat.reduceSub, Int.reduceToNat, Int.reduceAdd]
  refine opsR_q rfl (q_move) ?_
  simp only [nrm]
  refine opsR_app rfl rfl rfl (by first | assumption | (refine OwnS.mono ?_ (by assumption); exact leA)) (by infer_instance) slrA (by rfl) (by rfl) rfl rfl idxA fun v5 hs5 hv5 => ?_
  simp only [nrm, Nat.reduceAdd, Nat.reduceMul, Nat.reduceSub, Int.reduceToNat, Int.reduceAdd]
  refine opsR_q rfl (q_assign) ?_
  simp only [nrm]
  refine opsR_nil ?_
  refine hk2 _ _ ?_
  clear hk2
  refine run_ret ?_
  exact end_tmp rfl rfl rfl .refl (hK _ _ _ .rfl (by assumption))
theorem LabelsO_spec {l : List Label} {v : Value} {s : St} (hl : Sl kLabel s.I v l) (hb : l.length ≤ 1073741824) : CallO Tryz.prog 23 #[v] s (fun J u hs => OwnS kLabel 107 J u hs l) := by
  intro K hK
  refine callS_of_run Tryz.func23 rfl ?_; simp only [Tryz.ntmps23, List.size_toArray, List.length_cons, List.length_nil, Nat.reduceAdd, Nat.reduceSub, Array.replicate_succ, Array.replicate_zero, List.push_toArray, List.append_toArray, List.nil_append, List.cons_append]
  refine run_seq fun _ hk1 => ?_
  refine run_region ?_
  refine opsR_q rfl (q_assign) ?_
  simp only [nrm]
  refine opsR_nil ?_
  refine hk1 _ _ ?_
  clear hk1
  refine run_seq fun _ hk2 => ?_
  refine run_region ?_
  refine opsR_slice0 kLabel rfl fun v3 hs3 hv3 => ?_
  simp only [nrm, Nat.reduceAdd, Nat.reduceMul, Nat.reduceSub, Int.reduceToNat, Int.reduceAdd]
  refine opsR_q rfl (q_move) ?_
  simp only [nrm]
  refine opsR_app rfl rfl rfl (by first | assumption | (refine OwnS.mono ?_ (by assumption); exact leA)) (by infer_instance) slrA (by rfl) (by rfl) rfl rfl idxA fun v5 hs5 hv5 => ?_
  simp only [nrm, Nat.reduceAdd, Nat.reduceMul, Nat.reduceSub, Int.reduceToNat, Int.reduceAdd]
  refine opsR_q rfl (q_assign) ?_
  simp only [nrm]
  refine opsR_nil ?_
  refine hk2 _ _ ?_
  clear hk2
  refine run_ret ?_
  exact end_tmp rfl rfl rfl .refl (hK _ _ _ .rfl (by assumption))
theorem ReqsO_spec {l : List Req} {v : Value} {s : St} (hl : Sl kReq s.I v l) (hb : kReq.slice.bulk l ≤ 1073741824) : CallO Tryz.prog 24 #[v] s (fun J u hs => OwnS kReq 100 J u hs l) := by
  intro K hK
  have hbl := reqs_bulk l
  refine callS_of_run Tryz.func24 rfl ?_; simp only [Tryz.ntmps24, List.size_toArray, List.length_cons, List.length_nil, Nat.reduceAdd, Nat.reduceSub, Array.replicate_succ, Array.replicate_zero, List.push_toArray, List.append_toArray, List.nil_append, List.cons_append]
  refine run_seq fun _ hk1 => ?_
  refine run_region ?_
  refine opsR_q rfl (q_assign) ?_
  simp only [nrm]
  refine opsR_nil ?_
  refine hk1 _ _ ?_
  clear hk1
  refine run_seq fun _ hk2 => ?_
  refine run_region ?_
  refine opsR_slice0 kReq rfl fun v3 hs3 hv3 => ?_
  simp only [nrm, Nat.reduceAdd, Nat.reduceMul, Nat.reduceSub, Int.reduceToNat, Int.reduceAdd]
  refine opsR_q rfl (q_assign) ?_
  simp only [nrm]
  refine opsR_nil ?_
  refine hk2 _ _ ?_
  clear hk2
  refine run_seq fun _ hk5 => ?_
  refine run_seq fun _ hk6 => ?_
  refine run_region ?_
  refine opsR_q rfl (q_assign) ?_
  simp only [nrm]
  refine opsR_nil ?_
  refine hk6 _ _ ?_
  clear hk6
  refine run_block ?_
  refine run_loopF [0, 0, 0, 2, 2, 2, 0, 1, 1, 1, 1, 1, 1, 1, 1, 1, 1, 1, 1, 1, 1, 1, 1, 1, 1, 1, 1, 1, 0] (fun zn zL zst => ∃ (i : Nat) (v' : Value) (z5 : Value) (J : Hp) (hs : (List (Nat × Obj))), zL = [v', .int .i64 (i : Nat), z5] ∧ ⟨J, hs ++ s.cs⟩ = zst ∧ zn = l.length - i ∧ (i ≤ l.length) ∧ (Hp.le s.I J) ∧ (OwnS kReq 100 J v' hs (l.take i))) _ _ ⟨0, _, _, s.I, _, rfl, rfl, rfl, by first | assumption | omega | exact Hp.le.rfl | rfl | exact all_zero | exact all_succ (by assumption) (by assumption) | (intro _; omega) | (simp; done), by first | assumption | omega | exact Hp.le.rfl | rfl | exact all_zero | exact all_succ (by assumption) (by assumption) | (intro _; omega) | (simp; done), by first | assumption | omega | exact Hp.le.rfl | rfl | exact all_zero | exact all_succ (by assumption) (by assumption) | (intro _; omega) | (simp; done)⟩ rfl ?_
  rintro _ _ _ jv7 ⟨i, v', z5, J, hs, rfl, rfl, rfl, hi, hJ, hO⟩ K7 hkl7
  simp only [fr, Nat.zero_add, Nat.reduceAdd]
  have hbi := fun h : i < l.length => (mem_bulk (k := kReq) (mem_get! h))
  have hbr := req_bulk l[i]!
  have hbs := strs_bulk l[i]!.Values
  refine run_seq fun _ hk8 => ?_
  refine run_seq fun _ hk9 => ?_
  refine run_region ?_
  refine opsR_q rfl (q_move) ?_
  simp only [nrm]
  refine opsR_q rfl (q_move) ?_
  simp only [nrm]
  refine opsR_q rfl (q_len_v rfl (by first | exact Sl.len (by assumption) | exact OwnS.len (by assumption) | exact SlR.len (by assumption) | assumption)) ?_
  simp only [nrm, Nat.reduceAdd, Nat.reduceMul, Nat.reduceSub, Int.reduceToNat, Int.reduceAdd]
  refine opsR_q rfl (q_lss rfl rfl) ?_
  simp only [nrm, Nat.reduceAdd, Nat.reduceMul, Nat.reduceSub, Int.reduceToNat, Int.reduceAdd]
  refine opsR_nil ?_
  refine hk9 _ _ ?_
  clear hk9
  refine run_cond rfl (fun ho12 => ?_) (fun ho12 => ?_)
  · have hc12 := ho12; try simp only [spl] at hc12
    refine run_skip ?_
    refine hk8 _ _ ?_
    clear hk8
    refine run_seq fun _ hk13 => ?_
    refine run_block ?_
    refine run_seq fun _ hk14 => ?_
    have hbi := hbi (by omega)
    refine run_region ?_
    refine opsR_q rfl (q_move) ?_
    simp only [nrm]
    refine opsR_q rfl (q_move) ?_
    simp only [nrm]
    refine opsR_index rfl rfl rfl slrA (by rfl) idxA idxA fun b15 o15 cs15 ha15 hr15 he15 => ?_
    simp only [nrm, Nat.reduceAdd, Nat.reduceMul, Nat.reduceSub, Int.reduceToNat, Int.reduceAdd]
    try simp only [Int.toNat_natCast, Int.reduceToNat, Int.toNat_zero] at hr15
    try simp only [Int.toNat_natCast, Int.reduceToNat, Int.toNat_zero] at he15
    clear ha15
    obtain ⟨w15_Values, rfl, h15_Values⟩ := kReq.open hr15
    refine opsR_q rfl (by first | exact q_load_atW rfl (by first | assumption | exact El.mono (by assumption) leA) (by rfl) rfl | exact q_load_atN0 rfl (by first | assumption | exact El.mono (by assumption) leA) rfl rfl | exact q_load_atN rfl (by first | assumption | exact El.mono (by assumption) leA) rfl (Nat.le_of_ble_eq_true rfl) (Nat.le_of_ble_eq_true rfl)) ?_
    simp only [nrm, Nat.reduceAdd, Nat.reduceMul, Nat.reduceSub, Int.reduceToNat, Int.reduceAdd]
    refine opsR_o rfl (o_alloc fun b16 hb16 => ?_)
    simp only [nrm, Nat.reduceAdd, Nat.reduceMul, Nat.reduceSub, Int.reduceToNat, Int.reduceAdd]
    refine opsR_o rfl (o_storeB rfl rfl inferInstance (by first | rfl | assumption) (by first | rfl | exact Kd.one _ (by assumption) | assumption) (by first | rfl | (refine Nat.ble_eq_true_of_le ?_; (try simp only [Int.toNat_natCast]); omega)) ?_)
    simp only [nrm, Nat.reduceAdd, Nat.reduceMul, Nat.reduceSub, Int.reduceToNat, Int.reduceAdd]
    refine opsR_nil ?_
    refine hk14 _ _ ?_
    clear hk14
    refine run_seq fun _ hk17 => ?_
    refine run_region ?_
    refine opsR_q rfl (q_move) ?_
    simp only [nrm]
    refine opsR_q rfl (q_move) ?_
    simp only [nrm]
    refine opsR_index rfl rfl rfl slrA (by rfl) idxA idxA fun b18 o18 cs18 ha18 hr18 he18 => ?_
    simp only [nrm, Nat.reduceAdd, Nat.reduceMul, Nat.reduceSub, Int.reduceToNat, Int.reduceAdd]
    try simp only [Int.toNat_natCast, Int.reduceToNat, Int.toNat_zero] at hr18
    try simp only [Int.toNat_natCast, Int.reduceToNat, Int.toNat_zero] at he18
    clear ha18
    obtain ⟨w18_Values, rfl, h18_Values⟩ := kReq.open hr18
    refine opsR_q rfl (q_fieldAddr rfl) ?_
    simp only [nrm, Nat.reduceAdd, Nat.reduceMul, Nat.reduceSub, Int.reduceToNat, Int.reduceAdd]
    refine opsR_q rfl (by first | exact q_load_at1 (i := 0) rfl (by first | assumption | exact El.mono (by assumption) leA) rfl (Nat.le_of_ble_eq_true rfl) rfl | exact q_load_at1 rfl (by first | assumption | exact El.mono (by assumption) leA) rfl (Nat.le_of_ble_eq_true rfl) rfl) ?_
    simp only [nrm, Nat.reduceAdd, Nat.reduceMul, Nat.reduceSub, Int.reduceToNat, Int.reduceAdd]
    refine opsR_o rfl (o_call rfl ((TextsO_spec (by first | assumption | (refine Sl.mono ?_ (by assumption); exact leA)) (by omega)).toR _ fun vX JX hJX hvX => ?_))
    try dsimp only at hJX hvX
    try (have hrX : Hp.le s.I JX := leA; have hJX := hJX)
    simp only [nrm, Nat.reduceAdd, Nat.reduceMul, Nat.reduceSub, Int.reduceToNat, Int.reduceAdd]
    obtain ⟨AX, cX, rfl, _, _⟩ := hvX.shape
    refine opsR_q rfl (q_fieldAddr rfl) ?_
    simp only [nrm, Nat.reduceAdd, Nat.reduceMul, Nat.reduceSub, Int.reduceToNat, Int.reduceAdd]
    refine opsR_o rfl (o_storeB rfl rfl inferInstance (by first | rfl | assumption) (by first | rfl | exact Kd.one _ (by assumption) | assumption) (by first | rfl | (refine Nat.ble_eq_true_of_le ?_; (try simp only [Int.toNat_natCast]); omega)) ?_)
    simp only [nrm, Nat.reduceAdd, Nat.reduceMul, Nat.reduceSub, Int.reduceToNat, Int.reduceAdd]
    refine opsR_nil ?_
    refine hk17 _ _ ?_
    clear hk17
    refine run_region ?_
    refine opsR_q rfl (q_move) ?_
    simp only [nrm]
    refine opsR_q rfl (by first | exact q_loadBN rfl inferInstance (by rfl) | exact q_loadBW rfl inferInstance (by assumption)) ?_
    simp only [nrm, Nat.reduceAdd, Nat.reduceMul, Nat.reduceSub, Int.reduceToNat, Int.reduceAdd]
    refine opsR_slice1 kReq (w := l[i]!) rfl rfl (by rfl) (by decide) (by decide) (by rfl) (by first | rfl | assumption | exact kReq.shut | (refine Kd.mono _ ?_ (by assumption); exact leA) | (apply kReq.shut <;> assumption)) fun v22 hs22 hv22 => ?_
    simp only [nrm, Nat.reduceAdd, Nat.reduceMul, Nat.reduceSub, Int.reduceToNat, Int.reduceAdd]
    refine opsR_app rfl rfl rfl (by first | assumption | (refine OwnS.mono ?_ (by assumption); exact leA)) (by infer_instance) slrA (by rfl) (by rfl) rfl rfl idxA fun v23 hs23 hv23 => ?_
    simp only [nrm, Nat.reduceAdd, Nat.reduceMul, Nat.reduceSub, Int.reduceToNat, Int.reduceAdd]
    refine opsR_dropS (hs := hs22) ?_
    try simp only [nrm, Nat.reduceAdd, Nat.reduceMul, Nat.reduceSub, Int.reduceToNat, Int.reduceAdd]
    refine opsR_q rfl (q_assign) ?_
    simp only [nrm]
    refine opsR_nil ?_
    refine hk13 _ _ ?_
    clear hk13
    refine run_gh Gh.drop ?_
    refine run_region ?_
    refine opsR_q rfl (q_move) ?_
    simp only [nrm]
    refine opsR_q rfl (by first | exact q_add64 rfl rfl (by omega) (by omega) | exact q_add rfl rfl) ?_
    simp only [nrm, Nat.reduceAdd, Nat.reduceMul, Nat.reduceSub, Int.reduceToNat, Int.reduceAdd]
    refine opsR_q rfl (q_assign) ?_
    simp only [nrm]
    refine opsR_nil ?_
    first
    | exact hkl7 _ _ _ _ (by omega) ⟨i + 1, _, _, _, _, rfl, rfl, rfl, by first | omega | exact OwnS.cast (by assumption) rfl | exact OwnS.cast (by assumption) (take_succ! (by omega)).symm | exact leA, by first | omega | exact OwnS.cast (by assumption) rfl | exact OwnS.cast (by assumption) (take_succ! (by omega)).symm | exact leA, by first | omega | exact OwnS.cast (by assumption) rfl | exact OwnS.cast (by assumption) (take_succ! (by omega)).symm | exact leA⟩ rfl
  · have hc12 := ho12; try simp only [spl] at hc12
    refine run_exit ?_
    refine hk5 _ _ ?_
    clear hk5
    refine run_seq fun _ hk25 => ?_
    refine run_region ?_
    refine opsR_q rfl (q_move) ?_
    simp only [nrm]
    refine opsR_q rfl (q_assign) ?_
    simp only [nrm]
    refine opsR_nil ?_
    refine hk25 _ _ ?_
    clear hk25
    have hO := OwnS.cast hO (take_all (by omega))
    refine run_ret ?_
    exact end_tmp rfl rfl rfl .refl (hK _ _ _ hJ hO)
theorem term_bulk (x : Term) : kReq.slice.bulk x.Reqs + 1 ≤ kTerm.bulk x := by
  simp only [kTerm, Kd.iso, Kd.pair, kStr]; omega
theorem terms_bulk (l : List Term) : l.length + 1 ≤ kTerm.slice.bulk l := bulk_len (k := kTerm) (fun x => by have := term_bulk x; omega) l
theorem terms_spec {l : List Term} {v : Value} {s : St} (hl : Sl kTerm s.I v l) (hb : kTerm.slice.bulk l ≤ 1073741824) : CallO Tryz.prog 26 #[v] s (fun J u hs => OwnS kTerm 102 J u hs l) := by
  intro K hK
  have hbl := terms_bulk l
  refine callS_of_run Tryz.func26 rfl ?_; simp only [Tryz.ntmps26, List.size_toArray, List.length_cons, List.length_nil, Nat.reduceAdd, Nat.reduceSub, Array.replicate_succ, Array.replicate_zero, List.push_toArray, List.append_toArray, List.nil_append, List.cons_append]
  refine run_seq fun _ hk1 => ?_
  refine run_region ?_
  refine opsR_q rfl (q_assign) ?_
  simp only [nrm]
  refine opsR_nil ?_
  refine hk1 _ _ ?_
  clear hk1
  refine run_seq fun _ hk2 => ?_
  refine run_region ?_
  refine opsR_slice0 kTerm rfl fun v3 hs3 hv3 => ?_
  simp only [nrm, Nat.reduceAdd, Nat.reduceMul, Nat.reduceSub, Int.reduceToNat, Int.reduceAdd]
  refine opsR_q rfl (q_assign) ?_
  simp only [nrm]
  refine opsR_nil ?_
  refine hk2 _ _ ?_
  clear hk2
  refine run_seq fun _ hk5 => ?_
  refine run_seq fun _ hk6 => ?_
  refine run_region ?_
  refine opsR_q rfl (q_assign) ?_
  simp only [nrm]
  refine opsR_nil ?_
  refine hk6 _ _ ?_
  clear hk6
  refine run_block ?_
  refine run_loopF [0, 0, 0, 2, 2, 0, 1, 1, 1, 1, 1, 1, 1, 1, 1, 1, 1, 1, 1, 1, 1, 1, 1, 1, 1, 1, 1, 0] (fun zn zL zst => ∃ (i : Nat) (v' : Value) (J : Hp) (hs : (List (Nat × Obj))), zL = [v', .int .i64 (i : Nat)] ∧ ⟨J, hs ++ s.cs⟩ = zst ∧ zn = l.length - i ∧ (i ≤ l.length) ∧ (Hp.le s.I J) ∧ (OwnS kTerm 102 J v' hs (l.take i))) _ _ ⟨0, _, s.I, _, rfl, rfl, rfl, by first | assumption | omega | exact Hp.le.rfl | rfl | exact all_zero | exact all_succ (by assumption) (by assumption) | (intro _; omega) | (simp; done), by first | assumption | omega | exact Hp.le.rfl | rfl | exact all_zero | exact all_succ (by assumption) (by assumption) | (intro _; omega) | (simp; done), by first | assumption | omega | exact Hp.le.rfl | rfl | exact all_zero | exact all_succ (by assumption) (by assumption) | (intro _; omega) | (simp; done)⟩ rfl ?_
  rintro _ _ _ jv7 ⟨i, v', J, hs, rfl, rfl, rfl, hi, hJ, hO⟩ K7 hkl7
  simp only [fr, Nat.zero_add, Nat.reduceAdd]
  have hbi := fun h : i < l.length => (mem_bulk (k := kTerm) (mem_get! h))
  have hbr := term_bulk l[i]!
  refine run_seq fun _ hk8 => ?_
  refine run_seq fun _ hk9 => ?_
  refine run_region ?_
  refine opsR_q rfl (q_move) ?_
  simp only [nrm]
  refine opsR_q rfl (q_move) ?_
  simp only [nrm]
  refine opsR_q rfl (q_len_v rfl (by first | exact Sl.len (by assumption) | exact OwnS.len (by assumption) | exact SlR.len (by assumption) | assumption)) ?_
  simp only [nrm, Nat.reduceAdd, Nat.reduceMul, Nat.reduceSub, Int.reduceToNat, Int.reduceAdd]
  refine opsR_q rfl (q_lss rfl rfl) ?_
  simp only [nrm, Nat.reduceAdd, Nat.reduceMul, Nat.reduceSub, Int.reduceToNat, Int.reduceAdd]
  refine opsR_nil ?_
  refine hk9 _ _ ?_
  clear hk9
  refine run_cond rfl (fun ho12 => ?_) (fun ho12 => ?_)
  · have hc12 := ho12; try simp only [spl] at hc12
    refine run_skip ?_
    refine hk8 _ _ ?_
    clear hk8
    refine run_seq fun _ hk13 => ?_
    refine run_block ?_
    have hbi := hbi (by omega)
    refine run_mixL mixed [true, true, true, true, true, false, false, true, true, true, true, false, false, false, false, false] [false, false, false, false, false, false, false, false, false, false, false, false, false, false, false, false] [5, 6, 11, 12, 13, 14, 15] (fun _ => True) (by kernel_rfl) rfl trivial ?_
    refine oblK_k rfl (fun z hz => (q_move)) ?_
    simp only [nrm, Nat.reduceAdd, Nat.reduceMul, Nat.reduceSub, Int.reduceToNat, Int.reduceAdd]
    refine oblK_k rfl (fun z hz => (q_move)) ?_
    simp only [nrm, Nat.reduceAdd, Nat.reduceMul, Nat.reduceSub, Int.reduceToNat, Int.reduceAdd]
    refine oblK_k rfl (fun z hz => (q_move)) ?_
    simp only [nrm, Nat.reduceAdd, Nat.reduceMul, Nat.reduceSub, Int.reduceToNat, Int.reduceAdd]
    refine oblK_index rfl rfl rfl slrA (by rfl) idxA idxA fun b14 o14 cs14 ha14 hr14 he14 => ?_
    simp only [nrm, Nat.reduceAdd, Nat.reduceMul, Nat.reduceSub, Int.reduceToNat, Int.reduceAdd]
    try simp only [Int.toNat_natCast, Int.reduceToNat, Int.toNat_zero] at hr14
    try simp only [Int.toNat_natCast, Int.reduceToNat, Int.toNat_zero] at he14
    clear ha14
    obtain ⟨w14_Reqs, rfl, h14_Reqs⟩ := kTerm.open hr14
    refine oblK_k rfl (fun z hz => (q_fieldAddr rfl)) ?_
    simp only [nrm, Nat.reduceAdd, Nat.reduceMul, Nat.reduceSub, Int.reduceToNat, Int.reduceAdd]
    refine oblK_r ?_
    refine oblK_r ?_
    refine oblK_k rfl (fun z hz => (q_move)) ?_
    simp only [nrm, Nat.reduceAdd, Nat.reduceMul, Nat.reduceSub, Int.reduceToNat, Int.reduceAdd]
    refine oblK_k rfl (fun z hz => (q_move)) ?_
    simp only [nrm, Nat.reduceAdd, Nat.reduceMul, Nat.reduceSub, Int.reduceToNat, Int.reduceAdd]
    refine oblK_index rfl rfl rfl slrA (by rfl) idxA idxA fun b15 o15 cs15 ha15 hr15 he15 => ?_
    simp only [nrm, Nat.reduceAdd, Nat.reduceMul, Nat.reduceSub, Int.reduceToNat, Int.reduceAdd]
    try simp only [Int.toNat_natCast, Int.reduceToNat, Int.toNat_zero] at hr15
    try simp only [Int.toNat_natCast, Int.reduceToNat, Int.toNat_zero] at he15
    clear ha15
    obtain ⟨w15_Reqs, rfl, h15_Reqs⟩ := kTerm.open hr15
    refine oblK_k rfl (fun z hz => (q_fieldAddr rfl)) ?_
    simp only [nrm, Nat.reduceAdd, Nat.reduceMul, Nat.reduceSub, Int.reduceToNat, Int.reduceAdd]
    refine oblK_r ?_
    refine oblK_r ?_
    refine oblK_r ?_
    refine oblK_r ?_
    refine oblK_r ?_
    refine oblK_nil ?_
    refine restK_pick [5, 11] (by kernel_rfl) ⟨?_, ?_, trivial⟩
    · skip
      refine restK_op rfl ?_
      simp only [List.getElem_toArray, List.getElem_cons_zero, List.getElem_cons_succ]
      refine opsR_q rfl (by first | exact q_load_at1 (i := 0) rfl (by first | assumption | exact El.mono (by assumption) leA) rfl (Nat.le_of_ble_eq_true rfl) rfl | exact q_load_at1 rfl (by first | assumption | exact El.mono (by assumption) leA) rfl (Nat.le_of_ble_eq_true rfl) rfl) ?_
      simp only [nrm, Nat.reduceAdd, Nat.reduceMul, Nat.reduceSub, Int.reduceToNat, Int.reduceAdd]
      refine opsR_nil ⟨rfl, rfl, trivial, ?_⟩
      refine restK_pick [6, 11] (by kernel_rfl) ⟨?_, ?_, trivial⟩
      · skip
        refine restK_op rfl ?_
        simp only [List.getElem_toArray, List.getElem_cons_zero, List.getElem_cons_succ]
        refine opsR_o rfl (o_call rfl ((ReqsO_spec (by first | assumption | (refine Sl.mono ?_ (by assumption); exact leA)) (by omega)).toR _ fun vX JX hJX hvX => ?_))
        try dsimp only at hJX hvX
        try (have hrX : Hp.le s.I JX := leA; have hJX := hJX)
        simp only [nrm, Nat.reduceAdd, Nat.reduceMul, Nat.reduceSub, Int.reduceToNat, Int.reduceAdd]
        obtain ⟨AX, cX, rfl, _, _⟩ := hvX.shape
        refine opsR_nil ⟨rfl, rfl, trivial, ?_⟩
        refine restK_pick [11] (by kernel_rfl) ⟨?_, trivial⟩
        refine restK_op rfl ?_
        simp only [List.getElem_toArray, List.getElem_cons_zero, List.getElem_cons_succ]
        refine opsR_q rfl (by first | exact q_load_at1 (i := 0) rfl (by first | assumption | exact El.mono (by assumption) leA) rfl (Nat.le_of_ble_eq_true rfl) rfl | exact q_load_at1 rfl (by first | assumption | exact El.mono (by assumption) leA) rfl (Nat.le_of_ble_eq_true rfl) rfl) ?_
        simp only [nrm, Nat.reduceAdd, Nat.reduceMul, Nat.reduceSub, Int.reduceToNat, Int.reduceAdd]
        refine opsR_nil ⟨rfl, rfl, trivial, ?_⟩
        refine restK_pick [12] (by kernel_rfl) ⟨?_, trivial⟩
        refine restK_op rfl ?_
        simp only [List.getElem_toArray, List.getElem_cons_zero, List.getElem_cons_succ]
        refine opsR_q rfl (q_build rfl) ?_
        simp only [nrm, Nat.reduceAdd, Nat.reduceMul, Nat.reduceSub, Int.reduceToNat, Int.reduceAdd]
        refine opsR_nil ⟨rfl, rfl, trivial, ?_⟩
        refine restK_pick [13] (by kernel_rfl) ⟨?_, trivial⟩
        refine restK_op rfl ?_
        simp only [List.getElem_toArray, List.getElem_cons_zero, List.getElem_cons_succ]
        refine opsR_slice1 kTerm (w := l[i]!) rfl rfl (by rfl) (by decide) (by decide) (by rfl) (by first | rfl | assumption | exact kTerm.shut | (refine Kd.mono _ ?_ (by assumption); exact leA) | (apply kTerm.shut <;> assumption)) fun v17 hs17 hv17 => ?_
        simp only [nrm, Nat.reduceAdd, Nat.reduceMul, Nat.reduceSub, Int.reduceToNat, Int.reduceAdd]
        refine opsR_nil ⟨rfl, rfl, trivial, ?_⟩
        refine restK_pick [14] (by kernel_rfl) ⟨?_, trivial⟩
        refine restK_op rfl ?_
        simp only [List.getElem_toArray, List.getElem_cons_zero, List.getElem_cons_succ]
        refine opsR_app rfl rfl rfl (by first | assumption | (refine OwnS.mono ?_ (by assumption); exact leA)) (by infer_instance) slrA (by rfl) (by rfl) rfl rfl idxA fun v18 hs18 hv18 => ?_
        simp only [nrm, Nat.reduceAdd, Nat.reduceMul, Nat.reduceSub, Int.reduceToNat, Int.reduceAdd]
        refine opsR_dropS (hs := hs17) ?_
        try simp only [nrm, Nat.reduceAdd, Nat.reduceMul, Nat.reduceSub, Int.reduceToNat, Int.reduceAdd]
        refine opsR_nil ⟨rfl, rfl, trivial, ?_⟩
        refine restK_pick [15] (by kernel_rfl) ⟨?_, trivial⟩
        refine restK_op rfl ?_
        simp only [List.getElem_toArray, List.getElem_cons_zero, List.getElem_cons_succ]
        refine opsR_q rfl (q_assign) ?_
        simp only [nrm]
        refine opsR_nil ⟨rfl, rfl, trivial, ?_⟩
        refine restK_end rfl ?_
        try simp only [nrm, Nat.reduceAdd, Nat.reduceMul, Nat.reduceSub, Int.reduceToNat, Int.reduceAdd]
        refine hk13 _ _ ?_
        clear hk13
        refine run_region ?_
        refine opsR_q rfl (q_move) ?_
        simp only [nrm]
        refine opsR_q rfl (by first | exact q_add64 rfl rfl (by omega) (by omega) | exact q_add rfl rfl) ?_
        simp only [nrm, Nat.reduceAdd, Nat.reduceMul, Nat.reduceSub, Int.reduceToNat, Int.reduceAdd]
        refine opsR_q rfl (q_assign) ?_
        simp only [nrm]
        refine opsR_nil ?_
        first
        | exact hkl7 _ _ _ _ (by omega) ⟨i + 1, _, _, _, rfl, rfl, rfl, by first | omega | exact OwnS.cast (by assumption) rfl | exact OwnS.cast (by assumption) (take_succ! (by omega)).symm | exact leA, by first | omega | exact OwnS.cast (by assumption) rfl | exact OwnS.cast (by assumption) (take_succ! (by omega)).symm | exact leA, by first | omega | exact OwnS.cast (by assumption) rfl | exact OwnS.cast (by assumption) (take_succ! (by omega)).symm | exact leA⟩ rfl
      · skip
        refine restK_op rfl ?_
        simp only [List.getElem_toArray, List.getElem_cons_zero, List.getElem_cons_succ]
        refine opsR_q rfl (by first | exact q_load_at1 (i := 0) rfl (by first | assumption | exact El.mono (by assumption) leA) rfl (Nat.le_of_ble_eq_true rfl) rfl | exact q_load_at1 rfl (by first | assumption | exact El.mono (by assumption) leA) rfl (Nat.le_of_ble_eq_true rfl) rfl) ?_
        simp only [nrm, Nat.reduceAdd, Nat.reduceMul, Nat.reduceSub, Int.reduceToNat, Int.reduceAdd]
        refine opsR_nil ⟨rfl, rfl, trivial, ?_⟩
        refine restK_pick [6] (by kernel_rfl) ⟨?_, trivial⟩
        refine restK_op rfl ?_
        simp only [List.getElem_toArray, List.getElem_cons_zero, List.getElem_cons_succ]
        refine opsR_o rfl (o_call rfl ((ReqsO_spec (by first | assumption | (refine Sl.mono ?_ (by assumption); exact leA)) (by omega)).toR _ fun vX JX hJX hvX => ?_))
        try dsimp only at hJX hvX
        try (have hrX : Hp.le s.I JX := leA; have hJX := hJX)
        simp only [nrm, Nat.reduceAdd, Nat.reduceMul, Nat.reduceSub, Int.reduceToNat, Int.reduceAdd]
        obtain ⟨AX, cX, rfl, _, _⟩ := hvX.shape
        refine opsR_nil ⟨rfl, rfl, trivial, ?_⟩
        refine restK_pick [12] (by kernel_rfl) ⟨?_, trivial⟩
        refine restK_op rfl ?_
        simp only [List.getElem_toArray, List.getElem_cons_zero, List.getElem_cons_succ]
        refine opsR_q rfl (q_build rfl) ?_
        simp only [nrm, Nat.reduceAdd, Nat.reduceMul, Nat.reduceSub, Int.reduceToNat, Int.reduceAdd]
        refine opsR_nil ⟨rfl, rfl, trivial, ?_⟩
        refine restK_pick [13] (by kernel_rfl) ⟨?_, trivial⟩
        refine restK_op rfl ?_
        simp only [List.getElem_toArray, List.getElem_cons_zero, List.getElem_cons_succ]
        refine opsR_slice1 kTerm (w := l[i]!) rfl rfl (by rfl) (by decide) (by decide) (by rfl) (by first | rfl | assumption | exact kTerm.shut | (refine Kd.mono _ ?_ (by assumption); exact leA) | (apply kTerm.shut <;> assumption)) fun v20 hs20 hv20 => ?_
        simp only [nrm, Nat.reduceAdd, Nat.reduceMul, Nat.reduceSub, Int.reduceToNat, Int.reduceAdd]
        refine opsR_nil ⟨rfl, rfl, trivial, ?_⟩
        refine restK_pick [14] (by kernel_rfl) ⟨?_, trivial⟩
        refine restK_op rfl ?_
        simp only [List.getElem_toArray, List.getElem_cons_zero, List.getElem_cons_succ]
        refine opsR_app rfl rfl rfl (by first | assumption | (refine OwnS.mono ?_ (by assumption); exact leA)) (by infer_instance) slrA (by rfl) (by rfl) rfl rfl idxA fun v21 hs21 hv21 => ?_
        simp only [nrm, Nat.reduceAdd, Nat.reduceMul, Nat.reduceSub, Int.reduceToNat, Int.reduceAdd]
        refine opsR_dropS (hs := hs20) ?_
        try simp only [nrm, Nat.reduceAdd, Nat.reduceMul, Nat.reduceSub, Int.reduceToNat, Int.reduceAdd]
        refine opsR_nil ⟨rfl, rfl, trivial, ?_⟩
        refine restK_pick [15] (by kernel_rfl) ⟨?_, trivial⟩
        refine restK_op rfl ?_
        simp only [List.getElem_toArray, List.getElem_cons_zero, List.getElem_cons_succ]
        refine opsR_q rfl (q_assign) ?_
        simp only [nrm]
        refine opsR_nil ⟨rfl, rfl, trivial, ?_⟩
        refine restK_end rfl ?_
        try simp only [nrm, Nat.reduceAdd, Nat.reduceMul, Nat.reduceSub, Int.reduceToNat, Int.reduceAdd]
        refine hk13 _ _ ?_
        clear hk13
        refine run_region ?_
        refine opsR_q rfl (q_move) ?_
        simp only [nrm]
        refine opsR_q rfl (by first | exact q_add64 rfl rfl (by omega) (by omega) | exact q_add rfl rfl) ?_
        simp only [nrm, Nat.reduceAdd, Nat.reduceMul, Nat.reduceSub, Int.reduceToNat, Int.reduceAdd]
        refine opsR_q rfl (q_assign) ?_
        simp only [nrm]
        refine opsR_nil ?_
        first
        | exact hkl7 _ _ _ _ (by omega) ⟨i + 1, _, _, _, rfl, rfl, rfl, by first | omega | exact OwnS.cast (by assumption) rfl | exact OwnS.cast (by assumption) (take_succ! (by omega)).symm | exact leA, by first | omega | exact OwnS.cast (by assumption) rfl | exact OwnS.cast (by assumption) (take_succ! (by omega)).symm | exact leA, by first | omega | exact OwnS.cast (by assumption) rfl | exact OwnS.cast (by assumption) (take_succ! (by omega)).symm | exact leA⟩ rfl
    · skip
      refine restK_op rfl ?_
      simp only [List.getElem_toArray, List.getElem_cons_zero, List.getElem_cons_succ]
      refine opsR_q rfl (by first | exact q_load_at1 (i := 0) rfl (by first | assumption | exact El.mono (by assumption) leA) rfl (Nat.le_of_ble_eq_true rfl) rfl | exact q_load_at1 rfl (by first | assumption | exact El.mono (by assumption) leA) rfl (Nat.le_of_ble_eq_true rfl) rfl) ?_
      simp only [nrm, Nat.reduceAdd, Nat.reduceMul, Nat.reduceSub, Int.reduceToNat, Int.reduceAdd]
      refine opsR_nil ⟨rfl, rfl, trivial, ?_⟩
      refine restK_pick [5] (by kernel_rfl) ⟨?_, trivial⟩
      refine restK_op rfl ?_
      simp only [List.getElem_toArray, List.getElem_cons_zero, List.getElem_cons_succ]
      refine opsR_q rfl (by first | exact q_load_at1 (i := 0) rfl (by first | assumption | exact El.mono (by assumption) leA) rfl (Nat.le_of_ble_eq_true rfl) rfl | exact q_load_at1 rfl (by first | assumption | exact El.mono (by assumption) leA) rfl (Nat.le_of_ble_eq_true rfl) rfl) ?_
      simp only [nrm, Nat.reduceAdd, Nat.reduceMul, Nat.reduceSub, Int.reduceToNat, Int.reduceAdd]
      refine opsR_nil ⟨rfl, rfl, trivial, ?_⟩
      refine restK_pick [6] (by kernel_rfl) ⟨?_, trivial⟩
      refine restK_op rfl ?_
      simp only [List.getElem_toArray, List.getElem_cons_zero, List.getElem_cons_succ]
      refine opsR_o rfl (o_call rfl ((ReqsO_spec (by first | assumption | (refine Sl.mono ?_ (by assumption); exact leA)) (by omega)).toR _ fun vX JX hJX hvX => ?_))
      try dsimp only at hJX hvX
      try (have hrX : Hp.le s.I JX := leA; have hJX := hJX)
      simp only [nrm, Nat.reduceAdd, Nat.reduceMul, Nat.reduceSub, Int.reduceToNat, Int.reduceAdd]
      obtain ⟨AX, cX, rfl, _, _⟩ := hvX.shape
      refine opsR_nil ⟨rfl, rfl, trivial, ?_⟩
      refine restK_pick [12] (by kernel_rfl) ⟨?_, trivial⟩
      refine restK_op rfl ?_
      simp only [List.getElem_toArray, List.getElem_cons_zero, List.getElem_cons_succ]
      refine opsR_q rfl (q_build rfl) ?_
      simp only [nrm, Nat.reduceAdd, Nat.reduceMul, Nat.reduceSub, Int.reduceToNat, Int.reduceAdd]
      refine opsR_nil ⟨rfl, rfl, trivial, ?_⟩
      refine restK_pick [13] (by kernel_rfl) ⟨?_, trivial⟩
      refine restK_op rfl ?_
      simp only [List.getElem_toArray, List.getElem_cons_zero, List.getElem_cons_succ]
      refine opsR_slice1 kTerm (w := l[i]!) rfl rfl (by rfl) (by decide) (by decide) (by rfl) (by first | rfl | assumption | exact kTerm.shut | (refine Kd.mono _ ?_ (by assumption); exact leA) | (apply kTerm.shut <;> assumption)) fun v23 hs23 hv23 => ?_
      simp only [nrm, Nat.reduceAdd, Nat.reduceMul, Nat.reduceSub, Int.reduceToNat, Int.reduceAdd]
      refine opsR_nil ⟨rfl, rfl, trivial, ?_⟩
      refine restK_pick [14] (by kernel_rfl) ⟨?_, trivial⟩
      refine restK_op rfl ?_
      simp only [List.getElem_toArray, List.getElem_cons_zero, List.getElem_cons_succ]
      refine opsR_app rfl rfl rfl (by first | assumption | (refine OwnS.mono ?_ (by assumption); exact leA)) (by infer_instance) slrA (by rfl) (by rfl) rfl rfl idxA fun v24 hs24 hv24 => ?_
      simp only [nrm, Nat.reduceAdd, Nat.reduceMul, Nat.reduceSub, Int.reduceToNat, Int.reduceAdd]
      refine opsR_dropS (hs := hs23) ?_
      try simp only [nrm, Nat.reduceAdd, Nat.reduceMul, Nat.reduceSub, Int.reduceToNat, Int.reduceAdd]
      refine opsR_nil ⟨rfl, rfl, trivial, ?_⟩
      refine restK_pick [15] (by kernel_rfl) ⟨?_, trivial⟩
      refine restK_op rfl ?_
      simp only [List.getElem_toArray, List.getElem_cons_zero, List.getElem_cons_succ]
      refine opsR_q rfl (q_assign) ?_
      simp only [nrm]
      refine opsR_nil ⟨rfl, rfl, trivial, ?_⟩
      refine restK_end rfl ?_
      try simp only [nrm, Nat.reduceAdd, Nat.reduceMul, Nat.reduceSub, Int.reduceToNat, Int.reduceAdd]
      refine hk13 _ _ ?_
      clear hk13
      refine run_region ?_
      refine opsR_q rfl (q_move) ?_
      simp only [nrm]
      refine opsR_q rfl (by first | exact q_add64 rfl rfl (by omega) (by omega) | exact q_add rfl rfl) ?_
      simp only [nrm, Nat.reduceAdd, Nat.reduceMul, Nat.reduceSub, Int.reduceToNat, Int.reduceAdd]
      refine opsR_q rfl (q_assign) ?_
      simp only [nrm]
      refine opsR_nil ?_
      first
      | exact hkl7 _ _ _ _ (by omega) ⟨i + 1, _, _, _, rfl, rfl, rfl, by first | omega | exact OwnS.cast (by assumption) rfl | exact OwnS.cast (by assumption) (take_succ! (by omega)).symm | exact leA, by first | omega | exact OwnS.cast (by assumption) rfl | exact OwnS.cast (by assumption) (take_succ! (by omega)).symm | exact leA, by first | omega | exact OwnS.cast (by assumption) rfl | exact OwnS.cast (by assumption) (take_succ! (by omega)).symm | exact leA⟩ rfl
  · have hc12 := ho12; try simp only [spl] at hc12
    refine run_exit ?_
    refine hk5 _ _ ?_
    clear hk5
    refine run_seq fun _ hk25 => ?_
    refine run_region ?_
    refine opsR_q rfl (q_move) ?_
    simp only [nrm]
    refine opsR_q rfl (q_assign) ?_
    simp only [nrm]
    refine opsR_nil ?_
    refine hk25 _ _ ?_
    clear hk25
    have hO := OwnS.cast hO (take_all (by omega))
    refine run_ret ?_
    exact end_tmp rfl rfl rfl .refl (hK _ _ _ hJ hO)
end
end Go.Proofs.YtcnbcblihepbmaaGreatDoor
