/- The laws of chapter 3: more walks. -/
import Derived.Test.YtgeidcdelpenjaaDoorLA3
set_option autoImplicit false
set_option linter.unusedVariables false
set_option linter.unusedSimpArgs false
namespace Go.Proofs.YtgeidcdelpenjaaDoor
open Go Go.RowKit
section
theorem borne_append {b c : List Bear} {t : Taint} : borneOf (b ++ c) t = (borneOf b t || borneOf c t) := List.any_append
theorem openP_more {b c : List Bear} {e : Int} {t : Taint} (h : openP (b ++ c) e t = true) : openP b e t = true := by
  simp only [openP, borne_append, Bool.and_eq_true, Bool.not_eq_true', Bool.or_eq_false_iff] at h ⊢
  exact ⟨h.1, h.2.1⟩
theorem open_more {l : List Taint} {b c : List Bear} {e : Int} : ((openOf l (b ++ c) e).length : Int) ≤ (openOf l b e).length := by
  have : (openOf l (b ++ c) e).length ≤ (openOf l b e).length := by
    unfold openOf
    rw [← List.countP_eq_length_filter, ← List.countP_eq_length_filter]
    exact List.countP_mono_left fun t _ h => openP_more h
  omega
theorem kept_len {l : List Taint} {b : List Bear} : isKept l b = decide (0 < (openOf l b 1).length) := by
  rw [isKept]; cases openOf l b 1 <;> simp
theorem kept_more {l : List Taint} {b c : List Bear} (h : isKept l b = false) : isKept l (b ++ c) = false := by
  rw [kept_len, decide_eq_false_iff_not] at h ⊢
  have := open_more (l := l) (b := b) (c := c) (e := 1)
  omega
theorem all_borne {b : List Bear} {t : Taint} (h : (⟨⟨#[]⟩, ⟨#[]⟩, true, 0⟩ : Bear) ∈ b) : borneOf b t = true := by
  unfold borneOf
  rw [List.any_eq_true]
  refine ⟨_, h, ?_⟩
  rw [bears_def]
  exact ⟨.inl rfl, .inr ⟨rfl, rfl⟩, .inl rfl⟩
theorem all_open {l : List Taint} {b : List Bear} {e : Int} (h : (⟨⟨#[]⟩, ⟨#[]⟩, true, 0⟩ : Bear) ∈ b) : openOf l b e = [] := by
  unfold openOf
  rw [List.filter_eq_nil_iff]
  intro t _
  rw [openP, all_borne h]; simp
theorem open_snoc {l : List Taint} {t : Taint} {b : List Bear} {e : Int} : openOf (l ++ [t]) b e = openOf l b e ++ (if openP b e t then [t] else []) := by
  unfold openOf
  rw [List.filter_append, List.filter_cons, List.filter_nil]
theorem kept_snoc {l : List Taint} {t : Taint} {b : List Bear} : isKept (l ++ [t]) b = (isKept l b || openP b 1 t) := by
  rw [isKept, isKept, open_snoc]
  cases openOf l b 1 <;> cases openP b 1 t <;> rfl
theorem shy_snoc {l : List Taint} {t : Taint} {b : List Bear} : shyOf (l ++ [t]) b = shyOf l b + (if openP b 2 t then 1 else 0) := by
  rw [shyOf, shyOf, open_snoc]
  cases openP b 2 t <;> simp
theorem shy_bd (l : List Taint) (b : List Bear) : 0 ≤ shyOf l b ∧ shyOf l b ≤ l.length := by
  unfold shyOf openOf
  have := List.length_filter_le (openP b 2) l
  omega
theorem openP_borne {b : List Bear} {t : Taint} {e : Int} (h : borneOf b t = true) : openP b e t = false := by simp [openP, h]
theorem openP_free {b : List Bear} {t : Taint} {e : Int} (h : borneOf b t = false) : openP b e t = decide (t.Effect = e) := by simp [openP, h]
end
/-- A number made one from 0 to m - 1. -/
def amongOf (n m : Int) : Int := IntKind.i64.wrap ((IntKind.u64.wrap n).tmod (IntKind.u64.wrap m))
theorem wrap_u64_bd (d : Int) : 0 ≤ IntKind.u64.wrap d ∧ IntKind.u64.wrap d ≤ 18446744073709551615 := by
  unfold IntKind.wrap
  have e1 : IntKind.u64.signed = false := rfl
  have e2 : IntKind.u64.bits = 64 := rfl
  simp only [e1, e2, Bool.false_and, Nat.reduceSub, Bool.false_eq_true, if_false, decide_false]
  omega
theorem among_bd (n : Int) {m : Int} (h : 0 < m) (h2 : m ≤ 9223372036854775807) : 0 ≤ amongOf n m ∧ amongOf n m < m := by
  have hw := wrap_u64_id (n := m) (by omega) (by omega)
  have h1 := (wrap_u64_bd n).1
  have hm := Int.emod_nonneg (IntKind.u64.wrap n) (by omega : m ≠ 0)
  have hm2 := Int.emod_lt_of_pos (IntKind.u64.wrap n) h
  rw [amongOf, hw, Int.tmod_eq_emod_of_nonneg h1, wrap_i64_id (by omega) (by omega)]
  exact ⟨hm, hm2⟩
section
attribute [local irreducible] Quiet OpsR Run CallS opS Gh endQ oblE RunN swp Go.Op.equalIn
theorem Among_spec {n m : Int} {s : St} (h : 0 < m) (h2 : m ≤ 9223372036854775807) : CallV Tryd.prog 21 #[.int .i64 n, .int .i64 m] s (.int .i64 (amongOf n m)) := by
  intro K hK
  have hw : IntKind.u64.wrap m ≠ 0 := by rw [wrap_u64_id (n := m) (by omega) (by omega)]; omega
  refine callS_of_run Tryd.func21 rfl ?_; simp only [Tryd.ntmps21, List.size_toArray, List.length_cons, List.length_nil, Nat.reduceAdd, Nat.reduceSub, Array.replicate_succ, Array.replicate_zero, List.push_toArray, List.append_toArray, List.nil_append, List.cons_append]
  refine run_seq fun _ hk1 => ?_
  refine run_region ?_
  refine opsR_q rfl (q_assign) ?_
  simp only [nrm, Nat.reduceAdd, Nat.reduceMul, Nat.reduceSub, Int.reduceToNat, Int.reduceAdd]
  refine opsR_nil ?_
  refine hk1 _ _ ?_
  clear hk1
  refine run_seq fun _ hk2 => ?_
  refine run_region ?_
  refine opsR_q rfl (q_move) ?_
  simp only [nrm, Nat.reduceAdd, Nat.reduceMul, Nat.reduceSub, Int.reduceToNat, Int.reduceAdd]
  refine opsR_q rfl (q_conv_int_int rfl) ?_
  simp only [nrm, Nat.reduceAdd, Nat.reduceMul, Nat.reduceSub, Int.reduceToNat, Int.reduceAdd]
  refine opsR_q rfl (q_move) ?_
  simp only [nrm, Nat.reduceAdd, Nat.reduceMul, Nat.reduceSub, Int.reduceToNat, Int.reduceAdd]
  refine opsR_q rfl (q_conv_int_int rfl) ?_
  simp only [nrm, Nat.reduceAdd, Nat.reduceMul, Nat.reduceSub, Int.reduceToNat, Int.reduceAdd]
  refine opsR_q rfl (by exact q_rem rfl rfl (by first | decide | assumption | omega)) ?_
  simp only [nrm, Nat.reduceAdd, Nat.reduceMul, Nat.reduceSub, Int.reduceToNat, Int.reduceAdd]
  refine opsR_q rfl (q_conv_int_int rfl) ?_
  simp only [nrm, Nat.reduceAdd, Nat.reduceMul, Nat.reduceSub, Int.reduceToNat, Int.reduceAdd]
  refine opsR_q rfl (q_assign) ?_
  simp only [nrm, Nat.reduceAdd, Nat.reduceMul, Nat.reduceSub, Int.reduceToNat, Int.reduceAdd]
  refine opsR_nil ?_
  refine hk2 _ _ ?_
  clear hk2
  refine run_ret ?_
  exact end_tmp rfl rfl rfl (by first | exact .refl | exact .drop | exact .drop2 | exact .drop3 | exact .drop4 | exact Gh.drop.trans .drop4 | exact Gh.drop2.trans .drop4 | exact Gh.drop3.trans .drop4) hK
set_option maxHeartbeats 1000000 in
theorem TaintMore_walk (a0 : List Taint) (v0 : Value) (a1 : List Bear) (v1 : Value) (a2 : List Bear) (v2 : Value) (s : St) (h0 : Sl kTaint s.I v0 a0) (ok0 : kTaint.slice.ok a0) (h1 : Sl kBear s.I v1 a1) (ok1 : kBear.slice.ok a1) (h2 : Sl kBear s.I v2 a2) (ok2 : kBear.slice.ok a2)
    (hb : kTaint.slice.bulk a0 + kBear.slice.bulk a1 + kBear.slice.bulk a2 ≤ 1048576) : CallS Tryd.prog 5 #[v0, v1, v2] s (fun v s' => v = .bool true ∧ Hp.le s.I s'.I) := by
  have hb0 := taint_bulk a0
  have hb1 := bear_bulk a1
  have hb2 := bear_bulk a2
  refine callS_of_run Tryd.func5 rfl ?_; simp only [Tryd.ntmps5, List.size_toArray, List.length_cons, List.length_nil, Nat.reduceAdd, Nat.reduceSub, Array.replicate_succ, Array.replicate_zero, List.push_toArray, List.append_toArray, List.nil_append, List.cons_append]
  refine run_seq fun _ hk1 => ?_
  refine run_region ?_
  refine opsR_q rfl (q_assign) ?_
  simp only [nrm, Nat.reduceAdd, Nat.reduceMul, Nat.reduceSub, Int.reduceToNat, Int.reduceAdd]
  refine opsR_nil ?_
  refine hk1 _ _ ?_
  clear hk1
  refine run_seq fun _ hk2 => ?_
  refine run_seq fun _ hk3 => ?_
  refine run_region ?_
  refine opsR_o rfl (o_call rfl (works_spec _ fun J4 hJ4 => ?_))
  try dsimp only at hJ4
  try (have hr4 : Hp.le s.I J4 := (by first | exact .rfl | assumption | exact le2 (by assumption) (by assumption) | exact le3 (by assumption) (by assumption) (by assumption) | exact le4 (by assumption) (by assumption) (by assumption) (by assumption) | exact le5 (by assumption) (by assumption) (by assumption) (by assumption) (by assumption) | exact le6 (by assumption) (by assumption) (by assumption) (by assumption) (by assumption) (by assumption)); have hJ4 := hJ4)
  simp only [nrm, Nat.reduceAdd, Nat.reduceMul, Nat.reduceSub, Int.reduceToNat, Int.reduceAdd]
  refine opsR_q rfl (q_not rfl) ?_
  simp only [nrm, Nat.reduceAdd, Nat.reduceMul, Nat.reduceSub, Int.reduceToNat, Int.reduceAdd]
  refine opsR_nil ?_
  refine hk3 _ _ ?_
  clear hk3
  refine run_cond (t := false) rfl (fun h => by cases h) (fun _ => ?_)
  refine run_skip ?_
  refine hk2 _ _ ?_
  clear hk2
  refine run_seq fun _ hk6 => ?_
  refine run_region ?_
  refine opsR_q rfl (q_move) ?_
  simp only [nrm, Nat.reduceAdd, Nat.reduceMul, Nat.reduceSub, Int.reduceToNat, Int.reduceAdd]
  refine opsR_q rfl (q_move) ?_
  simp only [nrm, Nat.reduceAdd, Nat.reduceMul, Nat.reduceSub, Int.reduceToNat, Int.reduceAdd]
  refine opsR_o rfl (o_call rfl (Kept_spec (by first | assumption | (refine Sl.mono ?_ (by assumption); first | exact .rfl | assumption | exact le2 (by assumption) (by assumption) | exact le3 (by assumption) (by assumption) (by assumption) | exact le4 (by assumption) (by assumption) (by assumption) (by assumption) | exact le5 (by assumption) (by assumption) (by assumption) (by assumption) (by assumption) | exact le6 (by assumption) (by assumption) (by assumption) (by assumption) (by assumption) (by assumption))) (by first | assumption | (refine Sl.mono ?_ (by assumption); first | exact .rfl | assumption | exact le2 (by assumption) (by assumption) | exact le3 (by assumption) (by assumption) (by assumption) | exact le4 (by assumption) (by assumption) (by assumption) (by assumption) | exact le5 (by assumption) (by assumption) (by assumption) (by assumption) (by assumption) | exact le6 (by assumption) (by assumption) (by assumption) (by assumption) (by assumption) (by assumption))) (by omega) _ fun J9 hJ9 => ?_))
  try dsimp only at hJ9
  try (have hr9 : Hp.le s.I J9 := (by first | exact .rfl | assumption | exact le2 (by assumption) (by assumption) | exact le3 (by assumption) (by assumption) (by assumption) | exact le4 (by assumption) (by assumption) (by assumption) (by assumption) | exact le5 (by assumption) (by assumption) (by assumption) (by assumption) (by assumption) | exact le6 (by assumption) (by assumption) (by assumption) (by assumption) (by assumption) (by assumption)); have hJ9 := hJ9)
  simp only [nrm, Nat.reduceAdd, Nat.reduceMul, Nat.reduceSub, Int.reduceToNat, Int.reduceAdd]
  refine opsR_q rfl (q_move) ?_
  simp only [nrm, Nat.reduceAdd, Nat.reduceMul, Nat.reduceSub, Int.reduceToNat, Int.reduceAdd]
  refine opsR_q rfl (q_extract rfl rfl) ?_
  simp only [nrm, Nat.reduceAdd, Nat.reduceMul, Nat.reduceSub, Int.reduceToNat, Int.reduceAdd]
  refine opsR_q rfl (q_extract rfl rfl) ?_
  simp only [nrm, Nat.reduceAdd, Nat.reduceMul, Nat.reduceSub, Int.reduceToNat, Int.reduceAdd]
  refine opsR_o rfl (o_alloc fun b11 hb11 => ?_)
  simp only [nrm, Nat.reduceAdd, Nat.reduceMul, Nat.reduceSub, Int.reduceToNat, Int.reduceAdd]
  refine opsR_o rfl (o_storeB rfl rfl inferInstance (by first | rfl | assumption) (by first | rfl | exact Kd.one _ (by assumption) | assumption) (by first | rfl | (refine Nat.ble_eq_true_of_le ?_; (try simp only [Int.toNat_natCast]); omega)) ?_)
  simp only [nrm, Nat.reduceAdd, Nat.reduceMul, Nat.reduceSub, Int.reduceToNat, Int.reduceAdd]
  refine opsR_q rfl (q_assign) ?_
  simp only [nrm, Nat.reduceAdd, Nat.reduceMul, Nat.reduceSub, Int.reduceToNat, Int.reduceAdd]
  refine opsR_nil ?_
  refine hk6 _ _ ?_
  clear hk6
  refine run_seq fun _ hk12 => ?_
  refine run_region ?_
  refine opsR_q rfl (q_move) ?_
  simp only [nrm, Nat.reduceAdd, Nat.reduceMul, Nat.reduceSub, Int.reduceToNat, Int.reduceAdd]
  refine opsR_q rfl (q_move) ?_
  simp only [nrm, Nat.reduceAdd, Nat.reduceMul, Nat.reduceSub, Int.reduceToNat, Int.reduceAdd]
  refine opsR_o rfl (o_call rfl (bears_spec (by first | assumption | (refine Sl.mono ?_ (by assumption); first | exact .rfl | assumption | exact le2 (by assumption) (by assumption) | exact le3 (by assumption) (by assumption) (by assumption) | exact le4 (by assumption) (by assumption) (by assumption) (by assumption) | exact le5 (by assumption) (by assumption) (by assumption) (by assumption) (by assumption) | exact le6 (by assumption) (by assumption) (by assumption) (by assumption) (by assumption) (by assumption))) (by omega) _ fun v13 J13 hs13 hJ13 hv13 => ?_))
  try dsimp only at hJ13 hv13
  try (have hr13 : Hp.le s.I J13 := (by first | exact .rfl | assumption | exact le2 (by assumption) (by assumption) | exact le3 (by assumption) (by assumption) (by assumption) | exact le4 (by assumption) (by assumption) (by assumption) (by assumption) | exact le5 (by assumption) (by assumption) (by assumption) (by assumption) (by assumption) | exact le6 (by assumption) (by assumption) (by assumption) (by assumption) (by assumption) (by assumption)); have hJ13 := hJ13)
  simp only [nrm, Nat.reduceAdd, Nat.reduceMul, Nat.reduceSub, Int.reduceToNat, Int.reduceAdd]
  refine opsR_q rfl (q_move) ?_
  simp only [nrm, Nat.reduceAdd, Nat.reduceMul, Nat.reduceSub, Int.reduceToNat, Int.reduceAdd]
  refine opsR_app rfl rfl rfl (by first | assumption | (refine OwnS.mono ?_ (by assumption); first | exact .rfl | assumption | exact le2 (by assumption) (by assumption) | exact le3 (by assumption) (by assumption) (by assumption) | exact le4 (by assumption) (by assumption) (by assumption) (by assumption) | exact le5 (by assumption) (by assumption) (by assumption) (by assumption) (by assumption) | exact le6 (by assumption) (by assumption) (by assumption) (by assumption) (by assumption) (by assumption))) (by infer_instance) (by first | exact Sl.r (by assumption) (by first | exact .rfl | assumption | exact le2 (by assumption) (by assumption) | exact le3 (by assumption) (by assumption) (by assumption) | exact le4 (by assumption) (by assumption) (by assumption) (by assumption) | exact le5 (by assumption) (by assumption) (by assumption) (by assumption) (by assumption) | exact le6 (by assumption) (by assumption) (by assumption) (by assumption) (by assumption) (by assumption)) | (refine OwnS.r (OwnS.mono ?_ (by assumption)) (by intro p hp; simp only [List.mem_append, List.mem_cons, hp, true_or, or_true]); first | exact .rfl | assumption | exact le2 (by assumption) (by assumption) | exact le3 (by assumption) (by assumption) (by assumption) | exact le4 (by assumption) (by assumption) (by assumption) (by assumption) | exact le5 (by assumption) (by assumption) (by assumption) (by assumption) (by assumption) | exact le6 (by assumption) (by assumption) (by assumption) (by assumption) (by assumption) (by assumption)) | assumption) (by rfl) (by rfl) rfl rfl (by first | omega | ((try simp only [List.length_append, List.length_cons, List.length_nil, List.length_set, List.length_replicate, List.length_take, List.length_drop, List.length_map] at *); omega)) fun v15 hs15 hv15 => ?_
  simp only [nrm, Nat.reduceAdd, Nat.reduceMul, Nat.reduceSub, Int.reduceToNat, Int.reduceAdd]
  refine opsR_fz hv15 (by infer_instance) fun JF15 hJF15 hv15 => ?_; try dsimp only at hJF15; try (have hrF15 : Hp.le s.I JF15 := (by first | exact .rfl | assumption | exact le2 (by assumption) (by assumption) | exact le3 (by assumption) (by assumption) (by assumption) | exact le4 (by assumption) (by assumption) (by assumption) (by assumption) | exact le5 (by assumption) (by assumption) (by assumption) (by assumption) (by assumption) | exact le6 (by assumption) (by assumption) (by assumption) (by assumption) (by assumption) (by assumption)); have hJF15 := hJF15); try simp only [nrm, Nat.reduceAdd, Nat.reduceMul, Nat.reduceSub, Int.reduceToNat, Int.reduceAdd]
  refine opsR_o rfl (o_call rfl (Kept_spec (by first | assumption | (refine Sl.mono ?_ (by assumption); first | exact .rfl | assumption | exact le2 (by assumption) (by assumption) | exact le3 (by assumption) (by assumption) (by assumption) | exact le4 (by assumption) (by assumption) (by assumption) (by assumption) | exact le5 (by assumption) (by assumption) (by assumption) (by assumption) (by assumption) | exact le6 (by assumption) (by assumption) (by assumption) (by assumption) (by assumption) (by assumption))) (by first | assumption | (refine Sl.mono ?_ (by assumption); first | exact .rfl | assumption | exact le2 (by assumption) (by assumption) | exact le3 (by assumption) (by assumption) (by assumption) | exact le4 (by assumption) (by assumption) (by assumption) (by assumption) | exact le5 (by assumption) (by assumption) (by assumption) (by assumption) (by assumption) | exact le6 (by assumption) (by assumption) (by assumption) (by assumption) (by assumption) (by assumption))) (by omega) _ fun J16 hJ16 => ?_))
  try dsimp only at hJ16
  try (have hr16 : Hp.le s.I J16 := (by first | exact .rfl | assumption | exact le2 (by assumption) (by assumption) | exact le3 (by assumption) (by assumption) (by assumption) | exact le4 (by assumption) (by assumption) (by assumption) (by assumption) | exact le5 (by assumption) (by assumption) (by assumption) (by assumption) (by assumption) | exact le6 (by assumption) (by assumption) (by assumption) (by assumption) (by assumption) (by assumption)); have hJ16 := hJ16)
  simp only [nrm, Nat.reduceAdd, Nat.reduceMul, Nat.reduceSub, Int.reduceToNat, Int.reduceAdd]
  refine opsR_q rfl (q_move) ?_
  simp only [nrm, Nat.reduceAdd, Nat.reduceMul, Nat.reduceSub, Int.reduceToNat, Int.reduceAdd]
  refine opsR_q rfl (q_extract rfl rfl) ?_
  simp only [nrm, Nat.reduceAdd, Nat.reduceMul, Nat.reduceSub, Int.reduceToNat, Int.reduceAdd]
  refine opsR_q rfl (q_extract rfl rfl) ?_
  simp only [nrm, Nat.reduceAdd, Nat.reduceMul, Nat.reduceSub, Int.reduceToNat, Int.reduceAdd]
  refine opsR_o rfl (o_alloc fun b18 hb18 => ?_)
  simp only [nrm, Nat.reduceAdd, Nat.reduceMul, Nat.reduceSub, Int.reduceToNat, Int.reduceAdd]
  refine opsR_o rfl (o_storeB rfl rfl inferInstance (by first | rfl | assumption) (by first | rfl | exact Kd.one _ (by assumption) | assumption) (by first | rfl | (refine Nat.ble_eq_true_of_le ?_; (try simp only [Int.toNat_natCast]); omega)) ?_)
  simp only [nrm, Nat.reduceAdd, Nat.reduceMul, Nat.reduceSub, Int.reduceToNat, Int.reduceAdd]
  refine opsR_q rfl (q_assign) ?_
  simp only [nrm, Nat.reduceAdd, Nat.reduceMul, Nat.reduceSub, Int.reduceToNat, Int.reduceAdd]
  refine opsR_nil ?_
  refine hk12 _ _ ?_
  clear hk12
  refine run_seq fun _ hk19 => ?_
  refine run_region ?_
  refine opsR_q rfl (q_move) ?_
  simp only [nrm, Nat.reduceAdd, Nat.reduceMul, Nat.reduceSub, Int.reduceToNat, Int.reduceAdd]
  refine opsR_qb rfl (q_move) (fun hc20 => ?_) (fun hc20 => ?_)
  · have ho20 := hc20; try simp only [spl] at hc20
    simp only [nrm, Nat.reduceAdd, Nat.reduceMul, Nat.reduceSub, Int.reduceToNat, Int.reduceAdd]
    refine opsR_skip rfl ?_
    simp only [nrm, Nat.reduceAdd, Nat.reduceMul, Nat.reduceSub, Int.reduceToNat, Int.reduceAdd]
    refine opsR_skip rfl ?_
    simp only [nrm, Nat.reduceAdd, Nat.reduceMul, Nat.reduceSub, Int.reduceToNat, Int.reduceAdd]
    refine opsR_q rfl (q_pick_t rfl) ?_
    simp only [nrm, Nat.reduceAdd, Nat.reduceMul, Nat.reduceSub, Int.reduceToNat, Int.reduceAdd]
    refine opsR_q rfl (q_move) ?_
    simp only [nrm, Nat.reduceAdd, Nat.reduceMul, Nat.reduceSub, Int.reduceToNat, Int.reduceAdd]
    refine opsR_q rfl (q_move) ?_
    simp only [nrm, Nat.reduceAdd, Nat.reduceMul, Nat.reduceSub, Int.reduceToNat, Int.reduceAdd]
    refine opsR_q rfl (q_move) ?_
    simp only [nrm, Nat.reduceAdd, Nat.reduceMul, Nat.reduceSub, Int.reduceToNat, Int.reduceAdd]
    refine opsR_o rfl (o_call rfl (bears_spec (by first | assumption | (refine Sl.mono ?_ (by assumption); first | exact .rfl | assumption | exact le2 (by assumption) (by assumption) | exact le3 (by assumption) (by assumption) (by assumption) | exact le4 (by assumption) (by assumption) (by assumption) (by assumption) | exact le5 (by assumption) (by assumption) (by assumption) (by assumption) (by assumption) | exact le6 (by assumption) (by assumption) (by assumption) (by assumption) (by assumption) (by assumption))) (by omega) _ fun v21 J21 hs21 hJ21 hv21 => ?_))
    try dsimp only at hJ21 hv21
    try (have hr21 : Hp.le s.I J21 := (by first | exact .rfl | assumption | exact le2 (by assumption) (by assumption) | exact le3 (by assumption) (by assumption) (by assumption) | exact le4 (by assumption) (by assumption) (by assumption) (by assumption) | exact le5 (by assumption) (by assumption) (by assumption) (by assumption) (by assumption) | exact le6 (by assumption) (by assumption) (by assumption) (by assumption) (by assumption) (by assumption)); have hJ21 := hJ21)
    simp only [nrm, Nat.reduceAdd, Nat.reduceMul, Nat.reduceSub, Int.reduceToNat, Int.reduceAdd]
    refine opsR_q rfl (q_move) ?_
    simp only [nrm, Nat.reduceAdd, Nat.reduceMul, Nat.reduceSub, Int.reduceToNat, Int.reduceAdd]
    refine opsR_app rfl rfl rfl (by first | assumption | (refine OwnS.mono ?_ (by assumption); first | exact .rfl | assumption | exact le2 (by assumption) (by assumption) | exact le3 (by assumption) (by assumption) (by assumption) | exact le4 (by assumption) (by assumption) (by assumption) (by assumption) | exact le5 (by assumption) (by assumption) (by assumption) (by assumption) (by assumption) | exact le6 (by assumption) (by assumption) (by assumption) (by assumption) (by assumption) (by assumption))) (by infer_instance) (by first | exact Sl.r (by assumption) (by first | exact .rfl | assumption | exact le2 (by assumption) (by assumption) | exact le3 (by assumption) (by assumption) (by assumption) | exact le4 (by assumption) (by assumption) (by assumption) (by assumption) | exact le5 (by assumption) (by assumption) (by assumption) (by assumption) (by assumption) | exact le6 (by assumption) (by assumption) (by assumption) (by assumption) (by assumption) (by assumption)) | (refine OwnS.r (OwnS.mono ?_ (by assumption)) (by intro p hp; simp only [List.mem_append, List.mem_cons, hp, true_or, or_true]); first | exact .rfl | assumption | exact le2 (by assumption) (by assumption) | exact le3 (by assumption) (by assumption) (by assumption) | exact le4 (by assumption) (by assumption) (by assumption) (by assumption) | exact le5 (by assumption) (by assumption) (by assumption) (by assumption) (by assumption) | exact le6 (by assumption) (by assumption) (by assumption) (by assumption) (by assumption) (by assumption)) | assumption) (by rfl) (by rfl) rfl rfl (by first | omega | ((try simp only [List.length_append, List.length_cons, List.length_nil, List.length_set, List.length_replicate, List.length_take, List.length_drop, List.length_map] at *); omega)) fun v22 hs22 hv22 => ?_
    simp only [nrm, Nat.reduceAdd, Nat.reduceMul, Nat.reduceSub, Int.reduceToNat, Int.reduceAdd]
    refine opsR_fz hv22 (by infer_instance) fun JF22 hJF22 hv22 => ?_; try dsimp only at hJF22; try (have hrF22 : Hp.le s.I JF22 := (by first | exact .rfl | assumption | exact le2 (by assumption) (by assumption) | exact le3 (by assumption) (by assumption) (by assumption) | exact le4 (by assumption) (by assumption) (by assumption) (by assumption) | exact le5 (by assumption) (by assumption) (by assumption) (by assumption) (by assumption) | exact le6 (by assumption) (by assumption) (by assumption) (by assumption) (by assumption) (by assumption)); have hJF22 := hJF22); try simp only [nrm, Nat.reduceAdd, Nat.reduceMul, Nat.reduceSub, Int.reduceToNat, Int.reduceAdd]
    refine opsR_o rfl (o_call rfl (Shy_spec (by first | assumption | (refine Sl.mono ?_ (by assumption); first | exact .rfl | assumption | exact le2 (by assumption) (by assumption) | exact le3 (by assumption) (by assumption) (by assumption) | exact le4 (by assumption) (by assumption) (by assumption) (by assumption) | exact le5 (by assumption) (by assumption) (by assumption) (by assumption) (by assumption) | exact le6 (by assumption) (by assumption) (by assumption) (by assumption) (by assumption) (by assumption))) (by first | assumption | (refine Sl.mono ?_ (by assumption); first | exact .rfl | assumption | exact le2 (by assumption) (by assumption) | exact le3 (by assumption) (by assumption) (by assumption) | exact le4 (by assumption) (by assumption) (by assumption) (by assumption) | exact le5 (by assumption) (by assumption) (by assumption) (by assumption) (by assumption) | exact le6 (by assumption) (by assumption) (by assumption) (by assumption) (by assumption) (by assumption))) (by omega) _ fun J23 hJ23 => ?_))
    try dsimp only at hJ23
    try (have hr23 : Hp.le s.I J23 := (by first | exact .rfl | assumption | exact le2 (by assumption) (by assumption) | exact le3 (by assumption) (by assumption) (by assumption) | exact le4 (by assumption) (by assumption) (by assumption) (by assumption) | exact le5 (by assumption) (by assumption) (by assumption) (by assumption) (by assumption) | exact le6 (by assumption) (by assumption) (by assumption) (by assumption) (by assumption) (by assumption)); have hJ23 := hJ23)
    simp only [nrm, Nat.reduceAdd, Nat.reduceMul, Nat.reduceSub, Int.reduceToNat, Int.reduceAdd]
    refine opsR_q rfl (q_move) ?_
    simp only [nrm, Nat.reduceAdd, Nat.reduceMul, Nat.reduceSub, Int.reduceToNat, Int.reduceAdd]
    refine opsR_q rfl (q_move) ?_
    simp only [nrm, Nat.reduceAdd, Nat.reduceMul, Nat.reduceSub, Int.reduceToNat, Int.reduceAdd]
    refine opsR_o rfl (o_call rfl (Shy_spec (by first | assumption | (refine Sl.mono ?_ (by assumption); first | exact .rfl | assumption | exact le2 (by assumption) (by assumption) | exact le3 (by assumption) (by assumption) (by assumption) | exact le4 (by assumption) (by assumption) (by assumption) (by assumption) | exact le5 (by assumption) (by assumption) (by assumption) (by assumption) (by assumption) | exact le6 (by assumption) (by assumption) (by assumption) (by assumption) (by assumption) (by assumption))) (by first | assumption | (refine Sl.mono ?_ (by assumption); first | exact .rfl | assumption | exact le2 (by assumption) (by assumption) | exact le3 (by assumption) (by assumption) (by assumption) | exact le4 (by assumption) (by assumption) (by assumption) (by assumption) | exact le5 (by assumption) (by assumption) (by assumption) (by assumption) (by assumption) | exact le6 (by assumption) (by assumption) (by assumption) (by assumption) (by assumption) (by assumption))) (by omega) _ fun J24 hJ24 => ?_))
    try dsimp only at hJ24
    try (have hr24 : Hp.le s.I J24 := (by first | exact .rfl | assumption | exact le2 (by assumption) (by assumption) | exact le3 (by assumption) (by assumption) (by assumption) | exact le4 (by assumption) (by assumption) (by assumption) (by assumption) | exact le5 (by assumption) (by assumption) (by assumption) (by assumption) (by assumption) | exact le6 (by assumption) (by assumption) (by assumption) (by assumption) (by assumption) (by assumption)); have hJ24 := hJ24)
    simp only [nrm, Nat.reduceAdd, Nat.reduceMul, Nat.reduceSub, Int.reduceToNat, Int.reduceAdd]
    refine opsR_q rfl (q_leq rfl rfl) ?_
    simp only [nrm, Nat.reduceAdd, Nat.reduceMul, Nat.reduceSub, Int.reduceToNat, Int.reduceAdd]
    refine opsR_q rfl (q_pick_t rfl) ?_
    simp only [nrm, Nat.reduceAdd, Nat.reduceMul, Nat.reduceSub, Int.reduceToNat, Int.reduceAdd]
    refine opsR_q rfl (q_assign) ?_
    simp only [nrm, Nat.reduceAdd, Nat.reduceMul, Nat.reduceSub, Int.reduceToNat, Int.reduceAdd]
    refine opsR_nil ?_
    refine hk19 _ _ ?_
    clear hk19
    refine run_ret ?_
    exact end_tmp rfl rfl rfl (by first | exact .refl | exact .drop | exact .drop2 | exact .drop3 | exact .drop4 | exact Gh.drop.trans .drop4 | exact Gh.drop2.trans .drop4 | exact Gh.drop3.trans .drop4) ⟨congrArg Go.Value.bool (decide_eq_true open_more), by first | exact .rfl | assumption | exact le2 (by assumption) (by assumption) | exact le3 (by assumption) (by assumption) (by assumption) | exact le4 (by assumption) (by assumption) (by assumption) (by assumption) | exact le5 (by assumption) (by assumption) (by assumption) (by assumption) (by assumption) | exact le6 (by assumption) (by assumption) (by assumption) (by assumption) (by assumption) (by assumption)⟩
  · have ho20 := hc20; try simp only [spl] at hc20
    simp only [nrm, Nat.reduceAdd, Nat.reduceMul, Nat.reduceSub, Int.reduceToNat, Int.reduceAdd]
    refine opsR_q rfl (q_move) ?_
    simp only [nrm, Nat.reduceAdd, Nat.reduceMul, Nat.reduceSub, Int.reduceToNat, Int.reduceAdd]
    refine opsR_q rfl (q_not rfl) ?_
    simp only [nrm, Nat.reduceAdd, Nat.reduceMul, Nat.reduceSub, Int.reduceToNat, Int.reduceAdd]
    refine opsR_q rfl (q_pick_f rfl) ?_
    simp only [nrm, Nat.reduceAdd, Nat.reduceMul, Nat.reduceSub, Int.reduceToNat, Int.reduceAdd]
    refine opsR_qb rfl (q_move) (fun _ => ?_) (fun h => absurd h (by rw [kept_more (by assumption)]; decide))
    simp only [nrm, Nat.reduceAdd, Nat.reduceMul, Nat.reduceSub, Int.reduceToNat, Int.reduceAdd]
    refine opsR_q rfl (q_move) ?_
    simp only [nrm, Nat.reduceAdd, Nat.reduceMul, Nat.reduceSub, Int.reduceToNat, Int.reduceAdd]
    refine opsR_q rfl (q_move) ?_
    simp only [nrm, Nat.reduceAdd, Nat.reduceMul, Nat.reduceSub, Int.reduceToNat, Int.reduceAdd]
    refine opsR_o rfl (o_call rfl (bears_spec (by first | assumption | (refine Sl.mono ?_ (by assumption); first | exact .rfl | assumption | exact le2 (by assumption) (by assumption) | exact le3 (by assumption) (by assumption) (by assumption) | exact le4 (by assumption) (by assumption) (by assumption) (by assumption) | exact le5 (by assumption) (by assumption) (by assumption) (by assumption) (by assumption) | exact le6 (by assumption) (by assumption) (by assumption) (by assumption) (by assumption) (by assumption))) (by omega) _ fun v27 J27 hs27 hJ27 hv27 => ?_))
    try dsimp only at hJ27 hv27
    try (have hr27 : Hp.le s.I J27 := (by first | exact .rfl | assumption | exact le2 (by assumption) (by assumption) | exact le3 (by assumption) (by assumption) (by assumption) | exact le4 (by assumption) (by assumption) (by assumption) (by assumption) | exact le5 (by assumption) (by assumption) (by assumption) (by assumption) (by assumption) | exact le6 (by assumption) (by assumption) (by assumption) (by assumption) (by assumption) (by assumption)); have hJ27 := hJ27)
    simp only [nrm, Nat.reduceAdd, Nat.reduceMul, Nat.reduceSub, Int.reduceToNat, Int.reduceAdd]
    refine opsR_q rfl (q_move) ?_
    simp only [nrm, Nat.reduceAdd, Nat.reduceMul, Nat.reduceSub, Int.reduceToNat, Int.reduceAdd]
    refine opsR_app rfl rfl rfl (by first | assumption | (refine OwnS.mono ?_ (by assumption); first | exact .rfl | assumption | exact le2 (by assumption) (by assumption) | exact le3 (by assumption) (by assumption) (by assumption) | exact le4 (by assumption) (by assumption) (by assumption) (by assumption) | exact le5 (by assumption) (by assumption) (by assumption) (by assumption) (by assumption) | exact le6 (by assumption) (by assumption) (by assumption) (by assumption) (by assumption) (by assumption))) (by infer_instance) (by first | exact Sl.r (by assumption) (by first | exact .rfl | assumption | exact le2 (by assumption) (by assumption) | exact le3 (by assumption) (by assumption) (by assumption) | exact le4 (by assumption) (by assumption) (by assumption) (by assumption) | exact le5 (by assumption) (by assumption) (by assumption) (by assumption) (by assumption) | exact le6 (by assumption) (by assumption) (by assumption) (by assumption) (by assumption) (by assumption)) | (refine OwnS.r (OwnS.mono ?_ (by assumption)) (by intro p hp; simp only [List.mem_append, List.mem_cons, hp, true_or, or_true]); first | exact .rfl | assumption | exact le2 (by assumption) (by assumption) | exact le3 (by assumption) (by assumption) (by assumption) | exact le4 (by assumption) (by assumption) (by assumption) (by assumption) | exact le5 (by assumption) (by assumption) (by assumption) (by assumption) (by assumption) | exact le6 (by assumption) (by assumption) (by assumption) (by assumption) (by assumption) (by assumption)) | assumption) (by rfl) (by rfl) rfl rfl (by first | omega | ((try simp only [List.length_append, List.length_cons, List.length_nil, List.length_set, List.length_replicate, List.length_take, List.length_drop, List.length_map] at *); omega)) fun v28 hs28 hv28 => ?_
    simp only [nrm, Nat.reduceAdd, Nat.reduceMul, Nat.reduceSub, Int.reduceToNat, Int.reduceAdd]
    refine opsR_fz hv28 (by infer_instance) fun JF28 hJF28 hv28 => ?_; try dsimp only at hJF28; try (have hrF28 : Hp.le s.I JF28 := (by first | exact .rfl | assumption | exact le2 (by assumption) (by assumption) | exact le3 (by assumption) (by assumption) (by assumption) | exact le4 (by assumption) (by assumption) (by assumption) (by assumption) | exact le5 (by assumption) (by assumption) (by assumption) (by assumption) (by assumption) | exact le6 (by assumption) (by assumption) (by assumption) (by assumption) (by assumption) (by assumption)); have hJF28 := hJF28); try simp only [nrm, Nat.reduceAdd, Nat.reduceMul, Nat.reduceSub, Int.reduceToNat, Int.reduceAdd]
    refine opsR_o rfl (o_call rfl (Shy_spec (by first | assumption | (refine Sl.mono ?_ (by assumption); first | exact .rfl | assumption | exact le2 (by assumption) (by assumption) | exact le3 (by assumption) (by assumption) (by assumption) | exact le4 (by assumption) (by assumption) (by assumption) (by assumption) | exact le5 (by assumption) (by assumption) (by assumption) (by assumption) (by assumption) | exact le6 (by assumption) (by assumption) (by assumption) (by assumption) (by assumption) (by assumption))) (by first | assumption | (refine Sl.mono ?_ (by assumption); first | exact .rfl | assumption | exact le2 (by assumption) (by assumption) | exact le3 (by assumption) (by assumption) (by assumption) | exact le4 (by assumption) (by assumption) (by assumption) (by assumption) | exact le5 (by assumption) (by assumption) (by assumption) (by assumption) (by assumption) | exact le6 (by assumption) (by assumption) (by assumption) (by assumption) (by assumption) (by assumption))) (by omega) _ fun J29 hJ29 => ?_))
    try dsimp only at hJ29
    try (have hr29 : Hp.le s.I J29 := (by first | exact .rfl | assumption | exact le2 (by assumption) (by assumption) | exact le3 (by assumption) (by assumption) (by assumption) | exact le4 (by assumption) (by assumption) (by assumption) (by assumption) | exact le5 (by assumption) (by assumption) (by assumption) (by assumption) (by assumption) | exact le6 (by assumption) (by assumption) (by assumption) (by assumption) (by assumption) (by assumption)); have hJ29 := hJ29)
    simp only [nrm, Nat.reduceAdd, Nat.reduceMul, Nat.reduceSub, Int.reduceToNat, Int.reduceAdd]
    refine opsR_q rfl (q_move) ?_
    simp only [nrm, Nat.reduceAdd, Nat.reduceMul, Nat.reduceSub, Int.reduceToNat, Int.reduceAdd]
    refine opsR_q rfl (q_move) ?_
    simp only [nrm, Nat.reduceAdd, Nat.reduceMul, Nat.reduceSub, Int.reduceToNat, Int.reduceAdd]
    refine opsR_o rfl (o_call rfl (Shy_spec (by first | assumption | (refine Sl.mono ?_ (by assumption); first | exact .rfl | assumption | exact le2 (by assumption) (by assumption) | exact le3 (by assumption) (by assumption) (by assumption) | exact le4 (by assumption) (by assumption) (by assumption) (by assumption) | exact le5 (by assumption) (by assumption) (by assumption) (by assumption) (by assumption) | exact le6 (by assumption) (by assumption) (by assumption) (by assumption) (by assumption) (by assumption))) (by first | assumption | (refine Sl.mono ?_ (by assumption); first | exact .rfl | assumption | exact le2 (by assumption) (by assumption) | exact le3 (by assumption) (by assumption) (by assumption) | exact le4 (by assumption) (by assumption) (by assumption) (by assumption) | exact le5 (by assumption) (by assumption) (by assumption) (by assumption) (by assumption) | exact le6 (by assumption) (by assumption) (by assumption) (by assumption) (by assumption) (by assumption))) (by omega) _ fun J30 hJ30 => ?_))
    try dsimp only at hJ30
    try (have hr30 : Hp.le s.I J30 := (by first | exact .rfl | assumption | exact le2 (by assumption) (by assumption) | exact le3 (by assumption) (by assumption) (by assumption) | exact le4 (by assumption) (by assumption) (by assumption) (by assumption) | exact le5 (by assumption) (by assumption) (by assumption) (by assumption) (by assumption) | exact le6 (by assumption) (by assumption) (by assumption) (by assumption) (by assumption) (by assumption)); have hJ30 := hJ30)
    simp only [nrm, Nat.reduceAdd, Nat.reduceMul, Nat.reduceSub, Int.reduceToNat, Int.reduceAdd]
    refine opsR_q rfl (q_leq rfl rfl) ?_
    simp only [nrm, Nat.reduceAdd, Nat.reduceMul, Nat.reduceSub, Int.reduceToNat, Int.reduceAdd]
    refine opsR_q rfl (q_pick_t rfl) ?_
    simp only [nrm, Nat.reduceAdd, Nat.reduceMul, Nat.reduceSub, Int.reduceToNat, Int.reduceAdd]
    refine opsR_q rfl (q_assign) ?_
    simp only [nrm, Nat.reduceAdd, Nat.reduceMul, Nat.reduceSub, Int.reduceToNat, Int.reduceAdd]
    refine opsR_nil ?_
    refine hk19 _ _ ?_
    clear hk19
    refine run_ret ?_
    exact end_tmp rfl rfl rfl (by first | exact .refl | exact .drop | exact .drop2 | exact .drop3 | exact .drop4 | exact Gh.drop.trans .drop4 | exact Gh.drop2.trans .drop4 | exact Gh.drop3.trans .drop4) ⟨congrArg Go.Value.bool (decide_eq_true open_more), by first | exact .rfl | assumption | exact le2 (by assumption) (by assumption) | exact le3 (by assumption) (by assumption) (by assumption) | exact le4 (by assumption) (by assumption) (by assumption) (by assumption) | exact le5 (by assumption) (by assumption) (by assumption) (by assumption) (by assumption) | exact le6 (by assumption) (by assumption) (by assumption) (by assumption) (by assumption) (by assumption)⟩
set_option maxHeartbeats 1000000 in
theorem TaintAll_walk (a0 : List Taint) (v0 : Value) (a1 : List Bear) (v1 : Value) (a2 : Int) (s : St) (h0 : Sl kTaint s.I v0 a0) (ok0 : kTaint.slice.ok a0) (h1 : Sl kBear s.I v1 a1) (ok1 : kBear.slice.ok a1) (ok2 : (kInt .i64).ok a2)
    (hb : kTaint.slice.bulk a0 + kBear.slice.bulk a1 + (kInt .i64).bulk a2 ≤ 1048576) : CallS Tryd.prog 6 #[v0, v1, .int .i64 a2] s (fun v s' => v = .bool true ∧ Hp.le s.I s'.I) := by
  have hb0 := taint_bulk a0
  have hb1 := bear_bulk a1
  have ham := among_bd a2 (m := (a1.length : Int) + 1) (by omega) (by omega)
  refine callS_of_run Tryd.func6 rfl ?_; simp only [Tryd.ntmps6, List.size_toArray, List.length_cons, List.length_nil, Nat.reduceAdd, Nat.reduceSub, Array.replicate_succ, Array.replicate_zero, List.push_toArray, List.append_toArray, List.nil_append, List.cons_append]
  refine run_seq fun _ hk1 => ?_
  refine run_region ?_
  refine opsR_q rfl (q_assign) ?_
  simp only [nrm, Nat.reduceAdd, Nat.reduceMul, Nat.reduceSub, Int.reduceToNat, Int.reduceAdd]
  refine opsR_nil ?_
  refine hk1 _ _ ?_
  clear hk1
  refine run_seq fun _ hk2 => ?_
  refine run_seq fun _ hk3 => ?_
  refine run_region ?_
  refine opsR_o rfl (o_call rfl (works_spec _ fun J4 hJ4 => ?_))
  try dsimp only at hJ4
  try (have hr4 : Hp.le s.I J4 := (by first | exact .rfl | assumption | exact le2 (by assumption) (by assumption) | exact le3 (by assumption) (by assumption) (by assumption) | exact le4 (by assumption) (by assumption) (by assumption) (by assumption) | exact le5 (by assumption) (by assumption) (by assumption) (by assumption) (by assumption) | exact le6 (by assumption) (by assumption) (by assumption) (by assumption) (by assumption) (by assumption)); have hJ4 := hJ4)
  simp only [nrm, Nat.reduceAdd, Nat.reduceMul, Nat.reduceSub, Int.reduceToNat, Int.reduceAdd]
  refine opsR_q rfl (q_not rfl) ?_
  simp only [nrm, Nat.reduceAdd, Nat.reduceMul, Nat.reduceSub, Int.reduceToNat, Int.reduceAdd]
  refine opsR_nil ?_
  refine hk3 _ _ ?_
  clear hk3
  refine run_cond (t := false) rfl (fun h => by cases h) (fun _ => ?_)
  refine run_skip ?_
  refine hk2 _ _ ?_
  clear hk2
  refine run_seq fun _ hk6 => ?_
  refine run_region ?_
  refine opsR_q rfl (q_move) ?_
  simp only [nrm, Nat.reduceAdd, Nat.reduceMul, Nat.reduceSub, Int.reduceToNat, Int.reduceAdd]
  refine opsR_q rfl (q_move) ?_
  simp only [nrm, Nat.reduceAdd, Nat.reduceMul, Nat.reduceSub, Int.reduceToNat, Int.reduceAdd]
  refine opsR_q rfl (q_len_v rfl (by first | exact Sl.len (by assumption) | exact OwnS.len (by assumption) | exact SlR.len (by assumption) | assumption)) ?_
  simp only [nrm, Nat.reduceAdd, Nat.reduceMul, Nat.reduceSub, Int.reduceToNat, Int.reduceAdd]
  refine opsR_q rfl (by first | exact q_add64 rfl rfl (by omega) (by omega) | exact q_add rfl rfl) ?_
  simp only [nrm, Nat.reduceAdd, Nat.reduceMul, Nat.reduceSub, Int.reduceToNat, Int.reduceAdd]
  refine opsR_q rfl (q_call rfl (Among_spec (by omega) (by omega))) ?_
  simp only [nrm, Nat.reduceAdd, Nat.reduceMul, Nat.reduceSub, Int.reduceToNat, Int.reduceAdd]
  refine opsR_q rfl (q_assign) ?_
  simp only [nrm, Nat.reduceAdd, Nat.reduceMul, Nat.reduceSub, Int.reduceToNat, Int.reduceAdd]
  refine opsR_nil ?_
  refine hk6 _ _ ?_
  clear hk6
  refine run_seq fun _ hk9 => ?_
  obtain ⟨kk, hkk⟩ : ∃ kk : Nat, amongOf a2 ((a1.length : Int) + 1) = kk := ⟨(amongOf a2 ((a1.length : Int) + 1)).toNat, by omega⟩
  rw [hkk] at ham ⊢
  refine run_mixL mixed [true, true, true, false, true, false, false, true, true, true, false, false] [false, false, false, false, false, false, false, false, false, false, false, false] [3, 5, 6, 10, 11] (KeepS _) (by kernel_rfl) rfl KeepS.refl ?_
  refine oblK_k rfl (fun z hz => (q_move)) ?_
  simp only [nrm, Nat.reduceAdd, Nat.reduceMul, Nat.reduceSub, Int.reduceToNat, Int.reduceAdd]
  refine oblK_k rfl (fun z hz => (q_move)) ?_
  simp only [nrm, Nat.reduceAdd, Nat.reduceMul, Nat.reduceSub, Int.reduceToNat, Int.reduceAdd]
  refine oblK_cut rfl rfl (by assumption) rfl ⟨_, _, rfl, (by first | omega | ((try simp only [List.length_append, List.length_cons, List.length_nil, List.length_set, List.length_replicate, List.length_take, List.length_drop, List.length_map] at *); omega)), rfl⟩ (by rfl) (by first | omega | ((try simp only [List.length_append, List.length_cons, List.length_nil, List.length_set, List.length_replicate, List.length_take, List.length_drop, List.length_map] at *); omega)) (by first | omega | ((try simp only [List.length_append, List.length_cons, List.length_nil, List.length_set, List.length_replicate, List.length_take, List.length_drop, List.length_map] at *); omega)) fun v10 hv10 => ?_
  simp only [nrm, Nat.reduceAdd, Nat.reduceMul, Nat.reduceSub, Int.reduceToNat, Int.reduceAdd]
  try simp only [Int.toNat_natCast, Int.reduceToNat, Int.toNat_zero] at hv10
  refine oblK_r ?_
  refine oblK_k rfl (fun z hz => (q_build rfl)) ?_
  simp only [nrm, Nat.reduceAdd, Nat.reduceMul, Nat.reduceSub, Int.reduceToNat, Int.reduceAdd]
  refine oblK_r ?_
  refine oblK_r ?_
  refine oblK_k rfl (fun z hz => (q_move)) ?_
  simp only [nrm, Nat.reduceAdd, Nat.reduceMul, Nat.reduceSub, Int.reduceToNat, Int.reduceAdd]
  refine oblK_k rfl (fun z hz => (q_move)) ?_
  simp only [nrm, Nat.reduceAdd, Nat.reduceMul, Nat.reduceSub, Int.reduceToNat, Int.reduceAdd]
  refine oblK_cut rfl rfl (by assumption) ⟨_, _, rfl, (by first | omega | ((try simp only [List.length_append, List.length_cons, List.length_nil, List.length_set, List.length_replicate, List.length_take, List.length_drop, List.length_map] at *); omega)), rfl⟩ rfl (by rfl) (by first | omega | ((try simp only [List.length_append, List.length_cons, List.length_nil, List.length_set, List.length_replicate, List.length_take, List.length_drop, List.length_map] at *); omega)) (by first | omega | ((try simp only [List.length_append, List.length_cons, List.length_nil, List.length_set, List.length_replicate, List.length_take, List.length_drop, List.length_map] at *); omega)) fun v11 hv11 => ?_
  simp only [nrm, Nat.reduceAdd, Nat.reduceMul, Nat.reduceSub, Int.reduceToNat, Int.reduceAdd]
  try simp only [Int.toNat_natCast, Int.reduceToNat, Int.toNat_zero] at hv11
  refine oblK_r ?_
  refine oblK_r ?_
  refine oblK_nil ?_
  refine restK_pick [3, 5] (by kernel_rfl) ⟨?_, ?_, trivial⟩
  · skip
    refine restK_op rfl ?_
    simp only [List.getElem_toArray, List.getElem_cons_zero, List.getElem_cons_succ]
    refine opsR_o rfl (o_call rfl (bears_spec (by first | assumption | (refine Sl.mono ?_ (by assumption); first | exact .rfl | assumption | exact le2 (by assumption) (by assumption) | exact le3 (by assumption) (by assumption) (by assumption) | exact le4 (by assumption) (by assumption) (by assumption) (by assumption) | exact le5 (by assumption) (by assumption) (by assumption) (by assumption) (by assumption) | exact le6 (by assumption) (by assumption) (by assumption) (by assumption) (by assumption) (by assumption))) (by first | omega | ((try simp only [List.length_append, List.length_cons, List.length_nil, List.length_set, List.length_replicate, List.length_take, List.length_drop, List.length_map] at *); omega)) _ fun v12 J12 hs12 hJ12 hv12 => ?_))
    try dsimp only at hJ12 hv12
    try (have hr12 : Hp.le s.I J12 := (by first | exact .rfl | assumption | exact le2 (by assumption) (by assumption) | exact le3 (by assumption) (by assumption) (by assumption) | exact le4 (by assumption) (by assumption) (by assumption) (by assumption) | exact le5 (by assumption) (by assumption) (by assumption) (by assumption) (by assumption) | exact le6 (by assumption) (by assumption) (by assumption) (by assumption) (by assumption) (by assumption)); have hJ12 := hJ12)
    simp only [nrm, Nat.reduceAdd, Nat.reduceMul, Nat.reduceSub, Int.reduceToNat, Int.reduceAdd]
    refine opsR_nil ⟨rfl, rfl, ⟨by first | exact .rfl | assumption | exact le2 (by assumption) (by assumption) | exact le3 (by assumption) (by assumption) (by assumption) | exact le4 (by assumption) (by assumption) (by assumption) (by assumption) | exact le5 (by assumption) (by assumption) (by assumption) (by assumption) (by assumption) | exact le6 (by assumption) (by assumption) (by assumption) (by assumption) (by assumption) (by assumption), by intro p hp; simp only [List.mem_cons, List.mem_append, hp, or_true, true_or]⟩, ?_⟩
    refine restK_pick [5] (by kernel_rfl) ⟨?_, trivial⟩
    refine restK_op rfl ?_
    simp only [List.getElem_toArray, List.getElem_cons_zero, List.getElem_cons_succ]
    refine opsR_slice1 kBear (w := ⟨⟨#[]⟩, ⟨#[]⟩, true, 0⟩) rfl rfl (by rfl) (by decide) (by decide) (by rfl) (by first | rfl | assumption | exact kBear.shut | (refine Kd.mono _ ?_ (by assumption); first | exact .rfl | assumption | exact le2 (by assumption) (by assumption) | exact le3 (by assumption) (by assumption) (by assumption) | exact le4 (by assumption) (by assumption) (by assumption) (by assumption) | exact le5 (by assumption) (by assumption) (by assumption) (by assumption) (by assumption) | exact le6 (by assumption) (by assumption) (by assumption) (by assumption) (by assumption) (by assumption)) | (apply kBear.shut <;> assumption)) fun v13 hs13 hv13 => ?_
    simp only [nrm, Nat.reduceAdd, Nat.reduceMul, Nat.reduceSub, Int.reduceToNat, Int.reduceAdd]
    refine opsR_nil ⟨rfl, rfl, ⟨by first | exact .rfl | assumption | exact le2 (by assumption) (by assumption) | exact le3 (by assumption) (by assumption) (by assumption) | exact le4 (by assumption) (by assumption) (by assumption) (by assumption) | exact le5 (by assumption) (by assumption) (by assumption) (by assumption) (by assumption) | exact le6 (by assumption) (by assumption) (by assumption) (by assumption) (by assumption) (by assumption), by intro p hp; simp only [List.mem_cons, List.mem_append, hp, or_true, true_or]⟩, ?_⟩
    refine restK_pick [6] (by kernel_rfl) ⟨?_, trivial⟩
    refine restK_op rfl ?_
    simp only [List.getElem_toArray, List.getElem_cons_zero, List.getElem_cons_succ]
    refine opsR_app rfl rfl rfl (by first | assumption | (refine OwnS.mono ?_ (by assumption); first | exact .rfl | assumption | exact le2 (by assumption) (by assumption) | exact le3 (by assumption) (by assumption) (by assumption) | exact le4 (by assumption) (by assumption) (by assumption) (by assumption) | exact le5 (by assumption) (by assumption) (by assumption) (by assumption) (by assumption) | exact le6 (by assumption) (by assumption) (by assumption) (by assumption) (by assumption) (by assumption))) (by infer_instance) (by first | exact Sl.r (by assumption) (by first | exact .rfl | assumption | exact le2 (by assumption) (by assumption) | exact le3 (by assumption) (by assumption) (by assumption) | exact le4 (by assumption) (by assumption) (by assumption) (by assumption) | exact le5 (by assumption) (by assumption) (by assumption) (by assumption) (by assumption) | exact le6 (by assumption) (by assumption) (by assumption) (by assumption) (by assumption) (by assumption)) | (refine OwnS.r (OwnS.mono ?_ (by assumption)) (by intro p hp; simp only [List.mem_append, List.mem_cons, hp, true_or, or_true]); first | exact .rfl | assumption | exact le2 (by assumption) (by assumption) | exact le3 (by assumption) (by assumption) (by assumption) | exact le4 (by assumption) (by assumption) (by assumption) (by assumption) | exact le5 (by assumption) (by assumption) (by assumption) (by assumption) (by assumption) | exact le6 (by assumption) (by assumption) (by assumption) (by assumption) (by assumption) (by assumption)) | assumption) (by rfl) (by rfl) rfl rfl (by first | omega | ((try simp only [List.length_append, List.length_cons, List.length_nil, List.length_set, List.length_replicate, List.length_take, List.length_drop, List.length_map] at *); omega)) fun v14 hs14 hv14 => ?_
    simp only [nrm, Nat.reduceAdd, Nat.reduceMul, Nat.reduceSub, Int.reduceToNat, Int.reduceAdd]
    refine opsR_dropS (hs := hs13) ?_
    try simp only [nrm, Nat.reduceAdd, Nat.reduceMul, Nat.reduceSub, Int.reduceToNat, Int.reduceAdd]
    refine opsR_nil ⟨rfl, rfl, ⟨by first | exact .rfl | assumption | exact le2 (by assumption) (by assumption) | exact le3 (by assumption) (by assumption) (by assumption) | exact le4 (by assumption) (by assumption) (by assumption) (by assumption) | exact le5 (by assumption) (by assumption) (by assumption) (by assumption) (by assumption) | exact le6 (by assumption) (by assumption) (by assumption) (by assumption) (by assumption) (by assumption), by intro p hp; simp only [List.mem_cons, List.mem_append, hp, or_true, true_or]⟩, ?_⟩
    refine restK_pick [10] (by kernel_rfl) ⟨?_, trivial⟩
    refine restK_op rfl ?_
    simp only [List.getElem_toArray, List.getElem_cons_zero, List.getElem_cons_succ]
    refine opsR_app rfl rfl rfl (by first | assumption | (refine OwnS.mono ?_ (by assumption); first | exact .rfl | assumption | exact le2 (by assumption) (by assumption) | exact le3 (by assumption) (by assumption) (by assumption) | exact le4 (by assumption) (by assumption) (by assumption) (by assumption) | exact le5 (by assumption) (by assumption) (by assumption) (by assumption) (by assumption) | exact le6 (by assumption) (by assumption) (by assumption) (by assumption) (by assumption) (by assumption))) (by infer_instance) (by first | exact Sl.r (by assumption) (by first | exact .rfl | assumption | exact le2 (by assumption) (by assumption) | exact le3 (by assumption) (by assumption) (by assumption) | exact le4 (by assumption) (by assumption) (by assumption) (by assumption) | exact le5 (by assumption) (by assumption) (by assumption) (by assumption) (by assumption) | exact le6 (by assumption) (by assumption) (by assumption) (by assumption) (by assumption) (by assumption)) | (refine OwnS.r (OwnS.mono ?_ (by assumption)) (by intro p hp; simp only [List.mem_append, List.mem_cons, hp, true_or, or_true]); first | exact .rfl | assumption | exact le2 (by assumption) (by assumption) | exact le3 (by assumption) (by assumption) (by assumption) | exact le4 (by assumption) (by assumption) (by assumption) (by assumption) | exact le5 (by assumption) (by assumption) (by assumption) (by assumption) (by assumption) | exact le6 (by assumption) (by assumption) (by assumption) (by assumption) (by assumption) (by assumption)) | assumption) (by rfl) (by rfl) rfl rfl (by first | omega | ((try simp only [List.length_append, List.length_cons, List.length_nil, List.length_set, List.length_replicate, List.length_take, List.length_drop, List.length_map] at *); omega)) fun vR hsR hvR => ?_
    simp only [nrm, Nat.reduceAdd, Nat.reduceMul, Nat.reduceSub, Int.reduceToNat, Int.reduceAdd]
    refine opsR_nil ⟨rfl, rfl, ⟨by first | exact .rfl | assumption | exact le2 (by assumption) (by assumption) | exact le3 (by assumption) (by assumption) (by assumption) | exact le4 (by assumption) (by assumption) (by assumption) (by assumption) | exact le5 (by assumption) (by assumption) (by assumption) (by assumption) (by assumption) | exact le6 (by assumption) (by assumption) (by assumption) (by assumption) (by assumption) (by assumption), by intro p hp; simp only [List.mem_cons, List.mem_append, hp, or_true, true_or]⟩, ?_⟩
    refine restK_pick [11] (by kernel_rfl) ⟨?_, trivial⟩
    refine restK_op rfl ?_
    simp only [List.getElem_toArray, List.getElem_cons_zero, List.getElem_cons_succ]
    refine opsR_q rfl (q_assign) ?_
    simp only [nrm, Nat.reduceAdd, Nat.reduceMul, Nat.reduceSub, Int.reduceToNat, Int.reduceAdd]
    refine opsR_nil ⟨rfl, rfl, ⟨by first | exact .rfl | assumption | exact le2 (by assumption) (by assumption) | exact le3 (by assumption) (by assumption) (by assumption) | exact le4 (by assumption) (by assumption) (by assumption) (by assumption) | exact le5 (by assumption) (by assumption) (by assumption) (by assumption) (by assumption) | exact le6 (by assumption) (by assumption) (by assumption) (by assumption) (by assumption) (by assumption), by intro p hp; simp only [List.mem_cons, List.mem_append, hp, or_true, true_or]⟩, ?_⟩
    refine restK_end rfl ?_
    try simp only [nrm, Nat.reduceAdd, Nat.reduceMul, Nat.reduceSub, Int.reduceToNat, Int.reduceAdd]
    refine hk9 _ _ ?_
    clear hk9
    refine run_seq fun _ hk16 => ?_
    refine run_fz hvR (by infer_instance) fun JF hJF hvF => ?_
    try dsimp only at hJF
    simp only [nrm, Nat.reduceAdd, Nat.reduceMul, Nat.reduceSub, Int.reduceToNat, Int.reduceAdd]
    have hlen : (List.drop 0 (List.take kk a1) ++ [(⟨⟨#[]⟩, ⟨#[]⟩, true, 0⟩ : Bear)] ++ List.drop kk (List.take a1.length a1)).length ≤ 1073741824 := by simp; omega
    generalize hX : List.drop 0 (List.take kk a1) ++ [(⟨⟨#[]⟩, ⟨#[]⟩, true, 0⟩ : Bear)] ++ List.drop kk (List.take a1.length a1) = X at *
    have hmem : (⟨⟨#[]⟩, ⟨#[]⟩, true, 0⟩ : Bear) ∈ X := by rw [← hX]; simp
    have ho1 := all_open (l := a0) (e := 1) hmem
    have ho2 := all_open (l := a0) (e := 2) hmem
    refine run_region ?_
    refine opsR_q rfl (q_move) ?_
    simp only [nrm, Nat.reduceAdd, Nat.reduceMul, Nat.reduceSub, Int.reduceToNat, Int.reduceAdd]
    refine opsR_q rfl (q_move) ?_
    simp only [nrm, Nat.reduceAdd, Nat.reduceMul, Nat.reduceSub, Int.reduceToNat, Int.reduceAdd]
    refine opsR_o rfl (o_call rfl (Kept_spec (by first | assumption | (refine Sl.mono ?_ (by assumption); first | exact .rfl | assumption | exact le2 (by assumption) (by assumption) | exact le3 (by assumption) (by assumption) (by assumption) | exact le4 (by assumption) (by assumption) (by assumption) (by assumption) | exact le5 (by assumption) (by assumption) (by assumption) (by assumption) (by assumption) | exact le6 (by assumption) (by assumption) (by assumption) (by assumption) (by assumption) (by assumption))) (by first | assumption | (refine Sl.mono ?_ (by assumption); first | exact .rfl | assumption | exact le2 (by assumption) (by assumption) | exact le3 (by assumption) (by assumption) (by assumption) | exact le4 (by assumption) (by assumption) (by assumption) (by assumption) | exact le5 (by assumption) (by assumption) (by assumption) (by assumption) (by assumption) | exact le6 (by assumption) (by assumption) (by assumption) (by assumption) (by assumption) (by assumption))) (by omega) _ fun J19 hJ19 => ?_))
    try dsimp only at hJ19
    try (have hr19 : Hp.le s.I J19 := (by first | exact .rfl | assumption | exact le2 (by assumption) (by assumption) | exact le3 (by assumption) (by assumption) (by assumption) | exact le4 (by assumption) (by assumption) (by assumption) (by assumption) | exact le5 (by assumption) (by assumption) (by assumption) (by assumption) (by assumption) | exact le6 (by assumption) (by assumption) (by assumption) (by assumption) (by assumption) (by assumption)); have hJ19 := hJ19)
    simp only [nrm, Nat.reduceAdd, Nat.reduceMul, Nat.reduceSub, Int.reduceToNat, Int.reduceAdd]
    refine opsR_q rfl (q_move) ?_
    simp only [nrm, Nat.reduceAdd, Nat.reduceMul, Nat.reduceSub, Int.reduceToNat, Int.reduceAdd]
    refine opsR_q rfl (q_extract rfl rfl) ?_
    simp only [nrm, Nat.reduceAdd, Nat.reduceMul, Nat.reduceSub, Int.reduceToNat, Int.reduceAdd]
    refine opsR_q rfl (q_extract rfl rfl) ?_
    simp only [nrm, Nat.reduceAdd, Nat.reduceMul, Nat.reduceSub, Int.reduceToNat, Int.reduceAdd]
    refine opsR_o rfl (o_alloc fun b21 hb21 => ?_)
    simp only [nrm, Nat.reduceAdd, Nat.reduceMul, Nat.reduceSub, Int.reduceToNat, Int.reduceAdd]
    refine opsR_o rfl (o_storeB rfl rfl inferInstance (by first | rfl | assumption) (by first | rfl | exact Kd.one _ (by assumption) | assumption) (by first | rfl | (refine Nat.ble_eq_true_of_le ?_; (try simp only [Int.toNat_natCast]); omega)) ?_)
    simp only [nrm, Nat.reduceAdd, Nat.reduceMul, Nat.reduceSub, Int.reduceToNat, Int.reduceAdd]
    refine opsR_q rfl (q_assign) ?_
    simp only [nrm, Nat.reduceAdd, Nat.reduceMul, Nat.reduceSub, Int.reduceToNat, Int.reduceAdd]
    refine opsR_nil ?_
    refine hk16 _ _ ?_
    clear hk16
    refine run_seq fun _ hk22 => ?_
    refine run_region ?_
    refine opsR_q rfl (q_move) ?_
    simp only [nrm, Nat.reduceAdd, Nat.reduceMul, Nat.reduceSub, Int.reduceToNat, Int.reduceAdd]
    refine opsR_q rfl (q_not rfl) ?_
    simp only [nrm, Nat.reduceAdd, Nat.reduceMul, Nat.reduceSub, Int.reduceToNat, Int.reduceAdd]
    refine opsR_qb rfl (q_move) (fun _ => ?_) (fun h => absurd h (by rw [isKept, ho1]; decide))
    simp only [nrm, Nat.reduceAdd, Nat.reduceMul, Nat.reduceSub, Int.reduceToNat, Int.reduceAdd]
    refine opsR_q rfl (by first | exact q_loadBN rfl inferInstance (by rfl) | exact q_loadBW rfl inferInstance (by assumption)) ?_
    simp only [nrm, Nat.reduceAdd, Nat.reduceMul, Nat.reduceSub, Int.reduceToNat, Int.reduceAdd]
    refine opsR_q rfl (q_build rfl) ?_
    simp only [nrm, Nat.reduceAdd, Nat.reduceMul, Nat.reduceSub, Int.reduceToNat, Int.reduceAdd]
    refine opsR_q rfl (q_eql_agg rfl rfl (fun m K h => kTaint.eqL (m + 6) h)) ?_
    simp only [nrm, Nat.reduceAdd, Nat.reduceMul, Nat.reduceSub, Int.reduceToNat, Int.reduceAdd]
    refine opsR_q rfl (q_pick_t rfl) ?_
    simp only [nrm, Nat.reduceAdd, Nat.reduceMul, Nat.reduceSub, Int.reduceToNat, Int.reduceAdd]
    refine opsR_qb rfl (q_move) (fun _ => ?_) (fun h => absurd h (by rw [keptOf, ho1]; decide))
    simp only [nrm, Nat.reduceAdd, Nat.reduceMul, Nat.reduceSub, Int.reduceToNat, Int.reduceAdd]
    refine opsR_q rfl (q_move) ?_
    simp only [nrm, Nat.reduceAdd, Nat.reduceMul, Nat.reduceSub, Int.reduceToNat, Int.reduceAdd]
    refine opsR_q rfl (q_move) ?_
    simp only [nrm, Nat.reduceAdd, Nat.reduceMul, Nat.reduceSub, Int.reduceToNat, Int.reduceAdd]
    refine opsR_o rfl (o_call rfl (Shy_spec (by first | assumption | (refine Sl.mono ?_ (by assumption); first | exact .rfl | assumption | exact le2 (by assumption) (by assumption) | exact le3 (by assumption) (by assumption) (by assumption) | exact le4 (by assumption) (by assumption) (by assumption) (by assumption) | exact le5 (by assumption) (by assumption) (by assumption) (by assumption) (by assumption) | exact le6 (by assumption) (by assumption) (by assumption) (by assumption) (by assumption) (by assumption))) (by first | assumption | (refine Sl.mono ?_ (by assumption); first | exact .rfl | assumption | exact le2 (by assumption) (by assumption) | exact le3 (by assumption) (by assumption) (by assumption) | exact le4 (by assumption) (by assumption) (by assumption) (by assumption) | exact le5 (by assumption) (by assumption) (by assumption) (by assumption) (by assumption) | exact le6 (by assumption) (by assumption) (by assumption) (by assumption) (by assumption) (by assumption))) (by omega) _ fun J25 hJ25 => ?_))
    try dsimp only at hJ25
    try (have hr25 : Hp.le s.I J25 := (by first | exact .rfl | assumption | exact le2 (by assumption) (by assumption) | exact le3 (by assumption) (by assumption) (by assumption) | exact le4 (by assumption) (by assumption) (by assumption) (by assumption) | exact le5 (by assumption) (by assumption) (by assumption) (by assumption) (by assumption) | exact le6 (by assumption) (by assumption) (by assumption) (by assumption) (by assumption) (by assumption)); have hJ25 := hJ25)
    simp only [nrm, Nat.reduceAdd, Nat.reduceMul, Nat.reduceSub, Int.reduceToNat, Int.reduceAdd]
    refine opsR_q rfl (q_eql rfl rfl) ?_
    simp only [nrm, Nat.reduceAdd, Nat.reduceMul, Nat.reduceSub, Int.reduceToNat, Int.reduceAdd]
    refine opsR_q rfl (q_pick_t rfl) ?_
    simp only [nrm, Nat.reduceAdd, Nat.reduceMul, Nat.reduceSub, Int.reduceToNat, Int.reduceAdd]
    refine opsR_q rfl (q_assign) ?_
    simp only [nrm, Nat.reduceAdd, Nat.reduceMul, Nat.reduceSub, Int.reduceToNat, Int.reduceAdd]
    refine opsR_nil ?_
    refine hk22 _ _ ?_
    clear hk22
    refine run_ret ?_
    exact end_tmp rfl rfl rfl (by first | exact .refl | exact .drop | exact .drop2 | exact .drop3 | exact .drop4 | exact Gh.drop.trans .drop4 | exact Gh.drop2.trans .drop4 | exact Gh.drop3.trans .drop4) ⟨congrArg Go.Value.bool (by rw [shyOf, ho2]; rfl), by first | exact .rfl | assumption | exact le2 (by assumption) (by assumption) | exact le3 (by assumption) (by assumption) (by assumption) | exact le4 (by assumption) (by assumption) (by assumption) (by assumption) | exact le5 (by assumption) (by assumption) (by assumption) (by assumption) (by assumption) | exact le6 (by assumption) (by assumption) (by assumption) (by assumption) (by assumption) (by assumption)⟩
  · skip
    refine restK_op rfl ?_
    simp only [List.getElem_toArray, List.getElem_cons_zero, List.getElem_cons_succ]
    refine opsR_slice1 kBear (w := ⟨⟨#[]⟩, ⟨#[]⟩, true, 0⟩) rfl rfl (by rfl) (by decide) (by decide) (by rfl) (by first | rfl | assumption | exact kBear.shut | (refine Kd.mono _ ?_ (by assumption); first | exact .rfl | assumption | exact le2 (by assumption) (by assumption) | exact le3 (by assumption) (by assumption) (by assumption) | exact le4 (by assumption) (by assumption) (by assumption) (by assumption) | exact le5 (by assumption) (by assumption) (by assumption) (by assumption) (by assumption) | exact le6 (by assumption) (by assumption) (by assumption) (by assumption) (by assumption) (by assumption)) | (apply kBear.shut <;> assumption)) fun v27 hs27 hv27 => ?_
    simp only [nrm, Nat.reduceAdd, Nat.reduceMul, Nat.reduceSub, Int.reduceToNat, Int.reduceAdd]
    refine opsR_nil ⟨rfl, rfl, ⟨by first | exact .rfl | assumption | exact le2 (by assumption) (by assumption) | exact le3 (by assumption) (by assumption) (by assumption) | exact le4 (by assumption) (by assumption) (by assumption) (by assumption) | exact le5 (by assumption) (by assumption) (by assumption) (by assumption) (by assumption) | exact le6 (by assumption) (by assumption) (by assumption) (by assumption) (by assumption) (by assumption), by intro p hp; simp only [List.mem_cons, List.mem_append, hp, or_true, true_or]⟩, ?_⟩
    refine restK_pick [3] (by kernel_rfl) ⟨?_, trivial⟩
    refine restK_op rfl ?_
    simp only [List.getElem_toArray, List.getElem_cons_zero, List.getElem_cons_succ]
    refine opsR_o rfl (o_call rfl (bears_spec (by first | assumption | (refine Sl.mono ?_ (by assumption); first | exact .rfl | assumption | exact le2 (by assumption) (by assumption) | exact le3 (by assumption) (by assumption) (by assumption) | exact le4 (by assumption) (by assumption) (by assumption) (by assumption) | exact le5 (by assumption) (by assumption) (by assumption) (by assumption) (by assumption) | exact le6 (by assumption) (by assumption) (by assumption) (by assumption) (by assumption) (by assumption))) (by first | omega | ((try simp only [List.length_append, List.length_cons, List.length_nil, List.length_set, List.length_replicate, List.length_take, List.length_drop, List.length_map] at *); omega)) _ fun v28 J28 hs28 hJ28 hv28 => ?_))
    try dsimp only at hJ28 hv28
    try (have hr28 : Hp.le s.I J28 := (by first | exact .rfl | assumption | exact le2 (by assumption) (by assumption) | exact le3 (by assumption) (by assumption) (by assumption) | exact le4 (by assumption) (by assumption) (by assumption) (by assumption) | exact le5 (by assumption) (by assumption) (by assumption) (by assumption) (by assumption) | exact le6 (by assumption) (by assumption) (by assumption) (by assumption) (by assumption) (by assumption)); have hJ28 := hJ28)
    simp only [nrm, Nat.reduceAdd, Nat.reduceMul, Nat.reduceSub, Int.reduceToNat, Int.reduceAdd]
    refine opsR_nil ⟨rfl, rfl, ⟨by first | exact .rfl | assumption | exact le2 (by assumption) (by assumption) | exact le3 (by assumption) (by assumption) (by assumption) | exact le4 (by assumption) (by assumption) (by assumption) (by assumption) | exact le5 (by assumption) (by assumption) (by assumption) (by assumption) (by assumption) | exact le6 (by assumption) (by assumption) (by assumption) (by assumption) (by assumption) (by assumption), by intro p hp; simp only [List.mem_cons, List.mem_append, hp, or_true, true_or]⟩, ?_⟩
    refine restK_pick [6] (by kernel_rfl) ⟨?_, trivial⟩
    refine restK_op rfl ?_
    simp only [List.getElem_toArray, List.getElem_cons_zero, List.getElem_cons_succ]
    refine opsR_app rfl rfl rfl (by first | assumption | (refine OwnS.mono ?_ (by assumption); first | exact .rfl | assumption | exact le2 (by assumption) (by assumption) | exact le3 (by assumption) (by assumption) (by assumption) | exact le4 (by assumption) (by assumption) (by assumption) (by assumption) | exact le5 (by assumption) (by assumption) (by assumption) (by assumption) (by assumption) | exact le6 (by assumption) (by assumption) (by assumption) (by assumption) (by assumption) (by assumption))) (by infer_instance) (by first | exact Sl.r (by assumption) (by first | exact .rfl | assumption | exact le2 (by assumption) (by assumption) | exact le3 (by assumption) (by assumption) (by assumption) | exact le4 (by assumption) (by assumption) (by assumption) (by assumption) | exact le5 (by assumption) (by assumption) (by assumption) (by assumption) (by assumption) | exact le6 (by assumption) (by assumption) (by assumption) (by assumption) (by assumption) (by assumption)) | (refine OwnS.r (OwnS.mono ?_ (by assumption)) (by intro p hp; simp only [List.mem_append, List.mem_cons, hp, true_or, or_true]); first | exact .rfl | assumption | exact le2 (by assumption) (by assumption) | exact le3 (by assumption) (by assumption) (by assumption) | exact le4 (by assumption) (by assumption) (by assumption) (by assumption) | exact le5 (by assumption) (by assumption) (by assumption) (by assumption) (by assumption) | exact le6 (by assumption) (by assumption) (by assumption) (by assumption) (by assumption) (by assumption)) | assumption) (by rfl) (by rfl) rfl rfl (by first | omega | ((try simp only [List.length_append, List.length_cons, List.length_nil, List.length_set, List.length_replicate, List.length_take, List.length_drop, List.length_map] at *); omega)) fun v29 hs29 hv29 => ?_
    simp only [nrm, Nat.reduceAdd, Nat.reduceMul, Nat.reduceSub, Int.reduceToNat, Int.reduceAdd]
    refine opsR_dropS (hs := hs27) ?_
    try simp only [nrm, Nat.reduceAdd, Nat.reduceMul, Nat.reduceSub, Int.reduceToNat, Int.reduceAdd]
    refine opsR_nil ⟨rfl, rfl, ⟨by first | exact .rfl | assumption | exact le2 (by assumption) (by assumption) | exact le3 (by assumption) (by assumption) (by assumption) | exact le4 (by assumption) (by assumption) (by assumption) (by assumption) | exact le5 (by assumption) (by assumption) (by assumption) (by assumption) (by assumption) | exact le6 (by assumption) (by assumption) (by assumption) (by assumption) (by assumption) (by assumption), by intro p hp; simp only [List.mem_cons, List.mem_append, hp, or_true, true_or]⟩, ?_⟩
    refine restK_pick [10] (by kernel_rfl) ⟨?_, trivial⟩
    refine restK_op rfl ?_
    simp only [List.getElem_toArray, List.getElem_cons_zero, List.getElem_cons_succ]
    refine opsR_app rfl rfl rfl (by first | assumption | (refine OwnS.mono ?_ (by assumption); first | exact .rfl | assumption | exact le2 (by assumption) (by assumption) | exact le3 (by assumption) (by assumption) (by assumption) | exact le4 (by assumption) (by assumption) (by assumption) (by assumption) | exact le5 (by assumption) (by assumption) (by assumption) (by assumption) (by assumption) | exact le6 (by assumption) (by assumption) (by assumption) (by assumption) (by assumption) (by assumption))) (by infer_instance) (by first | exact Sl.r (by assumption) (by first | exact .rfl | assumption | exact le2 (by assumption) (by assumption) | exact le3 (by assumption) (by assumption) (by assumption) | exact le4 (by assumption) (by assumption) (by assumption) (by assumption) | exact le5 (by assumption) (by assumption) (by assumption) (by assumption) (by assumption) | exact le6 (by assumption) (by assumption) (by assumption) (by assumption) (by assumption) (by assumption)) | (refine OwnS.r (OwnS.mono ?_ (by assumption)) (by intro p hp; simp only [List.mem_append, List.mem_cons, hp, true_or, or_true]); first | exact .rfl | assumption | exact le2 (by assumption) (by assumption) | exact le3 (by assumption) (by assumption) (by assumption) | exact le4 (by assumption) (by assumption) (by assumption) (by assumption) | exact le5 (by assumption) (by assumption) (by assumption) (by assumption) (by assumption) | exact le6 (by assumption) (by assumption) (by assumption) (by assumption) (by assumption) (by assumption)) | assumption) (by rfl) (by rfl) rfl rfl (by first | omega | ((try simp only [List.length_append, List.length_cons, List.length_nil, List.length_set, List.length_replicate, List.length_take, List.length_drop, List.length_map] at *); omega)) fun vR hsR hvR => ?_
    simp only [nrm, Nat.reduceAdd, Nat.reduceMul, Nat.reduceSub, Int.reduceToNat, Int.reduceAdd]
    refine opsR_nil ⟨rfl, rfl, ⟨by first | exact .rfl | assumption | exact le2 (by assumption) (by assumption) | exact le3 (by assumption) (by assumption) (by assumption) | exact le4 (by assumption) (by assumption) (by assumption) (by assumption) | exact le5 (by assumption) (by assumption) (by assumption) (by assumption) (by assumption) | exact le6 (by assumption) (by assumption) (by assumption) (by assumption) (by assumption) (by assumption), by intro p hp; simp only [List.mem_cons, List.mem_append, hp, or_true, true_or]⟩, ?_⟩
    refine restK_pick [11] (by kernel_rfl) ⟨?_, trivial⟩
    refine restK_op rfl ?_
    simp only [List.getElem_toArray, List.getElem_cons_zero, List.getElem_cons_succ]
    refine opsR_q rfl (q_assign) ?_
    simp only [nrm, Nat.reduceAdd, Nat.reduceMul, Nat.reduceSub, Int.reduceToNat, Int.reduceAdd]
    refine opsR_nil ⟨rfl, rfl, ⟨by first | exact .rfl | assumption | exact le2 (by assumption) (by assumption) | exact le3 (by assumption) (by assumption) (by assumption) | exact le4 (by assumption) (by assumption) (by assumption) (by assumption) | exact le5 (by assumption) (by assumption) (by assumption) (by assumption) (by assumption) | exact le6 (by assumption) (by assumption) (by assumption) (by assumption) (by assumption) (by assumption), by intro p hp; simp only [List.mem_cons, List.mem_append, hp, or_true, true_or]⟩, ?_⟩
    refine restK_end rfl ?_
    try simp only [nrm, Nat.reduceAdd, Nat.reduceMul, Nat.reduceSub, Int.reduceToNat, Int.reduceAdd]
    refine hk9 _ _ ?_
    clear hk9
    refine run_seq fun _ hk31 => ?_
    refine run_fz hvR (by infer_instance) fun JF hJF hvF => ?_
    try dsimp only at hJF
    simp only [nrm, Nat.reduceAdd, Nat.reduceMul, Nat.reduceSub, Int.reduceToNat, Int.reduceAdd]
    have hlen : (List.drop 0 (List.take kk a1) ++ [(⟨⟨#[]⟩, ⟨#[]⟩, true, 0⟩ : Bear)] ++ List.drop kk (List.take a1.length a1)).length ≤ 1073741824 := by simp; omega
    generalize hX : List.drop 0 (List.take kk a1) ++ [(⟨⟨#[]⟩, ⟨#[]⟩, true, 0⟩ : Bear)] ++ List.drop kk (List.take a1.length a1) = X at *
    have hmem : (⟨⟨#[]⟩, ⟨#[]⟩, true, 0⟩ : Bear) ∈ X := by rw [← hX]; simp
    have ho1 := all_open (l := a0) (e := 1) hmem
    have ho2 := all_open (l := a0) (e := 2) hmem
    refine run_region ?_
    refine opsR_q rfl (q_move) ?_
    simp only [nrm, Nat.reduceAdd, Nat.reduceMul, Nat.reduceSub, Int.reduceToNat, Int.reduceAdd]
    refine opsR_q rfl (q_move) ?_
    simp only [nrm, Nat.reduceAdd, Nat.reduceMul, Nat.reduceSub, Int.reduceToNat, Int.reduceAdd]
    refine opsR_o rfl (o_call rfl (Kept_spec (by first | assumption | (refine Sl.mono ?_ (by assumption); first | exact .rfl | assumption | exact le2 (by assumption) (by assumption) | exact le3 (by assumption) (by assumption) (by assumption) | exact le4 (by assumption) (by assumption) (by assumption) (by assumption) | exact le5 (by assumption) (by assumption) (by assumption) (by assumption) (by assumption) | exact le6 (by assumption) (by assumption) (by assumption) (by assumption) (by assumption) (by assumption))) (by first | assumption | (refine Sl.mono ?_ (by assumption); first | exact .rfl | assumption | exact le2 (by assumption) (by assumption) | exact le3 (by assumption) (by assumption) (by assumption) | exact le4 (by assumption) (by assumption) (by assumption) (by assumption) | exact le5 (by assumption) (by assumption) (by assumption) (by assumption) (by assumption) | exact le6 (by assumption) (by assumption) (by assumption) (by assumption) (by assumption) (by assumption))) (by omega) _ fun J34 hJ34 => ?_))
    try dsimp only at hJ34
    try (have hr34 : Hp.le s.I J34 := (by first | exact .rfl | assumption | exact le2 (by assumption) (by assumption) | exact le3 (by assumption) (by assumption) (by assumption) | exact le4 (by assumption) (by assumption) (by assumption) (by assumption) | exact le5 (by assumption) (by assumption) (by assumption) (by assumption) (by assumption) | exact le6 (by assumption) (by assumption) (by assumption) (by assumption) (by assumption) (by assumption)); have hJ34 := hJ34)
    simp only [nrm, Nat.reduceAdd, Nat.reduceMul, Nat.reduceSub, Int.reduceToNat, Int.reduceAdd]
    refine opsR_q rfl (q_move) ?_
    simp only [nrm, Nat.reduceAdd, Nat.reduceMul, Nat.reduceSub, Int.reduceToNat, Int.reduceAdd]
    refine opsR_q rfl (q_extract rfl rfl) ?_
    simp only [nrm, Nat.reduceAdd, Nat.reduceMul, Nat.reduceSub, Int.reduceToNat, Int.reduceAdd]
    refine opsR_q rfl (q_extract rfl rfl) ?_
    simp only [nrm, Nat.reduceAdd, Nat.reduceMul, Nat.reduceSub, Int.reduceToNat, Int.reduceAdd]
    refine opsR_o rfl (o_alloc fun b36 hb36 => ?_)
    simp only [nrm, Nat.reduceAdd, Nat.reduceMul, Nat.reduceSub, Int.reduceToNat, Int.reduceAdd]
    refine opsR_o rfl (o_storeB rfl rfl inferInstance (by first | rfl | assumption) (by first | rfl | exact Kd.one _ (by assumption) | assumption) (by first | rfl | (refine Nat.ble_eq_true_of_le ?_; (try simp only [Int.toNat_natCast]); omega)) ?_)
    simp only [nrm, Nat.reduceAdd, Nat.reduceMul, Nat.reduceSub, Int.reduceToNat, Int.reduceAdd]
    refine opsR_q rfl (q_assign) ?_
    simp only [nrm, Nat.reduceAdd, Nat.reduceMul, Nat.reduceSub, Int.reduceToNat, Int.reduceAdd]
    refine opsR_nil ?_
    refine hk31 _ _ ?_
    clear hk31
    refine run_seq fun _ hk37 => ?_
    refine run_region ?_
    refine opsR_q rfl (q_move) ?_
    simp only [nrm, Nat.reduceAdd, Nat.reduceMul, Nat.reduceSub, Int.reduceToNat, Int.reduceAdd]
    refine opsR_q rfl (q_not rfl) ?_
    simp only [nrm, Nat.reduceAdd, Nat.reduceMul, Nat.reduceSub, Int.reduceToNat, Int.reduceAdd]
    refine opsR_qb rfl (q_move) (fun _ => ?_) (fun h => absurd h (by rw [isKept, ho1]; decide))
    simp only [nrm, Nat.reduceAdd, Nat.reduceMul, Nat.reduceSub, Int.reduceToNat, Int.reduceAdd]
    refine opsR_q rfl (by first | exact q_loadBN rfl inferInstance (by rfl) | exact q_loadBW rfl inferInstance (by assumption)) ?_
    simp only [nrm, Nat.reduceAdd, Nat.reduceMul, Nat.reduceSub, Int.reduceToNat, Int.reduceAdd]
    refine opsR_q rfl (q_build rfl) ?_
    simp only [nrm, Nat.reduceAdd, Nat.reduceMul, Nat.reduceSub, Int.reduceToNat, Int.reduceAdd]
    refine opsR_q rfl (q_eql_agg rfl rfl (fun m K h => kTaint.eqL (m + 6) h)) ?_
    simp only [nrm, Nat.reduceAdd, Nat.reduceMul, Nat.reduceSub, Int.reduceToNat, Int.reduceAdd]
    refine opsR_q rfl (q_pick_t rfl) ?_
    simp only [nrm, Nat.reduceAdd, Nat.reduceMul, Nat.reduceSub, Int.reduceToNat, Int.reduceAdd]
    refine opsR_qb rfl (q_move) (fun _ => ?_) (fun h => absurd h (by rw [keptOf, ho1]; decide))
    simp only [nrm, Nat.reduceAdd, Nat.reduceMul, Nat.reduceSub, Int.reduceToNat, Int.reduceAdd]
    refine opsR_q rfl (q_move) ?_
    simp only [nrm, Nat.reduceAdd, Nat.reduceMul, Nat.reduceSub, Int.reduceToNat, Int.reduceAdd]
    refine opsR_q rfl (q_move) ?_
    simp only [nrm, Nat.reduceAdd, Nat.reduceMul, Nat.reduceSub, Int.reduceToNat, Int.reduceAdd]
    refine opsR_o rfl (o_call rfl (Shy_spec (by first | assumption | (refine Sl.mono ?_ (by assumption); first | exact .rfl | assumption | exact le2 (by assumption) (by assumption) | exact le3 (by assumption) (by assumption) (by assumption) | exact le4 (by assumption) (by assumption) (by assumption) (by assumption) | exact le5 (by assumption) (by assumption) (by assumption) (by assumption) (by assumption) | exact le6 (by assumption) (by assumption) (by assumption) (by assumption) (by assumption) (by assumption))) (by first | assumption | (refine Sl.mono ?_ (by assumption); first | exact .rfl | assumption | exact le2 (by assumption) (by assumption) | exact le3 (by assumption) (by assumption) (by assumption) | exact le4 (by assumption) (by assumption) (by assumption) (by assumption) | exact le5 (by assumption) (by assumption) (by assumption) (by assumption) (by assumption) | exact le6 (by assumption) (by assumption) (by assumption) (by assumption) (by assumption) (by assumption))) (by omega) _ fun J40 hJ40 => ?_))
    try dsimp only at hJ40
    try (have hr40 : Hp.le s.I J40 := (by first | exact .rfl | assumption | exact le2 (by assumption) (by assumption) | exact le3 (by assumption) (by assumption) (by assumption) | exact le4 (by assumption) (by assumption) (by assumption) (by assumption) | exact le5 (by assumption) (by assumption) (by assumption) (by assumption) (by assumption) | exact le6 (by assumption) (by assumption) (by assumption) (by assumption) (by assumption) (by assumption)); have hJ40 := hJ40)
    simp only [nrm, Nat.reduceAdd, Nat.reduceMul, Nat.reduceSub, Int.reduceToNat, Int.reduceAdd]
    refine opsR_q rfl (q_eql rfl rfl) ?_
    simp only [nrm, Nat.reduceAdd, Nat.reduceMul, Nat.reduceSub, Int.reduceToNat, Int.reduceAdd]
    refine opsR_q rfl (q_pick_t rfl) ?_
    simp only [nrm, Nat.reduceAdd, Nat.reduceMul, Nat.reduceSub, Int.reduceToNat, Int.reduceAdd]
    refine opsR_q rfl (q_assign) ?_
    simp only [nrm, Nat.reduceAdd, Nat.reduceMul, Nat.reduceSub, Int.reduceToNat, Int.reduceAdd]
    refine opsR_nil ?_
    refine hk37 _ _ ?_
    clear hk37
    refine run_ret ?_
    exact end_tmp rfl rfl rfl (by first | exact .refl | exact .drop | exact .drop2 | exact .drop3 | exact .drop4 | exact Gh.drop.trans .drop4 | exact Gh.drop2.trans .drop4 | exact Gh.drop3.trans .drop4) ⟨congrArg Go.Value.bool (by rw [shyOf, ho2]; rfl), by first | exact .rfl | assumption | exact le2 (by assumption) (by assumption) | exact le3 (by assumption) (by assumption) (by assumption) | exact le4 (by assumption) (by assumption) (by assumption) (by assumption) | exact le5 (by assumption) (by assumption) (by assumption) (by assumption) (by assumption) | exact le6 (by assumption) (by assumption) (by assumption) (by assumption) (by assumption) (by assumption)⟩
theorem borne_keep {b : List Bear} {t : Taint} {i : Nat} (hi : i < b.length) (h : borneOf (b.take i) t = true) : true = borneOf (b.take (i + 1)) t := by
  rw [take_succ! hi, borne_append, h]; rfl
theorem borne_next {b : List Bear} {t : Taint} {i : Nat} (hi : i < b.length) (h : borneOf (b.take i) t = false) : bearsOf b[i]! t = borneOf (b.take (i + 1)) t := by
  rw [take_succ! hi, borne_append, h, borneOf, List.any_cons, List.any_nil, Bool.or_false, Bool.false_or]
theorem one_kept {x y : Bool} {e : Int} (h : y = (x || decide (e = 1))) : (y == (x || decide (e = 1))) = true := by rw [h]; simp
set_option maxHeartbeats 1000000 in
theorem TaintOne_walk (a0 : List Taint) (v0 : Value) (a1 : Taint) (c1 : List Value) (a2 : List Bear) (v2 : Value) (s : St) (h0 : Sl kTaint s.I v0 a0) (ok0 : kTaint.slice.ok a0) (h1 : kTaint.rep s.I a1 c1) (ok1 : kTaint.ok a1) (h2 : Sl kBear s.I v2 a2) (ok2 : kBear.slice.ok a2)
    (hb : kTaint.slice.bulk a0 + kTaint.bulk a1 + kBear.slice.bulk a2 ≤ 1048576) : CallS Tryd.prog 7 #[v0, .agg c1.toArray, v2] s (fun v s' => v = .bool true ∧ Hp.le s.I s'.I) := by
  have hb0 := taint_bulk a0
  have hb2 := bear_bulk a2
  have hlen : (a0 ++ [a1]).length = a0.length + 1 := by simp
  have hle2 := h2.len.le
  have hsy := shy_bd a0 a2
  obtain rfl := kTaint.open h1
  refine callS_of_run Tryd.func7 rfl ?_; simp only [Tryd.ntmps7, List.size_toArray, List.length_cons, List.length_nil, Nat.reduceAdd, Nat.reduceSub, Array.replicate_succ, Array.replicate_zero, List.push_toArray, List.append_toArray, List.nil_append, List.cons_append]
  refine run_seq fun _ hk1 => ?_
  refine run_region ?_
  refine opsR_o rfl (o_box fun bBT hbBT => ?_)
  simp only [nrm, Nat.reduceAdd, Nat.reduceMul, Nat.reduceSub, Int.reduceToNat, Int.reduceAdd]
  refine opsR_q rfl (q_assign) ?_
  simp only [nrm, Nat.reduceAdd, Nat.reduceMul, Nat.reduceSub, Int.reduceToNat, Int.reduceAdd]
  refine opsR_nil ?_
  refine hk1 _ _ ?_
  clear hk1
  refine run_seq fun _ hk3 => ?_
  refine run_seq fun _ hk4 => ?_
  refine run_region ?_
  refine opsR_o rfl (o_call rfl (works_spec _ fun J5 hJ5 => ?_))
  try dsimp only at hJ5
  try (have hr5 : Hp.le s.I J5 := (by first | exact .rfl | assumption | exact le2 (by assumption) (by assumption) | exact le3 (by assumption) (by assumption) (by assumption) | exact le4 (by assumption) (by assumption) (by assumption) (by assumption) | exact le5 (by assumption) (by assumption) (by assumption) (by assumption) (by assumption) | exact le6 (by assumption) (by assumption) (by assumption) (by assumption) (by assumption) (by assumption)); have hJ5 := hJ5)
  simp only [nrm, Nat.reduceAdd, Nat.reduceMul, Nat.reduceSub, Int.reduceToNat, Int.reduceAdd]
  refine opsR_q rfl (q_not rfl) ?_
  simp only [nrm, Nat.reduceAdd, Nat.reduceMul, Nat.reduceSub, Int.reduceToNat, Int.reduceAdd]
  refine opsR_nil ?_
  refine hk4 _ _ ?_
  clear hk4
  refine run_cond (t := false) rfl (fun h => by cases h) (fun _ => ?_)
  refine run_skip ?_
  refine hk3 _ _ ?_
  clear hk3
  refine run_seq fun _ hk7 => ?_
  refine run_mixL mixed [true, false, true, false, false, false] [false, false, false, false, false, false] [1, 3, 4, 5] (KeepS _) (by kernel_rfl) rfl KeepS.refl ?_
  refine oblK_k rfl (fun z hz => (q_move)) ?_
  simp only [nrm, Nat.reduceAdd, Nat.reduceMul, Nat.reduceSub, Int.reduceToNat, Int.reduceAdd]
  refine oblK_r ?_
  refine oblK_k rfl (fun z hz => by have hI := hz.1; first | exact q_loadN rfl (hz.has inferInstance) (Nat.le_of_ble_eq_true rfl) | exact q_loadBN rfl inferInstance (by rfl) | exact q_loadBW rfl inferInstance (by assumption)) ?_
  simp only [nrm, Nat.reduceAdd, Nat.reduceMul, Nat.reduceSub, Int.reduceToNat, Int.reduceAdd]
  refine oblK_r ?_
  refine oblK_r ?_
  refine oblK_r ?_
  refine oblK_nil ?_
  refine restK_pick [1, 3] (by kernel_rfl) ⟨?_, ?_, trivial⟩
  · skip
    refine restK_op rfl ?_
    simp only [List.getElem_toArray, List.getElem_cons_zero, List.getElem_cons_succ]
    refine opsR_o rfl (o_call rfl (taints_spec (by first | assumption | (refine Sl.mono ?_ (by assumption); first | exact .rfl | assumption | exact le2 (by assumption) (by assumption) | exact le3 (by assumption) (by assumption) (by assumption) | exact le4 (by assumption) (by assumption) (by assumption) (by assumption) | exact le5 (by assumption) (by assumption) (by assumption) (by assumption) (by assumption) | exact le6 (by assumption) (by assumption) (by assumption) (by assumption) (by assumption) (by assumption))) (by omega) _ fun v8 J8 hs8 hJ8 hv8 => ?_))
    try dsimp only at hJ8 hv8
    try (have hr8 : Hp.le s.I J8 := (by first | exact .rfl | assumption | exact le2 (by assumption) (by assumption) | exact le3 (by assumption) (by assumption) (by assumption) | exact le4 (by assumption) (by assumption) (by assumption) (by assumption) | exact le5 (by assumption) (by assumption) (by assumption) (by assumption) (by assumption) | exact le6 (by assumption) (by assumption) (by assumption) (by assumption) (by assumption) (by assumption)); have hJ8 := hJ8)
    simp only [nrm, Nat.reduceAdd, Nat.reduceMul, Nat.reduceSub, Int.reduceToNat, Int.reduceAdd]
    refine opsR_nil ⟨rfl, rfl, ⟨by first | exact .rfl | assumption | exact le2 (by assumption) (by assumption) | exact le3 (by assumption) (by assumption) (by assumption) | exact le4 (by assumption) (by assumption) (by assumption) (by assumption) | exact le5 (by assumption) (by assumption) (by assumption) (by assumption) (by assumption) | exact le6 (by assumption) (by assumption) (by assumption) (by assumption) (by assumption) (by assumption), by intro p hp; simp only [List.mem_cons, List.mem_append, hp, or_true, true_or]⟩, ?_⟩
    refine restK_pick [3] (by kernel_rfl) ⟨?_, trivial⟩
    refine restK_op rfl ?_
    simp only [List.getElem_toArray, List.getElem_cons_zero, List.getElem_cons_succ]
    refine opsR_slice1 kTaint (w := a1) rfl rfl (by rfl) (by decide) (by decide) (by rfl) (by first | rfl | assumption | exact kTaint.shut | (refine Kd.mono _ ?_ (by assumption); first | exact .rfl | assumption | exact le2 (by assumption) (by assumption) | exact le3 (by assumption) (by assumption) (by assumption) | exact le4 (by assumption) (by assumption) (by assumption) (by assumption) | exact le5 (by assumption) (by assumption) (by assumption) (by assumption) (by assumption) | exact le6 (by assumption) (by assumption) (by assumption) (by assumption) (by assumption) (by assumption)) | (apply kTaint.shut <;> assumption)) fun v9 hs9 hv9 => ?_
    simp only [nrm, Nat.reduceAdd, Nat.reduceMul, Nat.reduceSub, Int.reduceToNat, Int.reduceAdd]
    refine opsR_nil ⟨rfl, rfl, ⟨by first | exact .rfl | assumption | exact le2 (by assumption) (by assumption) | exact le3 (by assumption) (by assumption) (by assumption) | exact le4 (by assumption) (by assumption) (by assumption) (by assumption) | exact le5 (by assumption) (by assumption) (by assumption) (by assumption) (by assumption) | exact le6 (by assumption) (by assumption) (by assumption) (by assumption) (by assumption) (by assumption), by intro p hp; simp only [List.mem_cons, List.mem_append, hp, or_true, true_or]⟩, ?_⟩
    refine restK_pick [4] (by kernel_rfl) ⟨?_, trivial⟩
    refine restK_op rfl ?_
    simp only [List.getElem_toArray, List.getElem_cons_zero, List.getElem_cons_succ]
    refine opsR_app rfl rfl rfl (by first | assumption | (refine OwnS.mono ?_ (by assumption); first | exact .rfl | assumption | exact le2 (by assumption) (by assumption) | exact le3 (by assumption) (by assumption) (by assumption) | exact le4 (by assumption) (by assumption) (by assumption) (by assumption) | exact le5 (by assumption) (by assumption) (by assumption) (by assumption) (by assumption) | exact le6 (by assumption) (by assumption) (by assumption) (by assumption) (by assumption) (by assumption))) (by infer_instance) (by first | exact Sl.r (by assumption) (by first | exact .rfl | assumption | exact le2 (by assumption) (by assumption) | exact le3 (by assumption) (by assumption) (by assumption) | exact le4 (by assumption) (by assumption) (by assumption) (by assumption) | exact le5 (by assumption) (by assumption) (by assumption) (by assumption) (by assumption) | exact le6 (by assumption) (by assumption) (by assumption) (by assumption) (by assumption) (by assumption)) | (refine OwnS.r (OwnS.mono ?_ (by assumption)) (by intro p hp; simp only [List.mem_append, List.mem_cons, hp, true_or, or_true]); first | exact .rfl | assumption | exact le2 (by assumption) (by assumption) | exact le3 (by assumption) (by assumption) (by assumption) | exact le4 (by assumption) (by assumption) (by assumption) (by assumption) | exact le5 (by assumption) (by assumption) (by assumption) (by assumption) (by assumption) | exact le6 (by assumption) (by assumption) (by assumption) (by assumption) (by assumption) (by assumption)) | assumption) (by rfl) (by rfl) rfl rfl (by first | omega | ((try simp only [List.length_append, List.length_cons, List.length_nil, List.length_set, List.length_replicate, List.length_take, List.length_drop, List.length_map] at *); omega)) fun vR hsR hvR => ?_
    simp only [nrm, Nat.reduceAdd, Nat.reduceMul, Nat.reduceSub, Int.reduceToNat, Int.reduceAdd]
    refine opsR_dropS (hs := hs9) ?_
    try simp only [nrm, Nat.reduceAdd, Nat.reduceMul, Nat.reduceSub, Int.reduceToNat, Int.reduceAdd]
    refine opsR_nil ⟨rfl, rfl, ⟨by first | exact .rfl | assumption | exact le2 (by assumption) (by assumption) | exact le3 (by assumption) (by assumption) (by assumption) | exact le4 (by assumption) (by assumption) (by assumption) (by assumption) | exact le5 (by assumption) (by assumption) (by assumption) (by assumption) (by assumption) | exact le6 (by assumption) (by assumption) (by assumption) (by assumption) (by assumption) (by assumption), by intro p hp; simp only [List.mem_cons, List.mem_append, hp, or_true, true_or]⟩, ?_⟩
    refine restK_pick [5] (by kernel_rfl) ⟨?_, trivial⟩
    refine restK_op rfl ?_
    simp only [List.getElem_toArray, List.getElem_cons_zero, List.getElem_cons_succ]
    refine opsR_q rfl (q_assign) ?_
    simp only [nrm, Nat.reduceAdd, Nat.reduceMul, Nat.reduceSub, Int.reduceToNat, Int.reduceAdd]
    refine opsR_nil ⟨rfl, rfl, ⟨by first | exact .rfl | assumption | exact le2 (by assumption) (by assumption) | exact le3 (by assumption) (by assumption) (by assumption) | exact le4 (by assumption) (by assumption) (by assumption) (by assumption) | exact le5 (by assumption) (by assumption) (by assumption) (by assumption) (by assumption) | exact le6 (by assumption) (by assumption) (by assumption) (by assumption) (by assumption) (by assumption), by intro p hp; simp only [List.mem_cons, List.mem_append, hp, or_true, true_or]⟩, ?_⟩
    refine restK_end rfl ?_
    try simp only [nrm, Nat.reduceAdd, Nat.reduceMul, Nat.reduceSub, Int.reduceToNat, Int.reduceAdd]
    refine hk7 _ _ ?_
    clear hk7
    refine run_seq fun _ hk11 => ?_
    refine run_fz hvR (by infer_instance) fun JF hJF hvF => ?_
    try dsimp only at hJF
    have hrF := hJF
    simp only [nrm, Nat.reduceAdd, Nat.reduceMul, Nat.reduceSub, Int.reduceToNat, Int.reduceAdd]
    refine run_region ?_
    refine opsR_q rfl (q_move) ?_
    simp only [nrm, Nat.reduceAdd, Nat.reduceMul, Nat.reduceSub, Int.reduceToNat, Int.reduceAdd]
    refine opsR_q rfl (q_move) ?_
    simp only [nrm, Nat.reduceAdd, Nat.reduceMul, Nat.reduceSub, Int.reduceToNat, Int.reduceAdd]
    refine opsR_o rfl (o_call rfl (Kept_spec (by first | assumption | (refine Sl.mono ?_ (by assumption); first | exact .rfl | assumption | exact le2 (by assumption) (by assumption) | exact le3 (by assumption) (by assumption) (by assumption) | exact le4 (by assumption) (by assumption) (by assumption) (by assumption) | exact le5 (by assumption) (by assumption) (by assumption) (by assumption) (by assumption) | exact le6 (by assumption) (by assumption) (by assumption) (by assumption) (by assumption) (by assumption))) (by first | assumption | (refine Sl.mono ?_ (by assumption); first | exact .rfl | assumption | exact le2 (by assumption) (by assumption) | exact le3 (by assumption) (by assumption) (by assumption) | exact le4 (by assumption) (by assumption) (by assumption) (by assumption) | exact le5 (by assumption) (by assumption) (by assumption) (by assumption) (by assumption) | exact le6 (by assumption) (by assumption) (by assumption) (by assumption) (by assumption) (by assumption))) (by omega) _ fun J14 hJ14 => ?_))
    try dsimp only at hJ14
    try (have hr14 : Hp.le s.I J14 := (by first | exact .rfl | assumption | exact le2 (by assumption) (by assumption) | exact le3 (by assumption) (by assumption) (by assumption) | exact le4 (by assumption) (by assumption) (by assumption) (by assumption) | exact le5 (by assumption) (by assumption) (by assumption) (by assumption) (by assumption) | exact le6 (by assumption) (by assumption) (by assumption) (by assumption) (by assumption) (by assumption)); have hJ14 := hJ14)
    simp only [nrm, Nat.reduceAdd, Nat.reduceMul, Nat.reduceSub, Int.reduceToNat, Int.reduceAdd]
    refine opsR_q rfl (q_move) ?_
    simp only [nrm, Nat.reduceAdd, Nat.reduceMul, Nat.reduceSub, Int.reduceToNat, Int.reduceAdd]
    refine opsR_q rfl (q_extract rfl rfl) ?_
    simp only [nrm, Nat.reduceAdd, Nat.reduceMul, Nat.reduceSub, Int.reduceToNat, Int.reduceAdd]
    refine opsR_q rfl (q_extract rfl rfl) ?_
    simp only [nrm, Nat.reduceAdd, Nat.reduceMul, Nat.reduceSub, Int.reduceToNat, Int.reduceAdd]
    refine opsR_o rfl (o_alloc fun b16 hb16 => ?_)
    simp only [nrm, Nat.reduceAdd, Nat.reduceMul, Nat.reduceSub, Int.reduceToNat, Int.reduceAdd]
    refine opsR_o rfl (o_storeB rfl rfl inferInstance (by first | rfl | assumption) (by first | rfl | exact Kd.one _ (by assumption) | assumption) (by first | rfl | (refine Nat.ble_eq_true_of_le ?_; (try simp only [Int.toNat_natCast]); omega)) ?_)
    simp only [nrm, Nat.reduceAdd, Nat.reduceMul, Nat.reduceSub, Int.reduceToNat, Int.reduceAdd]
    refine opsR_q rfl (q_assign) ?_
    simp only [nrm, Nat.reduceAdd, Nat.reduceMul, Nat.reduceSub, Int.reduceToNat, Int.reduceAdd]
    refine opsR_nil ?_
    refine hk11 _ _ ?_
    clear hk11
    refine run_seq fun _ hk17 => ?_
    refine run_region ?_
    refine opsR_q rfl (q_move) ?_
    simp only [nrm, Nat.reduceAdd, Nat.reduceMul, Nat.reduceSub, Int.reduceToNat, Int.reduceAdd]
    refine opsR_q rfl (q_move) ?_
    simp only [nrm, Nat.reduceAdd, Nat.reduceMul, Nat.reduceSub, Int.reduceToNat, Int.reduceAdd]
    refine opsR_o rfl (o_call rfl (Kept_spec (by first | assumption | (refine Sl.mono ?_ (by assumption); first | exact .rfl | assumption | exact le2 (by assumption) (by assumption) | exact le3 (by assumption) (by assumption) (by assumption) | exact le4 (by assumption) (by assumption) (by assumption) (by assumption) | exact le5 (by assumption) (by assumption) (by assumption) (by assumption) (by assumption) | exact le6 (by assumption) (by assumption) (by assumption) (by assumption) (by assumption) (by assumption))) (by first | assumption | (refine Sl.mono ?_ (by assumption); first | exact .rfl | assumption | exact le2 (by assumption) (by assumption) | exact le3 (by assumption) (by assumption) (by assumption) | exact le4 (by assumption) (by assumption) (by assumption) (by assumption) | exact le5 (by assumption) (by assumption) (by assumption) (by assumption) (by assumption) | exact le6 (by assumption) (by assumption) (by assumption) (by assumption) (by assumption) (by assumption))) (by omega) _ fun JKE hJKE => ?_))
    try dsimp only at hJKE
    try (have hrKE : Hp.le s.I JKE := (by first | exact .rfl | assumption | exact le2 (by assumption) (by assumption) | exact le3 (by assumption) (by assumption) (by assumption) | exact le4 (by assumption) (by assumption) (by assumption) (by assumption) | exact le5 (by assumption) (by assumption) (by assumption) (by assumption) (by assumption) | exact le6 (by assumption) (by assumption) (by assumption) (by assumption) (by assumption) (by assumption)); have hJKE := hJKE)
    simp only [nrm, Nat.reduceAdd, Nat.reduceMul, Nat.reduceSub, Int.reduceToNat, Int.reduceAdd]
    refine opsR_q rfl (q_move) ?_
    simp only [nrm, Nat.reduceAdd, Nat.reduceMul, Nat.reduceSub, Int.reduceToNat, Int.reduceAdd]
    refine opsR_q rfl (q_extract rfl rfl) ?_
    simp only [nrm, Nat.reduceAdd, Nat.reduceMul, Nat.reduceSub, Int.reduceToNat, Int.reduceAdd]
    refine opsR_q rfl (q_extract rfl rfl) ?_
    simp only [nrm, Nat.reduceAdd, Nat.reduceMul, Nat.reduceSub, Int.reduceToNat, Int.reduceAdd]
    refine opsR_o rfl (o_alloc fun b21 hb21 => ?_)
    simp only [nrm, Nat.reduceAdd, Nat.reduceMul, Nat.reduceSub, Int.reduceToNat, Int.reduceAdd]
    refine opsR_o rfl (o_storeB rfl rfl inferInstance (by first | rfl | assumption) (by first | rfl | exact Kd.one _ (by assumption) | assumption) (by first | rfl | (refine Nat.ble_eq_true_of_le ?_; (try simp only [Int.toNat_natCast]); omega)) ?_)
    simp only [nrm, Nat.reduceAdd, Nat.reduceMul, Nat.reduceSub, Int.reduceToNat, Int.reduceAdd]
    refine opsR_q rfl (q_assign) ?_
    simp only [nrm, Nat.reduceAdd, Nat.reduceMul, Nat.reduceSub, Int.reduceToNat, Int.reduceAdd]
    refine opsR_nil ?_
    refine hk17 _ _ ?_
    clear hk17
    refine run_seq fun _ hk22 => ?_
    refine run_region ?_
    refine opsR_q rfl (q_assign) ?_
    simp only [nrm, Nat.reduceAdd, Nat.reduceMul, Nat.reduceSub, Int.reduceToNat, Int.reduceAdd]
    refine opsR_nil ?_
    refine hk22 _ _ ?_
    clear hk22
    refine run_seq fun _ hk23 => ?_
    refine run_seq fun _ hk24 => ?_
    refine run_gh Gh.drop2 ?_
    refine run_region ?_
    refine opsR_q rfl (q_assign) ?_
    simp only [nrm, Nat.reduceAdd, Nat.reduceMul, Nat.reduceSub, Int.reduceToNat, Int.reduceAdd]
    refine opsR_nil ?_
    refine hk24 _ _ ?_
    clear hk24
    refine run_block ?_
    refine run_loopF [0, 0, 0, 0, 0, 0, 0, 0, 0, 0, 0, 0, 2, 2, 0, 0, 0, 0, 0, 0, 0, 0, 0, 0, 0, 0, 0, 0, 0, 0, 0, 0, 0, 0, 0, 1, 1, 1, 1, 1, 1, 1, 1, 1, 1, 1, 1, 1, 1, 1, 0, 0, 0, 0, 0, 0, 0, 0, 0, 0, 0, 0, 0, 0, 0, 0, 0, 0, 0, 0, 0, 0, 0, 0, 0, 0, 0, 0, 0, 0, 0, 0, 0, 0, 0, 0, 0, 0, 0, 0, 0, 0] (fun zn zL zst => ∃ (i : Nat) (b : Bool), zL = [.bool b, .int .i64 (i : Nat)] ∧ ⟨JKE, (bBT, .cells #[.string a1.Key, .string a1.Value, .int .i64 a1.Effect] 32 (0, 0)) :: s.cs⟩ = zst ∧ zn = a2.length - i ∧ (i ≤ a2.length) ∧ (b = borneOf (a2.take i) a1)) _ _ ⟨0, _, rfl, rfl, rfl, by first | assumption | omega | exact Hp.le.rfl | rfl | exact all_zero | exact all_succ (by assumption) (by assumption) | (simp; done), by first | assumption | omega | exact Hp.le.rfl | rfl | exact all_zero | exact all_succ (by assumption) (by assumption) | (simp; done)⟩ rfl ?_
    rintro _ _ _ jv25 ⟨i, b, rfl, rfl, rfl, hi, hbo⟩ K25 hkl25
    simp only [fr, Nat.zero_add, Nat.reduceAdd]
    refine run_seq fun _ hk26 => ?_
    refine run_seq fun _ hk27 => ?_
    refine run_region ?_
    refine opsR_q rfl (q_move) ?_
    simp only [nrm, Nat.reduceAdd, Nat.reduceMul, Nat.reduceSub, Int.reduceToNat, Int.reduceAdd]
    refine opsR_q rfl (q_move) ?_
    simp only [nrm, Nat.reduceAdd, Nat.reduceMul, Nat.reduceSub, Int.reduceToNat, Int.reduceAdd]
    refine opsR_q rfl (q_len_v rfl (by first | exact Sl.len (by assumption) | exact OwnS.len (by assumption) | exact SlR.len (by assumption) | assumption)) ?_
    simp only [nrm, Nat.reduceAdd, Nat.reduceMul, Nat.reduceSub, Int.reduceToNat, Int.reduceAdd]
    refine opsR_q rfl (q_lss rfl rfl) ?_
    simp only [nrm, Nat.reduceAdd, Nat.reduceMul, Nat.reduceSub, Int.reduceToNat, Int.reduceAdd]
    refine opsR_nil ?_
    refine hk27 _ _ ?_
    clear hk27
    refine run_cond rfl (fun ho30 => ?_) (fun ho30 => ?_)
    · have hc30 := ho30; try simp only [spl] at hc30
      refine run_skip ?_
      refine hk26 _ _ ?_
      clear hk26
      refine run_seq fun _ hk31 => ?_
      refine run_block ?_
      refine run_drawE mixed 10 (by kernel_rfl) rfl ?_
      simp only [List.take_succ_cons, List.take_zero, List.drop_succ_cons, List.drop_zero, List.drop_nil, List.take_nil]
      refine oblE_q rfl (fun I hI => (q_move)) ?_
      simp only [nrm, Nat.reduceAdd, Nat.reduceMul, Nat.reduceSub, Int.reduceToNat, Int.reduceAdd]
      refine oblE_qb rfl (fun I hI => (q_move)) (fun hc33 => ?_) (fun hc33 => ?_)
      · have ho33 := hc33; try simp only [spl] at hc33
        simp only [nrm, Nat.reduceAdd, Nat.reduceMul, Nat.reduceSub, Int.reduceToNat, Int.reduceAdd]
        refine oblE_skip rfl ?_
        simp only [nrm, Nat.reduceAdd, Nat.reduceMul, Nat.reduceSub, Int.reduceToNat, Int.reduceAdd]
        refine oblE_skip rfl ?_
        simp only [nrm, Nat.reduceAdd, Nat.reduceMul, Nat.reduceSub, Int.reduceToNat, Int.reduceAdd]
        refine oblE_skip rfl ?_
        simp only [nrm, Nat.reduceAdd, Nat.reduceMul, Nat.reduceSub, Int.reduceToNat, Int.reduceAdd]
        refine oblE_skip rfl ?_
        simp only [nrm, Nat.reduceAdd, Nat.reduceMul, Nat.reduceSub, Int.reduceToNat, Int.reduceAdd]
        refine oblE_skip rfl ?_
        simp only [nrm, Nat.reduceAdd, Nat.reduceMul, Nat.reduceSub, Int.reduceToNat, Int.reduceAdd]
        refine oblE_skip rfl ?_
        simp only [nrm, Nat.reduceAdd, Nat.reduceMul, Nat.reduceSub, Int.reduceToNat, Int.reduceAdd]
        refine oblE_q rfl (fun I hI => (q_pick_t rfl)) ?_
        simp only [nrm, Nat.reduceAdd, Nat.reduceMul, Nat.reduceSub, Int.reduceToNat, Int.reduceAdd]
        refine oblE_q rfl (fun I hI => (q_assign)) ?_
        simp only [nrm, Nat.reduceAdd, Nat.reduceMul, Nat.reduceSub, Int.reduceToNat, Int.reduceAdd]
        refine oblE_nil (show OpsR _ _ _ _ _ _ from ?_)
        try simp only [nrm, Nat.reduceAdd, Nat.reduceMul, Nat.reduceSub, Int.reduceToNat, Int.reduceAdd]
        refine opsR_nil ?_
        refine hk31 _ _ ?_
        clear hk31
        refine run_region ?_
        refine opsR_q rfl (q_move) ?_
        simp only [nrm, Nat.reduceAdd, Nat.reduceMul, Nat.reduceSub, Int.reduceToNat, Int.reduceAdd]
        refine opsR_q rfl (by first | exact q_add64 rfl rfl (by omega) (by omega) | exact q_add rfl rfl) ?_
        simp only [nrm, Nat.reduceAdd, Nat.reduceMul, Nat.reduceSub, Int.reduceToNat, Int.reduceAdd]
        refine opsR_q rfl (q_assign) ?_
        simp only [nrm, Nat.reduceAdd, Nat.reduceMul, Nat.reduceSub, Int.reduceToNat, Int.reduceAdd]
        refine opsR_nil ?_
        first
        | exact hkl25 _ _ _ _ (by omega) ⟨i + 1, _, rfl, rfl, rfl, by first | omega | rfl | exact borne_keep (by omega) (by rw [← hbo]; assumption) | exact borne_next (by omega) (by rw [← hbo]; assumption), by first | omega | rfl | exact borne_keep (by omega) (by rw [← hbo]; assumption) | exact borne_next (by omega) (by rw [← hbo]; assumption)⟩ rfl
      · have ho33 := hc33; try simp only [spl] at hc33
        simp only [nrm, Nat.reduceAdd, Nat.reduceMul, Nat.reduceSub, Int.reduceToNat, Int.reduceAdd]
        refine oblE_q rfl (fun I hI => (q_move)) ?_
        simp only [nrm, Nat.reduceAdd, Nat.reduceMul, Nat.reduceSub, Int.reduceToNat, Int.reduceAdd]
        refine oblE_q rfl (fun I hI => (q_move)) ?_
        simp only [nrm, Nat.reduceAdd, Nat.reduceMul, Nat.reduceSub, Int.reduceToNat, Int.reduceAdd]
        refine oblE_index rfl rfl rfl (by first | exact Sl.r (by assumption) (by first | exact .rfl | assumption | exact le2 (by assumption) (by assumption) | exact le3 (by assumption) (by assumption) (by assumption) | exact le4 (by assumption) (by assumption) (by assumption) (by assumption) | exact le5 (by assumption) (by assumption) (by assumption) (by assumption) (by assumption) | exact le6 (by assumption) (by assumption) (by assumption) (by assumption) (by assumption) (by assumption)) | (refine OwnS.r (OwnS.mono ?_ (by assumption)) (by intro p hp; simp only [List.mem_append, List.mem_cons, hp, true_or, or_true]); first | exact .rfl | assumption | exact le2 (by assumption) (by assumption) | exact le3 (by assumption) (by assumption) (by assumption) | exact le4 (by assumption) (by assumption) (by assumption) (by assumption) | exact le5 (by assumption) (by assumption) (by assumption) (by assumption) (by assumption) | exact le6 (by assumption) (by assumption) (by assumption) (by assumption) (by assumption) (by assumption)) | assumption) (by rfl) (by first | omega | ((try simp only [List.length_append, List.length_cons, List.length_nil, List.length_set, List.length_replicate, List.length_take, List.length_drop, List.length_map] at *); omega)) (by first | omega | ((try simp only [List.length_append, List.length_cons, List.length_nil, List.length_set, List.length_replicate, List.length_take, List.length_drop, List.length_map] at *); omega)) fun b34 o34 cs34 ha34 hr34 he34 => ?_
        simp only [nrm, Nat.reduceAdd, Nat.reduceMul, Nat.reduceSub, Int.reduceToNat, Int.reduceAdd]
        try simp only [Int.toNat_natCast, Int.reduceToNat, Int.toNat_zero] at hr34
        try simp only [Int.toNat_natCast, Int.reduceToNat, Int.toNat_zero] at he34
        clear ha34
        obtain rfl := kBear.open hr34
        refine oblE_q rfl (fun I hI => (by first | exact q_load_atW rfl (El.mono (by assumption) hI) (by rfl) rfl | exact q_load_atN0 rfl (El.mono (by assumption) hI) rfl rfl | exact q_load_atN rfl (El.mono (by assumption) hI) rfl (Nat.le_of_ble_eq_true rfl) (Nat.le_of_ble_eq_true rfl))) ?_
        simp only [nrm, Nat.reduceAdd, Nat.reduceMul, Nat.reduceSub, Int.reduceToNat, Int.reduceAdd]
        refine oblE_q rfl (fun I hI => (by first | exact q_loadBN rfl inferInstance (by rfl) | exact q_loadBW rfl inferInstance (by assumption))) ?_
        simp only [nrm, Nat.reduceAdd, Nat.reduceMul, Nat.reduceSub, Int.reduceToNat, Int.reduceAdd]
        refine oblE_q rfl (fun I hI => (q_call rfl (Bears_spec _ _ _))) ?_
        simp only [nrm, Nat.reduceAdd, Nat.reduceMul, Nat.reduceSub, Int.reduceToNat, Int.reduceAdd]
        refine oblE_q rfl (fun I hI => (q_pick_f rfl)) ?_
        simp only [nrm, Nat.reduceAdd, Nat.reduceMul, Nat.reduceSub, Int.reduceToNat, Int.reduceAdd]
        refine oblE_q rfl (fun I hI => (q_assign)) ?_
        simp only [nrm, Nat.reduceAdd, Nat.reduceMul, Nat.reduceSub, Int.reduceToNat, Int.reduceAdd]
        refine oblE_nil (show OpsR _ _ _ _ _ _ from ?_)
        try simp only [nrm, Nat.reduceAdd, Nat.reduceMul, Nat.reduceSub, Int.reduceToNat, Int.reduceAdd]
        refine opsR_nil ?_
        refine hk31 _ _ ?_
        clear hk31
        refine run_region ?_
        refine opsR_q rfl (q_move) ?_
        simp only [nrm, Nat.reduceAdd, Nat.reduceMul, Nat.reduceSub, Int.reduceToNat, Int.reduceAdd]
        refine opsR_q rfl (by first | exact q_add64 rfl rfl (by omega) (by omega) | exact q_add rfl rfl) ?_
        simp only [nrm, Nat.reduceAdd, Nat.reduceMul, Nat.reduceSub, Int.reduceToNat, Int.reduceAdd]
        refine opsR_q rfl (q_assign) ?_
        simp only [nrm, Nat.reduceAdd, Nat.reduceMul, Nat.reduceSub, Int.reduceToNat, Int.reduceAdd]
        refine opsR_nil ?_
        first
        | exact hkl25 _ _ _ _ (by omega) ⟨i + 1, _, rfl, rfl, rfl, by first | omega | rfl | exact borne_keep (by omega) (by rw [← hbo]; assumption) | exact borne_next (by omega) (by rw [← hbo]; assumption), by first | omega | rfl | exact borne_keep (by omega) (by rw [← hbo]; assumption) | exact borne_next (by omega) (by rw [← hbo]; assumption)⟩ rfl
    · have hc30 := ho30; try simp only [spl] at hc30
      refine run_exit ?_
      refine hk23 _ _ ?_
      clear hk23
      refine run_seq fun _ hk36 => ?_
      have hbo2 : b = borneOf a2 a1 := by rw [hbo, take_all (by omega)]
      clear hbo
      have hY := kept_snoc (l := a0) (t := a1) (b := a2)
      have hS := shy_snoc (l := a0) (t := a1) (b := a2)
      refine run_region ?_
      refine opsR_q rfl (q_move) ?_
      simp only [nrm, Nat.reduceAdd, Nat.reduceMul, Nat.reduceSub, Int.reduceToNat, Int.reduceAdd]
      refine opsR_q rfl (q_move) ?_
      simp only [nrm, Nat.reduceAdd, Nat.reduceMul, Nat.reduceSub, Int.reduceToNat, Int.reduceAdd]
      refine opsR_o rfl (o_call rfl (Shy_spec (by first | assumption | (refine Sl.mono ?_ (by assumption); first | exact .rfl | assumption | exact le2 (by assumption) (by assumption) | exact le3 (by assumption) (by assumption) (by assumption) | exact le4 (by assumption) (by assumption) (by assumption) (by assumption) | exact le5 (by assumption) (by assumption) (by assumption) (by assumption) (by assumption) | exact le6 (by assumption) (by assumption) (by assumption) (by assumption) (by assumption) (by assumption))) (by first | assumption | (refine Sl.mono ?_ (by assumption); first | exact .rfl | assumption | exact le2 (by assumption) (by assumption) | exact le3 (by assumption) (by assumption) (by assumption) | exact le4 (by assumption) (by assumption) (by assumption) (by assumption) | exact le5 (by assumption) (by assumption) (by assumption) (by assumption) (by assumption) | exact le6 (by assumption) (by assumption) (by assumption) (by assumption) (by assumption) (by assumption))) (by omega) _ fun J38 hJ38 => ?_))
      try dsimp only at hJ38
      try (have hr38 : Hp.le s.I J38 := (by first | exact .rfl | assumption | exact le2 (by assumption) (by assumption) | exact le3 (by assumption) (by assumption) (by assumption) | exact le4 (by assumption) (by assumption) (by assumption) (by assumption) | exact le5 (by assumption) (by assumption) (by assumption) (by assumption) (by assumption) | exact le6 (by assumption) (by assumption) (by assumption) (by assumption) (by assumption) (by assumption)); have hJ38 := hJ38)
      simp only [nrm, Nat.reduceAdd, Nat.reduceMul, Nat.reduceSub, Int.reduceToNat, Int.reduceAdd]
      refine opsR_q rfl (q_move) ?_
      simp only [nrm, Nat.reduceAdd, Nat.reduceMul, Nat.reduceSub, Int.reduceToNat, Int.reduceAdd]
      refine opsR_q rfl (q_move) ?_
      simp only [nrm, Nat.reduceAdd, Nat.reduceMul, Nat.reduceSub, Int.reduceToNat, Int.reduceAdd]
      refine opsR_o rfl (o_call rfl (Shy_spec (by first | assumption | (refine Sl.mono ?_ (by assumption); first | exact .rfl | assumption | exact le2 (by assumption) (by assumption) | exact le3 (by assumption) (by assumption) (by assumption) | exact le4 (by assumption) (by assumption) (by assumption) (by assumption) | exact le5 (by assumption) (by assumption) (by assumption) (by assumption) (by assumption) | exact le6 (by assumption) (by assumption) (by assumption) (by assumption) (by assumption) (by assumption))) (by first | assumption | (refine Sl.mono ?_ (by assumption); first | exact .rfl | assumption | exact le2 (by assumption) (by assumption) | exact le3 (by assumption) (by assumption) (by assumption) | exact le4 (by assumption) (by assumption) (by assumption) (by assumption) | exact le5 (by assumption) (by assumption) (by assumption) (by assumption) (by assumption) | exact le6 (by assumption) (by assumption) (by assumption) (by assumption) (by assumption) (by assumption))) (by omega) _ fun J40 hJ40 => ?_))
      try dsimp only at hJ40
      try (have hr40 : Hp.le s.I J40 := (by first | exact .rfl | assumption | exact le2 (by assumption) (by assumption) | exact le3 (by assumption) (by assumption) (by assumption) | exact le4 (by assumption) (by assumption) (by assumption) (by assumption) | exact le5 (by assumption) (by assumption) (by assumption) (by assumption) (by assumption) | exact le6 (by assumption) (by assumption) (by assumption) (by assumption) (by assumption) (by assumption)); have hJ40 := hJ40)
      simp only [nrm, Nat.reduceAdd, Nat.reduceMul, Nat.reduceSub, Int.reduceToNat, Int.reduceAdd]
      refine opsR_q rfl (q_assign) ?_
      simp only [nrm, Nat.reduceAdd, Nat.reduceMul, Nat.reduceSub, Int.reduceToNat, Int.reduceAdd]
      refine opsR_q rfl (q_assign) ?_
      simp only [nrm, Nat.reduceAdd, Nat.reduceMul, Nat.reduceSub, Int.reduceToNat, Int.reduceAdd]
      refine opsR_nil ?_
      refine hk36 _ _ ?_
      clear hk36
      refine run_seq fun _ hk43 => ?_
      refine run_seq fun _ hk44 => ?_
      refine run_region ?_
      refine opsR_q rfl (q_move) ?_
      simp only [nrm, Nat.reduceAdd, Nat.reduceMul, Nat.reduceSub, Int.reduceToNat, Int.reduceAdd]
      refine opsR_nil ?_
      refine hk44 _ _ ?_
      clear hk44
      refine run_cond rfl (fun ho46 => ?_) (fun ho46 => ?_)
      · have hc46 := ho46; try simp only [spl] at hc46
        refine run_seq fun _ hk47 => ?_
        rw [openP_borne (by rw [← hbo2]; assumption), Bool.or_false] at hY
        rw [if_neg (by rw [openP_borne (by rw [← hbo2]; assumption)]; decide), Int.add_zero] at hS
        rw [hY, hS]
        refine run_region ?_
        refine opsR_q rfl (q_move) ?_
        simp only [nrm, Nat.reduceAdd, Nat.reduceMul, Nat.reduceSub, Int.reduceToNat, Int.reduceAdd]
        refine opsR_q rfl (q_move) ?_
        simp only [nrm, Nat.reduceAdd, Nat.reduceMul, Nat.reduceSub, Int.reduceToNat, Int.reduceAdd]
        refine opsR_q rfl (q_eql_bool rfl rfl) ?_
        simp only [nrm, Nat.reduceAdd, Nat.reduceMul, Nat.reduceSub, Int.reduceToNat, Int.reduceAdd]
        refine opsR_qb rfl (q_move) (fun _ => ?_) (fun h => absurd h (by simp))
        simp only [nrm, Nat.reduceAdd, Nat.reduceMul, Nat.reduceSub, Int.reduceToNat, Int.reduceAdd]
        refine opsR_q rfl (q_move) ?_
        simp only [nrm, Nat.reduceAdd, Nat.reduceMul, Nat.reduceSub, Int.reduceToNat, Int.reduceAdd]
        refine opsR_q rfl (q_move) ?_
        simp only [nrm, Nat.reduceAdd, Nat.reduceMul, Nat.reduceSub, Int.reduceToNat, Int.reduceAdd]
        refine opsR_q rfl (q_eql rfl rfl) ?_
        simp only [nrm, Nat.reduceAdd, Nat.reduceMul, Nat.reduceSub, Int.reduceToNat, Int.reduceAdd]
        refine opsR_q rfl (q_pick_t rfl) ?_
        simp only [nrm, Nat.reduceAdd, Nat.reduceMul, Nat.reduceSub, Int.reduceToNat, Int.reduceAdd]
        refine opsR_q rfl (q_assign) ?_
        simp only [nrm, Nat.reduceAdd, Nat.reduceMul, Nat.reduceSub, Int.reduceToNat, Int.reduceAdd]
        refine opsR_nil ?_
        refine hk47 _ _ ?_
        clear hk47
        refine run_ret ?_
        exact end_tmp rfl rfl rfl (by first | exact .refl | exact .drop | exact .drop2 | exact .drop3 | exact .drop4 | exact Gh.drop.trans .drop4 | exact Gh.drop2.trans .drop4 | exact Gh.drop3.trans .drop4) ⟨congrArg Go.Value.bool (by simp), by first | exact .rfl | assumption | exact le2 (by assumption) (by assumption) | exact le3 (by assumption) (by assumption) (by assumption) | exact le4 (by assumption) (by assumption) (by assumption) (by assumption) | exact le5 (by assumption) (by assumption) (by assumption) (by assumption) (by assumption) | exact le6 (by assumption) (by assumption) (by assumption) (by assumption) (by assumption) (by assumption)⟩
      · have hc46 := ho46; try simp only [spl] at hc46
        refine run_skip ?_
        refine hk43 _ _ ?_
        clear hk43
        refine run_seq fun _ hk50 => ?_
        rw [openP_free (by rw [← hbo2]; assumption)] at hY
        rw [openP_free (by rw [← hbo2]; assumption)] at hS
        simp only [decide_eq_true_eq] at hS
        rw [hY, hS]
        refine run_region ?_
        refine opsR_q rfl (q_move) ?_
        simp only [nrm, Nat.reduceAdd, Nat.reduceMul, Nat.reduceSub, Int.reduceToNat, Int.reduceAdd]
        refine opsR_q rfl (q_move) ?_
        simp only [nrm, Nat.reduceAdd, Nat.reduceMul, Nat.reduceSub, Int.reduceToNat, Int.reduceAdd]
        refine opsR_qb rfl (q_move) (fun hc53 => ?_) (fun hc53 => ?_)
        · have ho53 := hc53; try simp only [spl] at hc53
          simp only [nrm, Nat.reduceAdd, Nat.reduceMul, Nat.reduceSub, Int.reduceToNat, Int.reduceAdd]
          refine opsR_skip rfl ?_
          simp only [nrm, Nat.reduceAdd, Nat.reduceMul, Nat.reduceSub, Int.reduceToNat, Int.reduceAdd]
          refine opsR_skip rfl ?_
          simp only [nrm, Nat.reduceAdd, Nat.reduceMul, Nat.reduceSub, Int.reduceToNat, Int.reduceAdd]
          refine opsR_skip rfl ?_
          simp only [nrm, Nat.reduceAdd, Nat.reduceMul, Nat.reduceSub, Int.reduceToNat, Int.reduceAdd]
          refine opsR_q rfl (q_pick_t rfl) ?_
          simp only [nrm, Nat.reduceAdd, Nat.reduceMul, Nat.reduceSub, Int.reduceToNat, Int.reduceAdd]
          refine opsR_q rfl (q_eql_bool rfl rfl) ?_
          simp only [nrm, Nat.reduceAdd, Nat.reduceMul, Nat.reduceSub, Int.reduceToNat, Int.reduceAdd]
          refine opsR_qb rfl (q_move) (fun _ => ?_) (fun h => absurd h (by simp [*]))
          simp only [nrm, Nat.reduceAdd, Nat.reduceMul, Nat.reduceSub, Int.reduceToNat, Int.reduceAdd]
          refine opsR_q rfl (q_move) ?_
          simp only [nrm, Nat.reduceAdd, Nat.reduceMul, Nat.reduceSub, Int.reduceToNat, Int.reduceAdd]
          refine opsR_q rfl (q_move) ?_
          simp only [nrm, Nat.reduceAdd, Nat.reduceMul, Nat.reduceSub, Int.reduceToNat, Int.reduceAdd]
          refine opsR_q rfl (by first | exact q_add64 rfl rfl (by omega) (by omega) | exact q_add rfl rfl) ?_
          simp only [nrm, Nat.reduceAdd, Nat.reduceMul, Nat.reduceSub, Int.reduceToNat, Int.reduceAdd]
          refine opsR_q rfl (q_eql rfl rfl) ?_
          simp only [nrm, Nat.reduceAdd, Nat.reduceMul, Nat.reduceSub, Int.reduceToNat, Int.reduceAdd]
          refine opsR_q rfl (q_fieldAddr rfl) ?_
          simp only [nrm, Nat.reduceAdd, Nat.reduceMul, Nat.reduceSub, Int.reduceToNat, Int.reduceAdd]
          refine opsR_q rfl (q_loadB1 rfl inferInstance rfl) ?_
          simp only [nrm, Nat.reduceAdd, Nat.reduceMul, Nat.reduceSub, Int.reduceToNat, Int.reduceAdd]
          refine opsR_q rfl (q_eql rfl rfl) ?_
          simp only [nrm, Nat.reduceAdd, Nat.reduceMul, Nat.reduceSub, Int.reduceToNat, Int.reduceAdd]
          refine opsR_q rfl (q_eql_bool rfl rfl) ?_
          simp only [nrm, Nat.reduceAdd, Nat.reduceMul, Nat.reduceSub, Int.reduceToNat, Int.reduceAdd]
          refine opsR_q rfl (q_pick_t rfl) ?_
          simp only [nrm, Nat.reduceAdd, Nat.reduceMul, Nat.reduceSub, Int.reduceToNat, Int.reduceAdd]
          refine opsR_qb rfl (q_move) (fun _ => ?_) (fun h => absurd h (by by_cases h2 : a1.Effect = 2 <;> simp [h2] <;> omega))
          simp only [nrm, Nat.reduceAdd, Nat.reduceMul, Nat.reduceSub, Int.reduceToNat, Int.reduceAdd]
          refine opsR_q rfl (q_move) ?_
          simp only [nrm, Nat.reduceAdd, Nat.reduceMul, Nat.reduceSub, Int.reduceToNat, Int.reduceAdd]
          refine opsR_q rfl (q_move) ?_
          simp only [nrm, Nat.reduceAdd, Nat.reduceMul, Nat.reduceSub, Int.reduceToNat, Int.reduceAdd]
          refine opsR_q rfl (q_eql rfl rfl) ?_
          simp only [nrm, Nat.reduceAdd, Nat.reduceMul, Nat.reduceSub, Int.reduceToNat, Int.reduceAdd]
          refine opsR_q rfl (q_fieldAddr rfl) ?_
          simp only [nrm, Nat.reduceAdd, Nat.reduceMul, Nat.reduceSub, Int.reduceToNat, Int.reduceAdd]
          refine opsR_q rfl (q_loadB1 rfl inferInstance rfl) ?_
          simp only [nrm, Nat.reduceAdd, Nat.reduceMul, Nat.reduceSub, Int.reduceToNat, Int.reduceAdd]
          refine opsR_q rfl (q_neq rfl rfl) ?_
          simp only [nrm, Nat.reduceAdd, Nat.reduceMul, Nat.reduceSub, Int.reduceToNat, Int.reduceAdd]
          refine opsR_q rfl (q_eql_bool rfl rfl) ?_
          simp only [nrm, Nat.reduceAdd, Nat.reduceMul, Nat.reduceSub, Int.reduceToNat, Int.reduceAdd]
          refine opsR_q rfl (q_pick_t rfl) ?_
          simp only [nrm, Nat.reduceAdd, Nat.reduceMul, Nat.reduceSub, Int.reduceToNat, Int.reduceAdd]
          refine opsR_q rfl (q_assign) ?_
          simp only [nrm, Nat.reduceAdd, Nat.reduceMul, Nat.reduceSub, Int.reduceToNat, Int.reduceAdd]
          refine opsR_nil ?_
          refine hk50 _ _ ?_
          clear hk50
          refine run_ret ?_
          exact end_tmp rfl rfl rfl (by first | exact .refl | exact .drop | exact .drop2 | exact .drop3 | exact .drop4 | exact Gh.drop.trans .drop4 | exact Gh.drop2.trans .drop4 | exact Gh.drop3.trans .drop4) ⟨congrArg Go.Value.bool (by by_cases h2 : a1.Effect = 2 <;> simp [h2] <;> omega), by first | exact .rfl | assumption | exact le2 (by assumption) (by assumption) | exact le3 (by assumption) (by assumption) (by assumption) | exact le4 (by assumption) (by assumption) (by assumption) (by assumption) | exact le5 (by assumption) (by assumption) (by assumption) (by assumption) (by assumption) | exact le6 (by assumption) (by assumption) (by assumption) (by assumption) (by assumption) (by assumption)⟩
        · have ho53 := hc53; try simp only [spl] at hc53
          simp only [nrm, Nat.reduceAdd, Nat.reduceMul, Nat.reduceSub, Int.reduceToNat, Int.reduceAdd]
          refine opsR_q rfl (q_fieldAddr rfl) ?_
          simp only [nrm, Nat.reduceAdd, Nat.reduceMul, Nat.reduceSub, Int.reduceToNat, Int.reduceAdd]
          refine opsR_q rfl (q_loadB1 rfl inferInstance rfl) ?_
          simp only [nrm, Nat.reduceAdd, Nat.reduceMul, Nat.reduceSub, Int.reduceToNat, Int.reduceAdd]
          refine opsR_q rfl (q_eql rfl rfl) ?_
          simp only [nrm, Nat.reduceAdd, Nat.reduceMul, Nat.reduceSub, Int.reduceToNat, Int.reduceAdd]
          refine opsR_q rfl (q_pick_f rfl) ?_
          simp only [nrm, Nat.reduceAdd, Nat.reduceMul, Nat.reduceSub, Int.reduceToNat, Int.reduceAdd]
          refine opsR_q rfl (q_eql_bool rfl rfl) ?_
          simp only [nrm, Nat.reduceAdd, Nat.reduceMul, Nat.reduceSub, Int.reduceToNat, Int.reduceAdd]
          refine opsR_qb rfl (q_move) (fun _ => ?_) (fun h => absurd h (by simp [*]))
          simp only [nrm, Nat.reduceAdd, Nat.reduceMul, Nat.reduceSub, Int.reduceToNat, Int.reduceAdd]
          refine opsR_q rfl (q_move) ?_
          simp only [nrm, Nat.reduceAdd, Nat.reduceMul, Nat.reduceSub, Int.reduceToNat, Int.reduceAdd]
          refine opsR_q rfl (q_move) ?_
          simp only [nrm, Nat.reduceAdd, Nat.reduceMul, Nat.reduceSub, Int.reduceToNat, Int.reduceAdd]
          refine opsR_q rfl (by first | exact q_add64 rfl rfl (by omega) (by omega) | exact q_add rfl rfl) ?_
          simp only [nrm, Nat.reduceAdd, Nat.reduceMul, Nat.reduceSub, Int.reduceToNat, Int.reduceAdd]
          refine opsR_q rfl (q_eql rfl rfl) ?_
          simp only [nrm, Nat.reduceAdd, Nat.reduceMul, Nat.reduceSub, Int.reduceToNat, Int.reduceAdd]
          refine opsR_q rfl (q_fieldAddr rfl) ?_
          simp only [nrm, Nat.reduceAdd, Nat.reduceMul, Nat.reduceSub, Int.reduceToNat, Int.reduceAdd]
          refine opsR_q rfl (q_loadB1 rfl inferInstance rfl) ?_
          simp only [nrm, Nat.reduceAdd, Nat.reduceMul, Nat.reduceSub, Int.reduceToNat, Int.reduceAdd]
          refine opsR_q rfl (q_eql rfl rfl) ?_
          simp only [nrm, Nat.reduceAdd, Nat.reduceMul, Nat.reduceSub, Int.reduceToNat, Int.reduceAdd]
          refine opsR_q rfl (q_eql_bool rfl rfl) ?_
          simp only [nrm, Nat.reduceAdd, Nat.reduceMul, Nat.reduceSub, Int.reduceToNat, Int.reduceAdd]
          refine opsR_q rfl (q_pick_t rfl) ?_
          simp only [nrm, Nat.reduceAdd, Nat.reduceMul, Nat.reduceSub, Int.reduceToNat, Int.reduceAdd]
          refine opsR_qb rfl (q_move) (fun _ => ?_) (fun h => absurd h (by by_cases h2 : a1.Effect = 2 <;> simp [h2] <;> omega))
          simp only [nrm, Nat.reduceAdd, Nat.reduceMul, Nat.reduceSub, Int.reduceToNat, Int.reduceAdd]
          refine opsR_q rfl (q_move) ?_
          simp only [nrm, Nat.reduceAdd, Nat.reduceMul, Nat.reduceSub, Int.reduceToNat, Int.reduceAdd]
          refine opsR_q rfl (q_move) ?_
          simp only [nrm, Nat.reduceAdd, Nat.reduceMul, Nat.reduceSub, Int.reduceToNat, Int.reduceAdd]
          refine opsR_q rfl (q_eql rfl rfl) ?_
          simp only [nrm, Nat.reduceAdd, Nat.reduceMul, Nat.reduceSub, Int.reduceToNat, Int.reduceAdd]
          refine opsR_q rfl (q_fieldAddr rfl) ?_
          simp only [nrm, Nat.reduceAdd, Nat.reduceMul, Nat.reduceSub, Int.reduceToNat, Int.reduceAdd]
          refine opsR_q rfl (q_loadB1 rfl inferInstance rfl) ?_
          simp only [nrm, Nat.reduceAdd, Nat.reduceMul, Nat.reduceSub, Int.reduceToNat, Int.reduceAdd]
          refine opsR_q rfl (q_neq rfl rfl) ?_
          simp only [nrm, Nat.reduceAdd, Nat.reduceMul, Nat.reduceSub, Int.reduceToNat, Int.reduceAdd]
          refine opsR_q rfl (q_eql_bool rfl rfl) ?_
          simp only [nrm, Nat.reduceAdd, Nat.reduceMul, Nat.reduceSub, Int.reduceToNat, Int.reduceAdd]
          refine opsR_q rfl (q_pick_t rfl) ?_
          simp only [nrm, Nat.reduceAdd, Nat.reduceMul, Nat.reduceSub, Int.reduceToNat, Int.reduceAdd]
          refine opsR_q rfl (q_assign) ?_
          simp only [nrm, Nat.reduceAdd, Nat.reduceMul, Nat.reduceSub, Int.reduceToNat, Int.reduceAdd]
          refine opsR_nil ?_
          refine hk50 _ _ ?_
          clear hk50
          refine run_ret ?_
          exact end_tmp rfl rfl rfl (by first | exact .refl | exact .drop | exact .drop2 | exact .drop3 | exact .drop4 | exact Gh.drop.trans .drop4 | exact Gh.drop2.trans .drop4 | exact Gh.drop3.trans .drop4) ⟨congrArg Go.Value.bool (by by_cases h2 : a1.Effect = 2 <;> simp [h2] <;> omega), by first | exact .rfl | assumption | exact le2 (by assumption) (by assumption) | exact le3 (by assumption) (by assumption) (by assumption) | exact le4 (by assumption) (by assumption) (by assumption) (by assumption) | exact le5 (by assumption) (by assumption) (by assumption) (by assumption) (by assumption) | exact le6 (by assumption) (by assumption) (by assumption) (by assumption) (by assumption) (by assumption)⟩
  · skip
    refine restK_op rfl ?_
    simp only [List.getElem_toArray, List.getElem_cons_zero, List.getElem_cons_succ]
    refine opsR_slice1 kTaint (w := a1) rfl rfl (by rfl) (by decide) (by decide) (by rfl) (by first | rfl | assumption | exact kTaint.shut | (refine Kd.mono _ ?_ (by assumption); first | exact .rfl | assumption | exact le2 (by assumption) (by assumption) | exact le3 (by assumption) (by assumption) (by assumption) | exact le4 (by assumption) (by assumption) (by assumption) (by assumption) | exact le5 (by assumption) (by assumption) (by assumption) (by assumption) (by assumption) | exact le6 (by assumption) (by assumption) (by assumption) (by assumption) (by assumption) (by assumption)) | (apply kTaint.shut <;> assumption)) fun v56 hs56 hv56 => ?_
    simp only [nrm, Nat.reduceAdd, Nat.reduceMul, Nat.reduceSub, Int.reduceToNat, Int.reduceAdd]
    refine opsR_nil ⟨rfl, rfl, ⟨by first | exact .rfl | assumption | exact le2 (by assumption) (by assumption) | exact le3 (by assumption) (by assumption) (by assumption) | exact le4 (by assumption) (by assumption) (by assumption) (by assumption) | exact le5 (by assumption) (by assumption) (by assumption) (by assumption) (by assumption) | exact le6 (by assumption) (by assumption) (by assumption) (by assumption) (by assumption) (by assumption), by intro p hp; simp only [List.mem_cons, List.mem_append, hp, or_true, true_or]⟩, ?_⟩
    refine restK_pick [1] (by kernel_rfl) ⟨?_, trivial⟩
    refine restK_op rfl ?_
    simp only [List.getElem_toArray, List.getElem_cons_zero, List.getElem_cons_succ]
    refine opsR_o rfl (o_call rfl (taints_spec (by first | assumption | (refine Sl.mono ?_ (by assumption); first | exact .rfl | assumption | exact le2 (by assumption) (by assumption) | exact le3 (by assumption) (by assumption) (by assumption) | exact le4 (by assumption) (by assumption) (by assumption) (by assumption) | exact le5 (by assumption) (by assumption) (by assumption) (by assumption) (by assumption) | exact le6 (by assumption) (by assumption) (by assumption) (by assumption) (by assumption) (by assumption))) (by omega) _ fun v57 J57 hs57 hJ57 hv57 => ?_))
    try dsimp only at hJ57 hv57
    try (have hr57 : Hp.le s.I J57 := (by first | exact .rfl | assumption | exact le2 (by assumption) (by assumption) | exact le3 (by assumption) (by assumption) (by assumption) | exact le4 (by assumption) (by assumption) (by assumption) (by assumption) | exact le5 (by assumption) (by assumption) (by assumption) (by assumption) (by assumption) | exact le6 (by assumption) (by assumption) (by assumption) (by assumption) (by assumption) (by assumption)); have hJ57 := hJ57)
    simp only [nrm, Nat.reduceAdd, Nat.reduceMul, Nat.reduceSub, Int.reduceToNat, Int.reduceAdd]
    refine opsR_nil ⟨rfl, rfl, ⟨by first | exact .rfl | assumption | exact le2 (by assumption) (by assumption) | exact le3 (by assumption) (by assumption) (by assumption) | exact le4 (by assumption) (by assumption) (by assumption) (by assumption) | exact le5 (by assumption) (by assumption) (by assumption) (by assumption) (by assumption) | exact le6 (by assumption) (by assumption) (by assumption) (by assumption) (by assumption) (by assumption), by intro p hp; simp only [List.mem_cons, List.mem_append, hp, or_true, true_or]⟩, ?_⟩
    refine restK_pick [4] (by kernel_rfl) ⟨?_, trivial⟩
    refine restK_op rfl ?_
    simp only [List.getElem_toArray, List.getElem_cons_zero, List.getElem_cons_succ]
    refine opsR_app rfl rfl rfl (by first | assumption | (refine OwnS.mono ?_ (by assumption); first | exact .rfl | assumption | exact le2 (by assumption) (by assumption) | exact le3 (by assumption) (by assumption) (by assumption) | exact le4 (by assumption) (by assumption) (by assumption) (by assumption) | exact le5 (by assumption) (by assumption) (by assumption) (by assumption) (by assumption) | exact le6 (by assumption) (by assumption) (by assumption) (by assumption) (by assumption) (by assumption))) (by infer_instance) (by first | exact Sl.r (by assumption) (by first | exact .rfl | assumption | exact le2 (by assumption) (by assumption) | exact le3 (by assumption) (by assumption) (by assumption) | exact le4 (by assumption) (by assumption) (by assumption) (by assumption) | exact le5 (by assumption) (by assumption) (by assumption) (by assumption) (by assumption) | exact le6 (by assumption) (by assumption) (by assumption) (by assumption) (by assumption) (by assumption)) | (refine OwnS.r (OwnS.mono ?_ (by assumption)) (by intro p hp; simp only [List.mem_append, List.mem_cons, hp, true_or, or_true]); first | exact .rfl | assumption | exact le2 (by assumption) (by assumption) | exact le3 (by assumption) (by assumption) (by assumption) | exact le4 (by assumption) (by assumption) (by assumption) (by assumption) | exact le5 (by assumption) (by assumption) (by assumption) (by assumption) (by assumption) | exact le6 (by assumption) (by assumption) (by assumption) (by assumption) (by assumption) (by assumption)) | assumption) (by rfl) (by rfl) rfl rfl (by first | omega | ((try simp only [List.length_append, List.length_cons, List.length_nil, List.length_set, List.length_replicate, List.length_take, List.length_drop, List.length_map] at *); omega)) fun vR hsR hvR => ?_
    simp only [nrm, Nat.reduceAdd, Nat.reduceMul, Nat.reduceSub, Int.reduceToNat, Int.reduceAdd]
    refine opsR_dropS (hs := hs56) ?_
    try simp only [nrm, Nat.reduceAdd, Nat.reduceMul, Nat.reduceSub, Int.reduceToNat, Int.reduceAdd]
    refine opsR_nil ⟨rfl, rfl, ⟨by first | exact .rfl | assumption | exact le2 (by assumption) (by assumption) | exact le3 (by assumption) (by assumption) (by assumption) | exact le4 (by assumption) (by assumption) (by assumption) (by assumption) | exact le5 (by assumption) (by assumption) (by assumption) (by assumption) (by assumption) | exact le6 (by assumption) (by assumption) (by assumption) (by assumption) (by assumption) (by assumption), by intro p hp; simp only [List.mem_cons, List.mem_append, hp, or_true, true_or]⟩, ?_⟩
    refine restK_pick [5] (by kernel_rfl) ⟨?_, trivial⟩
    refine restK_op rfl ?_
    simp only [List.getElem_toArray, List.getElem_cons_zero, List.getElem_cons_succ]
    refine opsR_q rfl (q_assign) ?_
    simp only [nrm, Nat.reduceAdd, Nat.reduceMul, Nat.reduceSub, Int.reduceToNat, Int.reduceAdd]
    refine opsR_nil ⟨rfl, rfl, ⟨by first | exact .rfl | assumption | exact le2 (by assumption) (by assumption) | exact le3 (by assumption) (by assumption) (by assumption) | exact le4 (by assumption) (by assumption) (by assumption) (by assumption) | exact le5 (by assumption) (by assumption) (by assumption) (by assumption) (by assumption) | exact le6 (by assumption) (by assumption) (by assumption) (by assumption) (by assumption) (by assumption), by intro p hp; simp only [List.mem_cons, List.mem_append, hp, or_true, true_or]⟩, ?_⟩
    refine restK_end rfl ?_
    try simp only [nrm, Nat.reduceAdd, Nat.reduceMul, Nat.reduceSub, Int.reduceToNat, Int.reduceAdd]
    refine hk7 _ _ ?_
    clear hk7
    refine run_seq fun _ hk59 => ?_
    refine run_fz hvR (by infer_instance) fun JF hJF hvF => ?_
    try dsimp only at hJF
    have hrF := hJF
    simp only [nrm, Nat.reduceAdd, Nat.reduceMul, Nat.reduceSub, Int.reduceToNat, Int.reduceAdd]
    refine run_region ?_
    refine opsR_q rfl (q_move) ?_
    simp only [nrm, Nat.reduceAdd, Nat.reduceMul, Nat.reduceSub, Int.reduceToNat, Int.reduceAdd]
    refine opsR_q rfl (q_move) ?_
    simp only [nrm, Nat.reduceAdd, Nat.reduceMul, Nat.reduceSub, Int.reduceToNat, Int.reduceAdd]
    refine opsR_o rfl (o_call rfl (Kept_spec (by first | assumption | (refine Sl.mono ?_ (by assumption); first | exact .rfl | assumption | exact le2 (by assumption) (by assumption) | exact le3 (by assumption) (by assumption) (by assumption) | exact le4 (by assumption) (by assumption) (by assumption) (by assumption) | exact le5 (by assumption) (by assumption) (by assumption) (by assumption) (by assumption) | exact le6 (by assumption) (by assumption) (by assumption) (by assumption) (by assumption) (by assumption))) (by first | assumption | (refine Sl.mono ?_ (by assumption); first | exact .rfl | assumption | exact le2 (by assumption) (by assumption) | exact le3 (by assumption) (by assumption) (by assumption) | exact le4 (by assumption) (by assumption) (by assumption) (by assumption) | exact le5 (by assumption) (by assumption) (by assumption) (by assumption) (by assumption) | exact le6 (by assumption) (by assumption) (by assumption) (by assumption) (by assumption) (by assumption))) (by omega) _ fun J62 hJ62 => ?_))
    try dsimp only at hJ62
    try (have hr62 : Hp.le s.I J62 := (by first | exact .rfl | assumption | exact le2 (by assumption) (by assumption) | exact le3 (by assumption) (by assumption) (by assumption) | exact le4 (by assumption) (by assumption) (by assumption) (by assumption) | exact le5 (by assumption) (by assumption) (by assumption) (by assumption) (by assumption) | exact le6 (by assumption) (by assumption) (by assumption) (by assumption) (by assumption) (by assumption)); have hJ62 := hJ62)
    simp only [nrm, Nat.reduceAdd, Nat.reduceMul, Nat.reduceSub, Int.reduceToNat, Int.reduceAdd]
    refine opsR_q rfl (q_move) ?_
    simp only [nrm, Nat.reduceAdd, Nat.reduceMul, Nat.reduceSub, Int.reduceToNat, Int.reduceAdd]
    refine opsR_q rfl (q_extract rfl rfl) ?_
    simp only [nrm, Nat.reduceAdd, Nat.reduceMul, Nat.reduceSub, Int.reduceToNat, Int.reduceAdd]
    refine opsR_q rfl (q_extract rfl rfl) ?_
    simp only [nrm, Nat.reduceAdd, Nat.reduceMul, Nat.reduceSub, Int.reduceToNat, Int.reduceAdd]
    refine opsR_o rfl (o_alloc fun b64 hb64 => ?_)
    simp only [nrm, Nat.reduceAdd, Nat.reduceMul, Nat.reduceSub, Int.reduceToNat, Int.reduceAdd]
    refine opsR_o rfl (o_storeB rfl rfl inferInstance (by first | rfl | assumption) (by first | rfl | exact Kd.one _ (by assumption) | assumption) (by first | rfl | (refine Nat.ble_eq_true_of_le ?_; (try simp only [Int.toNat_natCast]); omega)) ?_)
    simp only [nrm, Nat.reduceAdd, Nat.reduceMul, Nat.reduceSub, Int.reduceToNat, Int.reduceAdd]
    refine opsR_q rfl (q_assign) ?_
    simp only [nrm, Nat.reduceAdd, Nat.reduceMul, Nat.reduceSub, Int.reduceToNat, Int.reduceAdd]
    refine opsR_nil ?_
    refine hk59 _ _ ?_
    clear hk59
    refine run_seq fun _ hk65 => ?_
    refine run_region ?_
    refine opsR_q rfl (q_move) ?_
    simp only [nrm, Nat.reduceAdd, Nat.reduceMul, Nat.reduceSub, Int.reduceToNat, Int.reduceAdd]
    refine opsR_q rfl (q_move) ?_
    simp only [nrm, Nat.reduceAdd, Nat.reduceMul, Nat.reduceSub, Int.reduceToNat, Int.reduceAdd]
    refine opsR_o rfl (o_call rfl (Kept_spec (by first | assumption | (refine Sl.mono ?_ (by assumption); first | exact .rfl | assumption | exact le2 (by assumption) (by assumption) | exact le3 (by assumption) (by assumption) (by assumption) | exact le4 (by assumption) (by assumption) (by assumption) (by assumption) | exact le5 (by assumption) (by assumption) (by assumption) (by assumption) (by assumption) | exact le6 (by assumption) (by assumption) (by assumption) (by assumption) (by assumption) (by assumption))) (by first | assumption | (refine Sl.mono ?_ (by assumption); first | exact .rfl | assumption | exact le2 (by assumption) (by assumption) | exact le3 (by assumption) (by assumption) (by assumption) | exact le4 (by assumption) (by assumption) (by assumption) (by assumption) | exact le5 (by assumption) (by assumption) (by assumption) (by assumption) (by assumption) | exact le6 (by assumption) (by assumption) (by assumption) (by assumption) (by assumption) (by assumption))) (by omega) _ fun JKE hJKE => ?_))
    try dsimp only at hJKE
    try (have hrKE : Hp.le s.I JKE := (by first | exact .rfl | assumption | exact le2 (by assumption) (by assumption) | exact le3 (by assumption) (by assumption) (by assumption) | exact le4 (by assumption) (by assumption) (by assumption) (by assumption) | exact le5 (by assumption) (by assumption) (by assumption) (by assumption) (by assumption) | exact le6 (by assumption) (by assumption) (by assumption) (by assumption) (by assumption) (by assumption)); have hJKE := hJKE)
    simp only [nrm, Nat.reduceAdd, Nat.reduceMul, Nat.reduceSub, Int.reduceToNat, Int.reduceAdd]
    refine opsR_q rfl (q_move) ?_
    simp only [nrm, Nat.reduceAdd, Nat.reduceMul, Nat.reduceSub, Int.reduceToNat, Int.reduceAdd]
    refine opsR_q rfl (q_extract rfl rfl) ?_
    simp only [nrm, Nat.reduceAdd, Nat.reduceMul, Nat.reduceSub, Int.reduceToNat, Int.reduceAdd]
    refine opsR_q rfl (q_extract rfl rfl) ?_
    simp only [nrm, Nat.reduceAdd, Nat.reduceMul, Nat.reduceSub, Int.reduceToNat, Int.reduceAdd]
    refine opsR_o rfl (o_alloc fun b69 hb69 => ?_)
    simp only [nrm, Nat.reduceAdd, Nat.reduceMul, Nat.reduceSub, Int.reduceToNat, Int.reduceAdd]
    refine opsR_o rfl (o_storeB rfl rfl inferInstance (by first | rfl | assumption) (by first | rfl | exact Kd.one _ (by assumption) | assumption) (by first | rfl | (refine Nat.ble_eq_true_of_le ?_; (try simp only [Int.toNat_natCast]); omega)) ?_)
    simp only [nrm, Nat.reduceAdd, Nat.reduceMul, Nat.reduceSub, Int.reduceToNat, Int.reduceAdd]
    refine opsR_q rfl (q_assign) ?_
    simp only [nrm, Nat.reduceAdd, Nat.reduceMul, Nat.reduceSub, Int.reduceToNat, Int.reduceAdd]
    refine opsR_nil ?_
    refine hk65 _ _ ?_
    clear hk65
    refine run_seq fun _ hk70 => ?_
    refine run_region ?_
    refine opsR_q rfl (q_assign) ?_
    simp only [nrm, Nat.reduceAdd, Nat.reduceMul, Nat.reduceSub, Int.reduceToNat, Int.reduceAdd]
    refine opsR_nil ?_
    refine hk70 _ _ ?_
    clear hk70
    refine run_seq fun _ hk71 => ?_
    refine run_seq fun _ hk72 => ?_
    refine run_gh Gh.drop2 ?_
    refine run_region ?_
    refine opsR_q rfl (q_assign) ?_
    simp only [nrm, Nat.reduceAdd, Nat.reduceMul, Nat.reduceSub, Int.reduceToNat, Int.reduceAdd]
    refine opsR_nil ?_
    refine hk72 _ _ ?_
    clear hk72
    refine run_block ?_
    refine run_loopF [0, 0, 0, 0, 0, 0, 0, 0, 0, 0, 0, 0, 2, 2, 0, 0, 0, 0, 0, 0, 0, 0, 0, 0, 0, 0, 0, 0, 0, 0, 0, 0, 0, 0, 0, 1, 1, 1, 1, 1, 1, 1, 1, 1, 1, 1, 1, 1, 1, 1, 0, 0, 0, 0, 0, 0, 0, 0, 0, 0, 0, 0, 0, 0, 0, 0, 0, 0, 0, 0, 0, 0, 0, 0, 0, 0, 0, 0, 0, 0, 0, 0, 0, 0, 0, 0, 0, 0, 0, 0, 0, 0] (fun zn zL zst => ∃ (i : Nat) (b : Bool), zL = [.bool b, .int .i64 (i : Nat)] ∧ ⟨JKE, (bBT, .cells #[.string a1.Key, .string a1.Value, .int .i64 a1.Effect] 32 (0, 0)) :: s.cs⟩ = zst ∧ zn = a2.length - i ∧ (i ≤ a2.length) ∧ (b = borneOf (a2.take i) a1)) _ _ ⟨0, _, rfl, rfl, rfl, by first | assumption | omega | exact Hp.le.rfl | rfl | exact all_zero | exact all_succ (by assumption) (by assumption) | (simp; done), by first | assumption | omega | exact Hp.le.rfl | rfl | exact all_zero | exact all_succ (by assumption) (by assumption) | (simp; done)⟩ rfl ?_
    rintro _ _ _ jv73 ⟨i, b, rfl, rfl, rfl, hi, hbo⟩ K73 hkl73
    simp only [fr, Nat.zero_add, Nat.reduceAdd]
    refine run_seq fun _ hk74 => ?_
    refine run_seq fun _ hk75 => ?_
    refine run_region ?_
    refine opsR_q rfl (q_move) ?_
    simp only [nrm, Nat.reduceAdd, Nat.reduceMul, Nat.reduceSub, Int.reduceToNat, Int.reduceAdd]
    refine opsR_q rfl (q_move) ?_
    simp only [nrm, Nat.reduceAdd, Nat.reduceMul, Nat.reduceSub, Int.reduceToNat, Int.reduceAdd]
    refine opsR_q rfl (q_len_v rfl (by first | exact Sl.len (by assumption) | exact OwnS.len (by assumption) | exact SlR.len (by assumption) | assumption)) ?_
    simp only [nrm, Nat.reduceAdd, Nat.reduceMul, Nat.reduceSub, Int.reduceToNat, Int.reduceAdd]
    refine opsR_q rfl (q_lss rfl rfl) ?_
    simp only [nrm, Nat.reduceAdd, Nat.reduceMul, Nat.reduceSub, Int.reduceToNat, Int.reduceAdd]
    refine opsR_nil ?_
    refine hk75 _ _ ?_
    clear hk75
    refine run_cond rfl (fun ho78 => ?_) (fun ho78 => ?_)
    · have hc78 := ho78; try simp only [spl] at hc78
      refine run_skip ?_
      refine hk74 _ _ ?_
      clear hk74
      refine run_seq fun _ hk79 => ?_
      refine run_block ?_
      refine run_drawE mixed 10 (by kernel_rfl) rfl ?_
      simp only [List.take_succ_cons, List.take_zero, List.drop_succ_cons, List.drop_zero, List.drop_nil, List.take_nil]
      refine oblE_q rfl (fun I hI => (q_move)) ?_
      simp only [nrm, Nat.reduceAdd, Nat.reduceMul, Nat.reduceSub, Int.reduceToNat, Int.reduceAdd]
      refine oblE_qb rfl (fun I hI => (q_move)) (fun hc81 => ?_) (fun hc81 => ?_)
      · have ho81 := hc81; try simp only [spl] at hc81
        simp only [nrm, Nat.reduceAdd, Nat.reduceMul, Nat.reduceSub, Int.reduceToNat, Int.reduceAdd]
        refine oblE_skip rfl ?_
        simp only [nrm, Nat.reduceAdd, Nat.reduceMul, Nat.reduceSub, Int.reduceToNat, Int.reduceAdd]
        refine oblE_skip rfl ?_
        simp only [nrm, Nat.reduceAdd, Nat.reduceMul, Nat.reduceSub, Int.reduceToNat, Int.reduceAdd]
        refine oblE_skip rfl ?_
        simp only [nrm, Nat.reduceAdd, Nat.reduceMul, Nat.reduceSub, Int.reduceToNat, Int.reduceAdd]
        refine oblE_skip rfl ?_
        simp only [nrm, Nat.reduceAdd, Nat.reduceMul, Nat.reduceSub, Int.reduceToNat, Int.reduceAdd]
        refine oblE_skip rfl ?_
        simp only [nrm, Nat.reduceAdd, Nat.reduceMul, Nat.reduceSub, Int.reduceToNat, Int.reduceAdd]
        refine oblE_skip rfl ?_
        simp only [nrm, Nat.reduceAdd, Nat.reduceMul, Nat.reduceSub, Int.reduceToNat, Int.reduceAdd]
        refine oblE_q rfl (fun I hI => (q_pick_t rfl)) ?_
        simp only [nrm, Nat.reduceAdd, Nat.reduceMul, Nat.reduceSub, Int.reduceToNat, Int.reduceAdd]
        refine oblE_q rfl (fun I hI => (q_assign)) ?_
        simp only [nrm, Nat.reduceAdd, Nat.reduceMul, Nat.reduceSub, Int.reduceToNat, Int.reduceAdd]
        refine oblE_nil (show OpsR _ _ _ _ _ _ from ?_)
        try simp only [nrm, Nat.reduceAdd, Nat.reduceMul, Nat.reduceSub, Int.reduceToNat, Int.reduceAdd]
        refine opsR_nil ?_
        refine hk79 _ _ ?_
        clear hk79
        refine run_region ?_
        refine opsR_q rfl (q_move) ?_
        simp only [nrm, Nat.reduceAdd, Nat.reduceMul, Nat.reduceSub, Int.reduceToNat, Int.reduceAdd]
        refine opsR_q rfl (by first | exact q_add64 rfl rfl (by omega) (by omega) | exact q_add rfl rfl) ?_
        simp only [nrm, Nat.reduceAdd, Nat.reduceMul, Nat.reduceSub, Int.reduceToNat, Int.reduceAdd]
        refine opsR_q rfl (q_assign) ?_
        simp only [nrm, Nat.reduceAdd, Nat.reduceMul, Nat.reduceSub, Int.reduceToNat, Int.reduceAdd]
        refine opsR_nil ?_
        first
        | exact hkl73 _ _ _ _ (by omega) ⟨i + 1, _, rfl, rfl, rfl, by first | omega | rfl | exact borne_keep (by omega) (by rw [← hbo]; assumption) | exact borne_next (by omega) (by rw [← hbo]; assumption), by first | omega | rfl | exact borne_keep (by omega) (by rw [← hbo]; assumption) | exact borne_next (by omega) (by rw [← hbo]; assumption)⟩ rfl
      · have ho81 := hc81; try simp only [spl] at hc81
        simp only [nrm, Nat.reduceAdd, Nat.reduceMul, Nat.reduceSub, Int.reduceToNat, Int.reduceAdd]
        refine oblE_q rfl (fun I hI => (q_move)) ?_
        simp only [nrm, Nat.reduceAdd, Nat.reduceMul, Nat.reduceSub, Int.reduceToNat, Int.reduceAdd]
        refine oblE_q rfl (fun I hI => (q_move)) ?_
        simp only [nrm, Nat.reduceAdd, Nat.reduceMul, Nat.reduceSub, Int.reduceToNat, Int.reduceAdd]
        refine oblE_index rfl rfl rfl (by first | exact Sl.r (by assumption) (by first | exact .rfl | assumption | exact le2 (by assumption) (by assumption) | exact le3 (by assumption) (by assumption) (by assumption) | exact le4 (by assumption) (by assumption) (by assumption) (by assumption) | exact le5 (by assumption) (by assumption) (by assumption) (by assumption) (by assumption) | exact le6 (by assumption) (by assumption) (by assumption) (by assumption) (by assumption) (by assumption)) | (refine OwnS.r (OwnS.mono ?_ (by assumption)) (by intro p hp; simp only [List.mem_append, List.mem_cons, hp, true_or, or_true]); first | exact .rfl | assumption | exact le2 (by assumption) (by assumption) | exact le3 (by assumption) (by assumption) (by assumption) | exact le4 (by assumption) (by assumption) (by assumption) (by assumption) | exact le5 (by assumption) (by assumption) (by assumption) (by assumption) (by assumption) | exact le6 (by assumption) (by assumption) (by assumption) (by assumption) (by assumption) (by assumption)) | assumption) (by rfl) (by first | omega | ((try simp only [List.length_append, List.length_cons, List.length_nil, List.length_set, List.length_replicate, List.length_take, List.length_drop, List.length_map] at *); omega)) (by first | omega | ((try simp only [List.length_append, List.length_cons, List.length_nil, List.length_set, List.length_replicate, List.length_take, List.length_drop, List.length_map] at *); omega)) fun b82 o82 cs82 ha82 hr82 he82 => ?_
        simp only [nrm, Nat.reduceAdd, Nat.reduceMul, Nat.reduceSub, Int.reduceToNat, Int.reduceAdd]
        try simp only [Int.toNat_natCast, Int.reduceToNat, Int.toNat_zero] at hr82
        try simp only [Int.toNat_natCast, Int.reduceToNat, Int.toNat_zero] at he82
        clear ha82
        obtain rfl := kBear.open hr82
        refine oblE_q rfl (fun I hI => (by first | exact q_load_atW rfl (El.mono (by assumption) hI) (by rfl) rfl | exact q_load_atN0 rfl (El.mono (by assumption) hI) rfl rfl | exact q_load_atN rfl (El.mono (by assumption) hI) rfl (Nat.le_of_ble_eq_true rfl) (Nat.le_of_ble_eq_true rfl))) ?_
        simp only [nrm, Nat.reduceAdd, Nat.reduceMul, Nat.reduceSub, Int.reduceToNat, Int.reduceAdd]
        refine oblE_q rfl (fun I hI => (by first | exact q_loadBN rfl inferInstance (by rfl) | exact q_loadBW rfl inferInstance (by assumption))) ?_
        simp only [nrm, Nat.reduceAdd, Nat.reduceMul, Nat.reduceSub, Int.reduceToNat, Int.reduceAdd]
        refine oblE_q rfl (fun I hI => (q_call rfl (Bears_spec _ _ _))) ?_
        simp only [nrm, Nat.reduceAdd, Nat.reduceMul, Nat.reduceSub, Int.reduceToNat, Int.reduceAdd]
        refine oblE_q rfl (fun I hI => (q_pick_f rfl)) ?_
        simp only [nrm, Nat.reduceAdd, Nat.reduceMul, Nat.reduceSub, Int.reduceToNat, Int.reduceAdd]
        refine oblE_q rfl (fun I hI => (q_assign)) ?_
        simp only [nrm, Nat.reduceAdd, Nat.reduceMul, Nat.reduceSub, Int.reduceToNat, Int.reduceAdd]
        refine oblE_nil (show OpsR _ _ _ _ _ _ from ?_)
        try simp only [nrm, Nat.reduceAdd, Nat.reduceMul, Nat.reduceSub, Int.reduceToNat, Int.reduceAdd]
        refine opsR_nil ?_
        refine hk79 _ _ ?_
        clear hk79
        refine run_region ?_
        refine opsR_q rfl (q_move) ?_
        simp only [nrm, Nat.reduceAdd, Nat.reduceMul, Nat.reduceSub, Int.reduceToNat, Int.reduceAdd]
        refine opsR_q rfl (by first | exact q_add64 rfl rfl (by omega) (by omega) | exact q_add rfl rfl) ?_
        simp only [nrm, Nat.reduceAdd, Nat.reduceMul, Nat.reduceSub, Int.reduceToNat, Int.reduceAdd]
        refine opsR_q rfl (q_assign) ?_
        simp only [nrm, Nat.reduceAdd, Nat.reduceMul, Nat.reduceSub, Int.reduceToNat, Int.reduceAdd]
        refine opsR_nil ?_
        first
        | exact hkl73 _ _ _ _ (by omega) ⟨i + 1, _, rfl, rfl, rfl, by first | omega | rfl | exact borne_keep (by omega) (by rw [← hbo]; assumption) | exact borne_next (by omega) (by rw [← hbo]; assumption), by first | omega | rfl | exact borne_keep (by omega) (by rw [← hbo]; assumption) | exact borne_next (by omega) (by rw [← hbo]; assumption)⟩ rfl
    · have hc78 := ho78; try simp only [spl] at hc78
      refine run_exit ?_
      refine hk71 _ _ ?_
      clear hk71
      refine run_seq fun _ hk84 => ?_
      have hbo2 : b = borneOf a2 a1 := by rw [hbo, take_all (by omega)]
      clear hbo
      have hY := kept_snoc (l := a0) (t := a1) (b := a2)
      have hS := shy_snoc (l := a0) (t := a1) (b := a2)
      refine run_region ?_
      refine opsR_q rfl (q_move) ?_
      simp only [nrm, Nat.reduceAdd, Nat.reduceMul, Nat.reduceSub, Int.reduceToNat, Int.reduceAdd]
      refine opsR_q rfl (q_move) ?_
      simp only [nrm, Nat.reduceAdd, Nat.reduceMul, Nat.reduceSub, Int.reduceToNat, Int.reduceAdd]
      refine opsR_o rfl (o_call rfl (Shy_spec (by first | assumption | (refine Sl.mono ?_ (by assumption); first | exact .rfl | assumption | exact le2 (by assumption) (by assumption) | exact le3 (by assumption) (by assumption) (by assumption) | exact le4 (by assumption) (by assumption) (by assumption) (by assumption) | exact le5 (by assumption) (by assumption) (by assumption) (by assumption) (by assumption) | exact le6 (by assumption) (by assumption) (by assumption) (by assumption) (by assumption) (by assumption))) (by first | assumption | (refine Sl.mono ?_ (by assumption); first | exact .rfl | assumption | exact le2 (by assumption) (by assumption) | exact le3 (by assumption) (by assumption) (by assumption) | exact le4 (by assumption) (by assumption) (by assumption) (by assumption) | exact le5 (by assumption) (by assumption) (by assumption) (by assumption) (by assumption) | exact le6 (by assumption) (by assumption) (by assumption) (by assumption) (by assumption) (by assumption))) (by omega) _ fun J86 hJ86 => ?_))
      try dsimp only at hJ86
      try (have hr86 : Hp.le s.I J86 := (by first | exact .rfl | assumption | exact le2 (by assumption) (by assumption) | exact le3 (by assumption) (by assumption) (by assumption) | exact le4 (by assumption) (by assumption) (by assumption) (by assumption) | exact le5 (by assumption) (by assumption) (by assumption) (by assumption) (by assumption) | exact le6 (by assumption) (by assumption) (by assumption) (by assumption) (by assumption) (by assumption)); have hJ86 := hJ86)
      simp only [nrm, Nat.reduceAdd, Nat.reduceMul, Nat.reduceSub, Int.reduceToNat, Int.reduceAdd]
      refine opsR_q rfl (q_move) ?_
      simp only [nrm, Nat.reduceAdd, Nat.reduceMul, Nat.reduceSub, Int.reduceToNat, Int.reduceAdd]
      refine opsR_q rfl (q_move) ?_
      simp only [nrm, Nat.reduceAdd, Nat.reduceMul, Nat.reduceSub, Int.reduceToNat, Int.reduceAdd]
      refine opsR_o rfl (o_call rfl (Shy_spec (by first | assumption | (refine Sl.mono ?_ (by assumption); first | exact .rfl | assumption | exact le2 (by assumption) (by assumption) | exact le3 (by assumption) (by assumption) (by assumption) | exact le4 (by assumption) (by assumption) (by assumption) (by assumption) | exact le5 (by assumption) (by assumption) (by assumption) (by assumption) (by assumption) | exact le6 (by assumption) (by assumption) (by assumption) (by assumption) (by assumption) (by assumption))) (by first | assumption | (refine Sl.mono ?_ (by assumption); first | exact .rfl | assumption | exact le2 (by assumption) (by assumption) | exact le3 (by assumption) (by assumption) (by assumption) | exact le4 (by assumption) (by assumption) (by assumption) (by assumption) | exact le5 (by assumption) (by assumption) (by assumption) (by assumption) (by assumption) | exact le6 (by assumption) (by assumption) (by assumption) (by assumption) (by assumption) (by assumption))) (by omega) _ fun J88 hJ88 => ?_))
      try dsimp only at hJ88
      try (have hr88 : Hp.le s.I J88 := (by first | exact .rfl | assumption | exact le2 (by assumption) (by assumption) | exact le3 (by assumption) (by assumption) (by assumption) | exact le4 (by assumption) (by assumption) (by assumption) (by assumption) | exact le5 (by assumption) (by assumption) (by assumption) (by assumption) (by assumption) | exact le6 (by assumption) (by assumption) (by assumption) (by assumption) (by assumption) (by assumption)); have hJ88 := hJ88)
      simp only [nrm, Nat.reduceAdd, Nat.reduceMul, Nat.reduceSub, Int.reduceToNat, Int.reduceAdd]
      refine opsR_q rfl (q_assign) ?_
      simp only [nrm, Nat.reduceAdd, Nat.reduceMul, Nat.reduceSub, Int.reduceToNat, Int.reduceAdd]
      refine opsR_q rfl (q_assign) ?_
      simp only [nrm, Nat.reduceAdd, Nat.reduceMul, Nat.reduceSub, Int.reduceToNat, Int.reduceAdd]
      refine opsR_nil ?_
      refine hk84 _ _ ?_
      clear hk84
      refine run_seq fun _ hk91 => ?_
      refine run_seq fun _ hk92 => ?_
      refine run_region ?_
      refine opsR_q rfl (q_move) ?_
      simp only [nrm, Nat.reduceAdd, Nat.reduceMul, Nat.reduceSub, Int.reduceToNat, Int.reduceAdd]
      refine opsR_nil ?_
      refine hk92 _ _ ?_
      clear hk92
      refine run_cond rfl (fun ho94 => ?_) (fun ho94 => ?_)
      · have hc94 := ho94; try simp only [spl] at hc94
        refine run_seq fun _ hk95 => ?_
        rw [openP_borne (by rw [← hbo2]; assumption), Bool.or_false] at hY
        rw [if_neg (by rw [openP_borne (by rw [← hbo2]; assumption)]; decide), Int.add_zero] at hS
        rw [hY, hS]
        refine run_region ?_
        refine opsR_q rfl (q_move) ?_
        simp only [nrm, Nat.reduceAdd, Nat.reduceMul, Nat.reduceSub, Int.reduceToNat, Int.reduceAdd]
        refine opsR_q rfl (q_move) ?_
        simp only [nrm, Nat.reduceAdd, Nat.reduceMul, Nat.reduceSub, Int.reduceToNat, Int.reduceAdd]
        refine opsR_q rfl (q_eql_bool rfl rfl) ?_
        simp only [nrm, Nat.reduceAdd, Nat.reduceMul, Nat.reduceSub, Int.reduceToNat, Int.reduceAdd]
        refine opsR_qb rfl (q_move) (fun _ => ?_) (fun h => absurd h (by simp))
        simp only [nrm, Nat.reduceAdd, Nat.reduceMul, Nat.reduceSub, Int.reduceToNat, Int.reduceAdd]
        refine opsR_q rfl (q_move) ?_
        simp only [nrm, Nat.reduceAdd, Nat.reduceMul, Nat.reduceSub, Int.reduceToNat, Int.reduceAdd]
        refine opsR_q rfl (q_move) ?_
        simp only [nrm, Nat.reduceAdd, Nat.reduceMul, Nat.reduceSub, Int.reduceToNat, Int.reduceAdd]
        refine opsR_q rfl (q_eql rfl rfl) ?_
        simp only [nrm, Nat.reduceAdd, Nat.reduceMul, Nat.reduceSub, Int.reduceToNat, Int.reduceAdd]
        refine opsR_q rfl (q_pick_t rfl) ?_
        simp only [nrm, Nat.reduceAdd, Nat.reduceMul, Nat.reduceSub, Int.reduceToNat, Int.reduceAdd]
        refine opsR_q rfl (q_assign) ?_
        simp only [nrm, Nat.reduceAdd, Nat.reduceMul, Nat.reduceSub, Int.reduceToNat, Int.reduceAdd]
        refine opsR_nil ?_
        refine hk95 _ _ ?_
        clear hk95
        refine run_ret ?_
        exact end_tmp rfl rfl rfl (by first | exact .refl | exact .drop | exact .drop2 | exact .drop3 | exact .drop4 | exact Gh.drop.trans .drop4 | exact Gh.drop2.trans .drop4 | exact Gh.drop3.trans .drop4) ⟨congrArg Go.Value.bool (by simp), by first | exact .rfl | assumption | exact le2 (by assumption) (by assumption) | exact le3 (by assumption) (by assumption) (by assumption) | exact le4 (by assumption) (by assumption) (by assumption) (by assumption) | exact le5 (by assumption) (by assumption) (by assumption) (by assumption) (by assumption) | exact le6 (by assumption) (by assumption) (by assumption) (by assumption) (by assumption) (by assumption)⟩
      · have hc94 := ho94; try simp only [spl] at hc94
        refine run_skip ?_
        refine hk91 _ _ ?_
        clear hk91
        refine run_seq fun _ hk98 => ?_
        rw [openP_free (by rw [← hbo2]; assumption)] at hY
        rw [openP_free (by rw [← hbo2]; assumption)] at hS
        simp only [decide_eq_true_eq] at hS
        rw [hY, hS]
        refine run_region ?_
        refine opsR_q rfl (q_move) ?_
        simp only [nrm, Nat.reduceAdd, Nat.reduceMul, Nat.reduceSub, Int.reduceToNat, Int.reduceAdd]
        refine opsR_q rfl (q_move) ?_
        simp only [nrm, Nat.reduceAdd, Nat.reduceMul, Nat.reduceSub, Int.reduceToNat, Int.reduceAdd]
        refine opsR_qb rfl (q_move) (fun hc101 => ?_) (fun hc101 => ?_)
        · have ho101 := hc101; try simp only [spl] at hc101
          simp only [nrm, Nat.reduceAdd, Nat.reduceMul, Nat.reduceSub, Int.reduceToNat, Int.reduceAdd]
          refine opsR_skip rfl ?_
          simp only [nrm, Nat.reduceAdd, Nat.reduceMul, Nat.reduceSub, Int.reduceToNat, Int.reduceAdd]
          refine opsR_skip rfl ?_
          simp only [nrm, Nat.reduceAdd, Nat.reduceMul, Nat.reduceSub, Int.reduceToNat, Int.reduceAdd]
          refine opsR_skip rfl ?_
          simp only [nrm, Nat.reduceAdd, Nat.reduceMul, Nat.reduceSub, Int.reduceToNat, Int.reduceAdd]
          refine opsR_q rfl (q_pick_t rfl) ?_
          simp only [nrm, Nat.reduceAdd, Nat.reduceMul, Nat.reduceSub, Int.reduceToNat, Int.reduceAdd]
          refine opsR_q rfl (q_eql_bool rfl rfl) ?_
          simp only [nrm, Nat.reduceAdd, Nat.reduceMul, Nat.reduceSub, Int.reduceToNat, Int.reduceAdd]
          refine opsR_qb rfl (q_move) (fun _ => ?_) (fun h => absurd h (by simp [*]))
          simp only [nrm, Nat.reduceAdd, Nat.reduceMul, Nat.reduceSub, Int.reduceToNat, Int.reduceAdd]
          refine opsR_q rfl (q_move) ?_
          simp only [nrm, Nat.reduceAdd, Nat.reduceMul, Nat.reduceSub, Int.reduceToNat, Int.reduceAdd]
          refine opsR_q rfl (q_move) ?_
          simp only [nrm, Nat.reduceAdd, Nat.reduceMul, Nat.reduceSub, Int.reduceToNat, Int.reduceAdd]
          refine opsR_q rfl (by first | exact q_add64 rfl rfl (by omega) (by omega) | exact q_add rfl rfl) ?_
          simp only [nrm, Nat.reduceAdd, Nat.reduceMul, Nat.reduceSub, Int.reduceToNat, Int.reduceAdd]
          refine opsR_q rfl (q_eql rfl rfl) ?_
          simp only [nrm, Nat.reduceAdd, Nat.reduceMul, Nat.reduceSub, Int.reduceToNat, Int.reduceAdd]
          refine opsR_q rfl (q_fieldAddr rfl) ?_
          simp only [nrm, Nat.reduceAdd, Nat.reduceMul, Nat.reduceSub, Int.reduceToNat, Int.reduceAdd]
          refine opsR_q rfl (q_loadB1 rfl inferInstance rfl) ?_
          simp only [nrm, Nat.reduceAdd, Nat.reduceMul, Nat.reduceSub, Int.reduceToNat, Int.reduceAdd]
          refine opsR_q rfl (q_eql rfl rfl) ?_
          simp only [nrm, Nat.reduceAdd, Nat.reduceMul, Nat.reduceSub, Int.reduceToNat, Int.reduceAdd]
          refine opsR_q rfl (q_eql_bool rfl rfl) ?_
          simp only [nrm, Nat.reduceAdd, Nat.reduceMul, Nat.reduceSub, Int.reduceToNat, Int.reduceAdd]
          refine opsR_q rfl (q_pick_t rfl) ?_
          simp only [nrm, Nat.reduceAdd, Nat.reduceMul, Nat.reduceSub, Int.reduceToNat, Int.reduceAdd]
          refine opsR_qb rfl (q_move) (fun _ => ?_) (fun h => absurd h (by by_cases h2 : a1.Effect = 2 <;> simp [h2] <;> omega))
          simp only [nrm, Nat.reduceAdd, Nat.reduceMul, Nat.reduceSub, Int.reduceToNat, Int.reduceAdd]
          refine opsR_q rfl (q_move) ?_
          simp only [nrm, Nat.reduceAdd, Nat.reduceMul, Nat.reduceSub, Int.reduceToNat, Int.reduceAdd]
          refine opsR_q rfl (q_move) ?_
          simp only [nrm, Nat.reduceAdd, Nat.reduceMul, Nat.reduceSub, Int.reduceToNat, Int.reduceAdd]
          refine opsR_q rfl (q_eql rfl rfl) ?_
          simp only [nrm, Nat.reduceAdd, Nat.reduceMul, Nat.reduceSub, Int.reduceToNat, Int.reduceAdd]
          refine opsR_q rfl (q_fieldAddr rfl) ?_
          simp only [nrm, Nat.reduceAdd, Nat.reduceMul, Nat.reduceSub, Int.reduceToNat, Int.reduceAdd]
          refine opsR_q rfl (q_loadB1 rfl inferInstance rfl) ?_
          simp only [nrm, Nat.reduceAdd, Nat.reduceMul, Nat.reduceSub, Int.reduceToNat, Int.reduceAdd]
          refine opsR_q rfl (q_neq rfl rfl) ?_
          simp only [nrm, Nat.reduceAdd, Nat.reduceMul, Nat.reduceSub, Int.reduceToNat, Int.reduceAdd]
          refine opsR_q rfl (q_eql_bool rfl rfl) ?_
          simp only [nrm, Nat.reduceAdd, Nat.reduceMul, Nat.reduceSub, Int.reduceToNat, Int.reduceAdd]
          refine opsR_q rfl (q_pick_t rfl) ?_
          simp only [nrm, Nat.reduceAdd, Nat.reduceMul, Nat.reduceSub, Int.reduceToNat, Int.reduceAdd]
          refine opsR_q rfl (q_assign) ?_
          simp only [nrm, Nat.reduceAdd, Nat.reduceMul, Nat.reduceSub, Int.reduceToNat, Int.reduceAdd]
          refine opsR_nil ?_
          refine hk98 _ _ ?_
          clear hk98
          refine run_ret ?_
          exact end_tmp rfl rfl rfl (by first | exact .refl | exact .drop | exact .drop2 | exact .drop3 | exact .drop4 | exact Gh.drop.trans .drop4 | exact Gh.drop2.trans .drop4 | exact Gh.drop3.trans .drop4) ⟨congrArg Go.Value.bool (by by_cases h2 : a1.Effect = 2 <;> simp [h2] <;> omega), by first | exact .rfl | assumption | exact le2 (by assumption) (by assumption) | exact le3 (by assumption) (by assumption) (by assumption) | exact le4 (by assumption) (by assumption) (by assumption) (by assumption) | exact le5 (by assumption) (by assumption) (by assumption) (by assumption) (by assumption) | exact le6 (by assumption) (by assumption) (by assumption) (by assumption) (by assumption) (by assumption)⟩
        · have ho101 := hc101; try simp only [spl] at hc101
          simp only [nrm, Nat.reduceAdd, Nat.reduceMul, Nat.reduceSub, Int.reduceToNat, Int.reduceAdd]
          refine opsR_q rfl (q_fieldAddr rfl) ?_
          simp only [nrm, Nat.reduceAdd, Nat.reduceMul, Nat.reduceSub, Int.reduceToNat, Int.reduceAdd]
          refine opsR_q rfl (q_loadB1 rfl inferInstance rfl) ?_
          simp only [nrm, Nat.reduceAdd, Nat.reduceMul, Nat.reduceSub, Int.reduceToNat, Int.reduceAdd]
          refine opsR_q rfl (q_eql rfl rfl) ?_
          simp only [nrm, Nat.reduceAdd, Nat.reduceMul, Nat.reduceSub, Int.reduceToNat, Int.reduceAdd]
          refine opsR_q rfl (q_pick_f rfl) ?_
          simp only [nrm, Nat.reduceAdd, Nat.reduceMul, Nat.reduceSub, Int.reduceToNat, Int.reduceAdd]
          refine opsR_q rfl (q_eql_bool rfl rfl) ?_
          simp only [nrm, Nat.reduceAdd, Nat.reduceMul, Nat.reduceSub, Int.reduceToNat, Int.reduceAdd]
          refine opsR_qb rfl (q_move) (fun _ => ?_) (fun h => absurd h (by simp [*]))
          simp only [nrm, Nat.reduceAdd, Nat.reduceMul, Nat.reduceSub, Int.reduceToNat, Int.reduceAdd]
          refine opsR_q rfl (q_move) ?_
          simp only [nrm, Nat.reduceAdd, Nat.reduceMul, Nat.reduceSub, Int.reduceToNat, Int.reduceAdd]
          refine opsR_q rfl (q_move) ?_
          simp only [nrm, Nat.reduceAdd, Nat.reduceMul, Nat.reduceSub, Int.reduceToNat, Int.reduceAdd]
          refine opsR_q rfl (by first | exact q_add64 rfl rfl (by omega) (by omega) | exact q_add rfl rfl) ?_
          simp only [nrm, Nat.reduceAdd, Nat.reduceMul, Nat.reduceSub, Int.reduceToNat, Int.reduceAdd]
          refine opsR_q rfl (q_eql rfl rfl) ?_
          simp only [nrm, Nat.reduceAdd, Nat.reduceMul, Nat.reduceSub, Int.reduceToNat, Int.reduceAdd]
          refine opsR_q rfl (q_fieldAddr rfl) ?_
          simp only [nrm, Nat.reduceAdd, Nat.reduceMul, Nat.reduceSub, Int.reduceToNat, Int.reduceAdd]
          refine opsR_q rfl (q_loadB1 rfl inferInstance rfl) ?_
          simp only [nrm, Nat.reduceAdd, Nat.reduceMul, Nat.reduceSub, Int.reduceToNat, Int.reduceAdd]
          refine opsR_q rfl (q_eql rfl rfl) ?_
          simp only [nrm, Nat.reduceAdd, Nat.reduceMul, Nat.reduceSub, Int.reduceToNat, Int.reduceAdd]
          refine opsR_q rfl (q_eql_bool rfl rfl) ?_
          simp only [nrm, Nat.reduceAdd, Nat.reduceMul, Nat.reduceSub, Int.reduceToNat, Int.reduceAdd]
          refine opsR_q rfl (q_pick_t rfl) ?_
          simp only [nrm, Nat.reduceAdd, Nat.reduceMul, Nat.reduceSub, Int.reduceToNat, Int.reduceAdd]
          refine opsR_qb rfl (q_move) (fun _ => ?_) (fun h => absurd h (by by_cases h2 : a1.Effect = 2 <;> simp [h2] <;> omega))
          simp only [nrm, Nat.reduceAdd, Nat.reduceMul, Nat.reduceSub, Int.reduceToNat, Int.reduceAdd]
          refine opsR_q rfl (q_move) ?_
          simp only [nrm, Nat.reduceAdd, Nat.reduceMul, Nat.reduceSub, Int.reduceToNat, Int.reduceAdd]
          refine opsR_q rfl (q_move) ?_
          simp only [nrm, Nat.reduceAdd, Nat.reduceMul, Nat.reduceSub, Int.reduceToNat, Int.reduceAdd]
          refine opsR_q rfl (q_eql rfl rfl) ?_
          simp only [nrm, Nat.reduceAdd, Nat.reduceMul, Nat.reduceSub, Int.reduceToNat, Int.reduceAdd]
          refine opsR_q rfl (q_fieldAddr rfl) ?_
          simp only [nrm, Nat.reduceAdd, Nat.reduceMul, Nat.reduceSub, Int.reduceToNat, Int.reduceAdd]
          refine opsR_q rfl (q_loadB1 rfl inferInstance rfl) ?_
          simp only [nrm, Nat.reduceAdd, Nat.reduceMul, Nat.reduceSub, Int.reduceToNat, Int.reduceAdd]
          refine opsR_q rfl (q_neq rfl rfl) ?_
          simp only [nrm, Nat.reduceAdd, Nat.reduceMul, Nat.reduceSub, Int.reduceToNat, Int.reduceAdd]
          refine opsR_q rfl (q_eql_bool rfl rfl) ?_
          simp only [nrm, Nat.reduceAdd, Nat.reduceMul, Nat.reduceSub, Int.reduceToNat, Int.reduceAdd]
          refine opsR_q rfl (q_pick_t rfl) ?_
          simp only [nrm, Nat.reduceAdd, Nat.reduceMul, Nat.reduceSub, Int.reduceToNat, Int.reduceAdd]
          refine opsR_q rfl (q_assign) ?_
          simp only [nrm, Nat.reduceAdd, Nat.reduceMul, Nat.reduceSub, Int.reduceToNat, Int.reduceAdd]
          refine opsR_nil ?_
          refine hk98 _ _ ?_
          clear hk98
          refine run_ret ?_
          exact end_tmp rfl rfl rfl (by first | exact .refl | exact .drop | exact .drop2 | exact .drop3 | exact .drop4 | exact Gh.drop.trans .drop4 | exact Gh.drop2.trans .drop4 | exact Gh.drop3.trans .drop4) ⟨congrArg Go.Value.bool (by by_cases h2 : a1.Effect = 2 <;> simp [h2] <;> omega), by first | exact .rfl | assumption | exact le2 (by assumption) (by assumption) | exact le3 (by assumption) (by assumption) (by assumption) | exact le4 (by assumption) (by assumption) (by assumption) (by assumption) | exact le5 (by assumption) (by assumption) (by assumption) (by assumption) (by assumption) | exact le6 (by assumption) (by assumption) (by assumption) (by assumption) (by assumption) (by assumption)⟩
end
end Go.Proofs.YtgeidcdelpenjaaDoor
