/- Package score: all measures, weighed. -/
import Derived.Test.YtopimbpclgejhaaGreatDoorSPT
import Derived.Test.YtopimbpclgejhaaGreatDoorAR
import Derived.Test.YtopimbpclgejhaaGreatDoorS21
import Derived.Test.YtopimbpclgejhaaGreatDoorSC3
set_option autoImplicit false
set_option linter.unusedVariables false
set_option linter.unusedSimpArgs false
namespace Go.Proofs.YtopimbpclgejhaaGreatDoor
open Go Go.RowKit
section
attribute [local irreducible] Quiet OpsR Run CallS opS Gh endQ oblE RunN swp Go.Op.equalIn shyOf matchOf likedOf leastOf evenOf normOf measOf
theorem least1_spec {p : Pod} {x : Info} {cp xc : List Value} {s : St} {bl i : Nat} {e : TypeId} [hA : AtB bl s.cs i (.cells cp.toArray e (0, 0))] (hp : kPod.rep s.I p cp) (hx : kInfo.rep s.I x xc) :
    CallV Tryz.prog 20 #[.agg xc.toArray, .pointer (some ⟨bl, 0, none⟩)] s (.int .i64 (leastOf x.Node.Give x.Used p.Want)) := by
  intro K hK
  have hp' := hp
  have hx' := hx
  obtain ⟨p1, p2, p3, p4, p5, p6, p7, p8, p9, rfl, g1, g2, g3, g4, g5, g6, g7, g8, g9⟩ := kPod.open hp
  obtain ⟨v1, v2, v3, v4, v5, rfl, h1, h2, h3, h4, h5⟩ := kInfo.open hx
  refine callS_of_run Tryz.func20 rfl ?_; simp only [Tryz.ntmps20, List.size_toArray, List.length_cons, List.length_nil, Nat.reduceAdd, Nat.reduceSub, Array.replicate_succ, Array.replicate_zero, List.push_toArray, List.append_toArray, List.nil_append, List.cons_append]
  refine run_seq fun _ hk1 => ?_
  refine run_region ?_
  refine opsR_o rfl (o_box fun b2 hb2 => ?_)
  simp only [nrm, Nat.reduceAdd, Nat.reduceMul, Nat.reduceSub, Int.reduceToNat, Int.reduceAdd]
  refine opsR_q rfl (q_assign) ?_
  simp only [nrm, Nat.reduceAdd, Nat.reduceMul, Nat.reduceSub, Int.reduceToNat, Int.reduceAdd]
  refine opsR_nil ?_
  refine hk1 _ _ ?_
  clear hk1
  refine run_seq fun _ hk3 => ?_
  refine run_region ?_
  refine opsR_q rfl (by first | exact q_loadBN rfl inferInstance (by rfl) | exact q_loadBW rfl inferInstance (by assumption)) ?_
  simp only [nrm, Nat.reduceAdd, Nat.reduceMul, Nat.reduceSub, Int.reduceToNat, Int.reduceAdd]
  refine opsR_q rfl (by first | exact q_loadBN rfl inferInstance (by rfl) | exact q_loadBW rfl inferInstance (by assumption)) ?_
  simp only [nrm, Nat.reduceAdd, Nat.reduceMul, Nat.reduceSub, Int.reduceToNat, Int.reduceAdd]
  refine opsR_q rfl (q_call rfl (Least_spec _ _ _ _ _ (by first | assumption | (refine Kd.mono _ ?_ (by assumption); first | exact .rfl | assumption | exact le2 (by assumption) (by assumption) | exact le3 (by assumption) (by assumption) (by assumption) | exact le4 (by assumption) (by assumption) (by assumption) (by assumption) | exact le5 (by assumption) (by assumption) (by assumption) (by assumption) (by assumption) | exact le6 (by assumption) (by assumption) (by assumption) (by assumption) (by assumption) (by assumption))) (by first | assumption | (refine Kd.mono _ ?_ (by assumption); first | exact .rfl | assumption | exact le2 (by assumption) (by assumption) | exact le3 (by assumption) (by assumption) (by assumption) | exact le4 (by assumption) (by assumption) (by assumption) (by assumption) | exact le5 (by assumption) (by assumption) (by assumption) (by assumption) (by assumption) | exact le6 (by assumption) (by assumption) (by assumption) (by assumption) (by assumption) (by assumption))))) ?_
  simp only [nrm, Nat.reduceAdd, Nat.reduceMul, Nat.reduceSub, Int.reduceToNat, Int.reduceAdd]
  refine opsR_q rfl (q_assign) ?_
  simp only [nrm, Nat.reduceAdd, Nat.reduceMul, Nat.reduceSub, Int.reduceToNat, Int.reduceAdd]
  refine opsR_nil ?_
  refine hk3 _ _ ?_
  clear hk3
  refine run_ret ?_
  exact end_tmp rfl rfl rfl (by first | exact .refl | exact .drop | exact .drop2 | exact .drop3 | exact .drop4 | exact Gh.drop.trans .drop4 | exact Gh.drop2.trans .drop4 | exact Gh.drop3.trans .drop4) hK
theorem even1_spec {p : Pod} {x : Info} {cp xc : List Value} {s : St} {bl i : Nat} {e : TypeId} [hA : AtB bl s.cs i (.cells cp.toArray e (0, 0))] (hp : kPod.rep s.I p cp) (hx : kInfo.rep s.I x xc) :
    CallV Tryz.prog 22 #[.agg xc.toArray, .pointer (some ⟨bl, 0, none⟩)] s (.int .i64 (evenOf x.Node.Give x.Used p.Want)) := by
  intro K hK
  have hp' := hp
  have hx' := hx
  obtain ⟨p1, p2, p3, p4, p5, p6, p7, p8, p9, rfl, g1, g2, g3, g4, g5, g6, g7, g8, g9⟩ := kPod.open hp
  obtain ⟨v1, v2, v3, v4, v5, rfl, h1, h2, h3, h4, h5⟩ := kInfo.open hx
  refine callS_of_run Tryz.func22 rfl ?_; simp only [Tryz.ntmps22, List.size_toArray, List.length_cons, List.length_nil, Nat.reduceAdd, Nat.reduceSub, Array.replicate_succ, Array.replicate_zero, List.push_toArray, List.append_toArray, List.nil_append, List.cons_append]
  refine run_seq fun _ hk1 => ?_
  refine run_region ?_
  refine opsR_o rfl (o_box fun b2 hb2 => ?_)
  simp only [nrm, Nat.reduceAdd, Nat.reduceMul, Nat.reduceSub, Int.reduceToNat, Int.reduceAdd]
  refine opsR_q rfl (q_assign) ?_
  simp only [nrm, Nat.reduceAdd, Nat.reduceMul, Nat.reduceSub, Int.reduceToNat, Int.reduceAdd]
  refine opsR_nil ?_
  refine hk1 _ _ ?_
  clear hk1
  refine run_seq fun _ hk3 => ?_
  refine run_region ?_
  refine opsR_q rfl (by first | exact q_loadBN rfl inferInstance (by rfl) | exact q_loadBW rfl inferInstance (by assumption)) ?_
  simp only [nrm, Nat.reduceAdd, Nat.reduceMul, Nat.reduceSub, Int.reduceToNat, Int.reduceAdd]
  refine opsR_q rfl (by first | exact q_loadBN rfl inferInstance (by rfl) | exact q_loadBW rfl inferInstance (by assumption)) ?_
  simp only [nrm, Nat.reduceAdd, Nat.reduceMul, Nat.reduceSub, Int.reduceToNat, Int.reduceAdd]
  refine opsR_q rfl (q_call rfl (Even_spec _ _ _ _ _ (by first | assumption | (refine Kd.mono _ ?_ (by assumption); first | exact .rfl | assumption | exact le2 (by assumption) (by assumption) | exact le3 (by assumption) (by assumption) (by assumption) | exact le4 (by assumption) (by assumption) (by assumption) (by assumption) | exact le5 (by assumption) (by assumption) (by assumption) (by assumption) (by assumption) | exact le6 (by assumption) (by assumption) (by assumption) (by assumption) (by assumption) (by assumption))) (by first | assumption | (refine Kd.mono _ ?_ (by assumption); first | exact .rfl | assumption | exact le2 (by assumption) (by assumption) | exact le3 (by assumption) (by assumption) (by assumption) | exact le4 (by assumption) (by assumption) (by assumption) (by assumption) | exact le5 (by assumption) (by assumption) (by assumption) (by assumption) (by assumption) | exact le6 (by assumption) (by assumption) (by assumption) (by assumption) (by assumption) (by assumption))))) ?_
  simp only [nrm, Nat.reduceAdd, Nat.reduceMul, Nat.reduceSub, Int.reduceToNat, Int.reduceAdd]
  refine opsR_q rfl (q_assign) ?_
  simp only [nrm, Nat.reduceAdd, Nat.reduceMul, Nat.reduceSub, Int.reduceToNat, Int.reduceAdd]
  refine opsR_nil ?_
  refine hk3 _ _ ?_
  clear hk3
  refine run_ret ?_
  exact end_tmp rfl rfl rfl (by first | exact .refl | exact .drop | exact .drop2 | exact .drop3 | exact .drop4 | exact Gh.drop.trans .drop4 | exact Gh.drop2.trans .drop4 | exact Gh.drop3.trans .drop4) hK
theorem meas0_spec {p : Pod} {l : List Info} {cp : List Value} {v : Value} {s : St} (hT : Tabs s.I) (hp : kPod.rep s.I p cp) (hl : Sl kInfo s.I v l) (hb : l.length ≤ 1073741824) (hn : ∀ x ∈ l, InfOk x) (hq : PodOk p) :
    CallR Tryz.prog 18 #[.agg cp.toArray, v] s (fun J w => Sl (kInt .i64) J w (measOf p l 0)) := by
  intro K hK
  have hp' := hp
  obtain ⟨p1, p2, p3, p4, p5, p6, p7, p8, p9, rfl, g1, g2, g3, g4, g5, g6, g7, g8, g9⟩ := kPod.open hp
  refine callS_of_run Tryz.func18 rfl ?_; simp only [Tryz.ntmps18, List.size_toArray, List.length_cons, List.length_nil, Nat.reduceAdd, Nat.reduceSub, Array.replicate_succ, Array.replicate_zero, List.push_toArray, List.append_toArray, List.nil_append, List.cons_append]
  refine run_seq fun _ hk1 => ?_
  refine run_region ?_
  refine opsR_o rfl (o_box fun b2 hb2 => ?_)
  simp only [nrm, Nat.reduceAdd, Nat.reduceMul, Nat.reduceSub, Int.reduceToNat, Int.reduceAdd]
  refine opsR_q rfl (q_assign) ?_
  simp only [nrm, Nat.reduceAdd, Nat.reduceMul, Nat.reduceSub, Int.reduceToNat, Int.reduceAdd]
  refine opsR_nil ?_
  refine hk1 _ _ ?_
  clear hk1
  refine run_seq fun _ hk3 => ?_
  refine run_region ?_
  refine opsR_q rfl (q_move) ?_
  simp only [nrm, Nat.reduceAdd, Nat.reduceMul, Nat.reduceSub, Int.reduceToNat, Int.reduceAdd]
  refine opsR_q rfl (q_makeFunc) ?_
  simp only [nrm, Nat.reduceAdd, Nat.reduceMul, Nat.reduceSub, Int.reduceToNat, Int.reduceAdd]
  refine opsR_o rfl (o_call rfl (over_spec (f := fun x => leastOf x.Node.Give x.Used p.Want) (by first | assumption | (refine Sl.mono ?_ (by assumption); first | exact .rfl | assumption | exact le2 (by assumption) (by assumption) | exact le3 (by assumption) (by assumption) (by assumption) | exact le4 (by assumption) (by assumption) (by assumption) (by assumption) | exact le5 (by assumption) (by assumption) (by assumption) (by assumption) (by assumption) | exact le6 (by assumption) (by assumption) (by assumption) (by assumption) (by assumption) (by assumption))) (by omega) (fun cs' x xc hx hr => by exact least1_spec (p := p) hp' hr) _ fun v5 J5 hJ5 hv5 => ?_))
  try dsimp only at hJ5 hv5
  try (have hr5 : Hp.le s.I J5 := (by first | exact .rfl | assumption | exact le2 (by assumption) (by assumption) | exact le3 (by assumption) (by assumption) (by assumption) | exact le4 (by assumption) (by assumption) (by assumption) (by assumption) | exact le5 (by assumption) (by assumption) (by assumption) (by assumption) (by assumption) | exact le6 (by assumption) (by assumption) (by assumption) (by assumption) (by assumption) (by assumption)); have hJ5 := hJ5)
  simp only [nrm, Nat.reduceAdd, Nat.reduceMul, Nat.reduceSub, Int.reduceToNat, Int.reduceAdd]
  refine opsR_q rfl (q_assign) ?_
  simp only [nrm, Nat.reduceAdd, Nat.reduceMul, Nat.reduceSub, Int.reduceToNat, Int.reduceAdd]
  refine opsR_nil ?_
  refine hk3 _ _ ?_
  clear hk3
  refine run_ret ?_
  exact end_tmp rfl rfl rfl (by first | exact .refl | exact .drop | exact .drop2 | exact .drop3 | exact .drop4 | exact Gh.drop.trans .drop4 | exact Gh.drop2.trans .drop4 | exact Gh.drop3.trans .drop4) (hK _ _ (by first | exact .rfl | assumption | exact le2 (by assumption) (by assumption) | exact le3 (by assumption) (by assumption) (by assumption) | exact le4 (by assumption) (by assumption) (by assumption) (by assumption) | exact le5 (by assumption) (by assumption) (by assumption) (by assumption) (by assumption) | exact le6 (by assumption) (by assumption) (by assumption) (by assumption) (by assumption) (by assumption)) (Sl.cast (by assumption) (by unfold measOf; rfl)))
theorem meas1_spec {p : Pod} {l : List Info} {cp : List Value} {v : Value} {s : St} (hT : Tabs s.I) (hp : kPod.rep s.I p cp) (hl : Sl kInfo s.I v l) (hb : l.length ≤ 1073741824) (hn : ∀ x ∈ l, InfOk x) (hq : PodOk p) :
    CallR Tryz.prog 21 #[.agg cp.toArray, v] s (fun J w => Sl (kInt .i64) J w (measOf p l 1)) := by
  intro K hK
  have hp' := hp
  obtain ⟨p1, p2, p3, p4, p5, p6, p7, p8, p9, rfl, g1, g2, g3, g4, g5, g6, g7, g8, g9⟩ := kPod.open hp
  refine callS_of_run Tryz.func21 rfl ?_; simp only [Tryz.ntmps21, List.size_toArray, List.length_cons, List.length_nil, Nat.reduceAdd, Nat.reduceSub, Array.replicate_succ, Array.replicate_zero, List.push_toArray, List.append_toArray, List.nil_append, List.cons_append]
  refine run_seq fun _ hk1 => ?_
  refine run_region ?_
  refine opsR_o rfl (o_box fun b2 hb2 => ?_)
  simp only [nrm, Nat.reduceAdd, Nat.reduceMul, Nat.reduceSub, Int.reduceToNat, Int.reduceAdd]
  refine opsR_q rfl (q_assign) ?_
  simp only [nrm, Nat.reduceAdd, Nat.reduceMul, Nat.reduceSub, Int.reduceToNat, Int.reduceAdd]
  refine opsR_nil ?_
  refine hk1 _ _ ?_
  clear hk1
  refine run_seq fun _ hk3 => ?_
  refine run_region ?_
  refine opsR_q rfl (q_move) ?_
  simp only [nrm, Nat.reduceAdd, Nat.reduceMul, Nat.reduceSub, Int.reduceToNat, Int.reduceAdd]
  refine opsR_q rfl (q_makeFunc) ?_
  simp only [nrm, Nat.reduceAdd, Nat.reduceMul, Nat.reduceSub, Int.reduceToNat, Int.reduceAdd]
  refine opsR_o rfl (o_call rfl (over_spec (f := fun x => evenOf x.Node.Give x.Used p.Want) (by first | assumption | (refine Sl.mono ?_ (by assumption); first | exact .rfl | assumption | exact le2 (by assumption) (by assumption) | exact le3 (by assumption) (by assumption) (by assumption) | exact le4 (by assumption) (by assumption) (by assumption) (by assumption) | exact le5 (by assumption) (by assumption) (by assumption) (by assumption) (by assumption) | exact le6 (by assumption) (by assumption) (by assumption) (by assumption) (by assumption) (by assumption))) (by omega) (fun cs' x xc hx hr => by exact even1_spec (p := p) hp' hr) _ fun v5 J5 hJ5 hv5 => ?_))
  try dsimp only at hJ5 hv5
  try (have hr5 : Hp.le s.I J5 := (by first | exact .rfl | assumption | exact le2 (by assumption) (by assumption) | exact le3 (by assumption) (by assumption) (by assumption) | exact le4 (by assumption) (by assumption) (by assumption) (by assumption) | exact le5 (by assumption) (by assumption) (by assumption) (by assumption) (by assumption) | exact le6 (by assumption) (by assumption) (by assumption) (by assumption) (by assumption) (by assumption)); have hJ5 := hJ5)
  simp only [nrm, Nat.reduceAdd, Nat.reduceMul, Nat.reduceSub, Int.reduceToNat, Int.reduceAdd]
  refine opsR_q rfl (q_assign) ?_
  simp only [nrm, Nat.reduceAdd, Nat.reduceMul, Nat.reduceSub, Int.reduceToNat, Int.reduceAdd]
  refine opsR_nil ?_
  refine hk3 _ _ ?_
  clear hk3
  refine run_ret ?_
  exact end_tmp rfl rfl rfl (by first | exact .refl | exact .drop | exact .drop2 | exact .drop3 | exact .drop4 | exact Gh.drop.trans .drop4 | exact Gh.drop2.trans .drop4 | exact Gh.drop3.trans .drop4) (hK _ _ (by first | exact .rfl | assumption | exact le2 (by assumption) (by assumption) | exact le3 (by assumption) (by assumption) (by assumption) | exact le4 (by assumption) (by assumption) (by assumption) (by assumption) | exact le5 (by assumption) (by assumption) (by assumption) (by assumption) (by assumption) | exact le6 (by assumption) (by assumption) (by assumption) (by assumption) (by assumption) (by assumption)) (Sl.cast (by assumption) (by unfold measOf; rfl)))
theorem meas2_spec {p : Pod} {l : List Info} {cp : List Value} {v : Value} {s : St} (hT : Tabs s.I) (hp : kPod.rep s.I p cp) (hl : Sl kInfo s.I v l) (hb : l.length ≤ 1073741824) (hn : ∀ x ∈ l, InfOk x) (hq : PodOk p) :
    CallR Tryz.prog 23 #[.agg cp.toArray, v] s (fun J w => Sl (kInt .i64) J w (measOf p l 2)) := by unfold measOf; exact Calm_spec hp hl hb hn
theorem meas3_spec {p : Pod} {l : List Info} {cp : List Value} {v : Value} {s : St} (hT : Tabs s.I) (hp : kPod.rep s.I p cp) (hl : Sl kInfo s.I v l) (hb : l.length ≤ 1073741824) (hn : ∀ x ∈ l, InfOk x) (hq : PodOk p) :
    CallR Tryz.prog 24 #[.agg cp.toArray, v] s (fun J w => Sl (kInt .i64) J w (measOf p l 3)) := by unfold measOf; exact Liked_spec hT hp hl hb hn hq
theorem measures_spec {s : St} : CallV Tryz.prog 8 #[] s (.agg #[.func (.func 18) #[] #[], .func (.func 21) #[] #[], .func (.func 23) #[] #[], .func (.func 24) #[] #[]]) := by
  intro K hK
  refine callS_of_run Tryz.func8 rfl ?_; simp only [Tryz.ntmps8, List.size_toArray, List.length_cons, List.length_nil, Nat.reduceAdd, Nat.reduceSub, Array.replicate_succ, Array.replicate_zero, List.push_toArray, List.append_toArray, List.nil_append, List.cons_append]
  refine run_seq fun _ hk1 => ?_
  refine run_region ?_
  refine opsR_o rfl (o_alloc fun b2 hb2 => ?_)
  simp only [nrm, Nat.reduceAdd, Nat.reduceMul, Nat.reduceSub, Int.reduceToNat, Int.reduceAdd]
  refine opsR_nil ?_
  refine hk1 _ _ ?_
  clear hk1
  refine run_seq fun _ hk3 => ?_
  refine run_region ?_
  refine opsR_q rfl (q_assign) ?_
  simp only [nrm, Nat.reduceAdd, Nat.reduceMul, Nat.reduceSub, Int.reduceToNat, Int.reduceAdd]
  refine opsR_nil ?_
  refine hk3 _ _ ?_
  clear hk3
  refine run_seq fun _ hk4 => ?_
  refine run_region ?_
  refine opsR_q rfl (q_assign) ?_
  simp only [nrm, Nat.reduceAdd, Nat.reduceMul, Nat.reduceSub, Int.reduceToNat, Int.reduceAdd]
  refine opsR_nil ?_
  refine hk4 _ _ ?_
  clear hk4
  refine run_seq fun _ hk5 => ?_
  refine run_region ?_
  refine opsR_q rfl (q_move) ?_
  simp only [nrm, Nat.reduceAdd, Nat.reduceMul, Nat.reduceSub, Int.reduceToNat, Int.reduceAdd]
  refine opsR_q rfl (q_build rfl) ?_
  simp only [nrm, Nat.reduceAdd, Nat.reduceMul, Nat.reduceSub, Int.reduceToNat, Int.reduceAdd]
  refine opsR_q rfl (q_move) ?_
  simp only [nrm, Nat.reduceAdd, Nat.reduceMul, Nat.reduceSub, Int.reduceToNat, Int.reduceAdd]
  refine opsR_q rfl (q_build rfl) ?_
  simp only [nrm, Nat.reduceAdd, Nat.reduceMul, Nat.reduceSub, Int.reduceToNat, Int.reduceAdd]
  refine opsR_q rfl (q_build rfl) ?_
  simp only [nrm, Nat.reduceAdd, Nat.reduceMul, Nat.reduceSub, Int.reduceToNat, Int.reduceAdd]
  refine opsR_q rfl (q_build rfl) ?_
  simp only [nrm, Nat.reduceAdd, Nat.reduceMul, Nat.reduceSub, Int.reduceToNat, Int.reduceAdd]
  refine opsR_q rfl (q_build_arr rfl) ?_
  simp only [nrm, Nat.reduceAdd, Nat.reduceMul, Nat.reduceSub, Int.reduceToNat, Int.reduceAdd]
  refine opsR_o rfl (o_storeB rfl rfl inferInstance (by first | rfl | assumption) (by first | rfl | exact Kd.one _ (by assumption) | assumption) (by first | rfl | (refine Nat.ble_eq_true_of_le ?_; (try simp only [Int.toNat_natCast]); omega)) ?_)
  simp only [nrm, Nat.reduceAdd, Nat.reduceMul, Nat.reduceSub, Int.reduceToNat, Int.reduceAdd]
  refine opsR_nil ?_
  refine hk5 _ _ ?_
  clear hk5
  refine run_ret ?_
  exact end_cell rfl rfl rfl (AtB.has inferInstance) (by first | rfl | assumption) (by first | exact .refl | exact .drop | exact .drop2 | exact .drop3 | exact .drop4 | exact Gh.drop.trans .drop4 | exact Gh.drop2.trans .drop4 | exact Gh.drop3.trans .drop4) hK
set_option maxHeartbeats 2000000 in
theorem Total_spec {p : Pod} {l : List Info} {w0 w1 w2 w3 : Int} {cp : List Value} {v : Value} {s : St} (hT : Tabs s.I) (hp : kPod.rep s.I p cp) (hl : Sl kInfo s.I v l) (hb : l.length ≤ 1073741824) (hn : ∀ x ∈ l, InfOk x) (hq : PodOk p) :
    CallR Tryz.prog 5 #[.agg cp.toArray, v, .agg #[.int .i64 w0, .int .i64 w1, .int .i64 w2, .int .i64 w3]] s (fun J u => Sl (kInt .i64) J u (totOf p l [w0, w1, w2, w3])) := by
  intro K hK
  have hle := hl.len.le
  have hp' := hp
  obtain ⟨p1, p2, p3, p4, p5, p6, p7, p8, p9, rfl, g1, g2, g3, g4, g5, g6, g7, g8, g9⟩ := kPod.open hp
  refine callS_of_run Tryz.func5 rfl ?_; simp only [Tryz.ntmps5, List.size_toArray, List.length_cons, List.length_nil, Nat.reduceAdd, Nat.reduceSub, Array.replicate_succ, Array.replicate_zero, List.push_toArray, List.append_toArray, List.nil_append, List.cons_append]
  refine run_seq fun _ hk1 => ?_
  refine run_region ?_
  refine opsR_o rfl (o_box fun bP hbP => ?_)
  simp only [nrm, Nat.reduceAdd, Nat.reduceMul, Nat.reduceSub, Int.reduceToNat, Int.reduceAdd]
  refine opsR_o rfl (o_box fun bW hbW => ?_)
  simp only [nrm, Nat.reduceAdd, Nat.reduceMul, Nat.reduceSub, Int.reduceToNat, Int.reduceAdd]
  refine opsR_q rfl (q_assign) ?_
  simp only [nrm, Nat.reduceAdd, Nat.reduceMul, Nat.reduceSub, Int.reduceToNat, Int.reduceAdd]
  refine opsR_nil ?_
  refine hk1 _ _ ?_
  clear hk1
  refine run_seq fun _ hk4 => ?_
  refine run_region ?_
  refine opsR_q rfl (q_move) ?_
  simp only [nrm, Nat.reduceAdd, Nat.reduceMul, Nat.reduceSub, Int.reduceToNat, Int.reduceAdd]
  refine opsR_q rfl (q_len_v rfl (by first | exact Sl.len (by assumption) | exact OwnS.len (by assumption) | exact SlR.len (by assumption) | assumption)) ?_
  simp only [nrm, Nat.reduceAdd, Nat.reduceMul, Nat.reduceSub, Int.reduceToNat, Int.reduceAdd]
  refine opsR_makeInt (kInt .i64) rfl rfl rfl (by rfl) (by decide) (by decide) (by rfl) (by rfl) (by omega) (by omega) (by omega) fun vO hsO hvO => ?_
  simp only [nrm, Nat.reduceAdd, Nat.reduceMul, Nat.reduceSub, Int.reduceToNat, Int.reduceAdd]
  try simp only [Int.toNat_natCast, Int.reduceToNat, Int.toNat_zero] at hvO
  refine opsR_q rfl (q_assign) ?_
  simp only [nrm, Nat.reduceAdd, Nat.reduceMul, Nat.reduceSub, Int.reduceToNat, Int.reduceAdd]
  have hI := TotI.zero (p := p) (l := l) (w := [w0, w1, w2, w3])
  refine opsR_nil ?_
  refine hk4 _ _ ?_
  clear hk4
  refine run_seq fun _ hk8 => ?_
  refine run_seq fun _ hk9 => ?_
  refine run_region ?_
  refine opsR_q rfl (q_call rfl (measures_spec)) ?_
  simp only [nrm, Nat.reduceAdd, Nat.reduceMul, Nat.reduceSub, Int.reduceToNat, Int.reduceAdd]
  refine opsR_q rfl (q_move) ?_
  simp only [nrm, Nat.reduceAdd, Nat.reduceMul, Nat.reduceSub, Int.reduceToNat, Int.reduceAdd]
  refine opsR_nil ?_
  refine hk9 _ _ ?_
  clear hk9
  refine run_block ?_
  refine run_rounds 5 ?_
  refine run_round fun _ hk10 => ?_
  refine run_seq fun _ hk11 => ?_
  refine run_region ?_
  refine opsR_q rfl (q_lss rfl rfl) ?_
  simp only [nrm, Nat.reduceAdd, Nat.reduceMul, Nat.reduceSub, Int.reduceToNat, Int.reduceAdd]
  refine opsR_nil ?_
  refine hk11 _ _ ?_
  clear hk11
  refine run_seq fun _ hk12 => ?_
  refine run_cond (t := true) rfl (fun _ => ?_) (fun h => by cases h)
  refine run_skip ?_
  refine hk12 _ _ ?_
  clear hk12
  refine run_seq fun _ hk13 => ?_
  refine run_block ?_
  refine run_seq fun _ hk14 => ?_
  refine run_region ?_
  refine opsR_q rfl (q_move) ?_
  simp only [nrm, Nat.reduceAdd, Nat.reduceMul, Nat.reduceSub, Int.reduceToNat, Int.reduceAdd]
  refine opsR_q rfl (q_index_arrayN rfl rfl (by omega) (by omega)) ?_
  simp only [nrm, Nat.reduceAdd, Nat.reduceMul, Nat.reduceSub, Int.reduceToNat, Int.reduceAdd]
  refine opsR_o rfl (o_alloc fun b15 hb15 => ?_)
  simp only [nrm, Nat.reduceAdd, Nat.reduceMul, Nat.reduceSub, Int.reduceToNat, Int.reduceAdd]
  refine opsR_q rfl (q_assign) ?_
  simp only [nrm, Nat.reduceAdd, Nat.reduceMul, Nat.reduceSub, Int.reduceToNat, Int.reduceAdd]
  refine opsR_o rfl (o_storeB rfl rfl inferInstance (by first | rfl | assumption) (by first | rfl | exact Kd.one _ (by assumption) | assumption) (by first | rfl | (refine Nat.ble_eq_true_of_le ?_; (try simp only [Int.toNat_natCast]); omega)) ?_)
  simp only [nrm, Nat.reduceAdd, Nat.reduceMul, Nat.reduceSub, Int.reduceToNat, Int.reduceAdd]
  refine opsR_nil ?_
  refine hk14 _ _ ?_
  clear hk14
  refine run_seq fun _ hk16 => ?_
  refine run_region ?_
  refine opsR_q rfl (q_fieldAddr rfl) ?_
  simp only [nrm, Nat.reduceAdd, Nat.reduceMul, Nat.reduceSub, Int.reduceToNat, Int.reduceAdd]
  refine opsR_q rfl (q_loadB1 rfl inferInstance rfl) ?_
  simp only [nrm, Nat.reduceAdd, Nat.reduceMul, Nat.reduceSub, Int.reduceToNat, Int.reduceAdd]
  refine opsR_q rfl (by first | exact q_loadBN rfl inferInstance (by rfl) | exact q_loadBW rfl inferInstance (by assumption)) ?_
  simp only [nrm, Nat.reduceAdd, Nat.reduceMul, Nat.reduceSub, Int.reduceToNat, Int.reduceAdd]
  refine opsR_q rfl (q_move) ?_
  simp only [nrm, Nat.reduceAdd, Nat.reduceMul, Nat.reduceSub, Int.reduceToNat, Int.reduceAdd]
  refine opsR_o rfl (o_call rfl (meas0_spec (hT.mono (by first | exact .rfl | assumption | exact le2 (by assumption) (by assumption) | exact le3 (by assumption) (by assumption) (by assumption) | exact le4 (by assumption) (by assumption) (by assumption) (by assumption) | exact le5 (by assumption) (by assumption) (by assumption) (by assumption) (by assumption) | exact le6 (by assumption) (by assumption) (by assumption) (by assumption) (by assumption) (by assumption))) (by first | assumption | (refine Kd.mono _ ?_ (by assumption); first | exact .rfl | assumption | exact le2 (by assumption) (by assumption) | exact le3 (by assumption) (by assumption) (by assumption) | exact le4 (by assumption) (by assumption) (by assumption) (by assumption) | exact le5 (by assumption) (by assumption) (by assumption) (by assumption) (by assumption) | exact le6 (by assumption) (by assumption) (by assumption) (by assumption) (by assumption) (by assumption))) (by first | assumption | (refine Sl.mono ?_ (by assumption); first | exact .rfl | assumption | exact le2 (by assumption) (by assumption) | exact le3 (by assumption) (by assumption) (by assumption) | exact le4 (by assumption) (by assumption) (by assumption) (by assumption) | exact le5 (by assumption) (by assumption) (by assumption) (by assumption) (by assumption) | exact le6 (by assumption) (by assumption) (by assumption) (by assumption) (by assumption) (by assumption))) (by omega) hn hq _ fun vM0 JM0 hJM0 hvM0 => ?_))
  try dsimp only at hJM0 hvM0
  try (have hrM0 : Hp.le s.I JM0 := (by first | exact .rfl | assumption | exact le2 (by assumption) (by assumption) | exact le3 (by assumption) (by assumption) (by assumption) | exact le4 (by assumption) (by assumption) (by assumption) (by assumption) | exact le5 (by assumption) (by assumption) (by assumption) (by assumption) (by assumption) | exact le6 (by assumption) (by assumption) (by assumption) (by assumption) (by assumption) (by assumption)); have hJM0 := hJM0)
  simp only [nrm, Nat.reduceAdd, Nat.reduceMul, Nat.reduceSub, Int.reduceToNat, Int.reduceAdd]
  refine opsR_q rfl (q_len_v rfl (by first | exact Sl.len (by assumption) | exact OwnS.len (by assumption) | exact SlR.len (by assumption) | assumption)) ?_
  simp only [nrm, Nat.reduceAdd, Nat.reduceMul, Nat.reduceSub, Int.reduceToNat, Int.reduceAdd]
  refine opsR_q rfl (q_move) ?_
  simp only [nrm, Nat.reduceAdd, Nat.reduceMul, Nat.reduceSub, Int.reduceToNat, Int.reduceAdd]
  refine opsR_gh Gh.drop ?_
  refine opsR_nil ?_
  refine hk16 _ _ ?_
  clear hk16
  refine run_block ?_
  refine run_loopF [0, 0, 0, 0, 0, 0, 0, 0, 0, 0, 1, 1, 0, 0, 0, 0, 0, 0, 0, 0, 0, 0, 0, 0, 0, 0, 2, 1, 1, 1, 1, 1, 1, 1, 1, 1, 1, 1, 1, 1, 1, 1, 1, 1, 0, 0] (fun zn zL zst => ∃ (i : Nat) (hs : (List (Nat × Obj))) (xs : (List Int)), zL = [.int .i64 (i : Nat)] ∧ ⟨JM0, hs ++ (bW, .cells #[.int .i64 w0, .int .i64 w1, .int .i64 w2, .int .i64 w3] 35 (0, 0)) :: (bP, .cells #[.string p.Name, .int .i64 p.Priority, p1, .int .i64 p.Want.CPU, .int .i64 p.Want.Mem, .int .i64 p.Want.Disk, p2, p3, p4, p5, p6, p7, p8, p9, .string p.Node, .string p.Hope] 33 (0, 0)) :: s.cs⟩ = zst ∧ zn = l.length - i ∧ (i ≤ l.length) ∧ (OwnS (kInt .i64) 3 JM0 vO hs xs) ∧ (TotI p l [w0, w1, w2, w3] 0 i xs)) _ _ ⟨0, _, _, rfl, rfl, rfl, by first | assumption | omega | exact Hp.le.rfl | rfl | exact all_zero | exact all_succ (by assumption) (by assumption) | (intro _; omega) | (simp; done), by first | assumption | omega | exact Hp.le.rfl | rfl | exact all_zero | exact all_succ (by assumption) (by assumption) | (intro _; omega) | (simp; done), by first | assumption | omega | exact Hp.le.rfl | rfl | exact all_zero | exact all_succ (by assumption) (by assumption) | (intro _; omega) | (simp; done)⟩ rfl ?_
  rintro _ _ _ jv21 ⟨i, hs, xs, rfl, rfl, rfl, hi, hO, hI⟩ K21 hkl21
  simp only [fr, Nat.zero_add, Nat.reduceAdd]
  have hlen := hI.1
  have hml := measOf_len p l 0
  have hat := fun h => hI.at (i := i) h
  have hmt := fun h => meas_at p (l := l) 0 (j := i) h
  have hpt := fun h => part_bd (w := w0) (meas_at p (l := l) 0 (j := i) h)
  simp only [wt] at hpt
  refine run_seq fun _ hk22 => ?_
  refine run_region ?_
  refine opsR_q rfl (q_lss rfl rfl) ?_
  simp only [nrm, Nat.reduceAdd, Nat.reduceMul, Nat.reduceSub, Int.reduceToNat, Int.reduceAdd]
  refine opsR_nil ?_
  refine hk22 _ _ ?_
  clear hk22
  refine run_seq fun _ hk25 => ?_
  refine run_cond rfl (fun ho26 => ?_) (fun ho26 => ?_)
  · have hc26 := ho26; try simp only [spl] at hc26
    refine run_skip ?_
    refine hk25 _ _ ?_
    clear hk25
    refine run_seq fun _ hk27 => ?_
    refine run_block ?_
    refine run_seq fun _ hk28 => ?_
    have hat := hat (by omega)
    have hmt := hmt (by omega)
    have hpt := hpt (by omega)
    refine run_region ?_
    refine opsR_q rfl (q_move) ?_
    simp only [nrm, Nat.reduceAdd, Nat.reduceMul, Nat.reduceSub, Int.reduceToNat, Int.reduceAdd]
    refine opsR_index rfl rfl rfl (by first | exact Sl.r (by assumption) (by first | exact .rfl | assumption | exact le2 (by assumption) (by assumption) | exact le3 (by assumption) (by assumption) (by assumption) | exact le4 (by assumption) (by assumption) (by assumption) (by assumption) | exact le5 (by assumption) (by assumption) (by assumption) (by assumption) (by assumption) | exact le6 (by assumption) (by assumption) (by assumption) (by assumption) (by assumption) (by assumption)) | (refine OwnS.r (OwnS.mono ?_ (by assumption)) (by intro p hp; simp only [List.mem_append, List.mem_cons, hp, true_or, or_true]); first | exact .rfl | assumption | exact le2 (by assumption) (by assumption) | exact le3 (by assumption) (by assumption) (by assumption) | exact le4 (by assumption) (by assumption) (by assumption) (by assumption) | exact le5 (by assumption) (by assumption) (by assumption) (by assumption) (by assumption) | exact le6 (by assumption) (by assumption) (by assumption) (by assumption) (by assumption) (by assumption)) | assumption) (by rfl) (by first | omega | ((try simp only [List.length_append, List.length_cons, List.length_nil, List.length_set, List.length_replicate, List.length_take, List.length_drop, List.length_map] at *); omega)) (by first | omega | ((try simp only [List.length_append, List.length_cons, List.length_nil, List.length_set, List.length_replicate, List.length_take, List.length_drop, List.length_map] at *); omega)) fun b29 o29 cs29 ha29 hr29 he29 => ?_
    simp only [nrm, Nat.reduceAdd, Nat.reduceMul, Nat.reduceSub, Int.reduceToNat, Int.reduceAdd]
    try simp only [Int.toNat_natCast, Int.reduceToNat, Int.toNat_zero] at hr29
    try simp only [Int.toNat_natCast, Int.reduceToNat, Int.toNat_zero] at he29
    clear ha29
    obtain rfl := hr29
    refine opsR_q rfl (by first | exact q_load_at1 (i := 0) rfl (by assumption) rfl (Nat.le_of_ble_eq_true rfl) rfl | exact q_load_at1 rfl (by assumption) rfl (Nat.le_of_ble_eq_true rfl) rfl) ?_
    simp only [nrm, Nat.reduceAdd, Nat.reduceMul, Nat.reduceSub, Int.reduceToNat, Int.reduceAdd]
    refine opsR_q rfl (q_assign) ?_
    simp only [nrm, Nat.reduceAdd, Nat.reduceMul, Nat.reduceSub, Int.reduceToNat, Int.reduceAdd]
    refine opsR_q rfl (q_assign) ?_
    simp only [nrm, Nat.reduceAdd, Nat.reduceMul, Nat.reduceSub, Int.reduceToNat, Int.reduceAdd]
    refine opsR_nil ?_
    refine hk28 _ _ ?_
    clear hk28
    refine run_drawE mixed 12 (by kernel_rfl) rfl ?_
    simp only [List.take_succ_cons, List.take_zero, List.drop_succ_cons, List.drop_zero, List.drop_nil, List.take_nil]
    refine oblE_q rfl (fun I hI => (q_move)) ?_
    simp only [nrm, Nat.reduceAdd, Nat.reduceMul, Nat.reduceSub, Int.reduceToNat, Int.reduceAdd]
    refine oblE_q rfl (fun I hI => (q_move)) ?_
    simp only [nrm, Nat.reduceAdd, Nat.reduceMul, Nat.reduceSub, Int.reduceToNat, Int.reduceAdd]
    refine oblE_index rfl rfl rfl (by first | exact Sl.r (by assumption) (by first | exact .rfl | assumption | exact le2 (by assumption) (by assumption) | exact le3 (by assumption) (by assumption) (by assumption) | exact le4 (by assumption) (by assumption) (by assumption) (by assumption) | exact le5 (by assumption) (by assumption) (by assumption) (by assumption) (by assumption) | exact le6 (by assumption) (by assumption) (by assumption) (by assumption) (by assumption) (by assumption)) | (refine OwnS.r (OwnS.mono ?_ (by assumption)) (by intro p hp; simp only [List.mem_append, List.mem_cons, hp, true_or, or_true]); first | exact .rfl | assumption | exact le2 (by assumption) (by assumption) | exact le3 (by assumption) (by assumption) (by assumption) | exact le4 (by assumption) (by assumption) (by assumption) (by assumption) | exact le5 (by assumption) (by assumption) (by assumption) (by assumption) (by assumption) | exact le6 (by assumption) (by assumption) (by assumption) (by assumption) (by assumption) (by assumption)) | assumption) (by rfl) (by first | omega | ((try simp only [List.length_append, List.length_cons, List.length_nil, List.length_set, List.length_replicate, List.length_take, List.length_drop, List.length_map] at *); omega)) (by first | omega | ((try simp only [List.length_append, List.length_cons, List.length_nil, List.length_set, List.length_replicate, List.length_take, List.length_drop, List.length_map] at *); omega)) fun b32 o32 cs32 ha32 hr32 he32 => ?_
    simp only [nrm, Nat.reduceAdd, Nat.reduceMul, Nat.reduceSub, Int.reduceToNat, Int.reduceAdd]
    try simp only [Int.toNat_natCast, Int.reduceToNat, Int.toNat_zero] at hr32
    try simp only [Int.toNat_natCast, Int.reduceToNat, Int.toNat_zero] at he32
    clear ha32
    obtain rfl := hr32
    refine oblE_q rfl (fun I hI => (by first | exact q_load_at1 (i := 0) rfl (El.mono (by assumption) hI) rfl (Nat.le_of_ble_eq_true rfl) rfl | exact q_load_at1 rfl (El.mono (by assumption) hI) rfl (Nat.le_of_ble_eq_true rfl) rfl)) ?_
    simp only [nrm, Nat.reduceAdd, Nat.reduceMul, Nat.reduceSub, Int.reduceToNat, Int.reduceAdd]
    refine oblE_q rfl (fun I hI => (q_move)) ?_
    simp only [nrm, Nat.reduceAdd, Nat.reduceMul, Nat.reduceSub, Int.reduceToNat, Int.reduceAdd]
    refine oblE_q rfl (fun I hI => (q_move)) ?_
    simp only [nrm, Nat.reduceAdd, Nat.reduceMul, Nat.reduceSub, Int.reduceToNat, Int.reduceAdd]
    refine oblE_q rfl (fun I hI => (q_index_arr rfl rfl (by omega) (by omega))) ?_
    simp only [nrm, Nat.reduceAdd, Nat.reduceMul, Nat.reduceSub, Int.reduceToNat, Int.reduceAdd]
    refine oblE_q rfl (fun I hI => (q_loadB1 rfl inferInstance rfl)) ?_
    simp only [nrm, Nat.reduceAdd, Nat.reduceMul, Nat.reduceSub, Int.reduceToNat, Int.reduceAdd]
    refine oblE_q rfl (fun I hI => (q_call rfl (sclamp_spec _ _ _))) ?_
    simp only [nrm, Nat.reduceAdd, Nat.reduceMul, Nat.reduceSub, Int.reduceToNat, Int.reduceAdd]
    refine oblE_q rfl (fun I hI => (by first | exact q_mul64 rfl rfl (by omega) (by omega) | exact q_mul rfl rfl)) ?_
    simp only [nrm, Nat.reduceAdd, Nat.reduceMul, Nat.reduceSub, Int.reduceToNat, Int.reduceAdd]
    refine oblE_q rfl (fun I hI => (by first | exact q_add64 rfl rfl (by omega) (by omega) | exact q_add rfl rfl)) ?_
    simp only [nrm, Nat.reduceAdd, Nat.reduceMul, Nat.reduceSub, Int.reduceToNat, Int.reduceAdd]
    refine oblE_index rfl rfl rfl (by first | exact Sl.r (by assumption) (by first | exact .rfl | assumption | exact le2 (by assumption) (by assumption) | exact le3 (by assumption) (by assumption) (by assumption) | exact le4 (by assumption) (by assumption) (by assumption) (by assumption) | exact le5 (by assumption) (by assumption) (by assumption) (by assumption) (by assumption) | exact le6 (by assumption) (by assumption) (by assumption) (by assumption) (by assumption) (by assumption)) | (refine OwnS.r (OwnS.mono ?_ (by assumption)) (by intro p hp; simp only [List.mem_append, List.mem_cons, hp, true_or, or_true]); first | exact .rfl | assumption | exact le2 (by assumption) (by assumption) | exact le3 (by assumption) (by assumption) (by assumption) | exact le4 (by assumption) (by assumption) (by assumption) (by assumption) | exact le5 (by assumption) (by assumption) (by assumption) (by assumption) (by assumption) | exact le6 (by assumption) (by assumption) (by assumption) (by assumption) (by assumption) (by assumption)) | assumption) (by rfl) (by first | omega | ((try simp only [List.length_append, List.length_cons, List.length_nil, List.length_set, List.length_replicate, List.length_take, List.length_drop, List.length_map] at *); omega)) (by first | omega | ((try simp only [List.length_append, List.length_cons, List.length_nil, List.length_set, List.length_replicate, List.length_take, List.length_drop, List.length_map] at *); omega)) fun b35 o35 cs35 ha35 hr35 he35 => ?_
    simp only [nrm, Nat.reduceAdd, Nat.reduceMul, Nat.reduceSub, Int.reduceToNat, Int.reduceAdd]
    try simp only [Int.toNat_natCast, Int.reduceToNat, Int.toNat_zero] at hr35
    try simp only [Int.toNat_natCast, Int.reduceToNat, Int.toNat_zero] at he35
    try simp only [nrm, Nat.reduceAdd, Nat.reduceMul, Nat.reduceSub, Int.reduceToNat, Int.reduceAdd] at ha35
    obtain rfl := hr35
    refine oblE_nil (show OpsR _ _ _ _ _ _ from ?_)
    try simp only [nrm, Nat.reduceAdd, Nat.reduceMul, Nat.reduceSub, Int.reduceToNat, Int.reduceAdd]
    refine opsR_stO rfl rfl rfl (by assumption) (by first | assumption | (refine OwnS.mono ?_ (by assumption); first | exact .rfl | assumption | exact le2 (by assumption) (by assumption) | exact le3 (by assumption) (by assumption) (by assumption) | exact le4 (by assumption) (by assumption) (by assumption) (by assumption) | exact le5 (by assumption) (by assumption) (by assumption) (by assumption) (by assumption) | exact le6 (by assumption) (by assumption) (by assumption) (by assumption) (by assumption) (by assumption))) (by infer_instance) (by rfl) (by first | rfl | assumption | exact (kInt .i64).shut | (refine Kd.mono _ ?_ (by assumption); first | exact .rfl | assumption | exact le2 (by assumption) (by assumption) | exact le3 (by assumption) (by assumption) (by assumption) | exact le4 (by assumption) (by assumption) (by assumption) (by assumption) | exact le5 (by assumption) (by assumption) (by assumption) (by assumption) (by assumption) | exact le6 (by assumption) (by assumption) (by assumption) (by assumption) (by assumption) (by assumption)) | (apply (kInt .i64).shut <;> assumption)) fun hs36 hv36 => ?_
    simp only [nrm, Nat.reduceAdd, Nat.reduceMul, Nat.reduceSub, Int.reduceToNat, Int.reduceAdd]
    refine opsR_nil ?_
    refine hk27 _ _ ?_
    clear hk27
    refine run_region ?_
    refine opsR_q rfl (by first | exact q_add64 rfl rfl (by omega) (by omega) | exact q_add rfl rfl) ?_
    simp only [nrm, Nat.reduceAdd, Nat.reduceMul, Nat.reduceSub, Int.reduceToNat, Int.reduceAdd]
    refine opsR_q rfl (q_move) ?_
    simp only [nrm, Nat.reduceAdd, Nat.reduceMul, Nat.reduceSub, Int.reduceToNat, Int.reduceAdd]
    refine opsR_nil ?_
    first
    | exact hkl21 _ _ _ _ (by omega) ⟨i + 1, _, _, rfl, rfl, rfl, by first | omega | assumption | exact hI.set (by omega) rfl, by first | omega | assumption | exact hI.set (by omega) rfl, by first | omega | assumption | exact hI.set (by omega) rfl⟩ rfl
  · have hc26 := ho26; try simp only [spl] at hc26
    refine run_exit ?_
    refine hk13 _ _ ?_
    clear hk13
    have hI := hI.turn (by omega)
    refine run_region ?_
    refine opsR_q rfl (by first | exact q_add64 rfl rfl (by omega) (by omega) | exact q_add rfl rfl) ?_
    simp only [nrm, Nat.reduceAdd, Nat.reduceMul, Nat.reduceSub, Int.reduceToNat, Int.reduceAdd]
    refine opsR_q rfl (q_move) ?_
    simp only [nrm, Nat.reduceAdd, Nat.reduceMul, Nat.reduceSub, Int.reduceToNat, Int.reduceAdd]
    refine opsR_nil ?_
    refine hk10 _ _ ?_
    clear hk10
    refine run_round fun _ hk38 => ?_
    refine run_seq fun _ hk39 => ?_
    refine run_region ?_
    refine opsR_q rfl (q_lss rfl rfl) ?_
    simp only [nrm, Nat.reduceAdd, Nat.reduceMul, Nat.reduceSub, Int.reduceToNat, Int.reduceAdd]
    refine opsR_nil ?_
    refine hk39 _ _ ?_
    clear hk39
    refine run_seq fun _ hk40 => ?_
    refine run_cond (t := true) rfl (fun _ => ?_) (fun h => by cases h)
    refine run_skip ?_
    refine hk40 _ _ ?_
    clear hk40
    refine run_seq fun _ hk41 => ?_
    refine run_block ?_
    refine run_seq fun _ hk42 => ?_
    refine run_region ?_
    refine opsR_q rfl (q_move) ?_
    simp only [nrm, Nat.reduceAdd, Nat.reduceMul, Nat.reduceSub, Int.reduceToNat, Int.reduceAdd]
    refine opsR_q rfl (q_index_arrayN rfl rfl (by omega) (by omega)) ?_
    simp only [nrm, Nat.reduceAdd, Nat.reduceMul, Nat.reduceSub, Int.reduceToNat, Int.reduceAdd]
    refine opsR_o rfl (o_alloc fun b44 hb44 => ?_)
    simp only [nrm, Nat.reduceAdd, Nat.reduceMul, Nat.reduceSub, Int.reduceToNat, Int.reduceAdd]
    refine opsR_q rfl (q_assign) ?_
    simp only [nrm, Nat.reduceAdd, Nat.reduceMul, Nat.reduceSub, Int.reduceToNat, Int.reduceAdd]
    refine opsR_o rfl (o_storeB rfl rfl inferInstance (by first | rfl | assumption) (by first | rfl | exact Kd.one _ (by assumption) | assumption) (by first | rfl | (refine Nat.ble_eq_true_of_le ?_; (try simp only [Int.toNat_natCast]); omega)) ?_)
    simp only [nrm, Nat.reduceAdd, Nat.reduceMul, Nat.reduceSub, Int.reduceToNat, Int.reduceAdd]
    refine opsR_nil ?_
    refine hk42 _ _ ?_
    clear hk42
    refine run_seq fun _ hk45 => ?_
    refine run_region ?_
    refine opsR_q rfl (q_fieldAddr rfl) ?_
    simp only [nrm, Nat.reduceAdd, Nat.reduceMul, Nat.reduceSub, Int.reduceToNat, Int.reduceAdd]
    refine opsR_q rfl (q_loadB1 rfl inferInstance rfl) ?_
    simp only [nrm, Nat.reduceAdd, Nat.reduceMul, Nat.reduceSub, Int.reduceToNat, Int.reduceAdd]
    refine opsR_q rfl (by first | exact q_loadBN rfl inferInstance (by rfl) | exact q_loadBW rfl inferInstance (by assumption)) ?_
    simp only [nrm, Nat.reduceAdd, Nat.reduceMul, Nat.reduceSub, Int.reduceToNat, Int.reduceAdd]
    refine opsR_q rfl (q_move) ?_
    simp only [nrm, Nat.reduceAdd, Nat.reduceMul, Nat.reduceSub, Int.reduceToNat, Int.reduceAdd]
    refine opsR_o rfl (o_call rfl (meas1_spec (hT.mono (by first | exact .rfl | assumption | exact le2 (by assumption) (by assumption) | exact le3 (by assumption) (by assumption) (by assumption) | exact le4 (by assumption) (by assumption) (by assumption) (by assumption) | exact le5 (by assumption) (by assumption) (by assumption) (by assumption) (by assumption) | exact le6 (by assumption) (by assumption) (by assumption) (by assumption) (by assumption) (by assumption))) (by first | assumption | (refine Kd.mono _ ?_ (by assumption); first | exact .rfl | assumption | exact le2 (by assumption) (by assumption) | exact le3 (by assumption) (by assumption) (by assumption) | exact le4 (by assumption) (by assumption) (by assumption) (by assumption) | exact le5 (by assumption) (by assumption) (by assumption) (by assumption) (by assumption) | exact le6 (by assumption) (by assumption) (by assumption) (by assumption) (by assumption) (by assumption))) (by first | assumption | (refine Sl.mono ?_ (by assumption); first | exact .rfl | assumption | exact le2 (by assumption) (by assumption) | exact le3 (by assumption) (by assumption) (by assumption) | exact le4 (by assumption) (by assumption) (by assumption) (by assumption) | exact le5 (by assumption) (by assumption) (by assumption) (by assumption) (by assumption) | exact le6 (by assumption) (by assumption) (by assumption) (by assumption) (by assumption) (by assumption))) (by omega) hn hq _ fun vM1 JM1 hJM1 hvM1 => ?_))
    try dsimp only at hJM1 hvM1
    try (have hrM1 : Hp.le s.I JM1 := (by first | exact .rfl | assumption | exact le2 (by assumption) (by assumption) | exact le3 (by assumption) (by assumption) (by assumption) | exact le4 (by assumption) (by assumption) (by assumption) (by assumption) | exact le5 (by assumption) (by assumption) (by assumption) (by assumption) (by assumption) | exact le6 (by assumption) (by assumption) (by assumption) (by assumption) (by assumption) (by assumption)); have hJM1 := hJM1)
    simp only [nrm, Nat.reduceAdd, Nat.reduceMul, Nat.reduceSub, Int.reduceToNat, Int.reduceAdd]
    refine opsR_q rfl (q_len_v rfl (by first | exact Sl.len (by assumption) | exact OwnS.len (by assumption) | exact SlR.len (by assumption) | assumption)) ?_
    simp only [nrm, Nat.reduceAdd, Nat.reduceMul, Nat.reduceSub, Int.reduceToNat, Int.reduceAdd]
    refine opsR_q rfl (q_move) ?_
    simp only [nrm, Nat.reduceAdd, Nat.reduceMul, Nat.reduceSub, Int.reduceToNat, Int.reduceAdd]
    refine opsR_gh Gh.drop ?_
    refine opsR_nil ?_
    refine hk45 _ _ ?_
    clear hk45
    refine run_block ?_
    refine run_loopF [0, 0, 0, 0, 0, 0, 0, 0, 0, 0, 1, 1, 0, 0, 0, 0, 0, 0, 0, 0, 0, 0, 0, 0, 0, 0, 2, 1, 1, 1, 1, 1, 1, 1, 1, 1, 1, 1, 1, 1, 1, 1, 1, 1, 0, 0] (fun zn zL zst => ∃ (i : Nat) (hs : (List (Nat × Obj))) (xs : (List Int)), zL = [.int .i64 (i : Nat)] ∧ ⟨JM1, hs ++ (bW, .cells #[.int .i64 w0, .int .i64 w1, .int .i64 w2, .int .i64 w3] 35 (0, 0)) :: (bP, .cells #[.string p.Name, .int .i64 p.Priority, p1, .int .i64 p.Want.CPU, .int .i64 p.Want.Mem, .int .i64 p.Want.Disk, p2, p3, p4, p5, p6, p7, p8, p9, .string p.Node, .string p.Hope] 33 (0, 0)) :: s.cs⟩ = zst ∧ zn = l.length - i ∧ (i ≤ l.length) ∧ (OwnS (kInt .i64) 3 JM1 vO hs xs) ∧ (TotI p l [w0, w1, w2, w3] 1 i xs)) _ _ ⟨0, _, _, rfl, rfl, rfl, by first | assumption | omega | exact Hp.le.rfl | rfl | exact all_zero | exact all_succ (by assumption) (by assumption) | (intro _; omega) | (simp; done), by first | assumption | omega | exact Hp.le.rfl | rfl | exact all_zero | exact all_succ (by assumption) (by assumption) | (intro _; omega) | (simp; done), by first | assumption | omega | exact Hp.le.rfl | rfl | exact all_zero | exact all_succ (by assumption) (by assumption) | (intro _; omega) | (simp; done)⟩ rfl ?_
    rintro _ _ _ jv51 ⟨i, hs, xs, rfl, rfl, rfl, hi, hO, hI⟩ K51 hkl51
    simp only [fr, Nat.zero_add, Nat.reduceAdd]
    have hlen := hI.1
    have hml := measOf_len p l 1
    have hat := fun h => hI.at (i := i) h
    have hmt := fun h => meas_at p (l := l) 1 (j := i) h
    have hpt := fun h => part_bd (w := w1) (meas_at p (l := l) 1 (j := i) h)
    simp only [wt] at hpt
    refine run_seq fun _ hk52 => ?_
    refine run_region ?_
    refine opsR_q rfl (q_lss rfl rfl) ?_
    simp only [nrm, Nat.reduceAdd, Nat.reduceMul, Nat.reduceSub, Int.reduceToNat, Int.reduceAdd]
    refine opsR_nil ?_
    refine hk52 _ _ ?_
    clear hk52
    refine run_seq fun _ hk55 => ?_
    refine run_cond rfl (fun ho56 => ?_) (fun ho56 => ?_)
    · have hc56 := ho56; try simp only [spl] at hc56
      refine run_skip ?_
      refine hk55 _ _ ?_
      clear hk55
      refine run_seq fun _ hk57 => ?_
      refine run_block ?_
      refine run_seq fun _ hk58 => ?_
      have hat := hat (by omega)
      have hmt := hmt (by omega)
      have hpt := hpt (by omega)
      refine run_region ?_
      refine opsR_q rfl (q_move) ?_
      simp only [nrm, Nat.reduceAdd, Nat.reduceMul, Nat.reduceSub, Int.reduceToNat, Int.reduceAdd]
      refine opsR_index rfl rfl rfl (by first | exact Sl.r (by assumption) (by first | exact .rfl | assumption | exact le2 (by assumption) (by assumption) | exact le3 (by assumption) (by assumption) (by assumption) | exact le4 (by assumption) (by assumption) (by assumption) (by assumption) | exact le5 (by assumption) (by assumption) (by assumption) (by assumption) (by assumption) | exact le6 (by assumption) (by assumption) (by assumption) (by assumption) (by assumption) (by assumption)) | (refine OwnS.r (OwnS.mono ?_ (by assumption)) (by intro p hp; simp only [List.mem_append, List.mem_cons, hp, true_or, or_true]); first | exact .rfl | assumption | exact le2 (by assumption) (by assumption) | exact le3 (by assumption) (by assumption) (by assumption) | exact le4 (by assumption) (by assumption) (by assumption) (by assumption) | exact le5 (by assumption) (by assumption) (by assumption) (by assumption) (by assumption) | exact le6 (by assumption) (by assumption) (by assumption) (by assumption) (by assumption) (by assumption)) | assumption) (by rfl) (by first | omega | ((try simp only [List.length_append, List.length_cons, List.length_nil, List.length_set, List.length_replicate, List.length_take, List.length_drop, List.length_map] at *); omega)) (by first | omega | ((try simp only [List.length_append, List.length_cons, List.length_nil, List.length_set, List.length_replicate, List.length_take, List.length_drop, List.length_map] at *); omega)) fun b59 o59 cs59 ha59 hr59 he59 => ?_
      simp only [nrm, Nat.reduceAdd, Nat.reduceMul, Nat.reduceSub, Int.reduceToNat, Int.reduceAdd]
      try simp only [Int.toNat_natCast, Int.reduceToNat, Int.toNat_zero] at hr59
      try simp only [Int.toNat_natCast, Int.reduceToNat, Int.toNat_zero] at he59
      clear ha59
      obtain rfl := hr59
      refine opsR_q rfl (by first | exact q_load_at1 (i := 0) rfl (by assumption) rfl (Nat.le_of_ble_eq_true rfl) rfl | exact q_load_at1 rfl (by assumption) rfl (Nat.le_of_ble_eq_true rfl) rfl) ?_
      simp only [nrm, Nat.reduceAdd, Nat.reduceMul, Nat.reduceSub, Int.reduceToNat, Int.reduceAdd]
      refine opsR_q rfl (q_assign) ?_
      simp only [nrm, Nat.reduceAdd, Nat.reduceMul, Nat.reduceSub, Int.reduceToNat, Int.reduceAdd]
      refine opsR_q rfl (q_assign) ?_
      simp only [nrm, Nat.reduceAdd, Nat.reduceMul, Nat.reduceSub, Int.reduceToNat, Int.reduceAdd]
      refine opsR_nil ?_
      refine hk58 _ _ ?_
      clear hk58
      refine run_drawE mixed 12 (by kernel_rfl) rfl ?_
      simp only [List.take_succ_cons, List.take_zero, List.drop_succ_cons, List.drop_zero, List.drop_nil, List.take_nil]
      refine oblE_q rfl (fun I hI => (q_move)) ?_
      simp only [nrm, Nat.reduceAdd, Nat.reduceMul, Nat.reduceSub, Int.reduceToNat, Int.reduceAdd]
      refine oblE_q rfl (fun I hI => (q_move)) ?_
      simp only [nrm, Nat.reduceAdd, Nat.reduceMul, Nat.reduceSub, Int.reduceToNat, Int.reduceAdd]
      refine oblE_index rfl rfl rfl (by first | exact Sl.r (by assumption) (by first | exact .rfl | assumption | exact le2 (by assumption) (by assumption) | exact le3 (by assumption) (by assumption) (by assumption) | exact le4 (by assumption) (by assumption) (by assumption) (by assumption) | exact le5 (by assumption) (by assumption) (by assumption) (by assumption) (by assumption) | exact le6 (by assumption) (by assumption) (by assumption) (by assumption) (by assumption) (by assumption)) | (refine OwnS.r (OwnS.mono ?_ (by assumption)) (by intro p hp; simp only [List.mem_append, List.mem_cons, hp, true_or, or_true]); first | exact .rfl | assumption | exact le2 (by assumption) (by assumption) | exact le3 (by assumption) (by assumption) (by assumption) | exact le4 (by assumption) (by assumption) (by assumption) (by assumption) | exact le5 (by assumption) (by assumption) (by assumption) (by assumption) (by assumption) | exact le6 (by assumption) (by assumption) (by assumption) (by assumption) (by assumption) (by assumption)) | assumption) (by rfl) (by first | omega | ((try simp only [List.length_append, List.length_cons, List.length_nil, List.length_set, List.length_replicate, List.length_take, List.length_drop, List.length_map] at *); omega)) (by first | omega | ((try simp only [List.length_append, List.length_cons, List.length_nil, List.length_set, List.length_replicate, List.length_take, List.length_drop, List.length_map] at *); omega)) fun b62 o62 cs62 ha62 hr62 he62 => ?_
      simp only [nrm, Nat.reduceAdd, Nat.reduceMul, Nat.reduceSub, Int.reduceToNat, Int.reduceAdd]
      try simp only [Int.toNat_natCast, Int.reduceToNat, Int.toNat_zero] at hr62
      try simp only [Int.toNat_natCast, Int.reduceToNat, Int.toNat_zero] at he62
      clear ha62
      obtain rfl := hr62
      refine oblE_q rfl (fun I hI => (by first | exact q_load_at1 (i := 0) rfl (El.mono (by assumption) hI) rfl (Nat.le_of_ble_eq_true rfl) rfl | exact q_load_at1 rfl (El.mono (by assumption) hI) rfl (Nat.le_of_ble_eq_true rfl) rfl)) ?_
      simp only [nrm, Nat.reduceAdd, Nat.reduceMul, Nat.reduceSub, Int.reduceToNat, Int.reduceAdd]
      refine oblE_q rfl (fun I hI => (q_move)) ?_
      simp only [nrm, Nat.reduceAdd, Nat.reduceMul, Nat.reduceSub, Int.reduceToNat, Int.reduceAdd]
      refine oblE_q rfl (fun I hI => (q_move)) ?_
      simp only [nrm, Nat.reduceAdd, Nat.reduceMul, Nat.reduceSub, Int.reduceToNat, Int.reduceAdd]
      refine oblE_q rfl (fun I hI => (q_index_arr rfl rfl (by omega) (by omega))) ?_
      simp only [nrm, Nat.reduceAdd, Nat.reduceMul, Nat.reduceSub, Int.reduceToNat, Int.reduceAdd]
      refine oblE_q rfl (fun I hI => (q_loadB1 rfl inferInstance rfl)) ?_
      simp only [nrm, Nat.reduceAdd, Nat.reduceMul, Nat.reduceSub, Int.reduceToNat, Int.reduceAdd]
      refine oblE_q rfl (fun I hI => (q_call rfl (sclamp_spec _ _ _))) ?_
      simp only [nrm, Nat.reduceAdd, Nat.reduceMul, Nat.reduceSub, Int.reduceToNat, Int.reduceAdd]
      refine oblE_q rfl (fun I hI => (by first | exact q_mul64 rfl rfl (by omega) (by omega) | exact q_mul rfl rfl)) ?_
      simp only [nrm, Nat.reduceAdd, Nat.reduceMul, Nat.reduceSub, Int.reduceToNat, Int.reduceAdd]
      refine oblE_q rfl (fun I hI => (by first | exact q_add64 rfl rfl (by omega) (by omega) | exact q_add rfl rfl)) ?_
      simp only [nrm, Nat.reduceAdd, Nat.reduceMul, Nat.reduceSub, Int.reduceToNat, Int.reduceAdd]
      refine oblE_index rfl rfl rfl (by first | exact Sl.r (by assumption) (by first | exact .rfl | assumption | exact le2 (by assumption) (by assumption) | exact le3 (by assumption) (by assumption) (by assumption) | exact le4 (by assumption) (by assumption) (by assumption) (by assumption) | exact le5 (by assumption) (by assumption) (by assumption) (by assumption) (by assumption) | exact le6 (by assumption) (by assumption) (by assumption) (by assumption) (by assumption) (by assumption)) | (refine OwnS.r (OwnS.mono ?_ (by assumption)) (by intro p hp; simp only [List.mem_append, List.mem_cons, hp, true_or, or_true]); first | exact .rfl | assumption | exact le2 (by assumption) (by assumption) | exact le3 (by assumption) (by assumption) (by assumption) | exact le4 (by assumption) (by assumption) (by assumption) (by assumption) | exact le5 (by assumption) (by assumption) (by assumption) (by assumption) (by assumption) | exact le6 (by assumption) (by assumption) (by assumption) (by assumption) (by assumption) (by assumption)) | assumption) (by rfl) (by first | omega | ((try simp only [List.length_append, List.length_cons, List.length_nil, List.length_set, List.length_replicate, List.length_take, List.length_drop, List.length_map] at *); omega)) (by first | omega | ((try simp only [List.length_append, List.length_cons, List.length_nil, List.length_set, List.length_replicate, List.length_take, List.length_drop, List.length_map] at *); omega)) fun b65 o65 cs65 ha65 hr65 he65 => ?_
      simp only [nrm, Nat.reduceAdd, Nat.reduceMul, Nat.reduceSub, Int.reduceToNat, Int.reduceAdd]
      try simp only [Int.toNat_natCast, Int.reduceToNat, Int.toNat_zero] at hr65
      try simp only [Int.toNat_natCast, Int.reduceToNat, Int.toNat_zero] at he65
      try simp only [nrm, Nat.reduceAdd, Nat.reduceMul, Nat.reduceSub, Int.reduceToNat, Int.reduceAdd] at ha65
      obtain rfl := hr65
      refine oblE_nil (show OpsR _ _ _ _ _ _ from ?_)
      try simp only [nrm, Nat.reduceAdd, Nat.reduceMul, Nat.reduceSub, Int.reduceToNat, Int.reduceAdd]
      refine opsR_stO rfl rfl rfl (by assumption) (by first | assumption | (refine OwnS.mono ?_ (by assumption); first | exact .rfl | assumption | exact le2 (by assumption) (by assumption) | exact le3 (by assumption) (by assumption) (by assumption) | exact le4 (by assumption) (by assumption) (by assumption) (by assumption) | exact le5 (by assumption) (by assumption) (by assumption) (by assumption) (by assumption) | exact le6 (by assumption) (by assumption) (by assumption) (by assumption) (by assumption) (by assumption))) (by infer_instance) (by rfl) (by first | rfl | assumption | exact (kInt .i64).shut | (refine Kd.mono _ ?_ (by assumption); first | exact .rfl | assumption | exact le2 (by assumption) (by assumption) | exact le3 (by assumption) (by assumption) (by assumption) | exact le4 (by assumption) (by assumption) (by assumption) (by assumption) | exact le5 (by assumption) (by assumption) (by assumption) (by assumption) (by assumption) | exact le6 (by assumption) (by assumption) (by assumption) (by assumption) (by assumption) (by assumption)) | (apply (kInt .i64).shut <;> assumption)) fun hs66 hv66 => ?_
      simp only [nrm, Nat.reduceAdd, Nat.reduceMul, Nat.reduceSub, Int.reduceToNat, Int.reduceAdd]
      refine opsR_nil ?_
      refine hk57 _ _ ?_
      clear hk57
      refine run_region ?_
      refine opsR_q rfl (by first | exact q_add64 rfl rfl (by omega) (by omega) | exact q_add rfl rfl) ?_
      simp only [nrm, Nat.reduceAdd, Nat.reduceMul, Nat.reduceSub, Int.reduceToNat, Int.reduceAdd]
      refine opsR_q rfl (q_move) ?_
      simp only [nrm, Nat.reduceAdd, Nat.reduceMul, Nat.reduceSub, Int.reduceToNat, Int.reduceAdd]
      refine opsR_nil ?_
      first
      | exact hkl51 _ _ _ _ (by omega) ⟨i + 1, _, _, rfl, rfl, rfl, by first | omega | assumption | exact hI.set (by omega) rfl, by first | omega | assumption | exact hI.set (by omega) rfl, by first | omega | assumption | exact hI.set (by omega) rfl⟩ rfl
    · have hc56 := ho56; try simp only [spl] at hc56
      refine run_exit ?_
      refine hk41 _ _ ?_
      clear hk41
      have hI := hI.turn (by omega)
      refine run_region ?_
      refine opsR_q rfl (by first | exact q_add64 rfl rfl (by omega) (by omega) | exact q_add rfl rfl) ?_
      simp only [nrm, Nat.reduceAdd, Nat.reduceMul, Nat.reduceSub, Int.reduceToNat, Int.reduceAdd]
      refine opsR_q rfl (q_move) ?_
      simp only [nrm, Nat.reduceAdd, Nat.reduceMul, Nat.reduceSub, Int.reduceToNat, Int.reduceAdd]
      refine opsR_nil ?_
      refine hk38 _ _ ?_
      clear hk38
      refine run_round fun _ hk68 => ?_
      refine run_seq fun _ hk69 => ?_
      refine run_region ?_
      refine opsR_q rfl (q_lss rfl rfl) ?_
      simp only [nrm, Nat.reduceAdd, Nat.reduceMul, Nat.reduceSub, Int.reduceToNat, Int.reduceAdd]
      refine opsR_nil ?_
      refine hk69 _ _ ?_
      clear hk69
      refine run_seq fun _ hk70 => ?_
      refine run_cond (t := true) rfl (fun _ => ?_) (fun h => by cases h)
      refine run_skip ?_
      refine hk70 _ _ ?_
      clear hk70
      refine run_seq fun _ hk71 => ?_
      refine run_block ?_
      refine run_seq fun _ hk72 => ?_
      refine run_region ?_
      refine opsR_q rfl (q_move) ?_
      simp only [nrm, Nat.reduceAdd, Nat.reduceMul, Nat.reduceSub, Int.reduceToNat, Int.reduceAdd]
      refine opsR_q rfl (q_index_arrayN rfl rfl (by omega) (by omega)) ?_
      simp only [nrm, Nat.reduceAdd, Nat.reduceMul, Nat.reduceSub, Int.reduceToNat, Int.reduceAdd]
      refine opsR_o rfl (o_alloc fun b74 hb74 => ?_)
      simp only [nrm, Nat.reduceAdd, Nat.reduceMul, Nat.reduceSub, Int.reduceToNat, Int.reduceAdd]
      refine opsR_q rfl (q_assign) ?_
      simp only [nrm, Nat.reduceAdd, Nat.reduceMul, Nat.reduceSub, Int.reduceToNat, Int.reduceAdd]
      refine opsR_o rfl (o_storeB rfl rfl inferInstance (by first | rfl | assumption) (by first | rfl | exact Kd.one _ (by assumption) | assumption) (by first | rfl | (refine Nat.ble_eq_true_of_le ?_; (try simp only [Int.toNat_natCast]); omega)) ?_)
      simp only [nrm, Nat.reduceAdd, Nat.reduceMul, Nat.reduceSub, Int.reduceToNat, Int.reduceAdd]
      refine opsR_nil ?_
      refine hk72 _ _ ?_
      clear hk72
      refine run_seq fun _ hk75 => ?_
      refine run_region ?_
      refine opsR_q rfl (q_fieldAddr rfl) ?_
      simp only [nrm, Nat.reduceAdd, Nat.reduceMul, Nat.reduceSub, Int.reduceToNat, Int.reduceAdd]
      refine opsR_q rfl (q_loadB1 rfl inferInstance rfl) ?_
      simp only [nrm, Nat.reduceAdd, Nat.reduceMul, Nat.reduceSub, Int.reduceToNat, Int.reduceAdd]
      refine opsR_q rfl (by first | exact q_loadBN rfl inferInstance (by rfl) | exact q_loadBW rfl inferInstance (by assumption)) ?_
      simp only [nrm, Nat.reduceAdd, Nat.reduceMul, Nat.reduceSub, Int.reduceToNat, Int.reduceAdd]
      refine opsR_q rfl (q_move) ?_
      simp only [nrm, Nat.reduceAdd, Nat.reduceMul, Nat.reduceSub, Int.reduceToNat, Int.reduceAdd]
      refine opsR_o rfl (o_call rfl (meas2_spec (hT.mono (by first | exact .rfl | assumption | exact le2 (by assumption) (by assumption) | exact le3 (by assumption) (by assumption) (by assumption) | exact le4 (by assumption) (by assumption) (by assumption) (by assumption) | exact le5 (by assumption) (by assumption) (by assumption) (by assumption) (by assumption) | exact le6 (by assumption) (by assumption) (by assumption) (by assumption) (by assumption) (by assumption))) (by first | assumption | (refine Kd.mono _ ?_ (by assumption); first | exact .rfl | assumption | exact le2 (by assumption) (by assumption) | exact le3 (by assumption) (by assumption) (by assumption) | exact le4 (by assumption) (by assumption) (by assumption) (by assumption) | exact le5 (by assumption) (by assumption) (by assumption) (by assumption) (by assumption) | exact le6 (by assumption) (by assumption) (by assumption) (by assumption) (by assumption) (by assumption))) (by first | assumption | (refine Sl.mono ?_ (by assumption); first | exact .rfl | assumption | exact le2 (by assumption) (by assumption) | exact le3 (by assumption) (by assumption) (by assumption) | exact le4 (by assumption) (by assumption) (by assumption) (by assumption) | exact le5 (by assumption) (by assumption) (by assumption) (by assumption) (by assumption) | exact le6 (by assumption) (by assumption) (by assumption) (by assumption) (by assumption) (by assumption))) (by omega) hn hq _ fun vM2 JM2 hJM2 hvM2 => ?_))
      try dsimp only at hJM2 hvM2
      try (have hrM2 : Hp.le s.I JM2 := (by first | exact .rfl | assumption | exact le2 (by assumption) (by assumption) | exact le3 (by assumption) (by assumption) (by assumption) | exact le4 (by assumption) (by assumption) (by assumption) (by assumption) | exact le5 (by assumption) (by assumption) (by assumption) (by assumption) (by assumption) | exact le6 (by assumption) (by assumption) (by assumption) (by assumption) (by assumption) (by assumption)); have hJM2 := hJM2)
      simp only [nrm, Nat.reduceAdd, Nat.reduceMul, Nat.reduceSub, Int.reduceToNat, Int.reduceAdd]
      refine opsR_q rfl (q_len_v rfl (by first | exact Sl.len (by assumption) | exact OwnS.len (by assumption) | exact SlR.len (by assumption) | assumption)) ?_
      simp only [nrm, Nat.reduceAdd, Nat.reduceMul, Nat.reduceSub, Int.reduceToNat, Int.reduceAdd]
      refine opsR_q rfl (q_move) ?_
      simp only [nrm, Nat.reduceAdd, Nat.reduceMul, Nat.reduceSub, Int.reduceToNat, Int.reduceAdd]
      refine opsR_gh Gh.drop ?_
      refine opsR_nil ?_
      refine hk75 _ _ ?_
      clear hk75
      refine run_block ?_
      refine run_loopF [0, 0, 0, 0, 0, 0, 0, 0, 0, 0, 1, 1, 0, 0, 0, 0, 0, 0, 0, 0, 0, 0, 0, 0, 0, 0, 2, 1, 1, 1, 1, 1, 1, 1, 1, 1, 1, 1, 1, 1, 1, 1, 1, 1, 0, 0] (fun zn zL zst => ∃ (i : Nat) (hs : (List (Nat × Obj))) (xs : (List Int)), zL = [.int .i64 (i : Nat)] ∧ ⟨JM2, hs ++ (bW, .cells #[.int .i64 w0, .int .i64 w1, .int .i64 w2, .int .i64 w3] 35 (0, 0)) :: (bP, .cells #[.string p.Name, .int .i64 p.Priority, p1, .int .i64 p.Want.CPU, .int .i64 p.Want.Mem, .int .i64 p.Want.Disk, p2, p3, p4, p5, p6, p7, p8, p9, .string p.Node, .string p.Hope] 33 (0, 0)) :: s.cs⟩ = zst ∧ zn = l.length - i ∧ (i ≤ l.length) ∧ (OwnS (kInt .i64) 3 JM2 vO hs xs) ∧ (TotI p l [w0, w1, w2, w3] 2 i xs)) _ _ ⟨0, _, _, rfl, rfl, rfl, by first | assumption | omega | exact Hp.le.rfl | rfl | exact all_zero | exact all_succ (by assumption) (by assumption) | (intro _; omega) | (simp; done), by first | assumption | omega | exact Hp.le.rfl | rfl | exact all_zero | exact all_succ (by assumption) (by assumption) | (intro _; omega) | (simp; done), by first | assumption | omega | exact Hp.le.rfl | rfl | exact all_zero | exact all_succ (by assumption) (by assumption) | (intro _; omega) | (simp; done)⟩ rfl ?_
      rintro _ _ _ jv81 ⟨i, hs, xs, rfl, rfl, rfl, hi, hO, hI⟩ K81 hkl81
      simp only [fr, Nat.zero_add, Nat.reduceAdd]
      have hlen := hI.1
      have hml := measOf_len p l 2
      have hat := fun h => hI.at (i := i) h
      have hmt := fun h => meas_at p (l := l) 2 (j := i) h
      have hpt := fun h => part_bd (w := w2) (meas_at p (l := l) 2 (j := i) h)
      simp only [wt] at hpt
      refine run_seq fun _ hk82 => ?_
      refine run_region ?_
      refine opsR_q rfl (q_lss rfl rfl) ?_
      simp only [nrm, Nat.reduceAdd, Nat.reduceMul, Nat.reduceSub, Int.reduceToNat, Int.reduceAdd]
      refine opsR_nil ?_
      refine hk82 _ _ ?_
      clear hk82
      refine run_seq fun _ hk85 => ?_
      refine run_cond rfl (fun ho86 => ?_) (fun ho86 => ?_)
      · have hc86 := ho86; try simp only [spl] at hc86
        refine run_skip ?_
        refine hk85 _ _ ?_
        clear hk85
        refine run_seq fun _ hk87 => ?_
        refine run_block ?_
        refine run_seq fun _ hk88 => ?_
        have hat := hat (by omega)
        have hmt := hmt (by omega)
        have hpt := hpt (by omega)
        refine run_region ?_
        refine opsR_q rfl (q_move) ?_
        simp only [nrm, Nat.reduceAdd, Nat.reduceMul, Nat.reduceSub, Int.reduceToNat, Int.reduceAdd]
        refine opsR_index rfl rfl rfl (by first | exact Sl.r (by assumption) (by first | exact .rfl | assumption | exact le2 (by assumption) (by assumption) | exact le3 (by assumption) (by assumption) (by assumption) | exact le4 (by assumption) (by assumption) (by assumption) (by assumption) | exact le5 (by assumption) (by assumption) (by assumption) (by assumption) (by assumption) | exact le6 (by assumption) (by assumption) (by assumption) (by assumption) (by assumption) (by assumption)) | (refine OwnS.r (OwnS.mono ?_ (by assumption)) (by intro p hp; simp only [List.mem_append, List.mem_cons, hp, true_or, or_true]); first | exact .rfl | assumption | exact le2 (by assumption) (by assumption) | exact le3 (by assumption) (by assumption) (by assumption) | exact le4 (by assumption) (by assumption) (by assumption) (by assumption) | exact le5 (by assumption) (by assumption) (by assumption) (by assumption) (by assumption) | exact le6 (by assumption) (by assumption) (by assumption) (by assumption) (by assumption) (by assumption)) | assumption) (by rfl) (by first | omega | ((try simp only [List.length_append, List.length_cons, List.length_nil, List.length_set, List.length_replicate, List.length_take, List.length_drop, List.length_map] at *); omega)) (by first | omega | ((try simp only [List.length_append, List.length_cons, List.length_nil, List.length_set, List.length_replicate, List.length_take, List.length_drop, List.length_map] at *); omega)) fun b89 o89 cs89 ha89 hr89 he89 => ?_
        simp only [nrm, Nat.reduceAdd, Nat.reduceMul, Nat.reduceSub, Int.reduceToNat, Int.reduceAdd]
        try simp only [Int.toNat_natCast, Int.reduceToNat, Int.toNat_zero] at hr89
        try simp only [Int.toNat_natCast, Int.reduceToNat, Int.toNat_zero] at he89
        clear ha89
        obtain rfl := hr89
        refine opsR_q rfl (by first | exact q_load_at1 (i := 0) rfl (by assumption) rfl (Nat.le_of_ble_eq_true rfl) rfl | exact q_load_at1 rfl (by assumption) rfl (Nat.le_of_ble_eq_true rfl) rfl) ?_
        simp only [nrm, Nat.reduceAdd, Nat.reduceMul, Nat.reduceSub, Int.reduceToNat, Int.reduceAdd]
        refine opsR_q rfl (q_assign) ?_
        simp only [nrm, Nat.reduceAdd, Nat.reduceMul, Nat.reduceSub, Int.reduceToNat, Int.reduceAdd]
        refine opsR_q rfl (q_assign) ?_
        simp only [nrm, Nat.reduceAdd, Nat.reduceMul, Nat.reduceSub, Int.reduceToNat, Int.reduceAdd]
        refine opsR_nil ?_
        refine hk88 _ _ ?_
        clear hk88
        refine run_drawE mixed 12 (by kernel_rfl) rfl ?_
        simp only [List.take_succ_cons, List.take_zero, List.drop_succ_cons, List.drop_zero, List.drop_nil, List.take_nil]
        refine oblE_q rfl (fun I hI => (q_move)) ?_
        simp only [nrm, Nat.reduceAdd, Nat.reduceMul, Nat.reduceSub, Int.reduceToNat, Int.reduceAdd]
        refine oblE_q rfl (fun I hI => (q_move)) ?_
        simp only [nrm, Nat.reduceAdd, Nat.reduceMul, Nat.reduceSub, Int.reduceToNat, Int.reduceAdd]
        refine oblE_index rfl rfl rfl (by first | exact Sl.r (by assumption) (by first | exact .rfl | assumption | exact le2 (by assumption) (by assumption) | exact le3 (by assumption) (by assumption) (by assumption) | exact le4 (by assumption) (by assumption) (by assumption) (by assumption) | exact le5 (by assumption) (by assumption) (by assumption) (by assumption) (by assumption) | exact le6 (by assumption) (by assumption) (by assumption) (by assumption) (by assumption) (by assumption)) | (refine OwnS.r (OwnS.mono ?_ (by assumption)) (by intro p hp; simp only [List.mem_append, List.mem_cons, hp, true_or, or_true]); first | exact .rfl | assumption | exact le2 (by assumption) (by assumption) | exact le3 (by assumption) (by assumption) (by assumption) | exact le4 (by assumption) (by assumption) (by assumption) (by assumption) | exact le5 (by assumption) (by assumption) (by assumption) (by assumption) (by assumption) | exact le6 (by assumption) (by assumption) (by assumption) (by assumption) (by assumption) (by assumption)) | assumption) (by rfl) (by first | omega | ((try simp only [List.length_append, List.length_cons, List.length_nil, List.length_set, List.length_replicate, List.length_take, List.length_drop, List.length_map] at *); omega)) (by first | omega | ((try simp only [List.length_append, List.length_cons, List.length_nil, List.length_set, List.length_replicate, List.length_take, List.length_drop, List.length_map] at *); omega)) fun b92 o92 cs92 ha92 hr92 he92 => ?_
        simp only [nrm, Nat.reduceAdd, Nat.reduceMul, Nat.reduceSub, Int.reduceToNat, Int.reduceAdd]
        try simp only [Int.toNat_natCast, Int.reduceToNat, Int.toNat_zero] at hr92
        try simp only [Int.toNat_natCast, Int.reduceToNat, Int.toNat_zero] at he92
        clear ha92
        obtain rfl := hr92
        refine oblE_q rfl (fun I hI => (by first | exact q_load_at1 (i := 0) rfl (El.mono (by assumption) hI) rfl (Nat.le_of_ble_eq_true rfl) rfl | exact q_load_at1 rfl (El.mono (by assumption) hI) rfl (Nat.le_of_ble_eq_true rfl) rfl)) ?_
        simp only [nrm, Nat.reduceAdd, Nat.reduceMul, Nat.reduceSub, Int.reduceToNat, Int.reduceAdd]
        refine oblE_q rfl (fun I hI => (q_move)) ?_
        simp only [nrm, Nat.reduceAdd, Nat.reduceMul, Nat.reduceSub, Int.reduceToNat, Int.reduceAdd]
        refine oblE_q rfl (fun I hI => (q_move)) ?_
        simp only [nrm, Nat.reduceAdd, Nat.reduceMul, Nat.reduceSub, Int.reduceToNat, Int.reduceAdd]
        refine oblE_q rfl (fun I hI => (q_index_arr rfl rfl (by omega) (by omega))) ?_
        simp only [nrm, Nat.reduceAdd, Nat.reduceMul, Nat.reduceSub, Int.reduceToNat, Int.reduceAdd]
        refine oblE_q rfl (fun I hI => (q_loadB1 rfl inferInstance rfl)) ?_
        simp only [nrm, Nat.reduceAdd, Nat.reduceMul, Nat.reduceSub, Int.reduceToNat, Int.reduceAdd]
        refine oblE_q rfl (fun I hI => (q_call rfl (sclamp_spec _ _ _))) ?_
        simp only [nrm, Nat.reduceAdd, Nat.reduceMul, Nat.reduceSub, Int.reduceToNat, Int.reduceAdd]
        refine oblE_q rfl (fun I hI => (by first | exact q_mul64 rfl rfl (by omega) (by omega) | exact q_mul rfl rfl)) ?_
        simp only [nrm, Nat.reduceAdd, Nat.reduceMul, Nat.reduceSub, Int.reduceToNat, Int.reduceAdd]
        refine oblE_q rfl (fun I hI => (by first | exact q_add64 rfl rfl (by omega) (by omega) | exact q_add rfl rfl)) ?_
        simp only [nrm, Nat.reduceAdd, Nat.reduceMul, Nat.reduceSub, Int.reduceToNat, Int.reduceAdd]
        refine oblE_index rfl rfl rfl (by first | exact Sl.r (by assumption) (by first | exact .rfl | assumption | exact le2 (by assumption) (by assumption) | exact le3 (by assumption) (by assumption) (by assumption) | exact le4 (by assumption) (by assumption) (by assumption) (by assumption) | exact le5 (by assumption) (by assumption) (by assumption) (by assumption) (by assumption) | exact le6 (by assumption) (by assumption) (by assumption) (by assumption) (by assumption) (by assumption)) | (refine OwnS.r (OwnS.mono ?_ (by assumption)) (by intro p hp; simp only [List.mem_append, List.mem_cons, hp, true_or, or_true]); first | exact .rfl | assumption | exact le2 (by assumption) (by assumption) | exact le3 (by assumption) (by assumption) (by assumption) | exact le4 (by assumption) (by assumption) (by assumption) (by assumption) | exact le5 (by assumption) (by assumption) (by assumption) (by assumption) (by assumption) | exact le6 (by assumption) (by assumption) (by assumption) (by assumption) (by assumption) (by assumption)) | assumption) (by rfl) (by first | omega | ((try simp only [List.length_append, List.length_cons, List.length_nil, List.length_set, List.length_replicate, List.length_take, List.length_drop, List.length_map] at *); omega)) (by first | omega | ((try simp only [List.length_append, List.length_cons, List.length_nil, List.length_set, List.length_replicate, List.length_take, List.length_drop, List.length_map] at *); omega)) fun b95 o95 cs95 ha95 hr95 he95 => ?_
        simp only [nrm, Nat.reduceAdd, Nat.reduceMul, Nat.reduceSub, Int.reduceToNat, Int.reduceAdd]
        try simp only [Int.toNat_natCast, Int.reduceToNat, Int.toNat_zero] at hr95
        try simp only [Int.toNat_natCast, Int.reduceToNat, Int.toNat_zero] at he95
        try simp only [nrm, Nat.reduceAdd, Nat.reduceMul, Nat.reduceSub, Int.reduceToNat, Int.reduceAdd] at ha95
        obtain rfl := hr95
        refine oblE_nil (show OpsR _ _ _ _ _ _ from ?_)
        try simp only [nrm, Nat.reduceAdd, Nat.reduceMul, Nat.reduceSub, Int.reduceToNat, Int.reduceAdd]
        refine opsR_stO rfl rfl rfl (by assumption) (by first | assumption | (refine OwnS.mono ?_ (by assumption); first | exact .rfl | assumption | exact le2 (by assumption) (by assumption) | exact le3 (by assumption) (by assumption) (by assumption) | exact le4 (by assumption) (by assumption) (by assumption) (by assumption) | exact le5 (by assumption) (by assumption) (by assumption) (by assumption) (by assumption) | exact le6 (by assumption) (by assumption) (by assumption) (by assumption) (by assumption) (by assumption))) (by infer_instance) (by rfl) (by first | rfl | assumption | exact (kInt .i64).shut | (refine Kd.mono _ ?_ (by assumption); first | exact .rfl | assumption | exact le2 (by assumption) (by assumption) | exact le3 (by assumption) (by assumption) (by assumption) | exact le4 (by assumption) (by assumption) (by assumption) (by assumption) | exact le5 (by assumption) (by assumption) (by assumption) (by assumption) (by assumption) | exact le6 (by assumption) (by assumption) (by assumption) (by assumption) (by assumption) (by assumption)) | (apply (kInt .i64).shut <;> assumption)) fun hs96 hv96 => ?_
        simp only [nrm, Nat.reduceAdd, Nat.reduceMul, Nat.reduceSub, Int.reduceToNat, Int.reduceAdd]
        refine opsR_nil ?_
        refine hk87 _ _ ?_
        clear hk87
        refine run_region ?_
        refine opsR_q rfl (by first | exact q_add64 rfl rfl (by omega) (by omega) | exact q_add rfl rfl) ?_
        simp only [nrm, Nat.reduceAdd, Nat.reduceMul, Nat.reduceSub, Int.reduceToNat, Int.reduceAdd]
        refine opsR_q rfl (q_move) ?_
        simp only [nrm, Nat.reduceAdd, Nat.reduceMul, Nat.reduceSub, Int.reduceToNat, Int.reduceAdd]
        refine opsR_nil ?_
        first
        | exact hkl81 _ _ _ _ (by omega) ⟨i + 1, _, _, rfl, rfl, rfl, by first | omega | assumption | exact hI.set (by omega) rfl, by first | omega | assumption | exact hI.set (by omega) rfl, by first | omega | assumption | exact hI.set (by omega) rfl⟩ rfl
      · have hc86 := ho86; try simp only [spl] at hc86
        refine run_exit ?_
        refine hk71 _ _ ?_
        clear hk71
        have hI := hI.turn (by omega)
        refine run_region ?_
        refine opsR_q rfl (by first | exact q_add64 rfl rfl (by omega) (by omega) | exact q_add rfl rfl) ?_
        simp only [nrm, Nat.reduceAdd, Nat.reduceMul, Nat.reduceSub, Int.reduceToNat, Int.reduceAdd]
        refine opsR_q rfl (q_move) ?_
        simp only [nrm, Nat.reduceAdd, Nat.reduceMul, Nat.reduceSub, Int.reduceToNat, Int.reduceAdd]
        refine opsR_nil ?_
        refine hk68 _ _ ?_
        clear hk68
        refine run_round fun _ hk98 => ?_
        refine run_seq fun _ hk99 => ?_
        refine run_region ?_
        refine opsR_q rfl (q_lss rfl rfl) ?_
        simp only [nrm, Nat.reduceAdd, Nat.reduceMul, Nat.reduceSub, Int.reduceToNat, Int.reduceAdd]
        refine opsR_nil ?_
        refine hk99 _ _ ?_
        clear hk99
        refine run_seq fun _ hk100 => ?_
        refine run_cond (t := true) rfl (fun _ => ?_) (fun h => by cases h)
        refine run_skip ?_
        refine hk100 _ _ ?_
        clear hk100
        refine run_seq fun _ hk101 => ?_
        refine run_block ?_
        refine run_seq fun _ hk102 => ?_
        refine run_region ?_
        refine opsR_q rfl (q_move) ?_
        simp only [nrm, Nat.reduceAdd, Nat.reduceMul, Nat.reduceSub, Int.reduceToNat, Int.reduceAdd]
        refine opsR_q rfl (q_index_arrayN rfl rfl (by omega) (by omega)) ?_
        simp only [nrm, Nat.reduceAdd, Nat.reduceMul, Nat.reduceSub, Int.reduceToNat, Int.reduceAdd]
        refine opsR_o rfl (o_alloc fun b104 hb104 => ?_)
        simp only [nrm, Nat.reduceAdd, Nat.reduceMul, Nat.reduceSub, Int.reduceToNat, Int.reduceAdd]
        refine opsR_q rfl (q_assign) ?_
        simp only [nrm, Nat.reduceAdd, Nat.reduceMul, Nat.reduceSub, Int.reduceToNat, Int.reduceAdd]
        refine opsR_o rfl (o_storeB rfl rfl inferInstance (by first | rfl | assumption) (by first | rfl | exact Kd.one _ (by assumption) | assumption) (by first | rfl | (refine Nat.ble_eq_true_of_le ?_; (try simp only [Int.toNat_natCast]); omega)) ?_)
        simp only [nrm, Nat.reduceAdd, Nat.reduceMul, Nat.reduceSub, Int.reduceToNat, Int.reduceAdd]
        refine opsR_nil ?_
        refine hk102 _ _ ?_
        clear hk102
        refine run_seq fun _ hk105 => ?_
        refine run_region ?_
        refine opsR_q rfl (q_fieldAddr rfl) ?_
        simp only [nrm, Nat.reduceAdd, Nat.reduceMul, Nat.reduceSub, Int.reduceToNat, Int.reduceAdd]
        refine opsR_q rfl (q_loadB1 rfl inferInstance rfl) ?_
        simp only [nrm, Nat.reduceAdd, Nat.reduceMul, Nat.reduceSub, Int.reduceToNat, Int.reduceAdd]
        refine opsR_q rfl (by first | exact q_loadBN rfl inferInstance (by rfl) | exact q_loadBW rfl inferInstance (by assumption)) ?_
        simp only [nrm, Nat.reduceAdd, Nat.reduceMul, Nat.reduceSub, Int.reduceToNat, Int.reduceAdd]
        refine opsR_q rfl (q_move) ?_
        simp only [nrm, Nat.reduceAdd, Nat.reduceMul, Nat.reduceSub, Int.reduceToNat, Int.reduceAdd]
        refine opsR_o rfl (o_call rfl (meas3_spec (hT.mono (by first | exact .rfl | assumption | exact le2 (by assumption) (by assumption) | exact le3 (by assumption) (by assumption) (by assumption) | exact le4 (by assumption) (by assumption) (by assumption) (by assumption) | exact le5 (by assumption) (by assumption) (by assumption) (by assumption) (by assumption) | exact le6 (by assumption) (by assumption) (by assumption) (by assumption) (by assumption) (by assumption))) (by first | assumption | (refine Kd.mono _ ?_ (by assumption); first | exact .rfl | assumption | exact le2 (by assumption) (by assumption) | exact le3 (by assumption) (by assumption) (by assumption) | exact le4 (by assumption) (by assumption) (by assumption) (by assumption) | exact le5 (by assumption) (by assumption) (by assumption) (by assumption) (by assumption) | exact le6 (by assumption) (by assumption) (by assumption) (by assumption) (by assumption) (by assumption))) (by first | assumption | (refine Sl.mono ?_ (by assumption); first | exact .rfl | assumption | exact le2 (by assumption) (by assumption) | exact le3 (by assumption) (by assumption) (by assumption) | exact le4 (by assumption) (by assumption) (by assumption) (by assumption) | exact le5 (by assumption) (by assumption) (by assumption) (by assumption) (by assumption) | exact le6 (by assumption) (by assumption) (by assumption) (by assumption) (by assumption) (by assumption))) (by omega) hn hq _ fun vM3 JM3 hJM3 hvM3 => ?_))
        try dsimp only at hJM3 hvM3
        try (have hrM3 : Hp.le s.I JM3 := (by first | exact .rfl | assumption | exact le2 (by assumption) (by assumption) | exact le3 (by assumption) (by assumption) (by assumption) | exact le4 (by assumption) (by assumption) (by assumption) (by assumption) | exact le5 (by assumption) (by assumption) (by assumption) (by assumption) (by assumption) | exact le6 (by assumption) (by assumption) (by assumption) (by assumption) (by assumption) (by assumption)); have hJM3 := hJM3)
        simp only [nrm, Nat.reduceAdd, Nat.reduceMul, Nat.reduceSub, Int.reduceToNat, Int.reduceAdd]
        refine opsR_q rfl (q_len_v rfl (by first | exact Sl.len (by assumption) | exact OwnS.len (by assumption) | exact SlR.len (by assumption) | assumption)) ?_
        simp only [nrm, Nat.reduceAdd, Nat.reduceMul, Nat.reduceSub, Int.reduceToNat, Int.reduceAdd]
        refine opsR_q rfl (q_move) ?_
        simp only [nrm, Nat.reduceAdd, Nat.reduceMul, Nat.reduceSub, Int.reduceToNat, Int.reduceAdd]
        refine opsR_gh Gh.drop ?_
        refine opsR_nil ?_
        refine hk105 _ _ ?_
        clear hk105
        refine run_block ?_
        refine run_loopF [0, 0, 0, 0, 0, 0, 0, 0, 0, 0, 1, 1, 0, 0, 0, 0, 0, 0, 0, 0, 0, 0, 0, 0, 0, 0, 2, 1, 1, 1, 1, 1, 1, 1, 1, 1, 1, 1, 1, 1, 1, 1, 1, 1, 0, 0] (fun zn zL zst => ∃ (i : Nat) (hs : (List (Nat × Obj))) (xs : (List Int)), zL = [.int .i64 (i : Nat)] ∧ ⟨JM3, hs ++ (bW, .cells #[.int .i64 w0, .int .i64 w1, .int .i64 w2, .int .i64 w3] 35 (0, 0)) :: (bP, .cells #[.string p.Name, .int .i64 p.Priority, p1, .int .i64 p.Want.CPU, .int .i64 p.Want.Mem, .int .i64 p.Want.Disk, p2, p3, p4, p5, p6, p7, p8, p9, .string p.Node, .string p.Hope] 33 (0, 0)) :: s.cs⟩ = zst ∧ zn = l.length - i ∧ (i ≤ l.length) ∧ (OwnS (kInt .i64) 3 JM3 vO hs xs) ∧ (TotI p l [w0, w1, w2, w3] 3 i xs)) _ _ ⟨0, _, _, rfl, rfl, rfl, by first | assumption | omega | exact Hp.le.rfl | rfl | exact all_zero | exact all_succ (by assumption) (by assumption) | (intro _; omega) | (simp; done), by first | assumption | omega | exact Hp.le.rfl | rfl | exact all_zero | exact all_succ (by assumption) (by assumption) | (intro _; omega) | (simp; done), by first | assumption | omega | exact Hp.le.rfl | rfl | exact all_zero | exact all_succ (by assumption) (by assumption) | (intro _; omega) | (simp; done)⟩ rfl ?_
        rintro _ _ _ jv111 ⟨i, hs, xs, rfl, rfl, rfl, hi, hO, hI⟩ K111 hkl111
        simp only [fr, Nat.zero_add, Nat.reduceAdd]
        have hlen := hI.1
        have hml := measOf_len p l 3
        have hat := fun h => hI.at (i := i) h
        have hmt := fun h => meas_at p (l := l) 3 (j := i) h
        have hpt := fun h => part_bd (w := w3) (meas_at p (l := l) 3 (j := i) h)
        simp only [wt] at hpt
        refine run_seq fun _ hk112 => ?_
        refine run_region ?_
        refine opsR_q rfl (q_lss rfl rfl) ?_
        simp only [nrm, Nat.reduceAdd, Nat.reduceMul, Nat.reduceSub, Int.reduceToNat, Int.reduceAdd]
        refine opsR_nil ?_
        refine hk112 _ _ ?_
        clear hk112
        refine run_seq fun _ hk115 => ?_
        refine run_cond rfl (fun ho116 => ?_) (fun ho116 => ?_)
        · have hc116 := ho116; try simp only [spl] at hc116
          refine run_skip ?_
          refine hk115 _ _ ?_
          clear hk115
          refine run_seq fun _ hk117 => ?_
          refine run_block ?_
          refine run_seq fun _ hk118 => ?_
          have hat := hat (by omega)
          have hmt := hmt (by omega)
          have hpt := hpt (by omega)
          refine run_region ?_
          refine opsR_q rfl (q_move) ?_
          simp only [nrm, Nat.reduceAdd, Nat.reduceMul, Nat.reduceSub, Int.reduceToNat, Int.reduceAdd]
          refine opsR_index rfl rfl rfl (by first | exact Sl.r (by assumption) (by first | exact .rfl | assumption | exact le2 (by assumption) (by assumption) | exact le3 (by assumption) (by assumption) (by assumption) | exact le4 (by assumption) (by assumption) (by assumption) (by assumption) | exact le5 (by assumption) (by assumption) (by assumption) (by assumption) (by assumption) | exact le6 (by assumption) (by assumption) (by assumption) (by assumption) (by assumption) (by assumption)) | (refine OwnS.r (OwnS.mono ?_ (by assumption)) (by intro p hp; simp only [List.mem_append, List.mem_cons, hp, true_or, or_true]); first | exact .rfl | assumption | exact le2 (by assumption) (by assumption) | exact le3 (by assumption) (by assumption) (by assumption) | exact le4 (by assumption) (by assumption) (by assumption) (by assumption) | exact le5 (by assumption) (by assumption) (by assumption) (by assumption) (by assumption) | exact le6 (by assumption) (by assumption) (by assumption) (by assumption) (by assumption) (by assumption)) | assumption) (by rfl) (by first | omega | ((try simp only [List.length_append, List.length_cons, List.length_nil, List.length_set, List.length_replicate, List.length_take, List.length_drop, List.length_map] at *); omega)) (by first | omega | ((try simp only [List.length_append, List.length_cons, List.length_nil, List.length_set, List.length_replicate, List.length_take, List.length_drop, List.length_map] at *); omega)) fun b119 o119 cs119 ha119 hr119 he119 => ?_
          simp only [nrm, Nat.reduceAdd, Nat.reduceMul, Nat.reduceSub, Int.reduceToNat, Int.reduceAdd]
          try simp only [Int.toNat_natCast, Int.reduceToNat, Int.toNat_zero] at hr119
          try simp only [Int.toNat_natCast, Int.reduceToNat, Int.toNat_zero] at he119
          clear ha119
          obtain rfl := hr119
          refine opsR_q rfl (by first | exact q_load_at1 (i := 0) rfl (by assumption) rfl (Nat.le_of_ble_eq_true rfl) rfl | exact q_load_at1 rfl (by assumption) rfl (Nat.le_of_ble_eq_true rfl) rfl) ?_
          simp only [nrm, Nat.reduceAdd, Nat.reduceMul, Nat.reduceSub, Int.reduceToNat, Int.reduceAdd]
          refine opsR_q rfl (q_assign) ?_
          simp only [nrm, Nat.reduceAdd, Nat.reduceMul, Nat.reduceSub, Int.reduceToNat, Int.reduceAdd]
          refine opsR_q rfl (q_assign) ?_
          simp only [nrm, Nat.reduceAdd, Nat.reduceMul, Nat.reduceSub, Int.reduceToNat, Int.reduceAdd]
          refine opsR_nil ?_
          refine hk118 _ _ ?_
          clear hk118
          refine run_drawE mixed 12 (by kernel_rfl) rfl ?_
          simp only [List.take_succ_cons, List.take_zero, List.drop_succ_cons, List.drop_zero, List.drop_nil, List.take_nil]
          refine oblE_q rfl (fun I hI => (q_move)) ?_
          simp only [nrm, Nat.reduceAdd, Nat.reduceMul, Nat.reduceSub, Int.reduceToNat, Int.reduceAdd]
          refine oblE_q rfl (fun I hI => (q_move)) ?_
          simp only [nrm, Nat.reduceAdd, Nat.reduceMul, Nat.reduceSub, Int.reduceToNat, Int.reduceAdd]
          refine oblE_index rfl rfl rfl (by first | exact Sl.r (by assumption) (by first | exact .rfl | assumption | exact le2 (by assumption) (by assumption) | exact le3 (by assumption) (by assumption) (by assumption) | exact le4 (by assumption) (by assumption) (by assumption) (by assumption) | exact le5 (by assumption) (by assumption) (by assumption) (by assumption) (by assumption) | exact le6 (by assumption) (by assumption) (by assumption) (by assumption) (by assumption) (by assumption)) | (refine OwnS.r (OwnS.mono ?_ (by assumption)) (by intro p hp; simp only [List.mem_append, List.mem_cons, hp, true_or, or_true]); first | exact .rfl | assumption | exact le2 (by assumption) (by assumption) | exact le3 (by assumption) (by assumption) (by assumption) | exact le4 (by assumption) (by assumption) (by assumption) (by assumption) | exact le5 (by assumption) (by assumption) (by assumption) (by assumption) (by assumption) | exact le6 (by assumption) (by assumption) (by assumption) (by assumption) (by assumption) (by assumption)) | assumption) (by rfl) (by first | omega | ((try simp only [List.length_append, List.length_cons, List.length_nil, List.length_set, List.length_replicate, List.length_take, List.length_drop, List.length_map] at *); omega)) (by first | omega | ((try simp only [List.length_append, List.length_cons, List.length_nil, List.length_set, List.length_replicate, List.length_take, List.length_drop, List.length_map] at *); omega)) fun b122 o122 cs122 ha122 hr122 he122 => ?_
          simp only [nrm, Nat.reduceAdd, Nat.reduceMul, Nat.reduceSub, Int.reduceToNat, Int.reduceAdd]
          try simp only [Int.toNat_natCast, Int.reduceToNat, Int.toNat_zero] at hr122
          try simp only [Int.toNat_natCast, Int.reduceToNat, Int.toNat_zero] at he122
          clear ha122
          obtain rfl := hr122
          refine oblE_q rfl (fun I hI => (by first | exact q_load_at1 (i := 0) rfl (El.mono (by assumption) hI) rfl (Nat.le_of_ble_eq_true rfl) rfl | exact q_load_at1 rfl (El.mono (by assumption) hI) rfl (Nat.le_of_ble_eq_true rfl) rfl)) ?_
          simp only [nrm, Nat.reduceAdd, Nat.reduceMul, Nat.reduceSub, Int.reduceToNat, Int.reduceAdd]
          refine oblE_q rfl (fun I hI => (q_move)) ?_
          simp only [nrm, Nat.reduceAdd, Nat.reduceMul, Nat.reduceSub, Int.reduceToNat, Int.reduceAdd]
          refine oblE_q rfl (fun I hI => (q_move)) ?_
          simp only [nrm, Nat.reduceAdd, Nat.reduceMul, Nat.reduceSub, Int.reduceToNat, Int.reduceAdd]
          refine oblE_q rfl (fun I hI => (q_index_arr rfl rfl (by omega) (by omega))) ?_
          simp only [nrm, Nat.reduceAdd, Nat.reduceMul, Nat.reduceSub, Int.reduceToNat, Int.reduceAdd]
          refine oblE_q rfl (fun I hI => (q_loadB1 rfl inferInstance rfl)) ?_
          simp only [nrm, Nat.reduceAdd, Nat.reduceMul, Nat.reduceSub, Int.reduceToNat, Int.reduceAdd]
          refine oblE_q rfl (fun I hI => (q_call rfl (sclamp_spec _ _ _))) ?_
          simp only [nrm, Nat.reduceAdd, Nat.reduceMul, Nat.reduceSub, Int.reduceToNat, Int.reduceAdd]
          refine oblE_q rfl (fun I hI => (by first | exact q_mul64 rfl rfl (by omega) (by omega) | exact q_mul rfl rfl)) ?_
          simp only [nrm, Nat.reduceAdd, Nat.reduceMul, Nat.reduceSub, Int.reduceToNat, Int.reduceAdd]
          refine oblE_q rfl (fun I hI => (by first | exact q_add64 rfl rfl (by omega) (by omega) | exact q_add rfl rfl)) ?_
          simp only [nrm, Nat.reduceAdd, Nat.reduceMul, Nat.reduceSub, Int.reduceToNat, Int.reduceAdd]
          refine oblE_index rfl rfl rfl (by first | exact Sl.r (by assumption) (by first | exact .rfl | assumption | exact le2 (by assumption) (by assumption) | exact le3 (by assumption) (by assumption) (by assumption) | exact le4 (by assumption) (by assumption) (by assumption) (by assumption) | exact le5 (by assumption) (by assumption) (by assumption) (by assumption) (by assumption) | exact le6 (by assumption) (by assumption) (by assumption) (by assumption) (by assumption) (by assumption)) | (refine OwnS.r (OwnS.mono ?_ (by assumption)) (by intro p hp; simp only [List.mem_append, List.mem_cons, hp, true_or, or_true]); first | exact .rfl | assumption | exact le2 (by assumption) (by assumption) | exact le3 (by assumption) (by assumption) (by assumption) | exact le4 (by assumption) (by assumption) (by assumption) (by assumption) | exact le5 (by assumption) (by assumption) (by assumption) (by assumption) (by assumption) | exact le6 (by assumption) (by assumption) (by assumption) (by assumption) (by assumption) (by assumption)) | assumption) (by rfl) (by first | omega | ((try simp only [List.length_append, List.length_cons, List.length_nil, List.length_set, List.length_replicate, List.length_take, List.length_drop, List.length_map] at *); omega)) (by first | omega | ((try simp only [List.length_append, List.length_cons, List.length_nil, List.length_set, List.length_replicate, List.length_take, List.length_drop, List.length_map] at *); omega)) fun b125 o125 cs125 ha125 hr125 he125 => ?_
          simp only [nrm, Nat.reduceAdd, Nat.reduceMul, Nat.reduceSub, Int.reduceToNat, Int.reduceAdd]
          try simp only [Int.toNat_natCast, Int.reduceToNat, Int.toNat_zero] at hr125
          try simp only [Int.toNat_natCast, Int.reduceToNat, Int.toNat_zero] at he125
          try simp only [nrm, Nat.reduceAdd, Nat.reduceMul, Nat.reduceSub, Int.reduceToNat, Int.reduceAdd] at ha125
          obtain rfl := hr125
          refine oblE_nil (show OpsR _ _ _ _ _ _ from ?_)
          try simp only [nrm, Nat.reduceAdd, Nat.reduceMul, Nat.reduceSub, Int.reduceToNat, Int.reduceAdd]
          refine opsR_stO rfl rfl rfl (by assumption) (by first | assumption | (refine OwnS.mono ?_ (by assumption); first | exact .rfl | assumption | exact le2 (by assumption) (by assumption) | exact le3 (by assumption) (by assumption) (by assumption) | exact le4 (by assumption) (by assumption) (by assumption) (by assumption) | exact le5 (by assumption) (by assumption) (by assumption) (by assumption) (by assumption) | exact le6 (by assumption) (by assumption) (by assumption) (by assumption) (by assumption) (by assumption))) (by infer_instance) (by rfl) (by first | rfl | assumption | exact (kInt .i64).shut | (refine Kd.mono _ ?_ (by assumption); first | exact .rfl | assumption | exact le2 (by assumption) (by assumption) | exact le3 (by assumption) (by assumption) (by assumption) | exact le4 (by assumption) (by assumption) (by assumption) (by assumption) | exact le5 (by assumption) (by assumption) (by assumption) (by assumption) (by assumption) | exact le6 (by assumption) (by assumption) (by assumption) (by assumption) (by assumption) (by assumption)) | (apply (kInt .i64).shut <;> assumption)) fun hs126 hv126 => ?_
          simp only [nrm, Nat.reduceAdd, Nat.reduceMul, Nat.reduceSub, Int.reduceToNat, Int.reduceAdd]
          refine opsR_nil ?_
          refine hk117 _ _ ?_
          clear hk117
          refine run_region ?_
          refine opsR_q rfl (by first | exact q_add64 rfl rfl (by omega) (by omega) | exact q_add rfl rfl) ?_
          simp only [nrm, Nat.reduceAdd, Nat.reduceMul, Nat.reduceSub, Int.reduceToNat, Int.reduceAdd]
          refine opsR_q rfl (q_move) ?_
          simp only [nrm, Nat.reduceAdd, Nat.reduceMul, Nat.reduceSub, Int.reduceToNat, Int.reduceAdd]
          refine opsR_nil ?_
          first
          | exact hkl111 _ _ _ _ (by omega) ⟨i + 1, _, _, rfl, rfl, rfl, by first | omega | assumption | exact hI.set (by omega) rfl, by first | omega | assumption | exact hI.set (by omega) rfl, by first | omega | assumption | exact hI.set (by omega) rfl⟩ rfl
        · have hc116 := ho116; try simp only [spl] at hc116
          refine run_exit ?_
          refine hk101 _ _ ?_
          clear hk101
          have hI := hI.turn (by omega)
          refine run_region ?_
          refine opsR_q rfl (by first | exact q_add64 rfl rfl (by omega) (by omega) | exact q_add rfl rfl) ?_
          simp only [nrm, Nat.reduceAdd, Nat.reduceMul, Nat.reduceSub, Int.reduceToNat, Int.reduceAdd]
          refine opsR_q rfl (q_move) ?_
          simp only [nrm, Nat.reduceAdd, Nat.reduceMul, Nat.reduceSub, Int.reduceToNat, Int.reduceAdd]
          refine opsR_nil ?_
          refine hk98 _ _ ?_
          clear hk98
          refine run_round fun _ hk128 => ?_
          refine run_seq fun _ hk129 => ?_
          refine run_region ?_
          refine opsR_q rfl (q_lss rfl rfl) ?_
          simp only [nrm, Nat.reduceAdd, Nat.reduceMul, Nat.reduceSub, Int.reduceToNat, Int.reduceAdd]
          refine opsR_nil ?_
          refine hk129 _ _ ?_
          clear hk129
          refine run_seq fun _ hk130 => ?_
          refine run_cond (t := false) rfl (fun h => by cases h) (fun _ => ?_)
          refine run_exit ?_
          refine hk8 _ _ ?_
          clear hk8
          refine run_seq fun _ hk131 => ?_
          refine run_region ?_
          refine opsR_q rfl (q_move) ?_
          simp only [nrm, Nat.reduceAdd, Nat.reduceMul, Nat.reduceSub, Int.reduceToNat, Int.reduceAdd]
          refine opsR_q rfl (q_assign) ?_
          simp only [nrm, Nat.reduceAdd, Nat.reduceMul, Nat.reduceSub, Int.reduceToNat, Int.reduceAdd]
          refine opsR_nil ?_
          refine hk131 _ _ ?_
          clear hk131
          refine run_freeze (A := []) hO rfl fun J hJ hv => ?_
          refine run_ret ?_
          exact end_tmp rfl rfl rfl (by first | exact .refl | exact .drop | exact .drop2 | exact .drop3 | exact .drop4 | exact Gh.drop.trans .drop4 | exact Gh.drop2.trans .drop4 | exact Gh.drop3.trans .drop4) (hK _ J (by first | exact .rfl | assumption | exact le2 (by assumption) (by assumption) | exact le3 (by assumption) (by assumption) (by assumption) | exact le4 (by assumption) (by assumption) (by assumption) (by assumption) | exact le5 (by assumption) (by assumption) (by assumption) (by assumption) (by assumption) | exact le6 (by assumption) (by assumption) (by assumption) (by assumption) (by assumption) (by assumption)) (hv.cast hI.done))
end
end Go.Proofs.YtopimbpclgejhaaGreatDoor
