/- Package label: labels of two pairs, and the chapter's example. -/
import Derived.Test.YtlcmlffgebaalaaDoorLP
import Derived.Test.YtlcmlffgebaalaaDoorCK
import Derived.Test.YtlcmlffgebaalaaDoorS20
set_option autoImplicit false
set_option linter.unusedVariables false
set_option linter.unusedSimpArgs false
namespace Go.Proofs.YtlcmlffgebaalaaDoor
open Go Go.RowKit
abbrev cmpB (x y : ByteArray) : Int := Lib.compareBytes x.data.toList y.data.toList
section
attribute [local irreducible] Quiet OpsR Run CallS opS Gh endQ oblE RunN swp Go.Op.equalIn
theorem Compare_spec {x y : ByteArray} {s : St} : CallV Tryd.prog 47 #[.string x, .string y] s (.int .i64 (cmpB x y)) :=
  callV_of_below fun w hs => (Tryd.strings_Compare x y w).mono fun e w' ⟨he, hw⟩ => ⟨he, by rw [hw]; exact Below.refl _ _⟩
theorem cmpLab_spec {a b : Label} {s : St} : CallV Tryd.prog 46 #[.agg #[.string a.Key, .string a.Value], .agg #[.string b.Key, .string b.Value]] s (.int .i64 (cmpB a.Key b.Key)) := by
  intro K hK
  refine callS_of_run Tryd.func46 rfl ?_; simp only [Tryd.ntmps46, List.size_toArray, List.length_cons, List.length_nil, Nat.reduceAdd, Nat.reduceSub, Array.replicate_succ, Array.replicate_zero, List.push_toArray, List.append_toArray, List.nil_append, List.cons_append]
  refine run_seq fun _ hk1 => ?_
  refine run_region ?_
  refine opsR_o rfl (o_box fun b2 hb2 => ?_)
  simp only [nrm, Nat.reduceAdd, Nat.reduceMul, Nat.reduceSub, Int.reduceToNat, Int.reduceAdd]
  refine opsR_o rfl (o_box fun b3 hb3 => ?_)
  simp only [nrm, Nat.reduceAdd, Nat.reduceMul, Nat.reduceSub, Int.reduceToNat, Int.reduceAdd]
  refine opsR_q rfl (q_assign) ?_
  simp only [nrm, Nat.reduceAdd, Nat.reduceMul, Nat.reduceSub, Int.reduceToNat, Int.reduceAdd]
  refine opsR_nil ?_
  refine hk1 _ _ ?_
  clear hk1
  refine run_seq fun _ hk4 => ?_
  refine run_region ?_
  refine opsR_q rfl (q_fieldAddr rfl) ?_
  simp only [nrm, Nat.reduceAdd, Nat.reduceMul, Nat.reduceSub, Int.reduceToNat, Int.reduceAdd]
  refine opsR_q rfl (q_loadB1 rfl inferInstance rfl) ?_
  simp only [nrm, Nat.reduceAdd, Nat.reduceMul, Nat.reduceSub, Int.reduceToNat, Int.reduceAdd]
  refine opsR_q rfl (q_fieldAddr rfl) ?_
  simp only [nrm, Nat.reduceAdd, Nat.reduceMul, Nat.reduceSub, Int.reduceToNat, Int.reduceAdd]
  refine opsR_q rfl (q_loadB1 rfl inferInstance rfl) ?_
  simp only [nrm, Nat.reduceAdd, Nat.reduceMul, Nat.reduceSub, Int.reduceToNat, Int.reduceAdd]
  refine opsR_q rfl (q_call rfl (Compare_spec)) ?_
  simp only [nrm, Nat.reduceAdd, Nat.reduceMul, Nat.reduceSub, Int.reduceToNat, Int.reduceAdd]
  refine opsR_q rfl (q_assign) ?_
  simp only [nrm, Nat.reduceAdd, Nat.reduceMul, Nat.reduceSub, Int.reduceToNat, Int.reduceAdd]
  refine opsR_nil ?_
  refine hk4 _ _ ?_
  clear hk4
  refine run_ret ?_
  exact end_tmp rfl rfl rfl (by first | exact .refl | exact .drop | exact .drop2 | exact .drop3 | exact .drop4 | exact Gh.drop.trans .drop4 | exact Gh.drop2.trans .drop4 | exact Gh.drop3.trans .drop4) hK
theorem cmpLab_two {a b : Label} {s : St} (h : cmpB a.Key b.Key = -1) : CallV Tryd.prog 46 #[.agg #[.string a.Key, .string a.Value], .agg #[.string b.Key, .string b.Value]] s (.int .i64 (-1)) := h ▸ cmpLab_spec
/-- Two labels of which the second one comes ahead change places. -/
theorem ins_two {x y : Label} {v : Value} {hs : List (Nat × Obj)} {s : St} (hv : OwnS kLabel 31 s.I v hs [x, y]) (hc : cmpB y.Key x.Key = -1) (K : Value → St → Prop)
    (hK : ∀ r hs', OwnS kLabel 31 s.I v hs' [y, x] → K r ⟨s.I, hs' ++ s.cs⟩) :
    CallS Tryd.prog 72 #[v, .int .i64 0, .int .i64 2, .func (.func 46) #[] #[]] ⟨s.I, hs ++ s.cs⟩ K := by
  refine callS_of_run Tryd.func72 rfl ?_; simp only [Tryd.ntmps72, List.size_toArray, List.length_cons, List.length_nil, Nat.reduceAdd, Nat.reduceSub, Array.replicate_succ, Array.replicate_zero, List.push_toArray, List.append_toArray, List.nil_append, List.cons_append]
  refine run_seq fun _ hk1 => ?_
  refine run_region ?_
  refine opsR_q rfl (q_move) ?_
  simp only [nrm, Nat.reduceAdd, Nat.reduceMul, Nat.reduceSub, Int.reduceToNat, Int.reduceAdd]
  refine opsR_q rfl (by first | exact q_add64 rfl rfl (by omega) (by omega) | exact q_add rfl rfl) ?_
  simp only [nrm, Nat.reduceAdd, Nat.reduceMul, Nat.reduceSub, Int.reduceToNat, Int.reduceAdd]
  refine opsR_q rfl (q_assign) ?_
  simp only [nrm, Nat.reduceAdd, Nat.reduceMul, Nat.reduceSub, Int.reduceToNat, Int.reduceAdd]
  refine opsR_nil ?_
  refine hk1 _ _ ?_
  clear hk1
  refine run_block ?_
  refine run_rounds 2 ?_
  refine run_round fun _ hk3 => ?_
  refine run_seq fun _ hk4 => ?_
  refine run_seq fun _ hk5 => ?_
  refine run_region ?_
  refine opsR_q rfl (q_move) ?_
  simp only [nrm, Nat.reduceAdd, Nat.reduceMul, Nat.reduceSub, Int.reduceToNat, Int.reduceAdd]
  refine opsR_q rfl (q_move) ?_
  simp only [nrm, Nat.reduceAdd, Nat.reduceMul, Nat.reduceSub, Int.reduceToNat, Int.reduceAdd]
  refine opsR_q rfl (q_lss rfl rfl) ?_
  simp only [nrm, Nat.reduceAdd, Nat.reduceMul, Nat.reduceSub, Int.reduceToNat, Int.reduceAdd]
  refine opsR_nil ?_
  refine hk5 _ _ ?_
  clear hk5
  refine run_cond (t := true) rfl (fun _ => ?_) (fun h => by cases h)
  refine run_skip ?_
  refine hk4 _ _ ?_
  clear hk4
  refine run_seq fun _ hk7 => ?_
  refine run_block ?_
  refine run_seq fun _ hk8 => ?_
  refine run_region ?_
  refine opsR_q rfl (q_move) ?_
  simp only [nrm, Nat.reduceAdd, Nat.reduceMul, Nat.reduceSub, Int.reduceToNat, Int.reduceAdd]
  refine opsR_q rfl (q_assign) ?_
  simp only [nrm, Nat.reduceAdd, Nat.reduceMul, Nat.reduceSub, Int.reduceToNat, Int.reduceAdd]
  refine opsR_nil ?_
  refine hk8 _ _ ?_
  clear hk8
  refine run_block ?_
  refine run_rounds 2 ?_
  refine run_round fun _ hk9 => ?_
  refine run_seq fun _ hk10 => ?_
  refine run_seq fun _ hk11 => ?_
  refine run_drawE mixed 17 (by kernel_rfl) rfl ?_
  simp only [List.take_succ_cons, List.take_zero, List.drop_succ_cons, List.drop_zero, List.drop_nil, List.take_nil]
  refine oblE_q rfl (fun I hI => (q_move)) ?_
  simp only [nrm, Nat.reduceAdd, Nat.reduceMul, Nat.reduceSub, Int.reduceToNat, Int.reduceAdd]
  refine oblE_q rfl (fun I hI => (q_move)) ?_
  simp only [nrm, Nat.reduceAdd, Nat.reduceMul, Nat.reduceSub, Int.reduceToNat, Int.reduceAdd]
  refine oblE_q rfl (fun I hI => (q_gtr rfl rfl)) ?_
  simp only [nrm, Nat.reduceAdd, Nat.reduceMul, Nat.reduceSub, Int.reduceToNat, Int.reduceAdd]
  refine oblE_q rfl (fun I hI => (q_move)) ?_
  simp only [nrm, Nat.reduceAdd, Nat.reduceMul, Nat.reduceSub, Int.reduceToNat, Int.reduceAdd]
  refine oblE_q rfl (fun I hI => (q_move)) ?_
  simp only [nrm, Nat.reduceAdd, Nat.reduceMul, Nat.reduceSub, Int.reduceToNat, Int.reduceAdd]
  refine oblE_q rfl (fun I hI => (q_move)) ?_
  simp only [nrm, Nat.reduceAdd, Nat.reduceMul, Nat.reduceSub, Int.reduceToNat, Int.reduceAdd]
  refine oblE_q rfl (fun I hI => (q_move)) ?_
  simp only [nrm, Nat.reduceAdd, Nat.reduceMul, Nat.reduceSub, Int.reduceToNat, Int.reduceAdd]
  refine oblE_index rfl rfl rfl (by first | exact Sl.r (by assumption) (by first | exact .rfl | assumption | exact le2 (by assumption) (by assumption) | exact le3 (by assumption) (by assumption) (by assumption) | exact le4 (by assumption) (by assumption) (by assumption) (by assumption) | exact le5 (by assumption) (by assumption) (by assumption) (by assumption) (by assumption) | exact le6 (by assumption) (by assumption) (by assumption) (by assumption) (by assumption) (by assumption)) | (refine OwnS.r (OwnS.mono ?_ (by assumption)) (by intro p hp; simp only [List.mem_append, List.mem_cons, hp, true_or, or_true]); first | exact .rfl | assumption | exact le2 (by assumption) (by assumption) | exact le3 (by assumption) (by assumption) (by assumption) | exact le4 (by assumption) (by assumption) (by assumption) (by assumption) | exact le5 (by assumption) (by assumption) (by assumption) (by assumption) (by assumption) | exact le6 (by assumption) (by assumption) (by assumption) (by assumption) (by assumption) (by assumption)) | assumption) (by rfl) (by first | omega | ((try simp only [List.length_append, List.length_cons, List.length_nil, List.length_set, List.length_replicate, List.length_take, List.length_drop, List.length_map] at *); omega)) (by first | omega | ((try simp only [List.length_append, List.length_cons, List.length_nil, List.length_set, List.length_replicate, List.length_take, List.length_drop, List.length_map] at *); omega)) fun b14 o14 cs14 ha14 hr14 he14 => ?_
  simp only [nrm, Nat.reduceAdd, Nat.reduceMul, Nat.reduceSub, Int.reduceToNat, Int.reduceAdd]
  try simp only [Int.toNat_natCast, Int.reduceToNat, Int.toNat_zero] at hr14
  try simp only [Int.toNat_natCast, Int.reduceToNat, Int.toNat_zero] at he14
  clear ha14
  obtain rfl := kLabel.open hr14
  refine oblE_q rfl (fun I hI => (by first | exact q_load_atW rfl (El.mono (by assumption) hI) (by rfl) rfl | exact q_load_atN0 rfl (El.mono (by assumption) hI) rfl rfl | exact q_load_atN rfl (El.mono (by assumption) hI) rfl (Nat.le_of_ble_eq_true rfl) (Nat.le_of_ble_eq_true rfl))) ?_
  simp only [nrm, Nat.reduceAdd, Nat.reduceMul, Nat.reduceSub, Int.reduceToNat, Int.reduceAdd]
  refine oblE_q rfl (fun I hI => (q_move)) ?_
  simp only [nrm, Nat.reduceAdd, Nat.reduceMul, Nat.reduceSub, Int.reduceToNat, Int.reduceAdd]
  refine oblE_q rfl (fun I hI => (q_move)) ?_
  simp only [nrm, Nat.reduceAdd, Nat.reduceMul, Nat.reduceSub, Int.reduceToNat, Int.reduceAdd]
  refine oblE_q rfl (fun I hI => (by first | exact q_sub64 rfl rfl (by omega) (by omega) | exact q_sub rfl rfl)) ?_
  simp only [nrm, Nat.reduceAdd, Nat.reduceMul, Nat.reduceSub, Int.reduceToNat, Int.reduceAdd]
  refine oblE_index rfl rfl rfl (by first | exact Sl.r (by assumption) (by first | exact .rfl | assumption | exact le2 (by assumption) (by assumption) | exact le3 (by assumption) (by assumption) (by assumption) | exact le4 (by assumption) (by assumption) (by assumption) (by assumption) | exact le5 (by assumption) (by assumption) (by assumption) (by assumption) (by assumption) | exact le6 (by assumption) (by assumption) (by assumption) (by assumption) (by assumption) (by assumption)) | (refine OwnS.r (OwnS.mono ?_ (by assumption)) (by intro p hp; simp only [List.mem_append, List.mem_cons, hp, true_or, or_true]); first | exact .rfl | assumption | exact le2 (by assumption) (by assumption) | exact le3 (by assumption) (by assumption) (by assumption) | exact le4 (by assumption) (by assumption) (by assumption) (by assumption) | exact le5 (by assumption) (by assumption) (by assumption) (by assumption) (by assumption) | exact le6 (by assumption) (by assumption) (by assumption) (by assumption) (by assumption) (by assumption)) | assumption) (by rfl) (by first | omega | ((try simp only [List.length_append, List.length_cons, List.length_nil, List.length_set, List.length_replicate, List.length_take, List.length_drop, List.length_map] at *); omega)) (by first | omega | ((try simp only [List.length_append, List.length_cons, List.length_nil, List.length_set, List.length_replicate, List.length_take, List.length_drop, List.length_map] at *); omega)) fun b15 o15 cs15 ha15 hr15 he15 => ?_
  simp only [nrm, Nat.reduceAdd, Nat.reduceMul, Nat.reduceSub, Int.reduceToNat, Int.reduceAdd]
  try simp only [Int.toNat_natCast, Int.reduceToNat, Int.toNat_zero] at hr15
  try simp only [Int.toNat_natCast, Int.reduceToNat, Int.toNat_zero] at he15
  clear ha15
  obtain rfl := kLabel.open hr15
  refine oblE_q rfl (fun I hI => (by first | exact q_load_atW rfl (El.mono (by assumption) hI) (by rfl) rfl | exact q_load_atN0 rfl (El.mono (by assumption) hI) rfl rfl | exact q_load_atN rfl (El.mono (by assumption) hI) rfl (Nat.le_of_ble_eq_true rfl) (Nat.le_of_ble_eq_true rfl))) ?_
  simp only [nrm, Nat.reduceAdd, Nat.reduceMul, Nat.reduceSub, Int.reduceToNat, Int.reduceAdd]
  refine oblE_q rfl (fun I hI => (q_call rfl (cmpLab_two hc))) ?_
  simp only [nrm, Nat.reduceAdd, Nat.reduceMul, Nat.reduceSub, Int.reduceToNat, Int.reduceAdd]
  refine oblE_q rfl (fun I hI => (q_lss rfl rfl)) ?_
  simp only [nrm, Nat.reduceAdd, Nat.reduceMul, Nat.reduceSub, Int.reduceToNat, Int.reduceAdd]
  refine oblE_q rfl (fun I hI => (q_pick_t rfl)) ?_
  simp only [nrm, Nat.reduceAdd, Nat.reduceMul, Nat.reduceSub, Int.reduceToNat, Int.reduceAdd]
  refine oblE_nil (show OpsR _ _ _ _ _ _ from ?_)
  try simp only [nrm, Nat.reduceAdd, Nat.reduceMul, Nat.reduceSub, Int.reduceToNat, Int.reduceAdd]
  refine opsR_nil ?_
  refine hk11 _ _ ?_
  clear hk11
  refine run_cond (t := true) rfl (fun _ => ?_) (fun h => by cases h)
  refine run_skip ?_
  refine hk10 _ _ ?_
  clear hk10
  refine run_seq fun _ hk17 => ?_
  refine run_block ?_
  refine run_mixL mixed [true, true, true, true, true, true, true, true, true, true, true, true, true, true, true, false, true, false] [true, true, false, false, false, true, true, true, true, true, true, true, true, true, true, false, false, false] [15, 17] (fun _ => True) (by kernel_rfl) rfl trivial ?_
  refine oblK_b rfl (q_move) ?_
  simp only [nrm, Nat.reduceAdd, Nat.reduceMul, Nat.reduceSub, Int.reduceToNat, Int.reduceAdd]
  refine oblK_b rfl (q_move) ?_
  simp only [nrm, Nat.reduceAdd, Nat.reduceMul, Nat.reduceSub, Int.reduceToNat, Int.reduceAdd]
  refine oblK_k rfl (fun z hz => (q_move)) ?_
  simp only [nrm, Nat.reduceAdd, Nat.reduceMul, Nat.reduceSub, Int.reduceToNat, Int.reduceAdd]
  refine oblK_k rfl (fun z hz => (q_move)) ?_
  simp only [nrm, Nat.reduceAdd, Nat.reduceMul, Nat.reduceSub, Int.reduceToNat, Int.reduceAdd]
  refine oblK_k rfl (fun z hz => (by first | exact q_sub64 rfl rfl (by omega) (by omega) | exact q_sub rfl rfl)) ?_
  simp only [nrm, Nat.reduceAdd, Nat.reduceMul, Nat.reduceSub, Int.reduceToNat, Int.reduceAdd]
  refine oblK_b rfl (q_move) ?_
  simp only [nrm, Nat.reduceAdd, Nat.reduceMul, Nat.reduceSub, Int.reduceToNat, Int.reduceAdd]
  refine oblK_b rfl (q_move) ?_
  simp only [nrm, Nat.reduceAdd, Nat.reduceMul, Nat.reduceSub, Int.reduceToNat, Int.reduceAdd]
  refine oblK_b rfl (by first | exact q_sub64 rfl rfl (by omega) (by omega) | exact q_sub rfl rfl) ?_
  simp only [nrm, Nat.reduceAdd, Nat.reduceMul, Nat.reduceSub, Int.reduceToNat, Int.reduceAdd]
  refine oblK_index rfl rfl rfl (by first | exact Sl.r (by assumption) (by first | exact .rfl | assumption | exact le2 (by assumption) (by assumption) | exact le3 (by assumption) (by assumption) (by assumption) | exact le4 (by assumption) (by assumption) (by assumption) (by assumption) | exact le5 (by assumption) (by assumption) (by assumption) (by assumption) (by assumption) | exact le6 (by assumption) (by assumption) (by assumption) (by assumption) (by assumption) (by assumption)) | (refine OwnS.r (OwnS.mono ?_ (by assumption)) (by intro p hp; simp only [List.mem_append, List.mem_cons, hp, true_or, or_true]); first | exact .rfl | assumption | exact le2 (by assumption) (by assumption) | exact le3 (by assumption) (by assumption) (by assumption) | exact le4 (by assumption) (by assumption) (by assumption) (by assumption) | exact le5 (by assumption) (by assumption) (by assumption) (by assumption) (by assumption) | exact le6 (by assumption) (by assumption) (by assumption) (by assumption) (by assumption) (by assumption)) | assumption) (by rfl) (by first | omega | ((try simp only [List.length_append, List.length_cons, List.length_nil, List.length_set, List.length_replicate, List.length_take, List.length_drop, List.length_map] at *); omega)) (by first | omega | ((try simp only [List.length_append, List.length_cons, List.length_nil, List.length_set, List.length_replicate, List.length_take, List.length_drop, List.length_map] at *); omega)) fun b18 o18 cs18 ha18 hr18 he18 => ?_
  simp only [nrm, Nat.reduceAdd, Nat.reduceMul, Nat.reduceSub, Int.reduceToNat, Int.reduceAdd]
  try simp only [Int.toNat_natCast, Int.reduceToNat, Int.toNat_zero] at hr18
  try simp only [Int.toNat_natCast, Int.reduceToNat, Int.toNat_zero] at he18
  clear ha18
  obtain rfl := kLabel.open hr18
  refine oblK_b rfl (by first | exact q_load_atW rfl (by assumption) (by rfl) rfl | exact q_load_atN0 rfl (by assumption) rfl rfl | exact q_load_atN rfl (by assumption) rfl (Nat.le_of_ble_eq_true rfl) (Nat.le_of_ble_eq_true rfl)) ?_
  simp only [nrm, Nat.reduceAdd, Nat.reduceMul, Nat.reduceSub, Int.reduceToNat, Int.reduceAdd]
  refine oblK_b rfl (q_move) ?_
  simp only [nrm, Nat.reduceAdd, Nat.reduceMul, Nat.reduceSub, Int.reduceToNat, Int.reduceAdd]
  refine oblK_b rfl (q_move) ?_
  simp only [nrm, Nat.reduceAdd, Nat.reduceMul, Nat.reduceSub, Int.reduceToNat, Int.reduceAdd]
  refine oblK_index rfl rfl rfl (by first | exact Sl.r (by assumption) (by first | exact .rfl | assumption | exact le2 (by assumption) (by assumption) | exact le3 (by assumption) (by assumption) (by assumption) | exact le4 (by assumption) (by assumption) (by assumption) (by assumption) | exact le5 (by assumption) (by assumption) (by assumption) (by assumption) (by assumption) | exact le6 (by assumption) (by assumption) (by assumption) (by assumption) (by assumption) (by assumption)) | (refine OwnS.r (OwnS.mono ?_ (by assumption)) (by intro p hp; simp only [List.mem_append, List.mem_cons, hp, true_or, or_true]); first | exact .rfl | assumption | exact le2 (by assumption) (by assumption) | exact le3 (by assumption) (by assumption) (by assumption) | exact le4 (by assumption) (by assumption) (by assumption) (by assumption) | exact le5 (by assumption) (by assumption) (by assumption) (by assumption) (by assumption) | exact le6 (by assumption) (by assumption) (by assumption) (by assumption) (by assumption) (by assumption)) | assumption) (by rfl) (by first | omega | ((try simp only [List.length_append, List.length_cons, List.length_nil, List.length_set, List.length_replicate, List.length_take, List.length_drop, List.length_map] at *); omega)) (by first | omega | ((try simp only [List.length_append, List.length_cons, List.length_nil, List.length_set, List.length_replicate, List.length_take, List.length_drop, List.length_map] at *); omega)) fun b19 o19 cs19 ha19 hr19 he19 => ?_
  simp only [nrm, Nat.reduceAdd, Nat.reduceMul, Nat.reduceSub, Int.reduceToNat, Int.reduceAdd]
  try simp only [Int.toNat_natCast, Int.reduceToNat, Int.toNat_zero] at hr19
  try simp only [Int.toNat_natCast, Int.reduceToNat, Int.toNat_zero] at he19
  clear ha19
  obtain rfl := kLabel.open hr19
  refine oblK_b rfl (by first | exact q_load_atW rfl (by assumption) (by rfl) rfl | exact q_load_atN0 rfl (by assumption) rfl rfl | exact q_load_atN rfl (by assumption) rfl (Nat.le_of_ble_eq_true rfl) (Nat.le_of_ble_eq_true rfl)) ?_
  simp only [nrm, Nat.reduceAdd, Nat.reduceMul, Nat.reduceSub, Int.reduceToNat, Int.reduceAdd]
  refine oblK_index rfl rfl rfl (by first | exact Sl.r (by assumption) (by first | exact .rfl | assumption | exact le2 (by assumption) (by assumption) | exact le3 (by assumption) (by assumption) (by assumption) | exact le4 (by assumption) (by assumption) (by assumption) (by assumption) | exact le5 (by assumption) (by assumption) (by assumption) (by assumption) (by assumption) | exact le6 (by assumption) (by assumption) (by assumption) (by assumption) (by assumption) (by assumption)) | (refine OwnS.r (OwnS.mono ?_ (by assumption)) (by intro p hp; simp only [List.mem_append, List.mem_cons, hp, true_or, or_true]); first | exact .rfl | assumption | exact le2 (by assumption) (by assumption) | exact le3 (by assumption) (by assumption) (by assumption) | exact le4 (by assumption) (by assumption) (by assumption) (by assumption) | exact le5 (by assumption) (by assumption) (by assumption) (by assumption) (by assumption) | exact le6 (by assumption) (by assumption) (by assumption) (by assumption) (by assumption) (by assumption)) | assumption) (by rfl) (by first | omega | ((try simp only [List.length_append, List.length_cons, List.length_nil, List.length_set, List.length_replicate, List.length_take, List.length_drop, List.length_map] at *); omega)) (by first | omega | ((try simp only [List.length_append, List.length_cons, List.length_nil, List.length_set, List.length_replicate, List.length_take, List.length_drop, List.length_map] at *); omega)) fun b20 o20 cs20 ha20 hr20 he20 => ?_
  simp only [nrm, Nat.reduceAdd, Nat.reduceMul, Nat.reduceSub, Int.reduceToNat, Int.reduceAdd]
  try simp only [Int.toNat_natCast, Int.reduceToNat, Int.toNat_zero] at hr20
  try simp only [Int.toNat_natCast, Int.reduceToNat, Int.toNat_zero] at he20
  try simp only [nrm, Nat.reduceAdd, Nat.reduceMul, Nat.reduceSub, Int.reduceToNat, Int.reduceAdd] at ha20
  obtain rfl := kLabel.open hr20
  refine oblK_r ?_
  refine oblK_index rfl rfl rfl (by first | exact Sl.r (by assumption) (by first | exact .rfl | assumption | exact le2 (by assumption) (by assumption) | exact le3 (by assumption) (by assumption) (by assumption) | exact le4 (by assumption) (by assumption) (by assumption) (by assumption) | exact le5 (by assumption) (by assumption) (by assumption) (by assumption) (by assumption) | exact le6 (by assumption) (by assumption) (by assumption) (by assumption) (by assumption) (by assumption)) | (refine OwnS.r (OwnS.mono ?_ (by assumption)) (by intro p hp; simp only [List.mem_append, List.mem_cons, hp, true_or, or_true]); first | exact .rfl | assumption | exact le2 (by assumption) (by assumption) | exact le3 (by assumption) (by assumption) (by assumption) | exact le4 (by assumption) (by assumption) (by assumption) (by assumption) | exact le5 (by assumption) (by assumption) (by assumption) (by assumption) (by assumption) | exact le6 (by assumption) (by assumption) (by assumption) (by assumption) (by assumption) (by assumption)) | assumption) (by rfl) (by first | omega | ((try simp only [List.length_append, List.length_cons, List.length_nil, List.length_set, List.length_replicate, List.length_take, List.length_drop, List.length_map] at *); omega)) (by first | omega | ((try simp only [List.length_append, List.length_cons, List.length_nil, List.length_set, List.length_replicate, List.length_take, List.length_drop, List.length_map] at *); omega)) fun b21 o21 cs21 ha21 hr21 he21 => ?_
  simp only [nrm, Nat.reduceAdd, Nat.reduceMul, Nat.reduceSub, Int.reduceToNat, Int.reduceAdd]
  try simp only [Int.toNat_natCast, Int.reduceToNat, Int.toNat_zero] at hr21
  try simp only [Int.toNat_natCast, Int.reduceToNat, Int.toNat_zero] at he21
  try simp only [nrm, Nat.reduceAdd, Nat.reduceMul, Nat.reduceSub, Int.reduceToNat, Int.reduceAdd] at ha21
  obtain rfl := kLabel.open hr21
  refine oblK_r ?_
  refine oblK_nil ?_
  refine restK_pick [15] (by kernel_rfl) ⟨?_, trivial⟩
  refine restK_op rfl ?_
  simp only [List.getElem_toArray, List.getElem_cons_zero, List.getElem_cons_succ]
  refine opsR_stO rfl rfl rfl (by assumption) (by first | assumption | (refine OwnS.mono ?_ (by assumption); first | exact .rfl | assumption | exact le2 (by assumption) (by assumption) | exact le3 (by assumption) (by assumption) (by assumption) | exact le4 (by assumption) (by assumption) (by assumption) (by assumption) | exact le5 (by assumption) (by assumption) (by assumption) (by assumption) (by assumption) | exact le6 (by assumption) (by assumption) (by assumption) (by assumption) (by assumption) (by assumption))) (by infer_instance) (by rfl) (by first | rfl | assumption | exact kLabel.shut | (refine Kd.mono _ ?_ (by assumption); first | exact .rfl | assumption | exact le2 (by assumption) (by assumption) | exact le3 (by assumption) (by assumption) (by assumption) | exact le4 (by assumption) (by assumption) (by assumption) (by assumption) | exact le5 (by assumption) (by assumption) (by assumption) (by assumption) (by assumption) | exact le6 (by assumption) (by assumption) (by assumption) (by assumption) (by assumption) (by assumption)) | (apply kLabel.shut <;> assumption)) fun hs22 hv22 => ?_
  simp only [nrm, Nat.reduceAdd, Nat.reduceMul, Nat.reduceSub, Int.reduceToNat, Int.reduceAdd]
  refine opsR_nil ⟨rfl, rfl, trivial, ?_⟩
  refine restK_pick [17] (by kernel_rfl) ⟨?_, trivial⟩
  refine restK_op rfl ?_
  simp only [List.getElem_toArray, List.getElem_cons_zero, List.getElem_cons_succ]
  refine opsR_stO rfl rfl rfl (by assumption) (by first | assumption | (refine OwnS.mono ?_ (by assumption); first | exact .rfl | assumption | exact le2 (by assumption) (by assumption) | exact le3 (by assumption) (by assumption) (by assumption) | exact le4 (by assumption) (by assumption) (by assumption) (by assumption) | exact le5 (by assumption) (by assumption) (by assumption) (by assumption) (by assumption) | exact le6 (by assumption) (by assumption) (by assumption) (by assumption) (by assumption) (by assumption))) (by infer_instance) (by rfl) (by first | rfl | assumption | exact kLabel.shut | (refine Kd.mono _ ?_ (by assumption); first | exact .rfl | assumption | exact le2 (by assumption) (by assumption) | exact le3 (by assumption) (by assumption) (by assumption) | exact le4 (by assumption) (by assumption) (by assumption) (by assumption) | exact le5 (by assumption) (by assumption) (by assumption) (by assumption) (by assumption) | exact le6 (by assumption) (by assumption) (by assumption) (by assumption) (by assumption) (by assumption)) | (apply kLabel.shut <;> assumption)) fun hs23 hv23 => ?_
  simp only [nrm, Nat.reduceAdd, Nat.reduceMul, Nat.reduceSub, Int.reduceToNat, Int.reduceAdd]
  refine opsR_nil ⟨rfl, rfl, trivial, ?_⟩
  refine restK_end rfl ?_
  try simp only [nrm, Nat.reduceAdd, Nat.reduceMul, Nat.reduceSub, Int.reduceToNat, Int.reduceAdd]
  refine hk17 _ _ ?_
  clear hk17
  refine run_region ?_
  refine opsR_q rfl (q_move) ?_
  simp only [nrm, Nat.reduceAdd, Nat.reduceMul, Nat.reduceSub, Int.reduceToNat, Int.reduceAdd]
  refine opsR_q rfl (by first | exact q_sub64 rfl rfl (by omega) (by omega) | exact q_sub rfl rfl) ?_
  simp only [nrm, Nat.reduceAdd, Nat.reduceMul, Nat.reduceSub, Int.reduceToNat, Int.reduceAdd]
  refine opsR_q rfl (q_assign) ?_
  simp only [nrm, Nat.reduceAdd, Nat.reduceMul, Nat.reduceSub, Int.reduceToNat, Int.reduceAdd]
  refine opsR_nil ?_
  refine hk9 _ _ ?_
  clear hk9
  refine run_round fun _ hk24 => ?_
  refine run_seq fun _ hk25 => ?_
  refine run_seq fun _ hk26 => ?_
  refine run_drawE mixed 17 (by kernel_rfl) rfl ?_
  simp only [List.take_succ_cons, List.take_zero, List.drop_succ_cons, List.drop_zero, List.drop_nil, List.take_nil]
  refine oblE_q rfl (fun I hI => (q_move)) ?_
  simp only [nrm, Nat.reduceAdd, Nat.reduceMul, Nat.reduceSub, Int.reduceToNat, Int.reduceAdd]
  refine oblE_q rfl (fun I hI => (q_move)) ?_
  simp only [nrm, Nat.reduceAdd, Nat.reduceMul, Nat.reduceSub, Int.reduceToNat, Int.reduceAdd]
  refine oblE_q rfl (fun I hI => (q_gtr rfl rfl)) ?_
  simp only [nrm, Nat.reduceAdd, Nat.reduceMul, Nat.reduceSub, Int.reduceToNat, Int.reduceAdd]
  refine oblE_q rfl (fun I hI => (q_move)) ?_
  simp only [nrm, Nat.reduceAdd, Nat.reduceMul, Nat.reduceSub, Int.reduceToNat, Int.reduceAdd]
  refine oblE_skip rfl ?_
  simp only [nrm, Nat.reduceAdd, Nat.reduceMul, Nat.reduceSub, Int.reduceToNat, Int.reduceAdd]
  refine oblE_skip rfl ?_
  simp only [nrm, Nat.reduceAdd, Nat.reduceMul, Nat.reduceSub, Int.reduceToNat, Int.reduceAdd]
  refine oblE_skip rfl ?_
  simp only [nrm, Nat.reduceAdd, Nat.reduceMul, Nat.reduceSub, Int.reduceToNat, Int.reduceAdd]
  refine oblE_skip rfl ?_
  simp only [nrm, Nat.reduceAdd, Nat.reduceMul, Nat.reduceSub, Int.reduceToNat, Int.reduceAdd]
  refine oblE_skip rfl ?_
  simp only [nrm, Nat.reduceAdd, Nat.reduceMul, Nat.reduceSub, Int.reduceToNat, Int.reduceAdd]
  refine oblE_skip rfl ?_
  simp only [nrm, Nat.reduceAdd, Nat.reduceMul, Nat.reduceSub, Int.reduceToNat, Int.reduceAdd]
  refine oblE_skip rfl ?_
  simp only [nrm, Nat.reduceAdd, Nat.reduceMul, Nat.reduceSub, Int.reduceToNat, Int.reduceAdd]
  refine oblE_skip rfl ?_
  simp only [nrm, Nat.reduceAdd, Nat.reduceMul, Nat.reduceSub, Int.reduceToNat, Int.reduceAdd]
  refine oblE_skip rfl ?_
  simp only [nrm, Nat.reduceAdd, Nat.reduceMul, Nat.reduceSub, Int.reduceToNat, Int.reduceAdd]
  refine oblE_skip rfl ?_
  simp only [nrm, Nat.reduceAdd, Nat.reduceMul, Nat.reduceSub, Int.reduceToNat, Int.reduceAdd]
  refine oblE_skip rfl ?_
  simp only [nrm, Nat.reduceAdd, Nat.reduceMul, Nat.reduceSub, Int.reduceToNat, Int.reduceAdd]
  refine oblE_skip rfl ?_
  simp only [nrm, Nat.reduceAdd, Nat.reduceMul, Nat.reduceSub, Int.reduceToNat, Int.reduceAdd]
  refine oblE_q rfl (fun I hI => (q_pick_f rfl)) ?_
  simp only [nrm, Nat.reduceAdd, Nat.reduceMul, Nat.reduceSub, Int.reduceToNat, Int.reduceAdd]
  refine oblE_nil (show OpsR _ _ _ _ _ _ from ?_)
  try simp only [nrm, Nat.reduceAdd, Nat.reduceMul, Nat.reduceSub, Int.reduceToNat, Int.reduceAdd]
  refine opsR_nil ?_
  refine hk26 _ _ ?_
  clear hk26
  refine run_cond (t := false) rfl (fun h => by cases h) (fun _ => ?_)
  refine run_exit ?_
  refine hk7 _ _ ?_
  clear hk7
  refine run_region ?_
  refine opsR_q rfl (q_move) ?_
  simp only [nrm, Nat.reduceAdd, Nat.reduceMul, Nat.reduceSub, Int.reduceToNat, Int.reduceAdd]
  refine opsR_q rfl (by first | exact q_add64 rfl rfl (by omega) (by omega) | exact q_add rfl rfl) ?_
  simp only [nrm, Nat.reduceAdd, Nat.reduceMul, Nat.reduceSub, Int.reduceToNat, Int.reduceAdd]
  refine opsR_q rfl (q_assign) ?_
  simp only [nrm, Nat.reduceAdd, Nat.reduceMul, Nat.reduceSub, Int.reduceToNat, Int.reduceAdd]
  refine opsR_nil ?_
  refine hk3 _ _ ?_
  clear hk3
  refine run_round fun _ hk27 => ?_
  refine run_seq fun _ hk28 => ?_
  refine run_seq fun _ hk29 => ?_
  refine run_region ?_
  refine opsR_q rfl (q_move) ?_
  simp only [nrm, Nat.reduceAdd, Nat.reduceMul, Nat.reduceSub, Int.reduceToNat, Int.reduceAdd]
  refine opsR_q rfl (q_move) ?_
  simp only [nrm, Nat.reduceAdd, Nat.reduceMul, Nat.reduceSub, Int.reduceToNat, Int.reduceAdd]
  refine opsR_q rfl (q_lss rfl rfl) ?_
  simp only [nrm, Nat.reduceAdd, Nat.reduceMul, Nat.reduceSub, Int.reduceToNat, Int.reduceAdd]
  refine opsR_nil ?_
  refine hk29 _ _ ?_
  clear hk29
  refine run_cond (t := false) rfl (fun h => by cases h) (fun _ => ?_)
  refine run_exit ?_
  exact end_none' rfl rfl (by first | exact .refl | exact .drop | exact .drop2 | exact .drop3 | exact .drop4 | exact Gh.drop.trans .drop4 | exact Gh.drop2.trans .drop4 | exact Gh.drop3.trans .drop4) (hK _ _ (OwnS.cast (by assumption) rfl))
theorem stable_two {x y : Label} {v : Value} {hs : List (Nat × Obj)} {s : St} (hv : OwnS kLabel 31 s.I v hs [x, y]) (hc : cmpB y.Key x.Key = -1) (K : Value → St → Prop)
    (hK : ∀ r hs', OwnS kLabel 31 s.I v hs' [y, x] → K r ⟨s.I, hs' ++ s.cs⟩) :
    CallS Tryd.prog 61 #[v, .int .i64 2, .func (.func 46) #[] #[]] ⟨s.I, hs ++ s.cs⟩ K := by
  refine callS_of_run Tryd.func61 rfl ?_; simp only [Tryd.ntmps61, List.size_toArray, List.length_cons, List.length_nil, Nat.reduceAdd, Nat.reduceSub, Array.replicate_succ, Array.replicate_zero, List.push_toArray, List.append_toArray, List.nil_append, List.cons_append]
  refine run_seq fun _ hk1 => ?_
  refine run_region ?_
  refine opsR_q rfl (q_assign) ?_
  simp only [nrm, Nat.reduceAdd, Nat.reduceMul, Nat.reduceSub, Int.reduceToNat, Int.reduceAdd]
  refine opsR_nil ?_
  refine hk1 _ _ ?_
  clear hk1
  refine run_seq fun _ hk2 => ?_
  refine run_region ?_
  refine opsR_q rfl (q_move) ?_
  simp only [nrm, Nat.reduceAdd, Nat.reduceMul, Nat.reduceSub, Int.reduceToNat, Int.reduceAdd]
  refine opsR_q rfl (q_assign) ?_
  simp only [nrm, Nat.reduceAdd, Nat.reduceMul, Nat.reduceSub, Int.reduceToNat, Int.reduceAdd]
  refine opsR_q rfl (q_assign) ?_
  simp only [nrm, Nat.reduceAdd, Nat.reduceMul, Nat.reduceSub, Int.reduceToNat, Int.reduceAdd]
  refine opsR_nil ?_
  refine hk2 _ _ ?_
  clear hk2
  refine run_seq fun _ hk3 => ?_
  refine run_block ?_
  refine run_rounds 1 ?_
  refine run_round fun _ hk4 => ?_
  refine run_seq fun _ hk5 => ?_
  refine run_seq fun _ hk6 => ?_
  refine run_region ?_
  refine opsR_q rfl (q_move) ?_
  simp only [nrm, Nat.reduceAdd, Nat.reduceMul, Nat.reduceSub, Int.reduceToNat, Int.reduceAdd]
  refine opsR_q rfl (q_move) ?_
  simp only [nrm, Nat.reduceAdd, Nat.reduceMul, Nat.reduceSub, Int.reduceToNat, Int.reduceAdd]
  refine opsR_q rfl (q_leq rfl rfl) ?_
  simp only [nrm, Nat.reduceAdd, Nat.reduceMul, Nat.reduceSub, Int.reduceToNat, Int.reduceAdd]
  refine opsR_nil ?_
  refine hk6 _ _ ?_
  clear hk6
  refine run_cond (t := false) rfl (fun h => by cases h) (fun _ => ?_)
  refine run_exit ?_
  refine hk3 _ _ ?_
  clear hk3
  refine run_seq fun _ hk8 => ?_
  refine run_region ?_
  refine opsR_q rfl (q_move) ?_
  simp only [nrm, Nat.reduceAdd, Nat.reduceMul, Nat.reduceSub, Int.reduceToNat, Int.reduceAdd]
  refine opsR_q rfl (q_move) ?_
  simp only [nrm, Nat.reduceAdd, Nat.reduceMul, Nat.reduceSub, Int.reduceToNat, Int.reduceAdd]
  refine opsR_q rfl (q_move) ?_
  simp only [nrm, Nat.reduceAdd, Nat.reduceMul, Nat.reduceSub, Int.reduceToNat, Int.reduceAdd]
  refine opsR_q rfl (q_move) ?_
  simp only [nrm, Nat.reduceAdd, Nat.reduceMul, Nat.reduceSub, Int.reduceToNat, Int.reduceAdd]
  refine opsR_o rfl (o_call rfl (ins_two (hs := hs) hv hc _ fun r2 hs2 hv2 => ?_))
  simp only [nrm, Nat.reduceAdd, Nat.reduceMul, Nat.reduceSub, Int.reduceToNat, Int.reduceAdd]
  refine opsR_nil ?_
  refine hk8 _ _ ?_
  clear hk8
  refine run_block ?_
  refine run_rounds 1 ?_
  refine run_round fun _ hk12 => ?_
  refine run_seq fun _ hk13 => ?_
  refine run_seq fun _ hk14 => ?_
  refine run_region ?_
  refine opsR_q rfl (q_move) ?_
  simp only [nrm, Nat.reduceAdd, Nat.reduceMul, Nat.reduceSub, Int.reduceToNat, Int.reduceAdd]
  refine opsR_q rfl (q_move) ?_
  simp only [nrm, Nat.reduceAdd, Nat.reduceMul, Nat.reduceSub, Int.reduceToNat, Int.reduceAdd]
  refine opsR_q rfl (q_lss rfl rfl) ?_
  simp only [nrm, Nat.reduceAdd, Nat.reduceMul, Nat.reduceSub, Int.reduceToNat, Int.reduceAdd]
  refine opsR_nil ?_
  refine hk14 _ _ ?_
  clear hk14
  refine run_cond (t := false) rfl (fun h => by cases h) (fun _ => ?_)
  refine run_exit ?_
  exact end_none' rfl rfl (by first | exact .refl | exact .drop | exact .drop2 | exact .drop3 | exact .drop4 | exact Gh.drop.trans .drop4 | exact Gh.drop2.trans .drop4 | exact Gh.drop3.trans .drop4) (hK _ _ hv2)
theorem sorted_two {x y : Label} {v : Value} {hs : List (Nat × Obj)} {s : St} (hv : OwnS kLabel 31 s.I v hs [x, y]) (hc : cmpB y.Key x.Key = -1) (K : Value → St → Prop)
    (hK : ∀ r hs', OwnS kLabel 31 s.I v hs' [y, x] → K r ⟨s.I, hs' ++ s.cs⟩) :
    CallS Tryd.prog 45 #[v, .func (.func 46) #[] #[]] ⟨s.I, hs ++ s.cs⟩ K := by
  refine callS_of_run Tryd.func45 rfl ?_; simp only [Tryd.ntmps45, List.size_toArray, List.length_cons, List.length_nil, Nat.reduceAdd, Nat.reduceSub, Array.replicate_succ, Array.replicate_zero, List.push_toArray, List.append_toArray, List.nil_append, List.cons_append]
  refine run_region ?_
  refine opsR_q rfl (q_move) ?_
  simp only [nrm, Nat.reduceAdd, Nat.reduceMul, Nat.reduceSub, Int.reduceToNat, Int.reduceAdd]
  refine opsR_q rfl (q_move) ?_
  simp only [nrm, Nat.reduceAdd, Nat.reduceMul, Nat.reduceSub, Int.reduceToNat, Int.reduceAdd]
  refine opsR_q rfl (q_len_v rfl (by first | exact Sl.len (by assumption) | exact OwnS.len (by assumption) | exact SlR.len (by assumption) | assumption)) ?_
  simp only [nrm, Nat.reduceAdd, Nat.reduceMul, Nat.reduceSub, Int.reduceToNat, Int.reduceAdd]
  refine opsR_q rfl (q_move) ?_
  simp only [nrm, Nat.reduceAdd, Nat.reduceMul, Nat.reduceSub, Int.reduceToNat, Int.reduceAdd]
  refine opsR_o rfl (o_call rfl (stable_two (hs := hs) hv hc _ fun r2 hs2 hv2 => ?_))
  simp only [nrm, Nat.reduceAdd, Nat.reduceMul, Nat.reduceSub, Int.reduceToNat, Int.reduceAdd]
  refine opsR_nil ?_
  exact end_none' rfl rfl (by first | exact .refl | exact .drop | exact .drop2 | exact .drop3 | exact .drop4 | exact Gh.drop.trans .drop4 | exact Gh.drop2.trans .drop4 | exact Gh.drop3.trans .drop4) (hK _ _ hv2)
theorem Make_two {X0 X1 : Label} {v : Value} {s : St} (hv : Sl kStr s.I v [X0.Key, X0.Value, X1.Key, X1.Value]) (hc : cmpB X1.Key X0.Key = -1) (hok : ∀ x ∈ [X1, X0], kLabel.ok x) (hck : checkL [X1, X0] = 0) :
    CallR Tryd.prog 29 #[v] s (fun J w => ∃ u, w = .tuple #[u, .int .i64 0] ∧ Sl kLabel J u [X1, X0]) := by
  intro K hK
  refine callS_of_run Tryd.func29 rfl ?_; simp only [Tryd.ntmps29, List.size_toArray, List.length_cons, List.length_nil, Nat.reduceAdd, Nat.reduceSub, Array.replicate_succ, Array.replicate_zero, List.push_toArray, List.append_toArray, List.nil_append, List.cons_append]
  refine run_seq fun _ hk1 => ?_
  refine run_region ?_
  refine opsR_q rfl (q_assign) ?_
  simp only [nrm, Nat.reduceAdd, Nat.reduceMul, Nat.reduceSub, Int.reduceToNat, Int.reduceAdd]
  refine opsR_q rfl (q_assign) ?_
  simp only [nrm, Nat.reduceAdd, Nat.reduceMul, Nat.reduceSub, Int.reduceToNat, Int.reduceAdd]
  refine opsR_nil ?_
  refine hk1 _ _ ?_
  clear hk1
  refine run_seq fun _ hk2 => ?_
  refine run_seq fun _ hk3 => ?_
  refine run_region ?_
  refine opsR_q rfl (q_move) ?_
  simp only [nrm, Nat.reduceAdd, Nat.reduceMul, Nat.reduceSub, Int.reduceToNat, Int.reduceAdd]
  refine opsR_q rfl (q_len_v rfl (by first | exact Sl.len (by assumption) | exact OwnS.len (by assumption) | exact SlR.len (by assumption) | assumption)) ?_
  simp only [nrm, Nat.reduceAdd, Nat.reduceMul, Nat.reduceSub, Int.reduceToNat, Int.reduceAdd]
  refine opsR_q rfl (by exact q_rem rfl rfl (by first | decide | assumption | omega)) ?_
  simp only [nrm, Nat.reduceAdd, Nat.reduceMul, Nat.reduceSub, Int.reduceToNat, Int.reduceAdd]
  refine opsR_q rfl (q_eql rfl rfl) ?_
  simp only [nrm, Nat.reduceAdd, Nat.reduceMul, Nat.reduceSub, Int.reduceToNat, Int.reduceAdd]
  refine opsR_nil ?_
  refine hk3 _ _ ?_
  clear hk3
  refine run_cond rfl (fun ho5 => ?_) (fun ho5 => ?_)
  · have hc5 := ho5; try simp only [spl] at hc5
    refine run_seq fun _ hk6 => ?_
    exact absurd hc5 (by simp)
  · have hc5 := ho5; try simp only [spl] at hc5
    refine run_skip ?_
    refine hk2 _ _ ?_
    clear hk2
    refine run_seq fun _ hk7 => ?_
    refine run_region ?_
    refine opsR_q rfl (q_assign) ?_
    simp only [nrm, Nat.reduceAdd, Nat.reduceMul, Nat.reduceSub, Int.reduceToNat, Int.reduceAdd]
    refine opsR_nil ?_
    refine hk7 _ _ ?_
    clear hk7
    refine run_seq fun _ hk8 => ?_
    refine run_seq fun _ hk9 => ?_
    have hn0 := OwnS.nil kLabel 31 s.I
    refine run_region ?_
    refine opsR_q rfl (q_assign) ?_
    simp only [nrm, Nat.reduceAdd, Nat.reduceMul, Nat.reduceSub, Int.reduceToNat, Int.reduceAdd]
    refine opsR_nil ?_
    refine hk9 _ _ ?_
    clear hk9
    refine run_block ?_
    refine run_rounds 3 ?_
    refine run_round fun _ hk10 => ?_
    refine run_seq fun _ hk11 => ?_
    refine run_seq fun _ hk12 => ?_
    refine run_region ?_
    refine opsR_q rfl (q_move) ?_
    simp only [nrm, Nat.reduceAdd, Nat.reduceMul, Nat.reduceSub, Int.reduceToNat, Int.reduceAdd]
    refine opsR_q rfl (q_move) ?_
    simp only [nrm, Nat.reduceAdd, Nat.reduceMul, Nat.reduceSub, Int.reduceToNat, Int.reduceAdd]
    refine opsR_q rfl (q_len_v rfl (by first | exact Sl.len (by assumption) | exact OwnS.len (by assumption) | exact SlR.len (by assumption) | assumption)) ?_
    simp only [nrm, Nat.reduceAdd, Nat.reduceMul, Nat.reduceSub, Int.reduceToNat, Int.reduceAdd]
    refine opsR_q rfl (q_lss rfl rfl) ?_
    simp only [nrm, Nat.reduceAdd, Nat.reduceMul, Nat.reduceSub, Int.reduceToNat, Int.reduceAdd]
    refine opsR_nil ?_
    refine hk12 _ _ ?_
    clear hk12
    refine run_cond (t := true) rfl (fun _ => ?_) (fun h => by cases h)
    refine run_skip ?_
    refine hk11 _ _ ?_
    clear hk11
    refine run_seq fun _ hk13 => ?_
    refine run_block ?_
    refine run_mixL mixed [true, true, true, true, true, true, true, true, true, true, true, false, false, false] [false, true, true, true, true, true, true, true, true, true, true, false, false, false] [11, 12, 13] (fun _ => True) (by kernel_rfl) rfl trivial ?_
    refine oblK_k rfl (fun z hz => (q_move)) ?_
    simp only [nrm, Nat.reduceAdd, Nat.reduceMul, Nat.reduceSub, Int.reduceToNat, Int.reduceAdd]
    refine oblK_b rfl (q_move) ?_
    simp only [nrm, Nat.reduceAdd, Nat.reduceMul, Nat.reduceSub, Int.reduceToNat, Int.reduceAdd]
    refine oblK_b rfl (q_move) ?_
    simp only [nrm, Nat.reduceAdd, Nat.reduceMul, Nat.reduceSub, Int.reduceToNat, Int.reduceAdd]
    refine oblK_b rfl (by exact q_index_slv rfl rfl (by first | exact Sl.r (by assumption) (by first | exact .rfl | assumption | exact le2 (by assumption) (by assumption) | exact le3 (by assumption) (by assumption) (by assumption) | exact le4 (by assumption) (by assumption) (by assumption) (by assumption) | exact le5 (by assumption) (by assumption) (by assumption) (by assumption) (by assumption) | exact le6 (by assumption) (by assumption) (by assumption) (by assumption) (by assumption) (by assumption)) | (refine OwnS.r (OwnS.mono ?_ (by assumption)) (by intro p hp; simp only [List.mem_append, List.mem_cons, hp, true_or, or_true]); first | exact .rfl | assumption | exact le2 (by assumption) (by assumption) | exact le3 (by assumption) (by assumption) (by assumption) | exact le4 (by assumption) (by assumption) (by assumption) (by assumption) | exact le5 (by assumption) (by assumption) (by assumption) (by assumption) (by assumption) | exact le6 (by assumption) (by assumption) (by assumption) (by assumption) (by assumption) (by assumption)) | assumption) (by first | omega | ((try simp only [List.length_append, List.length_cons, List.length_nil, List.length_set, List.length_replicate, List.length_take, List.length_drop, List.length_map] at *); omega)) (by first | omega | ((try simp only [List.length_append, List.length_cons, List.length_nil, List.length_set, List.length_replicate, List.length_take, List.length_drop, List.length_map] at *); omega))) ?_
    simp only [nrm, Nat.reduceAdd, Nat.reduceMul, Nat.reduceSub, Int.reduceToNat, Int.reduceAdd]
    refine oblK_b rfl (by first | exact q_load_at1 (i := 0) rfl (by assumption) rfl (Nat.le_of_ble_eq_true rfl) rfl | exact q_load_at1 rfl (by assumption) rfl (Nat.le_of_ble_eq_true rfl) rfl | exact q_load_slvStr rfl (by first | exact Sl.r (by assumption) (by first | exact .rfl | assumption | exact le2 (by assumption) (by assumption) | exact le3 (by assumption) (by assumption) (by assumption) | exact le4 (by assumption) (by assumption) (by assumption) (by assumption) | exact le5 (by assumption) (by assumption) (by assumption) (by assumption) (by assumption) | exact le6 (by assumption) (by assumption) (by assumption) (by assumption) (by assumption) (by assumption)) | (refine OwnS.r (OwnS.mono ?_ (by assumption)) (by intro p hp; simp only [List.mem_append, List.mem_cons, hp, true_or, or_true]); first | exact .rfl | assumption | exact le2 (by assumption) (by assumption) | exact le3 (by assumption) (by assumption) (by assumption) | exact le4 (by assumption) (by assumption) (by assumption) (by assumption) | exact le5 (by assumption) (by assumption) (by assumption) (by assumption) (by assumption) | exact le6 (by assumption) (by assumption) (by assumption) (by assumption) (by assumption) (by assumption)) | assumption) (by first | omega | ((try simp only [List.length_append, List.length_cons, List.length_nil, List.length_set, List.length_replicate, List.length_take, List.length_drop, List.length_map] at *); omega))) ?_
    simp only [nrm, Nat.reduceAdd, Nat.reduceMul, Nat.reduceSub, Int.reduceToNat, Int.reduceAdd]
    refine oblK_b rfl (q_move) ?_
    simp only [nrm, Nat.reduceAdd, Nat.reduceMul, Nat.reduceSub, Int.reduceToNat, Int.reduceAdd]
    refine oblK_b rfl (q_move) ?_
    simp only [nrm, Nat.reduceAdd, Nat.reduceMul, Nat.reduceSub, Int.reduceToNat, Int.reduceAdd]
    refine oblK_b rfl (by first | exact q_add64 rfl rfl (by omega) (by omega) | exact q_add rfl rfl) ?_
    simp only [nrm, Nat.reduceAdd, Nat.reduceMul, Nat.reduceSub, Int.reduceToNat, Int.reduceAdd]
    refine oblK_b rfl (by exact q_index_slv rfl rfl (by first | exact Sl.r (by assumption) (by first | exact .rfl | assumption | exact le2 (by assumption) (by assumption) | exact le3 (by assumption) (by assumption) (by assumption) | exact le4 (by assumption) (by assumption) (by assumption) (by assumption) | exact le5 (by assumption) (by assumption) (by assumption) (by assumption) (by assumption) | exact le6 (by assumption) (by assumption) (by assumption) (by assumption) (by assumption) (by assumption)) | (refine OwnS.r (OwnS.mono ?_ (by assumption)) (by intro p hp; simp only [List.mem_append, List.mem_cons, hp, true_or, or_true]); first | exact .rfl | assumption | exact le2 (by assumption) (by assumption) | exact le3 (by assumption) (by assumption) (by assumption) | exact le4 (by assumption) (by assumption) (by assumption) (by assumption) | exact le5 (by assumption) (by assumption) (by assumption) (by assumption) (by assumption) | exact le6 (by assumption) (by assumption) (by assumption) (by assumption) (by assumption) (by assumption)) | assumption) (by first | omega | ((try simp only [List.length_append, List.length_cons, List.length_nil, List.length_set, List.length_replicate, List.length_take, List.length_drop, List.length_map] at *); omega)) (by first | omega | ((try simp only [List.length_append, List.length_cons, List.length_nil, List.length_set, List.length_replicate, List.length_take, List.length_drop, List.length_map] at *); omega))) ?_
    simp only [nrm, Nat.reduceAdd, Nat.reduceMul, Nat.reduceSub, Int.reduceToNat, Int.reduceAdd]
    refine oblK_b rfl (by first | exact q_load_at1 (i := 0) rfl (by assumption) rfl (Nat.le_of_ble_eq_true rfl) rfl | exact q_load_at1 rfl (by assumption) rfl (Nat.le_of_ble_eq_true rfl) rfl | exact q_load_slvStr rfl (by first | exact Sl.r (by assumption) (by first | exact .rfl | assumption | exact le2 (by assumption) (by assumption) | exact le3 (by assumption) (by assumption) (by assumption) | exact le4 (by assumption) (by assumption) (by assumption) (by assumption) | exact le5 (by assumption) (by assumption) (by assumption) (by assumption) (by assumption) | exact le6 (by assumption) (by assumption) (by assumption) (by assumption) (by assumption) (by assumption)) | (refine OwnS.r (OwnS.mono ?_ (by assumption)) (by intro p hp; simp only [List.mem_append, List.mem_cons, hp, true_or, or_true]); first | exact .rfl | assumption | exact le2 (by assumption) (by assumption) | exact le3 (by assumption) (by assumption) (by assumption) | exact le4 (by assumption) (by assumption) (by assumption) (by assumption) | exact le5 (by assumption) (by assumption) (by assumption) (by assumption) (by assumption) | exact le6 (by assumption) (by assumption) (by assumption) (by assumption) (by assumption) (by assumption)) | assumption) (by first | omega | ((try simp only [List.length_append, List.length_cons, List.length_nil, List.length_set, List.length_replicate, List.length_take, List.length_drop, List.length_map] at *); omega))) ?_
    simp only [nrm, Nat.reduceAdd, Nat.reduceMul, Nat.reduceSub, Int.reduceToNat, Int.reduceAdd]
    refine oblK_b rfl (q_build rfl) ?_
    simp only [nrm, Nat.reduceAdd, Nat.reduceMul, Nat.reduceSub, Int.reduceToNat, Int.reduceAdd]
    refine oblK_r ?_
    refine oblK_r ?_
    refine oblK_r ?_
    refine oblK_nil ?_
    refine restK_pick [11] (by kernel_rfl) ⟨?_, trivial⟩
    refine restK_op rfl ?_
    simp only [List.getElem_toArray, List.getElem_cons_zero, List.getElem_cons_succ]
    refine opsR_slice1 kLabel (w := X0) rfl rfl (by rfl) (by decide) (by decide) (by rfl) (by first | rfl | assumption | exact kLabel.shut | (refine Kd.mono _ ?_ (by assumption); first | exact .rfl | assumption | exact le2 (by assumption) (by assumption) | exact le3 (by assumption) (by assumption) (by assumption) | exact le4 (by assumption) (by assumption) (by assumption) (by assumption) | exact le5 (by assumption) (by assumption) (by assumption) (by assumption) (by assumption) | exact le6 (by assumption) (by assumption) (by assumption) (by assumption) (by assumption) (by assumption)) | (apply kLabel.shut <;> assumption)) fun v14 hs14 hv14 => ?_
    simp only [nrm, Nat.reduceAdd, Nat.reduceMul, Nat.reduceSub, Int.reduceToNat, Int.reduceAdd]
    refine opsR_nil ⟨rfl, rfl, trivial, ?_⟩
    refine restK_pick [12] (by kernel_rfl) ⟨?_, trivial⟩
    refine restK_op rfl ?_
    simp only [List.getElem_toArray, List.getElem_cons_zero, List.getElem_cons_succ]
    refine opsR_app rfl rfl rfl (by first | assumption | (refine OwnS.mono ?_ (by assumption); first | exact .rfl | assumption | exact le2 (by assumption) (by assumption) | exact le3 (by assumption) (by assumption) (by assumption) | exact le4 (by assumption) (by assumption) (by assumption) (by assumption) | exact le5 (by assumption) (by assumption) (by assumption) (by assumption) (by assumption) | exact le6 (by assumption) (by assumption) (by assumption) (by assumption) (by assumption) (by assumption))) (by infer_instance) (by first | exact Sl.r (by assumption) (by first | exact .rfl | assumption | exact le2 (by assumption) (by assumption) | exact le3 (by assumption) (by assumption) (by assumption) | exact le4 (by assumption) (by assumption) (by assumption) (by assumption) | exact le5 (by assumption) (by assumption) (by assumption) (by assumption) (by assumption) | exact le6 (by assumption) (by assumption) (by assumption) (by assumption) (by assumption) (by assumption)) | (refine OwnS.r (OwnS.mono ?_ (by assumption)) (by intro p hp; simp only [List.mem_append, List.mem_cons, hp, true_or, or_true]); first | exact .rfl | assumption | exact le2 (by assumption) (by assumption) | exact le3 (by assumption) (by assumption) (by assumption) | exact le4 (by assumption) (by assumption) (by assumption) (by assumption) | exact le5 (by assumption) (by assumption) (by assumption) (by assumption) (by assumption) | exact le6 (by assumption) (by assumption) (by assumption) (by assumption) (by assumption) (by assumption)) | assumption) (by rfl) (by rfl) rfl rfl (by first | omega | ((try simp only [List.length_append, List.length_cons, List.length_nil, List.length_set, List.length_replicate, List.length_take, List.length_drop, List.length_map] at *); omega)) fun vO0 hsO0 hvO0 => ?_
    simp only [nrm, Nat.reduceAdd, Nat.reduceMul, Nat.reduceSub, Int.reduceToNat, Int.reduceAdd]
    refine opsR_dropS (hs := hs14) ?_
    try simp only [nrm, Nat.reduceAdd, Nat.reduceMul, Nat.reduceSub, Int.reduceToNat, Int.reduceAdd]
    refine opsR_nil ⟨rfl, rfl, trivial, ?_⟩
    refine restK_pick [13] (by kernel_rfl) ⟨?_, trivial⟩
    refine restK_op rfl ?_
    simp only [List.getElem_toArray, List.getElem_cons_zero, List.getElem_cons_succ]
    refine opsR_q rfl (q_assign) ?_
    simp only [nrm, Nat.reduceAdd, Nat.reduceMul, Nat.reduceSub, Int.reduceToNat, Int.reduceAdd]
    refine opsR_nil ⟨rfl, rfl, trivial, ?_⟩
    refine restK_end rfl ?_
    try simp only [nrm, Nat.reduceAdd, Nat.reduceMul, Nat.reduceSub, Int.reduceToNat, Int.reduceAdd]
    refine hk13 _ _ ?_
    clear hk13
    refine run_region ?_
    refine opsR_q rfl (q_move) ?_
    simp only [nrm, Nat.reduceAdd, Nat.reduceMul, Nat.reduceSub, Int.reduceToNat, Int.reduceAdd]
    refine opsR_q rfl (by first | exact q_add64 rfl rfl (by omega) (by omega) | exact q_add rfl rfl) ?_
    simp only [nrm, Nat.reduceAdd, Nat.reduceMul, Nat.reduceSub, Int.reduceToNat, Int.reduceAdd]
    refine opsR_q rfl (q_assign) ?_
    simp only [nrm, Nat.reduceAdd, Nat.reduceMul, Nat.reduceSub, Int.reduceToNat, Int.reduceAdd]
    refine opsR_nil ?_
    refine hk10 _ _ ?_
    clear hk10
    refine run_round fun _ hk16 => ?_
    refine run_seq fun _ hk17 => ?_
    refine run_seq fun _ hk18 => ?_
    refine run_region ?_
    refine opsR_q rfl (q_move) ?_
    simp only [nrm, Nat.reduceAdd, Nat.reduceMul, Nat.reduceSub, Int.reduceToNat, Int.reduceAdd]
    refine opsR_q rfl (q_move) ?_
    simp only [nrm, Nat.reduceAdd, Nat.reduceMul, Nat.reduceSub, Int.reduceToNat, Int.reduceAdd]
    refine opsR_q rfl (q_len_v rfl (by first | exact Sl.len (by assumption) | exact OwnS.len (by assumption) | exact SlR.len (by assumption) | assumption)) ?_
    simp only [nrm, Nat.reduceAdd, Nat.reduceMul, Nat.reduceSub, Int.reduceToNat, Int.reduceAdd]
    refine opsR_q rfl (q_lss rfl rfl) ?_
    simp only [nrm, Nat.reduceAdd, Nat.reduceMul, Nat.reduceSub, Int.reduceToNat, Int.reduceAdd]
    refine opsR_nil ?_
    refine hk18 _ _ ?_
    clear hk18
    refine run_cond (t := true) rfl (fun _ => ?_) (fun h => by cases h)
    refine run_skip ?_
    refine hk17 _ _ ?_
    clear hk17
    refine run_seq fun _ hk19 => ?_
    refine run_block ?_
    refine run_mixL mixed [true, true, true, true, true, true, true, true, true, true, true, false, false, false] [false, true, true, true, true, true, true, true, true, true, true, false, false, false] [11, 12, 13] (fun _ => True) (by kernel_rfl) rfl trivial ?_
    refine oblK_k rfl (fun z hz => (q_move)) ?_
    simp only [nrm, Nat.reduceAdd, Nat.reduceMul, Nat.reduceSub, Int.reduceToNat, Int.reduceAdd]
    refine oblK_b rfl (q_move) ?_
    simp only [nrm, Nat.reduceAdd, Nat.reduceMul, Nat.reduceSub, Int.reduceToNat, Int.reduceAdd]
    refine oblK_b rfl (q_move) ?_
    simp only [nrm, Nat.reduceAdd, Nat.reduceMul, Nat.reduceSub, Int.reduceToNat, Int.reduceAdd]
    refine oblK_b rfl (by exact q_index_slv rfl rfl (by first | exact Sl.r (by assumption) (by first | exact .rfl | assumption | exact le2 (by assumption) (by assumption) | exact le3 (by assumption) (by assumption) (by assumption) | exact le4 (by assumption) (by assumption) (by assumption) (by assumption) | exact le5 (by assumption) (by assumption) (by assumption) (by assumption) (by assumption) | exact le6 (by assumption) (by assumption) (by assumption) (by assumption) (by assumption) (by assumption)) | (refine OwnS.r (OwnS.mono ?_ (by assumption)) (by intro p hp; simp only [List.mem_append, List.mem_cons, hp, true_or, or_true]); first | exact .rfl | assumption | exact le2 (by assumption) (by assumption) | exact le3 (by assumption) (by assumption) (by assumption) | exact le4 (by assumption) (by assumption) (by assumption) (by assumption) | exact le5 (by assumption) (by assumption) (by assumption) (by assumption) (by assumption) | exact le6 (by assumption) (by assumption) (by assumption) (by assumption) (by assumption) (by assumption)) | assumption) (by first | omega | ((try simp only [List.length_append, List.length_cons, List.length_nil, List.length_set, List.length_replicate, List.length_take, List.length_drop, List.length_map] at *); omega)) (by first | omega | ((try simp only [List.length_append, List.length_cons, List.length_nil, List.length_set, List.length_replicate, List.length_take, List.length_drop, List.length_map] at *); omega))) ?_
    simp only [nrm, Nat.reduceAdd, Nat.reduceMul, Nat.reduceSub, Int.reduceToNat, Int.reduceAdd]
    refine oblK_b rfl (by first | exact q_load_at1 (i := 0) rfl (by assumption) rfl (Nat.le_of_ble_eq_true rfl) rfl | exact q_load_at1 rfl (by assumption) rfl (Nat.le_of_ble_eq_true rfl) rfl | exact q_load_slvStr rfl (by first | exact Sl.r (by assumption) (by first | exact .rfl | assumption | exact le2 (by assumption) (by assumption) | exact le3 (by assumption) (by assumption) (by assumption) | exact le4 (by assumption) (by assumption) (by assumption) (by assumption) | exact le5 (by assumption) (by assumption) (by assumption) (by assumption) (by assumption) | exact le6 (by assumption) (by assumption) (by assumption) (by assumption) (by assumption) (by assumption)) | (refine OwnS.r (OwnS.mono ?_ (by assumption)) (by intro p hp; simp only [List.mem_append, List.mem_cons, hp, true_or, or_true]); first | exact .rfl | assumption | exact le2 (by assumption) (by assumption) | exact le3 (by assumption) (by assumption) (by assumption) | exact le4 (by assumption) (by assumption) (by assumption) (by assumption) | exact le5 (by assumption) (by assumption) (by assumption) (by assumption) (by assumption) | exact le6 (by assumption) (by assumption) (by assumption) (by assumption) (by assumption) (by assumption)) | assumption) (by first | omega | ((try simp only [List.length_append, List.length_cons, List.length_nil, List.length_set, List.length_replicate, List.length_take, List.length_drop, List.length_map] at *); omega))) ?_
    simp only [nrm, Nat.reduceAdd, Nat.reduceMul, Nat.reduceSub, Int.reduceToNat, Int.reduceAdd]
    refine oblK_b rfl (q_move) ?_
    simp only [nrm, Nat.reduceAdd, Nat.reduceMul, Nat.reduceSub, Int.reduceToNat, Int.reduceAdd]
    refine oblK_b rfl (q_move) ?_
    simp only [nrm, Nat.reduceAdd, Nat.reduceMul, Nat.reduceSub, Int.reduceToNat, Int.reduceAdd]
    refine oblK_b rfl (by first | exact q_add64 rfl rfl (by omega) (by omega) | exact q_add rfl rfl) ?_
    simp only [nrm, Nat.reduceAdd, Nat.reduceMul, Nat.reduceSub, Int.reduceToNat, Int.reduceAdd]
    refine oblK_b rfl (by exact q_index_slv rfl rfl (by first | exact Sl.r (by assumption) (by first | exact .rfl | assumption | exact le2 (by assumption) (by assumption) | exact le3 (by assumption) (by assumption) (by assumption) | exact le4 (by assumption) (by assumption) (by assumption) (by assumption) | exact le5 (by assumption) (by assumption) (by assumption) (by assumption) (by assumption) | exact le6 (by assumption) (by assumption) (by assumption) (by assumption) (by assumption) (by assumption)) | (refine OwnS.r (OwnS.mono ?_ (by assumption)) (by intro p hp; simp only [List.mem_append, List.mem_cons, hp, true_or, or_true]); first | exact .rfl | assumption | exact le2 (by assumption) (by assumption) | exact le3 (by assumption) (by assumption) (by assumption) | exact le4 (by assumption) (by assumption) (by assumption) (by assumption) | exact le5 (by assumption) (by assumption) (by assumption) (by assumption) (by assumption) | exact le6 (by assumption) (by assumption) (by assumption) (by assumption) (by assumption) (by assumption)) | assumption) (by first | omega | ((try simp only [List.length_append, List.length_cons, List.length_nil, List.length_set, List.length_replicate, List.length_take, List.length_drop, List.length_map] at *); omega)) (by first | omega | ((try simp only [List.length_append, List.length_cons, List.length_nil, List.length_set, List.length_replicate, List.length_take, List.length_drop, List.length_map] at *); omega))) ?_
    simp only [nrm, Nat.reduceAdd, Nat.reduceMul, Nat.reduceSub, Int.reduceToNat, Int.reduceAdd]
    refine oblK_b rfl (by first | exact q_load_at1 (i := 0) rfl (by assumption) rfl (Nat.le_of_ble_eq_true rfl) rfl | exact q_load_at1 rfl (by assumption) rfl (Nat.le_of_ble_eq_true rfl) rfl | exact q_load_slvStr rfl (by first | exact Sl.r (by assumption) (by first | exact .rfl | assumption | exact le2 (by assumption) (by assumption) | exact le3 (by assumption) (by assumption) (by assumption) | exact le4 (by assumption) (by assumption) (by assumption) (by assumption) | exact le5 (by assumption) (by assumption) (by assumption) (by assumption) (by assumption) | exact le6 (by assumption) (by assumption) (by assumption) (by assumption) (by assumption) (by assumption)) | (refine OwnS.r (OwnS.mono ?_ (by assumption)) (by intro p hp; simp only [List.mem_append, List.mem_cons, hp, true_or, or_true]); first | exact .rfl | assumption | exact le2 (by assumption) (by assumption) | exact le3 (by assumption) (by assumption) (by assumption) | exact le4 (by assumption) (by assumption) (by assumption) (by assumption) | exact le5 (by assumption) (by assumption) (by assumption) (by assumption) (by assumption) | exact le6 (by assumption) (by assumption) (by assumption) (by assumption) (by assumption) (by assumption)) | assumption) (by first | omega | ((try simp only [List.length_append, List.length_cons, List.length_nil, List.length_set, List.length_replicate, List.length_take, List.length_drop, List.length_map] at *); omega))) ?_
    simp only [nrm, Nat.reduceAdd, Nat.reduceMul, Nat.reduceSub, Int.reduceToNat, Int.reduceAdd]
    refine oblK_b rfl (q_build rfl) ?_
    simp only [nrm, Nat.reduceAdd, Nat.reduceMul, Nat.reduceSub, Int.reduceToNat, Int.reduceAdd]
    refine oblK_r ?_
    refine oblK_r ?_
    refine oblK_r ?_
    refine oblK_nil ?_
    refine restK_pick [11] (by kernel_rfl) ⟨?_, trivial⟩
    refine restK_op rfl ?_
    simp only [List.getElem_toArray, List.getElem_cons_zero, List.getElem_cons_succ]
    refine opsR_slice1 kLabel (w := X1) rfl rfl (by rfl) (by decide) (by decide) (by rfl) (by first | rfl | assumption | exact kLabel.shut | (refine Kd.mono _ ?_ (by assumption); first | exact .rfl | assumption | exact le2 (by assumption) (by assumption) | exact le3 (by assumption) (by assumption) (by assumption) | exact le4 (by assumption) (by assumption) (by assumption) (by assumption) | exact le5 (by assumption) (by assumption) (by assumption) (by assumption) (by assumption) | exact le6 (by assumption) (by assumption) (by assumption) (by assumption) (by assumption) (by assumption)) | (apply kLabel.shut <;> assumption)) fun v20 hs20 hv20 => ?_
    simp only [nrm, Nat.reduceAdd, Nat.reduceMul, Nat.reduceSub, Int.reduceToNat, Int.reduceAdd]
    refine opsR_nil ⟨rfl, rfl, trivial, ?_⟩
    refine restK_pick [12] (by kernel_rfl) ⟨?_, trivial⟩
    refine restK_op rfl ?_
    simp only [List.getElem_toArray, List.getElem_cons_zero, List.getElem_cons_succ]
    refine opsR_app rfl rfl rfl (by first | assumption | (refine OwnS.mono ?_ (by assumption); first | exact .rfl | assumption | exact le2 (by assumption) (by assumption) | exact le3 (by assumption) (by assumption) (by assumption) | exact le4 (by assumption) (by assumption) (by assumption) (by assumption) | exact le5 (by assumption) (by assumption) (by assumption) (by assumption) (by assumption) | exact le6 (by assumption) (by assumption) (by assumption) (by assumption) (by assumption) (by assumption))) (by infer_instance) (by first | exact Sl.r (by assumption) (by first | exact .rfl | assumption | exact le2 (by assumption) (by assumption) | exact le3 (by assumption) (by assumption) (by assumption) | exact le4 (by assumption) (by assumption) (by assumption) (by assumption) | exact le5 (by assumption) (by assumption) (by assumption) (by assumption) (by assumption) | exact le6 (by assumption) (by assumption) (by assumption) (by assumption) (by assumption) (by assumption)) | (refine OwnS.r (OwnS.mono ?_ (by assumption)) (by intro p hp; simp only [List.mem_append, List.mem_cons, hp, true_or, or_true]); first | exact .rfl | assumption | exact le2 (by assumption) (by assumption) | exact le3 (by assumption) (by assumption) (by assumption) | exact le4 (by assumption) (by assumption) (by assumption) (by assumption) | exact le5 (by assumption) (by assumption) (by assumption) (by assumption) (by assumption) | exact le6 (by assumption) (by assumption) (by assumption) (by assumption) (by assumption) (by assumption)) | assumption) (by rfl) (by rfl) rfl rfl (by first | omega | ((try simp only [List.length_append, List.length_cons, List.length_nil, List.length_set, List.length_replicate, List.length_take, List.length_drop, List.length_map] at *); omega)) fun vO1 hsO1 hvO1 => ?_
    simp only [nrm, Nat.reduceAdd, Nat.reduceMul, Nat.reduceSub, Int.reduceToNat, Int.reduceAdd]
    refine opsR_dropS (hs := hs20) ?_
    try simp only [nrm, Nat.reduceAdd, Nat.reduceMul, Nat.reduceSub, Int.reduceToNat, Int.reduceAdd]
    refine opsR_nil ⟨rfl, rfl, trivial, ?_⟩
    refine restK_pick [13] (by kernel_rfl) ⟨?_, trivial⟩
    refine restK_op rfl ?_
    simp only [List.getElem_toArray, List.getElem_cons_zero, List.getElem_cons_succ]
    refine opsR_q rfl (q_assign) ?_
    simp only [nrm, Nat.reduceAdd, Nat.reduceMul, Nat.reduceSub, Int.reduceToNat, Int.reduceAdd]
    refine opsR_nil ⟨rfl, rfl, trivial, ?_⟩
    refine restK_end rfl ?_
    try simp only [nrm, Nat.reduceAdd, Nat.reduceMul, Nat.reduceSub, Int.reduceToNat, Int.reduceAdd]
    refine hk19 _ _ ?_
    clear hk19
    refine run_region ?_
    refine opsR_q rfl (q_move) ?_
    simp only [nrm, Nat.reduceAdd, Nat.reduceMul, Nat.reduceSub, Int.reduceToNat, Int.reduceAdd]
    refine opsR_q rfl (by first | exact q_add64 rfl rfl (by omega) (by omega) | exact q_add rfl rfl) ?_
    simp only [nrm, Nat.reduceAdd, Nat.reduceMul, Nat.reduceSub, Int.reduceToNat, Int.reduceAdd]
    refine opsR_q rfl (q_assign) ?_
    simp only [nrm, Nat.reduceAdd, Nat.reduceMul, Nat.reduceSub, Int.reduceToNat, Int.reduceAdd]
    refine opsR_nil ?_
    refine hk16 _ _ ?_
    clear hk16
    refine run_round fun _ hk22 => ?_
    refine run_seq fun _ hk23 => ?_
    refine run_seq fun _ hk24 => ?_
    refine run_region ?_
    refine opsR_q rfl (q_move) ?_
    simp only [nrm, Nat.reduceAdd, Nat.reduceMul, Nat.reduceSub, Int.reduceToNat, Int.reduceAdd]
    refine opsR_q rfl (q_move) ?_
    simp only [nrm, Nat.reduceAdd, Nat.reduceMul, Nat.reduceSub, Int.reduceToNat, Int.reduceAdd]
    refine opsR_q rfl (q_len_v rfl (by first | exact Sl.len (by assumption) | exact OwnS.len (by assumption) | exact SlR.len (by assumption) | assumption)) ?_
    simp only [nrm, Nat.reduceAdd, Nat.reduceMul, Nat.reduceSub, Int.reduceToNat, Int.reduceAdd]
    refine opsR_q rfl (q_lss rfl rfl) ?_
    simp only [nrm, Nat.reduceAdd, Nat.reduceMul, Nat.reduceSub, Int.reduceToNat, Int.reduceAdd]
    refine opsR_nil ?_
    refine hk24 _ _ ?_
    clear hk24
    refine run_cond (t := false) rfl (fun h => by cases h) (fun _ => ?_)
    refine run_exit ?_
    refine hk8 _ _ ?_
    clear hk8
    refine run_seq fun _ hk25 => ?_
    refine run_region ?_
    refine opsR_q rfl (q_move) ?_
    simp only [nrm, Nat.reduceAdd, Nat.reduceMul, Nat.reduceSub, Int.reduceToNat, Int.reduceAdd]
    refine opsR_o rfl (o_call rfl (sorted_two (s := s) (x := X0) (y := X1) (hs := hsO1) (OwnS.cast hvO1 rfl) hc _ fun r2 hs2 hv2 => ?_))
    simp only [nrm, Nat.reduceAdd, Nat.reduceMul, Nat.reduceSub, Int.reduceToNat, Int.reduceAdd]
    refine opsR_nil ?_
    refine hk25 _ _ ?_
    clear hk25
    refine run_seq fun _ hk28 => ?_
    refine run_seq fun _ hk29 => ?_
    refine run_freeze (A := []) hv2 rfl fun JF hJF hvF => ?_
    refine run_region ?_
    refine opsR_q rfl (q_move) ?_
    simp only [nrm, Nat.reduceAdd, Nat.reduceMul, Nat.reduceSub, Int.reduceToNat, Int.reduceAdd]
    refine opsR_q rfl (q_call rfl (Check_spec (by first | assumption | (refine Sl.mono ?_ (by assumption); first | exact .rfl | assumption | exact le2 (by assumption) (by assumption) | exact le3 (by assumption) (by assumption) (by assumption) | exact le4 (by assumption) (by assumption) (by assumption) (by assumption) | exact le5 (by assumption) (by assumption) (by assumption) (by assumption) (by assumption) | exact le6 (by assumption) (by assumption) (by assumption) (by assumption) (by assumption) (by assumption))) hok)) ?_
    simp only [nrm, Nat.reduceAdd, Nat.reduceMul, Nat.reduceSub, Int.reduceToNat, Int.reduceAdd]
    refine opsR_q rfl (q_assign) ?_
    simp only [nrm, Nat.reduceAdd, Nat.reduceMul, Nat.reduceSub, Int.reduceToNat, Int.reduceAdd]
    refine opsR_nil ?_
    refine hk29 _ _ ?_
    clear hk29
    refine run_seq fun _ hk30 => ?_
    refine run_region ?_
    refine opsR_q rfl (q_move) ?_
    simp only [nrm, Nat.reduceAdd, Nat.reduceMul, Nat.reduceSub, Int.reduceToNat, Int.reduceAdd]
    refine opsR_q rfl (q_neq rfl rfl) ?_
    simp only [nrm, Nat.reduceAdd, Nat.reduceMul, Nat.reduceSub, Int.reduceToNat, Int.reduceAdd]
    refine opsR_nil ?_
    refine hk30 _ _ ?_
    clear hk30
    refine run_cond rfl (fun ho31 => ?_) (fun ho31 => ?_)
    · have hc31 := ho31; try simp only [spl] at hc31
      refine run_seq fun _ hk32 => ?_
      exact absurd hck hc31
    · have hc31 := ho31; try simp only [spl] at hc31
      refine run_skip ?_
      refine hk28 _ _ ?_
      clear hk28
      refine run_seq fun _ hk33 => ?_
      refine run_region ?_
      refine opsR_q rfl (q_move) ?_
      simp only [nrm, Nat.reduceAdd, Nat.reduceMul, Nat.reduceSub, Int.reduceToNat, Int.reduceAdd]
      refine opsR_q rfl (q_assign) ?_
      simp only [nrm, Nat.reduceAdd, Nat.reduceMul, Nat.reduceSub, Int.reduceToNat, Int.reduceAdd]
      refine opsR_q rfl (q_assign) ?_
      simp only [nrm, Nat.reduceAdd, Nat.reduceMul, Nat.reduceSub, Int.reduceToNat, Int.reduceAdd]
      refine opsR_nil ?_
      refine hk33 _ _ ?_
      clear hk33
      refine run_ret ?_
      exact end_tmp2 rfl rfl rfl rfl (by first | exact .refl | exact .drop | exact .drop2 | exact .drop3 | exact .drop4 | exact Gh.drop.trans .drop4 | exact Gh.drop2.trans .drop4 | exact Gh.drop3.trans .drop4) (hK _ _ (by first | exact .rfl | assumption | exact le2 (by assumption) (by assumption) | exact le3 (by assumption) (by assumption) (by assumption) | exact le4 (by assumption) (by assumption) (by assumption) (by assumption) | exact le5 (by assumption) (by assumption) (by assumption) (by assumption) (by assumption) | exact le6 (by assumption) (by assumption) (by assumption) (by assumption) (by assumption) (by assumption)) ⟨_, rfl, hvF⟩)
end
end Go.Proofs.YtlcmlffgebaalaaDoor
