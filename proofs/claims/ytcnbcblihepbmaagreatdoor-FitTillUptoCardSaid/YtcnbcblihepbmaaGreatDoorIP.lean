/- Package info: the info of a node and of pods. -/
import Derived.Test.YtcnbcblihepbmaaGreatDoorIO
set_option autoImplicit false
set_option linter.unusedVariables false
set_option linter.unusedSimpArgs false
namespace Go.Proofs.YtcnbcblihepbmaaGreatDoor
open Go Go.RowKit
def usedOf (m : List Pod) : Res := m.foldl (fun u p => Res.plus u p.Want) ⟨0, 0, 0⟩
structure OfIs (n : Node) (l : List Pod) (y : Info) (m : List Pod) : Prop where
  node : y.Node = n
  used : y.Used = usedOf m
  nlen : y.Names.length = m.length
  nmem : ∀ q, q ∈ y.Names ↔ q ∈ m.map (·.Name)
  pmem : ∀ q, q ∈ y.Ports ↔ ∃ p ∈ m, q ∈ p.Ports
  all : (l.map (·.Name)).Nodup → m = l
  mle : m.length ≤ l.length
  ple : y.Ports.length ≤ (l.map (·.Ports.length)).sum
  dle : y.Disks.length ≤ (l.map (·.Claims.length)).sum
theorem of_nil (n : Node) : OfIs n [] ⟨n, [], ⟨0, 0, 0⟩, [], []⟩ [] := ⟨rfl, rfl, rfl, fun q => by simp, fun q => by simp, fun _ => rfl, Nat.le_refl _, Nat.le_refl _, Nat.le_refl _⟩
theorem of_put {n : Node} {l m : List Pod} {y y' : Info} {p : Pod} (h : OfIs n l y m) (hn : ¬ p.Name ∈ y.Names) (hw : WithIs y p y') : OfIs n (l ++ [p]) y' (m ++ [p]) := by
  refine ⟨hw.node.trans h.node, ?_, ?_, fun q => ?_, fun q => ?_, fun hd => ?_, ?_, ?_, ?_⟩
  · rw [hw.used, h.used, usedOf, usedOf, List.foldl_append]; rfl
  · rw [hw.nlen hn, h.nlen, List.length_append]; rfl
  · rw [hw.nmem, h.nmem]; simp
  · rw [hw.pmem, h.pmem]
    simp only [List.mem_append, List.mem_singleton]
    constructor
    · rintro (⟨a, ha, hq⟩ | hq)
      · exact ⟨a, .inl ha, hq⟩
      · exact ⟨p, .inr rfl, hq⟩
    · rintro ⟨a, ha | rfl, hq⟩
      · exact .inl ⟨a, ha, hq⟩
      · exact .inr hq
  · rw [List.map_append] at hd
    rw [h.all (List.Nodup.sublist (List.sublist_append_left _ _) hd)]
  · rw [List.length_append, List.length_append]; have := h.mle; omega
  · rw [List.map_append, List.sum_append]; have := hw.ple; have := h.ple; simp; omega
  · rw [List.map_append, List.sum_append]; have := hw.dle; have := h.dle; simp; omega
theorem of_skip {n : Node} {l m : List Pod} {y : Info} {p : Pod} (h : OfIs n l y m) (hn : p.Name ∈ y.Names) : OfIs n (l ++ [p]) y m := by
  refine ⟨h.node, h.used, h.nlen, h.nmem, h.pmem, fun hd => ?_, ?_, ?_, ?_⟩
  · exfalso
    rw [List.map_append] at hd
    have e := h.all (List.Nodup.sublist (List.sublist_append_left _ _) hd)
    rw [h.nmem, e] at hn
    exact (List.nodup_append.1 hd).2.2 _ hn _ (by simp) rfl
  · rw [List.length_append]; have := h.mle; omega
  · rw [List.map_append, List.sum_append]; have := h.ple; omega
  · rw [List.map_append, List.sum_append]; have := h.dle; omega
theorem sum_take {α : Type} [Inhabited α] {l : List α} {f : α → Nat} {k : Nat} (h : k < l.length) : ((l.take k).map f).sum + f l[k]! ≤ (l.map f).sum := by
  have e : (l.map f).sum = ((l.take (k + 1)).map f).sum + ((l.drop (k + 1)).map f).sum := by rw [← List.sum_append, ← List.map_append, List.take_append_drop]
  rw [e, take_succ! h, List.map_append, List.sum_append]
  simp
theorem any_memG {α : Type} [DecidableEq α] {xs : List α} {x : α} : (xs.any fun y => decide (x = y)) = decide (x ∈ xs) := by
  rw [Bool.eq_iff_iff, List.any_eq_true, decide_eq_true_iff]
  constructor
  · rintro ⟨y, hy, h⟩; rw [of_decide_eq_true h]; exact hy
  · intro h; exact ⟨x, h, decide_eq_true rfl⟩
section
attribute [local irreducible] Quiet OpsR Run CallS opS Gh endQ oblE RunN swp Go.Op.equalIn
set_option maxHeartbeats 2000000 in
theorem Of_spec {n : Node} {l : List Pod} {cn : List Value} {v : Value} {s : St} (hn : kNode.rep s.I n cn) (hl : Sl kPod s.I v l) (hb0 : l.length ≤ 10000000) (hb1 : (l.map (·.Ports.length)).sum ≤ 10000000) (hb2 : (l.map (·.Claims.length)).sum ≤ 10000000) :
    CallR Tryz.prog 17 #[.agg cn.toArray, v] s (fun J w => ∃ y cy m, w = .agg cy.toArray ∧ kInfo.rep J y cy ∧ OfIs n l y m) := by
  intro K hK
  obtain ⟨u1, u2, rfl, h1, h2⟩ := kNode.open hn
  have h0i := kInfo.shut (I := s.I) (x := ⟨n, [], ⟨0, 0, 0⟩, [], []⟩) (hNode_Labels := h1) (hNode_Taints := h2) (hNames := Sl.nil _ _) (hPorts := Sl.nil _ _) (hDisks := Sl.nil _ _)
  have hof0 := of_nil n
  refine callS_of_run Tryz.func17 rfl ?_; simp only [Tryz.ntmps17, List.size_toArray, List.length_cons, List.length_nil, Nat.reduceAdd, Nat.reduceSub, Array.replicate_succ, Array.replicate_zero, List.push_toArray, List.append_toArray, List.nil_append, List.cons_append]
  refine run_seq fun _ hk1 => ?_
  refine run_region ?_
  refine opsR_o rfl (o_box fun bN hbN => ?_)
  simp only [nrm, Nat.reduceAdd, Nat.reduceMul, Nat.reduceSub, Int.reduceToNat, Int.reduceAdd]
  refine opsR_o rfl (o_alloc fun bR hbR => ?_)
  simp only [nrm, Nat.reduceAdd, Nat.reduceMul, Nat.reduceSub, Int.reduceToNat, Int.reduceAdd]
  refine opsR_nil ?_
  refine hk1 _ _ ?_
  clear hk1
  refine run_seq fun _ hk4 => ?_
  refine run_region ?_
  refine opsR_q rfl (by first | exact q_loadBN rfl inferInstance (by rfl) | exact q_loadBW rfl inferInstance (by assumption)) ?_
  simp only [nrm, Nat.reduceAdd, Nat.reduceMul, Nat.reduceSub, Int.reduceToNat, Int.reduceAdd]
  refine opsR_q rfl (q_build rfl) ?_
  simp only [nrm, Nat.reduceAdd, Nat.reduceMul, Nat.reduceSub, Int.reduceToNat, Int.reduceAdd]
  refine opsR_o rfl (o_alloc fun bX hbX => ?_)
  simp only [nrm, Nat.reduceAdd, Nat.reduceMul, Nat.reduceSub, Int.reduceToNat, Int.reduceAdd]
  refine opsR_o rfl (o_storeB rfl rfl inferInstance (by first | rfl | assumption) (by first | rfl | exact Kd.one _ (by assumption) | assumption) (by first | rfl | (refine Nat.ble_eq_true_of_le ?_; (try simp only [Int.toNat_natCast]); omega)) ?_)
  simp only [nrm, Nat.reduceAdd, Nat.reduceMul, Nat.reduceSub, Int.reduceToNat, Int.reduceAdd]
  refine opsR_nil ?_
  refine hk4 _ _ ?_
  clear hk4
  refine run_seq fun _ hk7 => ?_
  refine run_seq fun _ hk8 => ?_
  refine run_region ?_
  refine opsR_q rfl (q_move) ?_
  simp only [nrm]
  refine opsR_q rfl (q_len_v rfl (by first | exact Sl.len (by assumption) | exact OwnS.len (by assumption) | exact SlR.len (by assumption) | assumption)) ?_
  simp only [nrm, Nat.reduceAdd, Nat.reduceMul, Nat.reduceSub, Int.reduceToNat, Int.reduceAdd]
  refine opsR_q rfl (q_move) ?_
  simp only [nrm]
  refine opsR_nil ?_
  refine hk8 _ _ ?_
  clear hk8
  refine run_block ?_
  refine run_loopF [0, 0, 0, 0, 0, 0, 0, 2, 0, 0, 0, 0, 2, 1, 1, 1, 1, 1, 1, 1, 1, 1, 1, 1, 1, 1, 0] (fun zn zL zst => ∃ (k : Nat) (z7 : Value) (y : Info) (cy : (List Value)) (m : (List Pod)) (J : Hp), zL = [z7, .int .i64 (k : Nat)] ∧ ⟨J, (bX, .cells cy.toArray 38 (0, 0)) :: (bR, .cells #[.string ⟨#[]⟩, .slice none 0 0, .slice none 0 0, .bool false, .int .i64 0, .int .i64 0, .int .i64 0, .int .i64 0, .int .i64 0, .slice none 0 0, .int .i64 0, .int .i64 0, .int .i64 0, .slice none 0 0, .slice none 0 0] 38 (0, 0)) :: (bN, .cells #[.string n.Name, u1, u2, .bool n.Off, .int .i64 n.Give.CPU, .int .i64 n.Give.Mem, .int .i64 n.Give.Disk, .int .i64 n.Pods, .int .i64 n.Disks] 36 (0, 0)) :: s.cs⟩ = zst ∧ zn = l.length - k ∧ (k ≤ l.length) ∧ (Hp.le s.I J) ∧ (kInfo.rep J y cy) ∧ (OfIs n (l.take k) y m)) _ _ ⟨0, _, ⟨n, [], ⟨0, 0, 0⟩, [], []⟩, _, [], s.I, rfl, rfl, rfl, by first | assumption | omega | exact Hp.le.rfl | rfl | exact all_zero | exact all_succ (by assumption) (by assumption) | (intro _; omega) | (simp; done), by first | assumption | omega | exact Hp.le.rfl | rfl | exact all_zero | exact all_succ (by assumption) (by assumption) | (intro _; omega) | (simp; done), by first | assumption | omega | exact Hp.le.rfl | rfl | exact all_zero | exact all_succ (by assumption) (by assumption) | (intro _; omega) | (simp; done), by first | assumption | omega | exact Hp.le.rfl | rfl | exact all_zero | exact all_succ (by assumption) (by assumption) | (intro _; omega) | (simp; done)⟩ rfl ?_
  rintro _ _ _ jv10 ⟨k, z7, y, cy, m, J, rfl, rfl, rfl, hk, hJ, hy, hof⟩ K10 hkl10
  simp only [fr, Nat.zero_add, Nat.reduceAdd]
  have hst := fun h : k < l.length => And.intro (sum_take (l := l) (f := fun p : Pod => p.Ports.length) h) (sum_take (l := l) (f := fun p : Pod => p.Claims.length) h)
  have hf1 := hof.nlen
  have hf2 := hof.mle
  have hf3 := hof.ple
  have hf4 := hof.dle
  rw [List.length_take] at hf2
  have hyy := hy
  obtain ⟨e1, e2, e3, e4, e5, rfl, k1, k2, k3, k4, k5⟩ := kInfo.open hy
  refine run_seq fun _ hk11 => ?_
  refine run_region ?_
  refine opsR_q rfl (q_lss rfl rfl) ?_
  simp only [nrm, Nat.reduceAdd, Nat.reduceMul, Nat.reduceSub, Int.reduceToNat, Int.reduceAdd]
  refine opsR_nil ?_
  refine hk11 _ _ ?_
  clear hk11
  refine run_seq fun _ hk14 => ?_
  refine run_cond rfl (fun ho15 => ?_) (fun ho15 => ?_)
  · have hc15 := ho15; try simp only [spl] at hc15
    refine run_skip ?_
    refine hk14 _ _ ?_
    clear hk14
    refine run_seq fun _ hk16 => ?_
    refine run_block ?_
    refine run_seq fun _ hk17 => ?_
    obtain ⟨hst1, hst2⟩ := hst (by omega)
    refine run_region ?_
    refine opsR_index rfl rfl rfl slrA (by rfl) idxA idxA fun b18 o18 cs18 ha18 hr18 he18 => ?_
    simp only [nrm, Nat.reduceAdd, Nat.reduceMul, Nat.reduceSub, Int.reduceToNat, Int.reduceAdd]
    try simp only [Int.toNat_natCast, Int.reduceToNat, Int.toNat_zero] at hr18
    try simp only [Int.toNat_natCast, Int.reduceToNat, Int.toNat_zero] at he18
    clear ha18
    obtain ⟨w18_Labels, w18_Bears, w18_Asks, w18_Prefers, w18_Ports, w18_Near, w18_Apart, w18_Spreads, w18_Claims, rfl, h18_Labels, h18_Bears, h18_Asks, h18_Prefers, h18_Ports, h18_Near, h18_Apart, h18_Spreads, h18_Claims⟩ := kPod.open hr18
    refine opsR_q rfl (by first | exact q_load_atW rfl (by first | assumption | exact El.mono (by assumption) leA) (by rfl) rfl | exact q_load_atN0 rfl (by first | assumption | exact El.mono (by assumption) leA) rfl rfl | exact q_load_atN rfl (by first | assumption | exact El.mono (by assumption) leA) rfl (Nat.le_of_ble_eq_true rfl) (Nat.le_of_ble_eq_true rfl)) ?_
    simp only [nrm, Nat.reduceAdd, Nat.reduceMul, Nat.reduceSub, Int.reduceToNat, Int.reduceAdd]
    refine opsR_o rfl (o_alloc fun b20 hb20 => ?_)
    simp only [nrm, Nat.reduceAdd, Nat.reduceMul, Nat.reduceSub, Int.reduceToNat, Int.reduceAdd]
    refine opsR_o rfl (o_storeB rfl rfl inferInstance (by first | rfl | assumption) (by first | rfl | exact Kd.one _ (by assumption) | assumption) (by first | rfl | (refine Nat.ble_eq_true_of_le ?_; (try simp only [Int.toNat_natCast]); omega)) ?_)
    simp only [nrm, Nat.reduceAdd, Nat.reduceMul, Nat.reduceSub, Int.reduceToNat, Int.reduceAdd]
    refine opsR_nil ?_
    refine hk17 _ _ ?_
    clear hk17
    refine run_seq fun _ hk21 => ?_
    refine run_region ?_
    refine opsR_q rfl (q_fieldAddr rfl) ?_
    simp only [nrm, Nat.reduceAdd, Nat.reduceMul, Nat.reduceSub, Int.reduceToNat, Int.reduceAdd]
    refine opsR_q rfl (q_loadB1 rfl inferInstance rfl) ?_
    simp only [nrm, Nat.reduceAdd, Nat.reduceMul, Nat.reduceSub, Int.reduceToNat, Int.reduceAdd]
    refine opsR_q rfl (q_fieldAddr rfl) ?_
    simp only [nrm, Nat.reduceAdd, Nat.reduceMul, Nat.reduceSub, Int.reduceToNat, Int.reduceAdd]
    refine opsR_q rfl (q_loadB1 rfl inferInstance rfl) ?_
    simp only [nrm, Nat.reduceAdd, Nat.reduceMul, Nat.reduceSub, Int.reduceToNat, Int.reduceAdd]
    refine opsR_q rfl (q_call rfl (Contains_Str slrA)) ?_
    simp only [nrm, Nat.reduceAdd, Nat.reduceMul, Nat.reduceSub, Int.reduceToNat, Int.reduceAdd]
    rw [any_memG]
    refine opsR_q rfl (q_not rfl) ?_
    simp only [nrm]
    refine opsR_nil ?_
    refine hk21 _ _ ?_
    clear hk21
    refine run_cond rfl (fun ho24 => ?_) (fun ho24 => ?_)
    · have hc24 := ho24; try simp only [spl] at hc24
      refine run_region ?_
      refine opsR_q rfl (by first | exact q_loadBN rfl inferInstance (by rfl) | exact q_loadBW rfl inferInstance (by assumption)) ?_
      simp only [nrm, Nat.reduceAdd, Nat.reduceMul, Nat.reduceSub, Int.reduceToNat, Int.reduceAdd]
      refine opsR_q rfl (by first | exact q_loadBN rfl inferInstance (by rfl) | exact q_loadBW rfl inferInstance (by assumption)) ?_
      simp only [nrm, Nat.reduceAdd, Nat.reduceMul, Nat.reduceSub, Int.reduceToNat, Int.reduceAdd]
      refine opsR_o rfl (o_call rfl (with_spec (x := y) (p := l[k]!) (by first | assumption | (refine Kd.mono _ ?_ (by assumption); exact leA)) (by first | assumption | (refine Kd.mono _ ?_ (by assumption); exact leA)) (by omega) (by omega) (by omega) _ fun vW JW hJW hvW => ?_))
      try dsimp only at hJW hvW
      try (have hrW : Hp.le s.I JW := leA; have hJW := hJW)
      simp only [nrm, Nat.reduceAdd, Nat.reduceMul, Nat.reduceSub, Int.reduceToNat, Int.reduceAdd]
      obtain ⟨y', cy', rfl, hy', hw⟩ := hvW
      have hyw := hy'
      obtain ⟨f1, f2, f3, f4, f5, rfl, _, _, _, _, _⟩ := kInfo.open hy'
      refine opsR_o rfl (o_storeB rfl rfl inferInstance (by first | rfl | assumption) (by first | rfl | exact Kd.one _ (by assumption) | assumption) (by first | rfl | (refine Nat.ble_eq_true_of_le ?_; (try simp only [Int.toNat_natCast]); omega)) ?_)
      simp only [nrm, Nat.reduceAdd, Nat.reduceMul, Nat.reduceSub, Int.reduceToNat, Int.reduceAdd]
      refine opsR_nil ?_
      refine hk16 _ _ ?_
      clear hk16
      refine run_gh Gh.drop ?_
      refine run_region ?_
      refine opsR_q rfl (by first | exact q_add64 rfl rfl (by omega) (by omega) | exact q_add rfl rfl) ?_
      simp only [nrm, Nat.reduceAdd, Nat.reduceMul, Nat.reduceSub, Int.reduceToNat, Int.reduceAdd]
      refine opsR_q rfl (q_move) ?_
      simp only [nrm]
      refine opsR_nil ?_
      first
      | exact hkl10 _ _ _ _ (by omega) ⟨k + 1, _, _, _, _, _, rfl, rfl, rfl, by first | assumption | omega | exact (take_succ! (by omega)).symm ▸ of_put hof (by assumption) hw | exact (take_succ! (by omega)).symm ▸ of_skip hof (by assumption) | exact leA, by first | assumption | omega | exact (take_succ! (by omega)).symm ▸ of_put hof (by assumption) hw | exact (take_succ! (by omega)).symm ▸ of_skip hof (by assumption) | exact leA, by first | assumption | omega | exact (take_succ! (by omega)).symm ▸ of_put hof (by assumption) hw | exact (take_succ! (by omega)).symm ▸ of_skip hof (by assumption) | exact leA, by first | assumption | omega | exact (take_succ! (by omega)).symm ▸ of_put hof (by assumption) hw | exact (take_succ! (by omega)).symm ▸ of_skip hof (by assumption) | exact leA⟩ rfl
    · have hc24 := ho24; try simp only [spl] at hc24
      refine run_skip ?_
      refine hk16 _ _ ?_
      clear hk16
      refine run_gh Gh.drop ?_
      refine run_region ?_
      refine opsR_q rfl (by first | exact q_add64 rfl rfl (by omega) (by omega) | exact q_add rfl rfl) ?_
      simp only [nrm, Nat.reduceAdd, Nat.reduceMul, Nat.reduceSub, Int.reduceToNat, Int.reduceAdd]
      refine opsR_q rfl (q_move) ?_
      simp only [nrm]
      refine opsR_nil ?_
      first
      | exact hkl10 _ _ _ _ (by omega) ⟨k + 1, _, _, _, _, _, rfl, rfl, rfl, by first | assumption | omega | exact (take_succ! (by omega)).symm ▸ of_put hof (by assumption) hw | exact (take_succ! (by omega)).symm ▸ of_skip hof (by assumption) | exact leA, by first | assumption | omega | exact (take_succ! (by omega)).symm ▸ of_put hof (by assumption) hw | exact (take_succ! (by omega)).symm ▸ of_skip hof (by assumption) | exact leA, by first | assumption | omega | exact (take_succ! (by omega)).symm ▸ of_put hof (by assumption) hw | exact (take_succ! (by omega)).symm ▸ of_skip hof (by assumption) | exact leA, by first | assumption | omega | exact (take_succ! (by omega)).symm ▸ of_put hof (by assumption) hw | exact (take_succ! (by omega)).symm ▸ of_skip hof (by assumption) | exact leA⟩ rfl
  · have hc15 := ho15; try simp only [spl] at hc15
    refine run_exit ?_
    refine hk7 _ _ ?_
    clear hk7
    refine run_seq fun _ hk26 => ?_
    refine run_region ?_
    refine opsR_q rfl (by first | exact q_loadBN rfl inferInstance (by rfl) | exact q_loadBW rfl inferInstance (by assumption)) ?_
    simp only [nrm, Nat.reduceAdd, Nat.reduceMul, Nat.reduceSub, Int.reduceToNat, Int.reduceAdd]
    refine opsR_o rfl (o_storeB rfl rfl inferInstance (by first | rfl | assumption) (by first | rfl | exact Kd.one _ (by assumption) | assumption) (by first | rfl | (refine Nat.ble_eq_true_of_le ?_; (try simp only [Int.toNat_natCast]); omega)) ?_)
    simp only [nrm, Nat.reduceAdd, Nat.reduceMul, Nat.reduceSub, Int.reduceToNat, Int.reduceAdd]
    refine opsR_nil ?_
    refine hk26 _ _ ?_
    clear hk26
    refine run_ret ?_
    exact end_cell rfl rfl rfl (AtB.has inferInstance) (by first | rfl | assumption) ghA (hK _ _ leA ⟨y, _, m, rfl, hyy, (take_all (by omega : l.length ≤ k)) ▸ hof⟩)
end
end Go.Proofs.YtcnbcblihepbmaaGreatDoor
