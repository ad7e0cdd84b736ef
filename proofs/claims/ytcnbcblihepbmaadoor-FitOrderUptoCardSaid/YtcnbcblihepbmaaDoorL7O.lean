/- The law FitOrder holds where what is read is of bulk at most 1048576: the walk, the row and its card. -/
import Derived.Test.YtcnbcblihepbmaaDoorIP
import Derived.Test.YtcnbcblihepbmaaDoorBA
import Derived.Test.YtcnbcblihepbmaaDoorC
set_option autoImplicit false
set_option linter.unusedVariables false
set_option linter.unusedSimpArgs false
namespace Go.Proofs.YtcnbcblihepbmaaDoor
open Go Go.RowKit
def clampSum (l : List Int) : Int := (l.map Q.clamp).sum
theorem clampSum_nonneg (l : List Int) : 0 ≤ clampSum l := by
  induction l with
  | nil => exact Int.le_refl _
  | cons x l ih => simp only [clampSum, List.map_cons, List.sum_cons] at ih ⊢; have := Q.clamp_lo x; omega
theorem fold_add (l : List Int) : ∀ u : Int, 0 ≤ u → u ≤ 1125899906842624 → l.foldl Q.add u = min (u + clampSum l) 1125899906842624 := by
  induction l with
  | nil => intro u h1 h2; simp only [List.foldl_nil, clampSum, List.map_nil, List.sum_nil]; omega
  | cons x l ih =>
    intro u h1 h2
    have hx := Q.clamp_lo x
    have hl := clampSum_nonneg l
    have e : Q.add u x = min (u + Q.clamp x) 1125899906842624 := by
      unfold Q.add; generalize Q.clamp x = c at *; unfold Q.clamp; omega
    have ec : clampSum (x :: l) = Q.clamp x + clampSum l := by simp only [clampSum, List.map_cons, List.sum_cons]
    rw [List.foldl_cons, e, ih _ (by omega) (by omega), ec]
    omega
theorem used_parts (m : List Pod) : ∀ u : Res, m.foldl (fun u p => Res.plus u p.Want) u = ⟨(m.map (·.Want.CPU)).foldl Q.add u.CPU, (m.map (·.Want.Mem)).foldl Q.add u.Mem, (m.map (·.Want.Disk)).foldl Q.add u.Disk⟩ := by
  induction m with
  | nil => intro u; rfl
  | cons p m ih => intro u; rw [List.foldl_cons, ih]; rfl
theorem clampSum_app (a b : List Int) : clampSum (a ++ b) = clampSum a + clampSum b := by simp [clampSum]
theorem used_turn (a b : List Pod) : usedOf (a ++ b) = usedOf (b ++ a) := by
  have key : ∀ f : Pod → Int, ((a ++ b).map f).foldl Q.add 0 = ((b ++ a).map f).foldl Q.add 0 := by
    intro f
    rw [fold_add _ 0 (by omega) (by omega), fold_add _ 0 (by omega) (by omega), List.map_append, List.map_append, clampSum_app, clampSum_app, Int.add_comm (clampSum (a.map f))]
  simp only [usedOf, used_parts, key]
theorem all_same {p : Pod} {y y' : Info} (h1 : y.Node = y'.Node) (h2 : y.Names.length = y'.Names.length) (h3 : ∀ q, q ∈ y.Ports ↔ q ∈ y'.Ports) (h4 : y.Used = y'.Used) : allOf p y = allOf p y' := by
  have hc : clashOf p.Ports y.Ports = clashOf p.Ports y'.Ports := by
    unfold clashOf
    rw [show (fun n => decide (n ∈ y.Ports)) = fun n => decide (n ∈ y'.Ports) from funext fun n => decide_eq_decide.2 (h3 n)]
  have hw : whyOf p y = whyOf p y' := by
    funext k
    match k with
    | 0 => simp only [whyOf, h1]
    | 1 => simp only [whyOf, h1]
    | 2 => simp only [whyOf, h1]
    | 3 => simp only [whyOf, hc]
    | 4 => simp only [whyOf, h1, h2]
    | 5 => simp only [whyOf, h1, h4]
    | 6 => simp only [whyOf, h1, h4]
    | _ + 7 => simp only [whyOf, h1, h4]
  rw [allOf, allOf, allN, allN, hw]
theorem order_law {p : Pod} {n : Node} {a b : List Pod} {y y' : Info} {m m' : List Pod} (hd : ((a ++ b).map (·.Name)).Nodup) (h : OfIs n (a ++ b) y m) (h' : OfIs n (b ++ a) y' m') : allOf p y = allOf p y' := by
  have hd' : ((b ++ a).map (·.Name)).Nodup := by
    rw [List.map_append] at hd ⊢
    exact (List.perm_append_comm.nodup_iff).1 hd
  obtain rfl := h.all hd
  obtain rfl := h'.all hd'
  refine all_same (h.node.trans h'.node.symm) (by rw [h.nlen, h'.nlen, List.length_append, List.length_append, Nat.add_comm]) (fun q => ?_) (by rw [h.used, h'.used, used_turn])
  rw [h.pmem, h'.pmem]
  constructor
  · rintro ⟨x, hx, hq⟩; exact ⟨x, by rw [List.mem_append] at hx ⊢; exact hx.symm, hq⟩
  · rintro ⟨x, hx, hq⟩; exact ⟨x, by rw [List.mem_append] at hx ⊢; exact hx.symm, hq⟩
def OfV (n : Node) (l : List Pod) (w : Value) (J : Hp) : Prop := ∃ y cy m, w = .agg cy.toArray ∧ kInfo.rep J y cy ∧ OfIs n l y m
theorem OfV.mono {n : Node} {l : List Pod} {w : Value} {I J : Hp} (hl : Hp.le I J) (h : OfV n l w I) : OfV n l w J := by
  obtain ⟨y, cy, m, e, hr, ho⟩ := h; exact ⟨y, cy, m, e, Kd.mono _ hl hr, ho⟩
def AllV (p : Pod) (n : Node) (l : List Pod) (u : Value) (J : Hp) : Prop := ∃ y m, OfIs n l y m ∧ Sl (kInt .i64) J u (allOf p y)
theorem AllV.mono {p : Pod} {n : Node} {l : List Pod} {w : Value} {I J : Hp} (hl : Hp.le I J) (h : AllV p n l w I) : AllV p n l w J := by
  obtain ⟨y, m, ho, hr⟩ := h; exact ⟨y, m, ho, hr.mono hl⟩
theorem map_take! {α β : Type} [Inhabited α] {l : List α} {f : α → β} {i : Nat} (h : i < l.length) : (l.take i).map f ++ [f l[i]!] = (l.take (i + 1)).map f := by
  rw [take_succ! h, List.map_append]; rfl
theorem nodup_step {α : Type} [Inhabited α] {l : List α} {f : α → ByteArray} {i : Nat} (h : i < l.length) (hd : ((l.take i).map f).Nodup) (hn : ¬ f l[i]! ∈ (l.take i).map f) : ((l.take (i + 1)).map f).Nodup := by
  rw [take_succ! h, List.map_append]
  refine List.nodup_append.2 ⟨hd, by simp, fun x hx y hy e => ?_⟩
  simp only [List.map_cons, List.map_nil, List.mem_singleton] at hy
  subst hy; subst e; exact hn hx
section
attribute [local irreducible] Quiet OpsR Run CallS opS Gh endQ oblE RunN swp Go.Op.equalIn matchOf isKept keptOf clashOf whyOf whysL whyFirst allOf OfV AllV
theorem of_call {n : Node} {l : List Pod} {cn : List Value} {v : Value} {s : St} (hn : kNode.rep s.I n cn) (hl : Sl kPod s.I v l) (hb0 : l.length ≤ 10000000) (hb1 : (l.map (·.Ports.length)).sum ≤ 10000000) (hb2 : (l.map (·.Claims.length)).sum ≤ 10000000) :
    CallR Tryd.prog 12 #[.agg cn.toArray, v] s (fun J w => OfV n l w J) := by unfold OfV; exact Of_spec hn hl hb0 hb1 hb2
theorem all_call {p : Pod} {n : Node} {l : List Pod} {cp : List Value} {w : Value} {s : St} (hT : Tabs s.I) (hp : kPod.rep s.I p cp) (hw : OfV n l w s.I) (hok : ∀ y : Info, y.Node = n → PairOk p y) :
    CallR Tryd.prog 7 #[.agg cp.toArray, w] s (fun J u => AllV p n l u J) := by
  unfold OfV at hw
  obtain ⟨y, cy, m, rfl, hr, ho⟩ := hw
  intro K hK
  refine All_spec hT hp hr (hok y ho.node) K fun v J hJ hv => hK v J hJ ?_
  unfold AllV; exact ⟨y, m, ho, hv⟩
theorem same_call {p : Pod} {n : Node} {a b : List Pod} {u v : Value} {s : St} (hd : ((a ++ b).map (·.Name)).Nodup) (hu : AllV p n (a ++ b) u s.I) (hv : AllV p n (b ++ a) v s.I) : CallV Tryd.prog 11 #[u, v] s (.bool true) := by
  unfold AllV at hu hv
  obtain ⟨y, m, ho, h1⟩ := hu
  obtain ⟨y', m', ho', h2⟩ := hv
  intro K hK
  refine SameInts_spec _ _ _ _ _ h1 h2 K ?_
  rw [decide_eq_true (order_law hd ho ho')]; exact hK
set_option maxHeartbeats 2000000 in
theorem FitOrder_walk (a0 : Pod) (c0 : List Value) (a1 : Node) (c1 : List Value) (a2 : List Pod) (v2 : Value) (a3 : Int) (s : St) (hT : Tabs s.I) (h0 : kPod.rep s.I a0 c0) (ok0 : kPod.ok a0) (h1 : kNode.rep s.I a1 c1) (ok1 : kNode.ok a1) (h2 : Sl kPod s.I v2 a2) (ok2 : kPod.slice.ok a2) (ok3 : (kInt .i64).ok a3)
    (hb : kPod.bulk a0 + kNode.bulk a1 + kPod.slice.bulk a2 + (kInt .i64).bulk a3 ≤ 1048576) : CallS Tryd.prog 4 #[.agg c0.toArray, .agg c1.toArray, v2, .int .i64 a3] s (fun v s' => v = .bool true ∧ Hp.le s.I s'.I) := by
  have hle2 := h2.len.le
  have hs1 : a2.length ≤ 1048576 ∧ (a2.map (·.Ports.length)).sum ≤ 1048576 ∧ (a2.map (·.Claims.length)).sum ≤ 1048576 := by
    have : ∀ l : List Pod, l.length + 1 ≤ kPod.slice.bulk l ∧ (l.map (·.Ports.length)).sum + 1 ≤ kPod.slice.bulk l ∧ (l.map (·.Claims.length)).sum + 1 ≤ kPod.slice.bulk l := by
      intro l
      induction l with
      | nil => exact ⟨Nat.le_refl _, Nat.le_refl _, Nat.le_refl _⟩
      | cons p l ih =>
        have h1 : p.Ports.length + 1 ≤ (kInt .i64).slice.bulk p.Ports := bulk_len (k := kInt .i64) (fun _ => Nat.le_refl 1) p.Ports
        have h2 := strs_bulk p.Claims
        have h3 : (kInt .i64).slice.bulk p.Ports ≤ kPod.bulk p ∧ kStr.slice.bulk p.Claims ≤ kPod.bulk p := by simp only [kPod, kRes, Kd.iso, Kd.pair]; constructor <;> omega
        simp only [Kd.slice, List.map_cons, List.sum_cons, List.length_cons] at ih h1 h2 h3 ⊢
        omega
    have := this a2; omega
  have hok : ∀ y : Info, y.Node = a1 → PairOk a0 y := by
    rintro y rfl
    have h1 : kTaint.slice.bulk y.Node.Taints ≤ kNode.bulk y.Node ∧ kLabel.slice.bulk y.Node.Labels ≤ kNode.bulk y.Node := by simp only [kNode, Kd.iso, Kd.pair]; constructor <;> omega
    have h2 := pod_bulk a0
    exact ⟨by have := taints_bulk y.Node.Taints; omega, labOk_of (m := 1048576) (by omega) (by omega), reqsOk_of (m := 1048576) (by omega) (by omega)⟩
  obtain ⟨k, hk, hkl⟩ : ∃ k : Nat, amongOf a3 ((a2.length : Int) + 1) = k ∧ k ≤ a2.length := by
    have := among_bd a3 (m := (a2.length : Int) + 1) (by omega) (by omega)
    exact ⟨(amongOf a3 ((a2.length : Int) + 1)).toNat, by omega, by omega⟩
  have hrot : ∀ f : Pod → Nat, ((a2.drop k ++ a2.take k).map f).sum = (a2.map f).sum := fun f => by
    have e : (a2.map f).sum = ((a2.take k).map f).sum + ((a2.drop k).map f).sum := by rw [← List.sum_append, ← List.map_append, List.take_append_drop]
    rw [List.map_append, List.sum_append, e, Nat.add_comm]
  have hml : (a2.drop k ++ a2.take k).length = a2.length := by rw [List.length_append, List.length_drop, List.length_take]; omega
  have hr1 := hrot (·.Ports.length)
  have hr2 := hrot (·.Claims.length)
  have e2 : a2.take k ++ a2.drop k = a2 := List.take_append_drop k a2
  have h0' := h0
  have h1' := h1
  obtain ⟨p1, p2, p3, p4, p5, p6, p7, p8, p9, rfl, g1, g2, g3, g4, g5, g6, g7, g8, g9⟩ := kPod.open h0
  obtain ⟨u1, u2, rfl, k1, k2⟩ := kNode.open h1
  refine callS_of_run Tryd.func4 rfl ?_; simp only [Tryd.ntmps4, List.size_toArray, List.length_cons, List.length_nil, Nat.reduceAdd, Nat.reduceSub, Array.replicate_succ, Array.replicate_zero, List.push_toArray, List.append_toArray, List.nil_append, List.cons_append]
  refine run_seq fun _ hk1 => ?_
  refine run_region ?_
  refine opsR_o rfl (o_box fun bP hbP => ?_)
  simp only [nrm, Nat.reduceAdd, Nat.reduceMul, Nat.reduceSub, Int.reduceToNat, Int.reduceAdd]
  refine opsR_o rfl (o_box fun bN hbN => ?_)
  simp only [nrm, Nat.reduceAdd, Nat.reduceMul, Nat.reduceSub, Int.reduceToNat, Int.reduceAdd]
  refine opsR_q rfl (q_assign) ?_
  simp only [nrm]
  refine opsR_nil ?_
  refine hk1 _ _ ?_
  clear hk1
  refine run_seq fun _ hk4 => ?_
  refine run_seq fun _ hk5 => ?_
  refine run_region ?_
  refine opsR_q rfl (q_call rfl (works_spec (hT.mono (by exact leA)))) ?_
  simp only [nrm, Nat.reduceAdd, Nat.reduceMul, Nat.reduceSub, Int.reduceToNat, Int.reduceAdd]
  refine opsR_q rfl (q_not rfl) ?_
  simp only [nrm]
  refine opsR_nil ?_
  refine hk5 _ _ ?_
  clear hk5
  refine run_cond (t := false) rfl (fun h => by cases h) (fun _ => ?_)
  refine run_skip ?_
  refine hk4 _ _ ?_
  clear hk4
  refine run_seq fun _ hk6 => ?_
  refine run_region ?_
  refine opsR_slice0 kStr rfl fun v7 hs7 hv7 => ?_
  simp only [nrm, Nat.reduceAdd, Nat.reduceMul, Nat.reduceSub, Int.reduceToNat, Int.reduceAdd]
  refine opsR_q rfl (q_assign) ?_
  simp only [nrm]
  refine opsR_nil ?_
  refine hk6 _ _ ?_
  clear hk6
  refine run_seq fun _ hk9 => ?_
  refine run_seq fun _ hk10 => ?_
  refine run_region ?_
  refine opsR_q rfl (q_assign) ?_
  simp only [nrm]
  refine opsR_nil ?_
  refine hk10 _ _ ?_
  clear hk10
  refine run_block ?_
  refine run_loopF [0, 0, 0, 0, 0, 0, 0, 0, 1, 2, 2, 0, 0, 0, 0, 0, 1, 1, 1, 1, 1, 1, 1, 1, 1, 1, 1, 1, 1, 1, 1, 1, 1, 1, 1, 1, 1, 0, 0, 0, 0, 0, 0, 0, 0, 0, 0, 0, 0, 0, 0, 0, 0, 0, 0, 0, 0, 0, 0, 0, 0, 0] (fun zn zL zst => ∃ (i : Nat) (v' : Value) (hs : (List (Nat × Obj))), zL = [v', .int .i64 (i : Nat)] ∧ ⟨s.I, hs ++ (bN, .cells #[.string a1.Name, u1, u2, .bool a1.Off, .int .i64 a1.Give.CPU, .int .i64 a1.Give.Mem, .int .i64 a1.Give.Disk, .int .i64 a1.Pods, .int .i64 a1.Disks] 36 (0, 0)) :: (bP, .cells #[.string a0.Name, .int .i64 a0.Priority, p1, .int .i64 a0.Want.CPU, .int .i64 a0.Want.Mem, .int .i64 a0.Want.Disk, p2, p3, p4, p5, p6, p7, p8, p9, .string a0.Node, .string a0.Hope] 33 (0, 0)) :: s.cs⟩ = zst ∧ zn = a2.length - i ∧ (i ≤ a2.length) ∧ (OwnS kStr 9 s.I v' hs ((a2.take i).map (·.Name))) ∧ (((a2.take i).map (·.Name)).Nodup)) _ _ ⟨0, _, _, rfl, rfl, rfl, by first | assumption | omega | exact Hp.le.rfl | rfl | exact all_zero | exact all_succ (by assumption) (by assumption) | (intro _; omega) | (simp; done), by first | assumption | omega | exact Hp.le.rfl | rfl | exact all_zero | exact all_succ (by assumption) (by assumption) | (intro _; omega) | (simp; done), by first | assumption | omega | exact Hp.le.rfl | rfl | exact all_zero | exact all_succ (by assumption) (by assumption) | (intro _; omega) | (simp; done)⟩ rfl ?_
  rintro _ _ _ jv11 ⟨i, v', hs, rfl, rfl, rfl, hi, hO, hd⟩ K11 hkl11
  simp only [fr, Nat.zero_add, Nat.reduceAdd]
  refine run_seq fun _ hk12 => ?_
  refine run_seq fun _ hk13 => ?_
  refine run_region ?_
  refine opsR_q rfl (q_move) ?_
  simp only [nrm]
  refine opsR_q rfl (q_move) ?_
  simp only [nrm]
  refine opsR_q rfl (q_len_v rfl (by first | exact Sl.len (by assumption) | exact OwnS.len (by assumption) | exact SlR.len (by assumption) | assumption)) ?_
  simp only [nrm, Nat.reduceAdd, Nat.reduceMul, Nat.reduceSub, Int.reduceToNat, Int.reduceAdd]
  refine opsR_q rfl (q_lss rfl rfl) ?_
  simp only [nrm, Nat.reduceAdd, Nat.reduceMul, Nat.reduceSub, Int.reduceToNat, Int.reduceAdd]
  refine opsR_nil ?_
  refine hk13 _ _ ?_
  clear hk13
  refine run_cond rfl (fun ho16 => ?_) (fun ho16 => ?_)
  · have hc16 := ho16; try simp only [spl] at hc16
    refine run_skip ?_
    refine hk12 _ _ ?_
    clear hk12
    refine run_seq fun _ hk17 => ?_
    refine run_block ?_
    refine run_seq fun _ hk18 => ?_
    refine run_seq fun _ hk19 => ?_
    refine run_region ?_
    refine opsR_q rfl (q_move) ?_
    simp only [nrm]
    refine opsR_q rfl (q_move) ?_
    simp only [nrm]
    refine opsR_q rfl (q_move) ?_
    simp only [nrm]
    refine opsR_index rfl rfl rfl slrA (by rfl) idxA idxA fun b21 o21 cs21 ha21 hr21 he21 => ?_
    simp only [nrm, Nat.reduceAdd, Nat.reduceMul, Nat.reduceSub, Int.reduceToNat, Int.reduceAdd]
    try simp only [Int.toNat_natCast, Int.reduceToNat, Int.toNat_zero] at hr21
    try simp only [Int.toNat_natCast, Int.reduceToNat, Int.toNat_zero] at he21
    clear ha21
    obtain ⟨w21_Labels, w21_Bears, w21_Asks, w21_Prefers, w21_Ports, w21_Near, w21_Apart, w21_Spreads, w21_Claims, rfl, h21_Labels, h21_Bears, h21_Asks, h21_Prefers, h21_Ports, h21_Near, h21_Apart, h21_Spreads, h21_Claims⟩ := kPod.open hr21
    refine opsR_q rfl (q_fieldAddr rfl) ?_
    simp only [nrm, Nat.reduceAdd, Nat.reduceMul, Nat.reduceSub, Int.reduceToNat, Int.reduceAdd]
    refine opsR_q rfl (by first | exact q_load_at1 (i := 0) rfl (by first | assumption | exact El.mono (by assumption) leA) rfl (Nat.le_of_ble_eq_true rfl) rfl | exact q_load_at1 rfl (by first | assumption | exact El.mono (by assumption) leA) rfl (Nat.le_of_ble_eq_true rfl) rfl) ?_
    simp only [nrm, Nat.reduceAdd, Nat.reduceMul, Nat.reduceSub, Int.reduceToNat, Int.reduceAdd]
    refine opsR_q rfl (q_call rfl (Has_spec slrA)) ?_
    simp only [nrm, Nat.reduceAdd, Nat.reduceMul, Nat.reduceSub, Int.reduceToNat, Int.reduceAdd]
    rw [any_memG]
    refine opsR_nil ?_
    refine hk19 _ _ ?_
    clear hk19
    refine run_cond rfl (fun ho22 => ?_) (fun ho22 => ?_)
    · have hc22 := ho22; try simp only [spl] at hc22
      refine run_seq fun _ hk23 => ?_
      refine run_region ?_
      refine opsR_q rfl (q_assign) ?_
      simp only [nrm]
      refine opsR_nil ?_
      refine hk23 _ _ ?_
      clear hk23
      refine run_ret ?_
      exact end_tmp rfl rfl rfl (Gh.dropA.trans Gh.drop2) ⟨rfl, leA⟩
    · have hc22 := ho22; try simp only [spl] at hc22
      refine run_skip ?_
      refine hk18 _ _ ?_
      clear hk18
      refine run_region ?_
      refine opsR_q rfl (q_move) ?_
      simp only [nrm]
      refine opsR_q rfl (q_move) ?_
      simp only [nrm]
      refine opsR_q rfl (q_move) ?_
      simp only [nrm]
      refine opsR_index rfl rfl rfl slrA (by rfl) idxA idxA fun b24 o24 cs24 ha24 hr24 he24 => ?_
      simp only [nrm, Nat.reduceAdd, Nat.reduceMul, Nat.reduceSub, Int.reduceToNat, Int.reduceAdd]
      try simp only [Int.toNat_natCast, Int.reduceToNat, Int.toNat_zero] at hr24
      try simp only [Int.toNat_natCast, Int.reduceToNat, Int.toNat_zero] at he24
      clear ha24
      obtain ⟨w24_Labels, w24_Bears, w24_Asks, w24_Prefers, w24_Ports, w24_Near, w24_Apart, w24_Spreads, w24_Claims, rfl, h24_Labels, h24_Bears, h24_Asks, h24_Prefers, h24_Ports, h24_Near, h24_Apart, h24_Spreads, h24_Claims⟩ := kPod.open hr24
      refine opsR_q rfl (q_fieldAddr rfl) ?_
      simp only [nrm, Nat.reduceAdd, Nat.reduceMul, Nat.reduceSub, Int.reduceToNat, Int.reduceAdd]
      refine opsR_q rfl (by first | exact q_load_at1 (i := 0) rfl (by first | assumption | exact El.mono (by assumption) leA) rfl (Nat.le_of_ble_eq_true rfl) rfl | exact q_load_at1 rfl (by first | assumption | exact El.mono (by assumption) leA) rfl (Nat.le_of_ble_eq_true rfl) rfl) ?_
      simp only [nrm, Nat.reduceAdd, Nat.reduceMul, Nat.reduceSub, Int.reduceToNat, Int.reduceAdd]
      refine opsR_slice1 kStr rfl rfl (by rfl) (by decide) (by decide) (by rfl) (by first | rfl | assumption | exact kStr.shut | (refine Kd.mono _ ?_ (by assumption); exact leA) | (apply kStr.shut <;> assumption)) fun v25 hs25 hv25 => ?_
      simp only [nrm, Nat.reduceAdd, Nat.reduceMul, Nat.reduceSub, Int.reduceToNat, Int.reduceAdd]
      refine opsR_app rfl rfl rfl (by first | assumption | (refine OwnS.mono ?_ (by assumption); exact leA)) (by infer_instance) slrA (by rfl) (by rfl) rfl rfl idxA fun v26 hs26 hv26 => ?_
      simp only [nrm, Nat.reduceAdd, Nat.reduceMul, Nat.reduceSub, Int.reduceToNat, Int.reduceAdd]
      refine opsR_dropS (hs := hs25) ?_
      try simp only [nrm, Nat.reduceAdd, Nat.reduceMul, Nat.reduceSub, Int.reduceToNat, Int.reduceAdd]
      refine opsR_q rfl (q_assign) ?_
      simp only [nrm]
      refine opsR_nil ?_
      refine hk17 _ _ ?_
      clear hk17
      refine run_region ?_
      refine opsR_q rfl (q_move) ?_
      simp only [nrm]
      refine opsR_q rfl (by first | exact q_add64 rfl rfl (by omega) (by omega) | exact q_add rfl rfl) ?_
      simp only [nrm, Nat.reduceAdd, Nat.reduceMul, Nat.reduceSub, Int.reduceToNat, Int.reduceAdd]
      refine opsR_q rfl (q_assign) ?_
      simp only [nrm]
      refine opsR_nil ?_
      first
      | exact hkl11 _ _ _ _ (by omega) ⟨i + 1, _, _, rfl, rfl, rfl, by first | omega | exact OwnS.cast (by assumption) rfl | exact OwnS.cast (by assumption) (map_take! (by omega)) | exact nodup_step (by omega) hd (by assumption) | exact List.nodup_nil, by first | omega | exact OwnS.cast (by assumption) rfl | exact OwnS.cast (by assumption) (map_take! (by omega)) | exact nodup_step (by omega) hd (by assumption) | exact List.nodup_nil, by first | omega | exact OwnS.cast (by assumption) rfl | exact OwnS.cast (by assumption) (map_take! (by omega)) | exact nodup_step (by omega) hd (by assumption) | exact List.nodup_nil⟩ rfl
  · have hc16 := ho16; try simp only [spl] at hc16
    refine run_exit ?_
    refine hk9 _ _ ?_
    clear hk9
    refine run_seq fun _ hk28 => ?_
    refine run_gh Gh.dropA ?_
    rw [take_all (by omega)] at hd
    refine run_region ?_
    refine opsR_q rfl (q_move) ?_
    simp only [nrm]
    refine opsR_q rfl (q_move) ?_
    simp only [nrm]
    refine opsR_q rfl (q_len_v rfl (by first | exact Sl.len (by assumption) | exact OwnS.len (by assumption) | exact SlR.len (by assumption) | assumption)) ?_
    simp only [nrm, Nat.reduceAdd, Nat.reduceMul, Nat.reduceSub, Int.reduceToNat, Int.reduceAdd]
    refine opsR_q rfl (by first | exact q_add64 rfl rfl (by omega) (by omega) | exact q_add rfl rfl) ?_
    simp only [nrm, Nat.reduceAdd, Nat.reduceMul, Nat.reduceSub, Int.reduceToNat, Int.reduceAdd]
    refine opsR_q rfl (q_call rfl (Among_spec (by omega) (by omega))) ?_
    simp only [nrm, Nat.reduceAdd, Nat.reduceMul, Nat.reduceSub, Int.reduceToNat, Int.reduceAdd]
    rw [hk]
    refine opsR_q rfl (q_assign) ?_
    simp only [nrm]
    refine opsR_nil ?_
    refine hk28 _ _ ?_
    clear hk28
    refine run_seq fun _ hk30 => ?_
    refine run_mixL mixed [false, true, true, true, false, true, true, true, false, false] [false, false, false, false, false, false, false, false, false, false] [0, 4, 8, 9] (KeepS _) (by kernel_rfl) rfl KeepS.refl ?_
    refine oblK_r ?_
    refine oblK_k rfl (fun z hz => (q_move)) ?_
    simp only [nrm, Nat.reduceAdd, Nat.reduceMul, Nat.reduceSub, Int.reduceToNat, Int.reduceAdd]
    refine oblK_k rfl (fun z hz => (q_move)) ?_
    simp only [nrm, Nat.reduceAdd, Nat.reduceMul, Nat.reduceSub, Int.reduceToNat, Int.reduceAdd]
    refine oblK_cut rfl rfl (by assumption) ⟨_, _, rfl, idxA, rfl⟩ rfl (by rfl) idxA idxA fun v31 hv31 => ?_
    simp only [nrm, Nat.reduceAdd, Nat.reduceMul, Nat.reduceSub, Int.reduceToNat, Int.reduceAdd]
    try simp only [Int.toNat_natCast, Int.reduceToNat, Int.toNat_zero] at hv31
    refine oblK_r ?_
    refine oblK_k rfl (fun z hz => (q_move)) ?_
    simp only [nrm, Nat.reduceAdd, Nat.reduceMul, Nat.reduceSub, Int.reduceToNat, Int.reduceAdd]
    refine oblK_k rfl (fun z hz => (q_move)) ?_
    simp only [nrm, Nat.reduceAdd, Nat.reduceMul, Nat.reduceSub, Int.reduceToNat, Int.reduceAdd]
    refine oblK_cut rfl rfl (by assumption) rfl ⟨_, _, rfl, idxA, rfl⟩ (by rfl) idxA idxA fun v32 hv32 => ?_
    simp only [nrm, Nat.reduceAdd, Nat.reduceMul, Nat.reduceSub, Int.reduceToNat, Int.reduceAdd]
    try simp only [Int.toNat_natCast, Int.reduceToNat, Int.toNat_zero] at hv32
    refine oblK_r ?_
    refine oblK_r ?_
    refine oblK_nil ?_
    refine restK_pick [0] (by kernel_rfl) ⟨?_, trivial⟩
    refine restK_op rfl ?_
    simp only [List.getElem_toArray, List.getElem_cons_zero, List.getElem_cons_succ]
    refine opsR_slice0 kPod rfl fun v33 hs33 hv33 => ?_
    simp only [nrm, Nat.reduceAdd, Nat.reduceMul, Nat.reduceSub, Int.reduceToNat, Int.reduceAdd]
    refine opsR_nil ⟨rfl, rfl, ⟨by exact leA, by intro p hp; simp only [List.mem_cons, List.mem_append, hp, or_true, true_or]⟩, ?_⟩
    refine restK_pick [4] (by kernel_rfl) ⟨?_, trivial⟩
    refine restK_op rfl ?_
    simp only [List.getElem_toArray, List.getElem_cons_zero, List.getElem_cons_succ]
    refine opsR_app rfl rfl rfl (by first | assumption | (refine OwnS.mono ?_ (by assumption); exact leA)) (by infer_instance) slrA (by rfl) (by rfl) rfl rfl idxA fun v34 hs34 hv34 => ?_
    simp only [nrm, Nat.reduceAdd, Nat.reduceMul, Nat.reduceSub, Int.reduceToNat, Int.reduceAdd]
    refine opsR_nil ⟨rfl, rfl, ⟨by exact leA, by intro p hp; simp only [List.mem_cons, List.mem_append, hp, or_true, true_or]⟩, ?_⟩
    refine restK_pick [8] (by kernel_rfl) ⟨?_, trivial⟩
    refine restK_op rfl ?_
    simp only [List.getElem_toArray, List.getElem_cons_zero, List.getElem_cons_succ]
    refine opsR_app rfl rfl rfl (by first | assumption | (refine OwnS.mono ?_ (by assumption); exact leA)) (by infer_instance) slrA (by rfl) (by rfl) rfl rfl idxA fun vM hsM hvM => ?_
    simp only [nrm, Nat.reduceAdd, Nat.reduceMul, Nat.reduceSub, Int.reduceToNat, Int.reduceAdd]
    refine opsR_nil ⟨rfl, rfl, ⟨by exact leA, by intro p hp; simp only [List.mem_cons, List.mem_append, hp, or_true, true_or]⟩, ?_⟩
    refine restK_pick [9] (by kernel_rfl) ⟨?_, trivial⟩
    refine restK_op rfl ?_
    simp only [List.getElem_toArray, List.getElem_cons_zero, List.getElem_cons_succ]
    refine opsR_q rfl (q_assign) ?_
    simp only [nrm]
    refine opsR_nil ⟨rfl, rfl, ⟨by exact leA, by intro p hp; simp only [List.mem_cons, List.mem_append, hp, or_true, true_or]⟩, ?_⟩
    refine restK_end rfl ?_
    try simp only [nrm, Nat.reduceAdd, Nat.reduceMul, Nat.reduceSub, Int.reduceToNat, Int.reduceAdd]
    refine hk30 _ _ ?_
    clear hk30
    refine run_seq fun _ hk36 => ?_
    simp only [List.nil_append, List.take_length, List.drop_zero] at hvM
    refine run_freeze (A := []) hvM rfl fun JM hJM hvM => ?_
    have hrM : Hp.le s.I JM := by exact leA
    refine run_drawW mixed 9 [0, 0, 0, 6, 15, 0, 0, 0, 223, 511, 1023, 2047] (by kernel_rfl) rfl [none, none, none, some ⟨fun v I => OfV a1 a2 v I, fun _ _ _ h1 h2 => OfV.mono h1 h2⟩, some ⟨fun v I => AllV a0 a1 a2 v I, fun _ _ _ h1 h2 => AllV.mono h1 h2⟩, none, none, none, some ⟨fun v I => OfV a1 (a2.drop k ++ a2.take k) v I, fun _ _ _ h1 h2 => OfV.mono h1 h2⟩] ?_
    simp only [List.take_succ_cons, List.take_zero, List.drop_succ_cons, List.drop_zero, List.drop_nil, List.take_nil, chooseL]
    apply Exists.intro
    apply Exists.intro
    apply Exists.intro
    apply Exists.intro
    apply Exists.intro
    apply Exists.intro
    refine obl_q rfl rfl (fun I hI hd => (by first | exact q_loadBN rfl inferInstance (by rfl) | exact q_loadBW rfl inferInstance (by assumption))) ?_
    simp only [nrm, Nat.reduceAdd, Nat.reduceMul, Nat.reduceSub, Int.reduceToNat, Int.reduceAdd]
    refine obl_q rfl rfl (fun I hI hd => (by first | exact q_loadBN rfl inferInstance (by rfl) | exact q_loadBW rfl inferInstance (by assumption))) ?_
    simp only [nrm, Nat.reduceAdd, Nat.reduceMul, Nat.reduceSub, Int.reduceToNat, Int.reduceAdd]
    refine obl_q rfl rfl (fun I hI hd => (q_move)) ?_
    simp only [nrm, Nat.reduceAdd, Nat.reduceMul, Nat.reduceSub, Int.reduceToNat, Int.reduceAdd]
    refine obl_ex rfl rfl (fun I hI hd K hK => o_call rfl (of_call (n := a1) (l := a2) (Kd.mono _ (by exact leA) h1') (by first | assumption | (refine Sl.mono ?_ (by assumption); exact leA)) (by omega) (by omega) (by omega) K hK)) fun vOA => ?_
    simp only [nrm, Nat.reduceAdd, Nat.reduceMul, Nat.reduceSub, Int.reduceToNat, Int.reduceAdd]
    refine obl_ex rfl rfl (fun I hI hd K hK => by have hxOA : (fun v I => OfV a1 a2 v I) vOA I := depsHold_get hd 54 3 (by kernel_rfl); exact o_call rfl (all_call (p := a0) (n := a1) (l := a2) (hT.mono (by exact leA)) (Kd.mono _ (by exact leA) h0') hxOA hok K hK)) fun vLA => ?_
    simp only [nrm, Nat.reduceAdd, Nat.reduceMul, Nat.reduceSub, Int.reduceToNat, Int.reduceAdd]
    refine obl_q rfl rfl (fun I hI hd => (by first | exact q_loadBN rfl inferInstance (by rfl) | exact q_loadBW rfl inferInstance (by assumption))) ?_
    simp only [nrm, Nat.reduceAdd, Nat.reduceMul, Nat.reduceSub, Int.reduceToNat, Int.reduceAdd]
    refine obl_q rfl rfl (fun I hI hd => (by first | exact q_loadBN rfl inferInstance (by rfl) | exact q_loadBW rfl inferInstance (by assumption))) ?_
    simp only [nrm, Nat.reduceAdd, Nat.reduceMul, Nat.reduceSub, Int.reduceToNat, Int.reduceAdd]
    refine obl_q rfl rfl (fun I hI hd => (q_move)) ?_
    simp only [nrm, Nat.reduceAdd, Nat.reduceMul, Nat.reduceSub, Int.reduceToNat, Int.reduceAdd]
    refine obl_ex rfl rfl (fun I hI hd K hK => o_call rfl (of_call (n := a1) (l := a2.drop k ++ a2.take k) (Kd.mono _ (by exact leA) h1') (by first | assumption | (refine Sl.mono ?_ (by assumption); exact leA)) (by omega) (by omega) (by omega) K hK)) fun vOB => ?_
    simp only [nrm, Nat.reduceAdd, Nat.reduceMul, Nat.reduceSub, Int.reduceToNat, Int.reduceAdd]
    refine obl_nil (fun I40 hI40 hF40 => ?_)
    simp only [true_and, and_true] at hF40
    obtain ⟨⟨hOA, hLA⟩, hOB⟩ := hF40
    try simp only [nrm, Nat.reduceAdd, Nat.reduceMul, Nat.reduceSub, Int.reduceToNat, Int.reduceAdd]
    refine opsR_o rfl (o_call rfl (all_call (p := a0) (n := a1) (l := a2.drop k ++ a2.take k) (hT.mono (by exact leA)) (Kd.mono _ (by exact leA) h0') hOB hok _ fun vLB JLB hJLB hvLB => ?_))
    try dsimp only at hJLB hvLB
    try (have hrLB : Hp.le s.I JLB := leA; have hJLB := hJLB)
    simp only [nrm, Nat.reduceAdd, Nat.reduceMul, Nat.reduceSub, Int.reduceToNat, Int.reduceAdd]
    refine opsR_q rfl (q_call rfl (same_call (p := a0) (n := a1) (a := a2.take k) (b := a2.drop k) (by rw [e2]; exact hd) (by rw [e2]; exact AllV.mono leA hLA) hvLB)) ?_
    simp only [nrm, Nat.reduceAdd, Nat.reduceMul, Nat.reduceSub, Int.reduceToNat, Int.reduceAdd]
    refine opsR_q rfl (q_assign) ?_
    simp only [nrm]
    refine opsR_nil ?_
    refine hk36 _ _ ?_
    clear hk36
    refine run_ret ?_
    exact end_tmp rfl rfl rfl ghA ⟨rfl, leA⟩
end
end Go.Proofs.YtcnbcblihepbmaaDoor
namespace Go.Proofs.YtcnbcblihepbmaaDoor
open Go Go.RowKit Go.Deep Go.ChangeShapes Go.WideShapes Go.ChangeAt
theorem FitOrder_tabs {W : World} (h : laidMetH Tryd.prog Rows.fitOrderUptoRow.laid W) : Tabs (World.hp W) := by
  obtain ⟨ps, ⟨g0, t0, cs0, f0, p0, q0, hg0, ht0, hv0, hd0, ⟨g1, t1, cs1, f1, p1, q1, hg1, ht1, hv1, hd1, ⟨g2, t2, cs2, f2, p2, q2, hg2, ht2, hv2, hd2, ⟨g3, t3, cs3, f3, p3, q3, hg3, ht3, hv3, hd3, ⟨g4, t4, cs4, f4, p4, q4, hg4, ht4, hv4, hd4, _, _⟩, _⟩, _⟩, _⟩, _⟩, _, _⟩ := h
  obtain rfl := Option.some.inj ((show Tryd.prog.globalNamed "internal/strconv.uint64pow10" = some 2 by kernel_rfl).symm.trans hg2)
  obtain rfl := Option.some.inj ((show (Tryd.prog.globals[2]?).map (·.type) = some 145 by kernel_rfl).symm.trans ht2)
  obtain ⟨e2, r2, hb2⟩ := var_cells (show Tryd.prog.globalNamed "internal/strconv.uint64pow10" = some 2 by kernel_rfl) hv2
  rw [show Rows.laid_internal_strconv_uint64pow10 = Lib.tabData .u64 Lib.pow10Tab from by kernel_rfl] at hd2
  have hc2 := Lib.cells_of_tab Tryd.underlying145 Tryd.underlying66 (by kernel_rfl) (by kernel_rfl) hd2
  have hb2' : World.hp W 2 = some (.cells (Lib.pow10Tab.map fun z => Value.int .u64 z).toArray e2 r2) := by rw [← hc2]; exact hb2
  obtain rfl := Option.some.inj ((show Tryd.prog.globalNamed "strconv.ErrRange" = some 1 by kernel_rfl).symm.trans hg3)
  obtain rfl := Option.some.inj ((show (Tryd.prog.globals[1]?).map (·.type) = some 115 by kernel_rfl).symm.trans ht3)
  obtain ⟨e3, r3, hb3⟩ := var_cells (show Tryd.prog.globalNamed "strconv.ErrRange" = some 1 by kernel_rfl) hv3
  obtain ⟨_, u3, x3, hc3, _, _⟩ := iface_of_trod Tryd.underlying115 hd3
  have hb3' : World.hp W 1 = some (.cells #[.iface u3 x3] e3 r3) := by rw [show cs3 = #[.iface u3 x3] from Array.toList_inj.1 hc3] at hb3; exact hb3
  obtain rfl := Option.some.inj ((show Tryd.prog.globalNamed "strconv.ErrSyntax" = some 0 by kernel_rfl).symm.trans hg4)
  obtain rfl := Option.some.inj ((show (Tryd.prog.globals[0]?).map (·.type) = some 115 by kernel_rfl).symm.trans ht4)
  obtain ⟨e4, r4, hb4⟩ := var_cells (show Tryd.prog.globalNamed "strconv.ErrSyntax" = some 0 by kernel_rfl) hv4
  obtain ⟨_, u4, x4, hc4, _, _⟩ := iface_of_trod Tryd.underlying115 hd4
  have hb4' : World.hp W 0 = some (.cells #[.iface u4 x4] e4 r4) := by rw [show cs4 = #[.iface u4 x4] from Array.toList_inj.1 hc4] at hb4; exact hb4
  exact ⟨⟨_, _, hb2'⟩, ⟨_, _, _, _, hb4'⟩, ⟨_, _, _, _, hb3'⟩⟩
theorem FitOrder_laidOut : laidOutB Tryd.prog = true := by kernel_rfl
theorem FitOrder_own : ownKnob Tryd.prog.godebug = none := by kernel_rfl
set_option maxRecDepth 60000 in
theorem FitOrder_contract (H : Type) (enc : TypeId × Value → H) (W : World) (base : Nat) (args : Array Value) (ds gs : List (DataW H)) (before : List MemPlace)
    (hval : ∀ (j : Nat) t v, Tryd.f4.params[j]? = some t → args[j]? = some v → Value.okWide Tryd.prog W .any base t v)
    (hW : DataW.Whole enc Tryd.prog Tryd.f4.params.toList Rows.fitOrderSpec.vars false W args.toList ds gs before) (hk : Rows.uptoSmall H (ds ++ gs) = true) (hL : laidMetH Tryd.prog Rows.fitOrderUptoRow.laid W) :
    Calls Tryd.prog 4 args W fun e W' => ∃ v, e = .returned v ∧ Rows.fitOrderSpec.post enc Tryd.prog Tryd.f4 false true false false W args v W' := by
  have hW' := hW
  obtain ⟨p, q, hA0, hV, rfl, hfz, hnd⟩ := hW
  have hA : DataW.TrodAll enc Tryd.prog W 0 (fun _ => true) true Tryd.f4.params.toList args.toList ds p := hA0
  rw [Tryd.params4] at hA hval
  obtain ⟨v0, vs0, d0, ds0, p0, q0, hargs, rfl, rfl, h0, r0⟩ := trodAll_cons hA
  obtain ⟨v1, vs1, d1, ds1, p1, q1, rfl, rfl, rfl, h1, r1⟩ := trodAll_cons r0
  obtain ⟨v2, vs2, d2, ds2, p2, q2, rfl, rfl, rfl, h2, r2⟩ := trodAll_cons r1
  obtain ⟨v3, vs3, d3, ds3, p3, q3, rfl, rfl, rfl, h3, r3⟩ := trodAll_cons r2
  obtain ⟨rfl, rfl, rfl⟩ := trodAll_nil r3
  obtain rfl : args = #[v0, v1, v2, v3] := by cases args; simp_all
  obtain ⟨rfl, rfl⟩ := trodVars_none hV
  have k0 := h0
  have lt0 : ∀ x ∈ p0, x.block < W.heap.size := by obtain ⟨m, hm⟩ := k0; exact DataW.trod_lt m _ _ _ hm
  obtain ⟨cs0, rfl, _⟩ := okWide_struct Tryd.underlying33 (hval 0 33 v0 rfl rfl)
  obtain ⟨f0, hf0⟩ := h0
  obtain ⟨a0, hs0, ok0, bk0⟩ := openPod.op hf0
  have k1 := h1
  have lt1 : ∀ x ∈ p1, x.block < W.heap.size := by obtain ⟨m, hm⟩ := k1; exact DataW.trod_lt m _ _ _ hm
  obtain ⟨cs1, rfl, _⟩ := okWide_struct Tryd.underlying36 (hval 1 36 v1 rfl rfl)
  obtain ⟨f1, hf1⟩ := h1
  obtain ⟨a1, hs1, ok1, bk1⟩ := openNode.op hf1
  have k2 := h2
  have lt2 : ∀ x ∈ p2, x.block < W.heap.size := by obtain ⟨m, hm⟩ := k2; exact DataW.trod_lt m _ _ _ hm
  obtain ⟨x2, l2, c2, rfl⟩ := okWide_slice Tryd.underlying44 (hval 2 44 v2 rfl rfl)
  obtain ⟨f2, hf2⟩ := h2
  obtain ⟨a2, ⟨w2, hw2, hs2⟩, ok2, bk2⟩ := (openSlice openPod (by kernel_rfl) (by decide) : OpenK Tryd.prog 44 kPod.slice).op hf2
  obtain rfl : Value.slice x2 l2 c2 = w2 := by simpa [Value.cells] using hw2
  have k3 := h3
  have lt3 : ∀ x ∈ p3, x.block < W.heap.size := by obtain ⟨m, hm⟩ := k3; exact DataW.trod_lt m _ _ _ hm
  obtain ⟨n3, rfl⟩ := okWide_int Tryd.underlying3 (hval 3 3 v3 rfl rfl)
  obtain ⟨f3, hf3⟩ := h3
  obtain ⟨a3, hs3, ok3, bk3⟩ := (openInt (by kernel_rfl) : OpenK Tryd.prog 3 (kInt .i64)).op hf3
  obtain rfl : n3 = a3 := by simpa [Value.cells, kInt, kBool, kStr] using hs3
  replace bk0 : _ ≤ Rows.uptoBulk d0 := bk0
  replace bk1 : _ ≤ Rows.uptoBulk d1 := bk1
  replace bk2 : _ ≤ Rows.uptoBulk d2 := bk2
  replace bk3 : _ ≤ Rows.uptoBulk d3 := bk3
  have hbk : Rows.uptoBulkAll ([d0, d1, d2, d3] ++ ([] : List (DataW H))) ≤ 1048576 := of_decide_eq_true hk
  simp only [List.append_nil, Rows.uptoBulkAll] at hbk
  clear hA0
  simp only [List.append_nil] at hW'
  refine (FitOrder_walk a0 cs0.toList a1 cs1.toList a2 _ n3 ⟨World.hp W, []⟩ (FitOrder_tabs hL) hs0 ok0 hs1 ok1 hs2 ok2 ok3 (by omega) W (sat_hp W)).mono fun e W' ⟨v, s', he, hs', hx, hv, hle⟩ => ?_
  have bel := below_of hs' hx hle
  subst he; subst hv
  exact ⟨_, rfl, _, _, _, [], _, [], hW', trodAll_mk1 (shut_bool Tryd.underlying4 _), (trodAll_cons_mk (Below.trod FitOrder_laidOut (by kernel_rfl) (of_decide_eq_true (by kernel_rfl)) k0 bel lt0) (trodAll_cons_mk (Below.trod FitOrder_laidOut (by kernel_rfl) (of_decide_eq_true (by kernel_rfl)) k1 bel lt1) (trodAll_cons_mk (Below.trod FitOrder_laidOut (by kernel_rfl) (of_decide_eq_true (by kernel_rfl)) k2 bel lt2) (trodAll_cons_mk (Below.trod FitOrder_laidOut (by kernel_rfl) (of_decide_eq_true (by kernel_rfl)) k3 bel lt3) trodAll_mk0)))), rfl, bel.frame _, fun h => by cases h⟩
noncomputable def FitOrder_low : Nat := (World.holding Tryd.prog default ⟨#[], #[], []⟩).heap.size
noncomputable def FitOrder_world (os : Os) : World := { (World.holding Tryd.prog os ⟨#[.cells #[.string ⟨([118, 97, 108, 117, 101, 32, 111, 117, 116, 32, 111, 102, 32, 114, 97, 110, 103, 101] : List UInt8).toArray⟩] 143, .cells #[.string ⟨([105, 110, 118, 97, 108, 105, 100, 32, 115, 121, 110, 116, 97, 120] : List UInt8).toArray⟩] 143], #[], []⟩) with heap := ((((((World.holding Tryd.prog os ⟨#[.cells #[.string ⟨([118, 97, 108, 117, 101, 32, 111, 117, 116, 32, 111, 102, 32, 114, 97, 110, 103, 101] : List UInt8).toArray⟩] 143, .cells #[.string ⟨([105, 110, 118, 97, 108, 105, 100, 32, 115, 121, 110, 116, 97, 120] : List UInt8).toArray⟩] 143], #[], []⟩).heap).modify 3 (layCells Rows.laid_math_bits_deBruijn32tab)).modify 4 (layCells Rows.laid_math_bits_deBruijn64tab)).modify 2 (layCells Rows.laid_internal_strconv_uint64pow10)).modify 1 (layIface 141 (FitOrder_low + 0))).modify 0 (layIface 141 (FitOrder_low + 1)) }
set_option maxRecDepth 100000 in
theorem FitOrder_met (os : Os) : laidMet Tryd.prog Rows.fitOrderUptoRow.laid ((FitOrder_world os).forCall (fun _ _ => 0) ⟨#[], #[.agg #[.string ByteArray.empty, .int .i64 0, .slice none 0 0, .int .i64 0, .int .i64 0, .int .i64 0, .slice none 0 0, .slice none 0 0, .slice none 0 0, .slice none 0 0, .slice none 0 0, .slice none 0 0, .slice none 0 0, .slice none 0 0, .string ByteArray.empty, .string ByteArray.empty], .agg #[.string ByteArray.empty, .slice none 0 0, .slice none 0 0, .bool false, .int .i64 0, .int .i64 0, .int .i64 0, .int .i64 0, .int .i64 0], .slice none 0 0, .int .i64 0], []⟩).memory := laidMet_of_run' 8 (by kernel_rfl) (by kernel_rfl)
set_option maxRecDepth 100000 in
theorem FitOrder_reads (os : Os) {H : Type} (enc : TypeId × Value → H) : ∃ places, DataW.whole enc Tryd.prog ((FitOrder_world os).forCall (fun _ _ => 0) ⟨#[], #[.agg #[.string ByteArray.empty, .int .i64 0, .slice none 0 0, .int .i64 0, .int .i64 0, .int .i64 0, .slice none 0 0, .slice none 0 0, .slice none 0 0, .slice none 0 0, .slice none 0 0, .slice none 0 0, .slice none 0 0, .slice none 0 0, .string ByteArray.empty, .string ByteArray.empty], .agg #[.string ByteArray.empty, .slice none 0 0, .slice none 0 0, .bool false, .int .i64 0, .int .i64 0, .int .i64 0, .int .i64 0, .int .i64 0], .slice none 0 0, .int .i64 0], []⟩).memory Tryd.f4.params.toList Rows.fitOrderSpec.vars false (#[.agg #[.string ByteArray.empty, .int .i64 0, .slice none 0 0, .int .i64 0, .int .i64 0, .int .i64 0, .slice none 0 0, .slice none 0 0, .slice none 0 0, .slice none 0 0, .slice none 0 0, .slice none 0 0, .slice none 0 0, .slice none 0 0, .string ByteArray.empty, .string ByteArray.empty], .agg #[.string ByteArray.empty, .slice none 0 0, .slice none 0 0, .bool false, .int .i64 0, .int .i64 0, .int .i64 0, .int .i64 0, .int .i64 0], .slice none 0 0, .int .i64 0] : Array Value).toList 8 = some ([.agg [.lit (.string []), .lit (.int .i64 0), .nil, .agg [.lit (.int .i64 0), .lit (.int .i64 0), .lit (.int .i64 0)], .nil, .nil, .nil, .nil, .nil, .nil, .nil, .nil, .lit (.string []), .lit (.string [])], .agg [.lit (.string []), .nil, .nil, .lit (.bool false), .agg [.lit (.int .i64 0), .lit (.int .i64 0), .lit (.int .i64 0)], .lit (.int .i64 0), .lit (.int .i64 0)], .nil, .lit (.int .i64 0)], [], places) := ⟨[], by kernel_rfl⟩
set_option maxRecDepth 100000 in
theorem FitOrder_lifted (os : Os) (started : os.Started) (H : Type) (enc : TypeId × Value → H) (F : Stop.Interp) :
    ReturnsInHanded {} Tryd.checked os 4 .any ((Rows.OpenSpec.upto Rows.fitOrderSpec).preRow enc Tryd.prog Tryd.f4 Rows.fitOrderUptoRow.domain false Rows.fitOrderUptoRow.laid) (((Rows.OpenSpec.upto Rows.fitOrderSpec).at F).post enc Tryd.prog Tryd.f4 false true false false) := by
  obtain ⟨places, hx⟩ := FitOrder_reads os enc
  refine returnsInHanded_of_row (C := Tryd.checked) (s := Rows.OpenSpec.upto Rows.fitOrderSpec) FitOrder_own started (by kernel_rfl) Tryd.func4
    (witness_row_at (enc := enc) (C := Tryd.checked) false (FitOrder_world os) #[.agg #[.string ByteArray.empty, .int .i64 0, .slice none 0 0, .int .i64 0, .int .i64 0, .int .i64 0, .slice none 0 0, .slice none 0 0, .slice none 0 0, .slice none 0 0, .slice none 0 0, .slice none 0 0, .slice none 0 0, .slice none 0 0, .string ByteArray.empty, .string ByteArray.empty], .agg #[.string ByteArray.empty, .slice none 0 0, .slice none 0 0, .bool false, .int .i64 0, .int .i64 0, .int .i64 0, .int .i64 0, .int .i64 0], .slice none 0 0, .int .i64 0] rfl (by kernel_rfl) (by kernel_rfl) (by kernel_rfl)
      (OpenSpec.preRow_of_cond 8 hx (by kernel_rfl) (fun k hk => by cases hk; kernel_rfl) (by kernel_rfl) (FitOrder_met os))) ?_
  intro W base args ds gs before hval hW _ hcond _ hL _ _
  exact FitOrder_contract H enc W base args ds gs before hval hW (hcond _ rfl) hL
theorem FitOrder_over : Rows.fitOrderUptoRow.holds Tryd.pinned (Rows.OpenSpec.upto Rows.fitOrderSpec) :=
  OpenClaim.holds_of_cond 4 Tryd.f4 rfl rfl rfl rfl rfl rfl rfl ⟨rfl, rfl, rfl, rfl, rfl⟩ rfl rfl rfl rfl rfl (by kernel_rfl) Tryd.func4 (by kernel_rfl)
    (of_decide_eq_true (by kernel_rfl)) (by unfold Func.isWrapper; first | (rw [if_pos (by decide +kernel)]; kernel_rfl) | (rw [if_neg (by decide +kernel)]; exact ⟨rfl, rfl⟩))
    (fun os started H enc _ F => by rw [OpenClaim.pre_eq_preRow]; exact FitOrder_lifted os started H enc F)
theorem FitOrder_plain (f : FuncId) (fn : Func) (hf : Tryd.pinned.checked.prog.funcNamed "stevedore/stevedorelaw07.FitOrder" = some f) (hfn : Tryd.pinned.checked.prog.funcs[f]? = some fn) :
    true = Tryd.pinned.checked.prog.looks [] ∧ ∀ (j : Nat) t, fn.params[j]? = some t → Tryd.pinned.checked.prog.wantsStandIn t = false := by
  obtain rfl : f = 4 := Option.some.inj ((show Tryd.prog.funcNamed "stevedore/stevedorelaw07.FitOrder" = some 4 by kernel_rfl).symm.trans hf) |>.symm
  obtain rfl : fn = Tryd.f4 := (Option.some.inj (Tryd.func4.symm.trans hfn)).symm
  refine ⟨by kernel_rfl, fun j t ht => ?_⟩
  rw [Tryd.params4] at ht
  have hm := Array.mem_of_getElem? ht
  simp only [List.mem_toArray, List.mem_cons, List.mem_nil_iff, or_false] at hm
  rcases hm with rfl | rfl | rfl | rfl
  · exact (show Tryd.prog.wantsStandIn 33 = false by kernel_rfl)
  · exact (show Tryd.prog.wantsStandIn 36 = false by kernel_rfl)
  · exact (show Tryd.prog.wantsStandIn 44 = false by kernel_rfl)
  · exact (show Tryd.prog.wantsStandIn 3 = false by kernel_rfl)
theorem FitOrder_proved : Rows.FitOrderUptoCardSaid :=
  Claim7.holds_tied_plain_at .later [] _ _ _ _ FitOrder_over (fun _ h => by cases h) (by kernel_rfl) (fun _ h => by cases h) fitOrderUpto_row_tie rfl ⟨rfl, rfl⟩ (by kernel_rfl) rfl FitOrder_plain (by kernel_rfl)
end Go.Proofs.YtcnbcblihepbmaaDoor
