/- Package label and its reference: Meets and Match. -/
import Derived.Test.YtcnbcblihepbmaaGreatDoorLB
import Derived.Test.YtcnbcblihepbmaaGreatDoorWH
set_option autoImplicit false
set_option linter.unusedVariables false
set_option linter.unusedSimpArgs false
namespace Go.Proofs.YtcnbcblihepbmaaGreatDoor
open Go Go.RowKit
/-- How far a value lies above what is asked. -/
def ByIs (g : Option ByteArray) (ws : List ByteArray) (v : Value) : Prop := ∃ n ok, v = .tuple #[.int .i64 n, .bool ok] ∧
  ((ok = false ∧ ∀ f, cmpOf g ws f = false) ∨ (ok = true ∧ ∃ a b : Nat, n = (a : Int) - b ∧ ∀ f, cmpOf g ws f = f a b))
theorem one_get {ws : List ByteArray} (h : (ws.length : Int) = 1) : ws = [ws[0]!] := by
  match ws, h with
  | [w], _ => rfl
  | [], h => simp at h
  | _ :: _ :: _, h => simp at h; omega
theorem some_get {g : Option ByteArray} (h : g.isSome = true) : g = some (g.getD ⟨#[]⟩) := by cases g with | none => cases h | some d => rfl
theorem by_no {g : Option ByteArray} {ws : List ByteArray} {n : Int} (h : g.isSome = false ∨ ¬ (ws.length : Int) = 1) : ByIs g ws (.tuple #[.int .i64 n, .bool false]) := by
  refine ⟨n, false, rfl, Or.inl ⟨rfl, fun f => ?_⟩⟩
  rcases h with h | h
  · cases g with
    | none => rfl
    | some d => cases h
  · match g, ws, h with
    | none, _, _ => rfl
    | some d, [], _ => rfl
    | some d, [w], h => exact absurd rfl h
    | some d, _ :: _ :: _, _ => rfl
theorem by_two {g : Option ByteArray} {ws : List ByteArray} {n m : Int} {a b x : Bool} (hg : g.isSome = true) (hw : (ws.length : Int) = 1)
    (hn1 : n ≤ 9223372036854775807) (hm1 : m ≤ 9223372036854775807)
    (hP : (a = true ∧ numOf (g.getD ⟨#[]⟩) = some n.toNat ∧ 0 ≤ n) ∨ (a = false ∧ numOf (g.getD ⟨#[]⟩) = none))
    (hQ : (b = true ∧ numOf ws[0]! = some m.toNat ∧ 0 ≤ m) ∨ (b = false ∧ numOf ws[0]! = none)) (hx : x = (a && b)) :
    ByIs g ws (.tuple #[.int .i64 (IntKind.i64.wrap (n - m)), .bool x]) := by
  refine ⟨_, _, rfl, ?_⟩
  have e1 := some_get hg
  have e2 := one_get hw
  generalize g.getD ⟨#[]⟩ = d at *
  generalize ws[0]! = w at *
  subst e1 e2 hx
  rcases hP with ⟨rfl, h1, h2⟩ | ⟨rfl, h1⟩
  · rcases hQ with ⟨rfl, k1, k2⟩ | ⟨rfl, k1⟩
    · refine Or.inr ⟨rfl, n.toNat, m.toNat, ?_, fun f => ?_⟩
      · rw [wrap_i64_id (by omega) (by omega)]; omega
      · simp only [cmpOf, h1, k1]
    · refine Or.inl ⟨by rfl, fun f => ?_⟩
      simp only [cmpOf, h1, k1]
  · refine Or.inl ⟨by cases b <;> rfl, fun f => ?_⟩
    simp only [cmpOf, h1]
theorem cmp_above {g : Option ByteArray} {ws : List ByteArray} {n : Int} {ok : Bool}
    (h : (ok = false ∧ ∀ f, cmpOf g ws f = false) ∨ (ok = true ∧ ∃ a b : Nat, n = (a : Int) - b ∧ ∀ f, cmpOf g ws f = f a b)) :
    (ok && decide (n > 0)) = cmpOf g ws (fun n m => decide (m < n)) := by
  rcases h with ⟨rfl, h⟩ | ⟨rfl, a, b, rfl, h⟩
  · rw [h]; rfl
  · rw [h, Bool.true_and]; exact decide_eq_decide.2 (by omega)
theorem cmp_below {g : Option ByteArray} {ws : List ByteArray} {n : Int} {ok : Bool}
    (h : (ok = false ∧ ∀ f, cmpOf g ws f = false) ∨ (ok = true ∧ ∃ a b : Nat, n = (a : Int) - b ∧ ∀ f, cmpOf g ws f = f a b)) :
    (ok && decide (n < 0)) = cmpOf g ws (fun n m => decide (n < m)) := by
  rcases h with ⟨rfl, h⟩ | ⟨rfl, a, b, rfl, h⟩
  · rw [h]; rfl
  · rw [h, Bool.true_and]; exact decide_eq_decide.2 (by omega)
theorem in_some {g : Option ByteArray} {ws : List ByteArray} : (g.isSome && ws.any fun y => decide (g.getD ⟨#[]⟩ = y)) = inOf g ws := by cases g <;> rfl
theorem size_getD {g : Option ByteArray} {m : Nat} (h : ∀ x, g = some x → x.size ≤ m) : (g.getD ⟨#[]⟩).size ≤ m := by
  cases g with
  | none => exact Nat.zero_le _
  | some x => exact h x rfl
section
attribute [local irreducible] Quiet OpsR Run CallS opS Gh endQ oblE RunN swp cmpOf inOf numOf
theorem foundIs_spec {d : ByteArray} {b : Bool} {v : Value} {s : St} : CallV Tryz.prog 92 #[.agg #[.string d, .bool b, v]] s (.bool b) := by
  intro K hK
  refine callS_of_run Tryz.func92 rfl ?_; simp only [Tryz.ntmps92, List.size_toArray, List.length_cons, List.length_nil, Nat.reduceAdd, Nat.reduceSub, Array.replicate_succ, Array.replicate_zero, List.push_toArray, List.append_toArray, List.nil_append, List.cons_append]
  refine run_seq fun _ hk1 => ?_
  refine run_region ?_
  refine opsR_o rfl (o_box fun b2 hb2 => ?_)
  simp only [nrm, Nat.reduceAdd, Nat.reduceMul, Nat.reduceSub, Int.reduceToNat, Int.reduceAdd]
  refine opsR_q rfl (q_assign) ?_
  simp only [nrm]
  refine opsR_nil ?_
  refine hk1 _ _ ?_
  clear hk1
  refine run_seq fun _ hk3 => ?_
  refine run_region ?_
  refine opsR_q rfl (q_fieldAddr rfl) ?_
  simp only [nrm, Nat.reduceAdd, Nat.reduceMul, Nat.reduceSub, Int.reduceToNat, Int.reduceAdd]
  refine opsR_q rfl (q_loadB1 rfl inferInstance rfl) ?_
  simp only [nrm, Nat.reduceAdd, Nat.reduceMul, Nat.reduceSub, Int.reduceToNat, Int.reduceAdd]
  refine opsR_q rfl (q_assign) ?_
  simp only [nrm]
  refine opsR_nil ?_
  refine hk3 _ _ ?_
  clear hk3
  refine run_ret ?_
  exact end_tmp rfl rfl rfl ghA hK
theorem foundIn_spec {g : Option ByteArray} {ws : List ByteArray} {v : Value} {s : St} (hs : Sl kStr s.I v ws) : CallV Tryz.prog 91 #[.agg #[.string (g.getD ⟨#[]⟩), .bool g.isSome, v]] s (.bool (inOf g ws)) := by
  intro K hK
  refine callS_of_run Tryz.func91 rfl ?_; simp only [Tryz.ntmps91, List.size_toArray, List.length_cons, List.length_nil, Nat.reduceAdd, Nat.reduceSub, Array.replicate_succ, Array.replicate_zero, List.push_toArray, List.append_toArray, List.nil_append, List.cons_append]
  refine run_seq fun _ hk1 => ?_
  refine run_region ?_
  refine opsR_o rfl (o_box fun b2 hb2 => ?_)
  simp only [nrm, Nat.reduceAdd, Nat.reduceMul, Nat.reduceSub, Int.reduceToNat, Int.reduceAdd]
  refine opsR_q rfl (q_assign) ?_
  simp only [nrm]
  refine opsR_nil ?_
  refine hk1 _ _ ?_
  clear hk1
  refine run_seq fun _ hk3 => ?_
  refine run_region ?_
  refine opsR_q rfl (q_fieldAddr rfl) ?_
  simp only [nrm, Nat.reduceAdd, Nat.reduceMul, Nat.reduceSub, Int.reduceToNat, Int.reduceAdd]
  refine opsR_q rfl (q_loadB1 rfl inferInstance rfl) ?_
  simp only [nrm, Nat.reduceAdd, Nat.reduceMul, Nat.reduceSub, Int.reduceToNat, Int.reduceAdd]
  refine opsR_qb rfl (q_move) (fun hc5 => ?_) (fun hc5 => ?_)
  · have ho5 := hc5; try simp only [spl] at hc5
    simp only [nrm, Nat.reduceAdd, Nat.reduceMul, Nat.reduceSub, Int.reduceToNat, Int.reduceAdd]
    refine opsR_q rfl (q_fieldAddr rfl) ?_
    simp only [nrm, Nat.reduceAdd, Nat.reduceMul, Nat.reduceSub, Int.reduceToNat, Int.reduceAdd]
    refine opsR_q rfl (q_loadB1 rfl inferInstance rfl) ?_
    simp only [nrm, Nat.reduceAdd, Nat.reduceMul, Nat.reduceSub, Int.reduceToNat, Int.reduceAdd]
    refine opsR_q rfl (q_fieldAddr rfl) ?_
    simp only [nrm, Nat.reduceAdd, Nat.reduceMul, Nat.reduceSub, Int.reduceToNat, Int.reduceAdd]
    refine opsR_q rfl (q_loadB1 rfl inferInstance rfl) ?_
    simp only [nrm, Nat.reduceAdd, Nat.reduceMul, Nat.reduceSub, Int.reduceToNat, Int.reduceAdd]
    refine opsR_q rfl (q_call rfl (Contains_Str (by exact slrA))) ?_
    simp only [nrm, Nat.reduceAdd, Nat.reduceMul, Nat.reduceSub, Int.reduceToNat, Int.reduceAdd]
    refine opsR_q rfl (q_pick_t rfl) ?_
    simp only [nrm]
    refine opsR_q rfl (q_assign) ?_
    simp only [nrm]
    refine opsR_nil ?_
    refine hk3 _ _ ?_
    clear hk3
    refine run_ret ?_
    first | exact end_tmp rfl rfl rfl ghA hK | exact end_tmp rfl rfl rfl ghA (eqK hK (congrArg Go.Value.bool (by rw [← in_some]; simp [*])))
  · have ho5 := hc5; try simp only [spl] at hc5
    simp only [nrm, Nat.reduceAdd, Nat.reduceMul, Nat.reduceSub, Int.reduceToNat, Int.reduceAdd]
    refine opsR_skip rfl ?_
    simp only [nrm, Nat.reduceAdd, Nat.reduceMul, Nat.reduceSub, Int.reduceToNat, Int.reduceAdd]
    refine opsR_skip rfl ?_
    simp only [nrm, Nat.reduceAdd, Nat.reduceMul, Nat.reduceSub, Int.reduceToNat, Int.reduceAdd]
    refine opsR_skip rfl ?_
    simp only [nrm, Nat.reduceAdd, Nat.reduceMul, Nat.reduceSub, Int.reduceToNat, Int.reduceAdd]
    refine opsR_skip rfl ?_
    simp only [nrm, Nat.reduceAdd, Nat.reduceMul, Nat.reduceSub, Int.reduceToNat, Int.reduceAdd]
    refine opsR_skip rfl ?_
    simp only [nrm, Nat.reduceAdd, Nat.reduceMul, Nat.reduceSub, Int.reduceToNat, Int.reduceAdd]
    refine opsR_q rfl (q_pick_f rfl) ?_
    simp only [nrm]
    refine opsR_q rfl (q_assign) ?_
    simp only [nrm]
    refine opsR_nil ?_
    refine hk3 _ _ ?_
    clear hk3
    refine run_ret ?_
    first | exact end_tmp rfl rfl rfl ghA hK | exact end_tmp rfl rfl rfl ghA (eqK hK (congrArg Go.Value.bool (by rw [← in_some]; simp [*])))
theorem foundBy_spec {g : Option ByteArray} {ws : List ByteArray} {v : Value} {s : St} (hT : Tabs s.I) (hs : Sl kStr s.I v ws) (hg : (g.getD ⟨#[]⟩).size ≤ 281474976710656) (hw : ∀ w ∈ ws, w.size ≤ 281474976710656) : CallQ Tryz.prog 103 #[.agg #[.string (g.getD ⟨#[]⟩), .bool g.isSome, v]] s (ByIs g ws) := by
  intro K hK
  have hle := hs.len.le
  refine callS_of_run Tryz.func103 rfl ?_; simp only [Tryz.ntmps103, List.size_toArray, List.length_cons, List.length_nil, Nat.reduceAdd, Nat.reduceSub, Array.replicate_succ, Array.replicate_zero, List.push_toArray, List.append_toArray, List.nil_append, List.cons_append]
  refine run_seq fun _ hk1 => ?_
  refine run_region ?_
  refine opsR_o rfl (o_box fun b2 hb2 => ?_)
  simp only [nrm, Nat.reduceAdd, Nat.reduceMul, Nat.reduceSub, Int.reduceToNat, Int.reduceAdd]
  refine opsR_q rfl (q_assign) ?_
  simp only [nrm]
  refine opsR_q rfl (q_assign) ?_
  simp only [nrm]
  refine opsR_nil ?_
  refine hk1 _ _ ?_
  clear hk1
  refine run_seq fun _ hk3 => ?_
  refine run_seq fun _ hk4 => ?_
  refine run_region ?_
  refine opsR_q rfl (q_fieldAddr rfl) ?_
  simp only [nrm, Nat.reduceAdd, Nat.reduceMul, Nat.reduceSub, Int.reduceToNat, Int.reduceAdd]
  refine opsR_q rfl (q_loadB1 rfl inferInstance rfl) ?_
  simp only [nrm, Nat.reduceAdd, Nat.reduceMul, Nat.reduceSub, Int.reduceToNat, Int.reduceAdd]
  refine opsR_q rfl (q_not rfl) ?_
  simp only [nrm]
  refine opsR_qb rfl (q_move) (fun hc6 => ?_) (fun hc6 => ?_)
  · have ho6 := hc6; try simp only [spl] at hc6
    simp only [nrm, Nat.reduceAdd, Nat.reduceMul, Nat.reduceSub, Int.reduceToNat, Int.reduceAdd]
    refine opsR_skip rfl ?_
    simp only [nrm, Nat.reduceAdd, Nat.reduceMul, Nat.reduceSub, Int.reduceToNat, Int.reduceAdd]
    refine opsR_skip rfl ?_
    simp only [nrm, Nat.reduceAdd, Nat.reduceMul, Nat.reduceSub, Int.reduceToNat, Int.reduceAdd]
    refine opsR_skip rfl ?_
    simp only [nrm, Nat.reduceAdd, Nat.reduceMul, Nat.reduceSub, Int.reduceToNat, Int.reduceAdd]
    refine opsR_skip rfl ?_
    simp only [nrm, Nat.reduceAdd, Nat.reduceMul, Nat.reduceSub, Int.reduceToNat, Int.reduceAdd]
    refine opsR_q rfl (q_pick_t rfl) ?_
    simp only [nrm]
    refine opsR_nil ?_
    refine hk4 _ _ ?_
    clear hk4
    refine run_cond (t := true) rfl (fun _ => ?_) (fun h => by cases h)
    refine run_seq fun _ hk7 => ?_
    refine run_region ?_
    refine opsR_q rfl (q_assign) ?_
    simp only [nrm]
    refine opsR_q rfl (q_assign) ?_
    simp only [nrm]
    refine opsR_nil ?_
    refine hk7 _ _ ?_
    clear hk7
    refine run_ret ?_
    exact end_tmp2 rfl rfl rfl rfl (by exact ghA) (hK _ (by_no (by first | exact Or.inl (by assumption) | exact Or.inr (by omega))))
  · have ho6 := hc6; try simp only [spl] at hc6
    simp only [nrm, Nat.reduceAdd, Nat.reduceMul, Nat.reduceSub, Int.reduceToNat, Int.reduceAdd]
    refine opsR_q rfl (q_fieldAddr rfl) ?_
    simp only [nrm, Nat.reduceAdd, Nat.reduceMul, Nat.reduceSub, Int.reduceToNat, Int.reduceAdd]
    refine opsR_q rfl (q_loadB1 rfl inferInstance rfl) ?_
    simp only [nrm, Nat.reduceAdd, Nat.reduceMul, Nat.reduceSub, Int.reduceToNat, Int.reduceAdd]
    refine opsR_q rfl (q_len_v rfl (by first | exact Sl.len (by assumption) | exact OwnS.len (by assumption) | exact SlR.len (by assumption) | assumption)) ?_
    simp only [nrm, Nat.reduceAdd, Nat.reduceMul, Nat.reduceSub, Int.reduceToNat, Int.reduceAdd]
    refine opsR_q rfl (q_neq rfl rfl) ?_
    simp only [nrm, Nat.reduceAdd, Nat.reduceMul, Nat.reduceSub, Int.reduceToNat, Int.reduceAdd]
    refine opsR_q rfl (q_pick_f rfl) ?_
    simp only [nrm]
    refine opsR_nil ?_
    refine hk4 _ _ ?_
    clear hk4
    refine run_cond rfl (fun ho8 => ?_) (fun ho8 => ?_)
    · have hc8 := ho8; try simp only [spl] at hc8
      refine run_seq fun _ hk9 => ?_
      refine run_region ?_
      refine opsR_q rfl (q_assign) ?_
      simp only [nrm]
      refine opsR_q rfl (q_assign) ?_
      simp only [nrm]
      refine opsR_nil ?_
      refine hk9 _ _ ?_
      clear hk9
      refine run_ret ?_
      exact end_tmp2 rfl rfl rfl rfl (by exact ghA) (hK _ (by_no (by first | exact Or.inl (by assumption) | exact Or.inr (by omega))))
    · have hc8 := ho8; try simp only [spl] at hc8
      refine run_skip ?_
      refine hk3 _ _ ?_
      clear hk3
      refine run_seq fun _ hk10 => ?_
      refine run_region ?_
      refine opsR_q rfl (q_fieldAddr rfl) ?_
      simp only [nrm, Nat.reduceAdd, Nat.reduceMul, Nat.reduceSub, Int.reduceToNat, Int.reduceAdd]
      refine opsR_q rfl (q_loadB1 rfl inferInstance rfl) ?_
      simp only [nrm, Nat.reduceAdd, Nat.reduceMul, Nat.reduceSub, Int.reduceToNat, Int.reduceAdd]
      refine opsR_o rfl (o_call rfl (number_spec (by assumption) (by omega) _ fun vA hvA => ?_))
      simp only [nrm, Nat.reduceAdd, Nat.reduceMul, Nat.reduceSub, Int.reduceToNat, Int.reduceAdd]
      obtain ⟨n, a, rfl, hn0, hn1, hP⟩ := hvA
      refine opsR_q rfl (q_move) ?_
      simp only [nrm]
      refine opsR_q rfl (q_extract rfl rfl) ?_
      simp only [nrm]
      refine opsR_q rfl (q_extract rfl rfl) ?_
      simp only [nrm]
      refine opsR_q rfl (q_assign) ?_
      simp only [nrm]
      refine opsR_q rfl (q_assign) ?_
      simp only [nrm]
      refine opsR_nil ?_
      refine hk10 _ _ ?_
      clear hk10
      refine run_seq fun _ hk13 => ?_
      refine run_region ?_
      refine opsR_q rfl (q_fieldAddr rfl) ?_
      simp only [nrm, Nat.reduceAdd, Nat.reduceMul, Nat.reduceSub, Int.reduceToNat, Int.reduceAdd]
      refine opsR_q rfl (q_loadB1 rfl inferInstance rfl) ?_
      simp only [nrm, Nat.reduceAdd, Nat.reduceMul, Nat.reduceSub, Int.reduceToNat, Int.reduceAdd]
      refine opsR_index rfl rfl rfl slrA (by rfl) idxA idxA fun b14 o14 cs14 ha14 hr14 he14 => ?_
      simp only [nrm, Nat.reduceAdd, Nat.reduceMul, Nat.reduceSub, Int.reduceToNat, Int.reduceAdd]
      try simp only [Int.toNat_natCast, Int.reduceToNat, Int.toNat_zero] at hr14
      try simp only [Int.toNat_natCast, Int.reduceToNat, Int.toNat_zero] at he14
      clear ha14
      obtain rfl := hr14
      refine opsR_q rfl (by first | exact q_load_at1 (i := 0) rfl (by first | assumption | exact El.mono (by assumption) leA) rfl (Nat.le_of_ble_eq_true rfl) rfl | exact q_load_at1 rfl (by first | assumption | exact El.mono (by assumption) leA) rfl (Nat.le_of_ble_eq_true rfl) rfl) ?_
      simp only [nrm, Nat.reduceAdd, Nat.reduceMul, Nat.reduceSub, Int.reduceToNat, Int.reduceAdd]
      have hz := hw _ (mem_get! (i := 0) (by omega))
      refine opsR_o rfl (o_call rfl (number_spec (by assumption) (by omega) _ fun vB hvB => ?_))
      simp only [nrm, Nat.reduceAdd, Nat.reduceMul, Nat.reduceSub, Int.reduceToNat, Int.reduceAdd]
      obtain ⟨m, b, rfl, hm0, hm1, hQ⟩ := hvB
      refine opsR_q rfl (q_move) ?_
      simp only [nrm]
      refine opsR_q rfl (q_extract rfl rfl) ?_
      simp only [nrm]
      refine opsR_q rfl (q_extract rfl rfl) ?_
      simp only [nrm]
      refine opsR_q rfl (q_assign) ?_
      simp only [nrm]
      refine opsR_q rfl (q_assign) ?_
      simp only [nrm]
      refine opsR_nil ?_
      refine hk13 _ _ ?_
      clear hk13
      refine run_seq fun _ hk17 => ?_
      refine run_region ?_
      refine opsR_q rfl (q_move) ?_
      simp only [nrm]
      refine opsR_q rfl (q_move) ?_
      simp only [nrm]
      refine opsR_q rfl (q_sub rfl rfl) ?_
      simp only [nrm, Nat.reduceAdd, Nat.reduceMul, Nat.reduceSub, Int.reduceToNat, Int.reduceAdd]
      refine opsR_q rfl (q_move) ?_
      simp only [nrm]
      refine opsR_qb rfl (q_move) (fun hc18 => ?_) (fun hc18 => ?_)
      · have ho18 := hc18; try simp only [spl] at hc18
        simp only [nrm, Nat.reduceAdd, Nat.reduceMul, Nat.reduceSub, Int.reduceToNat, Int.reduceAdd]
        refine opsR_q rfl (q_move) ?_
        simp only [nrm]
        refine opsR_q rfl (q_pick_t rfl) ?_
        simp only [nrm]
        refine opsR_q rfl (q_assign) ?_
        simp only [nrm]
        refine opsR_q rfl (q_assign) ?_
        simp only [nrm]
        refine opsR_nil ?_
        refine hk17 _ _ ?_
        clear hk17
        refine run_ret ?_
        exact end_tmp2 rfl rfl rfl rfl (by exact ghA) (hK _ (by_two (by assumption) (by omega) hn1 hm1 hP hQ (by simp [*])))
      · have ho18 := hc18; try simp only [spl] at hc18
        simp only [nrm, Nat.reduceAdd, Nat.reduceMul, Nat.reduceSub, Int.reduceToNat, Int.reduceAdd]
        refine opsR_skip rfl ?_
        simp only [nrm, Nat.reduceAdd, Nat.reduceMul, Nat.reduceSub, Int.reduceToNat, Int.reduceAdd]
        refine opsR_q rfl (q_pick_f rfl) ?_
        simp only [nrm]
        refine opsR_q rfl (q_assign) ?_
        simp only [nrm]
        refine opsR_q rfl (q_assign) ?_
        simp only [nrm]
        refine opsR_nil ?_
        refine hk17 _ _ ?_
        clear hk17
        refine run_ret ?_
        exact end_tmp2 rfl rfl rfl rfl (by exact ghA) (hK _ (by_two (by assumption) (by omega) hn1 hm1 hP hQ (by simp [*])))
theorem foundAbove_spec {g : Option ByteArray} {ws : List ByteArray} {v : Value} {s : St} (hT : Tabs s.I) (hs : Sl kStr s.I v ws) (hg : (g.getD ⟨#[]⟩).size ≤ 281474976710656) (hw : ∀ w ∈ ws, w.size ≤ 281474976710656) : CallV Tryz.prog 93 #[.agg #[.string (g.getD ⟨#[]⟩), .bool g.isSome, v]] s (.bool (cmpOf g ws (fun n m => decide (m < n)))) := by
  intro K hK
  refine callS_of_run Tryz.func93 rfl ?_; simp only [Tryz.ntmps93, List.size_toArray, List.length_cons, List.length_nil, Nat.reduceAdd, Nat.reduceSub, Array.replicate_succ, Array.replicate_zero, List.push_toArray, List.append_toArray, List.nil_append, List.cons_append]
  refine run_seq fun _ hk1 => ?_
  refine run_region ?_
  refine opsR_o rfl (o_box fun b2 hb2 => ?_)
  simp only [nrm, Nat.reduceAdd, Nat.reduceMul, Nat.reduceSub, Int.reduceToNat, Int.reduceAdd]
  refine opsR_q rfl (q_assign) ?_
  simp only [nrm]
  refine opsR_nil ?_
  refine hk1 _ _ ?_
  clear hk1
  refine run_seq fun _ hk3 => ?_
  refine run_region ?_
  refine opsR_q rfl (by first | exact q_loadBN rfl inferInstance (by rfl) | exact q_loadBW rfl inferInstance (by assumption)) ?_
  simp only [nrm, Nat.reduceAdd, Nat.reduceMul, Nat.reduceSub, Int.reduceToNat, Int.reduceAdd]
  refine opsR_o rfl (o_call rfl (foundBy_spec (g := g) (ws := ws) (by exact hT) (by exact hs) hg hw _ fun vA hvA => ?_))
  simp only [nrm, Nat.reduceAdd, Nat.reduceMul, Nat.reduceSub, Int.reduceToNat, Int.reduceAdd]
  obtain ⟨n, ok, rfl, hP⟩ := hvA
  refine opsR_q rfl (q_move) ?_
  simp only [nrm]
  refine opsR_q rfl (q_extract rfl rfl) ?_
  simp only [nrm]
  refine opsR_q rfl (q_extract rfl rfl) ?_
  simp only [nrm]
  refine opsR_q rfl (q_assign) ?_
  simp only [nrm]
  refine opsR_q rfl (q_assign) ?_
  simp only [nrm]
  refine opsR_nil ?_
  refine hk3 _ _ ?_
  clear hk3
  refine run_seq fun _ hk7 => ?_
  refine run_region ?_
  refine opsR_q rfl (q_move) ?_
  simp only [nrm]
  refine opsR_qb rfl (q_move) (fun hc8 => ?_) (fun hc8 => ?_)
  · have ho8 := hc8; try simp only [spl] at hc8
    simp only [nrm, Nat.reduceAdd, Nat.reduceMul, Nat.reduceSub, Int.reduceToNat, Int.reduceAdd]
    refine opsR_q rfl (q_move) ?_
    simp only [nrm]
    refine opsR_q rfl (q_gtr rfl rfl) ?_
    simp only [nrm, Nat.reduceAdd, Nat.reduceMul, Nat.reduceSub, Int.reduceToNat, Int.reduceAdd]
    refine opsR_q rfl (q_pick_t rfl) ?_
    simp only [nrm]
    refine opsR_q rfl (q_assign) ?_
    simp only [nrm]
    refine opsR_nil ?_
    refine hk7 _ _ ?_
    clear hk7
    refine run_ret ?_
    first | exact end_tmp rfl rfl rfl ghA hK | exact end_tmp rfl rfl rfl ghA (eqK hK (congrArg Go.Value.bool (by rw [← cmp_above hP]; simp [*])))
  · have ho8 := hc8; try simp only [spl] at hc8
    simp only [nrm, Nat.reduceAdd, Nat.reduceMul, Nat.reduceSub, Int.reduceToNat, Int.reduceAdd]
    refine opsR_skip rfl ?_
    simp only [nrm, Nat.reduceAdd, Nat.reduceMul, Nat.reduceSub, Int.reduceToNat, Int.reduceAdd]
    refine opsR_skip rfl ?_
    simp only [nrm, Nat.reduceAdd, Nat.reduceMul, Nat.reduceSub, Int.reduceToNat, Int.reduceAdd]
    refine opsR_q rfl (q_pick_f rfl) ?_
    simp only [nrm]
    refine opsR_q rfl (q_assign) ?_
    simp only [nrm]
    refine opsR_nil ?_
    refine hk7 _ _ ?_
    clear hk7
    refine run_ret ?_
    first | exact end_tmp rfl rfl rfl ghA hK | exact end_tmp rfl rfl rfl ghA (eqK hK (congrArg Go.Value.bool (by rw [← cmp_above hP]; simp [*])))
theorem foundBelow_spec {g : Option ByteArray} {ws : List ByteArray} {v : Value} {s : St} (hT : Tabs s.I) (hs : Sl kStr s.I v ws) (hg : (g.getD ⟨#[]⟩).size ≤ 281474976710656) (hw : ∀ w ∈ ws, w.size ≤ 281474976710656) : CallV Tryz.prog 94 #[.agg #[.string (g.getD ⟨#[]⟩), .bool g.isSome, v]] s (.bool (cmpOf g ws (fun n m => decide (n < m)))) := by
  intro K hK
  refine callS_of_run Tryz.func94 rfl ?_; simp only [Tryz.ntmps94, List.size_toArray, List.length_cons, List.length_nil, Nat.reduceAdd, Nat.reduceSub, Array.replicate_succ, Array.replicate_zero, List.push_toArray, List.append_toArray, List.nil_append, List.cons_append]
  refine run_seq fun _ hk1 => ?_
  refine run_region ?_
  refine opsR_o rfl (o_box fun b2 hb2 => ?_)
  simp only [nrm, Nat.reduceAdd, Nat.reduceMul, Nat.reduceSub, Int.reduceToNat, Int.reduceAdd]
  refine opsR_q rfl (q_assign) ?_
  simp only [nrm]
  refine opsR_nil ?_
  refine hk1 _ _ ?_
  clear hk1
  refine run_seq fun _ hk3 => ?_
  refine run_region ?_
  refine opsR_q rfl (by first | exact q_loadBN rfl inferInstance (by rfl) | exact q_loadBW rfl inferInstance (by assumption)) ?_
  simp only [nrm, Nat.reduceAdd, Nat.reduceMul, Nat.reduceSub, Int.reduceToNat, Int.reduceAdd]
  refine opsR_o rfl (o_call rfl (foundBy_spec (g := g) (ws := ws) (by exact hT) (by exact hs) hg hw _ fun vA hvA => ?_))
  simp only [nrm, Nat.reduceAdd, Nat.reduceMul, Nat.reduceSub, Int.reduceToNat, Int.reduceAdd]
  obtain ⟨n, ok, rfl, hP⟩ := hvA
  refine opsR_q rfl (q_move) ?_
  simp only [nrm]
  refine opsR_q rfl (q_extract rfl rfl) ?_
  simp only [nrm]
  refine opsR_q rfl (q_extract rfl rfl) ?_
  simp only [nrm]
  refine opsR_q rfl (q_assign) ?_
  simp only [nrm]
  refine opsR_q rfl (q_assign) ?_
  simp only [nrm]
  refine opsR_nil ?_
  refine hk3 _ _ ?_
  clear hk3
  refine run_seq fun _ hk7 => ?_
  refine run_region ?_
  refine opsR_q rfl (q_move) ?_
  simp only [nrm]
  refine opsR_qb rfl (q_move) (fun hc8 => ?_) (fun hc8 => ?_)
  · have ho8 := hc8; try simp only [spl] at hc8
    simp only [nrm, Nat.reduceAdd, Nat.reduceMul, Nat.reduceSub, Int.reduceToNat, Int.reduceAdd]
    refine opsR_q rfl (q_move) ?_
    simp only [nrm]
    refine opsR_q rfl (q_lss rfl rfl) ?_
    simp only [nrm, Nat.reduceAdd, Nat.reduceMul, Nat.reduceSub, Int.reduceToNat, Int.reduceAdd]
    refine opsR_q rfl (q_pick_t rfl) ?_
    simp only [nrm]
    refine opsR_q rfl (q_assign) ?_
    simp only [nrm]
    refine opsR_nil ?_
    refine hk7 _ _ ?_
    clear hk7
    refine run_ret ?_
    first | exact end_tmp rfl rfl rfl ghA hK | exact end_tmp rfl rfl rfl ghA (eqK hK (congrArg Go.Value.bool (by rw [← cmp_below hP]; simp [*])))
  · have ho8 := hc8; try simp only [spl] at hc8
    simp only [nrm, Nat.reduceAdd, Nat.reduceMul, Nat.reduceSub, Int.reduceToNat, Int.reduceAdd]
    refine opsR_skip rfl ?_
    simp only [nrm, Nat.reduceAdd, Nat.reduceMul, Nat.reduceSub, Int.reduceToNat, Int.reduceAdd]
    refine opsR_skip rfl ?_
    simp only [nrm, Nat.reduceAdd, Nat.reduceMul, Nat.reduceSub, Int.reduceToNat, Int.reduceAdd]
    refine opsR_q rfl (q_pick_f rfl) ?_
    simp only [nrm]
    refine opsR_q rfl (q_assign) ?_
    simp only [nrm]
    refine opsR_nil ?_
    refine hk7 _ _ ?_
    clear hk7
    refine run_ret ?_
    first | exact end_tmp rfl rfl rfl ghA hK | exact end_tmp rfl rfl rfl ghA (eqK hK (congrArg Go.Value.bool (by rw [← cmp_below hP]; simp [*])))
theorem Meets_spec {l : List Label} {r : Req} {v : Value} {rs : List Value} {s : St} (hT : Tabs s.I) (hl : Sl kLabel s.I v l) (hr : kReq.rep s.I r rs)
    (hL : ∀ x, getOf l r.Key = some x → x.size ≤ 281474976710656) (hw : ∀ w ∈ r.Values, w.size ≤ 281474976710656) :
    CallV Tryz.prog 77 #[v, .agg rs.toArray] s (.bool (meetsOf l r)) := by
  intro K hK
  obtain ⟨vv, rfl, hv⟩ := kReq.open hr
  have hg := size_getD hL
  obtain ⟨A, c, rfl, _, _⟩ := hv.shape
  refine callS_of_run Tryz.func77 rfl ?_; simp only [Tryz.ntmps77, List.size_toArray, List.length_cons, List.length_nil, Nat.reduceAdd, Nat.reduceSub, Array.replicate_succ, Array.replicate_zero, List.push_toArray, List.append_toArray, List.nil_append, List.cons_append]
  refine run_seq fun _ hk1 => ?_
  refine run_region ?_
  refine opsR_o rfl (o_box fun b2 hb2 => ?_)
  simp only [nrm, Nat.reduceAdd, Nat.reduceMul, Nat.reduceSub, Int.reduceToNat, Int.reduceAdd]
  refine opsR_q rfl (q_assign) ?_
  simp only [nrm]
  refine opsR_nil ?_
  refine hk1 _ _ ?_
  clear hk1
  refine run_seq fun _ hk3 => ?_
  refine run_region ?_
  refine opsR_q rfl (q_move) ?_
  simp only [nrm]
  refine opsR_q rfl (q_fieldAddr rfl) ?_
  simp only [nrm, Nat.reduceAdd, Nat.reduceMul, Nat.reduceSub, Int.reduceToNat, Int.reduceAdd]
  refine opsR_q rfl (q_loadB1 rfl inferInstance rfl) ?_
  simp only [nrm, Nat.reduceAdd, Nat.reduceMul, Nat.reduceSub, Int.reduceToNat, Int.reduceAdd]
  refine opsR_q rfl (q_call rfl (Get_spec (by first | assumption | (refine Sl.mono ?_ (by assumption); exact leA)))) ?_
  simp only [nrm, Nat.reduceAdd, Nat.reduceMul, Nat.reduceSub, Int.reduceToNat, Int.reduceAdd]
  refine opsR_q rfl (q_move) ?_
  simp only [nrm]
  refine opsR_q rfl (q_extract rfl rfl) ?_
  simp only [nrm]
  refine opsR_q rfl (q_extract rfl rfl) ?_
  simp only [nrm]
  refine opsR_q rfl (q_assign) ?_
  simp only [nrm]
  refine opsR_q rfl (q_assign) ?_
  simp only [nrm]
  refine opsR_nil ?_
  refine hk3 _ _ ?_
  clear hk3
  refine run_seq fun _ hk6 => ?_
  refine run_region ?_
  refine opsR_q rfl (q_move) ?_
  simp only [nrm]
  refine opsR_q rfl (q_move) ?_
  simp only [nrm]
  refine opsR_q rfl (q_fieldAddr rfl) ?_
  simp only [nrm, Nat.reduceAdd, Nat.reduceMul, Nat.reduceSub, Int.reduceToNat, Int.reduceAdd]
  refine opsR_q rfl (q_loadB1 rfl inferInstance rfl) ?_
  simp only [nrm, Nat.reduceAdd, Nat.reduceMul, Nat.reduceSub, Int.reduceToNat, Int.reduceAdd]
  refine opsR_q rfl (q_build rfl) ?_
  simp only [nrm, Nat.reduceAdd, Nat.reduceMul, Nat.reduceSub, Int.reduceToNat, Int.reduceAdd]
  refine opsR_o rfl (o_alloc fun b7 hb7 => ?_)
  simp only [nrm, Nat.reduceAdd, Nat.reduceMul, Nat.reduceSub, Int.reduceToNat, Int.reduceAdd]
  refine opsR_o rfl (o_storeB rfl rfl inferInstance (by first | rfl | assumption) (by first | rfl | exact Kd.one _ (by assumption) | assumption) (by first | rfl | (refine Nat.ble_eq_true_of_le ?_; (try simp only [Int.toNat_natCast]); omega)) ?_)
  simp only [nrm, Nat.reduceAdd, Nat.reduceMul, Nat.reduceSub, Int.reduceToNat, Int.reduceAdd]
  refine opsR_nil ?_
  refine hk6 _ _ ?_
  clear hk6
  refine run_seq fun _ hk8 => ?_
  refine run_region ?_
  refine opsR_q rfl (q_assign) ?_
  simp only [nrm]
  refine opsR_nil ?_
  refine hk8 _ _ ?_
  clear hk8
  refine run_seq fun _ hk9 => ?_
  refine run_seq fun _ hk10 => ?_
  refine run_region ?_
  refine opsR_q rfl (q_fieldAddr rfl) ?_
  simp only [nrm, Nat.reduceAdd, Nat.reduceMul, Nat.reduceSub, Int.reduceToNat, Int.reduceAdd]
  refine opsR_q rfl (q_loadB1 rfl inferInstance rfl) ?_
  simp only [nrm, Nat.reduceAdd, Nat.reduceMul, Nat.reduceSub, Int.reduceToNat, Int.reduceAdd]
  refine opsR_nil ?_
  refine hk10 _ _ ?_
  clear hk10
  refine run_block ?_
  refine run_seq fun _ hk11 => ?_
  refine run_seq fun _ hk12 => ?_
  refine run_region ?_
  refine opsR_q rfl (q_eql rfl rfl) ?_
  simp only [nrm, Nat.reduceAdd, Nat.reduceMul, Nat.reduceSub, Int.reduceToNat, Int.reduceAdd]
  refine opsR_q rfl (q_assign) ?_
  simp only [nrm]
  refine opsR_nil ?_
  refine hk12 _ _ ?_
  clear hk12
  refine run_cond rfl (fun ho13 => ?_) (fun ho13 => ?_)
  · have hc13 := ho13; try simp only [spl] at hc13
    refine run_skip ?_
    refine hk11 _ _ ?_
    clear hk11
    refine run_cond rfl (fun _ => ?_) (fun h => by first | exact absurd h (by rw [ho13]; decide) | exact absurd ho13 (by rw [h]; decide))
    refine run_region ?_
    refine opsR_q rfl (by first | exact q_loadBN rfl inferInstance (by rfl) | exact q_loadBW rfl inferInstance (by assumption)) ?_
    simp only [nrm, Nat.reduceAdd, Nat.reduceMul, Nat.reduceSub, Int.reduceToNat, Int.reduceAdd]
    refine opsR_q rfl (q_makeFunc) ?_
    simp only [nrm]
    refine opsR_q rfl (q_assign) ?_
    simp only [nrm]
    refine opsR_nil ?_
    refine hk9 _ _ ?_
    clear hk9
    refine run_seq fun _ hk16 => ?_
    refine run_drawE mixed 12 (by kernel_rfl) rfl ?_
    simp only [List.take_succ_cons, List.take_zero, List.drop_succ_cons, List.drop_zero, List.drop_nil, List.take_nil]
    refine oblE_q rfl (fun I hI => (q_move)) ?_
    simp only [nrm]
    refine oblE_q rfl (fun I hI => (by exact q_call rfl ((by first | exact foundIs_spec | exact foundIn_spec (ws := r.Values) (by first | assumption | (refine Sl.mono ?_ (by assumption); exact leA)) | exact foundAbove_spec (ws := r.Values) (by first | exact hT | exact hT.mono (by assumption)) (by first | assumption | (refine Sl.mono ?_ (by assumption); exact leA)) hg hw | exact foundBelow_spec (ws := r.Values) (by first | exact hT | exact hT.mono (by assumption)) (by first | assumption | (refine Sl.mono ?_ (by assumption); exact leA)) hg hw)))) ?_
    simp only [nrm, Nat.reduceAdd, Nat.reduceMul, Nat.reduceSub, Int.reduceToNat, Int.reduceAdd]
    refine oblE_q rfl (fun I hI => (q_fieldAddr rfl)) ?_
    simp only [nrm, Nat.reduceAdd, Nat.reduceMul, Nat.reduceSub, Int.reduceToNat, Int.reduceAdd]
    refine oblE_q rfl (fun I hI => (q_loadB1 rfl inferInstance rfl)) ?_
    simp only [nrm, Nat.reduceAdd, Nat.reduceMul, Nat.reduceSub, Int.reduceToNat, Int.reduceAdd]
    refine oblE_q rfl (fun I hI => (q_eql rfl rfl)) ?_
    simp only [nrm, Nat.reduceAdd, Nat.reduceMul, Nat.reduceSub, Int.reduceToNat, Int.reduceAdd]
    refine oblE_qb rfl (fun I hI => (q_move)) (fun hc17 => ?_) (fun hc17 => ?_)
    · have ho17 := hc17; try simp only [spl] at hc17
      simp only [nrm, Nat.reduceAdd, Nat.reduceMul, Nat.reduceSub, Int.reduceToNat, Int.reduceAdd]
      refine oblE_skip rfl ?_
      simp only [nrm, Nat.reduceAdd, Nat.reduceMul, Nat.reduceSub, Int.reduceToNat, Int.reduceAdd]
      refine oblE_skip rfl ?_
      simp only [nrm, Nat.reduceAdd, Nat.reduceMul, Nat.reduceSub, Int.reduceToNat, Int.reduceAdd]
      refine oblE_skip rfl ?_
      simp only [nrm, Nat.reduceAdd, Nat.reduceMul, Nat.reduceSub, Int.reduceToNat, Int.reduceAdd]
      refine oblE_q rfl (fun I hI => (q_pick_t rfl)) ?_
      simp only [nrm]
      refine oblE_q rfl (fun I hI => (q_neq_bool rfl rfl)) ?_
      simp only [nrm, Nat.reduceAdd, Nat.reduceMul, Nat.reduceSub, Int.reduceToNat, Int.reduceAdd]
      refine oblE_q rfl (fun I hI => (q_assign)) ?_
      simp only [nrm]
      refine oblE_nil (show OpsR _ _ _ _ _ _ from ?_)
      try simp only [nrm, Nat.reduceAdd, Nat.reduceMul, Nat.reduceSub, Int.reduceToNat, Int.reduceAdd]
      refine opsR_nil ?_
      refine hk16 _ _ ?_
      clear hk16
      refine run_ret ?_
      first | exact end_tmp rfl rfl rfl ghA hK | exact end_tmp rfl rfl rfl ghA (eqK hK (congrArg Go.Value.bool (by first | (simp [meetsOf, *]; done) | (exfalso; omega))))
    · have ho17 := hc17; try simp only [spl] at hc17
      simp only [nrm, Nat.reduceAdd, Nat.reduceMul, Nat.reduceSub, Int.reduceToNat, Int.reduceAdd]
      refine oblE_q rfl (fun I hI => (q_fieldAddr rfl)) ?_
      simp only [nrm, Nat.reduceAdd, Nat.reduceMul, Nat.reduceSub, Int.reduceToNat, Int.reduceAdd]
      refine oblE_q rfl (fun I hI => (q_loadB1 rfl inferInstance rfl)) ?_
      simp only [nrm, Nat.reduceAdd, Nat.reduceMul, Nat.reduceSub, Int.reduceToNat, Int.reduceAdd]
      refine oblE_q rfl (fun I hI => (q_eql rfl rfl)) ?_
      simp only [nrm, Nat.reduceAdd, Nat.reduceMul, Nat.reduceSub, Int.reduceToNat, Int.reduceAdd]
      refine oblE_q rfl (fun I hI => (q_pick_f rfl)) ?_
      simp only [nrm]
      refine oblE_q rfl (fun I hI => (q_neq_bool rfl rfl)) ?_
      simp only [nrm, Nat.reduceAdd, Nat.reduceMul, Nat.reduceSub, Int.reduceToNat, Int.reduceAdd]
      refine oblE_q rfl (fun I hI => (q_assign)) ?_
      simp only [nrm]
      refine oblE_nil (show OpsR _ _ _ _ _ _ from ?_)
      try simp only [nrm, Nat.reduceAdd, Nat.reduceMul, Nat.reduceSub, Int.reduceToNat, Int.reduceAdd]
      refine opsR_nil ?_
      refine hk16 _ _ ?_
      clear hk16
      refine run_ret ?_
      first | exact end_tmp rfl rfl rfl ghA hK | exact end_tmp rfl rfl rfl ghA (eqK hK (congrArg Go.Value.bool (by first | (simp [meetsOf, *]; done) | (exfalso; omega))))
  · have hc13 := ho13; try simp only [spl] at hc13
    refine run_region ?_
    refine opsR_q rfl (q_eql rfl rfl) ?_
    simp only [nrm, Nat.reduceAdd, Nat.reduceMul, Nat.reduceSub, Int.reduceToNat, Int.reduceAdd]
    refine opsR_q rfl (q_assign) ?_
    simp only [nrm]
    refine opsR_nil ?_
    refine hk11 _ _ ?_
    clear hk11
    refine run_cond rfl (fun ho20 => ?_) (fun ho20 => ?_)
    · have hc20 := ho20; try simp only [spl] at hc20
      refine run_region ?_
      refine opsR_q rfl (by first | exact q_loadBN rfl inferInstance (by rfl) | exact q_loadBW rfl inferInstance (by assumption)) ?_
      simp only [nrm, Nat.reduceAdd, Nat.reduceMul, Nat.reduceSub, Int.reduceToNat, Int.reduceAdd]
      refine opsR_q rfl (q_makeFunc) ?_
      simp only [nrm]
      refine opsR_q rfl (q_assign) ?_
      simp only [nrm]
      refine opsR_nil ?_
      refine hk9 _ _ ?_
      clear hk9
      refine run_seq fun _ hk23 => ?_
      refine run_drawE mixed 12 (by kernel_rfl) rfl ?_
      simp only [List.take_succ_cons, List.take_zero, List.drop_succ_cons, List.drop_zero, List.drop_nil, List.take_nil]
      refine oblE_q rfl (fun I hI => (q_move)) ?_
      simp only [nrm]
      refine oblE_q rfl (fun I hI => (by exact q_call rfl ((by first | exact foundIs_spec | exact foundIn_spec (ws := r.Values) (by first | assumption | (refine Sl.mono ?_ (by assumption); exact leA)) | exact foundAbove_spec (ws := r.Values) (by first | exact hT | exact hT.mono (by assumption)) (by first | assumption | (refine Sl.mono ?_ (by assumption); exact leA)) hg hw | exact foundBelow_spec (ws := r.Values) (by first | exact hT | exact hT.mono (by assumption)) (by first | assumption | (refine Sl.mono ?_ (by assumption); exact leA)) hg hw)))) ?_
      simp only [nrm, Nat.reduceAdd, Nat.reduceMul, Nat.reduceSub, Int.reduceToNat, Int.reduceAdd]
      refine oblE_q rfl (fun I hI => (q_fieldAddr rfl)) ?_
      simp only [nrm, Nat.reduceAdd, Nat.reduceMul, Nat.reduceSub, Int.reduceToNat, Int.reduceAdd]
      refine oblE_q rfl (fun I hI => (q_loadB1 rfl inferInstance rfl)) ?_
      simp only [nrm, Nat.reduceAdd, Nat.reduceMul, Nat.reduceSub, Int.reduceToNat, Int.reduceAdd]
      refine oblE_q rfl (fun I hI => (q_eql rfl rfl)) ?_
      simp only [nrm, Nat.reduceAdd, Nat.reduceMul, Nat.reduceSub, Int.reduceToNat, Int.reduceAdd]
      refine oblE_qb rfl (fun I hI => (q_move)) (fun _ => ?_) (fun h => by first | exact absurd h (by rw [ho20]; decide) | exact absurd ho20 (by rw [h]; decide))
      simp only [nrm, Nat.reduceAdd, Nat.reduceMul, Nat.reduceSub, Int.reduceToNat, Int.reduceAdd]
      refine oblE_skip rfl ?_
      simp only [nrm, Nat.reduceAdd, Nat.reduceMul, Nat.reduceSub, Int.reduceToNat, Int.reduceAdd]
      refine oblE_skip rfl ?_
      simp only [nrm, Nat.reduceAdd, Nat.reduceMul, Nat.reduceSub, Int.reduceToNat, Int.reduceAdd]
      refine oblE_skip rfl ?_
      simp only [nrm, Nat.reduceAdd, Nat.reduceMul, Nat.reduceSub, Int.reduceToNat, Int.reduceAdd]
      refine oblE_q rfl (fun I hI => (q_pick_t rfl)) ?_
      simp only [nrm]
      refine oblE_q rfl (fun I hI => (q_neq_bool rfl rfl)) ?_
      simp only [nrm, Nat.reduceAdd, Nat.reduceMul, Nat.reduceSub, Int.reduceToNat, Int.reduceAdd]
      refine oblE_q rfl (fun I hI => (q_assign)) ?_
      simp only [nrm]
      refine oblE_nil (show OpsR _ _ _ _ _ _ from ?_)
      try simp only [nrm, Nat.reduceAdd, Nat.reduceMul, Nat.reduceSub, Int.reduceToNat, Int.reduceAdd]
      refine opsR_nil ?_
      refine hk23 _ _ ?_
      clear hk23
      refine run_ret ?_
      first | exact end_tmp rfl rfl rfl ghA hK | exact end_tmp rfl rfl rfl ghA (eqK hK (congrArg Go.Value.bool (by first | (simp [meetsOf, *]; done) | (exfalso; omega))))
    · have hc20 := ho20; try simp only [spl] at hc20
      refine run_seq fun _ hk25 => ?_
      refine run_seq fun _ hk26 => ?_
      refine run_region ?_
      refine opsR_q rfl (q_eql rfl rfl) ?_
      simp only [nrm, Nat.reduceAdd, Nat.reduceMul, Nat.reduceSub, Int.reduceToNat, Int.reduceAdd]
      refine opsR_q rfl (q_assign) ?_
      simp only [nrm]
      refine opsR_nil ?_
      refine hk26 _ _ ?_
      clear hk26
      refine run_cond rfl (fun ho27 => ?_) (fun ho27 => ?_)
      · have hc27 := ho27; try simp only [spl] at hc27
        refine run_skip ?_
        refine hk25 _ _ ?_
        clear hk25
        refine run_cond rfl (fun _ => ?_) (fun h => by first | exact absurd h (by rw [ho27]; decide) | exact absurd ho27 (by rw [h]; decide))
        refine run_region ?_
        refine opsR_q rfl (by first | exact q_loadBN rfl inferInstance (by rfl) | exact q_loadBW rfl inferInstance (by assumption)) ?_
        simp only [nrm, Nat.reduceAdd, Nat.reduceMul, Nat.reduceSub, Int.reduceToNat, Int.reduceAdd]
        refine opsR_q rfl (q_makeFunc) ?_
        simp only [nrm]
        refine opsR_q rfl (q_assign) ?_
        simp only [nrm]
        refine opsR_nil ?_
        refine hk9 _ _ ?_
        clear hk9
        refine run_seq fun _ hk30 => ?_
        refine run_drawE mixed 12 (by kernel_rfl) rfl ?_
        simp only [List.take_succ_cons, List.take_zero, List.drop_succ_cons, List.drop_zero, List.drop_nil, List.take_nil]
        refine oblE_q rfl (fun I hI => (q_move)) ?_
        simp only [nrm]
        refine oblE_q rfl (fun I hI => (by exact q_call rfl ((by first | exact foundIs_spec | exact foundIn_spec (ws := r.Values) (by first | assumption | (refine Sl.mono ?_ (by assumption); exact leA)) | exact foundAbove_spec (ws := r.Values) (by first | exact hT | exact hT.mono (by assumption)) (by first | assumption | (refine Sl.mono ?_ (by assumption); exact leA)) hg hw | exact foundBelow_spec (ws := r.Values) (by first | exact hT | exact hT.mono (by assumption)) (by first | assumption | (refine Sl.mono ?_ (by assumption); exact leA)) hg hw)))) ?_
        simp only [nrm, Nat.reduceAdd, Nat.reduceMul, Nat.reduceSub, Int.reduceToNat, Int.reduceAdd]
        refine oblE_q rfl (fun I hI => (q_fieldAddr rfl)) ?_
        simp only [nrm, Nat.reduceAdd, Nat.reduceMul, Nat.reduceSub, Int.reduceToNat, Int.reduceAdd]
        refine oblE_q rfl (fun I hI => (q_loadB1 rfl inferInstance rfl)) ?_
        simp only [nrm, Nat.reduceAdd, Nat.reduceMul, Nat.reduceSub, Int.reduceToNat, Int.reduceAdd]
        refine oblE_q rfl (fun I hI => (q_eql rfl rfl)) ?_
        simp only [nrm, Nat.reduceAdd, Nat.reduceMul, Nat.reduceSub, Int.reduceToNat, Int.reduceAdd]
        refine oblE_qb rfl (fun I hI => (q_move)) (fun h => by first | exact absurd h (by rw [ho20]; decide) | exact absurd ho20 (by rw [h]; decide)) (fun _ => ?_)
        simp only [nrm, Nat.reduceAdd, Nat.reduceMul, Nat.reduceSub, Int.reduceToNat, Int.reduceAdd]
        refine oblE_q rfl (fun I hI => (q_fieldAddr rfl)) ?_
        simp only [nrm, Nat.reduceAdd, Nat.reduceMul, Nat.reduceSub, Int.reduceToNat, Int.reduceAdd]
        refine oblE_q rfl (fun I hI => (q_loadB1 rfl inferInstance rfl)) ?_
        simp only [nrm, Nat.reduceAdd, Nat.reduceMul, Nat.reduceSub, Int.reduceToNat, Int.reduceAdd]
        refine oblE_q rfl (fun I hI => (q_eql rfl rfl)) ?_
        simp only [nrm, Nat.reduceAdd, Nat.reduceMul, Nat.reduceSub, Int.reduceToNat, Int.reduceAdd]
        refine oblE_q rfl (fun I hI => (q_pick_f rfl)) ?_
        simp only [nrm]
        refine oblE_q rfl (fun I hI => (q_neq_bool rfl rfl)) ?_
        simp only [nrm, Nat.reduceAdd, Nat.reduceMul, Nat.reduceSub, Int.reduceToNat, Int.reduceAdd]
        refine oblE_q rfl (fun I hI => (q_assign)) ?_
        simp only [nrm]
        refine oblE_nil (show OpsR _ _ _ _ _ _ from ?_)
        try simp only [nrm, Nat.reduceAdd, Nat.reduceMul, Nat.reduceSub, Int.reduceToNat, Int.reduceAdd]
        refine opsR_nil ?_
        refine hk30 _ _ ?_
        clear hk30
        refine run_ret ?_
        first | exact end_tmp rfl rfl rfl ghA hK | exact end_tmp rfl rfl rfl ghA (eqK hK (congrArg Go.Value.bool (by first | (simp [meetsOf, *]; done) | (exfalso; omega))))
      · have hc27 := ho27; try simp only [spl] at hc27
        refine run_region ?_
        refine opsR_q rfl (q_eql rfl rfl) ?_
        simp only [nrm, Nat.reduceAdd, Nat.reduceMul, Nat.reduceSub, Int.reduceToNat, Int.reduceAdd]
        refine opsR_q rfl (q_assign) ?_
        simp only [nrm]
        refine opsR_nil ?_
        refine hk25 _ _ ?_
        clear hk25
        refine run_cond rfl (fun ho32 => ?_) (fun ho32 => ?_)
        · have hc32 := ho32; try simp only [spl] at hc32
          refine run_region ?_
          refine opsR_q rfl (by first | exact q_loadBN rfl inferInstance (by rfl) | exact q_loadBW rfl inferInstance (by assumption)) ?_
          simp only [nrm, Nat.reduceAdd, Nat.reduceMul, Nat.reduceSub, Int.reduceToNat, Int.reduceAdd]
          refine opsR_q rfl (q_makeFunc) ?_
          simp only [nrm]
          refine opsR_q rfl (q_assign) ?_
          simp only [nrm]
          refine opsR_nil ?_
          refine hk9 _ _ ?_
          clear hk9
          refine run_seq fun _ hk35 => ?_
          refine run_drawE mixed 12 (by kernel_rfl) rfl ?_
          simp only [List.take_succ_cons, List.take_zero, List.drop_succ_cons, List.drop_zero, List.drop_nil, List.take_nil]
          refine oblE_q rfl (fun I hI => (q_move)) ?_
          simp only [nrm]
          refine oblE_q rfl (fun I hI => (by exact q_call rfl ((by first | exact foundIs_spec | exact foundIn_spec (ws := r.Values) (by first | assumption | (refine Sl.mono ?_ (by assumption); exact leA)) | exact foundAbove_spec (ws := r.Values) (by first | exact hT | exact hT.mono (by assumption)) (by first | assumption | (refine Sl.mono ?_ (by assumption); exact leA)) hg hw | exact foundBelow_spec (ws := r.Values) (by first | exact hT | exact hT.mono (by assumption)) (by first | assumption | (refine Sl.mono ?_ (by assumption); exact leA)) hg hw)))) ?_
          simp only [nrm, Nat.reduceAdd, Nat.reduceMul, Nat.reduceSub, Int.reduceToNat, Int.reduceAdd]
          refine oblE_q rfl (fun I hI => (q_fieldAddr rfl)) ?_
          simp only [nrm, Nat.reduceAdd, Nat.reduceMul, Nat.reduceSub, Int.reduceToNat, Int.reduceAdd]
          refine oblE_q rfl (fun I hI => (q_loadB1 rfl inferInstance rfl)) ?_
          simp only [nrm, Nat.reduceAdd, Nat.reduceMul, Nat.reduceSub, Int.reduceToNat, Int.reduceAdd]
          refine oblE_q rfl (fun I hI => (q_eql rfl rfl)) ?_
          simp only [nrm, Nat.reduceAdd, Nat.reduceMul, Nat.reduceSub, Int.reduceToNat, Int.reduceAdd]
          refine oblE_qb rfl (fun I hI => (q_move)) (fun h => by first | exact absurd h (by rw [ho20]; decide) | exact absurd ho20 (by rw [h]; decide)) (fun _ => ?_)
          simp only [nrm, Nat.reduceAdd, Nat.reduceMul, Nat.reduceSub, Int.reduceToNat, Int.reduceAdd]
          refine oblE_q rfl (fun I hI => (q_fieldAddr rfl)) ?_
          simp only [nrm, Nat.reduceAdd, Nat.reduceMul, Nat.reduceSub, Int.reduceToNat, Int.reduceAdd]
          refine oblE_q rfl (fun I hI => (q_loadB1 rfl inferInstance rfl)) ?_
          simp only [nrm, Nat.reduceAdd, Nat.reduceMul, Nat.reduceSub, Int.reduceToNat, Int.reduceAdd]
          refine oblE_q rfl (fun I hI => (q_eql rfl rfl)) ?_
          simp only [nrm, Nat.reduceAdd, Nat.reduceMul, Nat.reduceSub, Int.reduceToNat, Int.reduceAdd]
          refine oblE_q rfl (fun I hI => (q_pick_f rfl)) ?_
          simp only [nrm]
          refine oblE_q rfl (fun I hI => (q_neq_bool rfl rfl)) ?_
          simp only [nrm, Nat.reduceAdd, Nat.reduceMul, Nat.reduceSub, Int.reduceToNat, Int.reduceAdd]
          refine oblE_q rfl (fun I hI => (q_assign)) ?_
          simp only [nrm]
          refine oblE_nil (show OpsR _ _ _ _ _ _ from ?_)
          try simp only [nrm, Nat.reduceAdd, Nat.reduceMul, Nat.reduceSub, Int.reduceToNat, Int.reduceAdd]
          refine opsR_nil ?_
          refine hk35 _ _ ?_
          clear hk35
          refine run_ret ?_
          first | exact end_tmp rfl rfl rfl ghA hK | exact end_tmp rfl rfl rfl ghA (eqK hK (congrArg Go.Value.bool (by first | (simp [meetsOf, *]; done) | (exfalso; omega))))
        · have hc32 := ho32; try simp only [spl] at hc32
          refine run_seq fun _ hk37 => ?_
          refine run_region ?_
          refine opsR_q rfl (q_eql rfl rfl) ?_
          simp only [nrm, Nat.reduceAdd, Nat.reduceMul, Nat.reduceSub, Int.reduceToNat, Int.reduceAdd]
          refine opsR_q rfl (q_assign) ?_
          simp only [nrm]
          refine opsR_nil ?_
          refine hk37 _ _ ?_
          clear hk37
          refine run_cond rfl (fun ho38 => ?_) (fun ho38 => ?_)
          · have hc38 := ho38; try simp only [spl] at hc38
            refine run_region ?_
            refine opsR_q rfl (by first | exact q_loadBN rfl inferInstance (by rfl) | exact q_loadBW rfl inferInstance (by assumption)) ?_
            simp only [nrm, Nat.reduceAdd, Nat.reduceMul, Nat.reduceSub, Int.reduceToNat, Int.reduceAdd]
            refine opsR_q rfl (q_makeFunc) ?_
            simp only [nrm]
            refine opsR_q rfl (q_assign) ?_
            simp only [nrm]
            refine opsR_nil ?_
            refine hk9 _ _ ?_
            clear hk9
            refine run_seq fun _ hk41 => ?_
            refine run_drawE mixed 12 (by kernel_rfl) rfl ?_
            simp only [List.take_succ_cons, List.take_zero, List.drop_succ_cons, List.drop_zero, List.drop_nil, List.take_nil]
            refine oblE_q rfl (fun I hI => (q_move)) ?_
            simp only [nrm]
            refine oblE_q rfl (fun I hI => (by exact q_call rfl ((by first | exact foundIs_spec | exact foundIn_spec (ws := r.Values) (by first | assumption | (refine Sl.mono ?_ (by assumption); exact leA)) | exact foundAbove_spec (ws := r.Values) (by first | exact hT | exact hT.mono (by assumption)) (by first | assumption | (refine Sl.mono ?_ (by assumption); exact leA)) hg hw | exact foundBelow_spec (ws := r.Values) (by first | exact hT | exact hT.mono (by assumption)) (by first | assumption | (refine Sl.mono ?_ (by assumption); exact leA)) hg hw)))) ?_
            simp only [nrm, Nat.reduceAdd, Nat.reduceMul, Nat.reduceSub, Int.reduceToNat, Int.reduceAdd]
            refine oblE_q rfl (fun I hI => (q_fieldAddr rfl)) ?_
            simp only [nrm, Nat.reduceAdd, Nat.reduceMul, Nat.reduceSub, Int.reduceToNat, Int.reduceAdd]
            refine oblE_q rfl (fun I hI => (q_loadB1 rfl inferInstance rfl)) ?_
            simp only [nrm, Nat.reduceAdd, Nat.reduceMul, Nat.reduceSub, Int.reduceToNat, Int.reduceAdd]
            refine oblE_q rfl (fun I hI => (q_eql rfl rfl)) ?_
            simp only [nrm, Nat.reduceAdd, Nat.reduceMul, Nat.reduceSub, Int.reduceToNat, Int.reduceAdd]
            refine oblE_qb rfl (fun I hI => (q_move)) (fun h => by first | exact absurd h (by rw [ho20]; decide) | exact absurd ho20 (by rw [h]; decide)) (fun _ => ?_)
            simp only [nrm, Nat.reduceAdd, Nat.reduceMul, Nat.reduceSub, Int.reduceToNat, Int.reduceAdd]
            refine oblE_q rfl (fun I hI => (q_fieldAddr rfl)) ?_
            simp only [nrm, Nat.reduceAdd, Nat.reduceMul, Nat.reduceSub, Int.reduceToNat, Int.reduceAdd]
            refine oblE_q rfl (fun I hI => (q_loadB1 rfl inferInstance rfl)) ?_
            simp only [nrm, Nat.reduceAdd, Nat.reduceMul, Nat.reduceSub, Int.reduceToNat, Int.reduceAdd]
            refine oblE_q rfl (fun I hI => (q_eql rfl rfl)) ?_
            simp only [nrm, Nat.reduceAdd, Nat.reduceMul, Nat.reduceSub, Int.reduceToNat, Int.reduceAdd]
            refine oblE_q rfl (fun I hI => (q_pick_f rfl)) ?_
            simp only [nrm]
            refine oblE_q rfl (fun I hI => (q_neq_bool rfl rfl)) ?_
            simp only [nrm, Nat.reduceAdd, Nat.reduceMul, Nat.reduceSub, Int.reduceToNat, Int.reduceAdd]
            refine oblE_q rfl (fun I hI => (q_assign)) ?_
            simp only [nrm]
            refine oblE_nil (show OpsR _ _ _ _ _ _ from ?_)
            try simp only [nrm, Nat.reduceAdd, Nat.reduceMul, Nat.reduceSub, Int.reduceToNat, Int.reduceAdd]
            refine opsR_nil ?_
            refine hk41 _ _ ?_
            clear hk41
            refine run_ret ?_
            first | exact end_tmp rfl rfl rfl ghA hK | exact end_tmp rfl rfl rfl ghA (eqK hK (congrArg Go.Value.bool (by first | (simp [meetsOf, *]; done) | (exfalso; omega))))
          · have hc38 := ho38; try simp only [spl] at hc38
            refine run_seq fun _ hk43 => ?_
            refine run_region ?_
            refine opsR_q rfl (q_eql rfl rfl) ?_
            simp only [nrm, Nat.reduceAdd, Nat.reduceMul, Nat.reduceSub, Int.reduceToNat, Int.reduceAdd]
            refine opsR_q rfl (q_assign) ?_
            simp only [nrm]
            refine opsR_nil ?_
            refine hk43 _ _ ?_
            clear hk43
            refine run_cond rfl (fun ho44 => ?_) (fun ho44 => ?_)
            · have hc44 := ho44; try simp only [spl] at hc44
              refine run_region ?_
              refine opsR_q rfl (by first | exact q_loadBN rfl inferInstance (by rfl) | exact q_loadBW rfl inferInstance (by assumption)) ?_
              simp only [nrm, Nat.reduceAdd, Nat.reduceMul, Nat.reduceSub, Int.reduceToNat, Int.reduceAdd]
              refine opsR_q rfl (q_makeFunc) ?_
              simp only [nrm]
              refine opsR_q rfl (q_assign) ?_
              simp only [nrm]
              refine opsR_nil ?_
              refine hk9 _ _ ?_
              clear hk9
              refine run_seq fun _ hk47 => ?_
              refine run_drawE mixed 12 (by kernel_rfl) rfl ?_
              simp only [List.take_succ_cons, List.take_zero, List.drop_succ_cons, List.drop_zero, List.drop_nil, List.take_nil]
              refine oblE_q rfl (fun I hI => (q_move)) ?_
              simp only [nrm]
              refine oblE_q rfl (fun I hI => (by exact q_call rfl ((by first | exact foundIs_spec | exact foundIn_spec (ws := r.Values) (by first | assumption | (refine Sl.mono ?_ (by assumption); exact leA)) | exact foundAbove_spec (ws := r.Values) (by first | exact hT | exact hT.mono (by assumption)) (by first | assumption | (refine Sl.mono ?_ (by assumption); exact leA)) hg hw | exact foundBelow_spec (ws := r.Values) (by first | exact hT | exact hT.mono (by assumption)) (by first | assumption | (refine Sl.mono ?_ (by assumption); exact leA)) hg hw)))) ?_
              simp only [nrm, Nat.reduceAdd, Nat.reduceMul, Nat.reduceSub, Int.reduceToNat, Int.reduceAdd]
              refine oblE_q rfl (fun I hI => (q_fieldAddr rfl)) ?_
              simp only [nrm, Nat.reduceAdd, Nat.reduceMul, Nat.reduceSub, Int.reduceToNat, Int.reduceAdd]
              refine oblE_q rfl (fun I hI => (q_loadB1 rfl inferInstance rfl)) ?_
              simp only [nrm, Nat.reduceAdd, Nat.reduceMul, Nat.reduceSub, Int.reduceToNat, Int.reduceAdd]
              refine oblE_q rfl (fun I hI => (q_eql rfl rfl)) ?_
              simp only [nrm, Nat.reduceAdd, Nat.reduceMul, Nat.reduceSub, Int.reduceToNat, Int.reduceAdd]
              refine oblE_qb rfl (fun I hI => (q_move)) (fun h => by first | exact absurd h (by rw [ho20]; decide) | exact absurd ho20 (by rw [h]; decide)) (fun _ => ?_)
              simp only [nrm, Nat.reduceAdd, Nat.reduceMul, Nat.reduceSub, Int.reduceToNat, Int.reduceAdd]
              refine oblE_q rfl (fun I hI => (q_fieldAddr rfl)) ?_
              simp only [nrm, Nat.reduceAdd, Nat.reduceMul, Nat.reduceSub, Int.reduceToNat, Int.reduceAdd]
              refine oblE_q rfl (fun I hI => (q_loadB1 rfl inferInstance rfl)) ?_
              simp only [nrm, Nat.reduceAdd, Nat.reduceMul, Nat.reduceSub, Int.reduceToNat, Int.reduceAdd]
              refine oblE_q rfl (fun I hI => (q_eql rfl rfl)) ?_
              simp only [nrm, Nat.reduceAdd, Nat.reduceMul, Nat.reduceSub, Int.reduceToNat, Int.reduceAdd]
              refine oblE_q rfl (fun I hI => (q_pick_f rfl)) ?_
              simp only [nrm]
              refine oblE_q rfl (fun I hI => (q_neq_bool rfl rfl)) ?_
              simp only [nrm, Nat.reduceAdd, Nat.reduceMul, Nat.reduceSub, Int.reduceToNat, Int.reduceAdd]
              refine oblE_q rfl (fun I hI => (q_assign)) ?_
              simp only [nrm]
              refine oblE_nil (show OpsR _ _ _ _ _ _ from ?_)
              try simp only [nrm, Nat.reduceAdd, Nat.reduceMul, Nat.reduceSub, Int.reduceToNat, Int.reduceAdd]
              refine opsR_nil ?_
              refine hk47 _ _ ?_
              clear hk47
              refine run_ret ?_
              first | exact end_tmp rfl rfl rfl ghA hK | exact end_tmp rfl rfl rfl ghA (eqK hK (congrArg Go.Value.bool (by first | (simp [meetsOf, *]; done) | (exfalso; omega))))
            · have hc44 := ho44; try simp only [spl] at hc44
              refine run_seq fun _ hk49 => ?_
              refine run_region ?_
              refine opsR_q rfl (q_assign) ?_
              simp only [nrm]
              refine opsR_nil ?_
              refine hk49 _ _ ?_
              clear hk49
              refine run_ret ?_
              first | exact end_tmp rfl rfl rfl ghA hK | exact end_tmp rfl rfl rfl ghA (eqK hK (congrArg Go.Value.bool (by first | (simp [meetsOf, *]; done) | (exfalso; omega))))
end
end Go.Proofs.YtcnbcblihepbmaaGreatDoor
