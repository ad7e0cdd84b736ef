/- Package label and its reference: what labels meet. -/
import Derived.Test.YtcnbcblihepbmaaGreatDoorG2
import Derived.Test.YtcnbcblihepbmaaGreatDoorSH
set_option autoImplicit false
set_option linter.unusedVariables false
set_option linter.unusedSimpArgs false
namespace Go.Proofs.YtcnbcblihepbmaaGreatDoor
open Go Go.RowKit
/-- A key's value. -/
def getOf (l : List Label) (k : ByteArray) : Option ByteArray := (l.find? fun x => decide (x.Key = k)).map (·.Value)
def numOf (b : ByteArray) : Option Nat := whole 15 b.data.toList
def cmpOf (g : Option ByteArray) (ws : List ByteArray) (f : Nat → Nat → Bool) : Bool := match g, ws with
  | some v, [w] => (match numOf v, numOf w with | some n, some m => f n m | _, _ => false)
  | _, _ => false
def inOf (g : Option ByteArray) (ws : List ByteArray) : Bool := match g with | some v => ws.any fun y => decide (v = y) | none => false
def meetsOf (l : List Label) (r : Req) : Bool :=
  if r.Op = 1 then inOf (getOf l r.Key) r.Values
  else if r.Op = 2 then !inOf (getOf l r.Key) r.Values
  else if r.Op = 3 then (getOf l r.Key).isSome
  else if r.Op = 4 then !(getOf l r.Key).isSome
  else if r.Op = 5 then cmpOf (getOf l r.Key) r.Values (fun n m => decide (m < n))
  else if r.Op = 6 then cmpOf (getOf l r.Key) r.Values (fun n m => decide (n < m))
  else false
def matchOf (l : List Label) (rs : List Req) : Bool := rs.all (meetsOf l)
theorem get_none {l : List Label} {k : ByteArray} (h : ∀ j, j < l.length → decide (l[j]!.Key = k) = false) : getOf l k = none := by
  have : l.find? (fun x => decide (x.Key = k)) = none := by
    rw [List.find?_eq_none]
    intro x hx
    obtain ⟨j, hj, rfl⟩ := List.mem_iff_getElem.1 hx
    have := h j hj
    rw [getElem!_pos l j hj] at this
    rw [this]; decide
  rw [getOf, this]; rfl
theorem get_some {l : List Label} {k : ByteArray} {i : Nat} (hi : i < l.length) (h : ∀ j, j < i → decide (l[j]!.Key = k) = false) (hp : decide (l[i]!.Key = k) = true) : getOf l k = some l[i]!.Value := by
  have : l.find? (fun x => decide (x.Key = k)) = some l[i]! := by
    rw [List.find?_eq_some_iff_getElem]
    refine ⟨hp, i, hi, (getElem!_pos l i hi).symm, fun j hj => ?_⟩
    have := h j hj
    rw [getElem!_pos l j (by omega)] at this
    rw [this]; rfl
  rw [getOf, this]; rfl
theorem get_ok {l : List Label} {k v : ByteArray} (ok : ∀ x ∈ l, kLabel.ok x) (h : getOf l k = some v) : v.size ≤ 9223372036854775807 := by
  unfold getOf at h
  obtain ⟨x, hx, rfl⟩ := Option.map_eq_some_iff.1 h
  exact (ok x (List.mem_of_find?_eq_some hx)).2.1
theorem len_bytes (b : ByteArray) : b.data.toList.length = b.size := rfl
theorem num_bad {d : ByteArray} {n : Int} {ev : Value} (hP : (isI ev = false ∧ Lib.atoiAll d.data.toList = .ok n) ∨ (isI ev = true ∧ ∀ m, Lib.atoiAll d.data.toList ≠ .ok m)) (h : isI ev = true ∨ 15 < d.size ∨ n < 0 ∨ ¬ (⟨(Lib.itoa n).toArray⟩ : ByteArray) = d) : numOf d = none := by
  rcases hP with ⟨h1, h2⟩ | ⟨h1, h2⟩
  · refine whole_none (by decide) h2 ?_
    rintro ⟨a1, a2, a3⟩
    rw [len_bytes] at a2
    rcases h with h | h | h | h
    · rw [h1] at h; cases h
    · omega
    · omega
    · exact h (str_ext a3)
  · exact whole_none' (by decide) h2
theorem num_good {d : ByteArray} {n : Int} {ev : Value} (hP : (isI ev = false ∧ Lib.atoiAll d.data.toList = .ok n) ∨ (isI ev = true ∧ ∀ m, Lib.atoiAll d.data.toList ≠ .ok m)) (h1 : isI ev = false) (h2 : d.size ≤ 15) (h3 : 0 ≤ n) (h4 : (⟨(Lib.itoa n).toArray⟩ : ByteArray) = d) : numOf d = some n.toNat := by
  rcases hP with ⟨_, h⟩ | ⟨h, _⟩
  · exact (atoi_whole (by decide) h).1 ⟨h3, by rw [len_bytes]; exact h2, by rw [← h4]⟩
  · rw [h1] at h; cases h
/-- How a text is read as a number. -/
def NumIs (b : ByteArray) (v : Value) : Prop := ∃ n ok, v = .tuple #[.int .i64 n, .bool ok] ∧ -9223372036854775808 ≤ n ∧ n ≤ 9223372036854775807 ∧ ((ok = true ∧ numOf b = some n.toNat ∧ 0 ≤ n) ∨ (ok = false ∧ numOf b = none))
section
attribute [local irreducible] Quiet OpsR Run CallS opS Gh endQ oblE RunN swp
theorem getKey_spec {x : Label} {k : ByteArray} {s : St} {bl i : Nat} {e : TypeId} [hA : AtB bl s.cs i (.cells #[.string k] e (0, 0))] : CallV Tryz.prog 102 #[.agg #[.string x.Key, .string x.Value], .pointer (some ⟨bl, 0, none⟩)] s (.bool (decide (x.Key = k))) := by
  intro K hK
  refine callS_of_run Tryz.func102 rfl ?_; simp only [Tryz.ntmps102, List.size_toArray, List.length_cons, List.length_nil, Nat.reduceAdd, Nat.reduceSub, Array.replicate_succ, Array.replicate_zero, List.push_toArray, List.append_toArray, List.nil_append, List.cons_append]
  refine run_seq fun _ hk1 => ?_
  refine run_region ?_
  refine opsR_o rfl (o_box fun b2 hb2 => ?_)
  simp only [nrm, Nat.reduceAdd, Nat.reduceMul, Nat.reduceSub, Int.reduceToNat, Int.reduceAdd]
  refine opsR_q rfl (q_assign) ?_
  simp only [nrm]
  refine opsR_nil ?_
  refine hk1 _ _ ?_
  clear hk1
  refine run_seq fun _ hk3 => ?_
  refine run_region ?_
  refine opsR_q rfl (q_fieldAddr rfl) ?_
  simp only [nrm, Nat.reduceAdd, Nat.reduceMul, Nat.reduceSub, Int.reduceToNat, Int.reduceAdd]
  refine opsR_q rfl (q_loadB1 rfl inferInstance rfl) ?_
  simp only [nrm, Nat.reduceAdd, Nat.reduceMul, Nat.reduceSub, Int.reduceToNat, Int.reduceAdd]
  refine opsR_q rfl (q_loadB1 rfl inferInstance rfl) ?_
  simp only [nrm, Nat.reduceAdd, Nat.reduceMul, Nat.reduceSub, Int.reduceToNat, Int.reduceAdd]
  refine opsR_q rfl (q_eql_string rfl rfl) ?_
  simp only [nrm, Nat.reduceAdd, Nat.reduceMul, Nat.reduceSub, Int.reduceToNat, Int.reduceAdd]
  refine opsR_q rfl (q_assign) ?_
  simp only [nrm]
  refine opsR_nil ?_
  refine hk3 _ _ ?_
  clear hk3
  refine run_ret ?_
  exact end_tmp rfl rfl rfl ghA hK
theorem Get_spec {l : List Label} {k : ByteArray} {v : Value} {s : St} (hl : Sl kLabel s.I v l) : CallV Tryz.prog 90 #[v, .string k] s (.tuple #[.string ((getOf l k).getD ⟨#[]⟩), .bool (getOf l k).isSome]) := by
  intro K hK
  have hle := hl.len.le
  have hc := idxF_cases (fun x : Label => decide (x.Key = k)) l
  refine callS_of_run Tryz.func90 rfl ?_; simp only [Tryz.ntmps90, List.size_toArray, List.length_cons, List.length_nil, Nat.reduceAdd, Nat.reduceSub, Array.replicate_succ, Array.replicate_zero, List.push_toArray, List.append_toArray, List.nil_append, List.cons_append]
  refine run_seq fun _ hk1 => ?_
  refine run_region ?_
  refine opsR_o rfl (o_box fun b2 hb2 => ?_)
  simp only [nrm, Nat.reduceAdd, Nat.reduceMul, Nat.reduceSub, Int.reduceToNat, Int.reduceAdd]
  refine opsR_q rfl (q_assign) ?_
  simp only [nrm]
  refine opsR_q rfl (q_assign) ?_
  simp only [nrm]
  refine opsR_nil ?_
  refine hk1 _ _ ?_
  clear hk1
  refine run_seq fun _ hk3 => ?_
  refine run_region ?_
  refine opsR_q rfl (q_move) ?_
  simp only [nrm]
  refine opsR_q rfl (q_makeFunc) ?_
  simp only [nrm]
  refine opsR_q rfl (q_call rfl (IndexFunc_Label (p := fun x => decide (x.Key = k)) (Sl.r hl (by exact leA)) (fun x cs hx hr => by obtain rfl := kLabel.open hr; exact getKey_spec))) ?_
  simp only [nrm, Nat.reduceAdd, Nat.reduceMul, Nat.reduceSub, Int.reduceToNat, Int.reduceAdd]
  refine opsR_q rfl (q_assign) ?_
  simp only [nrm]
  refine opsR_nil ?_
  refine hk3 _ _ ?_
  clear hk3
  refine run_seq fun _ hk6 => ?_
  refine run_seq fun _ hk7 => ?_
  generalize hI : idxF (fun x : Label => decide (x.Key = k)) l = I at *
  refine run_region ?_
  refine opsR_q rfl (q_move) ?_
  simp only [nrm]
  refine opsR_q rfl (q_lss rfl rfl) ?_
  simp only [nrm, Nat.reduceAdd, Nat.reduceMul, Nat.reduceSub, Int.reduceToNat, Int.reduceAdd]
  refine opsR_nil ?_
  refine hk7 _ _ ?_
  clear hk7
  refine run_cond rfl (fun ho8 => ?_) (fun ho8 => ?_)
  · have hc8 := ho8; try simp only [spl] at hc8
    refine run_seq fun _ hk9 => ?_
    have hg : getOf l k = none := by rcases hc with ⟨_, h⟩ | ⟨i, h1, _⟩; exact get_none h; omega
    rw [hg] at hK
    refine run_region ?_
    refine opsR_q rfl (q_assign) ?_
    simp only [nrm]
    refine opsR_q rfl (q_assign) ?_
    simp only [nrm]
    refine opsR_nil ?_
    refine hk9 _ _ ?_
    clear hk9
    refine run_ret ?_
    exact end_tmp2 rfl rfl rfl rfl ghA hK
  · have hc8 := ho8; try simp only [spl] at hc8
    refine run_skip ?_
    refine hk6 _ _ ?_
    clear hk6
    refine run_seq fun _ hk10 => ?_
    obtain ⟨i, rfl, hi, hp, hj⟩ : ∃ i : Nat, I = i ∧ i < l.length ∧ decide (l[i]!.Key = k) = true ∧ ∀ j, j < i → decide (l[j]!.Key = k) = false := by rcases hc with ⟨h, _⟩ | h; omega; exact h
    rw [get_some hi hj hp] at hK
    refine run_region ?_
    refine opsR_q rfl (q_move) ?_
    simp only [nrm]
    refine opsR_q rfl (q_move) ?_
    simp only [nrm]
    refine opsR_index rfl rfl rfl slrA (by rfl) idxA idxA fun b11 o11 cs11 ha11 hr11 he11 => ?_
    simp only [nrm, Nat.reduceAdd, Nat.reduceMul, Nat.reduceSub, Int.reduceToNat, Int.reduceAdd]
    try simp only [Int.toNat_natCast, Int.reduceToNat, Int.toNat_zero] at hr11
    try simp only [Int.toNat_natCast, Int.reduceToNat, Int.toNat_zero] at he11
    clear ha11
    obtain rfl := kLabel.open hr11
    refine opsR_q rfl (q_fieldAddr rfl) ?_
    simp only [nrm, Nat.reduceAdd, Nat.reduceMul, Nat.reduceSub, Int.reduceToNat, Int.reduceAdd]
    refine opsR_q rfl (by first | exact q_load_at1 (i := 0) rfl (by first | assumption | exact El.mono (by assumption) leA) rfl (Nat.le_of_ble_eq_true rfl) rfl | exact q_load_at1 rfl (by first | assumption | exact El.mono (by assumption) leA) rfl (Nat.le_of_ble_eq_true rfl) rfl) ?_
    simp only [nrm, Nat.reduceAdd, Nat.reduceMul, Nat.reduceSub, Int.reduceToNat, Int.reduceAdd]
    refine opsR_q rfl (q_assign) ?_
    simp only [nrm]
    refine opsR_q rfl (q_assign) ?_
    simp only [nrm]
    refine opsR_nil ?_
    refine hk10 _ _ ?_
    clear hk10
    refine run_ret ?_
    exact end_tmp2 rfl rfl rfl rfl ghA hK
theorem refGet_spec {l : List Label} {k : ByteArray} {v : Value} {s : St} (hl : Sl kLabel s.I v l) : CallV Tryz.prog 70 #[v, .string k] s (.tuple #[.string ((getOf l k).getD ⟨#[]⟩), .bool (getOf l k).isSome]) := by
  intro K hK
  have hle := hl.len.le
  refine callS_of_run Tryz.func70 rfl ?_; simp only [Tryz.ntmps70, List.size_toArray, List.length_cons, List.length_nil, Nat.reduceAdd, Nat.reduceSub, Array.replicate_succ, Array.replicate_zero, List.push_toArray, List.append_toArray, List.nil_append, List.cons_append]
  refine run_seq fun _ hk1 => ?_
  refine run_region ?_
  refine opsR_q rfl (q_assign) ?_
  simp only [nrm]
  refine opsR_q rfl (q_assign) ?_
  simp only [nrm]
  refine opsR_nil ?_
  refine hk1 _ _ ?_
  clear hk1
  refine run_seq fun _ hk2 => ?_
  refine run_seq fun _ hk3 => ?_
  refine run_region ?_
  refine opsR_q rfl (q_assign) ?_
  simp only [nrm]
  refine opsR_nil ?_
  refine hk3 _ _ ?_
  clear hk3
  refine run_block ?_
  refine run_loopF [0, 0, 0, 0, 1, 1, 2, 1, 1, 1, 1, 1, 1, 1, 1, 1, 1, 1, 1, 1, 1, 1, 1, 1, 1] (fun zn zL zst => ∃ (i : Nat), zL = [.int .i64 (i : Nat)] ∧ s = zst ∧ zn = l.length - i ∧ (i ≤ l.length) ∧ (∀ j, j < i → decide (l[j]!.Key = k) = false)) _ _ ⟨0, rfl, rfl, rfl, by first | assumption | omega | exact Hp.le.rfl | rfl | exact all_zero | exact all_succ (by assumption) (by assumption) | (intro _; omega) | (simp; done), by first | assumption | omega | exact Hp.le.rfl | rfl | exact all_zero | exact all_succ (by assumption) (by assumption) | (intro _; omega) | (simp; done)⟩ rfl ?_
  rintro _ _ _ jv4 ⟨i, rfl, rfl, rfl, hi, hj⟩ K4 hkl4
  simp only [fr, Nat.zero_add, Nat.reduceAdd]
  refine run_seq fun _ hk5 => ?_
  refine run_seq fun _ hk6 => ?_
  refine run_region ?_
  refine opsR_q rfl (q_move) ?_
  simp only [nrm]
  refine opsR_q rfl (q_move) ?_
  simp only [nrm]
  refine opsR_q rfl (q_len_v rfl (by first | exact Sl.len (by assumption) | exact OwnS.len (by assumption) | exact SlR.len (by assumption) | assumption)) ?_
  simp only [nrm, Nat.reduceAdd, Nat.reduceMul, Nat.reduceSub, Int.reduceToNat, Int.reduceAdd]
  refine opsR_q rfl (q_lss rfl rfl) ?_
  simp only [nrm, Nat.reduceAdd, Nat.reduceMul, Nat.reduceSub, Int.reduceToNat, Int.reduceAdd]
  refine opsR_nil ?_
  refine hk6 _ _ ?_
  clear hk6
  refine run_cond rfl (fun ho9 => ?_) (fun ho9 => ?_)
  · have hc9 := ho9; try simp only [spl] at hc9
    refine run_skip ?_
    refine hk5 _ _ ?_
    clear hk5
    refine run_seq fun _ hk10 => ?_
    refine run_block ?_
    refine run_seq fun _ hk11 => ?_
    refine run_region ?_
    refine opsR_q rfl (q_move) ?_
    simp only [nrm]
    refine opsR_q rfl (q_move) ?_
    simp only [nrm]
    refine opsR_index rfl rfl rfl slrA (by rfl) idxA idxA fun b12 o12 cs12 ha12 hr12 he12 => ?_
    simp only [nrm, Nat.reduceAdd, Nat.reduceMul, Nat.reduceSub, Int.reduceToNat, Int.reduceAdd]
    try simp only [Int.toNat_natCast, Int.reduceToNat, Int.toNat_zero] at hr12
    try simp only [Int.toNat_natCast, Int.reduceToNat, Int.toNat_zero] at he12
    clear ha12
    obtain rfl := kLabel.open hr12
    refine opsR_q rfl (q_fieldAddr rfl) ?_
    simp only [nrm, Nat.reduceAdd, Nat.reduceMul, Nat.reduceSub, Int.reduceToNat, Int.reduceAdd]
    refine opsR_q rfl (by first | exact q_load_at1 (i := 0) rfl (by first | assumption | exact El.mono (by assumption) leA) rfl (Nat.le_of_ble_eq_true rfl) rfl | exact q_load_at1 rfl (by first | assumption | exact El.mono (by assumption) leA) rfl (Nat.le_of_ble_eq_true rfl) rfl) ?_
    simp only [nrm, Nat.reduceAdd, Nat.reduceMul, Nat.reduceSub, Int.reduceToNat, Int.reduceAdd]
    refine opsR_q rfl (q_move) ?_
    simp only [nrm]
    refine opsR_q rfl (q_eql_string rfl rfl) ?_
    simp only [nrm, Nat.reduceAdd, Nat.reduceMul, Nat.reduceSub, Int.reduceToNat, Int.reduceAdd]
    refine opsR_nil ?_
    refine hk11 _ _ ?_
    clear hk11
    refine run_cond rfl (fun ho14 => ?_) (fun ho14 => ?_)
    · have hc14 := ho14; try simp only [spl] at hc14
      refine run_seq fun _ hk15 => ?_
      rw [get_some (by omega) hj (decide_eq_true (by assumption))] at hK
      refine run_region ?_
      refine opsR_q rfl (q_move) ?_
      simp only [nrm]
      refine opsR_q rfl (q_move) ?_
      simp only [nrm]
      refine opsR_index rfl rfl rfl slrA (by rfl) idxA idxA fun b16 o16 cs16 ha16 hr16 he16 => ?_
      simp only [nrm, Nat.reduceAdd, Nat.reduceMul, Nat.reduceSub, Int.reduceToNat, Int.reduceAdd]
      try simp only [Int.toNat_natCast, Int.reduceToNat, Int.toNat_zero] at hr16
      try simp only [Int.toNat_natCast, Int.reduceToNat, Int.toNat_zero] at he16
      clear ha16
      obtain rfl := kLabel.open hr16
      refine opsR_q rfl (q_fieldAddr rfl) ?_
      simp only [nrm, Nat.reduceAdd, Nat.reduceMul, Nat.reduceSub, Int.reduceToNat, Int.reduceAdd]
      refine opsR_q rfl (by first | exact q_load_at1 (i := 0) rfl (by first | assumption | exact El.mono (by assumption) leA) rfl (Nat.le_of_ble_eq_true rfl) rfl | exact q_load_at1 rfl (by first | assumption | exact El.mono (by assumption) leA) rfl (Nat.le_of_ble_eq_true rfl) rfl) ?_
      simp only [nrm, Nat.reduceAdd, Nat.reduceMul, Nat.reduceSub, Int.reduceToNat, Int.reduceAdd]
      refine opsR_q rfl (q_assign) ?_
      simp only [nrm]
      refine opsR_q rfl (q_assign) ?_
      simp only [nrm]
      refine opsR_nil ?_
      refine hk15 _ _ ?_
      clear hk15
      refine run_ret ?_
      exact end_tmp2 rfl rfl rfl rfl ghA hK
    · have hc14 := ho14; try simp only [spl] at hc14
      refine run_skip ?_
      refine hk10 _ _ ?_
      clear hk10
      refine run_region ?_
      refine opsR_q rfl (q_move) ?_
      simp only [nrm]
      refine opsR_q rfl (by first | exact q_add64 rfl rfl (by omega) (by omega) | exact q_add rfl rfl) ?_
      simp only [nrm, Nat.reduceAdd, Nat.reduceMul, Nat.reduceSub, Int.reduceToNat, Int.reduceAdd]
      refine opsR_q rfl (q_assign) ?_
      simp only [nrm]
      refine opsR_nil ?_
      first
      | exact hkl4 _ _ _ _ (by omega) ⟨i + 1, rfl, rfl, rfl, by first | omega | exact all_zero | exact all_succ hj (decide_eq_false (by assumption)), by first | omega | exact all_zero | exact all_succ hj (decide_eq_false (by assumption))⟩ rfl
  · have hc9 := ho9; try simp only [spl] at hc9
    refine run_exit ?_
    refine hk2 _ _ ?_
    clear hk2
    refine run_seq fun _ hk17 => ?_
    rw [get_none (fun j h => hj j (by omega))] at hK
    refine run_region ?_
    refine opsR_q rfl (q_assign) ?_
    simp only [nrm]
    refine opsR_q rfl (q_assign) ?_
    simp only [nrm]
    refine opsR_nil ?_
    refine hk17 _ _ ?_
    clear hk17
    refine run_ret ?_
    exact end_tmp2 rfl rfl rfl rfl ghA hK
theorem Has_spec {xs : List ByteArray} {x : ByteArray} {v : Value} {s : St} (hs : SlR kStr s v xs) : CallV Tryz.prog 71 #[v, .string x] s (.bool (xs.any fun y => decide (x = y))) := by
  intro K hK
  have hle := hs.len.le
  refine callS_of_run Tryz.func71 rfl ?_; simp only [Tryz.ntmps71, List.size_toArray, List.length_cons, List.length_nil, Nat.reduceAdd, Nat.reduceSub, Array.replicate_succ, Array.replicate_zero, List.push_toArray, List.append_toArray, List.nil_append, List.cons_append]
  refine run_seq fun _ hk1 => ?_
  refine run_region ?_
  refine opsR_q rfl (q_assign) ?_
  simp only [nrm]
  refine opsR_nil ?_
  refine hk1 _ _ ?_
  clear hk1
  refine run_seq fun _ hk2 => ?_
  refine run_seq fun _ hk3 => ?_
  refine run_region ?_
  refine opsR_q rfl (q_assign) ?_
  simp only [nrm]
  refine opsR_nil ?_
  refine hk3 _ _ ?_
  clear hk3
  refine run_block ?_
  refine run_loopF [0, 0, 0, 0, 1, 2, 1, 1, 1, 1, 1, 1, 1, 1, 1, 1, 1, 1] (fun zn zL zst => ∃ (i : Nat), zL = [.int .i64 (i : Nat)] ∧ s = zst ∧ zn = xs.length - i ∧ (i ≤ xs.length) ∧ (∀ j, j < i → decide (x = xs[j]!) = false)) _ _ ⟨0, rfl, rfl, rfl, by first | assumption | omega | exact Hp.le.rfl | rfl | exact all_zero | exact all_succ (by assumption) (by assumption) | (intro _; omega) | (simp; done), by first | assumption | omega | exact Hp.le.rfl | rfl | exact all_zero | exact all_succ (by assumption) (by assumption) | (intro _; omega) | (simp; done)⟩ rfl ?_
  rintro _ _ _ jv4 ⟨i, rfl, rfl, rfl, hi, hj⟩ K4 hkl4
  simp only [fr, Nat.zero_add, Nat.reduceAdd]
  refine run_seq fun _ hk5 => ?_
  refine run_seq fun _ hk6 => ?_
  refine run_region ?_
  refine opsR_q rfl (q_move) ?_
  simp only [nrm]
  refine opsR_q rfl (q_move) ?_
  simp only [nrm]
  refine opsR_q rfl (q_len_v rfl (by first | exact Sl.len (by assumption) | exact OwnS.len (by assumption) | exact SlR.len (by assumption) | assumption)) ?_
  simp only [nrm, Nat.reduceAdd, Nat.reduceMul, Nat.reduceSub, Int.reduceToNat, Int.reduceAdd]
  refine opsR_q rfl (q_lss rfl rfl) ?_
  simp only [nrm, Nat.reduceAdd, Nat.reduceMul, Nat.reduceSub, Int.reduceToNat, Int.reduceAdd]
  refine opsR_nil ?_
  refine hk6 _ _ ?_
  clear hk6
  refine run_cond rfl (fun ho9 => ?_) (fun ho9 => ?_)
  · have hc9 := ho9; try simp only [spl] at hc9
    refine run_skip ?_
    refine hk5 _ _ ?_
    clear hk5
    refine run_seq fun _ hk10 => ?_
    refine run_block ?_
    refine run_seq fun _ hk11 => ?_
    refine run_region ?_
    refine opsR_q rfl (q_move) ?_
    simp only [nrm]
    refine opsR_q rfl (q_move) ?_
    simp only [nrm]
    refine opsR_index rfl rfl rfl slrA (by rfl) idxA idxA fun b12 o12 cs12 ha12 hr12 he12 => ?_
    simp only [nrm, Nat.reduceAdd, Nat.reduceMul, Nat.reduceSub, Int.reduceToNat, Int.reduceAdd]
    try simp only [Int.toNat_natCast, Int.reduceToNat, Int.toNat_zero] at hr12
    try simp only [Int.toNat_natCast, Int.reduceToNat, Int.toNat_zero] at he12
    clear ha12
    obtain rfl := hr12
    refine opsR_q rfl (by first | exact q_load_at1 (i := 0) rfl (by first | assumption | exact El.mono (by assumption) leA) rfl (Nat.le_of_ble_eq_true rfl) rfl | exact q_load_at1 rfl (by first | assumption | exact El.mono (by assumption) leA) rfl (Nat.le_of_ble_eq_true rfl) rfl) ?_
    simp only [nrm, Nat.reduceAdd, Nat.reduceMul, Nat.reduceSub, Int.reduceToNat, Int.reduceAdd]
    refine opsR_q rfl (q_move) ?_
    simp only [nrm]
    refine opsR_q rfl (q_eql_string rfl rfl) ?_
    simp only [nrm, Nat.reduceAdd, Nat.reduceMul, Nat.reduceSub, Int.reduceToNat, Int.reduceAdd]
    refine opsR_nil ?_
    refine hk11 _ _ ?_
    clear hk11
    refine run_cond rfl (fun ho14 => ?_) (fun ho14 => ?_)
    · have hc14 := ho14; try simp only [spl] at hc14
      refine run_seq fun _ hk15 => ?_
      refine run_region ?_
      refine opsR_q rfl (q_assign) ?_
      simp only [nrm]
      refine opsR_nil ?_
      refine hk15 _ _ ?_
      clear hk15
      refine run_ret ?_
      exact end_tmp rfl rfl rfl ghA (eqK hK (congrArg Go.Value.bool (by exact any_eqx (i := i) (by omega) (by assumption))))
    · have hc14 := ho14; try simp only [spl] at hc14
      refine run_skip ?_
      refine hk10 _ _ ?_
      clear hk10
      refine run_region ?_
      refine opsR_q rfl (q_move) ?_
      simp only [nrm]
      refine opsR_q rfl (by first | exact q_add64 rfl rfl (by omega) (by omega) | exact q_add rfl rfl) ?_
      simp only [nrm, Nat.reduceAdd, Nat.reduceMul, Nat.reduceSub, Int.reduceToNat, Int.reduceAdd]
      refine opsR_q rfl (q_assign) ?_
      simp only [nrm]
      refine opsR_nil ?_
      first
      | exact hkl4 _ _ _ _ (by omega) ⟨i + 1, rfl, rfl, rfl, by first | omega | exact all_zero | exact all_succ hj (decide_eq_false (fun e => absurd e.symm (by assumption))), by first | omega | exact all_zero | exact all_succ hj (decide_eq_false (fun e => absurd e.symm (by assumption)))⟩ rfl
  · have hc9 := ho9; try simp only [spl] at hc9
    refine run_exit ?_
    refine hk2 _ _ ?_
    clear hk2
    refine run_seq fun _ hk16 => ?_
    refine run_region ?_
    refine opsR_q rfl (q_assign) ?_
    simp only [nrm]
    refine opsR_nil ?_
    refine hk16 _ _ ?_
    clear hk16
    refine run_ret ?_
    exact end_tmp rfl rfl rfl ghA (eqK hK (congrArg Go.Value.bool (by exact any_none (p := fun y => decide (x = y)) (fun j h => hj j (by omega)))))
theorem number_spec {b : ByteArray} {s : St} (hT : Tabs s.I) (hb : b.size ≤ 281474976710656) : CallQ Tryz.prog 105 #[.string b] s (NumIs b) := by
  intro K hK
  refine callS_of_run Tryz.func105 rfl ?_; simp only [Tryz.ntmps105, List.size_toArray, List.length_cons, List.length_nil, Nat.reduceAdd, Nat.reduceSub, Array.replicate_succ, Array.replicate_zero, List.push_toArray, List.append_toArray, List.nil_append, List.cons_append]
  refine run_seq fun _ hk1 => ?_
  refine run_region ?_
  refine opsR_q rfl (q_assign) ?_
  simp only [nrm]
  refine opsR_q rfl (q_assign) ?_
  simp only [nrm]
  refine opsR_nil ?_
  refine hk1 _ _ ?_
  clear hk1
  refine run_seq fun _ hk2 => ?_
  refine run_region ?_
  refine opsR_q rfl (q_move) ?_
  simp only [nrm]
  refine opsR_o rfl (o_call rfl (Atoi_q hT (by omega) _ fun vA hvA => ?_))
  simp only [nrm, Nat.reduceAdd, Nat.reduceMul, Nat.reduceSub, Int.reduceToNat, Int.reduceAdd]
  obtain ⟨n, ev, rfl, hE, hn1, hn2, hP⟩ := hvA
  refine opsR_q rfl (q_move) ?_
  simp only [nrm]
  refine opsR_q rfl (q_extract rfl rfl) ?_
  simp only [nrm]
  refine opsR_q rfl (q_extract rfl rfl) ?_
  simp only [nrm]
  refine opsR_q rfl (q_assign) ?_
  simp only [nrm]
  refine opsR_q rfl (q_assign) ?_
  simp only [nrm]
  refine opsR_nil ?_
  refine hk2 _ _ ?_
  clear hk2
  refine run_seq fun _ hk6 => ?_
  refine run_region ?_
  refine opsR_q rfl (q_move) ?_
  simp only [nrm]
  refine opsR_q rfl (q_move) ?_
  simp only [nrm]
  refine opsR_q rfl (q_eql_nilI rfl rfl (by assumption)) ?_
  simp only [nrm, Nat.reduceAdd, Nat.reduceMul, Nat.reduceSub, Int.reduceToNat, Int.reduceAdd]
  refine opsR_qb rfl (q_move) (fun hc7 => ?_) (fun hc7 => ?_)
  · have ho7 := hc7; try simp only [spl] at hc7
    simp only [nrm, Nat.reduceAdd, Nat.reduceMul, Nat.reduceSub, Int.reduceToNat, Int.reduceAdd]
    refine opsR_q rfl (q_move) ?_
    simp only [nrm]
    refine opsR_q rfl (q_geq rfl rfl) ?_
    simp only [nrm, Nat.reduceAdd, Nat.reduceMul, Nat.reduceSub, Int.reduceToNat, Int.reduceAdd]
    refine opsR_q rfl (q_pick_t rfl) ?_
    simp only [nrm]
    refine opsR_qb rfl (q_move) (fun hc8 => ?_) (fun hc8 => ?_)
    · have ho8 := hc8; try simp only [spl] at hc8
      simp only [nrm, Nat.reduceAdd, Nat.reduceMul, Nat.reduceSub, Int.reduceToNat, Int.reduceAdd]
      refine opsR_q rfl (q_move) ?_
      simp only [nrm]
      refine opsR_q rfl (q_len_str rfl) ?_
      simp only [nrm, Nat.reduceAdd, Nat.reduceMul, Nat.reduceSub, Int.reduceToNat, Int.reduceAdd]
      refine opsR_q rfl (q_leq rfl rfl) ?_
      simp only [nrm, Nat.reduceAdd, Nat.reduceMul, Nat.reduceSub, Int.reduceToNat, Int.reduceAdd]
      refine opsR_q rfl (q_pick_t rfl) ?_
      simp only [nrm]
      refine opsR_qb rfl (q_move) (fun hc9 => ?_) (fun hc9 => ?_)
      · have ho9 := hc9; try simp only [spl] at hc9
        simp only [nrm, Nat.reduceAdd, Nat.reduceMul, Nat.reduceSub, Int.reduceToNat, Int.reduceAdd]
        refine opsR_q rfl (q_move) ?_
        simp only [nrm]
        refine opsR_q rfl (q_call rfl (Itoa_spec hT (by omega) (by omega))) ?_
        simp only [nrm, Nat.reduceAdd, Nat.reduceMul, Nat.reduceSub, Int.reduceToNat, Int.reduceAdd]
        refine opsR_q rfl (q_move) ?_
        simp only [nrm]
        refine opsR_q rfl (q_eql_string rfl rfl) ?_
        simp only [nrm, Nat.reduceAdd, Nat.reduceMul, Nat.reduceSub, Int.reduceToNat, Int.reduceAdd]
        refine opsR_q rfl (q_pick_t rfl) ?_
        simp only [nrm]
        refine opsR_q rfl (q_assign) ?_
        simp only [nrm]
        refine opsR_q rfl (q_assign) ?_
        simp only [nrm]
        refine opsR_nil ?_
        refine hk6 _ _ ?_
        clear hk6
        refine run_ret ?_
        first
        | exact end_tmp2 rfl rfl rfl rfl .refl (hK _ ⟨n, false, rfl, hn1, hn2, Or.inr ⟨rfl, num_bad hP (by first | exact Or.inl (by assumption) | exact Or.inr (Or.inl (by omega)) | exact Or.inr (Or.inr (Or.inl (by omega))))⟩⟩)
        | exact end_tmp2 rfl rfl rfl rfl .refl (hK _ ⟨n, _, rfl, hn1, hn2, by
            by_cases he : (⟨(Lib.itoa n).toArray⟩ : ByteArray) = b
            · exact Or.inl ⟨decide_eq_true he, num_good hP (by assumption) (by omega) (by omega) he, by omega⟩
            · exact Or.inr ⟨decide_eq_false he, num_bad hP (Or.inr (Or.inr (Or.inr he)))⟩⟩)
      · have ho9 := hc9; try simp only [spl] at hc9
        simp only [nrm, Nat.reduceAdd, Nat.reduceMul, Nat.reduceSub, Int.reduceToNat, Int.reduceAdd]
        refine opsR_skip rfl ?_
        simp only [nrm, Nat.reduceAdd, Nat.reduceMul, Nat.reduceSub, Int.reduceToNat, Int.reduceAdd]
        refine opsR_skip rfl ?_
        simp only [nrm, Nat.reduceAdd, Nat.reduceMul, Nat.reduceSub, Int.reduceToNat, Int.reduceAdd]
        refine opsR_skip rfl ?_
        simp only [nrm, Nat.reduceAdd, Nat.reduceMul, Nat.reduceSub, Int.reduceToNat, Int.reduceAdd]
        refine opsR_skip rfl ?_
        simp only [nrm, Nat.reduceAdd, Nat.reduceMul, Nat.reduceSub, Int.reduceToNat, Int.reduceAdd]
        refine opsR_q rfl (q_pick_f rfl) ?_
        simp only [nrm]
        refine opsR_q rfl (q_assign) ?_
        simp only [nrm]
        refine opsR_q rfl (q_assign) ?_
        simp only [nrm]
        refine opsR_nil ?_
        refine hk6 _ _ ?_
        clear hk6
        refine run_ret ?_
        first
        | exact end_tmp2 rfl rfl rfl rfl .refl (hK _ ⟨n, false, rfl, hn1, hn2, Or.inr ⟨rfl, num_bad hP (by first | exact Or.inl (by assumption) | exact Or.inr (Or.inl (by omega)) | exact Or.inr (Or.inr (Or.inl (by omega))))⟩⟩)
        | exact end_tmp2 rfl rfl rfl rfl .refl (hK _ ⟨n, _, rfl, hn1, hn2, by
            by_cases he : (⟨(Lib.itoa n).toArray⟩ : ByteArray) = b
            · exact Or.inl ⟨decide_eq_true he, num_good hP (by assumption) (by omega) (by omega) he, by omega⟩
            · exact Or.inr ⟨decide_eq_false he, num_bad hP (Or.inr (Or.inr (Or.inr he)))⟩⟩)
    · have ho8 := hc8; try simp only [spl] at hc8
      simp only [nrm, Nat.reduceAdd, Nat.reduceMul, Nat.reduceSub, Int.reduceToNat, Int.reduceAdd]
      refine opsR_skip rfl ?_
      simp only [nrm, Nat.reduceAdd, Nat.reduceMul, Nat.reduceSub, Int.reduceToNat, Int.reduceAdd]
      refine opsR_skip rfl ?_
      simp only [nrm, Nat.reduceAdd, Nat.reduceMul, Nat.reduceSub, Int.reduceToNat, Int.reduceAdd]
      refine opsR_skip rfl ?_
      simp only [nrm, Nat.reduceAdd, Nat.reduceMul, Nat.reduceSub, Int.reduceToNat, Int.reduceAdd]
      refine opsR_q rfl (q_pick_f rfl) ?_
      simp only [nrm]
      refine opsR_q rfl (q_move) ?_
      simp only [nrm]
      refine opsR_skip rfl ?_
      simp only [nrm, Nat.reduceAdd, Nat.reduceMul, Nat.reduceSub, Int.reduceToNat, Int.reduceAdd]
      refine opsR_skip rfl ?_
      simp only [nrm, Nat.reduceAdd, Nat.reduceMul, Nat.reduceSub, Int.reduceToNat, Int.reduceAdd]
      refine opsR_skip rfl ?_
      simp only [nrm, Nat.reduceAdd, Nat.reduceMul, Nat.reduceSub, Int.reduceToNat, Int.reduceAdd]
      refine opsR_skip rfl ?_
      simp only [nrm, Nat.reduceAdd, Nat.reduceMul, Nat.reduceSub, Int.reduceToNat, Int.reduceAdd]
      refine opsR_q rfl (q_pick_f rfl) ?_
      simp only [nrm]
      refine opsR_q rfl (q_assign) ?_
      simp only [nrm]
      refine opsR_q rfl (q_assign) ?_
      simp only [nrm]
      refine opsR_nil ?_
      refine hk6 _ _ ?_
      clear hk6
      refine run_ret ?_
      first
      | exact end_tmp2 rfl rfl rfl rfl .refl (hK _ ⟨n, false, rfl, hn1, hn2, Or.inr ⟨rfl, num_bad hP (by first | exact Or.inl (by assumption) | exact Or.inr (Or.inl (by omega)) | exact Or.inr (Or.inr (Or.inl (by omega))))⟩⟩)
      | exact end_tmp2 rfl rfl rfl rfl .refl (hK _ ⟨n, _, rfl, hn1, hn2, by
          by_cases he : (⟨(Lib.itoa n).toArray⟩ : ByteArray) = b
          · exact Or.inl ⟨decide_eq_true he, num_good hP (by assumption) (by omega) (by omega) he, by omega⟩
          · exact Or.inr ⟨decide_eq_false he, num_bad hP (Or.inr (Or.inr (Or.inr he)))⟩⟩)
  · have ho7 := hc7; try simp only [spl] at hc7
    simp only [nrm, Nat.reduceAdd, Nat.reduceMul, Nat.reduceSub, Int.reduceToNat, Int.reduceAdd]
    refine opsR_skip rfl ?_
    simp only [nrm, Nat.reduceAdd, Nat.reduceMul, Nat.reduceSub, Int.reduceToNat, Int.reduceAdd]
    refine opsR_skip rfl ?_
    simp only [nrm, Nat.reduceAdd, Nat.reduceMul, Nat.reduceSub, Int.reduceToNat, Int.reduceAdd]
    refine opsR_q rfl (q_pick_f rfl) ?_
    simp only [nrm]
    refine opsR_q rfl (q_move) ?_
    simp only [nrm]
    refine opsR_skip rfl ?_
    simp only [nrm, Nat.reduceAdd, Nat.reduceMul, Nat.reduceSub, Int.reduceToNat, Int.reduceAdd]
    refine opsR_skip rfl ?_
    simp only [nrm, Nat.reduceAdd, Nat.reduceMul, Nat.reduceSub, Int.reduceToNat, Int.reduceAdd]
    refine opsR_skip rfl ?_
    simp only [nrm, Nat.reduceAdd, Nat.reduceMul, Nat.reduceSub, Int.reduceToNat, Int.reduceAdd]
    refine opsR_q rfl (q_pick_f rfl) ?_
    simp only [nrm]
    refine opsR_q rfl (q_move) ?_
    simp only [nrm]
    refine opsR_skip rfl ?_
    simp only [nrm, Nat.reduceAdd, Nat.reduceMul, Nat.reduceSub, Int.reduceToNat, Int.reduceAdd]
    refine opsR_skip rfl ?_
    simp only [nrm, Nat.reduceAdd, Nat.reduceMul, Nat.reduceSub, Int.reduceToNat, Int.reduceAdd]
    refine opsR_skip rfl ?_
    simp only [nrm, Nat.reduceAdd, Nat.reduceMul, Nat.reduceSub, Int.reduceToNat, Int.reduceAdd]
    refine opsR_skip rfl ?_
    simp only [nrm, Nat.reduceAdd, Nat.reduceMul, Nat.reduceSub, Int.reduceToNat, Int.reduceAdd]
    refine opsR_q rfl (q_pick_f rfl) ?_
    simp only [nrm]
    refine opsR_q rfl (q_assign) ?_
    simp only [nrm]
    refine opsR_q rfl (q_assign) ?_
    simp only [nrm]
    refine opsR_nil ?_
    refine hk6 _ _ ?_
    clear hk6
    refine run_ret ?_
    first
    | exact end_tmp2 rfl rfl rfl rfl .refl (hK _ ⟨n, false, rfl, hn1, hn2, Or.inr ⟨rfl, num_bad hP (by first | exact Or.inl (by assumption) | exact Or.inr (Or.inl (by omega)) | exact Or.inr (Or.inr (Or.inl (by omega))))⟩⟩)
    | exact end_tmp2 rfl rfl rfl rfl .refl (hK _ ⟨n, _, rfl, hn1, hn2, by
        by_cases he : (⟨(Lib.itoa n).toArray⟩ : ByteArray) = b
        · exact Or.inl ⟨decide_eq_true he, num_good hP (by assumption) (by omega) (by omega) he, by omega⟩
        · exact Or.inr ⟨decide_eq_false he, num_bad hP (Or.inr (Or.inr (Or.inr he)))⟩⟩)
end
end Go.Proofs.YtcnbcblihepbmaaGreatDoor
