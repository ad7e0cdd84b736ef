/- Package info: a list with one more. -/
import Derived.Test.YtcnbcblihepbmaaGreatDoorS22
import Derived.Test.YtcnbcblihepbmaaGreatDoorS11
import Derived.Test.YtcnbcblihepbmaaGreatDoorS14
import Derived.Test.YtcnbcblihepbmaaGreatDoorG2
set_option autoImplicit false
set_option linter.unusedVariables false
set_option linter.unusedSimpArgs false
namespace Go.Proofs.YtcnbcblihepbmaaGreatDoor
open Go Go.RowKit
/-- A slice that never turns, and has no room to spare. -/
def SlF {α : Type} (k : Kd α) (I : Hp) (v : Value) (xs : List α) : Prop := Sl k I v xs ∧ ∃ A, v = .slice A xs.length xs.length
theorem SlF.mono {α : Type} {k : Kd α} {I J : Hp} {v : Value} {xs : List α} (h : SlF k I v xs) (hl : Hp.le I J) : SlF k J v xs := ⟨h.1.mono hl, h.2⟩
section
variable {P : Program} {s : St} {ρ : Operand → Value} {d : Option Tmp} {ty : TypeId} {ps : String} {af : Array Edge} {g : Option (Nat × Bool)} {x y z : Operand} {K : Value → St → Prop} {α : Type} {k : Kd α}
theorem o_appendF {t t2 e : TypeId} {bb : Bool} {n by_ : Nat} {zv : Value} [ht : TySlice P t e] [ht2 : TySlice P t2 e] [TyV P e bb n zv] [hby : TyBytes P e by_] {I : Hp} {B : List (Nat × Obj)} {v u : Value} {xs ys : List α} (hk : k.sz = n) (hz : zv.cells.size = n) (hn : 0 < n)
    (hb0 : 0 < by_) (hb1 : by_ ≤ 65536) (hs_ : s = ⟨I, B⟩) (hv : SlF k I v xs) (hx : ρ x = v) (hy : ρ y = u) (hu : SlR k s u ys) (hpos : 0 < ys.length) (hlen : (xs.length + ys.length) * by_ ≤ 70368744177664)
    (h : ∀ v' hs', OwnS k e I v' hs' (xs ++ ys) → K v' ⟨I, hs' ++ B⟩) : opS P (Oper.mk d (.call { callee := .builtin .append, args := #[x, y], argTypes := #[t, t2] }) ty ps af g) ρ s K := by
  subst hk
  have hbound : xs.length + ys.length ≤ 70368744177664 := Nat.le_trans (Nat.le_mul_of_pos_right _ hb0) hlen
  obtain ⟨cells, c1, c2, c3, c4⟩ := swp_firstCells (P := P) hu hn
  obtain ⟨inf, hi1, hi2⟩ := Option.map_eq_some_iff.1 hby.bytes
  obtain ⟨Au, cu, hu1, _⟩ := hu
  have hyl : ∀ K : Nat → St → Prop, K ys.length s → swp P (Builtin.lenOf u) s K := fun K hK => by rw [hu1]; exact hK
  obtain ⟨hv1, base, rfl⟩ := hv
  simp only [opS, execOp, resolve, List.map_toArray, List.map_cons, List.map_nil, hx, hy, swp_bind', swp_pure, invoke, builtin, Builtin.append_, List.getElem?_toArray, List.getElem?_cons_zero, List.getElem?_cons_succ, swp_underlying ht.und, swp_underlying ht2.und, swp_sizeOf, Bool.false_eq_true, if_false, Bool.not_false, if_true]
  refine hyl _ ?_
  have hsI : s.I = I := by rw [hs_]
  rw [hsI] at c2
  have hmark : ∀ (n : Nat) (K : Unit → St → Prop) (s : St), K () s → swp P (askRoom n) s K := by
    intro n K s hK; unfold askRoom; split <;> exact hK
  split
  · rename_i hle
    exact absurd hle (by omega)
  · rename_i hgt
    have hin : ¬ ((xs.length + ys.length : Nat) : Int) > IntKind.i64.max := by
      show ¬ _ > (9223372036854775807 : Int); omega
    have hns : ¬ Builtin.nextslicecap (xs.length + ys.length) xs.length * inf.bytes > 2 ^ 48 := by
      have := nextslicecap_le (xs.length + ys.length) xs.length (by omega)
      rw [hi2]
      have := Nat.mul_le_mul_right by_ this
      rw [Nat.add_mul, Nat.mul_assoc] at this
      have h2 : 192 * by_ ≤ 12582912 := by omega
      omega
    simp only [swp_bind', swp_typeInfo hi1, hin, false_and, if_false, hns, choose, swp, Question.forced, Bool.false_eq_true]
    intro t
    simp only [Question.cut, swp_typeInfo hi1]
    have hcap : xs.length + ys.length ≤ xs.length + ys.length + t % (2 ^ 63 - (xs.length + ys.length)) := Nat.le_add_right _ _
    generalize hN : xs.length + ys.length + t % (2 ^ 63 - (xs.length + ys.length)) = N at hcap ⊢
    refine hmark _ _ _ ?_
    have hr : SlR k s (Value.slice base xs.length xs.length) xs := hv1.r (by rw [hsI]; exact .rfl)
    obtain ⟨old, o1, o2, _, o3⟩ := swp_firstCells (P := P) hr hn
    rw [hsI] at o2
    refine o3 _ (c4 _ ?_)
    simp only [swp_zeroValue, newRow, newObj, swp_bind', swp, swp_pure]
    intro b hb
    simp only [nextS]
    have hsz : (old ++ cells).size = (xs ++ ys).length * k.sz := by simp only [Array.size_append, o1, c1, List.length_append, Nat.add_mul]
    subst hs_
    refine h _ [(b, .cells (old ++ cells ++ Builtin.zeroCells zv.cells (N - (xs.length + ys.length))) e (0, 0))] ⟨by simp; omega, .inr ⟨b, N, _, by simp, rfl, by simp; omega, ?_, ?_⟩⟩
    · rw [Array.size_append, hsz, zeroCells_size, hz, List.length_append, ← Nat.add_mul]; congr 1; omega
    · refine Rows.append (o2.moved fun i hi => ?_) (c2.moved fun i hi => ?_)
      · rw [Array.getElem?_append_left (by rw [hsz, List.length_append, Nat.add_mul]; omega), Array.getElem?_append_left (by omega)]
      · rw [Array.getElem?_append_left (by rw [hsz, List.length_append, Nat.add_mul]; omega), Array.getElem?_append_right (by omega)]; congr 1; omega
end
section
variable {P : Program} {s : St} {d : Option Tmp} {ty : TypeId} {ps : String} {af : Array Edge} {g : Option (Nat × Bool)} {x y : Operand} {α : Type} {k : Kd α} {ops : Array Oper} {rest : List Oper} {Q : Exit → Act → St → Prop} {a : Act}
theorem opsR_appF {t t2 e : TypeId} {bb : Bool} {n by_ : Nat} {zv : Value} [ht : TySlice P t e] [ht2 : TySlice P t2 e] [TyV P e bb n zv] [hby : TyBytes P e by_] {v u : Value} {xs ys : List α}
    (hg : Region.wanted (Oper.mk d (.call { callee := .builtin .append, args := #[x, y], argTypes := #[t, t2] }) ty ps af g) (yielded ops a.tmps) = true) (hx : a.eval x = v) (hy : a.eval y = u) (hv : SlF k s.I v xs) (hu : SlR k s u ys)
    (hz : zv.cells.size = n) (hk : k.sz = n) (hn : Nat.ble 1 n = true) (hb : (Nat.ble 1 by_ && Nat.ble by_ 65536) = true) (hpos : 0 < ys.length) (hlen : xs.length + ys.length ≤ 1073741824)
    (h : ∀ v' hs', OwnS k e s.I v' hs' (xs ++ ys) → OpsR P ops rest Q (a.put d v') ⟨s.I, hs' ++ s.cs⟩) : OpsR P ops (Oper.mk d (.call { callee := .builtin .append, args := #[x, y], argTypes := #[t, t2] }) ty ps af g :: rest) Q a s := by
  simp only [Bool.and_eq_true] at hb
  have h1 := Nat.le_of_ble_eq_true hb.1
  have h2 := Nat.le_of_ble_eq_true hb.2
  refine opsR_o hg (o_appendF hk hz (Nat.le_of_ble_eq_true hn) h1 h2 rfl hv hx hy hu hpos ?_ h)
  have := Nat.mul_le_mul hlen h2
  omega
theorem oblK_cutF {keep : St → Prop} {s0 : St} {fin : Act → Prop} {r : List Oper} {E B : List Bool} {b : Bool} {t e : TypeId} {bb : Bool} {n : Nat} {zv : Value} [ht : TySlice P t e] [htv : TyV P e bb n zv] {v : Value} {xs : List α} {I : Hp} {h : Nat} {ohi omx : Operand}
    (hg : Region.wanted (Oper.mk d (.slice t x none (some ohi) (some omx)) ty ps af g) (yielded ops a.tmps) = true) (hx : a.eval x = v) (hs : Sl k I v xs) (hh : Bnd a.eval (some ohi) xs.length h) (hm : Bnd a.eval (some omx) xs.length h) (hk : k.sz = n) (h2 : h ≤ xs.length)
    (hK : ∀ v', SlF k I v' (xs.take h) → oblK P ops keep s0 fin r E B (a.put d v')) : oblK P ops keep s0 fin (Oper.mk d (.slice t x none (some ohi) (some omx)) ty ps af g :: r) (true :: E) (b :: B) a := by
  subst hk
  refine ⟨_, fun s _ => .inl ⟨hg, q_slice3 (lo := none) hx hs.len rfl hh hm (Nat.zero_le _) (Nat.le_refl _) h2⟩, hK _ ⟨hs.sub (Nat.zero_le _) h2 (fun _ e => by cases e; exact Nat.le_refl _), ?_⟩⟩
  have hl : (xs.take h).length = h := by rw [List.length_take]; omega
  obtain ⟨A, c, rfl, _, _⟩ := hs.shape
  simp only [subV, Option.getD_some, hl, Nat.sub_zero]
  exact ⟨_, rfl⟩
end
section
variable {P : Program} {s : St} {ρ : Operand → Value} {d : Option Tmp} {ty : TypeId} {ps : String} {af : Array Edge} {g : Option (Nat × Bool)} {x y : Operand}
theorem q_shr1 {t u : TypeId} {k j : IntKind} {a : Int} (hx : ρ x = .int k a) (hy : ρ y = .int j 1) (hb : 1 ≤ k.bits) : Quiet P (Oper.mk d (.binOp .shr t x y u) ty ps af g) ρ s (.int k (a / 2)) := by
  intro K h
  have e : min (1 : Int).toNat k.bits = 1 := by rw [Int.toNat_one]; omega
  have e2 : a.fdiv (2 ^ 1) = a / 2 := Int.fdiv_eq_ediv_of_nonneg a (by decide)
  simp only [opS, execOp, hx, hy, eqGuard, Go.binOp, Op.shift, swp_bind', swp_pure, nextS, e, e2, if_neg (by decide : ¬ (1 : Int) < 0)]
  exact h
end
/-- What a search tells: a place, and that it is there. -/
def BinIs {α : Type} (l : List α) (x : α) (v : Value) : Prop := ∃ (k : Nat) (b : Bool), v = .tuple #[.int .i64 k, .bool b] ∧ k ≤ l.length ∧ (b = true → x ∈ l)
def PutIs {α : Type} (l : List α) (x : α) (ys : List α) : Prop := (ys = l ∧ x ∈ l) ∨ ∃ k : Nat, k ≤ l.length ∧ ys = l.take k ++ [x] ++ l.drop k
theorem PutIs.mem {α : Type} {l ys : List α} {x : α} (h : PutIs l x ys) (q : α) : q ∈ ys ↔ q ∈ l ∨ q = x := by
  rcases h with ⟨rfl, h⟩ | ⟨k, _, rfl⟩
  · exact ⟨.inl, fun h2 => h2.elim id (fun e => e ▸ h)⟩
  · have e : q ∈ l ↔ q ∈ l.take k ∨ q ∈ l.drop k := by rw [← List.mem_append, List.take_append_drop]
    simp only [List.mem_append, List.mem_singleton, e]
    constructor
    · rintro ((h | h) | h)
      · exact .inl (.inl h)
      · exact .inr h
      · exact .inl (.inr h)
    · rintro ((h | h) | h)
      · exact .inl (.inl h)
      · exact .inr h
      · exact .inl (.inr h)
theorem PutIs.len {α : Type} {l ys : List α} {x : α} (h : PutIs l x ys) (hn : ¬ x ∈ l) : ys.length = l.length + 1 := by
  rcases h with ⟨_, h⟩ | ⟨k, hk, rfl⟩
  · exact absurd h hn
  · simp; omega
theorem PutIs.len_le {α : Type} {l ys : List α} {x : α} (h : PutIs l x ys) : ys.length ≤ l.length + 1 := by
  rcases h with ⟨rfl, _⟩ | ⟨k, hk, rfl⟩
  · omega
  · simp; omega
section
attribute [local irreducible] Quiet OpsR Run CallS opS Gh endQ oblE RunN swp Go.Op.equalIn
theorem isNaN_Str {x : ByteArray} {s : St} : CallV Tryz.prog 84 #[.string x] s (.bool false) := by
  intro K hK
  refine callS_of_run Tryz.func84 rfl ?_; simp only [Tryz.ntmps84, List.size_toArray, List.length_cons, List.length_nil, Nat.reduceAdd, Nat.reduceSub, Array.replicate_succ, Array.replicate_zero, List.push_toArray, List.append_toArray, List.nil_append, List.cons_append]
  refine run_seq fun _ hk1 => ?_
  refine run_region ?_
  refine opsR_q rfl (q_assign) ?_
  simp only [nrm]
  refine opsR_nil ?_
  refine hk1 _ _ ?_
  clear hk1
  refine run_seq fun _ hk2 => ?_
  refine run_region ?_
  refine opsR_q rfl (q_move) ?_
  simp only [nrm]
  refine opsR_q rfl (q_move) ?_
  simp only [nrm]
  refine opsR_q rfl (q_neq_string rfl rfl) ?_
  simp only [nrm, Nat.reduceAdd, Nat.reduceMul, Nat.reduceSub, Int.reduceToNat, Int.reduceAdd]
  refine opsR_q rfl (q_assign) ?_
  simp only [nrm]
  refine opsR_nil ?_
  refine hk2 _ _ ?_
  clear hk2
  refine run_ret ?_
  first | exact end_tmp rfl rfl rfl ghA hK | exact end_tmp rfl rfl rfl ghA (eqK hK (congrArg Go.Value.bool (by simp)))
theorem cmpNaN_Str {x : ByteArray} {s : St} : CallV Tryz.prog 98 #[.string x] s (.bool false) := by
  intro K hK
  refine callS_of_run Tryz.func98 rfl ?_; simp only [Tryz.ntmps98, List.size_toArray, List.length_cons, List.length_nil, Nat.reduceAdd, Nat.reduceSub, Array.replicate_succ, Array.replicate_zero, List.push_toArray, List.append_toArray, List.nil_append, List.cons_append]
  refine run_seq fun _ hk1 => ?_
  refine run_region ?_
  refine opsR_q rfl (q_assign) ?_
  simp only [nrm]
  refine opsR_nil ?_
  refine hk1 _ _ ?_
  clear hk1
  refine run_seq fun _ hk2 => ?_
  refine run_region ?_
  refine opsR_q rfl (q_move) ?_
  simp only [nrm]
  refine opsR_q rfl (q_move) ?_
  simp only [nrm]
  refine opsR_q rfl (q_neq_string rfl rfl) ?_
  simp only [nrm, Nat.reduceAdd, Nat.reduceMul, Nat.reduceSub, Int.reduceToNat, Int.reduceAdd]
  refine opsR_q rfl (q_assign) ?_
  simp only [nrm]
  refine opsR_nil ?_
  refine hk2 _ _ ?_
  clear hk2
  refine run_ret ?_
  first | exact end_tmp rfl rfl rfl ghA hK | exact end_tmp rfl rfl rfl ghA (eqK hK (congrArg Go.Value.bool (by simp)))
theorem Less_Str {x y : ByteArray} {s : St} : CallV Tryz.prog 83 #[.string x, .string y] s (.bool (sLt x y)) := by
  intro K hK
  refine callS_of_run Tryz.func83 rfl ?_; simp only [Tryz.ntmps83, List.size_toArray, List.length_cons, List.length_nil, Nat.reduceAdd, Nat.reduceSub, Array.replicate_succ, Array.replicate_zero, List.push_toArray, List.append_toArray, List.nil_append, List.cons_append]
  refine run_seq fun _ hk1 => ?_
  refine run_region ?_
  refine opsR_q rfl (q_assign) ?_
  simp only [nrm]
  refine opsR_nil ?_
  refine hk1 _ _ ?_
  clear hk1
  refine run_seq fun _ hk2 => ?_
  refine run_region ?_
  refine opsR_q rfl (q_move) ?_
  simp only [nrm]
  refine opsR_q rfl (q_call rfl (cmpNaN_Str)) ?_
  simp only [nrm, Nat.reduceAdd, Nat.reduceMul, Nat.reduceSub, Int.reduceToNat, Int.reduceAdd]
  refine opsR_q rfl (q_move) ?_
  simp only [nrm]
  refine opsR_skip rfl ?_
  simp only [nrm, Nat.reduceAdd, Nat.reduceMul, Nat.reduceSub, Int.reduceToNat, Int.reduceAdd]
  refine opsR_skip rfl ?_
  simp only [nrm, Nat.reduceAdd, Nat.reduceMul, Nat.reduceSub, Int.reduceToNat, Int.reduceAdd]
  refine opsR_skip rfl ?_
  simp only [nrm, Nat.reduceAdd, Nat.reduceMul, Nat.reduceSub, Int.reduceToNat, Int.reduceAdd]
  refine opsR_q rfl (q_pick_f rfl) ?_
  simp only [nrm]
  refine opsR_q rfl (q_move) ?_
  simp only [nrm]
  refine opsR_q rfl (q_move) ?_
  simp only [nrm]
  refine opsR_q rfl (q_move) ?_
  simp only [nrm]
  refine opsR_q rfl (q_lss_string rfl rfl) ?_
  simp only [nrm, Nat.reduceAdd, Nat.reduceMul, Nat.reduceSub, Int.reduceToNat, Int.reduceAdd]
  refine opsR_q rfl (q_pick_f rfl) ?_
  simp only [nrm]
  refine opsR_q rfl (q_assign) ?_
  simp only [nrm]
  refine opsR_nil ?_
  refine hk2 _ _ ?_
  clear hk2
  refine run_ret ?_
  exact end_tmp rfl rfl rfl ghA hK
theorem Bin_Str {l : List ByteArray} {x : ByteArray} {v : Value} {s : St} (hl : Sl kStr s.I v l) (hb : l.length ≤ 1073741824) : CallQ Tryz.prog 73 #[v, .string x] s (BinIs l x) := by
  intro K hK
  refine callS_of_run Tryz.func73 rfl ?_; simp only [Tryz.ntmps73, List.size_toArray, List.length_cons, List.length_nil, Nat.reduceAdd, Nat.reduceSub, Array.replicate_succ, Array.replicate_zero, List.push_toArray, List.append_toArray, List.nil_append, List.cons_append]
  refine run_seq fun _ hk1 => ?_
  refine run_region ?_
  refine opsR_q rfl (q_assign) ?_
  simp only [nrm]
  refine opsR_q rfl (q_assign) ?_
  simp only [nrm]
  refine opsR_nil ?_
  refine hk1 _ _ ?_
  clear hk1
  refine run_seq fun _ hk2 => ?_
  refine run_region ?_
  refine opsR_q rfl (q_move) ?_
  simp only [nrm]
  refine opsR_q rfl (q_len_v rfl (by first | exact Sl.len (by assumption) | exact OwnS.len (by assumption) | exact SlR.len (by assumption) | assumption)) ?_
  simp only [nrm, Nat.reduceAdd, Nat.reduceMul, Nat.reduceSub, Int.reduceToNat, Int.reduceAdd]
  refine opsR_q rfl (q_assign) ?_
  simp only [nrm]
  refine opsR_nil ?_
  refine hk2 _ _ ?_
  clear hk2
  refine run_seq fun _ hk4 => ?_
  refine run_region ?_
  refine opsR_q rfl (q_move) ?_
  simp only [nrm]
  refine opsR_q rfl (q_assign) ?_
  simp only [nrm]
  refine opsR_q rfl (q_assign) ?_
  simp only [nrm]
  refine opsR_nil ?_
  refine hk4 _ _ ?_
  clear hk4
  refine run_seq fun _ hk5 => ?_
  refine run_block ?_
  refine run_loopF [0, 0, 0, 0, 0, 0, 0, 2, 2, 1, 0, 0, 0, 1, 1, 1, 1, 1, 1, 1, 1, 1, 1, 1, 1, 1, 1, 1, 1, 1, 1, 0, 0, 0, 0, 0, 0, 0, 0, 0, 0, 0, 0, 0, 0, 0, 0, 0, 0, 0, 0, 0, 0, 0] (fun zn zL zst => ∃ (i : Nat) (j : Nat), zL = [.int .i64 (i : Nat), .int .i64 (j : Nat)] ∧ s = zst ∧ zn = j - i ∧ (i ≤ j ∧ j ≤ l.length)) _ _ ⟨0, l.length, rfl, rfl, rfl, by first | assumption | omega | exact Hp.le.rfl | rfl | exact all_zero | exact all_succ (by assumption) (by assumption) | (intro _; omega) | (simp; done)⟩ rfl ?_
  rintro _ _ _ jv6 ⟨i, j, rfl, rfl, rfl, hij⟩ K6 hkl6
  simp only [fr, Nat.zero_add, Nat.reduceAdd]
  obtain ⟨m, hm⟩ : ∃ m : Nat, ((i : Int) + j) / 2 = m := ⟨(((i : Int) + j) / 2).toNat, by omega⟩
  refine run_seq fun _ hk7 => ?_
  refine run_seq fun _ hk8 => ?_
  refine run_region ?_
  refine opsR_q rfl (q_move) ?_
  simp only [nrm]
  refine opsR_q rfl (q_move) ?_
  simp only [nrm]
  refine opsR_q rfl (q_lss rfl rfl) ?_
  simp only [nrm, Nat.reduceAdd, Nat.reduceMul, Nat.reduceSub, Int.reduceToNat, Int.reduceAdd]
  refine opsR_nil ?_
  refine hk8 _ _ ?_
  clear hk8
  refine run_cond rfl (fun ho11 => ?_) (fun ho11 => ?_)
  · have hc11 := ho11; try simp only [spl] at hc11
    refine run_skip ?_
    refine hk7 _ _ ?_
    clear hk7
    refine run_block ?_
    refine run_seq fun _ hk12 => ?_
    refine run_region ?_
    refine opsR_q rfl (q_move) ?_
    simp only [nrm]
    refine opsR_q rfl (q_move) ?_
    simp only [nrm]
    refine opsR_q rfl (by first | exact q_add64 rfl rfl (by omega) (by omega) | exact q_add rfl rfl) ?_
    simp only [nrm, Nat.reduceAdd, Nat.reduceMul, Nat.reduceSub, Int.reduceToNat, Int.reduceAdd]
    refine opsR_q rfl (q_conv_int_int rfl) ?_
    simp only [nrm, Nat.reduceAdd, Nat.reduceMul, Nat.reduceSub, Int.reduceToNat, Int.reduceAdd]
    rw [wrap_u64_id (by omega) (by omega)]
    refine opsR_q rfl (q_shr1 rfl rfl (by decide)) ?_
    simp only [nrm, Nat.reduceAdd, Nat.reduceMul, Nat.reduceSub, Int.reduceToNat, Int.reduceAdd]
    refine opsR_q rfl (q_conv_int_int rfl) ?_
    simp only [nrm, Nat.reduceAdd, Nat.reduceMul, Nat.reduceSub, Int.reduceToNat, Int.reduceAdd]
    rw [wrap_i64_id (by omega) (by omega), hm]
    refine opsR_q rfl (q_assign) ?_
    simp only [nrm]
    refine opsR_nil ?_
    refine hk12 _ _ ?_
    clear hk12
    refine run_seq fun _ hk15 => ?_
    refine run_region ?_
    refine opsR_q rfl (q_move) ?_
    simp only [nrm]
    refine opsR_q rfl (q_move) ?_
    simp only [nrm]
    refine opsR_index rfl rfl rfl slrA (by rfl) idxA idxA fun b17 o17 cs17 ha17 hr17 he17 => ?_
    simp only [nrm, Nat.reduceAdd, Nat.reduceMul, Nat.reduceSub, Int.reduceToNat, Int.reduceAdd]
    try simp only [Int.toNat_natCast, Int.reduceToNat, Int.toNat_zero] at hr17
    try simp only [Int.toNat_natCast, Int.reduceToNat, Int.toNat_zero] at he17
    clear ha17
    obtain rfl := hr17
    refine opsR_q rfl (by first | exact q_load_at1 (i := 0) rfl (by first | assumption | exact El.mono (by assumption) leA) rfl (Nat.le_of_ble_eq_true rfl) rfl | exact q_load_at1 rfl (by first | assumption | exact El.mono (by assumption) leA) rfl (Nat.le_of_ble_eq_true rfl) rfl) ?_
    simp only [nrm, Nat.reduceAdd, Nat.reduceMul, Nat.reduceSub, Int.reduceToNat, Int.reduceAdd]
    refine opsR_q rfl (q_move) ?_
    simp only [nrm]
    refine opsR_q rfl (q_call rfl (Less_Str)) ?_
    simp only [nrm, Nat.reduceAdd, Nat.reduceMul, Nat.reduceSub, Int.reduceToNat, Int.reduceAdd]
    refine opsR_nil ?_
    refine hk15 _ _ ?_
    clear hk15
    refine run_cond rfl (fun ho19 => ?_) (fun ho19 => ?_)
    · have hc19 := ho19; try simp only [spl] at hc19
      refine run_region ?_
      refine opsR_q rfl (q_move) ?_
      simp only [nrm]
      refine opsR_q rfl (by first | exact q_add64 rfl rfl (by omega) (by omega) | exact q_add rfl rfl) ?_
      simp only [nrm, Nat.reduceAdd, Nat.reduceMul, Nat.reduceSub, Int.reduceToNat, Int.reduceAdd]
      refine opsR_q rfl (q_assign) ?_
      simp only [nrm]
      refine opsR_nil ?_
      first
      | exact hkl6 _ _ _ _ (by omega) ⟨m + 1, j, rfl, rfl, rfl, by omega⟩ rfl
      | exact hkl6 _ _ _ _ (by omega) ⟨i, m, rfl, rfl, rfl, by omega⟩ rfl
    · have hc19 := ho19; try simp only [spl] at hc19
      refine run_region ?_
      refine opsR_q rfl (q_move) ?_
      simp only [nrm]
      refine opsR_q rfl (q_assign) ?_
      simp only [nrm]
      refine opsR_nil ?_
      first
      | exact hkl6 _ _ _ _ (by omega) ⟨m + 1, j, rfl, rfl, rfl, by omega⟩ rfl
      | exact hkl6 _ _ _ _ (by omega) ⟨i, m, rfl, rfl, rfl, by omega⟩ rfl
  · have hc11 := ho11; try simp only [spl] at hc11
    refine run_exit ?_
    refine hk5 _ _ ?_
    clear hk5
    refine run_seq fun _ hk20 => ?_
    refine run_region ?_
    refine opsR_q rfl (q_move) ?_
    simp only [nrm]
    refine opsR_q rfl (q_move) ?_
    simp only [nrm]
    refine opsR_q rfl (q_move) ?_
    simp only [nrm]
    refine opsR_q rfl (q_lss rfl rfl) ?_
    simp only [nrm, Nat.reduceAdd, Nat.reduceMul, Nat.reduceSub, Int.reduceToNat, Int.reduceAdd]
    refine opsR_qb rfl (q_move) (fun hc22 => ?_) (fun hc22 => ?_)
    · have ho22 := hc22; try simp only [spl] at hc22
      simp only [nrm, Nat.reduceAdd, Nat.reduceMul, Nat.reduceSub, Int.reduceToNat, Int.reduceAdd]
      refine opsR_q rfl (q_move) ?_
      simp only [nrm]
      refine opsR_q rfl (q_move) ?_
      simp only [nrm]
      refine opsR_index rfl rfl rfl slrA (by rfl) idxA idxA fun b24 o24 cs24 ha24 hr24 he24 => ?_
      simp only [nrm, Nat.reduceAdd, Nat.reduceMul, Nat.reduceSub, Int.reduceToNat, Int.reduceAdd]
      try simp only [Int.toNat_natCast, Int.reduceToNat, Int.toNat_zero] at hr24
      try simp only [Int.toNat_natCast, Int.reduceToNat, Int.toNat_zero] at he24
      clear ha24
      obtain rfl := hr24
      refine opsR_q rfl (by first | exact q_load_at1 (i := 0) rfl (by first | assumption | exact El.mono (by assumption) leA) rfl (Nat.le_of_ble_eq_true rfl) rfl | exact q_load_at1 rfl (by first | assumption | exact El.mono (by assumption) leA) rfl (Nat.le_of_ble_eq_true rfl) rfl) ?_
      simp only [nrm, Nat.reduceAdd, Nat.reduceMul, Nat.reduceSub, Int.reduceToNat, Int.reduceAdd]
      refine opsR_q rfl (q_move) ?_
      simp only [nrm]
      refine opsR_q rfl (q_eql_string rfl rfl) ?_
      simp only [nrm, Nat.reduceAdd, Nat.reduceMul, Nat.reduceSub, Int.reduceToNat, Int.reduceAdd]
      refine opsR_qb rfl (q_move) (fun hc26 => ?_) (fun hc26 => ?_)
      · have ho26 := hc26; try simp only [spl] at hc26
        simp only [nrm, Nat.reduceAdd, Nat.reduceMul, Nat.reduceSub, Int.reduceToNat, Int.reduceAdd]
        refine opsR_skip rfl ?_
        simp only [nrm, Nat.reduceAdd, Nat.reduceMul, Nat.reduceSub, Int.reduceToNat, Int.reduceAdd]
        refine opsR_skip rfl ?_
        simp only [nrm, Nat.reduceAdd, Nat.reduceMul, Nat.reduceSub, Int.reduceToNat, Int.reduceAdd]
        refine opsR_skip rfl ?_
        simp only [nrm, Nat.reduceAdd, Nat.reduceMul, Nat.reduceSub, Int.reduceToNat, Int.reduceAdd]
        refine opsR_skip rfl ?_
        simp only [nrm, Nat.reduceAdd, Nat.reduceMul, Nat.reduceSub, Int.reduceToNat, Int.reduceAdd]
        refine opsR_skip rfl ?_
        simp only [nrm, Nat.reduceAdd, Nat.reduceMul, Nat.reduceSub, Int.reduceToNat, Int.reduceAdd]
        refine opsR_skip rfl ?_
        simp only [nrm, Nat.reduceAdd, Nat.reduceMul, Nat.reduceSub, Int.reduceToNat, Int.reduceAdd]
        refine opsR_skip rfl ?_
        simp only [nrm, Nat.reduceAdd, Nat.reduceMul, Nat.reduceSub, Int.reduceToNat, Int.reduceAdd]
        refine opsR_skip rfl ?_
        simp only [nrm, Nat.reduceAdd, Nat.reduceMul, Nat.reduceSub, Int.reduceToNat, Int.reduceAdd]
        refine opsR_skip rfl ?_
        simp only [nrm, Nat.reduceAdd, Nat.reduceMul, Nat.reduceSub, Int.reduceToNat, Int.reduceAdd]
        refine opsR_q rfl (q_pick_t rfl) ?_
        simp only [nrm]
        refine opsR_q rfl (q_pick_t rfl) ?_
        simp only [nrm]
        refine opsR_q rfl (q_assign) ?_
        simp only [nrm]
        refine opsR_q rfl (q_assign) ?_
        simp only [nrm]
        refine opsR_nil ?_
        refine hk20 _ _ ?_
        clear hk20
        refine run_ret ?_
        first | exact end_tmp2 rfl rfl rfl rfl ghA (hK _ ⟨i, false, rfl, by omega, fun h => nomatch h⟩) | exact end_tmp2 rfl rfl rfl rfl ghA (hK _ ⟨i, _, rfl, by omega, fun h => by first | exact (by assumption : l[i]! = x) ▸ mem_get! (by omega) | exact (of_decide_eq_true h : l[i]! = x) ▸ mem_get! (by omega)⟩)
      · have ho26 := hc26; try simp only [spl] at hc26
        simp only [nrm, Nat.reduceAdd, Nat.reduceMul, Nat.reduceSub, Int.reduceToNat, Int.reduceAdd]
        refine opsR_q rfl (q_move) ?_
        simp only [nrm]
        refine opsR_q rfl (q_move) ?_
        simp only [nrm]
        refine opsR_index rfl rfl rfl slrA (by rfl) idxA idxA fun b27 o27 cs27 ha27 hr27 he27 => ?_
        simp only [nrm, Nat.reduceAdd, Nat.reduceMul, Nat.reduceSub, Int.reduceToNat, Int.reduceAdd]
        try simp only [Int.toNat_natCast, Int.reduceToNat, Int.toNat_zero] at hr27
        try simp only [Int.toNat_natCast, Int.reduceToNat, Int.toNat_zero] at he27
        clear ha27
        obtain rfl := hr27
        refine opsR_q rfl (by first | exact q_load_at1 (i := 0) rfl (by first | assumption | exact El.mono (by assumption) leA) rfl (Nat.le_of_ble_eq_true rfl) rfl | exact q_load_at1 rfl (by first | assumption | exact El.mono (by assumption) leA) rfl (Nat.le_of_ble_eq_true rfl) rfl) ?_
        simp only [nrm, Nat.reduceAdd, Nat.reduceMul, Nat.reduceSub, Int.reduceToNat, Int.reduceAdd]
        refine opsR_q rfl (q_call rfl (isNaN_Str)) ?_
        simp only [nrm, Nat.reduceAdd, Nat.reduceMul, Nat.reduceSub, Int.reduceToNat, Int.reduceAdd]
        refine opsR_q rfl (q_move) ?_
        simp only [nrm]
        refine opsR_skip rfl ?_
        simp only [nrm, Nat.reduceAdd, Nat.reduceMul, Nat.reduceSub, Int.reduceToNat, Int.reduceAdd]
        refine opsR_skip rfl ?_
        simp only [nrm, Nat.reduceAdd, Nat.reduceMul, Nat.reduceSub, Int.reduceToNat, Int.reduceAdd]
        refine opsR_q rfl (q_pick_f rfl) ?_
        simp only [nrm]
        refine opsR_q rfl (q_pick_f rfl) ?_
        simp only [nrm]
        refine opsR_q rfl (q_pick_t rfl) ?_
        simp only [nrm]
        refine opsR_q rfl (q_assign) ?_
        simp only [nrm]
        refine opsR_q rfl (q_assign) ?_
        simp only [nrm]
        refine opsR_nil ?_
        refine hk20 _ _ ?_
        clear hk20
        refine run_ret ?_
        first | exact end_tmp2 rfl rfl rfl rfl ghA (hK _ ⟨i, false, rfl, by omega, fun h => nomatch h⟩) | exact end_tmp2 rfl rfl rfl rfl ghA (hK _ ⟨i, _, rfl, by omega, fun h => by first | exact (by assumption : l[i]! = x) ▸ mem_get! (by omega) | exact (of_decide_eq_true h : l[i]! = x) ▸ mem_get! (by omega)⟩)
    · have ho22 := hc22; try simp only [spl] at hc22
      simp only [nrm, Nat.reduceAdd, Nat.reduceMul, Nat.reduceSub, Int.reduceToNat, Int.reduceAdd]
      refine opsR_skip rfl ?_
      simp only [nrm, Nat.reduceAdd, Nat.reduceMul, Nat.reduceSub, Int.reduceToNat, Int.reduceAdd]
      refine opsR_skip rfl ?_
      simp only [nrm, Nat.reduceAdd, Nat.reduceMul, Nat.reduceSub, Int.reduceToNat, Int.reduceAdd]
      refine opsR_skip rfl ?_
      simp only [nrm, Nat.reduceAdd, Nat.reduceMul, Nat.reduceSub, Int.reduceToNat, Int.reduceAdd]
      refine opsR_skip rfl ?_
      simp only [nrm, Nat.reduceAdd, Nat.reduceMul, Nat.reduceSub, Int.reduceToNat, Int.reduceAdd]
      refine opsR_skip rfl ?_
      simp only [nrm, Nat.reduceAdd, Nat.reduceMul, Nat.reduceSub, Int.reduceToNat, Int.reduceAdd]
      refine opsR_skip rfl ?_
      simp only [nrm, Nat.reduceAdd, Nat.reduceMul, Nat.reduceSub, Int.reduceToNat, Int.reduceAdd]
      refine opsR_skip rfl ?_
      simp only [nrm, Nat.reduceAdd, Nat.reduceMul, Nat.reduceSub, Int.reduceToNat, Int.reduceAdd]
      refine opsR_skip rfl ?_
      simp only [nrm, Nat.reduceAdd, Nat.reduceMul, Nat.reduceSub, Int.reduceToNat, Int.reduceAdd]
      refine opsR_skip rfl ?_
      simp only [nrm, Nat.reduceAdd, Nat.reduceMul, Nat.reduceSub, Int.reduceToNat, Int.reduceAdd]
      refine opsR_skip rfl ?_
      simp only [nrm, Nat.reduceAdd, Nat.reduceMul, Nat.reduceSub, Int.reduceToNat, Int.reduceAdd]
      refine opsR_skip rfl ?_
      simp only [nrm, Nat.reduceAdd, Nat.reduceMul, Nat.reduceSub, Int.reduceToNat, Int.reduceAdd]
      refine opsR_skip rfl ?_
      simp only [nrm, Nat.reduceAdd, Nat.reduceMul, Nat.reduceSub, Int.reduceToNat, Int.reduceAdd]
      refine opsR_skip rfl ?_
      simp only [nrm, Nat.reduceAdd, Nat.reduceMul, Nat.reduceSub, Int.reduceToNat, Int.reduceAdd]
      refine opsR_skip rfl ?_
      simp only [nrm, Nat.reduceAdd, Nat.reduceMul, Nat.reduceSub, Int.reduceToNat, Int.reduceAdd]
      refine opsR_skip rfl ?_
      simp only [nrm, Nat.reduceAdd, Nat.reduceMul, Nat.reduceSub, Int.reduceToNat, Int.reduceAdd]
      refine opsR_skip rfl ?_
      simp only [nrm, Nat.reduceAdd, Nat.reduceMul, Nat.reduceSub, Int.reduceToNat, Int.reduceAdd]
      refine opsR_skip rfl ?_
      simp only [nrm, Nat.reduceAdd, Nat.reduceMul, Nat.reduceSub, Int.reduceToNat, Int.reduceAdd]
      refine opsR_q rfl (q_pick_f rfl) ?_
      simp only [nrm]
      refine opsR_q rfl (q_assign) ?_
      simp only [nrm]
      refine opsR_q rfl (q_assign) ?_
      simp only [nrm]
      refine opsR_nil ?_
      refine hk20 _ _ ?_
      clear hk20
      refine run_ret ?_
      first | exact end_tmp2 rfl rfl rfl rfl ghA (hK _ ⟨i, false, rfl, by omega, fun h => nomatch h⟩) | exact end_tmp2 rfl rfl rfl rfl ghA (hK _ ⟨i, _, rfl, by omega, fun h => by first | exact (by assumption : l[i]! = x) ▸ mem_get! (by omega) | exact (of_decide_eq_true h : l[i]! = x) ▸ mem_get! (by omega)⟩)
/-- A list with one more, if it is not there. -/
theorem put_Str {l : List ByteArray} {x : ByteArray} {v : Value} {s : St} (hl : Sl kStr s.I v l) (hb : l.length ≤ 1000000000) : CallR Tryz.prog 57 #[v, .string x] s (fun J w => ∃ ys, Sl kStr J w ys ∧ PutIs l x ys) := by
  intro K hK
  refine callS_of_run Tryz.func57 rfl ?_; simp only [Tryz.ntmps57, List.size_toArray, List.length_cons, List.length_nil, Nat.reduceAdd, Nat.reduceSub, Array.replicate_succ, Array.replicate_zero, List.push_toArray, List.append_toArray, List.nil_append, List.cons_append]
  refine run_seq fun _ hk1 => ?_
  refine run_region ?_
  refine opsR_q rfl (q_assign) ?_
  simp only [nrm]
  refine opsR_nil ?_
  refine hk1 _ _ ?_
  clear hk1
  refine run_seq fun _ hk2 => ?_
  refine run_region ?_
  refine opsR_q rfl (q_move) ?_
  simp only [nrm]
  refine opsR_q rfl (q_move) ?_
  simp only [nrm]
  refine opsR_o rfl (o_call rfl (Bin_Str (by first | assumption | (refine Sl.mono ?_ (by assumption); exact leA)) (by omega) _ fun vB hvB => ?_))
  simp only [nrm, Nat.reduceAdd, Nat.reduceMul, Nat.reduceSub, Int.reduceToNat, Int.reduceAdd]
  obtain ⟨k, is, rfl, hk, hm⟩ := hvB
  refine opsR_q rfl (q_move) ?_
  simp only [nrm]
  refine opsR_q rfl (q_extract rfl rfl) ?_
  simp only [nrm]
  refine opsR_q rfl (q_extract rfl rfl) ?_
  simp only [nrm]
  refine opsR_q rfl (q_assign) ?_
  simp only [nrm]
  refine opsR_q rfl (q_assign) ?_
  simp only [nrm]
  refine opsR_nil ?_
  refine hk2 _ _ ?_
  clear hk2
  refine run_seq fun _ hk7 => ?_
  refine run_seq fun _ hk8 => ?_
  refine run_region ?_
  refine opsR_q rfl (q_move) ?_
  simp only [nrm]
  refine opsR_nil ?_
  refine hk8 _ _ ?_
  clear hk8
  refine run_cond rfl (fun ho9 => ?_) (fun ho9 => ?_)
  · have hc9 := ho9; try simp only [spl] at hc9
    refine run_seq fun _ hk10 => ?_
    refine run_region ?_
    refine opsR_q rfl (q_move) ?_
    simp only [nrm]
    refine opsR_q rfl (q_assign) ?_
    simp only [nrm]
    refine opsR_nil ?_
    refine hk10 _ _ ?_
    clear hk10
    refine run_ret ?_
    exact end_tmp rfl rfl rfl ghA (hK _ _ .rfl ⟨l, hl, .inl ⟨rfl, hm (by assumption)⟩⟩)
  · have hc9 := ho9; try simp only [spl] at hc9
    refine run_skip ?_
    refine hk7 _ _ ?_
    clear hk7
    refine run_seq fun _ hk11 => ?_
    refine run_mixL mixed [true, true, true, true, true, false, false, true, true, true, false, false] [false, false, false, false, true, false, false, false, false, false, false, false] [5, 6, 10, 11] (fun _ => True) (by kernel_rfl) rfl trivial ?_
    refine oblK_k rfl (fun z hz => (q_move)) ?_
    simp only [nrm, Nat.reduceAdd, Nat.reduceMul, Nat.reduceSub, Int.reduceToNat, Int.reduceAdd]
    refine oblK_k rfl (fun z hz => (q_move)) ?_
    simp only [nrm, Nat.reduceAdd, Nat.reduceMul, Nat.reduceSub, Int.reduceToNat, Int.reduceAdd]
    refine oblK_k rfl (fun z hz => (q_move)) ?_
    simp only [nrm, Nat.reduceAdd, Nat.reduceMul, Nat.reduceSub, Int.reduceToNat, Int.reduceAdd]
    refine oblK_cutF rfl rfl (by assumption) ⟨_, _, rfl, idxA, rfl⟩ ⟨_, _, rfl, idxA, rfl⟩ (by rfl) idxA fun v12 hv12 => ?_
    simp only [nrm, Nat.reduceAdd, Nat.reduceMul, Nat.reduceSub, Int.reduceToNat, Int.reduceAdd]
    try simp only [Int.toNat_natCast, Int.reduceToNat, Int.toNat_zero] at hv12
    refine oblK_b rfl (q_move) ?_
    simp only [nrm, Nat.reduceAdd, Nat.reduceMul, Nat.reduceSub, Int.reduceToNat, Int.reduceAdd]
    refine oblK_r ?_
    refine oblK_r ?_
    refine oblK_k rfl (fun z hz => (q_move)) ?_
    simp only [nrm, Nat.reduceAdd, Nat.reduceMul, Nat.reduceSub, Int.reduceToNat, Int.reduceAdd]
    refine oblK_k rfl (fun z hz => (q_move)) ?_
    simp only [nrm, Nat.reduceAdd, Nat.reduceMul, Nat.reduceSub, Int.reduceToNat, Int.reduceAdd]
    refine oblK_cut rfl rfl (by assumption) ⟨_, _, rfl, idxA, rfl⟩ rfl (by rfl) idxA idxA fun v13 hv13 => ?_
    simp only [nrm, Nat.reduceAdd, Nat.reduceMul, Nat.reduceSub, Int.reduceToNat, Int.reduceAdd]
    try simp only [Int.toNat_natCast, Int.reduceToNat, Int.toNat_zero] at hv13
    refine oblK_r ?_
    refine oblK_r ?_
    refine oblK_nil ?_
    refine restK_pick [5] (by kernel_rfl) ⟨?_, trivial⟩
    refine restK_op rfl ?_
    simp only [List.getElem_toArray, List.getElem_cons_zero, List.getElem_cons_succ]
    refine opsR_slice1 kStr rfl rfl (by rfl) (by decide) (by decide) (by rfl) (by first | rfl | assumption | exact kStr.shut | (refine Kd.mono _ ?_ (by assumption); exact leA) | (apply kStr.shut <;> assumption)) fun v14 hs14 hv14 => ?_
    simp only [nrm, Nat.reduceAdd, Nat.reduceMul, Nat.reduceSub, Int.reduceToNat, Int.reduceAdd]
    refine opsR_nil ⟨rfl, rfl, trivial, ?_⟩
    refine restK_pick [6] (by kernel_rfl) ⟨?_, trivial⟩
    refine restK_op rfl ?_
    simp only [List.getElem_toArray, List.getElem_cons_zero, List.getElem_cons_succ]
    refine opsR_appF rfl rfl rfl (by assumption) slrA (by rfl) (by rfl) rfl rfl (by first | decide | simp) idxA fun v15 hs15 hv15 => ?_
    simp only [nrm, Nat.reduceAdd, Nat.reduceMul, Nat.reduceSub, Int.reduceToNat, Int.reduceAdd]
    refine opsR_dropS (hs := hs14) ?_
    try simp only [nrm, Nat.reduceAdd, Nat.reduceMul, Nat.reduceSub, Int.reduceToNat, Int.reduceAdd]
    refine opsR_nil ⟨rfl, rfl, trivial, ?_⟩
    refine restK_pick [10] (by kernel_rfl) ⟨?_, trivial⟩
    refine restK_op rfl ?_
    simp only [List.getElem_toArray, List.getElem_cons_zero, List.getElem_cons_succ]
    refine opsR_app rfl rfl rfl (by first | assumption | (refine OwnS.mono ?_ (by assumption); exact leA)) (by infer_instance) slrA (by rfl) (by rfl) rfl rfl idxA fun vZ hsZ hvZ => ?_
    simp only [nrm, Nat.reduceAdd, Nat.reduceMul, Nat.reduceSub, Int.reduceToNat, Int.reduceAdd]
    simp only [List.take_length] at hvZ; refine opsR_fz hvZ (by infer_instance) fun JFZ hJFZ hvZ => ?_; try dsimp only at hJFZ; try (have hrFZ : Hp.le s.I JFZ := (by exact leA); have hJFZ := hJFZ); try simp only [nrm, Nat.reduceAdd, Nat.reduceMul, Nat.reduceSub, Int.reduceToNat, Int.reduceAdd]
    refine opsR_nil ⟨rfl, rfl, trivial, ?_⟩
    refine restK_pick [11] (by kernel_rfl) ⟨?_, trivial⟩
    refine restK_op rfl ?_
    simp only [List.getElem_toArray, List.getElem_cons_zero, List.getElem_cons_succ]
    refine opsR_q rfl (q_assign) ?_
    simp only [nrm]
    refine opsR_nil ⟨rfl, rfl, trivial, ?_⟩
    refine restK_end rfl ?_
    try simp only [nrm, Nat.reduceAdd, Nat.reduceMul, Nat.reduceSub, Int.reduceToNat, Int.reduceAdd]
    refine hk11 _ _ ?_
    clear hk11
    refine run_ret ?_
    exact end_tmp rfl rfl rfl ghA (hK _ _ leA ⟨_, hvZ, .inr ⟨k, hk, rfl⟩⟩)
theorem isNaN_Int {x : Int} {s : St} : CallV Tryz.prog 86 #[.int .i64 x] s (.bool false) := by
  intro K hK
  refine callS_of_run Tryz.func86 rfl ?_; simp only [Tryz.ntmps86, List.size_toArray, List.length_cons, List.length_nil, Nat.reduceAdd, Nat.reduceSub, Array.replicate_succ, Array.replicate_zero, List.push_toArray, List.append_toArray, List.nil_append, List.cons_append]
  refine run_seq fun _ hk1 => ?_
  refine run_region ?_
  refine opsR_q rfl (q_assign) ?_
  simp only [nrm]
  refine opsR_nil ?_
  refine hk1 _ _ ?_
  clear hk1
  refine run_seq fun _ hk2 => ?_
  refine run_region ?_
  refine opsR_q rfl (q_move) ?_
  simp only [nrm]
  refine opsR_q rfl (q_move) ?_
  simp only [nrm]
  refine opsR_q rfl (q_neq rfl rfl) ?_
  simp only [nrm, Nat.reduceAdd, Nat.reduceMul, Nat.reduceSub, Int.reduceToNat, Int.reduceAdd]
  refine opsR_q rfl (q_assign) ?_
  simp only [nrm]
  refine opsR_nil ?_
  refine hk2 _ _ ?_
  clear hk2
  refine run_ret ?_
  first | exact end_tmp rfl rfl rfl ghA hK | exact end_tmp rfl rfl rfl ghA (eqK hK (congrArg Go.Value.bool (by simp)))
theorem cmpNaN_Int {x : Int} {s : St} : CallV Tryz.prog 99 #[.int .i64 x] s (.bool false) := by
  intro K hK
  refine callS_of_run Tryz.func99 rfl ?_; simp only [Tryz.ntmps99, List.size_toArray, List.length_cons, List.length_nil, Nat.reduceAdd, Nat.reduceSub, Array.replicate_succ, Array.replicate_zero, List.push_toArray, List.append_toArray, List.nil_append, List.cons_append]
  refine run_seq fun _ hk1 => ?_
  refine run_region ?_
  refine opsR_q rfl (q_assign) ?_
  simp only [nrm]
  refine opsR_nil ?_
  refine hk1 _ _ ?_
  clear hk1
  refine run_seq fun _ hk2 => ?_
  refine run_region ?_
  refine opsR_q rfl (q_move) ?_
  simp only [nrm]
  refine opsR_q rfl (q_move) ?_
  simp only [nrm]
  refine opsR_q rfl (q_neq rfl rfl) ?_
  simp only [nrm, Nat.reduceAdd, Nat.reduceMul, Nat.reduceSub, Int.reduceToNat, Int.reduceAdd]
  refine opsR_q rfl (q_assign) ?_
  simp only [nrm]
  refine opsR_nil ?_
  refine hk2 _ _ ?_
  clear hk2
  refine run_ret ?_
  first | exact end_tmp rfl rfl rfl ghA hK | exact end_tmp rfl rfl rfl ghA (eqK hK (congrArg Go.Value.bool (by simp)))
theorem Less_Int {x y : Int} {s : St} : CallV Tryz.prog 85 #[.int .i64 x, .int .i64 y] s (.bool (decide (x < y))) := by
  intro K hK
  refine callS_of_run Tryz.func85 rfl ?_; simp only [Tryz.ntmps85, List.size_toArray, List.length_cons, List.length_nil, Nat.reduceAdd, Nat.reduceSub, Array.replicate_succ, Array.replicate_zero, List.push_toArray, List.append_toArray, List.nil_append, List.cons_append]
  refine run_seq fun _ hk1 => ?_
  refine run_region ?_
  refine opsR_q rfl (q_assign) ?_
  simp only [nrm]
  refine opsR_nil ?_
  refine hk1 _ _ ?_
  clear hk1
  refine run_seq fun _ hk2 => ?_
  refine run_region ?_
  refine opsR_q rfl (q_move) ?_
  simp only [nrm]
  refine opsR_q rfl (q_call rfl (cmpNaN_Int)) ?_
  simp only [nrm, Nat.reduceAdd, Nat.reduceMul, Nat.reduceSub, Int.reduceToNat, Int.reduceAdd]
  refine opsR_q rfl (q_move) ?_
  simp only [nrm]
  refine opsR_skip rfl ?_
  simp only [nrm, Nat.reduceAdd, Nat.reduceMul, Nat.reduceSub, Int.reduceToNat, Int.reduceAdd]
  refine opsR_skip rfl ?_
  simp only [nrm, Nat.reduceAdd, Nat.reduceMul, Nat.reduceSub, Int.reduceToNat, Int.reduceAdd]
  refine opsR_skip rfl ?_
  simp only [nrm, Nat.reduceAdd, Nat.reduceMul, Nat.reduceSub, Int.reduceToNat, Int.reduceAdd]
  refine opsR_q rfl (q_pick_f rfl) ?_
  simp only [nrm]
  refine opsR_q rfl (q_move) ?_
  simp only [nrm]
  refine opsR_q rfl (q_move) ?_
  simp only [nrm]
  refine opsR_q rfl (q_move) ?_
  simp only [nrm]
  refine opsR_q rfl (q_lss rfl rfl) ?_
  simp only [nrm, Nat.reduceAdd, Nat.reduceMul, Nat.reduceSub, Int.reduceToNat, Int.reduceAdd]
  refine opsR_q rfl (q_pick_f rfl) ?_
  simp only [nrm]
  refine opsR_q rfl (q_assign) ?_
  simp only [nrm]
  refine opsR_nil ?_
  refine hk2 _ _ ?_
  clear hk2
  refine run_ret ?_
  exact end_tmp rfl rfl rfl ghA hK
theorem Bin_Int {l : List Int} {x : Int} {v : Value} {s : St} (hl : Sl (kInt .i64) s.I v l) (hb : l.length ≤ 1073741824) : CallQ Tryz.prog 74 #[v, .int .i64 x] s (BinIs l x) := by
  intro K hK
  refine callS_of_run Tryz.func74 rfl ?_; simp only [Tryz.ntmps74, List.size_toArray, List.length_cons, List.length_nil, Nat.reduceAdd, Nat.reduceSub, Array.replicate_succ, Array.replicate_zero, List.push_toArray, List.append_toArray, List.nil_append, List.cons_append]
  refine run_seq fun _ hk1 => ?_
  refine run_region ?_
  refine opsR_q rfl (q_assign) ?_
  simp only [nrm]
  refine opsR_q rfl (q_assign) ?_
  simp only [nrm]
  refine opsR_nil ?_
  refine hk1 _ _ ?_
  clear hk1
  refine run_seq fun _ hk2 => ?_
  refine run_region ?_
  refine opsR_q rfl (q_move) ?_
  simp only [nrm]
  refine opsR_q rfl (q_len_v rfl (by first | exact Sl.len (by assumption) | exact OwnS.len (by assumption) | exact SlR.len (by assumption) | assumption)) ?_
  simp only [nrm, Nat.reduceAdd, Nat.reduceMul, Nat.reduceSub, Int.reduceToNat, Int.reduceAdd]
  refine opsR_q rfl (q_assign) ?_
  simp only [nrm]
  refine opsR_nil ?_
  refine hk2 _ _ ?_
  clear hk2
  refine run_seq fun _ hk4 => ?_
  refine run_region ?_
  refine opsR_q rfl (q_move) ?_
  simp only [nrm]
  refine opsR_q rfl (q_assign) ?_
  simp only [nrm]
  refine opsR_q rfl (q_assign) ?_
  simp only [nrm]
  refine opsR_nil ?_
  refine hk4 _ _ ?_
  clear hk4
  refine run_seq fun _ hk5 => ?_
  refine run_block ?_
  refine run_loopF [0, 0, 0, 0, 0, 0, 0, 2, 2, 1, 0, 0, 0, 1, 1, 1, 1, 1, 1, 1, 1, 1, 1, 1, 1, 1, 1, 1, 1, 1, 1, 0, 0, 0, 0, 0, 0, 0, 0, 0, 0, 0, 0, 0, 0, 0, 0, 0, 0, 0, 0, 0, 0, 0] (fun zn zL zst => ∃ (i : Nat) (j : Nat), zL = [.int .i64 (i : Nat), .int .i64 (j : Nat)] ∧ s = zst ∧ zn = j - i ∧ (i ≤ j ∧ j ≤ l.length)) _ _ ⟨0, l.length, rfl, rfl, rfl, by first | assumption | omega | exact Hp.le.rfl | rfl | exact all_zero | exact all_succ (by assumption) (by assumption) | (intro _; omega) | (simp; done)⟩ rfl ?_
  rintro _ _ _ jv6 ⟨i, j, rfl, rfl, rfl, hij⟩ K6 hkl6
  simp only [fr, Nat.zero_add, Nat.reduceAdd]
  obtain ⟨m, hm⟩ : ∃ m : Nat, ((i : Int) + j) / 2 = m := ⟨(((i : Int) + j) / 2).toNat, by omega⟩
  refine run_seq fun _ hk7 => ?_
  refine run_seq fun _ hk8 => ?_
  refine run_region ?_
  refine opsR_q rfl (q_move) ?_
  simp only [nrm]
  refine opsR_q rfl (q_move) ?_
  simp only [nrm]
  refine opsR_q rfl (q_lss rfl rfl) ?_
  simp only [nrm, Nat.reduceAdd, Nat.reduceMul, Nat.reduceSub, Int.reduceToNat, Int.reduceAdd]
  refine opsR_nil ?_
  refine hk8 _ _ ?_
  clear hk8
  refine run_cond rfl (fun ho11 => ?_) (fun ho11 => ?_)
  · have hc11 := ho11; try simp only [spl] at hc11
    refine run_skip ?_
    refine hk7 _ _ ?_
    clear hk7
    refine run_block ?_
    refine run_seq fun _ hk12 => ?_
    refine run_region ?_
    refine opsR_q rfl (q_move) ?_
    simp only [nrm]
    refine opsR_q rfl (q_move) ?_
    simp only [nrm]
    refine opsR_q rfl (by first | exact q_add64 rfl rfl (by omega) (by omega) | exact q_add rfl rfl) ?_
    simp only [nrm, Nat.reduceAdd, Nat.reduceMul, Nat.reduceSub, Int.reduceToNat, Int.reduceAdd]
    refine opsR_q rfl (q_conv_int_int rfl) ?_
    simp only [nrm, Nat.reduceAdd, Nat.reduceMul, Nat.reduceSub, Int.reduceToNat, Int.reduceAdd]
    rw [wrap_u64_id (by omega) (by omega)]
    refine opsR_q rfl (q_shr1 rfl rfl (by decide)) ?_
    simp only [nrm, Nat.reduceAdd, Nat.reduceMul, Nat.reduceSub, Int.reduceToNat, Int.reduceAdd]
    refine opsR_q rfl (q_conv_int_int rfl) ?_
    simp only [nrm, Nat.reduceAdd, Nat.reduceMul, Nat.reduceSub, Int.reduceToNat, Int.reduceAdd]
    rw [wrap_i64_id (by omega) (by omega), hm]
    refine opsR_q rfl (q_assign) ?_
    simp only [nrm]
    refine opsR_nil ?_
    refine hk12 _ _ ?_
    clear hk12
    refine run_seq fun _ hk15 => ?_
    refine run_region ?_
    refine opsR_q rfl (q_move) ?_
    simp only [nrm]
    refine opsR_q rfl (q_move) ?_
    simp only [nrm]
    refine opsR_index rfl rfl rfl slrA (by rfl) idxA idxA fun b17 o17 cs17 ha17 hr17 he17 => ?_
    simp only [nrm, Nat.reduceAdd, Nat.reduceMul, Nat.reduceSub, Int.reduceToNat, Int.reduceAdd]
    try simp only [Int.toNat_natCast, Int.reduceToNat, Int.toNat_zero] at hr17
    try simp only [Int.toNat_natCast, Int.reduceToNat, Int.toNat_zero] at he17
    clear ha17
    obtain rfl := hr17
    refine opsR_q rfl (by first | exact q_load_at1 (i := 0) rfl (by first | assumption | exact El.mono (by assumption) leA) rfl (Nat.le_of_ble_eq_true rfl) rfl | exact q_load_at1 rfl (by first | assumption | exact El.mono (by assumption) leA) rfl (Nat.le_of_ble_eq_true rfl) rfl) ?_
    simp only [nrm, Nat.reduceAdd, Nat.reduceMul, Nat.reduceSub, Int.reduceToNat, Int.reduceAdd]
    refine opsR_q rfl (q_move) ?_
    simp only [nrm]
    refine opsR_q rfl (q_call rfl (Less_Int)) ?_
    simp only [nrm, Nat.reduceAdd, Nat.reduceMul, Nat.reduceSub, Int.reduceToNat, Int.reduceAdd]
    refine opsR_nil ?_
    refine hk15 _ _ ?_
    clear hk15
    refine run_cond rfl (fun ho19 => ?_) (fun ho19 => ?_)
    · have hc19 := ho19; try simp only [spl] at hc19
      refine run_region ?_
      refine opsR_q rfl (q_move) ?_
      simp only [nrm]
      refine opsR_q rfl (by first | exact q_add64 rfl rfl (by omega) (by omega) | exact q_add rfl rfl) ?_
      simp only [nrm, Nat.reduceAdd, Nat.reduceMul, Nat.reduceSub, Int.reduceToNat, Int.reduceAdd]
      refine opsR_q rfl (q_assign) ?_
      simp only [nrm]
      refine opsR_nil ?_
      first
      | exact hkl6 _ _ _ _ (by omega) ⟨m + 1, j, rfl, rfl, rfl, by omega⟩ rfl
      | exact hkl6 _ _ _ _ (by omega) ⟨i, m, rfl, rfl, rfl, by omega⟩ rfl
    · have hc19 := ho19; try simp only [spl] at hc19
      refine run_region ?_
      refine opsR_q rfl (q_move) ?_
      simp only [nrm]
      refine opsR_q rfl (q_assign) ?_
      simp only [nrm]
      refine opsR_nil ?_
      first
      | exact hkl6 _ _ _ _ (by omega) ⟨m + 1, j, rfl, rfl, rfl, by omega⟩ rfl
      | exact hkl6 _ _ _ _ (by omega) ⟨i, m, rfl, rfl, rfl, by omega⟩ rfl
  · have hc11 := ho11; try simp only [spl] at hc11
    refine run_exit ?_
    refine hk5 _ _ ?_
    clear hk5
    refine run_seq fun _ hk20 => ?_
    refine run_region ?_
    refine opsR_q rfl (q_move) ?_
    simp only [nrm]
    refine opsR_q rfl (q_move) ?_
    simp only [nrm]
    refine opsR_q rfl (q_move) ?_
    simp only [nrm]
    refine opsR_q rfl (q_lss rfl rfl) ?_
    simp only [nrm, Nat.reduceAdd, Nat.reduceMul, Nat.reduceSub, Int.reduceToNat, Int.reduceAdd]
    refine opsR_qb rfl (q_move) (fun hc22 => ?_) (fun hc22 => ?_)
    · have ho22 := hc22; try simp only [spl] at hc22
      simp only [nrm, Nat.reduceAdd, Nat.reduceMul, Nat.reduceSub, Int.reduceToNat, Int.reduceAdd]
      refine opsR_q rfl (q_move) ?_
      simp only [nrm]
      refine opsR_q rfl (q_move) ?_
      simp only [nrm]
      refine opsR_index rfl rfl rfl slrA (by rfl) idxA idxA fun b24 o24 cs24 ha24 hr24 he24 => ?_
      simp only [nrm, Nat.reduceAdd, Nat.reduceMul, Nat.reduceSub, Int.reduceToNat, Int.reduceAdd]
      try simp only [Int.toNat_natCast, Int.reduceToNat, Int.toNat_zero] at hr24
      try simp only [Int.toNat_natCast, Int.reduceToNat, Int.toNat_zero] at he24
      clear ha24
      obtain rfl := hr24
      refine opsR_q rfl (by first | exact q_load_at1 (i := 0) rfl (by first | assumption | exact El.mono (by assumption) leA) rfl (Nat.le_of_ble_eq_true rfl) rfl | exact q_load_at1 rfl (by first | assumption | exact El.mono (by assumption) leA) rfl (Nat.le_of_ble_eq_true rfl) rfl) ?_
      simp only [nrm, Nat.reduceAdd, Nat.reduceMul, Nat.reduceSub, Int.reduceToNat, Int.reduceAdd]
      refine opsR_q rfl (q_move) ?_
      simp only [nrm]
      refine opsR_q rfl (q_eql rfl rfl) ?_
      simp only [nrm, Nat.reduceAdd, Nat.reduceMul, Nat.reduceSub, Int.reduceToNat, Int.reduceAdd]
      refine opsR_qb rfl (q_move) (fun hc26 => ?_) (fun hc26 => ?_)
      · have ho26 := hc26; try simp only [spl] at hc26
        simp only [nrm, Nat.reduceAdd, Nat.reduceMul, Nat.reduceSub, Int.reduceToNat, Int.reduceAdd]
        refine opsR_skip rfl ?_
        simp only [nrm, Nat.reduceAdd, Nat.reduceMul, Nat.reduceSub, Int.reduceToNat, Int.reduceAdd]
        refine opsR_skip rfl ?_
        simp only [nrm, Nat.reduceAdd, Nat.reduceMul, Nat.reduceSub, Int.reduceToNat, Int.reduceAdd]
        refine opsR_skip rfl ?_
        simp only [nrm, Nat.reduceAdd, Nat.reduceMul, Nat.reduceSub, Int.reduceToNat, Int.reduceAdd]
        refine opsR_skip rfl ?_
        simp only [nrm, Nat.reduceAdd, Nat.reduceMul, Nat.reduceSub, Int.reduceToNat, Int.reduceAdd]
        refine opsR_skip rfl ?_
        simp only [nrm, Nat.reduceAdd, Nat.reduceMul, Nat.reduceSub, Int.reduceToNat, Int.reduceAdd]
        refine opsR_skip rfl ?_
        simp only [nrm, Nat.reduceAdd, Nat.reduceMul, Nat.reduceSub, Int.reduceToNat, Int.reduceAdd]
        refine opsR_skip rfl ?_
        simp only [nrm, Nat.reduceAdd, Nat.reduceMul, Nat.reduceSub, Int.reduceToNat, Int.reduceAdd]
        refine opsR_skip rfl ?_
        simp only [nrm, Nat.reduceAdd, Nat.reduceMul, Nat.reduceSub, Int.reduceToNat, Int.reduceAdd]
        refine opsR_skip rfl ?_
        simp only [nrm, Nat.reduceAdd, Nat.reduceMul, Nat.reduceSub, Int.reduceToNat, Int.reduceAdd]
        refine opsR_q rfl (q_pick_t rfl) ?_
        simp only [nrm]
        refine opsR_q rfl (q_pick_t rfl) ?_
        simp only [nrm]
        refine opsR_q rfl (q_assign) ?_
        simp only [nrm]
        refine opsR_q rfl (q_assign) ?_
        simp only [nrm]
        refine opsR_nil ?_
        refine hk20 _ _ ?_
        clear hk20
        refine run_ret ?_
        first | exact end_tmp2 rfl rfl rfl rfl ghA (hK _ ⟨i, false, rfl, by omega, fun h => nomatch h⟩) | exact end_tmp2 rfl rfl rfl rfl ghA (hK _ ⟨i, _, rfl, by omega, fun h => by first | exact (by assumption : l[i]! = x) ▸ mem_get! (by omega) | exact (of_decide_eq_true h : l[i]! = x) ▸ mem_get! (by omega)⟩)
      · have ho26 := hc26; try simp only [spl] at hc26
        simp only [nrm, Nat.reduceAdd, Nat.reduceMul, Nat.reduceSub, Int.reduceToNat, Int.reduceAdd]
        refine opsR_q rfl (q_move) ?_
        simp only [nrm]
        refine opsR_q rfl (q_move) ?_
        simp only [nrm]
        refine opsR_index rfl rfl rfl slrA (by rfl) idxA idxA fun b27 o27 cs27 ha27 hr27 he27 => ?_
        simp only [nrm, Nat.reduceAdd, Nat.reduceMul, Nat.reduceSub, Int.reduceToNat, Int.reduceAdd]
        try simp only [Int.toNat_natCast, Int.reduceToNat, Int.toNat_zero] at hr27
        try simp only [Int.toNat_natCast, Int.reduceToNat, Int.toNat_zero] at he27
        clear ha27
        obtain rfl := hr27
        refine opsR_q rfl (by first | exact q_load_at1 (i := 0) rfl (by first | assumption | exact El.mono (by assumption) leA) rfl (Nat.le_of_ble_eq_true rfl) rfl | exact q_load_at1 rfl (by first | assumption | exact El.mono (by assumption) leA) rfl (Nat.le_of_ble_eq_true rfl) rfl) ?_
        simp only [nrm, Nat.reduceAdd, Nat.reduceMul, Nat.reduceSub, Int.reduceToNat, Int.reduceAdd]
        refine opsR_q rfl (q_call rfl (isNaN_Int)) ?_
        simp only [nrm, Nat.reduceAdd, Nat.reduceMul, Nat.reduceSub, Int.reduceToNat, Int.reduceAdd]
        refine opsR_q rfl (q_move) ?_
        simp only [nrm]
        refine opsR_skip rfl ?_
        simp only [nrm, Nat.reduceAdd, Nat.reduceMul, Nat.reduceSub, Int.reduceToNat, Int.reduceAdd]
        refine opsR_skip rfl ?_
        simp only [nrm, Nat.reduceAdd, Nat.reduceMul, Nat.reduceSub, Int.reduceToNat, Int.reduceAdd]
        refine opsR_q rfl (q_pick_f rfl) ?_
        simp only [nrm]
        refine opsR_q rfl (q_pick_f rfl) ?_
        simp only [nrm]
        refine opsR_q rfl (q_pick_t rfl) ?_
        simp only [nrm]
        refine opsR_q rfl (q_assign) ?_
        simp only [nrm]
        refine opsR_q rfl (q_assign) ?_
        simp only [nrm]
        refine opsR_nil ?_
        refine hk20 _ _ ?_
        clear hk20
        refine run_ret ?_
        first | exact end_tmp2 rfl rfl rfl rfl ghA (hK _ ⟨i, false, rfl, by omega, fun h => nomatch h⟩) | exact end_tmp2 rfl rfl rfl rfl ghA (hK _ ⟨i, _, rfl, by omega, fun h => by first | exact (by assumption : l[i]! = x) ▸ mem_get! (by omega) | exact (of_decide_eq_true h : l[i]! = x) ▸ mem_get! (by omega)⟩)
    · have ho22 := hc22; try simp only [spl] at hc22
      simp only [nrm, Nat.reduceAdd, Nat.reduceMul, Nat.reduceSub, Int.reduceToNat, Int.reduceAdd]
      refine opsR_skip rfl ?_
      simp only [nrm, Nat.reduceAdd, Nat.reduceMul, Nat.reduceSub, Int.reduceToNat, Int.reduceAdd]
      refine opsR_skip rfl ?_
      simp only [nrm, Nat.reduceAdd, Nat.reduceMul, Nat.reduceSub, Int.reduceToNat, Int.reduceAdd]
      refine opsR_skip rfl ?_
      simp only [nrm, Nat.reduceAdd, Nat.reduceMul, Nat.reduceSub, Int.reduceToNat, Int.reduceAdd]
      refine opsR_skip rfl ?_
      simp only [nrm, Nat.reduceAdd, Nat.reduceMul, Nat.reduceSub, Int.reduceToNat, Int.reduceAdd]
      refine opsR_skip rfl ?_
      simp only [nrm, Nat.reduceAdd, Nat.reduceMul, Nat.reduceSub, Int.reduceToNat, Int.reduceAdd]
      refine opsR_skip rfl ?_
      simp only [nrm, Nat.reduceAdd, Nat.reduceMul, Nat.reduceSub, Int.reduceToNat, Int.reduceAdd]
      refine opsR_skip rfl ?_
      simp only [nrm, Nat.reduceAdd, Nat.reduceMul, Nat.reduceSub, Int.reduceToNat, Int.reduceAdd]
      refine opsR_skip rfl ?_
      simp only [nrm, Nat.reduceAdd, Nat.reduceMul, Nat.reduceSub, Int.reduceToNat, Int.reduceAdd]
      refine opsR_skip rfl ?_
      simp only [nrm, Nat.reduceAdd, Nat.reduceMul, Nat.reduceSub, Int.reduceToNat, Int.reduceAdd]
      refine opsR_skip rfl ?_
      simp only [nrm, Nat.reduceAdd, Nat.reduceMul, Nat.reduceSub, Int.reduceToNat, Int.reduceAdd]
      refine opsR_skip rfl ?_
      simp only [nrm, Nat.reduceAdd, Nat.reduceMul, Nat.reduceSub, Int.reduceToNat, Int.reduceAdd]
      refine opsR_skip rfl ?_
      simp only [nrm, Nat.reduceAdd, Nat.reduceMul, Nat.reduceSub, Int.reduceToNat, Int.reduceAdd]
      refine opsR_skip rfl ?_
      simp only [nrm, Nat.reduceAdd, Nat.reduceMul, Nat.reduceSub, Int.reduceToNat, Int.reduceAdd]
      refine opsR_skip rfl ?_
      simp only [nrm, Nat.reduceAdd, Nat.reduceMul, Nat.reduceSub, Int.reduceToNat, Int.reduceAdd]
      refine opsR_skip rfl ?_
      simp only [nrm, Nat.reduceAdd, Nat.reduceMul, Nat.reduceSub, Int.reduceToNat, Int.reduceAdd]
      refine opsR_skip rfl ?_
      simp only [nrm, Nat.reduceAdd, Nat.reduceMul, Nat.reduceSub, Int.reduceToNat, Int.reduceAdd]
      refine opsR_skip rfl ?_
      simp only [nrm, Nat.reduceAdd, Nat.reduceMul, Nat.reduceSub, Int.reduceToNat, Int.reduceAdd]
      refine opsR_q rfl (q_pick_f rfl) ?_
      simp only [nrm]
      refine opsR_q rfl (q_assign) ?_
      simp only [nrm]
      refine opsR_q rfl (q_assign) ?_
      simp only [nrm]
      refine opsR_nil ?_
      refine hk20 _ _ ?_
      clear hk20
      refine run_ret ?_
      first | exact end_tmp2 rfl rfl rfl rfl ghA (hK _ ⟨i, false, rfl, by omega, fun h => nomatch h⟩) | exact end_tmp2 rfl rfl rfl rfl ghA (hK _ ⟨i, _, rfl, by omega, fun h => by first | exact (by assumption : l[i]! = x) ▸ mem_get! (by omega) | exact (of_decide_eq_true h : l[i]! = x) ▸ mem_get! (by omega)⟩)
/-- A list with one more, if it is not there. -/
theorem put_Int {l : List Int} {x : Int} {v : Value} {s : St} (hl : Sl (kInt .i64) s.I v l) (hb : l.length ≤ 1000000000) : CallR Tryz.prog 58 #[v, .int .i64 x] s (fun J w => ∃ ys, Sl (kInt .i64) J w ys ∧ PutIs l x ys) := by
  intro K hK
  refine callS_of_run Tryz.func58 rfl ?_; simp only [Tryz.ntmps58, List.size_toArray, List.length_cons, List.length_nil, Nat.reduceAdd, Nat.reduceSub, Array.replicate_succ, Array.replicate_zero, List.push_toArray, List.append_toArray, List.nil_append, List.cons_append]
  refine run_seq fun _ hk1 => ?_
  refine run_region ?_
  refine opsR_q rfl (q_assign) ?_
  simp only [nrm]
  refine opsR_nil ?_
  refine hk1 _ _ ?_
  clear hk1
  refine run_seq fun _ hk2 => ?_
  refine run_region ?_
  refine opsR_q rfl (q_move) ?_
  simp only [nrm]
  refine opsR_q rfl (q_move) ?_
  simp only [nrm]
  refine opsR_o rfl (o_call rfl (Bin_Int (by first | assumption | (refine Sl.mono ?_ (by assumption); exact leA)) (by omega) _ fun vB hvB => ?_))
  simp only [nrm, Nat.reduceAdd, Nat.reduceMul, Nat.reduceSub, Int.reduceToNat, Int.reduceAdd]
  obtain ⟨k, is, rfl, hk, hm⟩ := hvB
  refine opsR_q rfl (q_move) ?_
  simp only [nrm]
  refine opsR_q rfl (q_extract rfl rfl) ?_
  simp only [nrm]
  refine opsR_q rfl (q_extract rfl rfl) ?_
  simp only [nrm]
  refine opsR_q rfl (q_assign) ?_
  simp only [nrm]
  refine opsR_q rfl (q_assign) ?_
  simp only [nrm]
  refine opsR_nil ?_
  refine hk2 _ _ ?_
  clear hk2
  refine run_seq fun _ hk7 => ?_
  refine run_seq fun _ hk8 => ?_
  refine run_region ?_
  refine opsR_q rfl (q_move) ?_
  simp only [nrm]
  refine opsR_nil ?_
  refine hk8 _ _ ?_
  clear hk8
  refine run_cond rfl (fun ho9 => ?_) (fun ho9 => ?_)
  · have hc9 := ho9; try simp only [spl] at hc9
    refine run_seq fun _ hk10 => ?_
    refine run_region ?_
    refine opsR_q rfl (q_move) ?_
    simp only [nrm]
    refine opsR_q rfl (q_assign) ?_
    simp only [nrm]
    refine opsR_nil ?_
    refine hk10 _ _ ?_
    clear hk10
    refine run_ret ?_
    exact end_tmp rfl rfl rfl ghA (hK _ _ .rfl ⟨l, hl, .inl ⟨rfl, hm (by assumption)⟩⟩)
  · have hc9 := ho9; try simp only [spl] at hc9
    refine run_skip ?_
    refine hk7 _ _ ?_
    clear hk7
    refine run_seq fun _ hk11 => ?_
    refine run_mixL mixed [true, true, true, true, true, false, false, true, true, true, false, false] [false, false, false, false, true, false, false, false, false, false, false, false] [5, 6, 10, 11] (fun _ => True) (by kernel_rfl) rfl trivial ?_
    refine oblK_k rfl (fun z hz => (q_move)) ?_
    simp only [nrm, Nat.reduceAdd, Nat.reduceMul, Nat.reduceSub, Int.reduceToNat, Int.reduceAdd]
    refine oblK_k rfl (fun z hz => (q_move)) ?_
    simp only [nrm, Nat.reduceAdd, Nat.reduceMul, Nat.reduceSub, Int.reduceToNat, Int.reduceAdd]
    refine oblK_k rfl (fun z hz => (q_move)) ?_
    simp only [nrm, Nat.reduceAdd, Nat.reduceMul, Nat.reduceSub, Int.reduceToNat, Int.reduceAdd]
    refine oblK_cutF rfl rfl (by assumption) ⟨_, _, rfl, idxA, rfl⟩ ⟨_, _, rfl, idxA, rfl⟩ (by rfl) idxA fun v12 hv12 => ?_
    simp only [nrm, Nat.reduceAdd, Nat.reduceMul, Nat.reduceSub, Int.reduceToNat, Int.reduceAdd]
    try simp only [Int.toNat_natCast, Int.reduceToNat, Int.toNat_zero] at hv12
    refine oblK_b rfl (q_move) ?_
    simp only [nrm, Nat.reduceAdd, Nat.reduceMul, Nat.reduceSub, Int.reduceToNat, Int.reduceAdd]
    refine oblK_r ?_
    refine oblK_r ?_
    refine oblK_k rfl (fun z hz => (q_move)) ?_
    simp only [nrm, Nat.reduceAdd, Nat.reduceMul, Nat.reduceSub, Int.reduceToNat, Int.reduceAdd]
    refine oblK_k rfl (fun z hz => (q_move)) ?_
    simp only [nrm, Nat.reduceAdd, Nat.reduceMul, Nat.reduceSub, Int.reduceToNat, Int.reduceAdd]
    refine oblK_cut rfl rfl (by assumption) ⟨_, _, rfl, idxA, rfl⟩ rfl (by rfl) idxA idxA fun v13 hv13 => ?_
    simp only [nrm, Nat.reduceAdd, Nat.reduceMul, Nat.reduceSub, Int.reduceToNat, Int.reduceAdd]
    try simp only [Int.toNat_natCast, Int.reduceToNat, Int.toNat_zero] at hv13
    refine oblK_r ?_
    refine oblK_r ?_
    refine oblK_nil ?_
    refine restK_pick [5] (by kernel_rfl) ⟨?_, trivial⟩
    refine restK_op rfl ?_
    simp only [List.getElem_toArray, List.getElem_cons_zero, List.getElem_cons_succ]
    refine opsR_slice1 (kInt .i64) rfl rfl (by rfl) (by decide) (by decide) (by rfl) (by first | rfl | assumption | exact (kInt .i64).shut | (refine Kd.mono _ ?_ (by assumption); exact leA) | (apply (kInt .i64).shut <;> assumption)) fun v14 hs14 hv14 => ?_
    simp only [nrm, Nat.reduceAdd, Nat.reduceMul, Nat.reduceSub, Int.reduceToNat, Int.reduceAdd]
    refine opsR_nil ⟨rfl, rfl, trivial, ?_⟩
    refine restK_pick [6] (by kernel_rfl) ⟨?_, trivial⟩
    refine restK_op rfl ?_
    simp only [List.getElem_toArray, List.getElem_cons_zero, List.getElem_cons_succ]
    refine opsR_appF rfl rfl rfl (by assumption) slrA (by rfl) (by rfl) rfl rfl (by first | decide | simp) idxA fun v15 hs15 hv15 => ?_
    simp only [nrm, Nat.reduceAdd, Nat.reduceMul, Nat.reduceSub, Int.reduceToNat, Int.reduceAdd]
    refine opsR_dropS (hs := hs14) ?_
    try simp only [nrm, Nat.reduceAdd, Nat.reduceMul, Nat.reduceSub, Int.reduceToNat, Int.reduceAdd]
    refine opsR_nil ⟨rfl, rfl, trivial, ?_⟩
    refine restK_pick [10] (by kernel_rfl) ⟨?_, trivial⟩
    refine restK_op rfl ?_
    simp only [List.getElem_toArray, List.getElem_cons_zero, List.getElem_cons_succ]
    refine opsR_app rfl rfl rfl (by first | assumption | (refine OwnS.mono ?_ (by assumption); exact leA)) (by infer_instance) slrA (by rfl) (by rfl) rfl rfl idxA fun vZ hsZ hvZ => ?_
    simp only [nrm, Nat.reduceAdd, Nat.reduceMul, Nat.reduceSub, Int.reduceToNat, Int.reduceAdd]
    simp only [List.take_length] at hvZ; refine opsR_fz hvZ (by infer_instance) fun JFZ hJFZ hvZ => ?_; try dsimp only at hJFZ; try (have hrFZ : Hp.le s.I JFZ := (by exact leA); have hJFZ := hJFZ); try simp only [nrm, Nat.reduceAdd, Nat.reduceMul, Nat.reduceSub, Int.reduceToNat, Int.reduceAdd]
    refine opsR_nil ⟨rfl, rfl, trivial, ?_⟩
    refine restK_pick [11] (by kernel_rfl) ⟨?_, trivial⟩
    refine restK_op rfl ?_
    simp only [List.getElem_toArray, List.getElem_cons_zero, List.getElem_cons_succ]
    refine opsR_q rfl (q_assign) ?_
    simp only [nrm]
    refine opsR_nil ⟨rfl, rfl, trivial, ?_⟩
    refine restK_end rfl ?_
    try simp only [nrm, Nat.reduceAdd, Nat.reduceMul, Nat.reduceSub, Int.reduceToNat, Int.reduceAdd]
    refine hk11 _ _ ?_
    clear hk11
    refine run_ret ?_
    exact end_tmp rfl rfl rfl ghA (hK _ _ leA ⟨_, hvZ, .inr ⟨k, hk, rfl⟩⟩)
end
end Go.Proofs.YtcnbcblihepbmaaGreatDoor
