/- The reference's Whole: what numeral a text is. -/
import Derived.Test.YtcnbcblihepbmaaGreatDoorSH
set_option autoImplicit false
set_option linter.unusedVariables false
set_option linter.unusedSimpArgs false
namespace Go.Proofs.YtcnbcblihepbmaaGreatDoor
open Go Go.RowKit
theorem len_toList (b : ByteArray) : b.data.toList.length = b.size := rfl
theorem u8_eq {x : UInt8} {n : Nat} (h : n < 256) : x = UInt8.ofNat n ↔ x.toNat = n := by
  constructor
  · rintro rfl; rw [UInt8.toNat_ofNat']; omega
  · intro e; apply UInt8.toNat_inj.1; rw [UInt8.toNat_ofNat']; omega
theorem wrap_u8_id {n : Int} (h1 : 0 ≤ n) (h2 : n ≤ 255) : IntKind.u8.wrap n = n := by
  unfold IntKind.wrap
  have e1 : IntKind.u8.signed = false := rfl
  have e2 : IntKind.u8.bits = 8 := rfl
  simp only [e1, e2, Bool.false_and, Nat.reduceSub, Bool.false_eq_true, if_false, decide_false]
  omega
theorem whole_e {dg : Nat} {l : List UInt8} (h : l = [] ∨ dg < l.length ∨ (1 < l.length ∧ l.head? = some 48)) : whole dg l = none := by rw [whole, if_pos h]
theorem head_bytes {b : ByteArray} (h : 0 < b.size) : b.data.toList.head? = some b.data.toList[0]! := by
  cases hl : b.data.toList with
  | nil => have := congrArg List.length hl; rw [len_toList, List.length_nil] at this; omega
  | cons x r => rfl
theorem digit_of {x : UInt8} (h1 : 48 ≤ x.toNat) (h2 : x.toNat ≤ 57) : Lib.digitVal x = some (x.toNat - 48) := by rw [Lib.digitVal, if_pos ⟨h1, h2⟩]
theorem digit_not {x : UInt8} (h : x.toNat < 48 ∨ 57 < x.toNat) : Lib.digitVal x = none := by rw [Lib.digitVal, if_neg (by omega)]
theorem whole_stop {dg : Nat} {b : ByteArray} {i : Nat} (hi : i < b.size) (h : Lib.digitVal b.data.toList[i]! = none) : whole dg b.data.toList = none := by
  cases hw : whole dg b.data.toList with
  | none => rfl
  | some m =>
    obtain ⟨_, h2⟩ := whole_iff.1 hw
    have h3 := decFrom_decDigits m
    rw [h2] at h3
    obtain ⟨d, hd⟩ := Lib.digit_of_decFrom _ 0 m h3 i b.data.toList[i]! (by rw [getElem!_pos b.data.toList i hi]; simp [len_toList, hi])
    rw [h] at hd; cases hd
section
attribute [local irreducible] Quiet OpsR Run CallS opS Gh endQ oblE RunN
set_option maxHeartbeats 1000000 in
theorem Whole_spec {b : ByteArray} {dg : Nat} {s : St} (hd : dg ≤ 18) (hb : b.size ≤ 9223372036854775807) : CallV Tryz.prog 72 #[.string b, .int .i64 (dg : Nat)] s (.tuple #[.int .i64 (((whole dg b.data.toList).getD 0 : Nat) : Int), .bool (whole dg b.data.toList).isSome]) := by
  intro K hK
  refine callS_of_run Tryz.func72 rfl ?_; simp only [Tryz.ntmps72, List.size_toArray, List.length_cons, List.length_nil, Nat.reduceAdd, Nat.reduceSub, Array.replicate_succ, Array.replicate_zero, List.push_toArray, List.append_toArray, List.nil_append, List.cons_append]
  refine run_seq fun _ hk1 => ?_
  refine run_region ?_
  refine opsR_q rfl (q_assign) ?_
  simp only [nrm]
  refine opsR_q rfl (q_assign) ?_
  simp only [nrm]
  refine opsR_nil ?_
  refine hk1 _ _ ?_
  clear hk1
  refine run_seq fun _ hk2 => ?_
  refine run_seq fun _ hk3 => ?_
  refine run_region ?_
  refine opsR_q rfl (q_move) ?_
  simp only [nrm]
  refine opsR_q rfl (q_eql_string rfl rfl) ?_
  simp only [nrm, Nat.reduceAdd, Nat.reduceMul, Nat.reduceSub, Int.reduceToNat, Int.reduceAdd]
  refine opsR_qb rfl (q_move) (fun hc5 => ?_) (fun hc5 => ?_)
  · have ho5 := hc5; try simp only [spl] at hc5
    simp only [nrm, Nat.reduceAdd, Nat.reduceMul, Nat.reduceSub, Int.reduceToNat, Int.reduceAdd]
    refine opsR_skip rfl ?_
    simp only [nrm, Nat.reduceAdd, Nat.reduceMul, Nat.reduceSub, Int.reduceToNat, Int.reduceAdd]
    refine opsR_skip rfl ?_
    simp only [nrm, Nat.reduceAdd, Nat.reduceMul, Nat.reduceSub, Int.reduceToNat, Int.reduceAdd]
    refine opsR_skip rfl ?_
    simp only [nrm, Nat.reduceAdd, Nat.reduceMul, Nat.reduceSub, Int.reduceToNat, Int.reduceAdd]
    refine opsR_skip rfl ?_
    simp only [nrm, Nat.reduceAdd, Nat.reduceMul, Nat.reduceSub, Int.reduceToNat, Int.reduceAdd]
    refine opsR_q rfl (q_pick_t rfl) ?_
    simp only [nrm]
    refine opsR_q rfl (q_move) ?_
    simp only [nrm]
    refine opsR_skip rfl ?_
    simp only [nrm, Nat.reduceAdd, Nat.reduceMul, Nat.reduceSub, Int.reduceToNat, Int.reduceAdd]
    refine opsR_skip rfl ?_
    simp only [nrm, Nat.reduceAdd, Nat.reduceMul, Nat.reduceSub, Int.reduceToNat, Int.reduceAdd]
    refine opsR_q rfl (q_pick_t rfl) ?_
    simp only [nrm]
    refine opsR_q rfl (q_move) ?_
    simp only [nrm]
    refine opsR_skip rfl ?_
    simp only [nrm, Nat.reduceAdd, Nat.reduceMul, Nat.reduceSub, Int.reduceToNat, Int.reduceAdd]
    refine opsR_skip rfl ?_
    simp only [nrm, Nat.reduceAdd, Nat.reduceMul, Nat.reduceSub, Int.reduceToNat, Int.reduceAdd]
    refine opsR_skip rfl ?_
    simp only [nrm, Nat.reduceAdd, Nat.reduceMul, Nat.reduceSub, Int.reduceToNat, Int.reduceAdd]
    refine opsR_skip rfl ?_
    simp only [nrm, Nat.reduceAdd, Nat.reduceMul, Nat.reduceSub, Int.reduceToNat, Int.reduceAdd]
    refine opsR_skip rfl ?_
    simp only [nrm, Nat.reduceAdd, Nat.reduceMul, Nat.reduceSub, Int.reduceToNat, Int.reduceAdd]
    refine opsR_skip rfl ?_
    simp only [nrm, Nat.reduceAdd, Nat.reduceMul, Nat.reduceSub, Int.reduceToNat, Int.reduceAdd]
    refine opsR_skip rfl ?_
    simp only [nrm, Nat.reduceAdd, Nat.reduceMul, Nat.reduceSub, Int.reduceToNat, Int.reduceAdd]
    refine opsR_skip rfl ?_
    simp only [nrm, Nat.reduceAdd, Nat.reduceMul, Nat.reduceSub, Int.reduceToNat, Int.reduceAdd]
    refine opsR_q rfl (q_pick_t rfl) ?_
    simp only [nrm]
    refine opsR_nil ?_
    refine hk3 _ _ ?_
    clear hk3
    refine run_cond (t := true) rfl (fun _ => ?_) (fun h => by cases h)
    refine run_seq fun _ hk6 => ?_
    refine run_region ?_
    refine opsR_q rfl (q_assign) ?_
    simp only [nrm]
    refine opsR_q rfl (q_assign) ?_
    simp only [nrm]
    refine opsR_nil ?_
    refine hk6 _ _ ?_
    clear hk6
    refine run_ret ?_
    have hn : whole dg b.data.toList = none := whole_e (by
      first
      | exact Or.inl (by rw [show b = ⟨#[]⟩ by assumption])
      | exact Or.inr (Or.inl (by rw [len_toList]; omega))
      | (exfalso; omega)
      | exact Or.inr (Or.inr ⟨by rw [len_toList]; omega, by rw [head_bytes (by omega)]; exact congrArg some ((u8_eq (n := 48) (by decide)).2 (by omega))⟩))
    rw [hn] at hK
    exact end_tmp2 rfl rfl rfl rfl (by exact ghA) hK
  · have ho5 := hc5; try simp only [spl] at hc5
    simp only [nrm, Nat.reduceAdd, Nat.reduceMul, Nat.reduceSub, Int.reduceToNat, Int.reduceAdd]
    refine opsR_q rfl (q_move) ?_
    simp only [nrm]
    refine opsR_q rfl (q_len_str rfl) ?_
    simp only [nrm, Nat.reduceAdd, Nat.reduceMul, Nat.reduceSub, Int.reduceToNat, Int.reduceAdd]
    refine opsR_q rfl (q_move) ?_
    simp only [nrm]
    refine opsR_q rfl (q_gtr rfl rfl) ?_
    simp only [nrm, Nat.reduceAdd, Nat.reduceMul, Nat.reduceSub, Int.reduceToNat, Int.reduceAdd]
    refine opsR_q rfl (q_pick_f rfl) ?_
    simp only [nrm]
    refine opsR_qb rfl (q_move) (fun hc8 => ?_) (fun hc8 => ?_)
    · have ho8 := hc8; try simp only [spl] at hc8
      simp only [nrm, Nat.reduceAdd, Nat.reduceMul, Nat.reduceSub, Int.reduceToNat, Int.reduceAdd]
      refine opsR_skip rfl ?_
      simp only [nrm, Nat.reduceAdd, Nat.reduceMul, Nat.reduceSub, Int.reduceToNat, Int.reduceAdd]
      refine opsR_skip rfl ?_
      simp only [nrm, Nat.reduceAdd, Nat.reduceMul, Nat.reduceSub, Int.reduceToNat, Int.reduceAdd]
      refine opsR_q rfl (q_pick_t rfl) ?_
      simp only [nrm]
      refine opsR_q rfl (q_move) ?_
      simp only [nrm]
      refine opsR_skip rfl ?_
      simp only [nrm, Nat.reduceAdd, Nat.reduceMul, Nat.reduceSub, Int.reduceToNat, Int.reduceAdd]
      refine opsR_skip rfl ?_
      simp only [nrm, Nat.reduceAdd, Nat.reduceMul, Nat.reduceSub, Int.reduceToNat, Int.reduceAdd]
      refine opsR_skip rfl ?_
      simp only [nrm, Nat.reduceAdd, Nat.reduceMul, Nat.reduceSub, Int.reduceToNat, Int.reduceAdd]
      refine opsR_skip rfl ?_
      simp only [nrm, Nat.reduceAdd, Nat.reduceMul, Nat.reduceSub, Int.reduceToNat, Int.reduceAdd]
      refine opsR_skip rfl ?_
      simp only [nrm, Nat.reduceAdd, Nat.reduceMul, Nat.reduceSub, Int.reduceToNat, Int.reduceAdd]
      refine opsR_skip rfl ?_
      simp only [nrm, Nat.reduceAdd, Nat.reduceMul, Nat.reduceSub, Int.reduceToNat, Int.reduceAdd]
      refine opsR_skip rfl ?_
      simp only [nrm, Nat.reduceAdd, Nat.reduceMul, Nat.reduceSub, Int.reduceToNat, Int.reduceAdd]
      refine opsR_skip rfl ?_
      simp only [nrm, Nat.reduceAdd, Nat.reduceMul, Nat.reduceSub, Int.reduceToNat, Int.reduceAdd]
      refine opsR_q rfl (q_pick_t rfl) ?_
      simp only [nrm]
      refine opsR_nil ?_
      refine hk3 _ _ ?_
      clear hk3
      refine run_cond (t := true) rfl (fun _ => ?_) (fun h => by cases h)
      refine run_seq fun _ hk9 => ?_
      refine run_region ?_
      refine opsR_q rfl (q_assign) ?_
      simp only [nrm]
      refine opsR_q rfl (q_assign) ?_
      simp only [nrm]
      refine opsR_nil ?_
      refine hk9 _ _ ?_
      clear hk9
      refine run_ret ?_
      have hn : whole dg b.data.toList = none := whole_e (by
        first
        | exact Or.inl (by rw [show b = ⟨#[]⟩ by assumption])
        | exact Or.inr (Or.inl (by rw [len_toList]; omega))
        | (exfalso; omega)
        | exact Or.inr (Or.inr ⟨by rw [len_toList]; omega, by rw [head_bytes (by omega)]; exact congrArg some ((u8_eq (n := 48) (by decide)).2 (by omega))⟩))
      rw [hn] at hK
      exact end_tmp2 rfl rfl rfl rfl (by exact ghA) hK
    · have ho8 := hc8; try simp only [spl] at hc8
      simp only [nrm, Nat.reduceAdd, Nat.reduceMul, Nat.reduceSub, Int.reduceToNat, Int.reduceAdd]
      refine opsR_q rfl (q_move) ?_
      simp only [nrm]
      refine opsR_q rfl (q_gtr rfl rfl) ?_
      simp only [nrm, Nat.reduceAdd, Nat.reduceMul, Nat.reduceSub, Int.reduceToNat, Int.reduceAdd]
      refine opsR_q rfl (q_pick_f rfl) ?_
      simp only [nrm]
      refine opsR_qb rfl (q_move) (fun hc10 => ?_) (fun hc10 => ?_)
      · have ho10 := hc10; try simp only [spl] at hc10
        simp only [nrm, Nat.reduceAdd, Nat.reduceMul, Nat.reduceSub, Int.reduceToNat, Int.reduceAdd]
        refine opsR_skip rfl ?_
        simp only [nrm, Nat.reduceAdd, Nat.reduceMul, Nat.reduceSub, Int.reduceToNat, Int.reduceAdd]
        refine opsR_skip rfl ?_
        simp only [nrm, Nat.reduceAdd, Nat.reduceMul, Nat.reduceSub, Int.reduceToNat, Int.reduceAdd]
        refine opsR_skip rfl ?_
        simp only [nrm, Nat.reduceAdd, Nat.reduceMul, Nat.reduceSub, Int.reduceToNat, Int.reduceAdd]
        refine opsR_skip rfl ?_
        simp only [nrm, Nat.reduceAdd, Nat.reduceMul, Nat.reduceSub, Int.reduceToNat, Int.reduceAdd]
        refine opsR_skip rfl ?_
        simp only [nrm, Nat.reduceAdd, Nat.reduceMul, Nat.reduceSub, Int.reduceToNat, Int.reduceAdd]
        refine opsR_skip rfl ?_
        simp only [nrm, Nat.reduceAdd, Nat.reduceMul, Nat.reduceSub, Int.reduceToNat, Int.reduceAdd]
        refine opsR_skip rfl ?_
        simp only [nrm, Nat.reduceAdd, Nat.reduceMul, Nat.reduceSub, Int.reduceToNat, Int.reduceAdd]
        refine opsR_skip rfl ?_
        simp only [nrm, Nat.reduceAdd, Nat.reduceMul, Nat.reduceSub, Int.reduceToNat, Int.reduceAdd]
        refine opsR_q rfl (q_pick_t rfl) ?_
        simp only [nrm]
        refine opsR_nil ?_
        refine hk3 _ _ ?_
        clear hk3
        refine run_cond (t := true) rfl (fun _ => ?_) (fun h => by cases h)
        refine run_seq fun _ hk11 => ?_
        refine run_region ?_
        refine opsR_q rfl (q_assign) ?_
        simp only [nrm]
        refine opsR_q rfl (q_assign) ?_
        simp only [nrm]
        refine opsR_nil ?_
        refine hk11 _ _ ?_
        clear hk11
        refine run_ret ?_
        have hn : whole dg b.data.toList = none := whole_e (by
          first
          | exact Or.inl (by rw [show b = ⟨#[]⟩ by assumption])
          | exact Or.inr (Or.inl (by rw [len_toList]; omega))
          | (exfalso; omega)
          | exact Or.inr (Or.inr ⟨by rw [len_toList]; omega, by rw [head_bytes (by omega)]; exact congrArg some ((u8_eq (n := 48) (by decide)).2 (by omega))⟩))
        rw [hn] at hK
        exact end_tmp2 rfl rfl rfl rfl (by exact ghA) hK
      · have ho10 := hc10; try simp only [spl] at hc10
        simp only [nrm, Nat.reduceAdd, Nat.reduceMul, Nat.reduceSub, Int.reduceToNat, Int.reduceAdd]
        refine opsR_q rfl (q_move) ?_
        simp only [nrm]
        refine opsR_q rfl (q_len_str rfl) ?_
        simp only [nrm, Nat.reduceAdd, Nat.reduceMul, Nat.reduceSub, Int.reduceToNat, Int.reduceAdd]
        refine opsR_q rfl (q_gtr rfl rfl) ?_
        simp only [nrm, Nat.reduceAdd, Nat.reduceMul, Nat.reduceSub, Int.reduceToNat, Int.reduceAdd]
        refine opsR_qb rfl (q_move) (fun hc12 => ?_) (fun hc12 => ?_)
        · have ho12 := hc12; try simp only [spl] at hc12
          simp only [nrm, Nat.reduceAdd, Nat.reduceMul, Nat.reduceSub, Int.reduceToNat, Int.reduceAdd]
          refine opsR_q rfl (q_move) ?_
          simp only [nrm]
          refine opsR_q rfl (q_index_string rfl rfl (by omega) (by omega)) ?_
          simp only [nrm, Nat.reduceAdd, Nat.reduceMul, Nat.reduceSub, Int.reduceToNat, Int.reduceAdd]
          refine opsR_q rfl (q_eql rfl rfl) ?_
          simp only [nrm, Nat.reduceAdd, Nat.reduceMul, Nat.reduceSub, Int.reduceToNat, Int.reduceAdd]
          refine opsR_q rfl (q_pick_t rfl) ?_
          simp only [nrm]
          refine opsR_q rfl (q_pick_f rfl) ?_
          simp only [nrm]
          refine opsR_nil ?_
          refine hk3 _ _ ?_
          clear hk3
          refine run_cond rfl (fun ho13 => ?_) (fun ho13 => ?_)
          · have hc13 := ho13; try simp only [spl] at hc13
            refine run_seq fun _ hk14 => ?_
            refine run_region ?_
            refine opsR_q rfl (q_assign) ?_
            simp only [nrm]
            refine opsR_q rfl (q_assign) ?_
            simp only [nrm]
            refine opsR_nil ?_
            refine hk14 _ _ ?_
            clear hk14
            refine run_ret ?_
            have hn : whole dg b.data.toList = none := whole_e (by
              first
              | exact Or.inl (by rw [show b = ⟨#[]⟩ by assumption])
              | exact Or.inr (Or.inl (by rw [len_toList]; omega))
              | (exfalso; omega)
              | exact Or.inr (Or.inr ⟨by rw [len_toList]; omega, by rw [head_bytes (by omega)]; exact congrArg some ((u8_eq (n := 48) (by decide)).2 (by omega))⟩))
            rw [hn] at hK
            exact end_tmp2 rfl rfl rfl rfl (by exact ghA) hK
          · have hc13 := ho13; try simp only [spl] at hc13
            refine run_skip ?_
            refine hk2 _ _ ?_
            clear hk2
            refine run_seq fun _ hk15 => ?_
            have hpos := str_pos (b := b) (by assumption)
            have hlo : ¬ (1 < b.data.toList.length ∧ b.data.toList.head? = some 48) := by
              rintro ⟨q1, q2⟩
              rw [len_toList] at q1
              rw [head_bytes hpos, Option.some.injEq] at q2
              have q3 := (u8_eq (n := 48) (by decide)).1 q2
              first | omega | (simp only [Int.toNat_zero] at *; omega)
            refine run_region ?_
            refine opsR_q rfl (q_assign) ?_
            simp only [nrm]
            refine opsR_nil ?_
            refine hk15 _ _ ?_
            clear hk15
            refine run_seq fun _ hk16 => ?_
            refine run_seq fun _ hk17 => ?_
            refine run_region ?_
            refine opsR_q rfl (q_assign) ?_
            simp only [nrm]
            refine opsR_nil ?_
            refine hk17 _ _ ?_
            clear hk17
            refine run_block ?_
            refine run_loopF [0, 0, 0, 0, 1, 1, 2, 2, 0, 0, 0, 0, 0, 0, 0, 0, 0, 0, 0, 0, 0, 0, 0, 0, 0, 0, 0, 0, 0, 0, 1, 1, 1, 1, 1, 1, 1, 1, 1, 1, 1, 1, 1, 1, 1, 1, 1, 1, 1, 1, 1, 1, 1, 1, 0] (fun zn zL zst => ∃ (i : Nat) (m : Nat), zL = [.int .i64 (m : Nat), .int .i64 (i : Nat)] ∧ s = zst ∧ zn = b.size - i ∧ (i ≤ b.size) ∧ (Lib.decFrom 0 (b.data.toList.take i) = some m)) _ _ ⟨0, 0, rfl, rfl, rfl, by first | assumption | omega | exact Hp.le.rfl | rfl | exact all_zero | exact all_succ (by assumption) (by assumption) | (intro _; omega) | (simp; done), by first | assumption | omega | exact Hp.le.rfl | rfl | exact all_zero | exact all_succ (by assumption) (by assumption) | (intro _; omega) | (simp; done)⟩ rfl ?_
            rintro _ _ _ jv18 ⟨i, m, rfl, rfl, rfl, hi, hm⟩ K18 hkl18
            simp only [fr, Nat.zero_add, Nat.reduceAdd]
            have hu := u8_lt b.data.toList[i]!
            have hmb := fun h => Lib.decFrom_take_lt hm h
            refine run_seq fun _ hk19 => ?_
            refine run_seq fun _ hk20 => ?_
            refine run_region ?_
            refine opsR_q rfl (q_move) ?_
            simp only [nrm]
            refine opsR_q rfl (q_move) ?_
            simp only [nrm]
            refine opsR_q rfl (q_len_str rfl) ?_
            simp only [nrm, Nat.reduceAdd, Nat.reduceMul, Nat.reduceSub, Int.reduceToNat, Int.reduceAdd]
            refine opsR_q rfl (q_lss rfl rfl) ?_
            simp only [nrm, Nat.reduceAdd, Nat.reduceMul, Nat.reduceSub, Int.reduceToNat, Int.reduceAdd]
            refine opsR_nil ?_
            refine hk20 _ _ ?_
            clear hk20
            refine run_cond rfl (fun ho23 => ?_) (fun ho23 => ?_)
            · have hc23 := ho23; try simp only [spl] at hc23
              refine run_skip ?_
              refine hk19 _ _ ?_
              clear hk19
              refine run_seq fun _ hk24 => ?_
              refine run_block ?_
              refine run_seq fun _ hk25 => ?_
              refine run_seq fun _ hk26 => ?_
              refine run_region ?_
              refine opsR_q rfl (q_move) ?_
              simp only [nrm]
              refine opsR_q rfl (q_move) ?_
              simp only [nrm]
              refine opsR_q rfl (q_index_string rfl rfl (by omega) (by omega)) ?_
              simp only [nrm, Nat.reduceAdd, Nat.reduceMul, Nat.reduceSub, Int.reduceToNat, Int.reduceAdd]
              refine opsR_q rfl (q_lss rfl rfl) ?_
              simp only [nrm, Nat.reduceAdd, Nat.reduceMul, Nat.reduceSub, Int.reduceToNat, Int.reduceAdd]
              refine opsR_qb rfl (q_move) (fun hc27 => ?_) (fun hc27 => ?_)
              · have ho27 := hc27; try simp only [spl] at hc27
                simp only [nrm, Nat.reduceAdd, Nat.reduceMul, Nat.reduceSub, Int.reduceToNat, Int.reduceAdd]
                refine opsR_skip rfl ?_
                simp only [nrm, Nat.reduceAdd, Nat.reduceMul, Nat.reduceSub, Int.reduceToNat, Int.reduceAdd]
                refine opsR_skip rfl ?_
                simp only [nrm, Nat.reduceAdd, Nat.reduceMul, Nat.reduceSub, Int.reduceToNat, Int.reduceAdd]
                refine opsR_skip rfl ?_
                simp only [nrm, Nat.reduceAdd, Nat.reduceMul, Nat.reduceSub, Int.reduceToNat, Int.reduceAdd]
                refine opsR_skip rfl ?_
                simp only [nrm, Nat.reduceAdd, Nat.reduceMul, Nat.reduceSub, Int.reduceToNat, Int.reduceAdd]
                refine opsR_q rfl (q_pick_t rfl) ?_
                simp only [nrm]
                refine opsR_nil ?_
                refine hk26 _ _ ?_
                clear hk26
                refine run_cond (t := true) rfl (fun _ => ?_) (fun h => by cases h)
                refine run_seq fun _ hk28 => ?_
                refine run_region ?_
                refine opsR_q rfl (q_assign) ?_
                simp only [nrm]
                refine opsR_q rfl (q_assign) ?_
                simp only [nrm]
                refine opsR_nil ?_
                refine hk28 _ _ ?_
                clear hk28
                refine run_ret ?_
                have hn := whole_stop (dg := dg) (i := i) (by omega) (digit_not (by omega))
                rw [hn] at hK
                exact end_tmp2 rfl rfl rfl rfl (by exact ghA) hK
              · have ho27 := hc27; try simp only [spl] at hc27
                simp only [nrm, Nat.reduceAdd, Nat.reduceMul, Nat.reduceSub, Int.reduceToNat, Int.reduceAdd]
                refine opsR_q rfl (q_move) ?_
                simp only [nrm]
                refine opsR_q rfl (q_move) ?_
                simp only [nrm]
                refine opsR_q rfl (q_index_string rfl rfl (by omega) (by omega)) ?_
                simp only [nrm, Nat.reduceAdd, Nat.reduceMul, Nat.reduceSub, Int.reduceToNat, Int.reduceAdd]
                refine opsR_q rfl (q_gtr rfl rfl) ?_
                simp only [nrm, Nat.reduceAdd, Nat.reduceMul, Nat.reduceSub, Int.reduceToNat, Int.reduceAdd]
                refine opsR_q rfl (q_pick_f rfl) ?_
                simp only [nrm]
                refine opsR_nil ?_
                refine hk26 _ _ ?_
                clear hk26
                refine run_cond rfl (fun ho29 => ?_) (fun ho29 => ?_)
                · have hc29 := ho29; try simp only [spl] at hc29
                  refine run_seq fun _ hk30 => ?_
                  refine run_region ?_
                  refine opsR_q rfl (q_assign) ?_
                  simp only [nrm]
                  refine opsR_q rfl (q_assign) ?_
                  simp only [nrm]
                  refine opsR_nil ?_
                  refine hk30 _ _ ?_
                  clear hk30
                  refine run_ret ?_
                  have hn := whole_stop (dg := dg) (i := i) (by omega) (digit_not (by omega))
                  rw [hn] at hK
                  exact end_tmp2 rfl rfl rfl rfl (by exact ghA) hK
                · have hc29 := ho29; try simp only [spl] at hc29
                  refine run_skip ?_
                  refine hk25 _ _ ?_
                  clear hk25
                  have hmc := hmb (by omega)
                  have w1 := wrap_u8_id (n := (b.data.toList[i]!.toNat : Int) - 48) (by omega) (by omega)
                  have w2 := wrap_i64_id (n := (b.data.toList[i]!.toNat : Int) - 48) (by omega) (by omega)
                  have w3 : ((m : Int) * 10 + ((b.data.toList[i]!.toNat : Int) - 48)) = ((m * 10 + (b.data.toList[i]!.toNat - 48) : Nat) : Int) := by omega
                  refine run_region ?_
                  refine opsR_q rfl (q_move) ?_
                  simp only [nrm]
                  refine opsR_q rfl (by first | exact q_mul64 rfl rfl (by omega) (by omega) | exact q_mul rfl rfl) ?_
                  simp only [nrm, Nat.reduceAdd, Nat.reduceMul, Nat.reduceSub, Int.reduceToNat, Int.reduceAdd]
                  refine opsR_q rfl (q_move) ?_
                  simp only [nrm]
                  refine opsR_q rfl (q_move) ?_
                  simp only [nrm]
                  refine opsR_q rfl (q_index_string rfl rfl (by omega) (by omega)) ?_
                  simp only [nrm, Nat.reduceAdd, Nat.reduceMul, Nat.reduceSub, Int.reduceToNat, Int.reduceAdd]
                  refine opsR_q rfl (q_sub rfl rfl) ?_
                  simp only [nrm, Nat.reduceAdd, Nat.reduceMul, Nat.reduceSub, Int.reduceToNat, Int.reduceAdd]
                  rw [w1]
                  refine opsR_q rfl (q_conv_int_int rfl) ?_
                  simp only [nrm, Nat.reduceAdd, Nat.reduceMul, Nat.reduceSub, Int.reduceToNat, Int.reduceAdd]
                  rw [w2]
                  refine opsR_q rfl (by first | exact q_add64 rfl rfl (by omega) (by omega) | exact q_add rfl rfl) ?_
                  simp only [nrm, Nat.reduceAdd, Nat.reduceMul, Nat.reduceSub, Int.reduceToNat, Int.reduceAdd]
                  rw [w3]
                  refine opsR_q rfl (q_assign) ?_
                  simp only [nrm]
                  refine opsR_nil ?_
                  refine hk24 _ _ ?_
                  clear hk24
                  refine run_region ?_
                  refine opsR_q rfl (q_move) ?_
                  simp only [nrm]
                  refine opsR_q rfl (by first | exact q_add64 rfl rfl (by omega) (by omega) | exact q_add rfl rfl) ?_
                  simp only [nrm, Nat.reduceAdd, Nat.reduceMul, Nat.reduceSub, Int.reduceToNat, Int.reduceAdd]
                  refine opsR_q rfl (q_assign) ?_
                  simp only [nrm]
                  refine opsR_nil ?_
                  first
                  | exact hkl18 _ _ _ _ (by omega) ⟨i + 1, m * 10 + (b.data.toList[i]!.toNat - 48), rfl, rfl, rfl, by first | omega | rfl | exact Lib.decFrom_take _ _ _ _ _ _ hm (by rw [getElem!_pos b.data.toList i (by rw [len_toList]; omega)]; simp [len_toList] <;> omega) (digit_of (by omega) (by omega)), by first | omega | rfl | exact Lib.decFrom_take _ _ _ _ _ _ hm (by rw [getElem!_pos b.data.toList i (by rw [len_toList]; omega)]; simp [len_toList] <;> omega) (digit_of (by omega) (by omega))⟩ rfl
            · have hc23 := ho23; try simp only [spl] at hc23
              refine run_exit ?_
              refine hk16 _ _ ?_
              clear hk16
              refine run_seq fun _ hk33 => ?_
              refine run_region ?_
              refine opsR_q rfl (q_move) ?_
              simp only [nrm]
              refine opsR_q rfl (q_assign) ?_
              simp only [nrm]
              refine opsR_q rfl (q_assign) ?_
              simp only [nrm]
              refine opsR_nil ?_
              refine hk33 _ _ ?_
              clear hk33
              refine run_ret ?_
              have hw : whole dg b.data.toList = some m := by
                rw [take_all (by rw [len_toList]; omega)] at hm
                rw [whole, if_neg ?_]
                · exact hm
                · rintro (q | q | q)
                  · have := congrArg List.length q; rw [len_toList, List.length_nil] at this; omega
                  · rw [len_toList] at q; omega
                  · exact hlo q
              rw [hw] at hK
              exact end_tmp2 rfl rfl rfl rfl (by exact ghA) hK
        · have ho12 := hc12; try simp only [spl] at hc12
          simp only [nrm, Nat.reduceAdd, Nat.reduceMul, Nat.reduceSub, Int.reduceToNat, Int.reduceAdd]
          refine opsR_skip rfl ?_
          simp only [nrm, Nat.reduceAdd, Nat.reduceMul, Nat.reduceSub, Int.reduceToNat, Int.reduceAdd]
          refine opsR_skip rfl ?_
          simp only [nrm, Nat.reduceAdd, Nat.reduceMul, Nat.reduceSub, Int.reduceToNat, Int.reduceAdd]
          refine opsR_skip rfl ?_
          simp only [nrm, Nat.reduceAdd, Nat.reduceMul, Nat.reduceSub, Int.reduceToNat, Int.reduceAdd]
          refine opsR_q rfl (q_pick_f rfl) ?_
          simp only [nrm]
          refine opsR_q rfl (q_pick_f rfl) ?_
          simp only [nrm]
          refine opsR_nil ?_
          refine hk3 _ _ ?_
          clear hk3
          refine run_cond (t := false) rfl (fun h => by cases h) (fun _ => ?_)
          refine run_skip ?_
          refine hk2 _ _ ?_
          clear hk2
          refine run_seq fun _ hk35 => ?_
          have hpos := str_pos (b := b) (by assumption)
          have hlo : ¬ (1 < b.data.toList.length ∧ b.data.toList.head? = some 48) := by
            rintro ⟨q1, q2⟩
            rw [len_toList] at q1
            rw [head_bytes hpos, Option.some.injEq] at q2
            have q3 := (u8_eq (n := 48) (by decide)).1 q2
            first | omega | (simp only [Int.toNat_zero] at *; omega)
          refine run_region ?_
          refine opsR_q rfl (q_assign) ?_
          simp only [nrm]
          refine opsR_nil ?_
          refine hk35 _ _ ?_
          clear hk35
          refine run_seq fun _ hk36 => ?_
          refine run_seq fun _ hk37 => ?_
          refine run_region ?_
          refine opsR_q rfl (q_assign) ?_
          simp only [nrm]
          refine opsR_nil ?_
          refine hk37 _ _ ?_
          clear hk37
          refine run_block ?_
          refine run_loopF [0, 0, 0, 0, 1, 1, 2, 2, 0, 0, 0, 0, 0, 0, 0, 0, 0, 0, 0, 0, 0, 0, 0, 0, 0, 0, 0, 0, 0, 0, 1, 1, 1, 1, 1, 1, 1, 1, 1, 1, 1, 1, 1, 1, 1, 1, 1, 1, 1, 1, 1, 1, 1, 1, 0] (fun zn zL zst => ∃ (i : Nat) (m : Nat), zL = [.int .i64 (m : Nat), .int .i64 (i : Nat)] ∧ s = zst ∧ zn = b.size - i ∧ (i ≤ b.size) ∧ (Lib.decFrom 0 (b.data.toList.take i) = some m)) _ _ ⟨0, 0, rfl, rfl, rfl, by first | assumption | omega | exact Hp.le.rfl | rfl | exact all_zero | exact all_succ (by assumption) (by assumption) | (intro _; omega) | (simp; done), by first | assumption | omega | exact Hp.le.rfl | rfl | exact all_zero | exact all_succ (by assumption) (by assumption) | (intro _; omega) | (simp; done)⟩ rfl ?_
          rintro _ _ _ jv38 ⟨i, m, rfl, rfl, rfl, hi, hm⟩ K38 hkl38
          simp only [fr, Nat.zero_add, Nat.reduceAdd]
          have hu := u8_lt b.data.toList[i]!
          have hmb := fun h => Lib.decFrom_take_lt hm h
          refine run_seq fun _ hk39 => ?_
          refine run_seq fun _ hk40 => ?_
          refine run_region ?_
          refine opsR_q rfl (q_move) ?_
          simp only [nrm]
          refine opsR_q rfl (q_move) ?_
          simp only [nrm]
          refine opsR_q rfl (q_len_str rfl) ?_
          simp only [nrm, Nat.reduceAdd, Nat.reduceMul, Nat.reduceSub, Int.reduceToNat, Int.reduceAdd]
          refine opsR_q rfl (q_lss rfl rfl) ?_
          simp only [nrm, Nat.reduceAdd, Nat.reduceMul, Nat.reduceSub, Int.reduceToNat, Int.reduceAdd]
          refine opsR_nil ?_
          refine hk40 _ _ ?_
          clear hk40
          refine run_cond rfl (fun ho43 => ?_) (fun ho43 => ?_)
          · have hc43 := ho43; try simp only [spl] at hc43
            refine run_skip ?_
            refine hk39 _ _ ?_
            clear hk39
            refine run_seq fun _ hk44 => ?_
            refine run_block ?_
            refine run_seq fun _ hk45 => ?_
            refine run_seq fun _ hk46 => ?_
            refine run_region ?_
            refine opsR_q rfl (q_move) ?_
            simp only [nrm]
            refine opsR_q rfl (q_move) ?_
            simp only [nrm]
            refine opsR_q rfl (q_index_string rfl rfl (by omega) (by omega)) ?_
            simp only [nrm, Nat.reduceAdd, Nat.reduceMul, Nat.reduceSub, Int.reduceToNat, Int.reduceAdd]
            refine opsR_q rfl (q_lss rfl rfl) ?_
            simp only [nrm, Nat.reduceAdd, Nat.reduceMul, Nat.reduceSub, Int.reduceToNat, Int.reduceAdd]
            refine opsR_qb rfl (q_move) (fun hc47 => ?_) (fun hc47 => ?_)
            · have ho47 := hc47; try simp only [spl] at hc47
              simp only [nrm, Nat.reduceAdd, Nat.reduceMul, Nat.reduceSub, Int.reduceToNat, Int.reduceAdd]
              refine opsR_skip rfl ?_
              simp only [nrm, Nat.reduceAdd, Nat.reduceMul, Nat.reduceSub, Int.reduceToNat, Int.reduceAdd]
              refine opsR_skip rfl ?_
              simp only [nrm, Nat.reduceAdd, Nat.reduceMul, Nat.reduceSub, Int.reduceToNat, Int.reduceAdd]
              refine opsR_skip rfl ?_
              simp only [nrm, Nat.reduceAdd, Nat.reduceMul, Nat.reduceSub, Int.reduceToNat, Int.reduceAdd]
              refine opsR_skip rfl ?_
              simp only [nrm, Nat.reduceAdd, Nat.reduceMul, Nat.reduceSub, Int.reduceToNat, Int.reduceAdd]
              refine opsR_q rfl (q_pick_t rfl) ?_
              simp only [nrm]
              refine opsR_nil ?_
              refine hk46 _ _ ?_
              clear hk46
              refine run_cond (t := true) rfl (fun _ => ?_) (fun h => by cases h)
              refine run_seq fun _ hk48 => ?_
              refine run_region ?_
              refine opsR_q rfl (q_assign) ?_
              simp only [nrm]
              refine opsR_q rfl (q_assign) ?_
              simp only [nrm]
              refine opsR_nil ?_
              refine hk48 _ _ ?_
              clear hk48
              refine run_ret ?_
              have hn := whole_stop (dg := dg) (i := i) (by omega) (digit_not (by omega))
              rw [hn] at hK
              exact end_tmp2 rfl rfl rfl rfl (by exact ghA) hK
            · have ho47 := hc47; try simp only [spl] at hc47
              simp only [nrm, Nat.reduceAdd, Nat.reduceMul, Nat.reduceSub, Int.reduceToNat, Int.reduceAdd]
              refine opsR_q rfl (q_move) ?_
              simp only [nrm]
              refine opsR_q rfl (q_move) ?_
              simp only [nrm]
              refine opsR_q rfl (q_index_string rfl rfl (by omega) (by omega)) ?_
              simp only [nrm, Nat.reduceAdd, Nat.reduceMul, Nat.reduceSub, Int.reduceToNat, Int.reduceAdd]
              refine opsR_q rfl (q_gtr rfl rfl) ?_
              simp only [nrm, Nat.reduceAdd, Nat.reduceMul, Nat.reduceSub, Int.reduceToNat, Int.reduceAdd]
              refine opsR_q rfl (q_pick_f rfl) ?_
              simp only [nrm]
              refine opsR_nil ?_
              refine hk46 _ _ ?_
              clear hk46
              refine run_cond rfl (fun ho49 => ?_) (fun ho49 => ?_)
              · have hc49 := ho49; try simp only [spl] at hc49
                refine run_seq fun _ hk50 => ?_
                refine run_region ?_
                refine opsR_q rfl (q_assign) ?_
                simp only [nrm]
                refine opsR_q rfl (q_assign) ?_
                simp only [nrm]
                refine opsR_nil ?_
                refine hk50 _ _ ?_
                clear hk50
                refine run_ret ?_
                have hn := whole_stop (dg := dg) (i := i) (by omega) (digit_not (by omega))
                rw [hn] at hK
                exact end_tmp2 rfl rfl rfl rfl (by exact ghA) hK
              · have hc49 := ho49; try simp only [spl] at hc49
                refine run_skip ?_
                refine hk45 _ _ ?_
                clear hk45
                have hmc := hmb (by omega)
                have w1 := wrap_u8_id (n := (b.data.toList[i]!.toNat : Int) - 48) (by omega) (by omega)
                have w2 := wrap_i64_id (n := (b.data.toList[i]!.toNat : Int) - 48) (by omega) (by omega)
                have w3 : ((m : Int) * 10 + ((b.data.toList[i]!.toNat : Int) - 48)) = ((m * 10 + (b.data.toList[i]!.toNat - 48) : Nat) : Int) := by omega
                refine run_region ?_
                refine opsR_q rfl (q_move) ?_
                simp only [nrm]
                refine opsR_q rfl (by first | exact q_mul64 rfl rfl (by omega) (by omega) | exact q_mul rfl rfl) ?_
                simp only [nrm, Nat.reduceAdd, Nat.reduceMul, Nat.reduceSub, Int.reduceToNat, Int.reduceAdd]
                refine opsR_q rfl (q_move) ?_
                simp only [nrm]
                refine opsR_q rfl (q_move) ?_
                simp only [nrm]
                refine opsR_q rfl (q_index_string rfl rfl (by omega) (by omega)) ?_
                simp only [nrm, Nat.reduceAdd, Nat.reduceMul, Nat.reduceSub, Int.reduceToNat, Int.reduceAdd]
                refine opsR_q rfl (q_sub rfl rfl) ?_
                simp only [nrm, Nat.reduceAdd, Nat.reduceMul, Nat.reduceSub, Int.reduceToNat, Int.reduceAdd]
                rw [w1]
                refine opsR_q rfl (q_conv_int_int rfl) ?_
                simp only [nrm, Nat.reduceAdd, Nat.reduceMul, Nat.reduceSub, Int.reduceToNat, Int.reduceAdd]
                rw [w2]
                refine opsR_q rfl (by first | exact q_add64 rfl rfl (by omega) (by omega) | exact q_add rfl rfl) ?_
                simp only [nrm, Nat.reduceAdd, Nat.reduceMul, Nat.reduceSub, Int.reduceToNat, Int.reduceAdd]
                rw [w3]
                refine opsR_q rfl (q_assign) ?_
                simp only [nrm]
                refine opsR_nil ?_
                refine hk44 _ _ ?_
                clear hk44
                refine run_region ?_
                refine opsR_q rfl (q_move) ?_
                simp only [nrm]
                refine opsR_q rfl (by first | exact q_add64 rfl rfl (by omega) (by omega) | exact q_add rfl rfl) ?_
                simp only [nrm, Nat.reduceAdd, Nat.reduceMul, Nat.reduceSub, Int.reduceToNat, Int.reduceAdd]
                refine opsR_q rfl (q_assign) ?_
                simp only [nrm]
                refine opsR_nil ?_
                first
                | exact hkl38 _ _ _ _ (by omega) ⟨i + 1, m * 10 + (b.data.toList[i]!.toNat - 48), rfl, rfl, rfl, by first | omega | rfl | exact Lib.decFrom_take _ _ _ _ _ _ hm (by rw [getElem!_pos b.data.toList i (by rw [len_toList]; omega)]; simp [len_toList] <;> omega) (digit_of (by omega) (by omega)), by first | omega | rfl | exact Lib.decFrom_take _ _ _ _ _ _ hm (by rw [getElem!_pos b.data.toList i (by rw [len_toList]; omega)]; simp [len_toList] <;> omega) (digit_of (by omega) (by omega))⟩ rfl
          · have hc43 := ho43; try simp only [spl] at hc43
            refine run_exit ?_
            refine hk36 _ _ ?_
            clear hk36
            refine run_seq fun _ hk53 => ?_
            refine run_region ?_
            refine opsR_q rfl (q_move) ?_
            simp only [nrm]
            refine opsR_q rfl (q_assign) ?_
            simp only [nrm]
            refine opsR_q rfl (q_assign) ?_
            simp only [nrm]
            refine opsR_nil ?_
            refine hk53 _ _ ?_
            clear hk53
            refine run_ret ?_
            have hw : whole dg b.data.toList = some m := by
              rw [take_all (by rw [len_toList]; omega)] at hm
              rw [whole, if_neg ?_]
              · exact hm
              · rintro (q | q | q)
                · have := congrArg List.length q; rw [len_toList, List.length_nil] at this; omega
                · rw [len_toList] at q; omega
                · exact hlo q
            rw [hw] at hK
            exact end_tmp2 rfl rfl rfl rfl (by exact ghA) hK
end
end Go.Proofs.YtcnbcblihepbmaaGreatDoor
