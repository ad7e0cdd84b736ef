/- Package strings at texts of plain bytes: sets of bytes, trimming, looking for a byte that does not fit. -/
import Derived.Test.YtlcmlffgebaalaaDoorTy
import Derived.Test.YtlcmlffgebaalaaDoorS17
set_option autoImplicit false
set_option linter.unusedVariables false
set_option linter.unusedSimpArgs false
namespace Go.Proofs.YtlcmlffgebaalaaDoor
open Go Go.RowKit
/-- A set of bytes, as cells. -/
def inSet (cs : List UInt8) (b : UInt8) : Bool := cs.any fun c => decide (c.toNat = b.toNat)
def setOf (cs : List UInt8) : Array Value := (Array.range 256).map fun j => .bool (cs.any fun b => decide (b.toNat = j))
theorem setOf_size (cs : List UInt8) : (setOf cs).size = 256 := by simp [setOf]
theorem setOf_get (cs : List UInt8) (b : UInt8) : (setOf cs)[b.toNat]? = some (.bool (inSet cs b)) := by
  have := u8_lt b
  simp [setOf, inSet, this]
theorem setOf_one (cs : List UInt8) : (setOf cs).toList.all vOne = true := by simp [setOf, vOne]
theorem setOf_nil : setOf [] = Array.replicate 256 (.bool false) := by
  apply Array.ext
  · simp [setOf]
  · intro i h1 h2; simp [setOf]
theorem setOf_snoc (cs : List UInt8) (b : UInt8) : (setOf cs).setIfInBounds b.toNat (.bool true) = setOf (cs ++ [b]) := by
  have := u8_lt b
  apply Array.ext
  · simp [setOf]
  · intro i h1 h2
    have h3 : i < 256 := by simpa [setOf] using h2
    rw [Array.getElem_setIfInBounds (by rw [setOf_size]; exact h3)]
    simp only [setOf, Array.getElem_map, Array.getElem_range, List.any_append, List.any_cons, List.any_nil, Bool.or_false]
    by_cases e : b.toNat = i
    · subst e; simp
    · simp [e]
theorem wr_whole {c A : Array Value} (h : A.size = c.size) : wr c 0 A.toList = A := by
  apply Array.ext_getElem?
  intro i
  rw [wr_get _ _ _ _ (by rw [Array.length_toList]; omega)]
  by_cases hi : i < A.size
  · rw [if_pos (by rw [Array.length_toList]; omega)]; simp
  · rw [if_neg (by rw [Array.length_toList]; omega), Array.getElem?_eq_none (by omega), Array.getElem?_eq_none (by omega)]
def rdrop (q : UInt8 → Bool) (l : List UInt8) : List UInt8 := (l.reverse.dropWhile q).reverse
theorem dropWhile_nil_iff {q : UInt8 → Bool} {l : List UInt8} : l.dropWhile q = [] ↔ l.all q = true := by
  induction l with
  | nil => simp
  | cons x r ih =>
    by_cases h : q x = true
    · simp [List.dropWhile_cons, h, ih]
    · simp [List.dropWhile_cons, h]
theorem trim_nil {q : UInt8 → Bool} {l : List UInt8} : (rdrop q l).dropWhile q = [] ↔ l.all q = true := by
  rw [dropWhile_nil_iff]
  constructor
  · intro h
    have key : ∀ m : List UInt8, (m.dropWhile q).all q = true → m.all q = true := by
      intro m
      induction m with
      | nil => simp
      | cons x r ih =>
        by_cases hx : q x = true
        · rw [List.dropWhile_cons, if_pos hx, List.all_cons, hx]; exact ih
        · rw [List.dropWhile_cons, if_neg hx]; exact id
    have := key l.reverse (by rw [rdrop, List.all_reverse] at h; exact h)
    rwa [List.all_reverse] at this
  · intro h
    have : l.reverse.dropWhile q = [] := dropWhile_nil_iff.2 (by rw [List.all_reverse]; exact h)
    rw [rdrop, this]; rfl
section
attribute [local irreducible] Quiet OpsR Run CallS opS Gh endQ oblE RunN swp
theorem asciiSet_contains_spec {cs : List UInt8} {b : UInt8} {s : St} {bl i : Nat} {e : TypeId} {f : Nat × Nat} [hA : AtB bl s.cs i (.cells (setOf cs) e f)] : CallV Tryd.prog 64 #[.pointer (some ⟨bl, 0, none⟩), .int .u8 b.toNat] s (.bool (inSet cs b)) := by
  intro K hK
  have hlt := u8_lt b
  refine callS_of_run Tryd.func64 rfl ?_; simp only [Tryd.ntmps64, List.size_toArray, List.length_cons, List.length_nil, Nat.reduceAdd, Nat.reduceSub, Array.replicate_succ, Array.replicate_zero, List.push_toArray, List.append_toArray, List.nil_append, List.cons_append]
  refine run_seq fun _ hk1 => ?_
  refine run_region ?_
  refine opsR_q rfl (q_assign) ?_
  simp only [nrm, Nat.reduceAdd, Nat.reduceMul, Nat.reduceSub, Int.reduceToNat, Int.reduceAdd]
  refine opsR_nil ?_
  refine hk1 _ _ ?_
  clear hk1
  refine run_seq fun _ hk2 => ?_
  refine run_region ?_
  refine opsR_q rfl (q_move) ?_
  simp only [nrm, Nat.reduceAdd, Nat.reduceMul, Nat.reduceSub, Int.reduceToNat, Int.reduceAdd]
  refine opsR_q rfl (q_move) ?_
  simp only [nrm, Nat.reduceAdd, Nat.reduceMul, Nat.reduceSub, Int.reduceToNat, Int.reduceAdd]
  refine opsR_q rfl (by first | exact q_nilCheck rfl | exact q_nilCheck_func rfl) ?_
  simp only [nrm, Nat.reduceAdd, Nat.reduceMul, Nat.reduceSub, Int.reduceToNat, Int.reduceAdd]
  refine opsR_q rfl (q_index_arr rfl rfl (by omega) (by omega)) ?_
  simp only [nrm, Nat.reduceAdd, Nat.reduceMul, Nat.reduceSub, Int.reduceToNat, Int.reduceAdd]
  refine opsR_q rfl (q_loadB1 rfl inferInstance (setOf_get cs b)) ?_
  simp only [nrm, Nat.reduceAdd, Nat.reduceMul, Nat.reduceSub, Int.reduceToNat, Int.reduceAdd]
  refine opsR_q rfl (q_assign) ?_
  simp only [nrm, Nat.reduceAdd, Nat.reduceMul, Nat.reduceSub, Int.reduceToNat, Int.reduceAdd]
  refine opsR_nil ?_
  refine hk2 _ _ ?_
  clear hk2
  refine run_ret ?_
  exact end_tmp rfl rfl rfl (by first | exact .refl | exact .drop | exact .drop2 | exact .drop3 | exact .drop4 | exact Gh.drop.trans .drop4 | exact Gh.drop2.trans .drop4 | exact Gh.drop3.trans .drop4) hK
set_option maxHeartbeats 1000000 in
theorem makeASCIISet_spec {c : ByteArray} {s : St} (hc : ∀ b ∈ c.data.toList, b.toNat < 128) (hn : c.size ≤ 9223372036854775807) : CallV Tryd.prog 52 #[.string c] s (.tuple #[.agg (setOf c.data.toList), .bool true]) := by
  intro K hK
  refine callS_of_run Tryd.func52 rfl ?_; simp only [Tryd.ntmps52, List.size_toArray, List.length_cons, List.length_nil, Nat.reduceAdd, Nat.reduceSub, Array.replicate_succ, Array.replicate_zero, List.push_toArray, List.append_toArray, List.nil_append, List.cons_append]
  refine run_seq fun _ hk1 => ?_
  refine run_region ?_
  refine opsR_o rfl (o_alloc fun bA hbA => ?_)
  simp only [nrm, Nat.reduceAdd, Nat.reduceMul, Nat.reduceSub, Int.reduceToNat, Int.reduceAdd]
  rw [← setOf_nil]
  refine opsR_q rfl (q_assign) ?_
  simp only [nrm, Nat.reduceAdd, Nat.reduceMul, Nat.reduceSub, Int.reduceToNat, Int.reduceAdd]
  refine opsR_nil ?_
  refine hk1 _ _ ?_
  clear hk1
  refine run_seq fun _ hk3 => ?_
  refine run_seq fun _ hk4 => ?_
  refine run_region ?_
  refine opsR_q rfl (q_assign) ?_
  simp only [nrm, Nat.reduceAdd, Nat.reduceMul, Nat.reduceSub, Int.reduceToNat, Int.reduceAdd]
  refine opsR_nil ?_
  refine hk4 _ _ ?_
  clear hk4
  refine run_block ?_
  refine run_loopF [0, 0, 0, 1, 2, 1, 1, 1, 1, 1, 1, 1, 1, 1, 1, 1, 1, 1, 1, 1, 0] (fun zn zL zst => ∃ (i : Nat), zL = [.int .i64 (i : Nat)] ∧ ⟨s.I, (bA, .cells (setOf (c.data.toList.take i)) 71 (0, 0)) :: s.cs⟩ = zst ∧ zn = c.size - i ∧ (i ≤ c.size)) _ _ ⟨0, rfl, rfl, rfl, by first | assumption | omega | exact Hp.le.rfl | rfl | exact all_zero | exact all_succ (by assumption) (by assumption) | (intro _; omega) | (simp; done)⟩ rfl ?_
  rintro _ _ _ jv5 ⟨i, rfl, rfl, rfl, hi⟩ K5 hkl5
  simp only [fr, Nat.zero_add, Nat.reduceAdd]
  have hsz := setOf_size (c.data.toList.take i)
  have hu := u8_lt c.data.toList[i]!
  have hs1 := setOf_one (c.data.toList.take i)
  refine run_seq fun _ hk6 => ?_
  refine run_seq fun _ hk7 => ?_
  refine run_region ?_
  refine opsR_q rfl (q_move) ?_
  simp only [nrm, Nat.reduceAdd, Nat.reduceMul, Nat.reduceSub, Int.reduceToNat, Int.reduceAdd]
  refine opsR_q rfl (q_move) ?_
  simp only [nrm, Nat.reduceAdd, Nat.reduceMul, Nat.reduceSub, Int.reduceToNat, Int.reduceAdd]
  refine opsR_q rfl (q_len_str rfl) ?_
  simp only [nrm, Nat.reduceAdd, Nat.reduceMul, Nat.reduceSub, Int.reduceToNat, Int.reduceAdd]
  refine opsR_q rfl (q_lss rfl rfl) ?_
  simp only [nrm, Nat.reduceAdd, Nat.reduceMul, Nat.reduceSub, Int.reduceToNat, Int.reduceAdd]
  refine opsR_nil ?_
  refine hk7 _ _ ?_
  clear hk7
  refine run_cond rfl (fun ho10 => ?_) (fun ho10 => ?_)
  · have hc10 := ho10; try simp only [spl] at hc10
    refine run_skip ?_
    refine hk6 _ _ ?_
    clear hk6
    refine run_seq fun _ hk11 => ?_
    refine run_block ?_
    refine run_seq fun _ hk12 => ?_
    refine run_region ?_
    refine opsR_q rfl (q_move) ?_
    simp only [nrm, Nat.reduceAdd, Nat.reduceMul, Nat.reduceSub, Int.reduceToNat, Int.reduceAdd]
    refine opsR_q rfl (q_move) ?_
    simp only [nrm, Nat.reduceAdd, Nat.reduceMul, Nat.reduceSub, Int.reduceToNat, Int.reduceAdd]
    refine opsR_q rfl (q_index_string rfl rfl (by omega) (by omega)) ?_
    simp only [nrm, Nat.reduceAdd, Nat.reduceMul, Nat.reduceSub, Int.reduceToNat, Int.reduceAdd]
    refine opsR_q rfl (q_assign) ?_
    simp only [nrm, Nat.reduceAdd, Nat.reduceMul, Nat.reduceSub, Int.reduceToNat, Int.reduceAdd]
    refine opsR_nil ?_
    refine hk12 _ _ ?_
    clear hk12
    refine run_seq fun _ hk13 => ?_
    refine run_seq fun _ hk14 => ?_
    have hb := hc _ (mem_bytes (by omega : i < c.size))
    refine run_region ?_
    refine opsR_q rfl (q_move) ?_
    simp only [nrm, Nat.reduceAdd, Nat.reduceMul, Nat.reduceSub, Int.reduceToNat, Int.reduceAdd]
    refine opsR_q rfl (q_geq rfl rfl) ?_
    simp only [nrm, Nat.reduceAdd, Nat.reduceMul, Nat.reduceSub, Int.reduceToNat, Int.reduceAdd]
    refine opsR_nil ?_
    refine hk14 _ _ ?_
    clear hk14
    refine run_cond rfl (fun ho15 => ?_) (fun ho15 => ?_)
    · have hc15 := ho15; try simp only [spl] at hc15
      refine run_seq fun _ hk16 => ?_
      exfalso; omega
    · have hc15 := ho15; try simp only [spl] at hc15
      refine run_skip ?_
      refine hk13 _ _ ?_
      clear hk13
      refine run_region ?_
      refine opsR_q rfl (q_move) ?_
      simp only [nrm, Nat.reduceAdd, Nat.reduceMul, Nat.reduceSub, Int.reduceToNat, Int.reduceAdd]
      refine opsR_q rfl (q_index_arr rfl rfl (by omega) (by omega)) ?_
      simp only [nrm, Nat.reduceAdd, Nat.reduceMul, Nat.reduceSub, Int.reduceToNat, Int.reduceAdd]
      refine opsR_o rfl (o_storeB rfl rfl inferInstance (by first | rfl | assumption) (by first | rfl | exact Kd.one _ (by assumption) | assumption) (by first | rfl | (refine Nat.ble_eq_true_of_le ?_; (try simp only [Int.toNat_natCast]); omega)) ?_)
      simp only [nrm, Nat.reduceAdd, Nat.reduceMul, Nat.reduceSub, Int.reduceToNat, Int.reduceAdd]
      rw [setOf_snoc, take_get! (by rw [size_toList]; omega)]
      refine opsR_nil ?_
      refine hk11 _ _ ?_
      clear hk11
      refine run_region ?_
      refine opsR_q rfl (q_move) ?_
      simp only [nrm, Nat.reduceAdd, Nat.reduceMul, Nat.reduceSub, Int.reduceToNat, Int.reduceAdd]
      refine opsR_q rfl (by first | exact q_add64 rfl rfl (by omega) (by omega) | exact q_add rfl rfl) ?_
      simp only [nrm, Nat.reduceAdd, Nat.reduceMul, Nat.reduceSub, Int.reduceToNat, Int.reduceAdd]
      refine opsR_q rfl (q_assign) ?_
      simp only [nrm, Nat.reduceAdd, Nat.reduceMul, Nat.reduceSub, Int.reduceToNat, Int.reduceAdd]
      refine opsR_nil ?_
      first
      | exact hkl5 _ _ _ _ (by omega) ⟨i + 1, rfl, rfl, rfl, by first | assumption | omega | exact Hp.le.rfl | rfl | exact all_zero | exact all_succ (by assumption) (by assumption) | (intro _; omega) | (simp; done)⟩ rfl
  · have hc10 := ho10; try simp only [spl] at hc10
    refine run_exit ?_
    refine hk3 _ _ ?_
    clear hk3
    refine run_seq fun _ hk18 => ?_
    obtain rfl : i = c.size := by omega
    rw [take_all (by rw [size_toList]; exact Nat.le_refl _)] at hsz hs1 ⊢
    refine run_region ?_
    refine opsR_q rfl (by first | exact q_loadBN rfl inferInstance (by rfl) | exact q_loadBW rfl inferInstance (by assumption)) ?_
    simp only [nrm, Nat.reduceAdd, Nat.reduceMul, Nat.reduceSub, Int.reduceToNat, Int.reduceAdd]
    refine opsR_o rfl (o_storeB rfl rfl inferInstance (by first | rfl | assumption) (by first | rfl | exact Kd.one _ (by assumption) | assumption) (by first | rfl | (refine Nat.ble_eq_true_of_le ?_; (try simp only [Int.toNat_natCast]); omega)) ?_)
    simp only [nrm, Nat.reduceAdd, Nat.reduceMul, Nat.reduceSub, Int.reduceToNat, Int.reduceAdd]
    rw [wr_whole rfl]
    refine opsR_q rfl (q_assign) ?_
    simp only [nrm, Nat.reduceAdd, Nat.reduceMul, Nat.reduceSub, Int.reduceToNat, Int.reduceAdd]
    refine opsR_nil ?_
    refine hk18 _ _ ?_
    clear hk18
    refine run_ret ?_
    exact end_cell_tmp rfl rfl rfl (AtB.has inferInstance) (by first | rfl | assumption) rfl (by first | exact .refl | exact .drop | exact .drop2 | exact .drop3 | exact .drop4 | exact Gh.drop.trans .drop4 | exact Gh.drop2.trans .drop4 | exact Gh.drop3.trans .drop4) hK
def dropS (q : UInt8 → Bool) (b : ByteArray) : ByteArray := strOf (b.data.toList.dropWhile q)
def rdropS (q : UInt8 → Bool) (b : ByteArray) : ByteArray := strOf (rdrop q b.data.toList)
theorem dropS_nil {q : UInt8 → Bool} {b r : ByteArray} (h : r.data.toList.dropWhile q = b.data.toList.dropWhile q) (hr : ¬ 0 < r.size) : r = dropS q b := by
  have hl : r.data.toList = [] := List.eq_nil_of_length_eq_zero (by rw [size_toList]; omega)
  apply str_ext
  rw [dropS, strOf_toList, ← h, hl]; rfl
theorem dropS_stop {q : UInt8 → Bool} {b r : ByteArray} (h : r.data.toList.dropWhile q = b.data.toList.dropWhile q) (hr : 0 < r.size) (hq : q r.data.toList[0]! = false) : r = dropS q b := by
  apply str_ext
  rw [dropS, strOf_toList, ← h]
  cases hl : r.data.toList with
  | nil => have := congrArg List.length hl; rw [size_toList, List.length_nil] at this; omega
  | cons x m =>
    rw [hl] at hq
    have hq' : q x = false := hq
    rw [List.dropWhile_cons, if_neg (by rw [hq']; decide)]
theorem dropS_step {q : UInt8 → Bool} {b r : ByteArray} (h : r.data.toList.dropWhile q = b.data.toList.dropWhile q) (hr : 0 < r.size) (hq : q r.data.toList[0]! = true) : (r.extract 1 r.size).data.toList.dropWhile q = b.data.toList.dropWhile q := by
  rw [← h, extract_toList, List.take_of_length_le (by rw [size_toList]; exact Nat.le_refl _)]
  cases hl : r.data.toList with
  | nil => rfl
  | cons x m =>
    rw [hl] at hq
    have hq' : q x = true := hq
    rw [List.drop_succ_cons, List.drop_zero, List.dropWhile_cons, if_pos hq']
theorem trimLeftASCII_spec {c : List UInt8} {b : ByteArray} {s : St} {bl i : Nat} {e : TypeId} {f : Nat × Nat} [hA : AtB bl s.cs i (.cells (setOf c) e f)] (hn : b.size ≤ 9223372036854775807) : CallV Tryd.prog 53 #[.string b, .pointer (some ⟨bl, 0, none⟩)] s (.string (dropS (inSet c) b)) := by
  intro K hK
  refine callS_of_run Tryd.func53 rfl ?_; simp only [Tryd.ntmps53, List.size_toArray, List.length_cons, List.length_nil, Nat.reduceAdd, Nat.reduceSub, Array.replicate_succ, Array.replicate_zero, List.push_toArray, List.append_toArray, List.nil_append, List.cons_append]
  refine run_seq fun _ hk1 => ?_
  refine run_region ?_
  refine opsR_q rfl (q_assign) ?_
  simp only [nrm, Nat.reduceAdd, Nat.reduceMul, Nat.reduceSub, Int.reduceToNat, Int.reduceAdd]
  refine opsR_nil ?_
  refine hk1 _ _ ?_
  clear hk1
  refine run_seq fun _ hk2 => ?_
  refine run_block ?_
  refine run_loopF [2, 0, 0, 0, 0, 1, 1, 1, 1, 1, 1, 1, 1, 1, 1, 0] (fun zn zL zst => ∃ (r : ByteArray), zL = [.string r] ∧ s = zst ∧ zn = r.size ∧ (r.data.toList.dropWhile (inSet c) = b.data.toList.dropWhile (inSet c)) ∧ (r.size ≤ b.size)) _ _ ⟨b, rfl, rfl, rfl, by first | assumption | omega | exact Hp.le.rfl | rfl | exact all_zero | exact all_succ (by assumption) (by assumption) | (intro _; omega) | (simp; done), by first | assumption | omega | exact Hp.le.rfl | rfl | exact all_zero | exact all_succ (by assumption) (by assumption) | (intro _; omega) | (simp; done)⟩ rfl ?_
  rintro _ _ _ jv3 ⟨r, rfl, rfl, rfl, hr, hs⟩ K3 hkl3
  simp only [fr, Nat.zero_add, Nat.reduceAdd]
  have hex : 0 < r.size → (r.extract 1 r.size).size = r.size - 1 := fun h => extract_size (by omega) (Nat.le_refl _)
  refine run_seq fun _ hk4 => ?_
  refine run_seq fun _ hk5 => ?_
  refine run_region ?_
  refine opsR_q rfl (q_move) ?_
  simp only [nrm, Nat.reduceAdd, Nat.reduceMul, Nat.reduceSub, Int.reduceToNat, Int.reduceAdd]
  refine opsR_q rfl (q_len_str rfl) ?_
  simp only [nrm, Nat.reduceAdd, Nat.reduceMul, Nat.reduceSub, Int.reduceToNat, Int.reduceAdd]
  refine opsR_q rfl (q_gtr rfl rfl) ?_
  simp only [nrm, Nat.reduceAdd, Nat.reduceMul, Nat.reduceSub, Int.reduceToNat, Int.reduceAdd]
  refine opsR_nil ?_
  refine hk5 _ _ ?_
  clear hk5
  refine run_cond rfl (fun ho7 => ?_) (fun ho7 => ?_)
  · have hc7 := ho7; try simp only [spl] at hc7
    refine run_skip ?_
    refine hk4 _ _ ?_
    clear hk4
    refine run_block ?_
    refine run_seq fun _ hk8 => ?_
    refine run_seq fun _ hk9 => ?_
    refine run_region ?_
    refine opsR_q rfl (q_move) ?_
    simp only [nrm, Nat.reduceAdd, Nat.reduceMul, Nat.reduceSub, Int.reduceToNat, Int.reduceAdd]
    refine opsR_q rfl (q_move) ?_
    simp only [nrm, Nat.reduceAdd, Nat.reduceMul, Nat.reduceSub, Int.reduceToNat, Int.reduceAdd]
    refine opsR_q rfl (q_index_string rfl rfl (by omega) (by omega)) ?_
    simp only [nrm, Nat.reduceAdd, Nat.reduceMul, Nat.reduceSub, Int.reduceToNat, Int.reduceAdd]
    refine opsR_q rfl (q_call rfl (asciiSet_contains_spec)) ?_
    simp only [nrm, Nat.reduceAdd, Nat.reduceMul, Nat.reduceSub, Int.reduceToNat, Int.reduceAdd]
    refine opsR_q rfl (q_not rfl) ?_
    simp only [nrm, Nat.reduceAdd, Nat.reduceMul, Nat.reduceSub, Int.reduceToNat, Int.reduceAdd]
    refine opsR_nil ?_
    refine hk9 _ _ ?_
    clear hk9
    refine run_cond rfl (fun ho11 => ?_) (fun ho11 => ?_)
    · have hc11 := ho11; try simp only [spl] at hc11
      refine run_exit ?_
      refine hk2 _ _ ?_
      clear hk2
      refine run_seq fun _ hk12 => ?_
      refine run_region ?_
      refine opsR_q rfl (q_move) ?_
      simp only [nrm, Nat.reduceAdd, Nat.reduceMul, Nat.reduceSub, Int.reduceToNat, Int.reduceAdd]
      refine opsR_q rfl (q_assign) ?_
      simp only [nrm, Nat.reduceAdd, Nat.reduceMul, Nat.reduceSub, Int.reduceToNat, Int.reduceAdd]
      refine opsR_nil ?_
      refine hk12 _ _ ?_
      clear hk12
      refine run_ret ?_
      first | exact end_tmp rfl rfl rfl .refl (eqK hK (congrArg Go.Value.string (dropS_nil (by assumption) (by omega)).symm)) | exact end_tmp rfl rfl rfl .refl (eqK hK (congrArg Go.Value.string (dropS_stop (by assumption) (by omega) (by assumption)).symm))
    · have hc11 := ho11; try simp only [spl] at hc11
      refine run_skip ?_
      refine hk8 _ _ ?_
      clear hk8
      refine run_region ?_
      refine opsR_q rfl (q_move) ?_
      simp only [nrm, Nat.reduceAdd, Nat.reduceMul, Nat.reduceSub, Int.reduceToNat, Int.reduceAdd]
      refine opsR_q rfl (by exact q_slice_string rfl ⟨_, _, rfl, (by first | omega | ((try simp only [List.length_append, List.length_cons, List.length_nil, List.length_set, List.length_replicate, List.length_take, List.length_drop, List.length_map] at *); omega)), rfl⟩ rfl (by first | omega | ((try simp only [List.length_append, List.length_cons, List.length_nil, List.length_set, List.length_replicate, List.length_take, List.length_drop, List.length_map] at *); omega)) (by first | omega | ((try simp only [List.length_append, List.length_cons, List.length_nil, List.length_set, List.length_replicate, List.length_take, List.length_drop, List.length_map] at *); omega))) ?_
      simp only [nrm, Nat.reduceAdd, Nat.reduceMul, Nat.reduceSub, Int.reduceToNat, Int.reduceAdd]
      refine opsR_q rfl (q_assign) ?_
      simp only [nrm, Nat.reduceAdd, Nat.reduceMul, Nat.reduceSub, Int.reduceToNat, Int.reduceAdd]
      refine opsR_nil ?_
      first
      | exact hkl3 _ _ _ _ (by omega) ⟨_, rfl, rfl, rfl, by first | exact dropS_step (by assumption) (by omega) (by assumption) | (rw [extract_size (by omega) (Nat.le_refl _)]; omega), by first | exact dropS_step (by assumption) (by omega) (by assumption) | (rw [extract_size (by omega) (Nat.le_refl _)]; omega)⟩ rfl
  · have hc7 := ho7; try simp only [spl] at hc7
    refine run_exit ?_
    refine hk2 _ _ ?_
    clear hk2
    refine run_seq fun _ hk14 => ?_
    refine run_region ?_
    refine opsR_q rfl (q_move) ?_
    simp only [nrm, Nat.reduceAdd, Nat.reduceMul, Nat.reduceSub, Int.reduceToNat, Int.reduceAdd]
    refine opsR_q rfl (q_assign) ?_
    simp only [nrm, Nat.reduceAdd, Nat.reduceMul, Nat.reduceSub, Int.reduceToNat, Int.reduceAdd]
    refine opsR_nil ?_
    refine hk14 _ _ ?_
    clear hk14
    refine run_ret ?_
    first | exact end_tmp rfl rfl rfl .refl (eqK hK (congrArg Go.Value.string (dropS_nil (by assumption) (by omega)).symm)) | exact end_tmp rfl rfl rfl .refl (eqK hK (congrArg Go.Value.string (dropS_stop (by assumption) (by omega) (by assumption)).symm))
theorem rdrop_snoc {q : UInt8 → Bool} (l : List UInt8) (x : UInt8) : rdrop q (l ++ [x]) = if q x then rdrop q l else l ++ [x] := by
  unfold rdrop
  rw [List.reverse_append, List.reverse_singleton, List.singleton_append, List.dropWhile_cons]
  split
  · rfl
  · simp
theorem rdropS_nil {q : UInt8 → Bool} {b r : ByteArray} (h : rdrop q r.data.toList = rdrop q b.data.toList) (hr : ¬ 0 < r.size) : r = rdropS q b := by
  have hl : r.data.toList = [] := List.eq_nil_of_length_eq_zero (by rw [size_toList]; omega)
  apply str_ext
  rw [rdropS, strOf_toList, ← h, hl]; rfl
theorem rdropS_stop {q : UInt8 → Bool} {b r : ByteArray} (h : rdrop q r.data.toList = rdrop q b.data.toList) (hr : 0 < r.size) (hq : q r.data.toList[r.size - 1]! = false) : r = rdropS q b := by
  apply str_ext
  rw [rdropS, strOf_toList, ← h]
  rw [last_split hr, rdrop_snoc, if_neg (by rw [hq]; decide)]
theorem rdropS_step {q : UInt8 → Bool} {b r : ByteArray} (h : rdrop q r.data.toList = rdrop q b.data.toList) (hr : 0 < r.size) (hq : q r.data.toList[r.size - 1]! = true) : rdrop q (r.extract 0 (r.size - 1)).data.toList = rdrop q b.data.toList := by
  rw [← h, extract_toList, List.drop_zero]
  rw [last_split hr, rdrop_snoc, if_pos hq, ← last_split hr]
theorem trimRightASCII_spec {c : List UInt8} {b : ByteArray} {s : St} {bl i : Nat} {e : TypeId} {f : Nat × Nat} [hA : AtB bl s.cs i (.cells (setOf c) e f)] (hn : b.size ≤ 9223372036854775807) : CallV Tryd.prog 54 #[.string b, .pointer (some ⟨bl, 0, none⟩)] s (.string (rdropS (inSet c) b)) := by
  intro K hK
  refine callS_of_run Tryd.func54 rfl ?_; simp only [Tryd.ntmps54, List.size_toArray, List.length_cons, List.length_nil, Nat.reduceAdd, Nat.reduceSub, Array.replicate_succ, Array.replicate_zero, List.push_toArray, List.append_toArray, List.nil_append, List.cons_append]
  refine run_seq fun _ hk1 => ?_
  refine run_region ?_
  refine opsR_q rfl (q_assign) ?_
  simp only [nrm, Nat.reduceAdd, Nat.reduceMul, Nat.reduceSub, Int.reduceToNat, Int.reduceAdd]
  refine opsR_nil ?_
  refine hk1 _ _ ?_
  clear hk1
  refine run_seq fun _ hk2 => ?_
  refine run_block ?_
  refine run_loopF [2, 0, 0, 0, 0, 1, 1, 1, 1, 1, 1, 1, 1, 1, 1, 1, 1, 1, 1, 1, 1, 0] (fun zn zL zst => ∃ (r : ByteArray), zL = [.string r] ∧ s = zst ∧ zn = r.size ∧ (rdrop (inSet c) r.data.toList = rdrop (inSet c) b.data.toList) ∧ (r.size ≤ b.size)) _ _ ⟨b, rfl, rfl, rfl, by first | assumption | omega | exact Hp.le.rfl | rfl | exact all_zero | exact all_succ (by assumption) (by assumption) | (intro _; omega) | (simp; done), by first | assumption | omega | exact Hp.le.rfl | rfl | exact all_zero | exact all_succ (by assumption) (by assumption) | (intro _; omega) | (simp; done)⟩ rfl ?_
  rintro _ _ _ jv3 ⟨r, rfl, rfl, rfl, hr, hs⟩ K3 hkl3
  simp only [fr, Nat.zero_add, Nat.reduceAdd]
  have hex : 0 < r.size → (r.extract 0 (r.size - 1)).size = r.size - 1 := fun h => by rw [extract_size (by omega) (by omega)]; omega
  have hin : 0 < r.size → ((r.size : Int) - 1).toNat = r.size - 1 := fun h => by omega
  refine run_seq fun _ hk4 => ?_
  refine run_seq fun _ hk5 => ?_
  refine run_region ?_
  refine opsR_q rfl (q_move) ?_
  simp only [nrm, Nat.reduceAdd, Nat.reduceMul, Nat.reduceSub, Int.reduceToNat, Int.reduceAdd]
  refine opsR_q rfl (q_len_str rfl) ?_
  simp only [nrm, Nat.reduceAdd, Nat.reduceMul, Nat.reduceSub, Int.reduceToNat, Int.reduceAdd]
  refine opsR_q rfl (q_gtr rfl rfl) ?_
  simp only [nrm, Nat.reduceAdd, Nat.reduceMul, Nat.reduceSub, Int.reduceToNat, Int.reduceAdd]
  refine opsR_nil ?_
  refine hk5 _ _ ?_
  clear hk5
  refine run_cond rfl (fun ho7 => ?_) (fun ho7 => ?_)
  · have hc7 := ho7; try simp only [spl] at hc7
    refine run_skip ?_
    refine hk4 _ _ ?_
    clear hk4
    refine run_block ?_
    refine run_seq fun _ hk8 => ?_
    refine run_seq fun _ hk9 => ?_
    refine run_region ?_
    refine opsR_q rfl (q_move) ?_
    simp only [nrm, Nat.reduceAdd, Nat.reduceMul, Nat.reduceSub, Int.reduceToNat, Int.reduceAdd]
    refine opsR_q rfl (q_move) ?_
    simp only [nrm, Nat.reduceAdd, Nat.reduceMul, Nat.reduceSub, Int.reduceToNat, Int.reduceAdd]
    refine opsR_q rfl (q_move) ?_
    simp only [nrm, Nat.reduceAdd, Nat.reduceMul, Nat.reduceSub, Int.reduceToNat, Int.reduceAdd]
    refine opsR_q rfl (q_len_str rfl) ?_
    simp only [nrm, Nat.reduceAdd, Nat.reduceMul, Nat.reduceSub, Int.reduceToNat, Int.reduceAdd]
    refine opsR_q rfl (by first | exact q_sub64 rfl rfl (by omega) (by omega) | exact q_sub rfl rfl) ?_
    simp only [nrm, Nat.reduceAdd, Nat.reduceMul, Nat.reduceSub, Int.reduceToNat, Int.reduceAdd]
    refine opsR_q rfl (q_index_string rfl rfl (by omega) (by omega)) ?_
    simp only [nrm, Nat.reduceAdd, Nat.reduceMul, Nat.reduceSub, Int.reduceToNat, Int.reduceAdd]
    rw [hin (by omega)]
    refine opsR_q rfl (q_call rfl (asciiSet_contains_spec)) ?_
    simp only [nrm, Nat.reduceAdd, Nat.reduceMul, Nat.reduceSub, Int.reduceToNat, Int.reduceAdd]
    refine opsR_q rfl (q_not rfl) ?_
    simp only [nrm, Nat.reduceAdd, Nat.reduceMul, Nat.reduceSub, Int.reduceToNat, Int.reduceAdd]
    refine opsR_nil ?_
    refine hk9 _ _ ?_
    clear hk9
    refine run_cond rfl (fun ho11 => ?_) (fun ho11 => ?_)
    · have hc11 := ho11; try simp only [spl] at hc11
      refine run_exit ?_
      refine hk2 _ _ ?_
      clear hk2
      refine run_seq fun _ hk12 => ?_
      refine run_region ?_
      refine opsR_q rfl (q_move) ?_
      simp only [nrm, Nat.reduceAdd, Nat.reduceMul, Nat.reduceSub, Int.reduceToNat, Int.reduceAdd]
      refine opsR_q rfl (q_assign) ?_
      simp only [nrm, Nat.reduceAdd, Nat.reduceMul, Nat.reduceSub, Int.reduceToNat, Int.reduceAdd]
      refine opsR_nil ?_
      refine hk12 _ _ ?_
      clear hk12
      refine run_ret ?_
      first | exact end_tmp rfl rfl rfl .refl (eqK hK (congrArg Go.Value.string (rdropS_nil (by assumption) (by omega)).symm)) | exact end_tmp rfl rfl rfl .refl (eqK hK (congrArg Go.Value.string (rdropS_stop (by assumption) (by omega) (by assumption)).symm))
    · have hc11 := ho11; try simp only [spl] at hc11
      refine run_skip ?_
      refine hk8 _ _ ?_
      clear hk8
      refine run_region ?_
      refine opsR_q rfl (q_move) ?_
      simp only [nrm, Nat.reduceAdd, Nat.reduceMul, Nat.reduceSub, Int.reduceToNat, Int.reduceAdd]
      refine opsR_q rfl (q_move) ?_
      simp only [nrm, Nat.reduceAdd, Nat.reduceMul, Nat.reduceSub, Int.reduceToNat, Int.reduceAdd]
      refine opsR_q rfl (q_len_str rfl) ?_
      simp only [nrm, Nat.reduceAdd, Nat.reduceMul, Nat.reduceSub, Int.reduceToNat, Int.reduceAdd]
      refine opsR_q rfl (by first | exact q_sub64 rfl rfl (by omega) (by omega) | exact q_sub rfl rfl) ?_
      simp only [nrm, Nat.reduceAdd, Nat.reduceMul, Nat.reduceSub, Int.reduceToNat, Int.reduceAdd]
      refine opsR_q rfl (by exact q_slice_string rfl rfl ⟨_, _, rfl, (by first | omega | ((try simp only [List.length_append, List.length_cons, List.length_nil, List.length_set, List.length_replicate, List.length_take, List.length_drop, List.length_map] at *); omega)), rfl⟩ (by first | omega | ((try simp only [List.length_append, List.length_cons, List.length_nil, List.length_set, List.length_replicate, List.length_take, List.length_drop, List.length_map] at *); omega)) (by first | omega | ((try simp only [List.length_append, List.length_cons, List.length_nil, List.length_set, List.length_replicate, List.length_take, List.length_drop, List.length_map] at *); omega))) ?_
      simp only [nrm, Nat.reduceAdd, Nat.reduceMul, Nat.reduceSub, Int.reduceToNat, Int.reduceAdd]
      rw [hin (by omega)]
      refine opsR_q rfl (q_assign) ?_
      simp only [nrm, Nat.reduceAdd, Nat.reduceMul, Nat.reduceSub, Int.reduceToNat, Int.reduceAdd]
      refine opsR_nil ?_
      first
      | exact hkl3 _ _ _ _ (by omega) ⟨_, rfl, rfl, rfl, by first | exact rdropS_step (by assumption) (by omega) (by assumption) | (rw [extract_size (by omega) (by omega)]; omega), by first | exact rdropS_step (by assumption) (by omega) (by assumption) | (rw [extract_size (by omega) (by omega)]; omega)⟩ rfl
  · have hc7 := ho7; try simp only [spl] at hc7
    refine run_exit ?_
    refine hk2 _ _ ?_
    clear hk2
    refine run_seq fun _ hk14 => ?_
    refine run_region ?_
    refine opsR_q rfl (q_move) ?_
    simp only [nrm, Nat.reduceAdd, Nat.reduceMul, Nat.reduceSub, Int.reduceToNat, Int.reduceAdd]
    refine opsR_q rfl (q_assign) ?_
    simp only [nrm, Nat.reduceAdd, Nat.reduceMul, Nat.reduceSub, Int.reduceToNat, Int.reduceAdd]
    refine opsR_nil ?_
    refine hk14 _ _ ?_
    clear hk14
    refine run_ret ?_
    first | exact end_tmp rfl rfl rfl .refl (eqK hK (congrArg Go.Value.string (rdropS_nil (by assumption) (by omega)).symm)) | exact end_tmp rfl rfl rfl .refl (eqK hK (congrArg Go.Value.string (rdropS_stop (by assumption) (by omega) (by assumption)).symm))
end
end Go.Proofs.YtlcmlffgebaalaaDoor
