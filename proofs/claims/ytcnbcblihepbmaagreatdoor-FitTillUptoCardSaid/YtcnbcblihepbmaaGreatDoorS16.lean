/- Plain facts on lists: the first that fits, whether one does; flags and counts. It holds for every program. -/
import Derived.Test.YtcnbcblihepbmaaGreatDoorS15
set_option autoImplicit false
set_option linter.unusedSimpArgs false
set_option linter.unusedVariables false
set_option linter.unusedSectionVars false
namespace Go.Proofs.YtcnbcblihepbmaaGreatDoor
open Go Go.RowKit
section
variable {α : Type} [Inhabited α]
/-- The place of the first that fits; -1: none. -/
def idxF (p : α → Bool) (xs : List α) : Int := match xs.findIdx? p with | some i => i | none => -1
theorem idxF_found {p : α → Bool} {xs : List α} {i : Nat} (h : ∀ j, j < i → p xs[j]! = false) (hi : i < xs.length) (hp : p xs[i]! = true) : idxF p xs = i := by
  have : xs.findIdx? p = some i := by
    rw [List.findIdx?_eq_some_iff_getElem]
    refine ⟨hi, by rw [← getElem!_pos xs i hi]; exact hp, fun j hj => ?_⟩
    have := h j hj
    rw [getElem!_pos xs j (by omega)] at this
    simp [this]
  unfold idxF; rw [this]
theorem idxF_none {p : α → Bool} {xs : List α} (h : ∀ j, j < xs.length → p xs[j]! = false) : idxF p xs = -1 := by
  have : xs.findIdx? p = none := by
    rw [List.findIdx?_eq_none_iff]
    intro x hx
    obtain ⟨j, hj, rfl⟩ := List.mem_iff_getElem.1 hx
    have := h j hj
    rwa [getElem!_pos xs j hj] at this
  unfold idxF; rw [this]
theorem idxF_cases (p : α → Bool) (xs : List α) : (idxF p xs = -1 ∧ ∀ j, j < xs.length → p xs[j]! = false) ∨ ∃ i : Nat, idxF p xs = i ∧ i < xs.length ∧ p xs[i]! = true ∧ ∀ j, j < i → p xs[j]! = false := by
  cases h : xs.findIdx? p with
  | none =>
    refine .inl ⟨by unfold idxF; rw [h], fun j hj => ?_⟩
    rw [List.findIdx?_eq_none_iff] at h
    rw [getElem!_pos xs j hj]
    exact h _ (List.getElem_mem hj)
  | some i =>
    rw [List.findIdx?_eq_some_iff_getElem] at h
    obtain ⟨hi, h1, h2⟩ := h
    refine .inr ⟨i, idxF_found (fun j hj => ?_) hi (by rw [getElem!_pos xs i hi]; exact h1), hi, by rw [getElem!_pos xs i hi]; exact h1, fun j hj => ?_⟩
    · rw [getElem!_pos xs j (by omega)]; simpa using h2 j hj
    · rw [getElem!_pos xs j (by omega)]; simpa using h2 j hj
theorem any_iff {p : α → Bool} {xs : List α} : xs.any p = true ↔ ∃ j, j < xs.length ∧ p xs[j]! = true := by
  rw [List.any_eq_true]
  constructor
  · rintro ⟨x, hx, hp⟩
    obtain ⟨j, hj, rfl⟩ := List.mem_iff_getElem.1 hx
    exact ⟨j, hj, by rw [getElem!_pos xs j hj]; exact hp⟩
  · rintro ⟨j, hj, hp⟩
    rw [getElem!_pos xs j hj] at hp
    exact ⟨_, List.getElem_mem hj, hp⟩
theorem any_none {p : α → Bool} {xs : List α} (h : ∀ j, j < xs.length → p xs[j]! = false) : xs.any p = false := by
  cases hb : xs.any p with
  | false => rfl
  | true => obtain ⟨j, hj, hp⟩ := any_iff.1 hb; rw [h j hj] at hp; cases hp
theorem any_at {p : α → Bool} {xs : List α} {j : Nat} (hj : j < xs.length) (hp : p xs[j]! = true) : xs.any p = true := any_iff.2 ⟨j, hj, hp⟩
theorem all_none {p : α → Bool} {xs : List α} (h : ∀ j, j < xs.length → p xs[j]! = true) : xs.all p = true := by
  rw [List.all_eq_true]
  intro x hx
  obtain ⟨j, hj, rfl⟩ := List.mem_iff_getElem.1 hx
  rw [← getElem!_pos xs j hj]; exact h j hj
theorem all_at {p : α → Bool} {xs : List α} {j : Nat} (hj : j < xs.length) (hp : p xs[j]! = false) : xs.all p = false := by
  cases hb : xs.all p with
  | false => rfl
  | true => rw [List.all_eq_true] at hb; rw [hb _ (mem_get! hj)] at hp; cases hp
theorem idxF_ge (p : α → Bool) (xs : List α) : decide (idxF p xs ≥ 0) = xs.any p := by
  rcases idxF_cases p xs with ⟨h1, h2⟩ | ⟨i, h1, h2, h3, _⟩
  · rw [h1, any_none h2]; rfl
  · rw [h1, any_at h2 h3, decide_eq_true (by omega)]
theorem any_eq_contains {xs : List α} [DecidableEq α] {x : α} : (xs.any fun y => decide (x = y)) = decide (x ∈ xs) := by
  by_cases h : x ∈ xs
  · rw [decide_eq_true h, List.any_eq_true]; exact ⟨x, h, by simp⟩
  · rw [decide_eq_false h]
    cases hb : (xs.any fun y => decide (x = y)) with
    | false => rfl
    | true =>
      rw [List.any_eq_true] at hb
      obtain ⟨y, hy, e⟩ := hb
      exact absurd (by rw [of_decide_eq_true e]; exact hy) h
theorem take_succ! {xs : List α} {i : Nat} (h : i < xs.length) : xs.take (i + 1) = xs.take i ++ [xs[i]!] := by
  rw [getElem!_pos xs i h, List.take_succ_eq_append_getElem h]
theorem filter_take_yes {xs : List α} {p : α → Bool} {i : Nat} (h : i < xs.length) (hp : p xs[i]! = true) : (xs.take i).filter p ++ [xs[i]!] = (xs.take (i + 1)).filter p := by
  rw [take_succ! h, List.filter_append, List.filter_cons, if_pos hp, List.filter_nil]
theorem filter_take_no {xs : List α} {p : α → Bool} {i : Nat} (h : i < xs.length) (hp : p xs[i]! = false) : (xs.take i).filter p = (xs.take (i + 1)).filter p := by
  rw [take_succ! h, List.filter_append, List.filter_cons, if_neg (by rw [hp]; decide), List.filter_nil, List.append_nil]
theorem take_all {xs : List α} {i : Nat} (h : xs.length ≤ i) : xs.take i = xs := List.take_of_length_le h
theorem get!_append_left {xs ys : List α} {i : Nat} (h : i < xs.length) : (xs ++ ys)[i]! = xs[i]! := by
  rw [getElem!_pos (xs ++ ys) i (by simp; omega), getElem!_pos xs i h, List.getElem_append_left h]
theorem get!_append_right {xs ys : List α} {i : Nat} (h : xs.length ≤ i) (h2 : i < xs.length + ys.length) : (xs ++ ys)[i]! = ys[i - xs.length]! := by
  rw [getElem!_pos (xs ++ ys) i (by simp; omega), getElem!_pos ys _ (by omega), List.getElem_append_right h]
theorem get!_take {xs : List α} {i n : Nat} (h : i < n) (h2 : i < xs.length) : (xs.take n)[i]! = xs[i]! := by
  rw [getElem!_pos (xs.take n) i (by simp; omega), getElem!_pos xs i h2, List.getElem_take]
theorem get!_drop {xs : List α} {i n : Nat} (h2 : n + i < xs.length) : (xs.drop n)[i]! = xs[n + i]! := by
  rw [getElem!_pos (xs.drop n) i (by simp; omega), getElem!_pos xs _ h2, List.getElem_drop]
end
theorem not_true {b : Bool} (h : ¬ b = true) : b = false := by simpa using h
theorem bool_eq {a b : Bool} (h : a = true ↔ b = true) : a = b := by cases a <;> cases b <;> simp_all
end Go.Proofs.YtcnbcblihepbmaaGreatDoor
