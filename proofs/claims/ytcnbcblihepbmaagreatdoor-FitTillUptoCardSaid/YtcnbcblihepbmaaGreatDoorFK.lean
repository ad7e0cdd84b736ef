/- Package fit: why a pod may not stand on a node, in plain terms. -/
import Derived.Test.YtcnbcblihepbmaaGreatDoorTAS
import Derived.Test.YtcnbcblihepbmaaGreatDoorLD
import Derived.Test.YtcnbcblihepbmaaGreatDoorRES
import Derived.Test.YtcnbcblihepbmaaGreatDoorQR
set_option autoImplicit false
set_option linter.unusedVariables false
set_option linter.unusedSimpArgs false
namespace Go.Proofs.YtcnbcblihepbmaaGreatDoor
open Go Go.RowKit
def clashOf (ports used : List Int) : Bool := ports.any fun n => decide (n ∈ used)
def whyOf (p : Pod) (x : Info) : Nat → Bool
  | 0 => x.Node.Off
  | 1 => isKept x.Node.Taints p.Bears
  | 2 => !matchOf x.Node.Labels p.Asks
  | 3 => clashOf p.Ports x.Ports
  | 4 => decide ((x.Names.length : Int) ≥ x.Node.Pods)
  | 5 => decide (Q.clamp p.Want.CPU > Q.sub x.Node.Give.CPU x.Used.CPU)
  | 6 => decide (Q.clamp p.Want.Mem > Q.sub x.Node.Give.Mem x.Used.Mem)
  | _ => decide (Q.clamp p.Want.Disk > Q.sub x.Node.Give.Disk x.Used.Disk)
def allN (p : Pod) (x : Info) (n : Nat) : List Int := ((List.range n).filter (whyOf p x)).map fun k : Nat => (k : Int) + 1
def allOf (p : Pod) (x : Info) : List Int := allN p x 8
def whyFirst (p : Pod) (x : Info) : Int := (allOf p x).headD 0
@[simp] theorem allN_zero (p : Pod) (x : Info) : allN p x 0 = [] := rfl
theorem allN_yes {p : Pod} {x : Info} {n : Nat} (h : whyOf p x n = true) : allN p x n ++ [(n : Int) + 1] = allN p x (n + 1) := by
  rw [allN, allN, List.range_succ, List.filter_append, List.filter_cons, if_pos h, List.map_append]; rfl
theorem allN_no {p : Pod} {x : Info} {n : Nat} (h : whyOf p x n = false) : allN p x n = allN p x (n + 1) := by
  rw [allN, allN, List.range_succ, List.filter_append, List.filter_cons, if_neg (by rw [h]; decide), List.filter_nil, List.append_nil]
theorem allN_len (p : Pod) (x : Info) (n : Nat) : (allN p x n).length ≤ n := by
  rw [allN, List.length_map]
  have := List.length_filter_le (whyOf p x) (List.range n)
  rw [List.length_range] at this; exact this
theorem allN_none {p : Pod} {x : Info} {n : Nat} (h : ∀ j, j < n → whyOf p x j = false) : allN p x n = [] := by
  induction n with
  | zero => rfl
  | succ n ih => rw [← allN_no (h n (by omega))]; exact ih fun j hj => h j (by omega)
theorem allN_mono (p : Pod) (x : Info) (n : Nat) : ∀ m, ∃ r, allN p x (n + m) = allN p x n ++ r := by
  intro m
  induction m with
  | zero => exact ⟨[], by simp⟩
  | succ m ih =>
    obtain ⟨r, hr⟩ := ih
    cases hw : whyOf p x (n + m) with
    | true => exact ⟨r ++ [((n + m : Nat) : Int) + 1], by rw [show n + (m + 1) = n + m + 1 from rfl, ← allN_yes hw, hr, List.append_assoc]⟩
    | false => exact ⟨r, by rw [show n + (m + 1) = n + m + 1 from rfl, ← allN_no hw, hr]⟩
theorem first_at {p : Pod} {x : Info} {i : Nat} (hi : i < 8) (hj : ∀ j, j < i → whyOf p x j = false) (h : whyOf p x i = true) : whyFirst p x = (i : Int) + 1 := by
  have e := allN_none hj
  have e2 := allN_yes h
  rw [e] at e2
  obtain ⟨r, hr⟩ := allN_mono p x (i + 1) (8 - (i + 1))
  rw [show i + 1 + (8 - (i + 1)) = 8 by omega, ← e2] at hr
  rw [whyFirst, allOf, hr]; rfl
theorem first_none {p : Pod} {x : Info} (hj : ∀ j, j < 8 → whyOf p x j = false) : whyFirst p x = 0 := by rw [whyFirst, allOf, allN_none hj]; rfl
theorem first_zero {p : Pod} {x : Info} : whyFirst p x = 0 ↔ ∀ j, j < 8 → whyOf p x j = false := by
  constructor
  · intro h j hj
    cases hw : whyOf p x j with
    | false => rfl
    | true =>
      exfalso
      have : ∃ i, i < 8 ∧ whyOf p x i = true ∧ ∀ k, k < i → whyOf p x k = false := by
        refine Classical.byContradiction fun hc => ?_
        have key : ∀ n k, k < n → k < 8 → whyOf p x k = false := by
          intro n
          induction n with
          | zero => intro k hk; omega
          | succ n ih =>
            intro k hk hk8
            cases hk2 : whyOf p x k with
            | false => rfl
            | true => exact absurd ⟨k, hk8, hk2, fun m hm => ih m (by omega) (by omega)⟩ hc
        have := key 8 j hj hj
        rw [this] at hw; cases hw
      obtain ⟨i, h1, h2, h3⟩ := this
      have := first_at h1 h3 h2
      omega
  · exact first_none
theorem mem_all {p : Pod} {x : Info} {n : Int} : n ∈ allOf p x ↔ ∃ k : Nat, k < 8 ∧ whyOf p x k = true ∧ n = (k : Int) + 1 := by
  simp only [allOf, allN, List.mem_map, List.mem_filter, List.mem_range]
  constructor
  · rintro ⟨k, ⟨h1, h2⟩, rfl⟩; exact ⟨k, h1, h2, rfl⟩
  · rintro ⟨k, h1, h2, rfl⟩; exact ⟨k, ⟨h1, h2⟩, rfl⟩
/-- More wanted, or more used, is not borne where less was not. -/
theorem why_want {p : Pod} {x : Info} {m : Res} {k : Nat} (h : whyOf p x k = true) : whyOf { p with Want := Res.plus p.Want m } x k = true := by
  have key : ∀ w m : Int, Q.clamp w ≤ Q.clamp (Q.add w m) := by
    intro w m; unfold Q.add Q.clamp; omega
  match k, h with
  | 0, h => exact h
  | 1, h => exact h
  | 2, h => exact h
  | 3, h => exact h
  | 4, h => exact h
  | 5, h => exact decide_eq_true (Int.lt_of_lt_of_le (of_decide_eq_true h) (key p.Want.CPU m.CPU))
  | 6, h => exact decide_eq_true (Int.lt_of_lt_of_le (of_decide_eq_true h) (key p.Want.Mem m.Mem))
  | _ + 7, h => exact decide_eq_true (Int.lt_of_lt_of_le (of_decide_eq_true h) (key p.Want.Disk m.Disk))
theorem why_used {p : Pod} {x : Info} {m : Res} {k : Nat} (h : whyOf p x k = true) : whyOf p { x with Used := Res.plus x.Used m } k = true := by
  have key : ∀ g u m : Int, Q.sub g (Q.add u m) ≤ Q.sub g u := by
    intro g u m; unfold Q.sub Q.add Q.clamp; omega
  match k, h with
  | 0, h => exact h
  | 1, h => exact h
  | 2, h => exact h
  | 3, h => exact h
  | 4, h => exact h
  | 5, h => exact decide_eq_true (Int.lt_of_le_of_lt (key x.Node.Give.CPU x.Used.CPU m.CPU) (of_decide_eq_true h))
  | 6, h => exact decide_eq_true (Int.lt_of_le_of_lt (key x.Node.Give.Mem x.Used.Mem m.Mem) (of_decide_eq_true h))
  | _ + 7, h => exact decide_eq_true (Int.lt_of_le_of_lt (key x.Node.Give.Disk x.Used.Disk m.Disk) (of_decide_eq_true h))
/-- An info after so many more pods alike. -/
def infoN (p : Pod) (x : Info) : Nat → Info
  | 0 => x
  | n + 1 => let y := infoN p x n; { y with Names := y.Names ++ [p.Name], Ports := y.Ports ++ p.Ports, Used := Res.plus y.Used p.Want }
def infoR (p : Pod) (x : Info) : Nat → Info
  | 0 => x
  | n + 1 => let y := infoR p x n; { y with Names := y.Names ++ [⟨#[]⟩], Ports := y.Ports ++ p.Ports, Used := Res.plus y.Used p.Want }
theorem info_same (p : Pod) (x : Info) (n : Nat) : (infoR p x n).Node = (infoN p x n).Node ∧ (infoR p x n).Names.length = (infoN p x n).Names.length ∧ (infoR p x n).Ports = (infoN p x n).Ports ∧ (infoR p x n).Used = (infoN p x n).Used := by
  induction n with
  | zero => exact ⟨rfl, rfl, rfl, rfl⟩
  | succ n ih =>
    obtain ⟨h1, h2, h3, h4⟩ := ih
    simp only [infoR, infoN]
    exact ⟨h1, by rw [List.length_append, List.length_append, h2]; rfl, by rw [h3], by rw [h4]⟩
theorem why_same (p : Pod) (x : Info) (n k : Nat) : whyOf p (infoR p x n) k = whyOf p (infoN p x n) k := by
  obtain ⟨h1, h2, h3, h4⟩ := info_same p x n
  match k with
  | 0 => simp only [whyOf, h1]
  | 1 => simp only [whyOf, h1]
  | 2 => simp only [whyOf, h1]
  | 3 => simp only [whyOf, h3]
  | 4 => simp only [whyOf, h1, h2]
  | 5 => simp only [whyOf, h1, h4]
  | 6 => simp only [whyOf, h1, h4]
  | _ + 7 => simp only [whyOf, h1, h4]
theorem first_same (p : Pod) (x : Info) (n : Nat) : whyFirst p (infoR p x n) = whyFirst p (infoN p x n) := by
  have : allOf p (infoR p x n) = allOf p (infoN p x n) := by
    unfold allOf allN
    rw [show whyOf p (infoR p x n) = whyOf p (infoN p x n) from funext (why_same p x n)]
  rw [whyFirst, this]; rfl
theorem infoN_sizes (p : Pod) (x : Info) (n : Nat) : (infoN p x n).Node = x.Node ∧ (infoN p x n).Disks = x.Disks ∧ (infoN p x n).Names.length = x.Names.length + n ∧ (infoN p x n).Ports.length = x.Ports.length + n * p.Ports.length := by
  induction n with
  | zero => exact ⟨rfl, rfl, rfl, by simp [infoN]⟩
  | succ n ih =>
    obtain ⟨h1, h2, h3, h4⟩ := ih
    simp only [infoN]
    refine ⟨h1, h2, by rw [List.length_append, h3]; simp; omega, by rw [List.length_append, h4, Nat.succ_mul]; omega⟩
/-- How many find room: the first number at which one does not, or the limit. -/
def roomFrom (p : Pod) (x : Info) : Nat → Nat → Nat
  | 0, n => n
  | f + 1, n => if whyFirst p (infoN p x n) = 0 then roomFrom p x f (n + 1) else n
def roomOf (p : Pod) (x : Info) (limit : Int) : Int := (roomFrom p x (min (max limit 0) 1000).toNat 0 : Nat)
theorem room_go {p : Pod} {x : Info} {f n : Nat} (h : whyFirst p (infoN p x n) = 0) (hf : 0 < f) : roomFrom p x f n = roomFrom p x (f - 1) (n + 1) := by
  match f, hf with
  | f + 1, _ => rw [roomFrom, if_pos h]; rfl
theorem room_no {p : Pod} {x : Info} {f n : Nat} (h : ¬ whyFirst p (infoN p x n) = 0) : roomFrom p x f n = n := by
  cases f with
  | zero => rfl
  | succ f => rw [roomFrom, if_neg h]
end Go.Proofs.YtcnbcblihepbmaaGreatDoor
