/- Totals: the plain law. -/
import Derived.Test.YtopimbpclgejhaaGreatDoorMT
import Derived.Test.YtopimbpclgejhaaGreatDoorSP
set_option autoImplicit false
set_option linter.unusedVariables false
set_option linter.unusedSimpArgs false
namespace Go.Proofs.YtopimbpclgejhaaGreatDoor
open Go Go.RowKit
def wt (w : Int) : Int := min (max w 0) 100
theorem wt_bd (w : Int) : 0 ≤ wt w ∧ wt w ≤ 100 := by unfold wt; omega
def measOf (p : Pod) (l : List Info) : Nat → List Int
  | 0 => l.map fun x => leastOf x.Node.Give x.Used p.Want
  | 1 => l.map fun x => evenOf x.Node.Give x.Used p.Want
  | 2 => normOf (l.map fun x => shyOf x.Node.Taints p.Bears) true
  | _ => normOf (l.map fun x => likedOf x.Node.Labels p.Prefers) false
theorem normOf_len (l : List Int) (r : Bool) : (normOf l r).length = l.length := by simp [normOf]
theorem measOf_len (p : Pod) (l : List Info) (k : Nat) : (measOf p l k).length = l.length := by
  unfold measOf; split <;> simp [normOf]
theorem share_in (a o : Int) : 0 ≤ Q.share a o 100 ∧ Q.share a o 100 ≤ 100 := by
  have := Q.share_bd a o 100
  omega
theorem least_in (g u w : Res) : 0 ≤ leastOf g u w ∧ leastOf g u w ≤ 100 := by
  simp only [leastOf]
  have h1 := share_in (Res.minus (Res.minus g u) w).CPU g.CPU
  have h2 := share_in (Res.minus (Res.minus g u) w).Mem g.Mem
  omega
theorem even_in (g u w : Res) : 0 ≤ evenOf g u w ∧ evenOf g u w ≤ 100 := by
  simp only [evenOf]
  have h1 := share_in (Res.plus u w).CPU g.CPU
  have h2 := share_in (Res.plus u w).Mem g.Mem
  omega
theorem normTop_le (l : List Int) : ∀ n ∈ l, normC n ≤ normTop l := by
  have key : ∀ (l : List Int) (m : Int), m ≤ l.foldl (fun m n => max m (normC n)) m ∧ ∀ n ∈ l, normC n ≤ l.foldl (fun m n => max m (normC n)) m := by
    intro l
    induction l with
    | nil => intro m; exact ⟨Int.le_refl _, fun n h => nomatch h⟩
    | cons x l ih =>
      intro m
      have h := ih (max m (normC x))
      refine ⟨by have := h.1; rw [List.foldl_cons]; omega, fun n hn => ?_⟩
      rw [List.foldl_cons]
      rcases List.mem_cons.1 hn with rfl | hn
      · have := h.1; omega
      · exact h.2 n hn
  exact (key l 0).2
theorem norm1_in {l : List Int} {r : Bool} {n : Int} (h : n ∈ l) : 0 ≤ norm1 r (normTop l) n ∧ norm1 r (normTop l) n ≤ 100 := by
  have h1 := normTop_le l n h
  have h0 : 0 ≤ normC n := by unfold normC; omega
  have key : normTop l > 0 → 0 ≤ normC n * 100 / normTop l ∧ normC n * 100 / normTop l ≤ 100 := fun hp => by
    refine ⟨Int.ediv_nonneg (by omega) (by omega), ?_⟩
    have := Int.ediv_le_ediv hp (show normC n * 100 ≤ 100 * normTop l by omega)
    rw [Int.mul_ediv_cancel _ (by omega)] at this
    exact this
  unfold norm1
  by_cases hp : normTop l > 0
  · have := key hp
    simp only [if_pos hp]
    cases r <;> simp <;> omega
  · simp only [if_neg hp]
    cases r <;> simp
theorem normOf_in {l : List Int} {r : Bool} : ∀ n ∈ normOf l r, 0 ≤ n ∧ n ≤ 100 := fun n hn => by
  obtain ⟨x, hx, rfl⟩ := List.mem_map.1 hn
  exact norm1_in hx
theorem meas_in (p : Pod) (l : List Info) (k : Nat) : ∀ n ∈ measOf p l k, 0 ≤ n ∧ n ≤ 100 := by
  unfold measOf
  split
  · intro n hn; obtain ⟨x, _, rfl⟩ := List.mem_map.1 hn; exact least_in ..
  · intro n hn; obtain ⟨x, _, rfl⟩ := List.mem_map.1 hn; exact even_in ..
  · exact normOf_in
  · exact normOf_in
theorem meas_at (p : Pod) {l : List Info} (k : Nat) {j : Nat} (h : j < l.length) : 0 ≤ (measOf p l k)[j]! ∧ (measOf p l k)[j]! ≤ 100 := meas_in p l k _ (mem_get! (by rw [measOf_len]; exact h))
def tot1 (p : Pod) (l : List Info) (w : List Int) (j : Nat) : Nat → Int
  | 0 => 0
  | k + 1 => tot1 p l w j k + (measOf p l k)[j]! * wt w[k]!
def wsum (w : List Int) : Nat → Int
  | 0 => 0
  | k + 1 => wsum w k + 100 * wt w[k]!
theorem wsum_bd (w : List Int) (k : Nat) : 0 ≤ wsum w k ∧ wsum w k ≤ 10000 * k := by
  induction k with
  | zero => simp [wsum]
  | succ k ih => have := wt_bd w[k]!; simp only [wsum]; omega
theorem part_bd {m w : Int} (h : 0 ≤ m ∧ m ≤ 100) : 0 ≤ m * wt w ∧ m * wt w ≤ 100 * wt w := by
  have hw := wt_bd w
  exact ⟨Int.mul_nonneg h.1 hw.1, Int.mul_le_mul_of_nonneg_right h.2 hw.1⟩
theorem tot1_bd (p : Pod) {l : List Info} (w : List Int) {j : Nat} (h : j < l.length) (k : Nat) : 0 ≤ tot1 p l w j k ∧ tot1 p l w j k ≤ wsum w k := by
  induction k with
  | zero => simp [tot1, wsum]
  | succ k ih => have := part_bd (w := w[k]!) (meas_at p k h); simp only [tot1, wsum]; omega
theorem tot1_big (p : Pod) {l : List Info} (w : List Int) {j : Nat} (h : j < l.length) (k : Nat) : 0 ≤ tot1 p l w j k ∧ tot1 p l w j k ≤ 10000 * k := by
  have := tot1_bd p w h k; have := wsum_bd w k; omega
def totOf (p : Pod) (l : List Info) (w : List Int) : List Int := (List.range l.length).map fun j => tot1 p l w j 4
theorem totOf_len (p : Pod) (l : List Info) (w : List Int) : (totOf p l w).length = l.length := by simp [totOf]
theorem totOf_at (p : Pod) {l : List Info} (w : List Int) {j : Nat} (h : j < l.length) : (totOf p l w)[j]! = tot1 p l w j 4 := by
  rw [getElem!_pos (totOf p l w) j (by rw [totOf_len]; exact h)]
  simp [totOf]
/-- How far the sums have come: k measures, and i nodes of the next one. -/
def TotI (p : Pod) (l : List Info) (w : List Int) (k i : Nat) (out : List Int) : Prop := out.length = l.length ∧ ∀ j, j < l.length → out[j]! = tot1 p l w j (if j < i then k + 1 else k)
theorem TotI.zero {p : Pod} {l : List Info} {w : List Int} : TotI p l w 0 0 (List.replicate l.length 0) := ⟨by simp, fun j hj => by
  rw [getElem!_pos (List.replicate l.length (0 : Int)) j (by simpa using hj)]; simp [tot1]⟩
theorem TotI.set {p : Pod} {l : List Info} {w : List Int} {k i : Nat} {out : List Int} (h : TotI p l w k i out) (hi : i < l.length) {v : Int} (hv : v = out[i]! + (measOf p l k)[i]! * wt w[k]!) : TotI p l w k (i + 1) (out.set i v) := ⟨by rw [List.length_set]; exact h.1, fun j hj => by
  by_cases e : i = j
  · subst e
    rw [getElem!_set_self (by rw [h.1]; exact hi), if_pos (by omega), hv, h.2 i hi, if_neg (by omega)]; rfl
  · rw [getElem!_set_ne e, h.2 j hj]
    by_cases h2 : j < i
    · rw [if_pos h2, if_pos (by omega)]
    · rw [if_neg h2, if_neg (by omega)]⟩
theorem TotI.turn {p : Pod} {l : List Info} {w : List Int} {k i : Nat} {out : List Int} (h : TotI p l w k i out) (hi : i = l.length) : TotI p l w (k + 1) 0 out := ⟨h.1, fun j hj => by
  rw [h.2 j hj, if_pos (by omega), if_neg (by omega)]⟩
theorem TotI.done {p : Pod} {l : List Info} {w : List Int} {out : List Int} (h : TotI p l w 4 0 out) : out = totOf p l w := by
  refine List.ext_getElem (by rw [h.1, totOf_len]) fun j h1 h2 => ?_
  have hj : j < l.length := h.1 ▸ h1
  have a := h.2 j hj
  have b := totOf_at p w hj
  rw [getElem!_pos out j h1, if_neg (by omega)] at a
  rw [getElem!_pos _ j h2] at b
  rw [a, b]
theorem TotI.at {p : Pod} {l : List Info} {w : List Int} {k i : Nat} {out : List Int} (h : TotI p l w k i out) (hi : i < l.length) : 0 ≤ out[i]! ∧ out[i]! ≤ 10000 * k := by
  rw [h.2 i hi, if_neg (by omega)]; exact tot1_big p w hi k
theorem perm_norm {a b : List Int} (r : Bool) : normOf (b ++ a) r = (normOf (a ++ b) r).drop a.length ++ (normOf (a ++ b) r).take a.length := by
  have key : ∀ (l : List Int) (m : Int), 0 ≤ m → l.foldl (fun m n => max m (normC n)) m = max m (normTop l) := by
    intro l
    induction l with
    | nil => intro m hm; simp only [List.foldl_nil, normTop]; omega
    | cons x l ih =>
      intro m hm
      have h1 := ih (max m (normC x)) (by omega)
      have h2 := ih (max 0 (normC x)) (by omega)
      simp only [normTop, List.foldl_cons] at h1 h2 ⊢
      rw [h1, h2]; omega
  have ha := normTop_bd a
  have hb := normTop_bd b
  have ht : normTop (b ++ a) = normTop (a ++ b) := by
    have h1 := key a (normTop b) hb.1
    have h2 := key b (normTop a) ha.1
    have e1 : normTop (b ++ a) = max (normTop b) (normTop a) := by rw [← h1, normTop, List.foldl_append]; rfl
    have e2 : normTop (a ++ b) = max (normTop a) (normTop b) := by rw [← h2, normTop, List.foldl_append]; rfl
    omega
  rw [normOf, normOf, ht, List.map_append, List.map_append, List.drop_left' (by simp), List.take_left' (by simp)]
theorem rot_at {α : Type} [Inhabited α] {l : List α} {n j : Nat} (hn : n ≤ l.length) (hj : j < l.length) : (l.drop n ++ l.take n)[j]! = l[if j + n < l.length then j + n else j + n - l.length]! := by
  have h1 : (l.drop n).length = l.length - n := List.length_drop
  have h2 : (l.take n).length = n := by rw [List.length_take]; omega
  by_cases h : j + n < l.length
  · rw [if_pos h, getElem!_pos (l.drop n ++ l.take n) j (by rw [List.length_append]; omega), getElem!_pos l (j + n) h, List.getElem_append_left (by omega), List.getElem_drop]
    congr 1; omega
  · rw [if_neg h, getElem!_pos (l.drop n ++ l.take n) j (by rw [List.length_append]; omega), getElem!_pos l (j + n - l.length) (by omega), List.getElem_append_right (by omega), List.getElem_take]
    congr 1; omega
theorem rot_map {α β : Type} {f : α → β} {a b : List α} : (b ++ a).map f = ((a ++ b).map f).drop a.length ++ ((a ++ b).map f).take a.length := by
  rw [List.map_append, List.map_append, List.drop_left' (by simp), List.take_left' (by simp)]
theorem meas_rot (p : Pod) (a b : List Info) (k : Nat) : measOf p (b ++ a) k = (measOf p (a ++ b) k).drop a.length ++ (measOf p (a ++ b) k).take a.length := by
  have key : ∀ (f : Info → Int) (r : Bool), normOf ((b ++ a).map f) r = (normOf ((a ++ b).map f) r).drop a.length ++ (normOf ((a ++ b).map f) r).take a.length := by
    intro f r
    have := perm_norm (a := a.map f) (b := b.map f) r
    rw [List.length_map] at this
    rw [List.map_append, List.map_append]; exact this
  unfold measOf
  split
  · exact rot_map
  · exact rot_map
  · exact key _ _
  · exact key _ _
theorem tot_rot (p : Pod) (a b : List Info) (w : List Int) : totOf p (b ++ a) w = (totOf p (a ++ b) w).drop a.length ++ (totOf p (a ++ b) w).take a.length := by
  have hl : (b ++ a).length = (a ++ b).length := by simp [Nat.add_comm]
  have h1 := totOf_len p (a ++ b) w
  have hn : a.length ≤ (a ++ b).length := by simp
  refine List.ext_getElem (by simp only [List.length_append, List.length_drop, List.length_take, totOf_len]; omega) fun j x y => ?_
  have hj : j < (b ++ a).length := totOf_len p (b ++ a) w ▸ x
  have hj2 : j < (a ++ b).length := hl ▸ hj
  have e1 := totOf_at p w hj
  rw [getElem!_pos _ j x] at e1
  have e2 := rot_at (l := totOf p (a ++ b) w) (n := a.length) (j := j) (by omega) (by omega)
  rw [getElem!_pos _ j y] at e2
  rw [e1, e2, h1]
  have hj' : (if j + a.length < (a ++ b).length then j + a.length else j + a.length - (a ++ b).length) < (a ++ b).length := by split <;> omega
  rw [totOf_at p w hj']
  have key : ∀ k, tot1 p (b ++ a) w j k = tot1 p (a ++ b) w (if j + a.length < (a ++ b).length then j + a.length else j + a.length - (a ++ b).length) k := by
    intro k
    induction k with
    | zero => rfl
    | succ k ih =>
      have e3 := rot_at (l := measOf p (a ++ b) k) (n := a.length) (j := j) (by rw [measOf_len]; omega) (by rw [measOf_len]; exact hj2)
      rw [measOf_len] at e3
      simp only [tot1]
      rw [ih, meas_rot, e3]
  exact key 4
theorem tot_turn (p : Pod) (l : List Info) (w : List Int) (n : Nat) (hn : n ≤ l.length) : totOf p (l.drop n ++ l.take n) w = (totOf p l w).drop n ++ (totOf p l w).take n := by
  have := tot_rot p (l.take n) (l.drop n) w
  rw [List.take_append_drop, List.length_take, Nat.min_eq_left hn] at this
  exact this
theorem shy_none (l : List Taint) (b : Bear) (hk : b.Key = ⟨#[]⟩) (ha : b.Any = true) (he : b.Effect = 0) : shyOf l [b] = 0 := by
  have : openOf l [b] 2 = [] := by
    rw [openOf, List.filter_eq_nil_iff]
    intro t _ h
    have hb : bearsOf b t = true := bears_def.2 ⟨.inl he, .inr ⟨hk, ha⟩, .inl ha⟩
    simp [openP, borneOf, hb] at h
  rw [shyOf, this]; rfl
theorem calm_all (l : List Info) (b : Bear) (hk : b.Key = ⟨#[]⟩) (ha : b.Any = true) (he : b.Effect = 0) : normOf (l.map fun x : Info => shyOf x.Node.Taints [b]) true = List.replicate l.length 100 := by
  have e : (l.map fun x : Info => shyOf x.Node.Taints [b]) = List.replicate l.length 0 := by
    rw [List.eq_replicate_iff]
    refine ⟨by simp, fun x hx => ?_⟩
    obtain ⟨y, _, rfl⟩ := List.mem_map.1 hx
    exact shy_none _ _ hk ha he
  have ht : ∀ n : Nat, normTop (List.replicate n 0) = 0 := by
    intro n
    have : ∀ m ∈ List.replicate n (0 : Int), normC m = 0 := fun m hm => by rw [List.eq_of_mem_replicate hm]; rfl
    induction n with
    | zero => rfl
    | succ n ih => rw [normTop, List.replicate_succ, List.foldl_cons]; exact ih fun m hm => by rw [List.eq_of_mem_replicate hm]; rfl
  rw [e, normOf, ht, List.map_replicate]; rfl
theorem liked_all (l : List Info) : normOf (l.map fun x : Info => likedOf x.Node.Labels []) false = List.replicate l.length 0 := by
  have e : (l.map fun x : Info => likedOf x.Node.Labels []) = List.replicate l.length 0 := by
    rw [List.eq_replicate_iff]
    refine ⟨by simp, fun x hx => ?_⟩
    obtain ⟨y, _, rfl⟩ := List.mem_map.1 hx
    rfl
  have ht : ∀ n : Nat, normTop (List.replicate n 0) = 0 := by
    intro n
    induction n with
    | zero => rfl
    | succ n ih => rw [normTop, List.replicate_succ, List.foldl_cons]; exact ih
  rw [e, normOf, ht, List.map_replicate]; rfl
end Go.Proofs.YtopimbpclgejhaaGreatDoor
