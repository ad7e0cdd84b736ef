/- Symbolic states: a region that draws the order of its operations. It holds for every program. -/
import Derived.Test.YtcnbcblihepbmaaGreatDoorS4
set_option autoImplicit false
set_option linter.unusedSimpArgs false
set_option linter.unusedVariables false
namespace Go.Proofs.YtcnbcblihepbmaaGreatDoor
open Go Go.RowKit

/-- What is told of an operation's value: the value itself, or a fact that lasts. -/
inductive Phi where
  | eq (v : Value)
  | ex (p : Value → Hp → Prop) (mono : ∀ v I J, Hp.le I J → p v I → p v J)
def Phi.holds (φ : Phi) (v : Value) (I : Hp) : Prop := match φ with | .eq e => v = e | .ex p _ => p v I
theorem Phi.mono {φ : Phi} {v : Value} {I J : Hp} (h : φ.holds v I) (hl : Hp.le I J) : φ.holds v J := by
  cases φ with
  | eq e => exact h
  | ex p m => exact m v I J hl h

def edgeTo (o : Oper) (j : Nat) : Bool := o.after.any fun e => Region.binds .any e && e.on == j
def reach (ops : Array Oper) : Nat → Nat → Nat → Bool
  | 0, _, _ => false
  | n + 1, i, j => match ops[i]? with
    | none => false
    | some o => edgeTo o j || o.after.any fun e => Region.binds .any e && reach ops n e.on j
def notSelect (o : Oper) : Bool := match o.op with | .select _ _ => false | _ => true
/-- The check of a region, the first m of whose operations are told one by one, the others behind them. -/
def okDraw (ops : Array Oper) (m : Nat) : Bool :=
  decide (m ≤ ops.size) &&
  (List.range m).all (fun i => match ops[i]? with
    | none => false
    | some o => notSelect o && (List.range m).all fun j => match ops[j]? with
      | none => false
      | some u => (i == j || u.dst == none || u.dst != o.dst) &&
        (match u.dst with
         | none => true
         | some t => !(o.looksAt ops).contains t || (if j < i then reach ops ops.size i j else j == i || reach ops ops.size j i))) &&
  (List.range ops.size).all (fun k => decide (k < m) || (List.range k).all fun j => reach ops ops.size k j) &&
  (List.range ops.size).all (fun k => match ops[k]? with | none => false | some o => o.after.all fun e => !Region.binds .any e || decide (e.on < k))

section
variable {P : Program} {ops : Array Oper}

def depsHold (ops : Array Oper) (φs : Nat → Phi) (i : Nat) (a : Act) (I : Hp) : List Tmp → Prop
  | [] => True
  | t :: r => (∀ j, j < i → (ops[j]?).bind (·.dst) = some t → (φs j).holds (a.tmps.getD t undef) I) ∧ depsHold ops φs i a I r
def opObl (P : Program) (ops : Array Oper) (φs : Nat → Phi) (I0 : Hp) (cs : List (Nat × Obj)) (i : Nat) (o : Oper) (a : Act) : Prop :=
  ∀ I, Hp.le I0 I → depsHold ops φs i a I (o.looksAt ops) →
    if Region.wanted o (yielded ops a.tmps) then opS P o a.eval ⟨I, cs⟩ (fun v s' => s'.cs = cs ∧ Hp.le I s'.I ∧ (φs i).holds v s'.I) else (φs i).holds undef I
def obl (P : Program) (ops : Array Oper) (φs : Nat → Phi) (I0 : Hp) (cs : List (Nat × Obj)) (fin : Act → (Hp → Prop) → Prop) : List Oper → Nat → Act → (Hp → Prop) → Prop
  | [], _, a, F => fin a F
  | o :: r, i, a, F => opObl P ops φs I0 cs i o a ∧
    match φs i with
    | .eq e => obl P ops φs I0 cs fin r (i + 1) (a.put o.dst e) F
    | .ex p _ => ∀ v, obl P ops φs I0 cs fin r (i + 1) (a.put o.dst v) (fun I => F I ∧ p v I)

def patch (vals : Nat → Value) : List Oper → Nat → Act → Act
  | [], _, a => a
  | o :: r, i, a => patch vals r (i + 1) (a.put o.dst (vals i))
theorem patch_defers (vals : Nat → Value) (l : List Oper) : ∀ (i : Nat) (a : Act), (patch vals l i a).defers = a.defers := by
  induction l with
  | nil => intro i a; rfl
  | cons o r ih => intro i a; rw [patch, ih]; cases o.dst <;> rfl
theorem patch_size (vals : Nat → Value) (l : List Oper) : ∀ (i : Nat) (a : Act), (patch vals l i a).tmps.size = a.tmps.size := by
  induction l with
  | nil => intro i a; rfl
  | cons o r ih => intro i a; rw [patch, ih]; cases o.dst <;> simp [Act.put]
theorem put_get (a : Act) (d : Option Tmp) (v : Value) (t : Tmp) : (a.put d v).tmps[t]? = if d = some t ∧ t < a.tmps.size then some v else a.tmps[t]? := by
  cases d with
  | none => simp [Act.put]
  | some e =>
    simp only [Act.put, Array.getElem?_setIfInBounds]
    by_cases h : e = t
    · subst h
      by_cases h2 : e < a.tmps.size
      · simp [h2]
      · simp [h2]
    · simp [h]
theorem patch_other (vals : Nat → Value) (l : List Oper) : ∀ (i : Nat) (a : Act) (t : Tmp), (∀ o ∈ l, o.dst ≠ some t) → (patch vals l i a).tmps[t]? = a.tmps[t]? := by
  induction l with
  | nil => intro i a t _; rfl
  | cons o r ih =>
    intro i a t h
    rw [patch, ih _ _ _ (fun u hu => h u (by simp [hu])), put_get, if_neg (fun e => h o (by simp) e.1)]
theorem patch_at (vals : Nat → Value) (l : List Oper) : ∀ (i : Nat) (a : Act) (t : Tmp) (j : Nat) (o : Oper), l[j]? = some o → o.dst = some t → (∀ k u, k ≠ j → l[k]? = some u → u.dst ≠ some t) → t < a.tmps.size →
    (patch vals l i a).tmps[t]? = some (vals (i + j)) := by
  induction l with
  | nil => intro i a t j o h; simp at h
  | cons o' r ih =>
    intro i a t j o h ho hd ht
    cases j with
    | zero =>
      simp at h
      subst h
      rw [patch, patch_other, put_get, if_pos ⟨ho, ht⟩]
      · rfl
      · intro u hu
        obtain ⟨k, hk⟩ := List.mem_iff_getElem?.1 hu
        exact hd (k + 1) u (by omega) (by simpa using hk)
    | succ j =>
      simp at h
      rw [patch, ih (i + 1) _ t j o h ho (fun k u hk hu => hd (k + 1) u (by omega) (by simpa using hu)) (by cases o'.dst <;> simpa [Act.put] using ht)]
      congr 2
      omega

theorem obl_op {φs : Nat → Phi} {I0 : Hp} {cs : List (Nat × Obj)} {fin : Act → (Hp → Prop) → Prop} (vals : Nat → Value) (hv : ∀ j e, φs j = .eq e → vals j = e) (l : List Oper) :
    ∀ (i : Nat) (a : Act) (F : Hp → Prop), obl P ops φs I0 cs fin l i a F → ∀ k o, l[k]? = some o → opObl P ops φs I0 cs (i + k) o (patch vals (l.take k) i a) := by
  induction l with
  | nil => intro i a F _ k o h; simp at h
  | cons o' r ih =>
    intro i a F h k o hk
    cases k with
    | zero => simp at hk; subst hk; exact h.1
    | succ k =>
      simp at hk
      have h2 := h.2
      rw [List.take_succ_cons, patch]
      have e1 : i + (k + 1) = i + 1 + k := by omega
      rw [e1]
      cases hp : φs i with
      | eq e => simp only [hp] at h2; rw [hv i e hp]; exact ih _ _ _ h2 k o hk
      | ex p m => simp only [hp] at h2; exact ih _ _ _ (h2 (vals i)) k o hk
theorem obl_fin {φs : Nat → Phi} {I0 : Hp} {cs : List (Nat × Obj)} {fin : Act → (Hp → Prop) → Prop} (vals : Nat → Value) (l : List Oper) :
    ∀ (i : Nat) (a : Act) (F : Hp → Prop) (I : Hp), (∀ k, k < l.length → (φs (i + k)).holds (vals (i + k)) I) → F I → obl P ops φs I0 cs fin l i a F → ∃ F' : Hp → Prop, F' I ∧ fin (patch vals l i a) F' := by
  induction l with
  | nil => intro i a F I _ hF h; exact ⟨F, hF, h⟩
  | cons o r ih =>
    intro i a F I hv hF h
    have h0 := hv 0 (by simp)
    have hr : ∀ k, k < r.length → (φs (i + 1 + k)).holds (vals (i + 1 + k)) I := fun k hk => by
      have := hv (k + 1) (by simpa using hk)
      have e1 : i + (k + 1) = i + 1 + k := by omega
      rw [e1] at this; exact this
    have h2 := h.2
    simp only [Nat.add_zero] at h0
    rw [patch]
    cases hp : φs i with
    | eq e => simp only [hp, Phi.holds] at h2 h0; rw [h0]; exact ih _ _ _ _ hr hF h2
    | ex p m => simp only [hp, Phi.holds] at h2 h0; exact ih _ _ _ _ hr ⟨hF, h0⟩ (h2 (vals i))

theorem obl_fin_mono {φs : Nat → Phi} {I0 : Hp} {cs : List (Nat × Obj)} {fin fin' : Act → (Hp → Prop) → Prop} (hf : ∀ a F, fin a F → fin' a F) (l : List Oper) : ∀ {i : Nat} {a : Act} {F : Hp → Prop}, obl P ops φs I0 cs fin l i a F → obl P ops φs I0 cs fin' l i a F := by
  induction l with
  | nil => exact fun h => hf _ _ h
  | cons o r ih =>
    intro i a F h
    refine ⟨h.1, ?_⟩
    have h2 := h.2
    cases hp : φs i with
    | eq e => simp only [hp] at h2 ⊢; exact ih h2
    | ex p m => simp only [hp] at h2 ⊢; exact fun v => ih (h2 v)

def closed (ops : Array Oper) (listed : Array Bool) : Prop := ∀ i o, ops[i]? = some o → listed.getD i false = true → ∀ e ∈ o.after, Region.binds .any e = true → listed.getD e.on false = true
theorem closed_reach {listed : Array Bool} (hc : closed ops listed) : ∀ (n i j : Nat), reach ops n i j = true → (∀ o, ops[i]? = some o → ∀ e ∈ o.after, Region.binds .any e = true → listed.getD e.on false = true) → listed.getD j false = true := by
  intro n
  induction n with
  | zero => intro i j h; simp [reach] at h
  | succ n ih =>
    intro i j h hi
    simp only [reach] at h
    cases ho : ops[i]? with
    | none => simp [ho] at h
    | some o =>
      simp only [ho, Bool.or_eq_true, edgeTo, ← Array.any_toList, List.any_eq_true, Array.mem_toList_iff, Bool.and_eq_true, beq_iff_eq] at h
      rcases h with ⟨e, he, hb, rfl⟩ | ⟨e, he, hb, hr⟩
      · exact hi o ho e he hb
      · exact ih _ _ hr (fun o' ho' => hc e.on o' ho' (hi o ho e he hb))

theorem count_set (f g : Nat → Bool) (i : Nat) (hf : f i = true) (hg : g i = false) (hr : ∀ j, j ≠ i → g j = f j) : ∀ n, i < n → (List.range n).countP g + 1 = (List.range n).countP f := by
  have hle : ∀ n, n ≤ i → (List.range n).countP g = (List.range n).countP f := by
    intro n hn
    apply List.countP_congr
    intro x hx
    rw [hr x (by have := List.mem_range.1 hx; omega)]
  intro n
  induction n with
  | zero => intro h; omega
  | succ n ih =>
    intro h
    simp only [List.range_succ, List.countP_append, List.countP_singleton]
    by_cases e : i = n
    · subst e
      rw [hle i (Nat.le_refl _), hf, hg]; simp
    · have := ih (by omega)
      rw [hr n (fun h => e h.symm)]
      omega
theorem count_late (f : Nat → Bool) (m : Nat) (h : ∀ k, m ≤ k → f k = true) : ∀ n, n - m ≤ (List.range n).countP f := by
  intro n
  induction n with
  | zero => simp
  | succ n ih =>
    simp only [List.range_succ, List.countP_append, List.countP_singleton]
    by_cases hmn : m ≤ n
    · rw [h n hmn]; simp only [if_true]; omega
    · omega
theorem count_zero (f : Nat → Bool) (n : Nat) (h : (List.range n).countP f = 0) (i : Nat) (hi : i < n) : f i = false := by
  have := List.countP_eq_zero.1 h i (List.mem_range.2 hi)
  simpa using this

theorem closed_set {listed : Array Bool} {i : Nat} (hc : closed ops listed) (hi : ∀ o, ops[i]? = some o → ∀ e ∈ o.after, Region.binds .any e = true → listed.getD e.on false = true) : closed ops (listed.setIfInBounds i true) := by
  intro k o ho hk e he hb
  by_cases hik : i = k
  · subst hik; exact getD_set_true (hi o ho e he hb)
  · rw [getD_set_ne false hik] at hk; exact getD_set_true (hc k o ho hk e he hb)
theorem getD_true {listed : Array Bool} {i : Nat} (h : listed.getD i true = false) : listed.getD i false = false ∧ i < listed.size := by
  simp only [Array.getD_eq_getD_getElem?] at h ⊢
  cases hg : listed[i]? with
  | none => simp [hg] at h
  | some b => simp [hg] at h ⊢; exact ⟨h, (Array.getElem?_eq_some_iff.1 hg).1⟩
theorem getD_false {listed : Array Bool} {i : Nat} (h : listed.getD i false = false) (hi : i < listed.size) : listed.getD i true = false := by
  simp only [Array.getD_eq_getD_getElem?] at h ⊢
  simp [hi] at h ⊢; exact h

structure Part (ops : List Oper) (m : Nat) (φs : Nat → Phi) (a0 : Act) (I0 : Hp) (cs : List (Nat × Obj)) (w0 : World) (listed : Array Bool) (vals : Nat → Value) (I : Hp) (a : Act) (w : World) : Prop where
  sz : listed.size = ops.length
  cl : closed ops.toArray listed
  late : ∀ k, m ≤ k → listed.getD k false = false
  sat : Sat ⟨I, cs⟩ w
  ext : Ext w0 w
  le : Hp.le I0 I
  eqs : ∀ j e, φs j = .eq e → vals j = e
  facts : ∀ j, j < m → listed.getD j false = true → (φs j).holds (vals j) I
  def_ : a.defers = a0.defers
  asz : a.tmps.size = a0.tmps.size
  done : ∀ j o t, j < m → listed.getD j false = true → ops[j]? = some o → o.dst = some t → t < a0.tmps.size → a.tmps[t]? = some (vals j)
  rest : ∀ t, (∀ j o, j < m → listed.getD j false = true → ops[j]? = some o → o.dst ≠ some t) → a.tmps[t]? = a0.tmps[t]?

/-- The ways behind the first m. -/
theorem draw_tail {Q : Exit → Act → World → Prop} (l : List Oper) (m : Nat) (hedge : ∀ k o, l.toArray[k]? = some o → ∀ e ∈ o.after, Region.binds .any e = true → e.on < k) (hord : ∀ k j, m ≤ k → k < l.length → j < k → reach l.toArray l.toArray.size k j = true) :
    ∀ (fuel k : Nat) (listed : Array Bool) (a : Act) (w : World), m ≤ k → k ≤ l.length → l.length - k ≤ fuel → listed.size = l.length → closed l.toArray listed → (∀ j, j < k → listed.getD j false = true) → (∀ j, k ≤ j → listed.getD j false = false) →
      wpList P l.toArray Q (l.drop k) a w → wpAny P .any l.toArray Q fuel listed a w := by
  intro fuel
  induction fuel with
  | zero =>
    intro k listed a w hmk hk hf hsz hc hlo hhi h
    have : k = l.length := by omega
    subst this
    rw [List.drop_length] at h
    refine ⟨?_, h⟩
    apply List.eq_nil_iff_forall_not_mem.2
    intro i hi
    obtain ⟨h1, o, h2, _⟩ := mem_ready.1 hi
    have hlt : i < l.length := by have := (Array.getElem?_eq_some_iff.1 h2).1; simpa using this
    have := hlo i hlt
    simp only [Array.getD_eq_getD_getElem?] at h1 this
    cases hg : listed[i]? <;> simp [hg] at h1 this
    simp_all
  | succ fuel ih =>
    intro k listed a w hmk hk hf hsz hc hlo hhi h
    have hready : ∀ i, i ∈ Region.ready .any l.toArray listed → i = k ∧ k < l.length := by
      intro i hi
      obtain ⟨h1, o, h2, h3⟩ := mem_ready.1 hi
      have hlt : i < l.length := by have := (Array.getElem?_eq_some_iff.1 h2).1; simpa using this
      have hge : ¬ i < k := fun hik => by
        have := hlo i hik
        simp only [Array.getD_eq_getD_getElem?] at h1 this
        cases hg : listed[i]? <;> simp [hg] at h1 this
        simp_all
      by_cases hik : i = k
      · exact ⟨hik, by omega⟩
      · have hr := hord i k (by omega) hlt (by omega)
        have := closed_reach hc _ i k hr (fun o' ho' e he hb => by rw [h2] at ho'; cases ho'; exact h3 e he hb)
        rw [hhi k (Nat.le_refl _)] at this; cases this
    refine ⟨fun hnil => ?_, fun i hi => ?_⟩
    · by_cases hkl : k = l.length
      · subst hkl; rw [List.drop_length] at h; exact h
      · exfalso
        have hklt : k < l.length := by omega
        have : k ∈ Region.ready .any l.toArray listed := by
          refine mem_ready.2 ⟨?_, l[k], by simp [hklt], fun e he hb => ?_⟩
          · have := hhi k (Nat.le_refl _)
            simp only [Array.getD_eq_getD_getElem?] at this ⊢
            cases hg : listed[k]? with
            | none => rw [Array.getElem?_eq_none_iff] at hg; omega
            | some b => simp [hg] at this ⊢; exact this
          · exact hlo _ (hedge k l[k] (by simp [hklt]) e he hb)
        rw [hnil] at this; cases this
    · obtain ⟨rfl, hklt⟩ := hready i hi
      rw [List.drop_eq_getElem_cons hklt] at h
      simp only [wpList] at h
      have hget : l.toArray[i]? = some l[i] := by simp [hklt]
      unfold Go.wpOp
      simp only [hget]
      have next : ∀ a' w', wpList P l.toArray Q (l.drop (i + 1)) a' w' → wpAny P .any l.toArray Q fuel (listed.setIfInBounds i true) a' w' := by
        intro a' w' h'
        refine ih (i + 1) _ a' w' (by omega) hklt (by omega) (by simpa using hsz) ?_ ?_ ?_ h'
        · exact closed_set hc (fun o ho e he hb => (mem_ready.1 hi).2.elim fun o' ⟨h1, h2⟩ => by rw [ho] at h1; cases h1; exact h2 e he hb)
        · intro j hj
          by_cases e : i = j
          · subst e; simp [hsz, hklt]
          · rw [getD_set_ne false e]; exact hlo j (by omega)
        · intro j hj
          rw [getD_set_ne false (by omega)]; exact hhi j (by omega)
      split
      · rename_i hw
        simp only [hw, if_true] at h
        exact h.imp (Oper.wp_mono next) id
      · rename_i hw
        simp only [hw] at h
        exact next _ _ h
theorem Act.ext_get {a b : Act} (hd : a.defers = b.defers) (h : ∀ t : Nat, a.tmps[t]? = b.tmps[t]?) : a = b := by
  cases a; cases b
  simp only at hd h
  subst hd
  congr 1
  exact Array.ext_getElem? h

structure DrawOk (ops : List Oper) (m : Nat) : Prop where
  le : m ≤ ops.length
  sel : ∀ i o, i < m → ops[i]? = some o → ∀ c b, o.op ≠ .select c b
  dst : ∀ i j o u t, i < m → j < m → i ≠ j → ops[i]? = some o → ops[j]? = some u → u.dst = some t → o.dst ≠ some t
  src : ∀ i j o u t, i < m → j < m → ops[i]? = some o → ops[j]? = some u → u.dst = some t → t ∈ o.looksAt ops.toArray → if j < i then reach ops.toArray ops.toArray.size i j = true else (j = i ∨ reach ops.toArray ops.toArray.size j i = true)
  ord : ∀ k j, m ≤ k → k < ops.length → j < k → reach ops.toArray ops.toArray.size k j = true
  edge : ∀ k o, ops.toArray[k]? = some o → ∀ e ∈ o.after, Region.binds .any e = true → e.on < k
theorem drawOk_of {l : List Oper} {m : Nat} (h : okDraw l.toArray m = true) : DrawOk l m := by
  simp only [okDraw, Bool.and_eq_true, decide_eq_true_eq, List.all_eq_true, List.mem_range, Bool.or_eq_true] at h
  obtain ⟨⟨⟨h1, h2⟩, h3⟩, h4⟩ := h
  have h1' : m ≤ l.length := by simpa using h1
  refine ⟨h1', ?_, ?_, ?_, ?_, ?_⟩
  · intro i o hi ho c b hc
    have := h2 i hi
    simp only [List.getElem?_toArray, ho, Bool.and_eq_true] at this
    have := this.1
    simp [notSelect, hc] at this
  · intro i j o u t hi hj hij ho hu ht
    have := h2 i hi
    simp only [List.getElem?_toArray, ho, Bool.and_eq_true, List.all_eq_true, List.mem_range] at this
    have := this.2 j hj
    simp only [hu, Bool.and_eq_true, Bool.or_eq_true, beq_iff_eq, bne_iff_ne, ne_eq] at this
    rcases this.1 with (h | h) | h
    · exact absurd h hij
    · rw [h] at ht; cases ht
    · rw [ht] at h; exact fun e => h e.symm
  · intro i j o u t hi hj ho hu ht hl
    have := h2 i hi
    simp only [List.getElem?_toArray, ho, Bool.and_eq_true, List.all_eq_true, List.mem_range] at this
    have := this.2 j hj
    simp only [hu, Bool.and_eq_true] at this
    have := this.2
    simp only [ht, Bool.or_eq_true, Bool.not_eq_true', List.contains_iff_mem] at this
    rcases this with h | h
    · have : (o.looksAt l.toArray).contains t = true := by simpa using hl
      rw [h] at this; cases this
    · split
      · rename_i hji; rw [if_pos hji] at h; exact h
      · rename_i hji; rw [if_neg hji] at h; simpa using h
  · intro k j hk hkl hj
    have := h3 k (by simpa using hkl)
    rcases this with h | h
    · omega
    · exact h j hj
  · intro k o ho e he hb
    have hkl : k < l.length := by have := (Array.getElem?_eq_some_iff.1 ho).1; simpa using this
    have := h4 k (by simpa using hkl)
    simp only [ho, ← Array.all_toList, List.all_eq_true, Bool.or_eq_true, Bool.not_eq_true', decide_eq_true_eq] at this
    rcases this e (by simpa using he) with h | h
    · rw [hb] at h; cases h
    · exact h

theorem Part.step {l : List Oper} {m : Nat} {φs : Nat → Phi} {a0 : Act} {I0 I J : Hp} {cs : List (Nat × Obj)} {w0 w w' : World} {listed : Array Bool} {vals : Nat → Value} {a : Act} (p : Part l m φs a0 I0 cs w0 listed vals I a w) (hok : DrawOk l m)
    {i : Nat} {o : Oper} {v : Value} (hi : i < m) (ho : l[i]? = some o) (hn : listed.getD i false = false) (hr : ∀ o, l.toArray[i]? = some o → ∀ e ∈ o.after, Region.binds .any e = true → listed.getD e.on false = true)
    (hs : Sat ⟨J, cs⟩ w') (he : Ext w0 w') (hl : Hp.le I J) (hv : (φs i).holds v J) :
    Part l m φs a0 I0 cs w0 (listed.setIfInBounds i true) (fun j => if j = i then v else vals j) J (a.put o.dst v) w' := by
  have hil : i < l.length := (List.getElem?_eq_some_iff.1 ho).1
  have get : ∀ j, (listed.setIfInBounds i true).getD j false = true → j = i ∨ (j ≠ i ∧ listed.getD j false = true) := fun j hj => by
    by_cases e : i = j
    · exact .inl e.symm
    · rw [getD_set_ne false e] at hj; exact .inr ⟨fun h => e h.symm, hj⟩
  refine ⟨by simpa using p.sz, closed_set p.cl hr, ?_, hs, he, p.le.trans hl, ?_, ?_, ?_, ?_, ?_, ?_⟩
  · intro k hk; rw [getD_set_ne false (by omega)]; exact p.late k hk
  · intro j e hj
    by_cases h : j = i
    · subst h; simp only [if_true]; rw [hj] at hv; exact hv
    · simp only [h, if_false]; exact p.eqs j e hj
  · intro j hj hlj
    rcases get j hlj with rfl | ⟨h, hl'⟩
    · simp only [if_true]; exact hv
    · simp only [h, if_false]; exact Phi.mono (p.facts j hj hl') hl
  · cases o.dst <;> exact p.def_
  · cases o.dst <;> simpa [Act.put] using p.asz
  · intro j u t hj hlj hu ht hsz
    rw [put_get, p.asz]
    rcases get j hlj with rfl | ⟨h, hl'⟩
    · rw [ho] at hu; cases hu
      simp [ht, hsz]
    · rw [if_neg (fun e => hok.dst i j o u t hi hj (fun e => h e.symm) ho hu ht e.1)]
      simp only [h, if_false]
      exact p.done j u t hj hl' hu ht hsz
  · intro t ht
    have h1 : (listed.setIfInBounds i true).getD i false = true := by
      have : i < listed.size := by rw [p.sz]; exact hil
      simp [this]
    rw [put_get, if_neg (fun e => ht i o hi h1 ho e.1)]
    exact p.rest t fun j u hj hlj hu => ht j u hj (getD_set_true hlj) hu

theorem Part.look {l : List Oper} {m : Nat} {φs : Nat → Phi} {a0 : Act} {I0 I : Hp} {cs : List (Nat × Obj)} {w0 w : World} {listed : Array Bool} {vals : Nat → Value} {a : Act} (p : Part l m φs a0 I0 cs w0 listed vals I a w) (hok : DrawOk l m)
    {i : Nat} {o : Oper} (hi : i < m) (ho : l[i]? = some o) (hn : listed.getD i false = false) (hr : ∀ o, l.toArray[i]? = some o → ∀ e ∈ o.after, Region.binds .any e = true → listed.getD e.on false = true) {t : Tmp} (ht : t ∈ o.looksAt l.toArray) :
    a.tmps[t]? = (patch vals (l.take i) 0 a0).tmps[t]? := by
  have hil : i < l.length := (List.getElem?_eq_some_iff.1 ho).1
  by_cases hex : ∃ j u, j < m ∧ l[j]? = some u ∧ u.dst = some t
  · obtain ⟨j, u, hj, hu, hut⟩ := hex
    have hsrc := hok.src i j o u t hi hj ho hu hut ht
    by_cases hji : j < i
    · rw [if_pos hji] at hsrc
      have hlj := closed_reach p.cl _ _ _ hsrc hr
      by_cases hsz : t < a0.tmps.size
      · rw [p.done j u t hj hlj hu hut hsz, patch_at vals (l.take i) 0 a0 t j u (by rw [List.getElem?_take, if_pos hji]; exact hu) hut ?_ hsz]
        · simp
        · intro k x hk hx
          rw [List.getElem?_take] at hx
          split at hx
          · rename_i hki
            exact hok.dst k j x u t (by omega) hj hk hx hu hut
          · cases hx
      · have h1 : a.tmps[t]? = none := by rw [Array.getElem?_eq_none_iff, p.asz]; exact Nat.le_of_not_lt hsz
        have h2 : (patch vals (l.take i) 0 a0).tmps[t]? = none := by rw [Array.getElem?_eq_none_iff, patch_size]; exact Nat.le_of_not_lt hsz
        rw [h1, h2]
    · rw [if_neg hji] at hsrc
      have hnj : listed.getD j false = false := by
        rcases hsrc with rfl | hsrc
        · exact hn
        · cases hlj : listed.getD j false with
          | false => rfl
          | true =>
            have := closed_reach p.cl _ _ _ hsrc (fun o' ho' => p.cl j o' ho' hlj)
            rw [hn] at this; cases this
      rw [p.rest t, patch_other]
      · intro x hx hxt
        obtain ⟨k, hk⟩ := List.mem_iff_getElem?.1 hx
        rw [List.getElem?_take] at hk
        split at hk
        · rename_i hki
          exact hok.dst k j x u t (by omega) hj (by omega) hk hu hut hxt
        · cases hk
      · intro k x hk hlk hx hxt
        by_cases hkj : k = j
        · subst hkj; rw [hnj] at hlk; cases hlk
        · exact hok.dst k j x u t hk hj hkj hx hu hut hxt
  · rw [p.rest t, patch_other]
    · intro x hx hxt
      obtain ⟨k, hk⟩ := List.mem_iff_getElem?.1 hx
      rw [List.getElem?_take] at hk
      split at hk
      · exact hex ⟨k, x, by omega, hk, hxt⟩
      · cases hk
    · intro k x hk _ hx hxt
      exact hex ⟨k, x, hk, hx, hxt⟩

theorem depsHold_of {φs : Nat → Phi} {i : Nat} {a : Act} {I : Hp} : ∀ (l : List Tmp), (∀ t ∈ l, ∀ j, j < i → (ops[j]?).bind (·.dst) = some t → (φs j).holds (a.tmps.getD t undef) I) → depsHold ops φs i a I l
  | [], _ => trivial
  | t :: r, h => ⟨h t (by simp), depsHold_of r fun u hu => h u (by simp [hu])⟩

theorem draw_head {Q : Exit → Act → St → Prop} {w0 : World} {l : List Oper} {m : Nat} (hok : DrawOk l m) {φs : Nat → Phi} {a0 : Act} {I0 : Hp} {cs : List (Nat × Obj)} (hdst : ∀ o ∈ l, ∀ t, o.dst = some t → t < a0.tmps.size)
    (h : obl P l.toArray φs I0 cs (fun a' F => ∀ I, Hp.le I0 I → F I → OpsR P l.toArray (l.drop m) Q a' ⟨I, cs⟩) (l.take m) 0 a0 (fun _ => True)) :
    ∀ (fuel : Nat) (listed : Array Bool) (vals : Nat → Value) (I : Hp) (a : Act) (w : World), (List.range l.length).countP (fun j => !listed.getD j false) ≤ fuel → Part l m φs a0 I0 cs w0 listed vals I a w → wpAny P .any l.toArray (lift w0 Q) fuel listed a w := by
  intro fuel
  induction fuel with
  | zero =>
    intro listed vals I a w hc p
    refine ready_all hok hdst h ?_ (Nat.le_trans (count_late _ m (fun k hk => by rw [p.late k hk]; rfl) _) hc) p
    intro j hj
    have := count_zero _ _ (Nat.le_zero.1 hc) j (by have := hok.le; omega)
    simpa using this
  | succ fuel ih =>
    intro listed vals I a w hc p
    by_cases hall : ∀ j, j < m → listed.getD j false = true
    · exact ready_all hok hdst h hall (Nat.le_trans (count_late _ m (fun k hk => by rw [p.late k hk]; rfl) _) hc) p
    · obtain ⟨j0, hj0, hn0⟩ : ∃ j, j < m ∧ listed.getD j false = false := by
        refine Classical.byContradiction fun hne => hall fun j hj => ?_
        cases hl : listed.getD j false with
        | true => rfl
        | false => exact absurd ⟨j, hj, hl⟩ hne
      refine ⟨fun hnil => ?_, fun i hi => ?_⟩
      · exfalso
        obtain ⟨j, hj, hmin⟩ := exists_least (p := fun j => j < m ∧ listed.getD j false = false) ⟨j0, hj0, hn0⟩
        have hjl : j < l.length := by have := hok.le; omega
        have : j ∈ Region.ready .any l.toArray listed := by
          refine mem_ready.2 ⟨getD_false hj.2 (by rw [p.sz]; exact hjl), l[j], by simp [hjl], fun e he hb => ?_⟩
          have hlt := hok.edge j l[j] (by simp [hjl]) e he hb
          cases hl : listed.getD e.on false with
          | true => rfl
          | false => have := hmin e.on ⟨by omega, hl⟩; omega
        rw [hnil] at this; cases this
      · obtain ⟨h1, o, h2, h3⟩ := mem_ready.1 hi
        obtain ⟨hn, hilt⟩ := getD_true h1
        have hr : ∀ o, l.toArray[i]? = some o → ∀ e ∈ o.after, Region.binds .any e = true → listed.getD e.on false = true := fun o' ho' => by rw [h2] at ho'; cases ho'; exact h3
        have him : i < m := by
          refine Classical.byContradiction fun hge => ?_
          have := closed_reach p.cl _ i j0 (hok.ord i j0 (by omega) (by rw [← p.sz]; exact hilt) (by omega)) hr
          rw [hn0] at this; cases this
        have ho : l[i]? = some o := by simpa using h2
        have hob := obl_op vals p.eqs (l.take m) 0 a0 _ h i o (by rw [List.getElem?_take, if_pos him]; exact ho)
        rw [List.take_take, Nat.min_eq_left (by omega), Nat.zero_add] at hob
        have look := fun {t : Tmp} (ht : t ∈ o.looksAt l.toArray) => p.look hok him ho hn hr ht
        have hdeps : depsHold l.toArray φs i (patch vals (l.take i) 0 a0) I (o.looksAt l.toArray) := by
          refine depsHold_of _ fun t ht j hj hjt => ?_
          obtain ⟨u, hu, hut⟩ : ∃ u, l[j]? = some u ∧ u.dst = some t := by
            cases hu : l[j]? with
            | none => simp [hu] at hjt
            | some u => simp [hu] at hjt; exact ⟨u, rfl, hjt⟩
          have hsrc := hok.src i j o u t him (by omega) ho hu hut ht
          rw [if_pos hj] at hsrc
          have hlj := closed_reach p.cl _ _ _ hsrc hr
          have hts := hdst u (List.mem_of_getElem? hu) t hut
          have e1 := p.done j u t (by omega) hlj hu hut hts
          rw [look ht] at e1
          have e2 : (patch vals (l.take i) 0 a0).tmps.getD t undef = vals j := by simp [e1]
          rw [e2]; exact p.facts j (by omega) hlj
        have hob := hob I p.le hdeps
        have heval : execOp a.eval o = execOp (patch vals (l.take i) 0 a0).eval o := by
          refine execOp_congr o (hok.sel i o him ho) fun x hx => ?_
          cases x with
          | tmp t =>
            have : t ∈ o.looksAt l.toArray := List.mem_append_left _ (List.mem_filterMap.2 ⟨.tmp t, by simpa using hx, rfl⟩)
            simp only [Act.eval, Array.getD_eq_getD_getElem?, look this]
          | _ => rfl
        have hwant : Region.wanted o (yielded l.toArray a.tmps) = Region.wanted o (yielded l.toArray (patch vals (l.take i) 0 a0).tmps) := by
          unfold Region.wanted
          cases hg : o.guard with
          | none => rfl
          | some gw =>
            obtain ⟨g, want⟩ := gw
            have : yielded l.toArray a.tmps g = yielded l.toArray (patch vals (l.take i) 0 a0).tmps g := by
              unfold yielded
              cases ht : (l.toArray[g]?).bind (·.dst) with
              | none => rfl
              | some t =>
                have : t ∈ o.looksAt l.toArray := List.mem_append_right _ (by rw [hg]; simp only; rw [ht]; simp)
                simp only [Option.bind_some, look this]
            simp only [this]
        have hcount : (List.range l.length).countP (fun j => !(listed.setIfInBounds i true).getD j false) ≤ fuel := by
          have := count_set (fun j => !listed.getD j false) (fun j => !(listed.setIfInBounds i true).getD j false) i (by simp [hn]) (by simp [hilt]) (fun j hj => by rw [getD_set_ne false (fun e => hj e.symm)]) l.length (by rw [← p.sz]; exact hilt)
          omega
        unfold Go.wpOp
        simp only [h2]
        split
        · rename_i hw
          rw [hwant] at hw
          rw [if_pos hw] at hob
          refine .inl (opS_wp (K := fun v s' => s'.cs = cs ∧ Hp.le I s'.I ∧ (φs i).holds v s'.I) ?_ p.sat p.ext ?_)
          · show swp P (execOp a.eval o) _ _; rw [heval]; exact hob
          · rintro v ⟨J, cs'⟩ w' ⟨hcs, hl, hv⟩ hs' he'
            simp only at hcs; subst hcs
            exact ih _ _ J _ w' hcount (p.step hok him ho hn hr hs' he' hl hv)
        · rename_i hw
          rw [hwant] at hw
          rw [if_neg hw] at hob
          exact ih _ _ I _ w hcount (p.step hok him ho hn hr p.sat p.ext .rfl hob)
where
  ready_all {Q : Exit → Act → St → Prop} {w0 : World} {l : List Oper} {m : Nat} (hok : DrawOk l m) {φs : Nat → Phi} {a0 : Act} {I0 : Hp} {cs : List (Nat × Obj)} (hdst : ∀ o ∈ l, ∀ t, o.dst = some t → t < a0.tmps.size)
    (h : obl P l.toArray φs I0 cs (fun a' F => ∀ I, Hp.le I0 I → F I → OpsR P l.toArray (l.drop m) Q a' ⟨I, cs⟩) (l.take m) 0 a0 (fun _ => True))
    {fuel : Nat} {listed : Array Bool} {vals : Nat → Value} {I : Hp} {a : Act} {w : World} (hall : ∀ j, j < m → listed.getD j false = true) (hfuel : l.length - m ≤ fuel) (p : Part l m φs a0 I0 cs w0 listed vals I a w) :
      wpAny P .any l.toArray (lift w0 Q) fuel listed a w := by
    have hml := hok.le
    have ha : a = patch vals (l.take m) 0 a0 := by
      refine Act.ext_get (by rw [patch_defers]; exact p.def_) fun t => ?_
      by_cases hex : ∃ j u, j < m ∧ l[j]? = some u ∧ u.dst = some t
      · obtain ⟨j, u, hj, hu, hut⟩ := hex
        have hsz := hdst u (List.mem_of_getElem? hu) t hut
        rw [p.done j u t hj (hall j hj) hu hut hsz, patch_at vals (l.take m) 0 a0 t j u (by rw [List.getElem?_take, if_pos hj]; exact hu) hut ?_ hsz]
        · simp
        · intro k x hk hx
          rw [List.getElem?_take] at hx
          split at hx
          · rename_i hkm
            exact hok.dst k j x u t hkm hj hk hx hu hut
          · cases hx
      · rw [p.rest t, patch_other]
        · intro x hx hxt
          obtain ⟨k, hk⟩ := List.mem_iff_getElem?.1 hx
          rw [List.getElem?_take] at hk
          split at hk
          · exact hex ⟨k, x, by omega, hk, hxt⟩
          · cases hk
        · intro k x hk _ hx hxt
          exact hex ⟨k, x, hk, hx, hxt⟩
    obtain ⟨F, hF, hfin⟩ := obl_fin vals (l.take m) 0 a0 _ I (fun k hk => by
      rw [Nat.zero_add]
      have : k < m := by simp at hk; omega
      exact p.facts k this (hall k this)) trivial h
    rw [← ha] at hfin
    exact draw_tail l m hok.edge hok.ord fuel m listed a w (Nat.le_refl _) hml hfuel p.sz p.cl hall p.late (hfin I p.le hF w0 w p.sat p.ext)
theorem run_draw {Q : Exit → Act → St → Prop} {l : List Oper} (hm : P.follows .mixedOrders = true) (m : Nat) {id : Nat} {φs : Nat → Phi} {a0 : Act} {I0 : Hp} {cs : List (Nat × Obj)} (hck : okDraw l.toArray m = true)
    (hdst : (l.all fun o => match o.dst with | none => true | some t => decide (t < a0.tmps.size)) = true)
    (h : obl P l.toArray φs I0 cs (fun a' F => ∀ I, Hp.le I0 I → F I → OpsR P l.toArray (l.drop m) Q a' ⟨I, cs⟩) (l.take m) 0 a0 (fun _ => True)) : Run P (.region id l.toArray true) Q a0 ⟨I0, cs⟩ := by
  intro w0 w hs he
  refine wp_region_any hm ?_
  have hok := drawOk_of hck
  have hsz : (Array.replicate l.toArray.size false).size = l.length := by simp
  have hget : ∀ j, (Array.replicate l.toArray.size false).getD j false = false := fun j => by
    simp only [Array.getD_eq_getD_getElem?, Array.getElem?_replicate]; split <;> rfl
  refine draw_head hok ?_ h _ _ (fun j => match φs j with | .eq e => e | .ex _ _ => undef) I0 a0 _ ?_ ?_
  · intro o ho t ht
    have := List.all_eq_true.1 hdst o ho
    simpa [ht] using this
  · have : (List.range l.length).countP (fun j => !(Array.replicate l.toArray.size false).getD j false) ≤ (List.range l.length).length := List.countP_le_length
    simpa using this
  · refine ⟨hsz, ?_, fun k _ => hget k, hs.drawn _, ⟨he.os, he.tape, he.output, he.size⟩, .rfl, ?_, ?_, rfl, rfl, ?_, fun _ _ => rfl⟩
    · intro i o _ hi; rw [hget] at hi; cases hi
    · intro j e hj; simp [hj]
    · intro j _ hj; rw [hget] at hj; cases hj
    · intro j o t _ hj; rw [hget] at hj; cases hj
end
end Go.Proofs.YtcnbcblihepbmaaGreatDoor
