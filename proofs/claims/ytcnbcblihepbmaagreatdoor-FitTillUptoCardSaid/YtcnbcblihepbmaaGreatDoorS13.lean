/- Regions that draw their order: some operations are told at once, the others in each of their orders. It holds for every program. -/
import Derived.Test.YtcnbcblihepbmaaGreatDoorS12
set_option autoImplicit false
set_option linter.unusedSimpArgs false
set_option linter.unusedVariables false
namespace Go.Proofs.YtcnbcblihepbmaaGreatDoor
open Go Go.RowKit
section
variable {P : Program} {ops : Array Oper}
/-- The frame behind the operations that the mask names. -/
def patE : List Oper → List Bool → List Value → Act → Act
  | o :: r, true :: E, v :: vs, a => patE r E vs (a.put o.dst v)
  | _ :: r, false :: E, _ :: vs, a => patE r E vs a
  | _, _, _, a => a
def oblK (P : Program) (ops : Array Oper) (keep : St → Prop) (s0 : St) (fin : Act → Prop) : List Oper → List Bool → List Bool → Act → Prop
  | o :: r, true :: E, b :: B, a => ∃ v, (∀ s, (if b then s = s0 else keep s) → (Region.wanted o (yielded ops a.tmps) = true ∧ Quiet P o a.eval s v) ∨ (Region.wanted o (yielded ops a.tmps) = false ∧ v = undef)) ∧ oblK P ops keep s0 fin r E B (a.put o.dst v)
  | _ :: r, false :: E, _ :: B, a => oblK P ops keep s0 fin r E B a
  | _, _, _, a => fin a
def restK (P : Program) (ops : Array Oper) (keep : St → Prop) (Q : Exit → Act → St → Prop) : Nat → List Nat → Act → St → Prop
  | 0, rem, a, s => rem = [] → Q .normal a s
  | n + 1, rem, a, s => (rem = [] → Q .normal a s) ∧ ∀ i ∈ rem, (∀ j ∈ rem, j = i ∨ reach ops ops.size i j = false) → ∀ o, ops[i]? = some o →
      OpsR P ops [o] (fun e a' s' => e = .normal ∧ a'.defers = a.defers ∧ keep s' ∧ restK P ops keep Q n (rem.filter (· != i)) a' s') a s
theorem restK_end {keep : St → Prop} {Q : Exit → Act → St → Prop} {n : Nat} {rem : List Nat} {a : Act} {s : St} (hr : rem.isEmpty = true) (h : Q .normal a s) : restK P ops keep Q n rem a s := by
  have hr' : rem = [] := by simpa using hr
  subst hr'
  cases n with
  | zero => exact fun _ => h
  | succ n => exact ⟨fun _ => h, fun i hi => by simp at hi⟩
def allL : List Nat → (Nat → Prop) → Prop
  | [], _ => True
  | i :: r, p => p i ∧ allL r p
theorem allL_mem {p : Nat → Prop} : ∀ {l : List Nat}, allL l p → ∀ i ∈ l, p i
  | [], _, i, hi => by simp at hi
  | j :: r, h, i, hi => by
    rcases List.mem_cons.1 hi with rfl | hi
    · exact h.1
    · exact allL_mem h.2 i hi
theorem restK_pick {keep : St → Prop} {Q : Exit → Act → St → Prop} {n : Nat} {rem : List Nat} {a : Act} {s : St} (rdy : List Nat) (hr : (!rem.isEmpty && rem.all (fun i => rdy.contains i || rem.any (fun j => j != i && reach ops ops.size i j))) = true)
    (h : allL rdy (fun i => ∀ o, ops[i]? = some o → OpsR P ops [o] (fun e a' s' => e = .normal ∧ a'.defers = a.defers ∧ keep s' ∧ restK P ops keep Q n (rem.filter (· != i)) a' s') a s)) : restK P ops keep Q (n + 1) rem a s := by
  simp only [Bool.and_eq_true, Bool.not_eq_true', List.all_eq_true, Bool.or_eq_true, List.any_eq_true, bne_iff_ne, ne_eq] at hr
  obtain ⟨h1, h2⟩ := hr
  refine ⟨fun e => by subst e; simp at h1, fun i hi hrd o ho => ?_⟩
  rcases h2 i hi with h3 | ⟨j, hj, h3, h4⟩
  · exact allL_mem h i (by simpa using h3) o ho
  · rcases hrd j hj with h5 | h5
    · exact absurd h5 h3
    · rw [h5] at h4; cases h4
theorem restK_op {i : Nat} {o : Oper} {R : Exit → Act → St → Prop} {a : Act} {s : St} (ho : ops[i]? = some o) (h : OpsR P ops [o] R a s) : ∀ o', ops[i]? = some o' → OpsR P ops [o'] R a s := fun o' ho' => by rw [ho] at ho'; cases ho'; exact h
theorem opsR_one {o : Oper} {R : Act → St → Prop} {Q : Exit → Act → St → Prop} {a aI : Act} {s : St} {w0 w : World} (hR : OpsR P ops [o] (fun e a' s' => e = .normal ∧ a'.defers = aI.defers ∧ R a' s') aI s) (hs : Sat s w) (he : Ext w0 w) (he1 : execOp a.eval o = execOp aI.eval o) (hw1 : Region.wanted o (yielded ops a.tmps) = Region.wanted o (yielded ops aI.tmps))
    {next : Act → World → Prop} (hn : ∀ v s' w', Sat s' w' → Ext w0 w' → R (aI.put o.dst v) s' → next (a.put o.dst v) w') :
    if Region.wanted o (yielded ops a.tmps) then o.wp P a w next (lift w0 Q) ∨ (o.asks P a w ∧ LetsOut (lift w0 Q)) else next (a.put o.dst undef) w := by
  have h := hR w0 w hs he
  simp only [wpList] at h
  rw [hw1]
  split
  · rename_i hw
    rw [if_pos hw] at h
    refine .inl ?_
    rcases h with h | ⟨_, b, u, s', _, _, h, _⟩
    · unfold Oper.wp at h ⊢
      rw [he1]
      generalize (execOp aI.eval o).run P w = r at h
      cases r with
      | ok nx w' =>
        cases nx with
        | value v =>
          obtain ⟨s', a1, a2, _, _, a3⟩ := h
          exact hn v s' w' a1 a2 a3
        | skip =>
          obtain ⟨s', a1, a2, _, _, a3⟩ := h
          exact hn undef s' w' a1 a2 a3
        | defer d =>
          obtain ⟨s', a1, a2, _, a4, a3⟩ := h
          exfalso
          cases hd : o.dst <;> simp [Act.put, hd] at a4
        | enter f args =>
          refine Calls.mono h fun e w'' h => ?_
          cases e with
          | returned v =>
            obtain ⟨s', a1, a2, _, _, a3⟩ := h
            exact hn v s' w'' a1 a2 a3
          | panicked chain =>
            obtain ⟨s', _, _, h, _⟩ := h
            cases h
          | outgrown =>
            obtain ⟨b, u, s', _, _, h, _⟩ := h
            cases h
        | row row args =>
          refine Go.Rows.mono (show Go.Rows P row args w' _ from h) fun v w'' h => ?_
          obtain ⟨s', a1, a2, _, _, a3⟩ := h
          exact hn v s' w'' a1 a2 a3
        | _ => exact h.elim
      | halt x w' =>
        cases x with
        | panic v =>
          obtain ⟨s', _, _, h, _⟩ := h
          cases h
        | _ => exact h.elim
    · cases h
  · rename_i hw
    rw [if_neg hw] at h
    obtain ⟨s', a1, a2, _, _, a3⟩ := h
    exact hn undef s' w a1 a2 a3
def mixOk (ops : Array Oper) (E B : List Bool) : Bool :=
  decide (E.length = ops.size) && decide (B.length = ops.size) && ((List.range ops.size).all fun i => !B.getD i false || (List.range ops.size).all fun j => E.getD j false || reach ops ops.size j i) &&
  (List.range ops.size).all (fun i => match ops[i]? with
    | none => false
    | some o => notSelect o && (o.after.all fun e => !Region.binds .any e || decide (e.on < i)) && (List.range ops.size).all fun j => match ops[j]? with
      | none => false
      | some u => (i == j || u.dst == none || u.dst != o.dst) &&
        (match u.dst with
         | none => true
         | some t => !(o.looksAt ops).contains t || (if j < i then reach ops ops.size i j && (!E.getD i false || E.getD j false) else j == i || (reach ops ops.size j i && (E.getD i false || !E.getD j false)))))
structure MixOk (l : List Oper) (E B : List Bool) : Prop where
  len : E.length = l.length
  lenB : B.length = l.length
  bef : ∀ (i j : Nat), i < l.length → j < l.length → B.getD i false = true → E.getD j false = false → reach l.toArray l.toArray.size j i = true
  sel : ∀ (i : Nat) (o : Oper), l[i]? = some o → ∀ c b, o.op ≠ .select c b
  dst : ∀ (i j : Nat) (o u : Oper) (t : Tmp), i ≠ j → l[i]? = some o → l[j]? = some u → u.dst = some t → o.dst ≠ some t
  src : ∀ (i j : Nat) (o u : Oper) (t : Tmp), l[i]? = some o → l[j]? = some u → u.dst = some t → t ∈ o.looksAt l.toArray →
    (j < i ∧ reach l.toArray l.toArray.size i j = true ∧ (E.getD i false = true → E.getD j false = true)) ∨ j = i ∨ (i < j ∧ reach l.toArray l.toArray.size j i = true ∧ (E.getD i false = false → E.getD j false = false))
  edge : ∀ (k : Nat) (o : Oper), l.toArray[k]? = some o → ∀ e ∈ o.after, Region.binds .any e = true → e.on < k
theorem mixOk_of {l : List Oper} {E B : List Bool} (h : mixOk l.toArray E B = true) : MixOk l E B := by
  simp only [mixOk, Bool.and_eq_true, decide_eq_true_eq, List.all_eq_true, List.mem_range] at h
  obtain ⟨⟨⟨h1, hB⟩, hbef⟩, h2⟩ := h
  have key : ∀ (i : Nat) (o : Oper), l[i]? = some o → i < l.length := fun i o ho => (List.getElem?_eq_some_iff.1 ho).1
  refine ⟨by simpa using h1, by simpa using hB, ?_, ?_, ?_, ?_, ?_⟩
  · intro i j hi hj hbi hej
    have := hbef i (by simpa using hi)
    rw [hbi] at this
    simp only [Bool.not_true, Bool.false_or, List.all_eq_true, List.mem_range] at this
    have := this j (by simpa using hj)
    rw [hej] at this
    simpa using this
  · intro i o ho c b hc
    have := h2 i (by simpa using key i o ho)
    simp only [List.getElem?_toArray, ho, Bool.and_eq_true] at this
    have := this.1.1
    simp [notSelect, hc] at this
  · intro i j o u t hij ho hu ht
    have := h2 i (by simpa using key i o ho)
    simp only [List.getElem?_toArray, ho, Bool.and_eq_true, List.all_eq_true, List.mem_range] at this
    have := this.2 j (by simpa using key j u hu)
    simp only [hu, Bool.and_eq_true, Bool.or_eq_true, beq_iff_eq, bne_iff_ne, ne_eq] at this
    rcases this.1 with (h | h) | h
    · exact absurd h hij
    · rw [h] at ht; cases ht
    · rw [ht] at h; exact fun e => h e.symm
  · intro i j o u t ho hu ht hl
    have := h2 i (by simpa using key i o ho)
    simp only [List.getElem?_toArray, ho, Bool.and_eq_true, List.all_eq_true, List.mem_range] at this
    have := this.2 j (by simpa using key j u hu)
    simp only [hu, Bool.and_eq_true] at this
    have := this.2
    have hc : (o.looksAt l.toArray).contains t = true := by simpa using hl
    simp only [ht, hc, Bool.not_true, Bool.false_or] at this
    split at this
    · rename_i hji
      simp only [Bool.and_eq_true, Bool.or_eq_true, Bool.not_eq_true'] at this
      exact .inl ⟨hji, this.1, fun he => by rcases this.2 with h | h; · rw [he] at h; cases h
                                            · exact h⟩
    · rename_i hji
      simp only [Bool.and_eq_true, Bool.or_eq_true, Bool.not_eq_true', beq_iff_eq] at this
      rcases this with h | ⟨h, h'⟩
      · exact .inr (.inl h)
      · by_cases e : j = i
        · exact .inr (.inl e)
        · exact .inr (.inr ⟨by omega, h, fun he => by rcases h' with h | h; · rw [he] at h; cases h
                                                      · exact h⟩)
  · intro k o ho e he hb
    have hkl : k < l.length := by have := (Array.getElem?_eq_some_iff.1 ho).1; simpa using this
    have := h2 k (by simpa using hkl)
    simp only [ho, Bool.and_eq_true] at this
    have := this.1.2
    simp only [← Array.all_toList, List.all_eq_true, Bool.or_eq_true, Bool.not_eq_true', decide_eq_true_eq] at this
    rcases this e (by simpa using he) with h | h
    · rw [hb] at h; cases h
    · exact h
theorem patE_defers : ∀ (l : List Oper) (E : List Bool) (vs : List Value) (a : Act), (patE l E vs a).defers = a.defers
  | [], _, _, a => rfl
  | _ :: _, [], _, a => rfl
  | _ :: _, true :: _, [], a => rfl
  | _ :: _, false :: _, [], a => rfl
  | o :: r, true :: E, v :: vs, a => by rw [patE, patE_defers r E vs]; cases o.dst <;> rfl
  | o :: r, false :: E, v :: vs, a => by rw [patE, patE_defers r E vs]
theorem patE_size : ∀ (l : List Oper) (E : List Bool) (vs : List Value) (a : Act), (patE l E vs a).tmps.size = a.tmps.size
  | [], _, _, a => rfl
  | _ :: _, [], _, a => rfl
  | _ :: _, true :: _, [], a => rfl
  | _ :: _, false :: _, [], a => rfl
  | o :: r, true :: E, v :: vs, a => by rw [patE, patE_size r E vs]; cases o.dst <;> simp [Act.put]
  | o :: r, false :: E, v :: vs, a => by rw [patE, patE_size r E vs]
theorem patE_other (t : Tmp) : ∀ (l : List Oper) (E : List Bool) (vs : List Value) (a : Act), (∀ (j : Nat) (o : Oper), l[j]? = some o → E[j]? = some true → o.dst ≠ some t) → (patE l E vs a).tmps[t]? = a.tmps[t]?
  | [], _, _, a, _ => rfl
  | _ :: _, [], _, a, _ => rfl
  | _ :: _, true :: _, [], a, _ => rfl
  | _ :: _, false :: _, [], a, _ => rfl
  | o :: r, true :: E, v :: vs, a, h => by
    rw [patE, patE_other t r E vs _ (fun j u hu he => h (j + 1) u (by simpa using hu) (by simpa using he)), put_get, if_neg (fun e => h 0 o rfl rfl e.1)]
  | o :: r, false :: E, v :: vs, a, h => by
    rw [patE, patE_other t r E vs _ (fun j u hu he => h (j + 1) u (by simpa using hu) (by simpa using he))]
theorem patE_at (t : Tmp) : ∀ (l : List Oper) (E : List Bool) (vs : List Value) (a : Act) (j : Nat) (o : Oper), l[j]? = some o → E[j]? = some true → o.dst = some t → (∀ (k : Nat) (u : Oper), k ≠ j → l[k]? = some u → u.dst ≠ some t) → t < a.tmps.size → j < vs.length →
    (patE l E vs a).tmps[t]? = vs[j]?
  | [], _, _, a, j, o, h, _, _, _, _, _ => by simp at h
  | _ :: _, [], _, a, j, o, _, h, _, _, _, _ => by simp at h
  | _ :: _, true :: _, [], a, j, o, _, _, _, _, _, h => by simp at h
  | _ :: _, false :: _, [], a, j, o, _, _, _, _, _, h => by simp at h
  | o' :: r, true :: E, v :: vs, a, 0, o, h, he, ho, hd, ht, _ => by
    simp only [List.getElem?_cons_zero, Option.some.injEq] at h
    subst h
    rw [patE, patE_other, put_get, if_pos ⟨ho, ht⟩]
    · rfl
    · exact fun k u hu _ => hd (k + 1) u (by omega) (by simpa using hu)
  | o' :: r, false :: E, v :: vs, a, 0, o, h, he, ho, hd, ht, _ => by simp at he
  | o' :: r, true :: E, v :: vs, a, j + 1, o, h, he, ho, hd, ht, hl => by
    rw [patE, patE_at t r E vs _ j o (by simpa using h) (by simpa using he) ho (fun k u hk hu => hd (k + 1) u (by omega) (by simpa using hu)) (by cases o'.dst <;> simpa [Act.put] using ht) (by simpa using hl)]
    rfl
  | o' :: r, false :: E, v :: vs, a, j + 1, o, h, he, ho, hd, ht, hl => by
    rw [patE, patE_at t r E vs _ j o (by simpa using h) (by simpa using he) ho (fun k u hk hu => hd (k + 1) u (by omega) (by simpa using hu)) ht (by simpa using hl)]
    rfl
theorem oblK_ev {keep : St → Prop} {s0 : St} {fin : Act → Prop} : ∀ (l : List Oper) (E B : List Bool) (a : Act), E.length = l.length → B.length = l.length → oblK P ops keep s0 fin l E B a →
    ∃ vs : List Value, vs.length = l.length ∧ fin (patE l E vs a) ∧ ∀ (j : Nat) (o : Oper), l[j]? = some o → E[j]? = some true → ∀ s, (if B.getD j false then s = s0 else keep s) →
      (Region.wanted o (yielded ops (patE (l.take j) (E.take j) (vs.take j) a).tmps) = true ∧ Quiet P o (patE (l.take j) (E.take j) (vs.take j) a).eval s (vs.getD j undef)) ∨ (Region.wanted o (yielded ops (patE (l.take j) (E.take j) (vs.take j) a).tmps) = false ∧ vs.getD j undef = undef)
  | [], [], _, a, _, _, h => ⟨[], rfl, by simpa [oblK, patE] using h, fun j o ho => by simp at ho⟩
  | [], _ :: _, _, _, hl, _, _ => by simp at hl
  | _ :: _, [], _, _, hl, _, _ => by simp at hl
  | _ :: _, _ :: _, [], _, _, hl, _ => by simp at hl
  | o :: r, true :: E, b :: B, a, hl, hb, ⟨v, h1, h2⟩ => by
    obtain ⟨vs, a1, a2, a3⟩ := oblK_ev r E B _ (by simpa using hl) (by simpa using hb) h2
    refine ⟨v :: vs, by simp [a1], a2, fun j u hu he => ?_⟩
    cases j with
    | zero =>
      simp only [List.getElem?_cons_zero, Option.some.injEq] at hu
      subst hu
      exact h1
    | succ j => exact a3 j u (by simpa using hu) (by simpa using he)
  | o :: r, false :: E, b :: B, a, hl, hb, h => by
    obtain ⟨vs, a1, a2, a3⟩ := oblK_ev r E B a (by simpa using hl) (by simpa using hb) h
    refine ⟨undef :: vs, by simp [a1], a2, fun j u hu he => ?_⟩
    cases j with
    | zero => simp at he
    | succ j => exact a3 j u (by simpa using hu) (by simpa using he)
def remOf (n : Nat) (E : List Bool) (listed : Array Bool) : List Nat := (List.range n).filter (fun i => !E.getD i false && !listed.getD i false)
theorem mem_remOf {n : Nat} {E : List Bool} {listed : Array Bool} {i : Nat} : i ∈ remOf n E listed ↔ i < n ∧ E.getD i false = false ∧ listed.getD i false = false := by
  simp [remOf, List.mem_filter]
structure Mix (P : Program) (l : List Oper) (E : List Bool) (vs : List Value) (a0 : Act) (s0 : St) (keep : St → Prop) (Q : Exit → Act → St → Prop) (w0 : World) (listed : Array Bool) (a aI : Act) (s : St) (w : World) : Prop where
  sz : listed.size = l.length
  cl : closed l.toArray listed
  sat : Sat s w
  ext : Ext w0 w
  kp : keep s
  st0 : (∀ j, j < l.length → E.getD j false = false → listed.getD j false = false) → s = s0
  da : a.defers = a0.defers
  dI : aI.defers = a0.defers
  za : a.tmps.size = a0.tmps.size
  zI : aI.tmps.size = a0.tmps.size
  agree : ∀ t : Tmp, (∀ (j : Nat) (o : Oper), l[j]? = some o → o.dst = some t → E.getD j false = true → listed.getD j false = true) → a.tmps[t]? = aI.tmps[t]?
  und : ∀ (j : Nat) (o : Oper) (t : Tmp), l[j]? = some o → o.dst = some t → listed.getD j false = false → a.tmps[t]? = a0.tmps[t]?
  doneE : ∀ (j : Nat) (o : Oper) (t : Tmp), l[j]? = some o → o.dst = some t → E.getD j false = true → listed.getD j false = true → t < a0.tmps.size → a.tmps[t]? = vs[j]?
  other : ∀ t : Tmp, (∀ (j : Nat) (o : Oper), l[j]? = some o → o.dst ≠ some t) → a.tmps[t]? = a0.tmps[t]?
  ideal : ∀ (j : Nat) (o : Oper) (t : Tmp), l[j]? = some o → o.dst = some t → E.getD j false = true → t < a0.tmps.size → aI.tmps[t]? = vs[j]?
  rest : ∃ n, (remOf l.length E listed).length ≤ n ∧ restK P l.toArray keep Q n (remOf l.length E listed) aI s
theorem getD_list {E : List Bool} {j : Nat} : E.getD j false = true ↔ E[j]? = some true := by
  rw [List.getD_eq_getElem?_getD]
  cases E[j]? with
  | none => simp
  | some b => simp
theorem remOf_set {n : Nat} {E : List Bool} {listed : Array Bool} {i : Nat} (hi : i < listed.size) : remOf n E (listed.setIfInBounds i true) = (remOf n E listed).filter (· != i) := by
  unfold remOf
  rw [List.filter_filter]
  refine List.filter_congr fun j hj => ?_
  by_cases e : j = i
  · subst e; simp [hi]
  · rw [getD_set_ne false (fun h => e h.symm)]; simp [e]
theorem remOf_setE {n : Nat} {E : List Bool} {listed : Array Bool} {i : Nat} (hi : E.getD i false = true) : remOf n E (listed.setIfInBounds i true) = remOf n E listed := by
  unfold remOf
  refine List.filter_congr fun j hj => ?_
  by_cases e : j = i
  · subst e; rw [hi]; rfl
  · rw [getD_set_ne false (fun h => e h.symm)]
section
variable {l : List Oper} {E B : List Bool} {vs : List Value} {a0 : Act} {s0 : St} {keep : St → Prop} {Q : Exit → Act → St → Prop} {w0 : World} {listed : Array Bool} {a aI : Act} {s : St} {w : World}
theorem Mix.unlisted (p : Mix P l E vs a0 s0 keep Q w0 listed a aI s w) {i j : Nat} (hn : listed.getD i false = false) (h : reach l.toArray l.toArray.size j i = true) : listed.getD j false = false := by
  cases hlj : listed.getD j false with
  | false => rfl
  | true =>
    have := closed_reach p.cl _ _ _ h (fun o' ho' => p.cl j o' ho' hlj)
    rw [hn] at this; cases this
/-- What an operation of the rest looks at. -/
theorem Mix.lookR (p : Mix P l E vs a0 s0 keep Q w0 listed a aI s w) (hok : MixOk l E B) {i : Nat} {o : Oper} (ho : l[i]? = some o) (hE : E.getD i false = false)
    (hr : ∀ o, l.toArray[i]? = some o → ∀ e ∈ o.after, Region.binds .any e = true → listed.getD e.on false = true) {t : Tmp} (ht : t ∈ o.looksAt l.toArray) : a.tmps[t]? = aI.tmps[t]? := by
  refine p.agree t fun j u hu hut hEj => ?_
  rcases hok.src i j o u t ho hu hut ht with ⟨h1, h2, h3⟩ | rfl | ⟨h1, h2, h3⟩
  · exact closed_reach p.cl _ _ _ h2 hr
  · rw [hE] at hEj; cases hEj
  · rw [h3 hE] at hEj; cases hEj
/-- What an operation that is told at once looks at. -/
theorem Mix.lookE (p : Mix P l E vs a0 s0 keep Q w0 listed a aI s w) (hok : MixOk l E B) (hvs : vs.length = l.length) {i : Nat} {o : Oper} (ho : l[i]? = some o) (hE : E.getD i false = true) (hn : listed.getD i false = false)
    (hr : ∀ o, l.toArray[i]? = some o → ∀ e ∈ o.after, Region.binds .any e = true → listed.getD e.on false = true) {t : Tmp} (ht : t ∈ o.looksAt l.toArray) : a.tmps[t]? = (patE (l.take i) (E.take i) (vs.take i) a0).tmps[t]? := by
  have hil : i < l.length := (List.getElem?_eq_some_iff.1 ho).1
  by_cases hex : ∃ (j : Nat) (u : Oper), l[j]? = some u ∧ u.dst = some t
  · obtain ⟨j, u, hu, hut⟩ := hex
    rcases hok.src i j o u t ho hu hut ht with ⟨h1, h2, h3⟩ | rfl | ⟨h1, h2, h3⟩
    · have hlj := closed_reach p.cl _ _ _ h2 hr
      have hEj := h3 hE
      by_cases hsz : t < a0.tmps.size
      · rw [p.doneE j u t hu hut hEj hlj hsz, patE_at t _ _ _ a0 j u (by rw [List.getElem?_take, if_pos h1]; exact hu) (by rw [List.getElem?_take, if_pos h1]; exact getD_list.1 hEj) hut ?_ hsz (by rw [List.length_take]; omega)]
        · rw [List.getElem?_take, if_pos h1]
        · intro k x hk hx
          rw [List.getElem?_take] at hx
          split at hx
          · exact hok.dst k j x u t hk hx hu hut
          · cases hx
      · have h1 : a.tmps[t]? = none := by rw [Array.getElem?_eq_none_iff, p.za]; exact Nat.le_of_not_lt hsz
        have h2 : (patE (l.take i) (E.take i) (vs.take i) a0).tmps[t]? = none := by rw [Array.getElem?_eq_none_iff, patE_size]; exact Nat.le_of_not_lt hsz
        rw [h1, h2]
    · rw [p.und j u t hu hut hn, patE_other]
      intro k x hx _
      rw [List.getElem?_take] at hx
      split at hx
      · exact hok.dst k j x u t (by omega) hx hu hut
      · cases hx
    · rw [p.und j u t hu hut (p.unlisted hn h2), patE_other]
      intro k x hx _
      rw [List.getElem?_take] at hx
      split at hx
      · exact hok.dst k j x u t (by omega) hx hu hut
      · cases hx
  · rw [p.other t (fun j u hu hut => hex ⟨j, u, hu, hut⟩), patE_other]
    intro k x hx _ hxt
    rw [List.getElem?_take] at hx
    split at hx
    · exact hex ⟨k, x, hx, hxt⟩
    · cases hx
theorem look_congr {o : Oper} {b c : Act} (hsel : ∀ cs x, o.op ≠ .select cs x) (h : ∀ t ∈ o.looksAt l.toArray, b.tmps[t]? = c.tmps[t]?) :
    execOp b.eval o = execOp c.eval o ∧ Region.wanted o (yielded l.toArray b.tmps) = Region.wanted o (yielded l.toArray c.tmps) := by
  constructor
  · refine execOp_congr o hsel fun x hx => ?_
    cases x with
    | tmp t =>
      have : t ∈ o.looksAt l.toArray := List.mem_append_left _ (List.mem_filterMap.2 ⟨.tmp t, by simpa using hx, rfl⟩)
      simp only [Act.eval, Array.getD_eq_getD_getElem?, h t this]
    | _ => rfl
  · unfold Region.wanted
    cases hg : o.guard with
    | none => rfl
    | some gw =>
      obtain ⟨g, want⟩ := gw
      have : yielded l.toArray b.tmps g = yielded l.toArray c.tmps g := by
        unfold yielded
        cases ht : (l.toArray[g]?).bind (·.dst) with
        | none => rfl
        | some t =>
          have : t ∈ o.looksAt l.toArray := List.mem_append_right _ (by rw [hg]; simp only; rw [ht]; simp)
          simp only [Option.bind_some, h t this]
      simp only [this]
theorem Mix.stepE (p : Mix P l E vs a0 s0 keep Q w0 listed a aI s w) (hok : MixOk l E B) (hvs : vs.length = l.length) {i : Nat} {o : Oper} {w' : World} (ho : l[i]? = some o) (hE : E.getD i false = true) (hn : listed.getD i false = false)
    (hr : ∀ o, l.toArray[i]? = some o → ∀ e ∈ o.after, Region.binds .any e = true → listed.getD e.on false = true) (hs : Sat s w') (he : Ext w0 w') : Mix P l E vs a0 s0 keep Q w0 (listed.setIfInBounds i true) (a.put o.dst (vs.getD i undef)) aI s w' := by
  have hil : i < l.length := (List.getElem?_eq_some_iff.1 ho).1
  have hlv : vs[i]? = some (vs.getD i undef) := by rw [List.getD_eq_getElem?_getD]; simp [hvs, hil]
  have other : ∀ (j : Nat) (u : Oper) (t : Tmp), j ≠ i → l[j]? = some u → u.dst = some t → (a.put o.dst (vs.getD i undef)).tmps[t]? = a.tmps[t]? := fun j u t hj hu hut => by
    rw [put_get, if_neg (fun e => hok.dst i j o u t (fun h => hj h.symm) ho hu hut e.1)]
  have lst : ∀ j, (listed.setIfInBounds i true).getD j false = true → j = i ∨ listed.getD j false = true := fun j hj => by
    by_cases e : j = i
    · exact .inl e
    · rw [getD_set_ne false (fun h => e h.symm)] at hj; exact .inr hj
  refine ⟨by simpa using p.sz, closed_set p.cl hr, hs, he, p.kp, fun h => p.st0 fun j hj hEj => ?_, by cases o.dst <;> exact p.da, p.dI, by cases o.dst <;> simpa [Act.put] using p.za, p.zI, ?_, ?_, ?_, ?_, p.ideal, ?_⟩
  · have := h j hj hEj
    rwa [getD_set_ne false (fun e => by subst e; rw [hE] at hEj; cases hEj)] at this
  · intro t ht
    by_cases e : o.dst = some t
    · by_cases hsz : t < a0.tmps.size
      · rw [put_get, if_pos ⟨e, by rw [p.za]; exact hsz⟩, p.ideal i o t ho e hE hsz, hlv]
      · have h1 : (a.put o.dst (vs.getD i undef)).tmps[t]? = none := by rw [put_get, if_neg (fun h => hsz (by rw [← p.za]; exact h.2)), Array.getElem?_eq_none_iff, p.za]; exact Nat.le_of_not_lt hsz
        have h2 : aI.tmps[t]? = none := by rw [Array.getElem?_eq_none_iff, p.zI]; exact Nat.le_of_not_lt hsz
        rw [h1, h2]
    · rw [put_get, if_neg (fun h => e h.1)]
      refine p.agree t fun j u hu hut hEj => ?_
      rcases lst j (ht j u hu hut hEj) with rfl | h
      · rw [ho] at hu; cases hu; exact absurd hut e
      · exact h
  · intro j u t hu hut hlj
    have hj : j ≠ i := fun e => by subst e; simp [p.sz, hil] at hlj
    rw [other j u t hj hu hut]
    rw [getD_set_ne false (fun h => hj h.symm)] at hlj
    exact p.und j u t hu hut hlj
  · intro j u t hu hut hEj hlj hsz
    by_cases e : j = i
    · subst e
      rw [ho] at hu; cases hu
      rw [put_get, if_pos ⟨hut, by rw [p.za]; exact hsz⟩, hlv]
    · rw [other j u t e hu hut]
      rcases lst j hlj with h | h
      · exact absurd h e
      · exact p.doneE j u t hu hut hEj h hsz
  · intro t ht
    rw [put_get, if_neg (fun e => ht i o ho e.1)]
    exact p.other t ht
  · rw [remOf_setE hE]; exact p.rest
theorem Mix.stepR (p : Mix P l E vs a0 s0 keep Q w0 listed a aI s w) (hok : MixOk l E B) (hvs : vs.length = l.length) {i : Nat} {o : Oper} {w' : World} {s' : St} {v : Value} {n : Nat} (ho : l[i]? = some o) (hE : E.getD i false = false) (hn : listed.getD i false = false)
    (hr : ∀ o, l.toArray[i]? = some o → ∀ e ∈ o.after, Region.binds .any e = true → listed.getD e.on false = true) (hs : Sat s' w') (he : Ext w0 w') (hk : keep s') (hrest : restK P l.toArray keep Q n ((remOf l.length E listed).filter (· != i)) (aI.put o.dst v) s') (hlen : (remOf l.length E listed).length ≤ n + 1) :
    Mix P l E vs a0 s0 keep Q w0 (listed.setIfInBounds i true) (a.put o.dst v) (aI.put o.dst v) s' w' := by
  have hil : i < l.length := (List.getElem?_eq_some_iff.1 ho).1
  have other : ∀ (b : Act) (j : Nat) (u : Oper) (t : Tmp), j ≠ i → l[j]? = some u → u.dst = some t → (b.put o.dst v).tmps[t]? = b.tmps[t]? := fun b j u t hj hu hut => by
    rw [put_get, if_neg (fun e => hok.dst i j o u t (fun h => hj h.symm) ho hu hut e.1)]
  have lst : ∀ j, E.getD j false = true → (listed.setIfInBounds i true).getD j false = true → listed.getD j false = true := fun j hEj hj => by
    by_cases e : j = i
    · subst e; rw [hE] at hEj; cases hEj
    · rw [getD_set_ne false (fun h => e h.symm)] at hj; exact hj
  refine ⟨by simpa using p.sz, closed_set p.cl hr, hs, he, hk, fun h => ?_, by cases o.dst <;> exact p.da, by cases o.dst <;> exact p.dI, by cases o.dst <;> simpa [Act.put] using p.za, by cases o.dst <;> simpa [Act.put] using p.zI, ?_, ?_, ?_, ?_, ?_, ?_⟩
  · have := h i hil hE
    simp [p.sz, hil] at this
  · intro t ht
    rw [put_get, put_get, p.za, p.zI]
    by_cases e : o.dst = some t ∧ t < a0.tmps.size
    · rw [if_pos e, if_pos e]
    · rw [if_neg e, if_neg e]
      exact p.agree t fun j u hu hut hEj => lst j hEj (ht j u hu hut hEj)
  · intro j u t hu hut hlj
    have hj : j ≠ i := fun e => by subst e; simp [p.sz, hil] at hlj
    rw [other a j u t hj hu hut]
    rw [getD_set_ne false (fun h => hj h.symm)] at hlj
    exact p.und j u t hu hut hlj
  · intro j u t hu hut hEj hlj hsz
    have hj : j ≠ i := fun e => by subst e; rw [hE] at hEj; cases hEj
    rw [other a j u t hj hu hut]
    exact p.doneE j u t hu hut hEj (lst j hEj hlj) hsz
  · intro t ht
    rw [put_get, if_neg (fun e => ht i o ho e.1)]
    exact p.other t ht
  · intro j u t hu hut hEj hsz
    have hj : j ≠ i := fun e => by subst e; rw [hE] at hEj; cases hEj
    rw [other aI j u t hj hu hut]
    exact p.ideal j u t hu hut hEj hsz
  · rw [remOf_set (by rw [p.sz]; exact hil)]
    refine ⟨n, ?_, hrest⟩
    have hmem : i ∈ remOf l.length E listed := mem_remOf.2 ⟨hil, hE, hn⟩
    have : ((remOf l.length E listed).filter (· != i)).length < (remOf l.length E listed).length := by
      refine List.length_filter_lt_length_iff_exists.2 ⟨i, hmem, by simp⟩
    omega
theorem draw_mix (hok : MixOk l E B) (hvs : vs.length = l.length)
    (hob : ∀ (j : Nat) (o : Oper), l[j]? = some o → E[j]? = some true → ∀ s, (if B.getD j false then s = s0 else keep s) →
      (Region.wanted o (yielded l.toArray (patE (l.take j) (E.take j) (vs.take j) a0).tmps) = true ∧ Quiet P o (patE (l.take j) (E.take j) (vs.take j) a0).eval s (vs.getD j undef)) ∨ (Region.wanted o (yielded l.toArray (patE (l.take j) (E.take j) (vs.take j) a0).tmps) = false ∧ vs.getD j undef = undef)) :
    ∀ (fuel : Nat) (listed : Array Bool) (a aI : Act) (s : St) (w : World), (List.range l.length).countP (fun j => !listed.getD j false) ≤ fuel → Mix P l E vs a0 s0 keep Q w0 listed a aI s w → wpAny P .any l.toArray (lift w0 Q) fuel listed a w := by
  have fin : ∀ (listed : Array Bool) (a aI : Act) (s : St) (w : World), (∀ j, j < l.length → listed.getD j false = true) → Mix P l E vs a0 s0 keep Q w0 listed a aI s w → lift w0 Q .normal a w := by
    intro listed a aI s w hall p
    have ha : a = aI := Act.ext_get (p.da.trans p.dI.symm) fun t => p.agree t fun j u hu _ _ => hall j (List.getElem?_eq_some_iff.1 hu).1
    have hrem : remOf l.length E listed = [] := List.eq_nil_iff_forall_not_mem.2 fun i hi => by
      obtain ⟨h1, _, h2⟩ := mem_remOf.1 hi
      rw [hall i h1] at h2; cases h2
    obtain ⟨n, _, hr⟩ := p.rest
    rw [hrem] at hr
    refine ⟨s, p.sat, p.ext, ?_⟩
    rw [ha]
    cases n with
    | zero => exact hr rfl
    | succ n => exact hr.1 rfl
  intro fuel
  induction fuel with
  | zero =>
    intro listed a aI s w hc p
    have hall : ∀ j, j < l.length → listed.getD j false = true := fun j hj => by
      have := count_zero _ _ (Nat.le_zero.1 hc) j hj
      simpa using this
    refine ⟨List.eq_nil_iff_forall_not_mem.2 fun i hi => ?_, fin listed a aI s w hall p⟩
    obtain ⟨h1, o, h2, _⟩ := mem_ready.1 hi
    obtain ⟨hn, hilt⟩ := getD_true h1
    rw [hall i (by rw [← p.sz]; exact hilt)] at hn; cases hn
  | succ fuel ih =>
    intro listed a aI s w hc p
    refine ⟨fun hnil => ?_, fun i hi => ?_⟩
    · by_cases hall : ∀ j, j < l.length → listed.getD j false = true
      · exact fin listed a aI s w hall p
      · exfalso
        obtain ⟨j0, hj0, hn0⟩ : ∃ j, j < l.length ∧ listed.getD j false = false := by
          refine Classical.byContradiction fun hne => hall fun j hj => ?_
          cases hl : listed.getD j false with
          | true => rfl
          | false => exact absurd ⟨j, hj, hl⟩ hne
        obtain ⟨j, hj, hmin⟩ := exists_least (p := fun j => j < l.length ∧ listed.getD j false = false) ⟨j0, hj0, hn0⟩
        have hjl := hj.1
        have : j ∈ Region.ready .any l.toArray listed := by
          refine mem_ready.2 ⟨getD_false hj.2 (by rw [p.sz]; exact hjl), l[j], by simp [hjl], fun e he hb => ?_⟩
          have hlt := hok.edge j l[j] (by simp [hjl]) e he hb
          cases hl : listed.getD e.on false with
          | true => rfl
          | false => have := hmin e.on ⟨by omega, hl⟩; omega
        rw [hnil] at this; cases this
    · obtain ⟨h1, o, h2, h3⟩ := mem_ready.1 hi
      obtain ⟨hn, hilt⟩ := getD_true h1
      have hr : ∀ o, l.toArray[i]? = some o → ∀ e ∈ o.after, Region.binds .any e = true → listed.getD e.on false = true := fun o' ho' => by rw [h2] at ho'; cases ho'; exact h3
      have ho : l[i]? = some o := by simpa using h2
      have hcount : (List.range l.length).countP (fun j => !(listed.setIfInBounds i true).getD j false) ≤ fuel := by
        have := count_set (fun j => !listed.getD j false) (fun j => !(listed.setIfInBounds i true).getD j false) i (by simp [hn]) (by simp [hilt]) (fun j hj => by rw [getD_set_ne false (fun e => hj e.symm)]) l.length (by rw [← p.sz]; exact hilt)
        omega
      unfold Go.wpOp
      simp only [h2]
      cases hE : E.getD i false with
      | true =>
        obtain ⟨e1, e2⟩ := look_congr (l := l) (hok.sel i o ho) (fun t ht => p.lookE hok hvs ho hE hn hr ht)
        have hcond : if B.getD i false then s = s0 else keep s := by
          split
          · rename_i hB
            refine p.st0 fun j hj hEj => p.unlisted hn (hok.bef i j (by rw [← p.sz]; exact hilt) hj hB hEj)
          · exact p.kp
        have := hob i o ho (getD_list.1 hE) s hcond
        rw [← e2] at this
        rcases this with ⟨hw, hq⟩ | ⟨hw, hv⟩
        · rw [if_pos hw]
          refine .inl (opS_wp (K := fun v s' => s' = s ∧ v = vs.getD i undef) ?_ p.sat p.ext ?_)
          · show swp P (execOp a.eval o) _ _; rw [e1]; exact hq _ ⟨rfl, rfl⟩
          · rintro v s' w' ⟨rfl, rfl⟩ hs' he'
            exact ih _ _ aI s' w' hcount (p.stepE hok hvs ho hE hn hr hs' he')
        · rw [if_neg (by simp [hw])]
          have := p.stepE hok hvs ho hE hn hr p.sat p.ext
          rw [hv] at this
          exact ih _ _ aI s w hcount this
      | false =>
        obtain ⟨e1, e2⟩ := look_congr (l := l) (hok.sel i o ho) (fun t ht => p.lookR hok ho hE hr ht)
        obtain ⟨n, hlen, hrest⟩ := p.rest
        have hmem : i ∈ remOf l.length E listed := mem_remOf.2 ⟨by rw [← p.sz]; exact hilt, hE, hn⟩
        have hpos : 0 < (remOf l.length E listed).length := List.length_pos_of_mem hmem
        cases n with
        | zero => omega
        | succ n =>
          have hstep := hrest.2 i hmem (fun j hj => by
            by_cases e : j = i
            · exact .inl e
            · refine .inr ?_
              cases hre : reach l.toArray l.toArray.size i j with
              | false => rfl
              | true =>
                have := closed_reach p.cl _ i j hre hr
                rw [(mem_remOf.1 hj).2.2] at this; cases this) o h2
          exact opsR_one hstep p.sat p.ext e1 e2 fun v s' w' hs' he' h => ih _ _ _ s' w' hcount (p.stepR hok hvs ho hE hn hr hs' he' h.1 h.2 hlen)
end
theorem run_mix {Q : Exit → Act → St → Prop} {l : List Oper} (hm : P.follows .mixedOrders = true) (E B : List Bool) (keep : St → Prop) {id : Nat} {a0 : Act} {s : St} (hck : mixOk l.toArray E B = true)
    (hdst : (l.all fun o => match o.dst with | none => true | some t => decide (t < a0.tmps.size)) = true) (hk : keep s)
    (h : oblK P l.toArray keep s (fun a' => restK P l.toArray keep Q (remOf l.length E #[]).length (remOf l.length E #[]) a' s) l E B a0) : Run P (.region id l.toArray true) Q a0 s := by
  intro w0 w hs he
  refine wp_region_any hm ?_
  have hok := mixOk_of hck
  obtain ⟨vs, hvs, hfin, hob⟩ := oblK_ev l E B a0 hok.len hok.lenB h
  have hdst' : ∀ (j : Nat) (o : Oper) (t : Tmp), l[j]? = some o → o.dst = some t → t < a0.tmps.size := fun j o t ho ht => by
    have := List.all_eq_true.1 hdst o (List.mem_of_getElem? ho)
    simpa [ht] using this
  have hget : ∀ j, (Array.replicate l.toArray.size false).getD j false = false := fun j => by
    simp only [Array.getD_eq_getD_getElem?, Array.getElem?_replicate]; split <;> rfl
  have hrem : remOf l.length E (Array.replicate l.toArray.size false) = remOf l.length E #[] := by
    unfold remOf
    refine List.filter_congr fun j _ => ?_
    rw [hget]; rfl
  refine draw_mix hok hvs hob _ _ a0 (patE l E vs a0) s _ ?_ ⟨by simp, ?_, hs.drawn _, ⟨he.os, he.tape, he.output, he.size⟩, hk, fun _ => rfl, rfl, patE_defers l E vs a0, rfl, patE_size l E vs a0, ?_, fun _ _ _ _ _ _ => rfl, ?_, fun _ _ => rfl, ?_, ?_⟩
  · have : (List.range l.length).countP (fun j => !(Array.replicate l.toArray.size false).getD j false) ≤ (List.range l.length).length := List.countP_le_length
    simpa using this
  · intro i o _ hi; rw [hget] at hi; cases hi
  · intro t ht
    rw [patE_other]
    intro j o ho hEj hut
    have := ht j o ho hut (getD_list.2 hEj)
    rw [hget] at this; cases this
  · intro j o t _ _ _ hl; rw [hget] at hl; cases hl
  · intro j o t ho hut hEj hsz
    have hjl : j < l.length := (List.getElem?_eq_some_iff.1 ho).1
    exact patE_at t l E vs a0 j o ho (getD_list.1 hEj) hut (fun k u hk hu => hok.dst k j u o t hk hu ho hut) hsz (by rw [hvs]; exact hjl)
  · rw [hrem]; exact ⟨_, Nat.le_refl _, hfin⟩
section
variable {keep : St → Prop} {s0 : St} {fin : Act → Prop} {o : Oper} {r : List Oper} {E B : List Bool} {b : Bool} {a : Act}
theorem oblK_b {v : Value} (hg : Region.wanted o (yielded ops a.tmps) = true) (hq : Quiet P o a.eval s0 v) (k : oblK P ops keep s0 fin r E B (a.put o.dst v)) : oblK P ops keep s0 fin (o :: r) (true :: E) (true :: B) a :=
  ⟨v, fun s hs => .inl ⟨hg, by rw [if_pos rfl] at hs; subst hs; exact hq⟩, k⟩
theorem oblK_k {v : Value} (hg : Region.wanted o (yielded ops a.tmps) = true) (hq : ∀ s, keep s → Quiet P o a.eval s v) (k : oblK P ops keep s0 fin r E B (a.put o.dst v)) : oblK P ops keep s0 fin (o :: r) (true :: E) (false :: B) a :=
  ⟨v, fun s hs => .inl ⟨hg, hq s hs⟩, k⟩
theorem oblK_bb {c : Bool} (hg : Region.wanted o (yielded ops a.tmps) = true) (hq : Quiet P o a.eval s0 (.bool c)) (ht : c = true → oblK P ops keep s0 fin r E B (a.put o.dst (.bool true))) (hf : c = false → oblK P ops keep s0 fin r E B (a.put o.dst (.bool false))) : oblK P ops keep s0 fin (o :: r) (true :: E) (true :: B) a := by
  refine oblK_b hg hq ?_
  cases c with
  | true => exact ht rfl
  | false => exact hf rfl
theorem oblK_kb {c : Bool} (hg : Region.wanted o (yielded ops a.tmps) = true) (hq : ∀ s, keep s → Quiet P o a.eval s (.bool c)) (ht : c = true → oblK P ops keep s0 fin r E B (a.put o.dst (.bool true))) (hf : c = false → oblK P ops keep s0 fin r E B (a.put o.dst (.bool false))) : oblK P ops keep s0 fin (o :: r) (true :: E) (false :: B) a := by
  refine oblK_k hg hq ?_
  cases c with
  | true => exact ht rfl
  | false => exact hf rfl
theorem oblK_skip (hg : Region.wanted o (yielded ops a.tmps) = false) (k : oblK P ops keep s0 fin r E B (a.put o.dst undef)) : oblK P ops keep s0 fin (o :: r) (true :: E) (b :: B) a :=
  ⟨undef, fun s hs => .inr ⟨hg, rfl⟩, k⟩
theorem oblK_cut {α : Type} {kd : Kd α} {x : Operand} {d : Option Tmp} {ty : TypeId} {ps : String} {af : Array Edge} {g : Option (Nat × Bool)} {t e : TypeId} {bb : Bool} {n : Nat} {zv : Value} [ht : TySlice P t e] [htv : TyV P e bb n zv] {v : Value} {xs : List α} {I : Hp} {l h : Nat} {lo hi : Option Operand}
    (hg : Region.wanted (Oper.mk d (.slice t x lo hi none) ty ps af g) (yielded ops a.tmps) = true) (hx : a.eval x = v) (hs : Sl kd I v xs) (hl : Bnd a.eval lo 0 l) (hh : Bnd a.eval hi xs.length h) (hk : kd.sz = n) (h1 : l ≤ h) (h2 : h ≤ xs.length)
    (hK : ∀ v', Sl kd I v' ((xs.take h).drop l) → oblK P ops keep s0 fin r E B (a.put d v')) : oblK P ops keep s0 fin (Oper.mk d (.slice t x lo hi none) ty ps af g :: r) (true :: E) (b :: B) a := by
  subst hk
  exact ⟨_, fun s _ => .inl ⟨hg, q_slice hx hs.len hl hh h1 h2⟩, hK _ (hs.sub h1 h2 (fun _ h => by cases h))⟩
theorem oblK_r (k : oblK P ops keep s0 fin r E B a) : oblK P ops keep s0 fin (o :: r) (false :: E) (b :: B) a := k
theorem oblK_nil (k : fin a) : oblK P ops keep s0 fin [] E B a := by cases E <;> exact k
end
theorem run_mixL {Q : Exit → Act → St → Prop} {l : List Oper} (hm : P.follows .mixedOrders = true) (E B : List Bool) (rem : List Nat) (keep : St → Prop) {id : Nat} {a0 : Act} {s : St} (hck : (mixOk l.toArray E B && (remOf l.length E #[] == rem)) = true)
    (hdst : (l.all fun o => match o.dst with | none => true | some t => decide (t < a0.tmps.size)) = true) (hk : keep s)
    (h : oblK P l.toArray keep s (fun a' => restK P l.toArray keep Q rem.length rem a' s) l E B a0) : Run P (.region id l.toArray true) Q a0 s := by
  rw [Bool.and_eq_true] at hck
  have hr : remOf l.length E #[] = rem := by simpa using hck.2
  subst hr
  exact run_mix hm E B keep hck.1 hdst hk h
/-- What was there is there still. -/
def KeepS (s z : St) : Prop := Hp.le s.I z.I ∧ ∀ p ∈ s.cs, p ∈ z.cs
theorem KeepS.refl {s : St} : KeepS s s := ⟨.rfl, fun _ h => h⟩
theorem KeepS.has {s z : St} (h : KeepS s z) {b i : Nat} {o : Obj} (k : AtB b s.cs i o) : z.has b o := .inr (h.2 _ (List.mem_of_getElem? k.at_))
theorem KeepS.hasS {s z : St} (h : KeepS s z) {b : Nat} {o : Obj} (k : s.has b o) : z.has b o := k.imp (h.1 _ _) (h.2 _)
theorem KeepS.el {α : Type} {k : Kd α} {s z : St} (h : KeepS s z) {b o : Nat} {w : α} {l : List Value} (e : El k s b o w l) : El k z b o w l := by
  obtain ⟨arr, ee, f, h1, h2, h3⟩ := e
  exact ⟨arr, ee, f, h.hasS h1, k.mono h.1 h2, h3⟩
end
end Go.Proofs.YtcnbcblihepbmaaGreatDoor
