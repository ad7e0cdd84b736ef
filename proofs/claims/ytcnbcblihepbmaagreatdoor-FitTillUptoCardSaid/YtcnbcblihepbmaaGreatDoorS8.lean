/- Slices that the code owns: made, appended to, written, read, handed on. It holds for every program. -/
import Derived.Test.YtcnbcblihepbmaaGreatDoorS7
set_option autoImplicit false
set_option linter.unusedSimpArgs false
set_option linter.unusedVariables false
namespace Go.Proofs.YtcnbcblihepbmaaGreatDoor
open Go Go.RowKit

/-- A slice that can be read in a state. -/
def SlR {α : Type} (k : Kd α) (s : St) (v : Value) (xs : List α) : Prop :=
  ∃ A c, v = .slice A xs.length c ∧ xs.length ≤ c ∧ xs.length ≤ 9223372036854775807 ∧ (0 < xs.length → ∃ b o arr e f, A = some ⟨b, o, none⟩ ∧ s.has b (.cells arr e f) ∧ Rows k s.I arr o xs)
theorem Sl.r {α : Type} {k : Kd α} {I : Hp} {s : St} {v : Value} {xs : List α} (h : Sl k I v xs) (hl : Hp.le I s.I) : SlR k s v xs := by
  obtain ⟨A, c, h1, h2, h3, h4⟩ := h
  refine ⟨A, c, h1, h2, h3, fun hp => ?_⟩
  obtain ⟨b, o, arr, e, f, a1, a2, a3⟩ := h4 hp
  exact ⟨b, o, arr, e, f, a1, .inl (hl _ _ a2), a3.mono hl⟩
theorem SlR.mono {α : Type} {k : Kd α} {s : St} {J : Hp} {v : Value} {xs : List α} (hl : Hp.le s.I J) (h : SlR k s v xs) : SlR k ⟨J, s.cs⟩ v xs := by
  obtain ⟨A, c, h1, h2, h3, h4⟩ := h
  refine ⟨A, c, h1, h2, h3, fun hp => ?_⟩
  obtain ⟨b, o, arr, e, f, a1, a2, a3⟩ := h4 hp
  exact ⟨b, o, arr, e, f, a1, a2.imp (hl _ _) id, a3.mono hl⟩
/-- A slice that the code owns: its block is in hs. -/
def OwnS {α : Type} (k : Kd α) (e : TypeId) (I : Hp) (v : Value) (hs : List (Nat × Obj)) (xs : List α) : Prop :=
  xs.length ≤ 9223372036854775807 ∧ ((∃ A, v = .slice A 0 0 ∧ hs = [] ∧ xs = []) ∨
    ∃ b cap arr, v = .slice (some ⟨b, 0, none⟩) xs.length cap ∧ hs = [(b, .cells arr e (0, 0))] ∧ xs.length ≤ cap ∧ arr.size = cap * k.sz ∧ Rows k I arr 0 xs)
theorem OwnS.nil {α : Type} (k : Kd α) (e : TypeId) (I : Hp) : OwnS k e I (.slice none 0 0) [] [] := ⟨by simp, .inl ⟨_, rfl, rfl, rfl⟩⟩
theorem OwnS.cap0 {α : Type} (k : Kd α) (e : TypeId) (I : Hp) (A : Option Addr) : OwnS k e I (.slice A 0 0) [] [] := ⟨by simp, .inl ⟨_, rfl, rfl, rfl⟩⟩
theorem OwnS.mono {α : Type} {k : Kd α} {e : TypeId} {I J : Hp} {v : Value} {hs : List (Nat × Obj)} {xs : List α} (hl : Hp.le I J) (h : OwnS k e I v hs xs) : OwnS k e J v hs xs := by
  obtain ⟨h1, h2⟩ := h
  refine ⟨h1, h2.imp id ?_⟩
  rintro ⟨b, cap, arr, a1, a2, a3, a4, a5⟩
  exact ⟨b, cap, arr, a1, a2, a3, a4, a5.mono hl⟩
theorem OwnS.r {α : Type} {k : Kd α} {e : TypeId} {s : St} {v : Value} {hs : List (Nat × Obj)} {xs : List α} (h : OwnS k e s.I v hs xs) (hm : ∀ p ∈ hs, p ∈ s.cs) : SlR k s v xs := by
  obtain ⟨h1, h2⟩ := h
  rcases h2 with ⟨A, rfl, rfl, rfl⟩ | ⟨b, cap, arr, rfl, rfl, a3, a4, a5⟩
  · exact ⟨A, 0, rfl, Nat.le_refl _, by simp, fun h => by simp at h⟩
  · exact ⟨_, cap, rfl, a3, h1, fun _ => ⟨b, 0, arr, e, (0, 0), rfl, .inr (hm _ (by simp)), a5⟩⟩
theorem Sl.none {α : Type} (k : Kd α) (I : Hp) (A : Option Addr) : Sl k I (.slice A 0 0) [] := ⟨A, 0, rfl, Nat.le_refl _, by simp, fun h => by simp at h⟩
/-- It turns no more. -/
theorem OwnS.freeze {α : Type} {k : Kd α} {e : TypeId} {I : Hp} {v : Value} {hs : List (Nat × Obj)} {xs : List α} (h : OwnS k e I v hs xs) (hn : ∀ p ∈ hs, I p.1 = none) : ∃ J, Hp.le I J ∧ Sl k J v xs ∧ ∀ cs, Gh ⟨I, hs ++ cs⟩ ⟨J, cs⟩ := by
  obtain ⟨h1, h2⟩ := h
  rcases h2 with ⟨A, rfl, rfl, rfl⟩ | ⟨b, cap, arr, rfl, rfl, a3, a4, a5⟩
  · exact ⟨I, .rfl, Sl.none k I A, fun _ => .refl⟩
  · have hl := Hp.le_put (o := .cells arr e (0, 0)) (hn (b, .cells arr e (0, 0)) (by simp))
    refine ⟨I.put b (.cells arr e (0, 0)), hl, ⟨_, cap, rfl, a3, h1, fun _ => ⟨b, 0, arr, e, (0, 0), rfl, ?_, a5.mono hl⟩⟩, fun _ => .freeze⟩
    simp [Hp.put]
theorem run_freeze {P : Program} {c : Code} {Q : Exit → Act → St → Prop} {a : Act} {s : St} {α : Type} {k : Kd α} {e : TypeId} {I : Hp} {v : Value} {A B hs : List (Nat × Obj)} {xs : List α} (hv : OwnS k e I v hs xs) (hs_ : s = ⟨I, A ++ (hs ++ B)⟩)
    (h : ∀ J, Hp.le I J → Sl k J v xs → Run P c Q a ⟨J, A ++ B⟩) : Run P c Q a s := by
  subst hs_
  intro w0 w hs1 he
  obtain ⟨J, h1, h2, h3⟩ := hv.freeze (fun p hp => (hs1.own p (by simp [hp])).2)
  refine h J h1 h2 w0 w (h3 _ w ((Gh.perm ?_) w hs1)) he
  exact (List.perm_append_comm_assoc A hs B).symm

theorem wr_get (l : List Value) : ∀ (c : Array Value) (o i : Nat), o + l.length ≤ c.size → (wr c o l)[i]? = if o ≤ i ∧ i < o + l.length then l[i - o]? else c[i]? := by
  induction l with
  | nil => intro c o i _; simp only [wr, List.length_nil, Nat.add_zero]; rw [if_neg (by omega)]
  | cons v r ih =>
    intro c o i h
    simp only [List.length_cons] at h
    rw [wr, ih _ _ _ (by simp; omega)]
    simp only [List.length_cons]
    by_cases h1 : o + 1 ≤ i ∧ i < o + 1 + r.length
    · rw [if_pos h1, if_pos (by omega)]
      have : i - o = (i - (o + 1)) + 1 := by omega
      rw [this, List.getElem?_cons_succ]
    · rw [if_neg h1, Array.getElem?_setIfInBounds]
      by_cases h2 : o = i
      · subst h2
        rw [if_pos rfl, if_pos (by omega), if_pos (by omega)]; simp
      · rw [if_neg h2, if_neg (by omega)]
section
variable {α : Type} {k : Kd α} {I : Hp} {xs ys : List α}
theorem Rows.cell {arr : Array Value} {o : Nat} (h : Rows k I arr o xs) {i : Nat} (hi : i < xs.length * k.sz) (hk : 0 < k.sz) : ∃ u, arr[o + i]? = some u ∧ vOne u = true := by
  have hj : i / k.sz < xs.length := (Nat.div_lt_iff_lt_mul hk).2 hi
  obtain ⟨cs, h1, h2⟩ := h (i / k.sz) xs[i / k.sz] (by simp [hj])
  have hm := Nat.mod_lt i hk
  have h3 := h2 (i % k.sz) hm
  have e : o + i / k.sz * k.sz + i % k.sz = o + i := by rw [Nat.add_assoc, Nat.mul_comm, Nat.div_add_mod]
  rw [e] at h3
  have hl : i % k.sz < cs.length := by rw [k.len h1]; exact hm
  refine ⟨cs[i % k.sz], by rw [h3]; simp [hl], ?_⟩
  exact List.all_eq_true.1 (k.one h1) _ (List.getElem_mem hl)
theorem Rows.size {arr : Array Value} {o : Nat} (h : Rows k I arr o xs) (hk : 0 < k.sz) (hx : 0 < xs.length) : o + xs.length * k.sz ≤ arr.size := by
  have hp : 0 < xs.length * k.sz := Nat.mul_pos hx hk
  obtain ⟨u, h1, _⟩ := h.cell (i := xs.length * k.sz - 1) (by omega) hk
  have := (Array.getElem?_eq_some_iff.1 h1).1
  omega
/-- The same cells elsewhere. -/
theorem Rows.moved {arr arr' : Array Value} {o o' : Nat} (h : Rows k I arr o xs) (he : ∀ i, i < xs.length * k.sz → arr'[o' + i]? = arr[o + i]?) : Rows k I arr' o' xs := by
  intro j x hx
  obtain ⟨cs, h1, h2⟩ := h j x hx
  refine ⟨cs, h1, fun i hi => ?_⟩
  have hj : j < xs.length := (List.getElem?_eq_some_iff.1 hx).1
  have hlt : j * k.sz + i < xs.length * k.sz := Nat.lt_of_lt_of_le (by rw [Nat.succ_mul]; omega : j * k.sz + i < (j + 1) * k.sz) (Nat.mul_le_mul_right _ hj)
  rw [Nat.add_assoc, he _ hlt, ← Nat.add_assoc]; exact h2 i hi
theorem Rows.append {arr : Array Value} {o : Nat} (h : Rows k I arr o xs) (h' : Rows k I arr (o + xs.length * k.sz) ys) : Rows k I arr o (xs ++ ys) := by
  intro j x hx
  rw [List.getElem?_append] at hx
  split at hx
  · exact h j x hx
  · rename_i hj
    obtain ⟨cs, h1, h2⟩ := h' _ x hx
    refine ⟨cs, h1, fun i hi => ?_⟩
    rw [← h2 i hi]
    congr 1
    have e1 : j * k.sz = xs.length * k.sz + (j - xs.length) * k.sz := by rw [← Nat.add_mul]; congr 1; omega
    omega
theorem Rows.empty {arr : Array Value} {o : Nat} : Rows k I arr o ([] : List α) := fun j x h => by simp at h
theorem Rows.take {arr : Array Value} {o : Nat} (h : Rows k I arr o xs) (n : Nat) : Rows k I arr o (xs.take n) := fun j x hx => by
  rw [List.getElem?_take] at hx
  split at hx
  · exact h j x hx
  · cases hx
theorem Rows.drop {arr : Array Value} {o : Nat} (h : Rows k I arr o xs) (n : Nat) : Rows k I arr (o + n * k.sz) (xs.drop n) := fun j x hx => by
  rw [List.getElem?_drop] at hx
  obtain ⟨cs, h1, h2⟩ := h _ x hx
  refine ⟨cs, h1, fun i hi => ?_⟩
  rw [← h2 i hi]
  congr 1
  rw [Nat.add_mul]; omega
end
theorem growBy_le (n : Nat) : ∀ (r c : Nat), Builtin.growBy n r c ≤ max c (n + (n + 768) / 4)
  | 0, c => by simp [Builtin.growBy]; omega
  | r + 1, c => by
    simp only [Builtin.growBy]
    split
    · omega
    · have := growBy_le n r (c + (c + 768) / 4)
      omega
theorem nextslicecap_le (n c : Nat) (h : c < n) : Builtin.nextslicecap n c ≤ 2 * n + 192 := by
  unfold Builtin.nextslicecap
  split
  · omega
  · split
    · omega
    · have := growBy_le n 4 c
      omega
theorem zeroCells_size (z : Array Value) (n : Nat) : (Builtin.zeroCells z n).size = n * z.size := by simp [Builtin.zeroCells]
section
variable {P : Program} {s : St} {ρ : Operand → Value} {d : Option Tmp} {ty : TypeId} {ps : String} {af : Array Edge} {g : Option (Nat × Bool)} {x y z : Operand} {K : Value → St → Prop} {α : Type} {k : Kd α}
theorem swp_firstCells {v : Value} {xs : List α} (h : SlR k s v xs) (hk : 0 < k.sz) : ∃ cells : Array Value, cells.size = xs.length * k.sz ∧ Rows k s.I cells 0 xs ∧ (∀ u ∈ cells.toList, vOne u = true) ∧
    ∀ K : Array Value → St → Prop, K cells s → swp P (Builtin.firstCells k.sz xs.length v) s K := by
  obtain ⟨A, c, rfl, h2, h3, h4⟩ := h
  by_cases hx : 0 < xs.length
  · obtain ⟨b, o, arr, e, f, rfl, a2, a3⟩ := h4 hx
    have hsz := a3.size hk hx
    refine ⟨arr.extract o (o + xs.length * k.sz), by simp; omega, ?_, ?_, ?_⟩
    · refine a3.moved fun i hi => ?_
      rw [Array.getElem?_extract, if_pos (by omega), Nat.zero_add]
    · intro u hu
      obtain ⟨i, hi⟩ := List.mem_iff_getElem?.1 hu
      rw [Array.getElem?_toList, Array.getElem?_extract] at hi
      split at hi
      · rename_i hlt
        obtain ⟨u', h5, h6⟩ := a3.cell (i := i) (by omega) hk
        rw [h5] at hi; cases hi; exact h6
      · cases hi
    · intro K hK
      simp only [Builtin.firstCells, loadCells]
      refine swp_loadCellsFrom (a := ⟨b, o, none⟩) rfl a2 _ 0 #[] K (by simpa using hsz) ?_
      simpa using hK
  · have hx0 : xs = [] := List.eq_nil_of_length_eq_zero (by omega)
    subst hx0
    refine ⟨#[], by simp, Rows.empty, by simp, fun K hK => ?_⟩
    cases A with
    | none => exact hK
    | some a => simpa [Builtin.firstCells, loadCells, loadCellsFrom, swp_pure] using hK
theorem set_mid {A B : List (Nat × Obj)} {p q : Nat × Obj} : (A ++ ([p] ++ B)).set A.length q = A ++ ([q] ++ B) := by simp
theorem get_mid {A B : List (Nat × Obj)} {p : Nat × Obj} : (A ++ ([p] ++ B))[A.length]? = some p := by simp
theorem o_append {t t2 e : TypeId} {bb : Bool} {n by_ : Nat} {zv : Value} [ht : TySlice P t e] [ht2 : TySlice P t2 e] [TyV P e bb n zv] [hby : TyBytes P e by_] {A B hs : List (Nat × Obj)} {I : Hp} {v u : Value} {xs ys : List α} (hk : k.sz = n) (hz : zv.cells.size = n) (hn : 0 < n)
    (hb0 : 0 < by_) (hb1 : by_ ≤ 65536) (hs_ : s = ⟨I, A ++ (hs ++ B)⟩) (hv : OwnS k e I v hs xs) (hx : ρ x = v) (hy : ρ y = u) (hu : SlR k s u ys) (hlen : (xs.length + ys.length) * by_ ≤ 70368744177664)
    (hK : ∀ v s s', Gh s s' → K v s' → K v s) (h : ∀ v' hs', OwnS k e I v' hs' (xs ++ ys) → K v' ⟨I, A ++ (hs' ++ B)⟩) : opS P (Oper.mk d (.call { callee := .builtin .append, args := #[x, y], argTypes := #[t, t2] }) ty ps af g) ρ s K := by
  subst hk
  have hbound : xs.length + ys.length ≤ 70368744177664 := Nat.le_trans (Nat.le_mul_of_pos_right _ hb0) hlen
  obtain ⟨cells, c1, c2, c3, c4⟩ := swp_firstCells (P := P) hu hn
  obtain ⟨inf, hi1, hi2⟩ := Option.map_eq_some_iff.1 hby.bytes
  obtain ⟨Au, cu, hu1, _⟩ := hu
  have hyl : ∀ K : Nat → St → Prop, K ys.length s → swp P (Builtin.lenOf u) s K := fun K hK => by rw [hu1]; exact hK
  obtain ⟨_, hv2⟩ := hv
  have shape : ∃ base cap, v = .slice base xs.length cap ∧ ((cap = 0 ∧ hs = [] ∧ xs = []) ∨ ∃ b arr, base = some ⟨b, 0, none⟩ ∧ hs = [(b, .cells arr e (0, 0))] ∧ xs.length ≤ cap ∧ arr.size = cap * k.sz ∧ Rows k I arr 0 xs) := by
    rcases hv2 with ⟨A', rfl, rfl, rfl⟩ | ⟨b, cap, arr, rfl, rfl, a3, a4, a5⟩
    · exact ⟨A', 0, rfl, .inl ⟨rfl, rfl, rfl⟩⟩
    · exact ⟨_, cap, rfl, .inr ⟨b, arr, rfl, rfl, a3, a4, a5⟩⟩
  obtain ⟨base, cap, rfl, hshape⟩ := shape
  simp only [opS, execOp, resolve, List.map_toArray, List.map_cons, List.map_nil, hx, hy, swp_bind', swp_pure, invoke, builtin, Builtin.append_, List.getElem?_toArray, List.getElem?_cons_zero, List.getElem?_cons_succ, swp_underlying ht.und, swp_underlying ht2.und, swp_sizeOf, Bool.false_eq_true, if_false, Bool.not_false, if_true]
  refine hyl _ ?_
  have hsI : s.I = I := by rw [hs_]
  rw [hsI] at c2
  have hmark : ∀ (n : Nat) (K : Unit → St → Prop) (s : St), K () s → swp P (askRoom n) s K := by
    intro n K s hK; unfold askRoom; split <;> exact hK
  split
  · rename_i hle
    simp only [swp_bind']
    refine c4 _ ?_
    rcases hshape with ⟨rfl, rfl, rfl⟩ | ⟨b, arr, rfl, rfl, a3, a4, a5⟩
    · have hy0 : ys = [] := List.eq_nil_of_length_eq_zero (by simpa using hle)
      subst hy0
      subst hs_
      have hc0 : cells = #[] := Array.eq_empty_of_size_eq_zero (by simpa using c1)
      subst hc0
      have := h (.slice base 0 0) [] (OwnS.cap0 k e I base)
      cases base <;> exact this
    · simp only [swp_bind', swp_pure]
      rw [addr_add]
      refine swp_storeCells (a := ⟨b, 0 + xs.length * k.sz, none⟩) _ 0 A.length arr e rfl (by rw [hs_]; exact get_mid) c3 ?_ ?_
      · have : (xs.length + ys.length) * k.sz ≤ cap * k.sz := Nat.mul_le_mul_right _ hle
        rw [Nat.add_mul] at this
        simp only [Array.length_toList, c1, a4]; omega
      · simp only [nextS]
        subst hs_
        simp only [set_mid]
        have hle' : (xs.length + ys.length) * k.sz ≤ cap * k.sz := Nat.mul_le_mul_right _ hle
        rw [Nat.add_mul] at hle'
        have hwr : ∀ i, (wr arr (0 + xs.length * k.sz + 0) cells.toList)[i]? = if xs.length * k.sz ≤ i ∧ i < xs.length * k.sz + ys.length * k.sz then cells[i - xs.length * k.sz]? else arr[i]? := by
          intro i
          rw [wr_get _ _ _ _ (by simp only [Array.length_toList, c1, a4]; omega)]
          simp only [Nat.zero_add, Nat.add_zero, Array.length_toList, c1, Array.getElem?_toList]
        refine h _ [(b, .cells (wr arr (0 + xs.length * k.sz + 0) cells.toList) e (0, 0))] ⟨by simp; omega, .inr ⟨b, cap, _, by simp, rfl, by simp; omega, by rw [wr_size, a4], ?_⟩⟩
        refine Rows.append (a5.moved fun i hi => ?_) (c2.moved fun i hi => ?_)
        · rw [hwr, if_neg (by omega)]
        · rw [hwr, if_pos (by omega)]; congr 1; omega
  · rename_i hgt
    have hin : ¬ ((xs.length + ys.length : Nat) : Int) > IntKind.i64.max := by
      show ¬ _ > (9223372036854775807 : Int); omega
    have hns : ¬ Builtin.nextslicecap (xs.length + ys.length) cap * inf.bytes > 2 ^ 48 := by
      have := nextslicecap_le (xs.length + ys.length) cap (by omega)
      rw [hi2]
      have := Nat.mul_le_mul_right by_ this
      rw [Nat.add_mul, Nat.mul_assoc] at this
      have h2 : 192 * by_ ≤ 12582912 := by omega
      omega
    simp only [swp_bind', swp_typeInfo hi1, hin, false_and, if_false, hns, choose, swp, Question.forced, Bool.false_eq_true]
    intro t
    simp only [Question.cut, swp_typeInfo hi1]
    have hcap : xs.length + ys.length ≤ xs.length + ys.length + t % (2 ^ 63 - (xs.length + ys.length)) := Nat.le_add_right _ _
    generalize hN : xs.length + ys.length + t % (2 ^ 63 - (xs.length + ys.length)) = N at hcap ⊢
    refine hmark _ _ _ ?_
    have hold : ∃ old : Array Value, old.size = xs.length * k.sz ∧ Rows k I old 0 xs ∧ ∀ K : Array Value → St → Prop, K old s → swp P (Builtin.firstCells k.sz xs.length (Value.slice base xs.length cap)) s K := by
      have hr : SlR k s (Value.slice base xs.length cap) xs := by
        rcases hshape with ⟨rfl, rfl, rfl⟩ | ⟨b, arr, rfl, rfl, a3, a4, a5⟩
        · exact ⟨base, 0, rfl, Nat.le_refl _, by simp, fun h => by simp at h⟩
        · exact ⟨_, cap, rfl, a3, by omega, fun _ => ⟨b, 0, arr, e, (0, 0), rfl, .inr (by rw [hs_]; simp), by rw [hsI]; exact a5⟩⟩
      obtain ⟨old, d1, d2, _, d4⟩ := swp_firstCells (P := P) hr hn
      rw [hsI] at d2
      exact ⟨old, d1, d2, d4⟩
    obtain ⟨old, o1, o2, o3⟩ := hold
    refine o3 _ (c4 _ ?_)
    simp only [swp_zeroValue, newRow, newObj, swp_bind', swp, swp_pure]
    intro b hb
    simp only [nextS]
    have hsz : (old ++ cells).size = (xs ++ ys).length * k.sz := by simp only [Array.size_append, o1, c1, List.length_append, Nat.add_mul]
    refine hK _ _ ⟨I, A ++ ([(b, .cells (old ++ cells ++ Builtin.zeroCells zv.cells (N - (xs.length + ys.length))) e (0, 0))] ++ B)⟩ ?_ (h _ [(b, .cells (old ++ cells ++ Builtin.zeroCells zv.cells (N - (xs.length + ys.length))) e (0, 0))] ⟨by simp; omega, .inr ⟨b, N, _, by simp, rfl, by simp; omega, ?_, ?_⟩⟩)
    · subst hs_
      refine Gh.trans (s2 := ⟨I, (b, .cells (old ++ cells ++ Builtin.zeroCells zv.cells (N - (xs.length + ys.length))) e (0, 0)) :: (A ++ B)⟩) (Gh.sub ?_) (Gh.perm ?_)
      · refine List.Sublist.cons_cons _ ?_
        exact List.Sublist.append_left (List.sublist_append_right hs B) A
      · simp only [List.singleton_append]
        exact List.perm_middle
    · rw [Array.size_append, hsz, zeroCells_size, hz, List.length_append, ← Nat.add_mul]; congr 1; omega
    · refine Rows.append (o2.moved fun i hi => ?_) (c2.moved fun i hi => ?_)
      · rw [Array.getElem?_append_left (by rw [hsz, List.length_append, Nat.add_mul]; omega), Array.getElem?_append_left (by omega)]
      · rw [Array.getElem?_append_left (by rw [hsz, List.length_append, Nat.add_mul]; omega), Array.getElem?_append_right (by omega)]; congr 1; omega
theorem opsR_append {ops : Array Oper} {rest : List Oper} {Q : Exit → Act → St → Prop} {a : Act} {t t2 e : TypeId} {bb : Bool} {n by_ : Nat} {zv : Value} [ht : TySlice P t e] [ht2 : TySlice P t2 e] [TyV P e bb n zv] [hby : TyBytes P e by_] {A B hs : List (Nat × Obj)} {I : Hp} {v u : Value} {xs ys : List α}
    (hg : Region.wanted (Oper.mk d (.call { callee := .builtin .append, args := #[x, y], argTypes := #[t, t2] }) ty ps af g) (yielded ops a.tmps) = true) (hx : a.eval x = v) (hy : a.eval y = u) (hz : zv.cells.size = n) (hn : 0 < n)
    (hb0 : 0 < by_) (hb1 : by_ ≤ 65536) (hv : OwnS k e I v hs xs) (hs_ : s = ⟨I, A ++ (hs ++ B)⟩) (hk : k.sz = n) (hu : SlR k s u ys) (hlen : (xs.length + ys.length) * by_ ≤ 70368744177664)
    (h : ∀ v' hs', OwnS k e I v' hs' (xs ++ ys) → OpsR P ops rest Q (a.put d v') ⟨I, A ++ (hs' ++ B)⟩) : OpsR P ops (Oper.mk d (.call { callee := .builtin .append, args := #[x, y], argTypes := #[t, t2] }) ty ps af g :: rest) Q a s :=
  opsR_o hg (o_append hk hz hn hb0 hb1 hs_ hv hx hy hu hlen (fun _ _ _ g h => opsR_gh g h) h)
end
end Go.Proofs.YtcnbcblihepbmaaGreatDoor
