/- Rules for walks: nil slices, slices of one, flags, texts. It holds for every program. -/
import Derived.Test.YtcnbcblihepbmaaGreatDoorS9
set_option autoImplicit false
set_option linter.unusedSimpArgs false
set_option linter.unusedVariables false
namespace Go.Proofs.YtcnbcblihepbmaaGreatDoor
open Go Go.RowKit
/-- The frame's normal form, in one. -/
theorem nrm : (∀ (a : Act) (t : Tmp) (v : Value), a.put (some t) v = ⟨a.tmps.setIfInBounds t v, a.defers⟩) ∧ (∀ (a : Act) (v : Value), a.put none v = a) ∧
    (∀ (a : Act) (t : Tmp), a.eval (.tmp t) = a.tmps.getD t undef) ∧ (∀ (a : Act) (v : Value), a.eval (.const v) = v) ∧ (∀ (a : Act) (f : FuncId), a.eval (.func f) = .func (.func f) #[] #[]) ∧ (∀ (a : Act) (g : Nat), a.eval (.global g) = .pointer (some ⟨g, 0, none⟩)) ∧
    (∀ (l : List Value) (i : Nat) (v : Value), l.toArray.setIfInBounds i v = (l.set i v).toArray) ∧ (∀ (x v : Value) (l : List Value), (x :: l).set 0 v = v :: l) ∧ (∀ (x v : Value) (l : List Value) (i : Nat), (x :: l).set (i + 1) v = x :: l.set i v) ∧
    (∀ (l : Array Value) (i : Nat) (v : Value), l.getD i v = l[i]?.getD v) ∧ (∀ (f : Operand → Value) (x : Operand) (l : List Operand), (x :: l).map f = f x :: l.map f) ∧ (∀ (f : Operand → Value), [].map f = []) ∧ (∀ (l : List Value) (i : Nat), l.toArray[i]? = l[i]?) ∧ (∀ (x : Value) (l : List Value), (x :: l)[0]? = some x) ∧ (∀ (x : Value) (l : List Value) (i : Nat), (x :: l)[i + 1]? = l[i]?) ∧ (∀ (x y : Value), (some x).getD y = x) ∧
    (∀ c, (Value.agg c).cells = c) ∧ (∀ k n, (Value.int k n).cells = #[.int k n]) ∧ (∀ b, (Value.bool b).cells = #[.bool b]) ∧ (∀ b, (Value.string b).cells = #[.string b]) ∧ (∀ a n c, (Value.slice a n c).cells = #[.slice a n c]) ∧ (∀ a, (Value.pointer a).cells = #[.pointer a]) ∧
    (∀ a, (Value.map a).cells = #[.map a]) ∧ (∀ a b c, (Value.func a b c).cells = #[.func a b c]) ∧ (∀ t v, (Value.iface t v).cells = #[.iface t v]) ∧ Value.nilFunc.cells = #[.nilFunc] ∧ Value.nilIface.cells = #[.nilIface] ∧
    (∀ c o, wr c o [] = c) ∧ (∀ c o v r, wr c o (v :: r) = wr (c.setIfInBounds o v) (o + 1) r) ∧ (∀ n : Nat, 0 + n = n) ∧ (∀ n : Nat, n + 0 = n) ∧ (∀ n : Nat, n * 1 = n) ∧
    (∀ (l : List Value) (i j : Nat), l.toArray.extract i j = (l.extract i j).toArray) ∧ (∀ (l : List Value) (i j : Nat), l.extract i j = (l.drop i).take (j - i)) ∧ (∀ (x : Value) (l : List Value) (i : Nat), (x :: l).drop (i + 1) = l.drop i) ∧ (∀ l : List Value, l.drop 0 = l) ∧
    (∀ (x : Value) (l : List Value) (i : Nat), (x :: l).take (i + 1) = x :: l.take i) ∧ (∀ l : List Value, l.take 0 = []) ∧ (∀ n : Nat, (n : Int).toNat = n) ∧ (∀ (x v : Nat × Obj) (l : List (Nat × Obj)), (x :: l).set 0 v = v :: l) ∧ (∀ (x v : Nat × Obj) (l : List (Nat × Obj)) (i : Nat), (x :: l).set (i + 1) v = x :: l.set i v) ∧
    (∀ (x : Nat × Obj) (l m : List (Nat × Obj)), (x :: l) ++ m = x :: (l ++ m)) ∧ (∀ l : List (Nat × Obj), [] ++ l = l) ∧ (∀ l m n : List (Nat × Obj), (l ++ m) ++ n = l ++ (m ++ n)) ∧ (∀ (l : List Value) (i : Nat) (h : i < l.toArray.size), l.toArray[i]'h = l[i]'h) ∧ (∀ (x : Value) (l : List Value) (h : 0 < (x :: l).length), (x :: l)[0]'h = x) ∧ (∀ (x : Value) (l : List Value) (i : Nat) (h : i + 1 < (x :: l).length), (x :: l)[i + 1]'h = l[i]'(Nat.lt_of_succ_lt_succ h)) :=
  ⟨fun _ _ _ => rfl, fun _ _ => rfl, fun _ _ => rfl, fun _ _ => rfl, fun _ _ => rfl, fun _ _ => rfl, fun _ _ _ => by simp, fun _ _ _ => rfl, fun _ _ _ _ => rfl, fun _ _ _ => by simp, fun _ _ _ => rfl, fun _ => rfl, fun _ _ => by simp, fun _ _ => rfl, fun _ _ _ => by simp, fun _ _ => rfl,
    fun _ => rfl, fun _ _ => rfl, fun _ => rfl, fun _ => rfl, fun _ _ _ => rfl, fun _ => rfl, fun _ => rfl, fun _ _ _ => rfl, fun _ _ => rfl, rfl, rfl, fun _ _ => rfl, fun _ _ _ _ => rfl, Nat.zero_add, Nat.add_zero, Nat.mul_one,
    fun _ _ _ => by simp, fun _ _ _ => by simp [List.extract_eq_take_drop], fun _ _ _ => rfl, fun _ => rfl, fun _ _ _ => rfl, fun _ => by simp, Int.toNat_natCast, fun _ _ _ => rfl, fun _ _ _ _ => rfl, fun _ _ _ => rfl, fun _ => rfl, fun _ _ _ => by simp, fun _ _ _ => rfl, fun _ _ _ => rfl, fun _ _ _ _ => rfl⟩
/-- What a test says, in plain words. -/
theorem spl : (∀ (p : Prop) [Decidable p], (decide p = true) = p) ∧ (∀ (p : Prop) [Decidable p], (decide p = false) = ¬ p) ∧ (∀ (α : Type) (a b : α), (a ≠ b) = ¬ a = b) ∧ (∀ p : Prop, (¬ ¬ p) = p) ∧ (∀ α : Type, ([] : List α).length = 0) ∧
    (∀ b : Bool, ((!b) = true) = (b = false)) ∧ (∀ b : Bool, ((!b) = false) = (b = true)) ∧ (∀ m n : Nat, ((m : Int) < n) = (m < n)) ∧ (∀ m n : Int, (¬ m < n) = (n ≤ m)) :=
  ⟨fun p _ => by simp, fun p _ => by simp, fun _ _ _ => rfl, fun p => by simp, fun _ => rfl, fun b => by simp, fun b => by simp, fun m n => by simp, fun m n => by simp⟩
/-- Where a block stands among those that the code owns. -/
class AtB (b : Nat) (cs : List (Nat × Obj)) (i : outParam Nat) (o : outParam Obj) : Prop where
  at_ : cs[i]? = some (b, o)
instance {b : Nat} {o : Obj} {cs : List (Nat × Obj)} : AtB b ((b, o) :: cs) 0 o := ⟨rfl⟩
instance {b : Nat} {o : Obj} {p : Nat × Obj} {cs : List (Nat × Obj)} {i : Nat} [h : AtB b cs i o] : AtB b (p :: cs) (i + 1) o := ⟨by rw [List.getElem?_cons_succ]; exact h.at_⟩
theorem AtB.has {b : Nat} {s : St} {i : Nat} {o : Obj} (h : AtB b s.cs i o) : s.has b o := .inr (List.mem_of_getElem? h.at_)
/-- A slice's blocks among those that the code owns. -/
class Spl (hs cs : List (Nat × Obj)) (A B : outParam (List (Nat × Obj))) : Prop where
  eq : cs = A ++ (hs ++ B)
instance (priority := low) {cs : List (Nat × Obj)} : Spl [] cs [] cs := ⟨rfl⟩
instance {hs B : List (Nat × Obj)} : Spl hs (hs ++ B) [] B := ⟨rfl⟩
instance {hs cs A B X : List (Nat × Obj)} [h : Spl hs cs A B] : Spl hs (X ++ cs) (X ++ A) B := ⟨by rw [h.eq, List.append_assoc]⟩
instance {hs cs A B : List (Nat × Obj)} {p : Nat × Obj} [h : Spl hs cs A B] : Spl hs (p :: cs) (p :: A) B := ⟨by rw [h.eq]; rfl⟩
theorem le2 {A B C : Hp} (h2 : Hp.le B C) (h1 : Hp.le A B) : Hp.le A C := h1.trans h2
theorem le3 {A B C D : Hp} (h3 : Hp.le C D) (h2 : Hp.le B C) (h1 : Hp.le A B) : Hp.le A D := (h1.trans h2).trans h3
theorem le4 {A B C D E : Hp} (h4 : Hp.le D E) (h3 : Hp.le C D) (h2 : Hp.le B C) (h1 : Hp.le A B) : Hp.le A E := (le3 h3 h2 h1).trans h4
theorem le5 {A B C D E F : Hp} (h5 : Hp.le E F) (h4 : Hp.le D E) (h3 : Hp.le C D) (h2 : Hp.le B C) (h1 : Hp.le A B) : Hp.le A F := (le4 h4 h3 h2 h1).trans h5
theorem le6 {A B C D E F G : Hp} (h6 : Hp.le F G) (h5 : Hp.le E F) (h4 : Hp.le D E) (h3 : Hp.le C D) (h2 : Hp.le B C) (h1 : Hp.le A B) : Hp.le A G := (le5 h5 h4 h3 h2 h1).trans h6
/-- Found from what is there. -/
theorem leA {A B : Hp} (h : Hp.le A B := by first | exact .rfl | assumption | exact le2 (by assumption) (by assumption) | exact le3 (by assumption) (by assumption) (by assumption) | exact le4 (by assumption) (by assumption) (by assumption) (by assumption) | exact le5 (by assumption) (by assumption) (by assumption) (by assumption) (by assumption) | exact le6 (by assumption) (by assumption) (by assumption) (by assumption) (by assumption) (by assumption)) : Hp.le A B := h
theorem slrA {α : Type} {k : Kd α} {s : St} {v : Value} {xs : List α} (h : SlR k s v xs := by first | exact Sl.r (by assumption) leA | (refine OwnS.r (OwnS.mono ?_ (by assumption)) (by intro p hp; simp only [List.mem_append, List.mem_cons, hp, true_or, or_true]); exact leA) | assumption) : SlR k s v xs := h
theorem ghA {s s' : St} (h : Gh s s' := by first | exact .refl | exact .drop | exact .drop2 | exact .drop3 | exact .drop4 | exact Gh.drop.trans .drop4 | exact Gh.drop2.trans .drop4 | exact Gh.drop3.trans .drop4) : Gh s s' := h
theorem idxA {p : Prop} (h : p := by first | omega | ((try simp only [List.length_append, List.length_cons, List.length_nil, List.length_set, List.length_replicate, List.length_take, List.length_drop, List.length_map] at *); omega)) : p := h
theorem Gh.dropA {I : Hp} {hs X : List (Nat × Obj)} : Gh ⟨I, hs ++ X⟩ ⟨I, X⟩ := Gh.sub (List.sublist_append_right hs X)
theorem Gh.dropB {I : Hp} {A B C : List (Nat × Obj)} : Gh ⟨I, A ++ (B ++ C)⟩ ⟨I, A ++ C⟩ := Gh.sub (List.Sublist.append_left (List.sublist_append_right B C) A)
theorem OwnS.cast {α : Type} {k : Kd α} {e : TypeId} {I : Hp} {v : Value} {hs : List (Nat × Obj)} {xs ys : List α} (h : OwnS k e I v hs xs) (he : xs = ys) : OwnS k e I v hs ys := he ▸ h
theorem Sl.cast {α : Type} {k : Kd α} {I : Hp} {v : Value} {xs ys : List α} (h : Sl k I v xs) (he : xs = ys) : Sl k I v ys := he ▸ h
section
variable {P : Program} {s : St} {ρ : Operand → Value} {d : Option Tmp} {ty : TypeId} {ps : String} {af : Array Edge} {g : Option (Nat × Bool)} {x y z : Operand} {K : Value → St → Prop} {α : Type} {k : Kd α}
theorem depth_succ : ∃ m, Op.maxDepth = m + 1 := ⟨_, rfl⟩
theorem swp_equal_bool {t : TypeId} [ht : TyBool P t] {a b : Bool} {K : Bool → St → Prop} (h : K (a == b) s) : swp P (Op.equal t (.bool a) (.bool b)) s K := by
  obtain ⟨m, hm⟩ := depth_succ
  unfold Op.equal
  rw [hm]
  unfold Op.equalIn
  simp only [swp_bind', swp_underlying ht.und]
  exact h
theorem swp_equal_nil {t e : TypeId} [ht : TySlice P t e] {A : Option Addr} {n c : Nat} {K : Bool → St → Prop} (h : K A.isNone s) : swp P (Op.equal t (.slice A n c) (.slice none 0 0)) s K := by
  obtain ⟨m, hm⟩ := depth_succ
  unfold Op.equal
  rw [hm]
  unfold Op.equalIn
  simp only [swp_bind', swp_underlying ht.und]
  cases A <;> exact h
theorem q_eql_bool {t u : TypeId} {a b : Bool} [ht : TyBool P t] (hx : ρ x = .bool a) (hy : ρ y = .bool b) : Quiet P (Oper.mk d (.binOp .eql t x y u) ty ps af g) ρ s (.bool (a == b)) := by
  intro K h
  have e : Go.binOp .eql t (.bool a) (.bool b) = (do pure (.bool (← Op.equal t (.bool a) (.bool b)))) := rfl
  simp only [opS, execOp, hx, hy, eqGuard, e, swp_bind', swp_pure, nextS]
  exact swp_equal_bool h
theorem q_neq_bool {t u : TypeId} {a b : Bool} [ht : TyBool P t] (hx : ρ x = .bool a) (hy : ρ y = .bool b) : Quiet P (Oper.mk d (.binOp .neq t x y u) ty ps af g) ρ s (.bool (a != b)) := by
  intro K h
  have e : Go.binOp .neq t (.bool a) (.bool b) = (do pure (.bool (!(← Op.equal t (.bool a) (.bool b))))) := rfl
  simp only [opS, execOp, hx, hy, eqGuard, e, swp_bind', swp_pure, nextS]
  exact swp_equal_bool h
theorem q_nil_eql {t u e : TypeId} {A : Option Addr} {n c : Nat} [ht : TySlice P t e] (hx : ρ x = .slice A n c) (hy : ρ y = .slice none 0 0) : Quiet P (Oper.mk d (.binOp .eql t x y u) ty ps af g) ρ s (.bool A.isNone) := by
  intro K h
  have e : Go.binOp .eql t (.slice A n c) (.slice none 0 0) = (do pure (.bool (← Op.equal t (.slice A n c) (.slice none 0 0)))) := rfl
  simp only [opS, execOp, hx, hy, eqGuard, e, swp_bind', swp_pure, nextS]
  exact swp_equal_nil h
theorem q_nil_neq {t u e : TypeId} {A : Option Addr} {n c : Nat} [ht : TySlice P t e] (hx : ρ x = .slice A n c) (hy : ρ y = .slice none 0 0) : Quiet P (Oper.mk d (.binOp .neq t x y u) ty ps af g) ρ s (.bool A.isSome) := by
  intro K h
  have e : Go.binOp .neq t (.slice A n c) (.slice none 0 0) = (do pure (.bool (!(← Op.equal t (.slice A n c) (.slice none 0 0))))) := rfl
  simp only [opS, execOp, hx, hy, eqGuard, e, swp_bind', swp_pure, nextS]
  refine swp_equal_nil ?_
  cases A <;> exact h
/-- Is it nil? If so, it is empty. -/
def NilB (v : Value) (n : Nat) (b : Bool) : Prop := ∃ A c, v = .slice A n c ∧ b = A.isNone ∧ (b = true → n = 0)
theorem SlR.nilB {v : Value} {xs : List α} (h : SlR k s v xs) : ∃ b, NilB v xs.length b := by
  obtain ⟨A, c, h1, _, _, h4⟩ := h
  refine ⟨A.isNone, A, c, h1, rfl, fun hb => ?_⟩
  by_cases hx : 0 < xs.length
  · obtain ⟨_, _, _, _, _, rfl, _⟩ := h4 hx
    cases hb
  · omega
theorem opsR_nil_eql {ops : Array Oper} {rest : List Oper} {Q : Exit → Act → St → Prop} {a : Act} {t u e : TypeId} [ht : TySlice P t e] {v : Value} {xs : List α}
    (hg : Region.wanted (Oper.mk d (.binOp .eql t x y u) ty ps af g) (yielded ops a.tmps) = true) (hx : a.eval x = v) (hy : a.eval y = .slice none 0 0) (hs : SlR k s v xs)
    (h : ∀ b, (b = true → xs = []) → OpsR P ops rest Q (a.put d (.bool b)) s) : OpsR P ops (Oper.mk d (.binOp .eql t x y u) ty ps af g :: rest) Q a s := by
  obtain ⟨b, A, c, h1, h2, h3⟩ := hs.nilB
  exact opsR_q hg (q_nil_eql (hx.trans h1) hy) (h _ (fun hb => List.eq_nil_of_length_eq_zero (h3 (h2.trans hb))))
theorem opsR_nil_neq {ops : Array Oper} {rest : List Oper} {Q : Exit → Act → St → Prop} {a : Act} {t u e : TypeId} [ht : TySlice P t e] {v : Value} {xs : List α}
    (hg : Region.wanted (Oper.mk d (.binOp .neq t x y u) ty ps af g) (yielded ops a.tmps) = true) (hx : a.eval x = v) (hy : a.eval y = .slice none 0 0) (hs : SlR k s v xs)
    (h : ∀ b, (b = false → xs = []) → OpsR P ops rest Q (a.put d (.bool b)) s) : OpsR P ops (Oper.mk d (.binOp .neq t x y u) ty ps af g :: rest) Q a s := by
  obtain ⟨b, A, c, h1, h2, h3⟩ := hs.nilB
  refine opsR_q hg (q_nil_neq (hx.trans h1) hy) (h _ (fun hb => List.eq_nil_of_length_eq_zero (h3 ?_)))
  rw [h2]; cases A with
  | none => rfl
  | some a => cases hb
/-- A slice literal of one. -/
theorem opsR_slice1 {ops : Array Oper} {rest : List Oper} {Q : Exit → Act → St → Prop} {a : Act} {t e : TypeId} {bb : Bool} {n : Nat} {zv : Value} [ht : TySlice P t e] [TyV P e bb n zv]
    (k : Kd α) {w : α} {u : Value} (hg : Region.wanted (Oper.mk d (.buildSlice t 1 #[(0, x)]) ty ps af g) (yielded ops a.tmps) = true) (hx : a.eval x = u) (hz : zv.cells.size = n) (hn : 0 < n) (hm : n ≤ 16777216) (hk : k.sz = n) (hr : k.rep s.I w u.cells.toList)
    (h : ∀ v hs, OwnS k e s.I v hs [w] → OpsR P ops rest Q (a.put d v) ⟨s.I, hs ++ s.cs⟩) : OpsR P ops (Oper.mk d (.buildSlice t 1 #[(0, x)]) ty ps af g :: rest) Q a s := by
  subst hk
  refine opsR_o hg ?_
  have hl := k.len hr
  rw [Array.length_toList] at hl
  have hsz : (Array.map (fun x => zv.cells[x % zv.cells.size]!) (Array.range k.sz)).size = k.sz := by simp
  have hgt : ¬ (k.sz > 2 ^ 24) := by omega
  have hno : (decide (u.cells.size ≠ k.sz) || decide (0 + u.cells.size > (Array.map (fun x => zv.cells[x % zv.cells.size]!) (Array.range k.sz)).size)) = false := by
    rw [hsz, hl]; simp
  have hne : ¬ (k.sz = 0) := by omega
  simp only [opS, execOp, Instr.buildSlice, swp_bind', swp_underlying ht.und, swp_sizeOf, Nat.one_mul, gt_iff_lt, hgt, if_false, hne, swp_zeroValue, swp_pure, List.map_toArray, List.map_cons, List.map_nil, fill_eq, fillW, Nat.zero_mul, hx, hno, Bool.false_eq_true, newRow, newObj, swp, nextS]
  intro b hb
  refine h _ [(b, .cells (wr (Array.map (fun x => zv.cells[x % zv.cells.size]!) (Array.range k.sz)) 0 u.cells.toList) e (0, 0))] ⟨by simp, .inr ⟨b, 1, _, rfl, rfl, by simp, by rw [wr_size, hsz, Nat.one_mul], ?_⟩⟩
  intro j w' hj
  have : j = 0 := by have := (List.getElem?_eq_some_iff.1 hj).1; simpa using this
  subst this
  simp only [List.getElem?_cons_zero, Option.some.injEq] at hj
  subst hj
  refine ⟨_, hr, fun i hi => ?_⟩
  rw [wr_get _ _ _ _ (by rw [hsz, Array.length_toList]; omega), if_pos (by rw [Array.length_toList]; omega)]
  congr 1; omega
theorem q_quo64 {t u : TypeId} {a b : Int} (hx : ρ x = .int .i64 a) (hy : ρ y = .int .i64 b) (h0 : 0 ≤ a) (h1 : a ≤ 9223372036854775807) (h2 : 0 < b) : Quiet P (Oper.mk d (.binOp .quo t x y u) ty ps af g) ρ s (.int .i64 (a / b)) := by
  have := q_quo (P := P) (s := s) (d := d) (ty := ty) (ps := ps) (af := af) (g := g) (t := t) (u := u) hx hy (by omega)
  have h3 : 0 ≤ a / b := Int.ediv_nonneg h0 (by omega)
  have h4 : a / b ≤ a := Int.ediv_le_self _ h0
  rw [Int.tdiv_eq_ediv_of_nonneg h0, wrap_i64_id (by omega) (by omega)] at this
  exact this
theorem q_loadB1 {t : TypeId} {n : Nat} {zv : Value} [TyV P t false n zv] {bl o i : Nat} {c : Array Value} {e : TypeId} {f : Nat × Nat} {v : Value} (hx : ρ x = .pointer (some ⟨bl, o, none⟩)) (hb : AtB bl s.cs i (.cells c e f)) (hv : c[o]? = some v) : Quiet P (Oper.mk d (.load t x) ty ps af g) ρ s v := q_load1 hx hb.has hv
theorem q_loadBN {t : TypeId} {n : Nat} {zv : Value} [TyV P t true n zv] {bl o i : Nat} {c : Array Value} {e : TypeId} {f : Nat × Nat} (hx : ρ x = .pointer (some ⟨bl, o, none⟩)) (hb : AtB bl s.cs i (.cells c e f)) (hn : Nat.ble (o + n) c.size = true) : Quiet P (Oper.mk d (.load t x) ty ps af g) ρ s (.agg (c.extract o (o + n))) := q_loadN hx hb.has (Nat.le_of_ble_eq_true hn)
theorem o_storeB {K : Value → St → Prop} {t : TypeId} {b : Bool} {n : Nat} {zv : Value} [TyV P t b n zv] {bl o i : Nat} {c : Array Value} {e : TypeId} {v : Value} (hx : ρ x = .pointer (some ⟨bl, o, none⟩)) (hy : ρ y = v) (hi : AtB bl s.cs i (.cells c e (0, 0)))
    (hn : v.cells.size = n) (h1 : v.cells.toList.all vOne = true) (ho : Nat.ble (o + n) c.size = true) (h : K undef ⟨s.I, s.cs.set i (bl, .cells (wr c o v.cells.toList) e (0, 0))⟩) : opS P (Oper.mk d (.store t x y) ty ps af g) ρ s K := o_store hx hy hi.at_ hn h1 (Nat.le_of_ble_eq_true ho) h
theorem q_load_atW {α : Type} {k : Kd α} {t : TypeId} {n : Nat} {zv : Value} [TyV P t true n zv] {b o : Nat} {w : α} {l : List Value} (hx : ρ x = .pointer (some ⟨b, o, none⟩)) (h : El k s b o w l) (hk : k.sz = n) (hn : Nat.ble 1 n = true) :
    Quiet P (Oper.mk d (.load t x) ty ps af g) ρ s (.agg l.toArray) := by
  subst hk
  have := q_load_atN (P := P) (t := t) (d := d) (ty := ty) (ps := ps) (af := af) (g := g) (i := 0) hx h rfl (by omega) (Nat.le_of_ble_eq_true hn)
  obtain ⟨arr, e, f, h1, h2, h3⟩ := h
  rwa [List.drop_zero, List.take_of_length_le (Nat.le_of_eq (k.len h2))] at this
theorem q_load_atN0 {α : Type} {k : Kd α} {t : TypeId} {n : Nat} {zv : Value} [TyV P t true n zv] {b o : Nat} {w : α} {l : List Value} (hx : ρ x = .pointer (some ⟨b, o, none⟩)) (h : El k s b o w l) (hi : Nat.ble n k.sz = true) (hn : Nat.ble 1 n = true) :
    Quiet P (Oper.mk d (.load t x) ty ps af g) ρ s (.agg ((l.drop 0).take n).toArray) := q_load_atN (i := 0) hx h rfl (by rw [Nat.zero_add]; exact Nat.le_of_ble_eq_true hi) (Nat.le_of_ble_eq_true hn)
theorem opsR_app {ops : Array Oper} {rest : List Oper} {Q : Exit → Act → St → Prop} {a : Act} {t t2 e : TypeId} {bb : Bool} {n by_ : Nat} {zv : Value} [ht : TySlice P t e] [ht2 : TySlice P t2 e] [TyV P e bb n zv] [hby : TyBytes P e by_] {A B hs : List (Nat × Obj)} {v u : Value} {xs ys : List α}
    (hg : Region.wanted (Oper.mk d (.call { callee := .builtin .append, args := #[x, y], argTypes := #[t, t2] }) ty ps af g) (yielded ops a.tmps) = true) (hx : a.eval x = v) (hy : a.eval y = u) (hv : OwnS k e s.I v hs xs) (hsp : Spl hs s.cs A B) (hu : SlR k s u ys)
    (hz : zv.cells.size = n) (hk : k.sz = n) (hn : Nat.ble 1 n = true) (hb : (Nat.ble 1 by_ && Nat.ble by_ 65536) = true) (hlen : xs.length + ys.length ≤ 1073741824)
    (h : ∀ v' hs', OwnS k e s.I v' hs' (xs ++ ys) → OpsR P ops rest Q (a.put d v') ⟨s.I, A ++ (hs' ++ B)⟩) : OpsR P ops (Oper.mk d (.call { callee := .builtin .append, args := #[x, y], argTypes := #[t, t2] }) ty ps af g :: rest) Q a s := by
  simp only [Bool.and_eq_true] at hb
  have h1 := Nat.le_of_ble_eq_true hb.1
  have h2 := Nat.le_of_ble_eq_true hb.2
  refine opsR_append (A := A) (B := B) hg hx hy hz (Nat.le_of_ble_eq_true hn) h1 h2 hv (by rw [← hsp.eq]) hk hu ?_ h
  calc (xs.length + ys.length) * by_ ≤ 1073741824 * 65536 := Nat.mul_le_mul hlen h2
    _ = 70368744177664 := by decide
theorem opsR_fz {ops : Array Oper} {rest : List Oper} {Q : Exit → Act → St → Prop} {a : Act} {e : TypeId} {v : Value} {A B hs : List (Nat × Obj)} {xs : List α} (hv : OwnS k e s.I v hs xs) (hsp : Spl hs s.cs A B)
    (h : ∀ J, Hp.le s.I J → Sl k J v xs → OpsR P ops rest Q a ⟨J, A ++ B⟩) : OpsR P ops rest Q a s := by
  intro w0 w hs1 he
  have hs2 : Sat ⟨s.I, A ++ (hs ++ B)⟩ w := by rw [← hsp.eq]; exact hs1
  obtain ⟨J, h1, h2, h3⟩ := hv.freeze (fun p hp => (hs2.own p (by simp [hp])).2)
  exact h J h1 h2 w0 w (h3 _ w ((Gh.perm (List.perm_append_comm_assoc A hs B).symm) w hs2)) he
theorem run_fz {c : Code} {Q : Exit → Act → St → Prop} {a : Act} {e : TypeId} {v : Value} {A B hs : List (Nat × Obj)} {xs : List α} (hv : OwnS k e s.I v hs xs) (hsp : Spl hs s.cs A B)
    (h : ∀ J, Hp.le s.I J → Sl k J v xs → Run P c Q a ⟨J, A ++ B⟩) : Run P c Q a s := by
  intro w0 w hs1 he
  have hs2 : Sat ⟨s.I, A ++ (hs ++ B)⟩ w := by rw [← hsp.eq]; exact hs1
  obtain ⟨J, h1, h2, h3⟩ := hv.freeze (fun p hp => (hs2.own p (by simp [hp])).2)
  exact h J h1 h2 w0 w (h3 _ w ((Gh.perm (List.perm_append_comm_assoc A hs B).symm) w hs2)) he
end
end Go.Proofs.YtcnbcblihepbmaaGreatDoor
