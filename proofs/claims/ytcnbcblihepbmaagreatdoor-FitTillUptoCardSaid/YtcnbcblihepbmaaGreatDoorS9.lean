/- Rules for walks: splits on flags, elements of slices, loops over written frames, calls that make memory. It holds for every program. -/
import Derived.Test.YtcnbcblihepbmaaGreatDoorS8
set_option autoImplicit false
set_option linter.unusedSimpArgs false
set_option linter.unusedVariables false
namespace Go.Proofs.YtcnbcblihepbmaaGreatDoor
open Go Go.RowKit

section
variable {P : Program} {s : St} {Q : Exit → Act → St → Prop} {a : Act}
theorem opsR_qb {ops : Array Oper} {o : Oper} {rest : List Oper} {b : Bool} (hg : Region.wanted o (yielded ops a.tmps) = true) (hq : Quiet P o a.eval s (.bool b))
    (ht : b = true → OpsR P ops rest Q (a.put o.dst (.bool true)) s) (hf : b = false → OpsR P ops rest Q (a.put o.dst (.bool false)) s) : OpsR P ops (o :: rest) Q a s := by
  refine opsR_q hg hq ?_
  cases b with
  | true => exact ht rfl
  | false => exact hf rfl
theorem oblE_qb {ops : Array Oper} {I0 : Hp} {cs : List (Nat × Obj)} {fin : Act → Prop} {o : Oper} {r : List Oper} {b : Bool} (hg : Region.wanted o (yielded ops a.tmps) = true) (h : ∀ I, Hp.le I0 I → Quiet P o a.eval ⟨I, cs⟩ (.bool b))
    (ht : b = true → oblE P ops I0 cs fin r (a.put o.dst (.bool true))) (hf : b = false → oblE P ops I0 cs fin r (a.put o.dst (.bool false))) : oblE P ops I0 cs fin (o :: r) a := by
  refine oblE_q hg h ?_
  cases b with
  | true => exact ht rfl
  | false => exact hf rfl

/-- Frame f with the junk of jv where the mask says 1, and L's values in order where it says more. -/
def fr (jv : Nat → Value) : Nat → List Nat → List Value → List Value → List Value
  | i, 0 :: m, x :: f, L => x :: fr jv (i + 1) m f L
  | i, 1 :: m, _ :: f, L => jv i :: fr jv (i + 1) m f L
  | i, (_ + 2) :: m, _ :: f, v :: L => v :: fr jv (i + 1) m f L
  | _, _, _, _ => []
/-- A loop over a written frame: J n L s: what holds at a round's head: at most n rounds to come, L: the live values; mask: 0: a place that the loop never writes, 1: of no account, 2: live. -/
theorem run_loopF {c : Code} {f0 : List Value} (mask : List Nat) (J : Nat → List Value → St → Prop) (n0 : Nat) (L0 : List Value) (h0 : J n0 L0 s) (hf : f0 = fr (fun t => f0.getD t undef) 0 mask f0 L0)
    (round : ∀ n L s (jv : Nat → Value), J n L s → ∀ K : Act → St → Prop, (∀ f' s' n' L', n' < n → J n' L' s' → f' = fr (fun t => f'.getD t undef) 0 mask f0 L' → K ⟨f'.toArray, []⟩ s') → Run P c (thenQ K Q) ⟨(fr jv 0 mask f0 L).toArray, []⟩ s) :
    Run P (.loop c) Q ⟨f0.toArray, []⟩ s := by
  refine run_loop (fun n a s => ∃ L jv, J n L s ∧ a = ⟨(fr jv 0 mask f0 L).toArray, []⟩) n0 ⟨L0, _, h0, by rw [← hf]⟩ ?_
  rintro n a s ⟨L, jv, hj, rfl⟩ K hK
  exact round n L s jv hj K fun f' s' n' L' h1 h2 h3 => hK _ s' n' h1 ⟨L', _, h2, by rw [← h3]⟩

/-- Behind the first part the ways meet again. -/
theorem run_join {x y : Code} {f0 : List Value} (mask : List Nat) (J : List Value → St → Prop)
    (hx : ∀ K : Act → St → Prop, (∀ f' s' L', J L' s' → f' = fr (fun t => f'.getD t undef) 0 mask f0 L' → K ⟨f'.toArray, []⟩ s') → Run P x (thenQ K Q) ⟨f0.toArray, []⟩ s)
    (hy : ∀ L s (jv : Nat → Value), J L s → Run P y Q ⟨(fr jv 0 mask f0 L).toArray, []⟩ s) : Run P (.seq x y) Q ⟨f0.toArray, []⟩ s := by
  refine run_seq fun K hK => ?_
  refine hx K fun f' s' L' h1 h2 => hK _ _ ?_
  rw [h2]
  exact hy L' s' _ h1

/-- A function that may make memory: it yields a v with rep; what was known stays. -/
def CallR (P : Program) (f : FuncId) (args : Array Value) (s : St) (rep : Hp → Value → Prop) : Prop := ∀ K : Value → St → Prop, (∀ v J, Hp.le s.I J → rep J v → K v ⟨J, s.cs⟩) → CallS P f args s K
/-- A function that leaves the state alone and yields a v of which something is known. -/
def CallQ (P : Program) (f : FuncId) (args : Array Value) (s : St) (rep : Value → Prop) : Prop := ∀ K : Value → St → Prop, (∀ v, rep v → K v s) → CallS P f args s K
/-- A function that hands over memory of the caller's own. -/
def CallO (P : Program) (f : FuncId) (args : Array Value) (s : St) (rep : Hp → Value → List (Nat × Obj) → Prop) : Prop := ∀ K : Value → St → Prop, (∀ v J hs, Hp.le s.I J → rep J v hs → K v ⟨J, hs ++ s.cs⟩) → CallS P f args s K
end

section
variable {P : Program} {s : St} {ρ : Operand → Value} {d : Option Tmp} {ty : TypeId} {ps : String} {af : Array Edge} {g : Option (Nat × Bool)} {x y z : Operand} {K : Value → St → Prop} {α : Type} {k : Kd α}
theorem St.has.mono {I J : Hp} {cs : List (Nat × Obj)} {b : Nat} {o : Obj} (h : St.has ⟨I, cs⟩ b o) (hl : Hp.le I J) : St.has ⟨J, cs⟩ b o := h.imp (hl _ _) id
/-- v is a slice of n elements. -/
def SlLen (v : Value) (n : Nat) : Prop := ∃ A c, v = .slice A n c ∧ n ≤ c ∧ n ≤ 9223372036854775807
theorem SlR.len {v : Value} {xs : List α} (h : SlR k s v xs) : SlLen v xs.length := by obtain ⟨A, c, h1, h2, h3, _⟩ := h; exact ⟨A, c, h1, h2, h3⟩
theorem Sl.len {I : Hp} {v : Value} {xs : List α} (h : Sl k I v xs) : SlLen v xs.length := by obtain ⟨A, c, h1, h2, h3, _⟩ := h; exact ⟨A, c, h1, h2, h3⟩
theorem OwnS.len {e : TypeId} {I : Hp} {v : Value} {hs : List (Nat × Obj)} {xs : List α} (h : OwnS k e I v hs xs) : SlLen v xs.length := by
  obtain ⟨h1, h2⟩ := h
  rcases h2 with ⟨A, rfl, rfl, rfl⟩ | ⟨b, cap, arr, rfl, rfl, a3, a4, a5⟩
  · exact ⟨_, _, rfl, Nat.le_refl _, h1⟩
  · exact ⟨_, _, rfl, a3, h1⟩
theorem SlLen.le {v : Value} {n : Nat} (h : SlLen v n) : n ≤ 9223372036854775807 := by obtain ⟨_, _, _, _, h⟩ := h; exact h
theorem q_len_v {t e : TypeId} [ht : TySlice P t e] {v : Value} {n : Nat} (hx : ρ x = v) (h : SlLen v n) : Quiet P (Oper.mk d (.call { callee := .builtin .len, args := #[x], argTypes := #[t] }) ty ps af g) ρ s (.int .i64 n) := by
  obtain ⟨A, c, h1, _⟩ := h
  exact q_len_slice (hx.trans h1)
/-- Element j of slice v, of n cells each, lies at place o of block b. -/
def SlAt (v : Value) (n j b o : Nat) : Prop := ∃ b' o' len cap, v = .slice (some ⟨b', o', none⟩) len cap ∧ j < len ∧ b = b' ∧ o = o' + j * n
/-- What stands at an element. -/
def El (k : Kd α) (s : St) (b o : Nat) (x : α) (cs : List Value) : Prop := ∃ arr e f, s.has b (.cells arr e f) ∧ k.rep s.I x cs ∧ ∀ i, i < k.sz → arr[o + i]? = cs[i]?
theorem SlR.at [Inhabited α] {v : Value} {xs : List α} (h : SlR k s v xs) (j : Nat) (hj : j < xs.length) : ∃ b o cs, SlAt v k.sz j b o ∧ k.rep s.I xs[j]! cs ∧ El k s b o xs[j]! cs := by
  obtain ⟨A, c, e1, _, _, e4⟩ := h
  obtain ⟨b, o, arr, e, f, rfl, h2, h3⟩ := e4 (by omega)
  have hx : xs[j]? = some xs[j]! := by simp [hj]
  obtain ⟨cs, h4, h5⟩ := h3 j _ hx
  exact ⟨b, o + j * k.sz, cs, ⟨b, o, _, _, e1, hj, rfl, rfl⟩, h4, arr, e, f, h2, h4, h5⟩
theorem El.mono {I J : Hp} {cs : List (Nat × Obj)} {b o : Nat} {w : α} {l : List Value} (h : El k ⟨I, cs⟩ b o w l) (hl : Hp.le I J) : El k ⟨J, cs⟩ b o w l := by
  obtain ⟨arr, e, f, h1, h2, h3⟩ := h
  exact ⟨arr, e, f, h1.mono hl, k.mono hl h2, h3⟩
theorem q_index_at {t e : TypeId} {bb : Bool} {n : Nat} {zv : Value} [ht : TySlice P t e] [TyV P e bb n zv] {v : Value} {kk : IntKind} {i : Int} {j b o : Nat} (hx : ρ x = v) (hy : ρ y = .int kk i) (h : SlAt v n j b o) (hi : i = j) :
    Quiet P (Oper.mk d (.indexAddr t x y) ty ps af g) ρ s (.pointer (some ⟨b, o, none⟩)) := by
  obtain ⟨b', o', len, cap, rfl, h1, rfl, rfl⟩ := h
  subst hi
  have := q_index_slice (P := P) (s := s) (d := d) (ty := ty) (ps := ps) (af := af) (g := g) (t := t) hx hy (by omega) (by omega)
  rwa [Int.toNat_natCast] at this
theorem q_load_at1 {t : TypeId} {n : Nat} {zv : Value} [TyV P t false n zv] {b o i o2 : Nat} {w : α} {l : List Value} {u : Value} (hx : ρ x = .pointer (some ⟨b, o2, none⟩)) (h : El k s b o w l) (ho : o2 = o + i) (hi : i < k.sz) (hu : l[i]? = some u) : Quiet P (Oper.mk d (.load t x) ty ps af g) ρ s u := by
  obtain ⟨arr, e, f, h1, h2, h3⟩ := h
  subst ho
  exact q_load1 hx h1 ((h3 i hi).trans hu)
theorem q_load_atN {t : TypeId} {n : Nat} {zv : Value} [TyV P t true n zv] {b o i o2 : Nat} {w : α} {l : List Value} (hx : ρ x = .pointer (some ⟨b, o2, none⟩)) (h : El k s b o w l) (ho : o2 = o + i) (hi : i + n ≤ k.sz) (hn : 0 < n) :
    Quiet P (Oper.mk d (.load t x) ty ps af g) ρ s (.agg ((l.drop i).take n).toArray) := by
  obtain ⟨arr, e, f, h1, h2, h3⟩ := h
  subst ho
  have hl : ((l.drop i).take n).length = n := by rw [List.length_take, List.length_drop, k.len h2]; omega
  have h4 : ∀ m, m < n → arr[(o + i) + m]? = ((l.drop i).take n)[m]? := by
    intro m hm
    rw [Nat.add_assoc, h3 _ (by omega), List.getElem?_take, if_pos hm, List.getElem?_drop]
  rw [← extract_eq hl h4]
  rcases extract_cells hl h4 with h5 | h5
  · exact q_loadN hx h1 h5
  · omega
/-- An empty slice literal. -/
theorem opsR_slice0 {ops : Array Oper} {rest : List Oper} {Q : Exit → Act → St → Prop} {a : Act} {t e : TypeId} {bb : Bool} {n : Nat} {zv : Value} [ht : TySlice P t e] [TyV P e bb n zv]
    (k : Kd α) (hg : Region.wanted (Oper.mk d (.buildSlice t 0 #[]) ty ps af g) (yielded ops a.tmps) = true) (h : ∀ v hs, OwnS k e s.I v hs [] → OpsR P ops rest Q (a.put d v) ⟨s.I, hs ++ s.cs⟩) : OpsR P ops (Oper.mk d (.buildSlice t 0 #[]) ty ps af g :: rest) Q a s := by
  refine opsR_o hg ?_
  have e0 : Array.range 0 = #[] := rfl
  simp only [opS, execOp, Instr.buildSlice, swp_bind', swp_underlying ht.und, swp_sizeOf, Nat.zero_mul, Nat.not_lt_zero, gt_iff_lt, if_false, if_true, swp_pure, e0, List.map_toArray, List.map_nil, Instr.fill, newRow, newObj, swp, nextS]
  intro b hb
  refine h _ [(b, .cells #[] e (0, 0))] ⟨by simp, .inr ⟨b, 0, #[], rfl, rfl, by simp, by simp, Rows.empty⟩⟩
theorem q_pick_t (hx : ρ x = .bool true) : Quiet P (Oper.mk d (.pick x y z) ty ps af g) ρ s (ρ y) := q_pick hx
theorem q_pick_f (hx : ρ x = .bool false) : Quiet P (Oper.mk d (.pick x y z) ty ps af g) ρ s (ρ z) := q_pick hx
theorem opsR_index [Inhabited α] {ops : Array Oper} {rest : List Oper} {Q : Exit → Act → St → Prop} {a : Act} {t e : TypeId} {bb : Bool} {n : Nat} {zv : Value} [ht : TySlice P t e] [TyV P e bb n zv] {v : Value} {kk : IntKind} {i : Int} {xs : List α}
    (hg : Region.wanted (Oper.mk d (.indexAddr t x y) ty ps af g) (yielded ops a.tmps) = true) (hx : a.eval x = v) (hy : a.eval y = .int kk i) (hs : SlR k s v xs) (hn : k.sz = n) (h0 : 0 ≤ i) (h1 : i < xs.length)
    (h : ∀ b o cs, SlAt v k.sz i.toNat b o → k.rep s.I xs[i.toNat]! cs → El k s b o xs[i.toNat]! cs → OpsR P ops rest Q (a.put d (.pointer (some ⟨b, o, none⟩))) s) : OpsR P ops (Oper.mk d (.indexAddr t x y) ty ps af g :: rest) Q a s := by
  subst hn
  obtain ⟨b, o, cs, e1, e2, e3⟩ := hs.at i.toNat (by omega)
  exact opsR_q hg (q_index_at hx hy e1 (by omega)) (h b o cs e1 e2 e3)
theorem oblE_index [Inhabited α] {ops : Array Oper} {I0 : Hp} {cs0 : List (Nat × Obj)} {fin : Act → Prop} {r : List Oper} {a : Act} {t e : TypeId} {bb : Bool} {n : Nat} {zv : Value} [ht : TySlice P t e] [TyV P e bb n zv] {v : Value} {kk : IntKind} {i : Int} {xs : List α}
    (hg : Region.wanted (Oper.mk d (.indexAddr t x y) ty ps af g) (yielded ops a.tmps) = true) (hx : a.eval x = v) (hy : a.eval y = .int kk i) (hs : SlR k ⟨I0, cs0⟩ v xs) (hn : k.sz = n) (h0 : 0 ≤ i) (h1 : i < xs.length)
    (h : ∀ b o cs, SlAt v k.sz i.toNat b o → k.rep I0 xs[i.toNat]! cs → El k ⟨I0, cs0⟩ b o xs[i.toNat]! cs → oblE P ops I0 cs0 fin r (a.put d (.pointer (some ⟨b, o, none⟩)))) : oblE P ops I0 cs0 fin (Oper.mk d (.indexAddr t x y) ty ps af g :: r) a := by
  subst hn
  obtain ⟨b, o, cs, e1, e2, e3⟩ := hs.at i.toNat (by omega)
  exact oblE_q hg (fun I hI => q_index_at hx hy e1 (by omega)) (h b o cs e1 e2 e3)
theorem q_conv_int_int {t1 t2 : TypeId} {k1 k2 : IntKind} {n : Int} [h1 : TyInt P t1 k1] [h2 : TyInt P t2 k2] (hx : ρ x = .int k1 n) : Quiet P (Oper.mk d (.convert t1 t2 x) ty ps af g) ρ s (.int k2 (k2.wrap n)) := by
  intro K h
  simp only [opS, execOp, hx, convert, swp_bind', swp_underlying h1.und, swp_underlying h2.und, Conv.intToInt, swp_pure, nextS]
  exact h
theorem wrap_u64_id {n : Int} (h1 : 0 ≤ n) (h2 : n ≤ 18446744073709551615) : IntKind.u64.wrap n = n := by
  unfold IntKind.wrap
  have e1 : IntKind.u64.signed = false := rfl
  have e2 : IntKind.u64.bits = 64 := rfl
  simp only [e1, e2, Bool.false_and, Nat.reduceSub, Bool.false_eq_true, if_false, decide_false]
  omega
theorem eqK {K : Value → St → Prop} {v w : Value} {s : St} (h : K v s) (e : v = w) : K w s := e ▸ h
theorem all_zero {p : Nat → Prop} : ∀ j, j < 0 → p j := fun j hj => absurd hj (Nat.not_lt_zero j)
theorem all_succ {p : Nat → Prop} {i : Nat} (h : ∀ j, j < i → p j) (hi : p i) : ∀ j, j < i + 1 → p j := fun j hj => by
  by_cases e : j = i
  · exact e ▸ hi
  · exact h j (by omega)
theorem mem_get! {β : Type} [Inhabited β] {l : List β} {i : Nat} (h : i < l.length) : l[i]! ∈ l := by
  rw [getElem!_pos l i h]; exact List.getElem_mem h
theorem list_ext! {β : Type} [Inhabited β] {l m : List β} (h : l.length = m.length) (k : ∀ j, j < l.length → l[j]! = m[j]!) : l = m := by
  refine List.ext_getElem h fun j h1 h2 => ?_
  have := k j h1
  rwa [getElem!_pos l j h1, getElem!_pos m j h2] at this
end
end Go.Proofs.YtcnbcblihepbmaaGreatDoor
