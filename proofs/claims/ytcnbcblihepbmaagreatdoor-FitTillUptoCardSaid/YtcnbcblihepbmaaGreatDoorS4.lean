/- Symbolic states: operations that make or write memory; calls of Go functions. It holds for every program. -/
import Derived.Test.YtcnbcblihepbmaaGreatDoorS3
set_option autoImplicit false
set_option linter.unusedSimpArgs false
set_option linter.unusedVariables false
namespace Go.Proofs.YtcnbcblihepbmaaGreatDoor
open Go Go.RowKit

class FnOk (P : Program) (n : FuncId) : Prop where
  ok : ∃ fn, P.funcs[n]? = some fn ∧ (fn.name == "runtime.NumGoroutine") = false ∧ fn.body.isNone = false
class TyBuild (P : Program) (t : TypeId) (pl : outParam (List (Nat × Nat))) : Prop where
  und : ∃ fs : Array Field, P.underlying t = some (.struct fs) ∧ ∀ (s : St) (K : Array (Nat × Nat) → St → Prop), swp P (fs.mapM fun f => do pure (f.offset, ← sizeOf f.type)) s K = K pl.toArray s

/-- Cells written from place o on. -/
def wr (c : Array Value) (o : Nat) : List Value → Array Value
  | [] => c
  | v :: r => wr (c.setIfInBounds o v) (o + 1) r
theorem wr_size (l : List Value) : ∀ (c : Array Value) (o : Nat), (wr c o l).size = c.size := by
  induction l with
  | nil => intro c o; rfl
  | cons v r ih => intro c o; simp [wr, ih]

theorem wr_nil (c : Array Value) (o : Nat) : wr c o [] = c := rfl
theorem wr_cons (c : Array Value) (o : Nat) (v : Value) (r : List Value) : wr c o (v :: r) = wr (c.setIfInBounds o v) (o + 1) r := rfl
theorem cells_agg (c : Array Value) : (Value.agg c).cells = c := rfl
theorem cells_int (k : IntKind) (n : Int) : (Value.int k n).cells = #[.int k n] := rfl
theorem cells_bool (b : Bool) : (Value.bool b).cells = #[.bool b] := rfl
theorem cells_string (b : ByteArray) : (Value.string b).cells = #[.string b] := rfl
theorem cells_slice (a : Option Addr) (n c : Nat) : (Value.slice a n c).cells = #[.slice a n c] := rfl
theorem cells_pointer (a : Option Addr) : (Value.pointer a).cells = #[.pointer a] := rfl
theorem cells_map (a : Option Nat) : (Value.map a).cells = #[.map a] := rfl
theorem cells_func (a : Fn) (b c : Array Value) : (Value.func a b c).cells = #[.func a b c] := rfl
theorem cells_iface (t : TypeId) (v : Value) : (Value.iface t v).cells = #[.iface t v] := rfl
theorem cells_nilFunc : Value.nilFunc.cells = #[.nilFunc] := rfl
theorem cells_nilIface : Value.nilIface.cells = #[.nilIface] := rfl
def fillW (place : Nat → Option (Nat × Nat)) (cells : Array Value) : List (Nat × Value) → Option (Array Value)
  | [] => some cells
  | (i, v) :: rest => match place i with
    | none => none
    | some (off, size) => if v.cells.size ≠ size || off + v.cells.size > cells.size then none else fillW place (wr cells off v.cells.toList) rest
theorem foldl_wr (l : List Value) : ∀ (c : Array Value) (off k : Nat), (l.zipIdx k).foldl (fun cs (x : Value × Nat) => cs.setIfInBounds (off + x.2) x.1) c = wr c (off + k) l := by
  induction l with
  | nil => intro c off k; rfl
  | cons v r ih => intro c off k; simp only [List.zipIdx_cons, List.foldl_cons, ih, wr, Nat.add_assoc]
theorem fill_eq (place : Nat → Option (Nat × Nat)) (l : List (Nat × Value)) : ∀ cells, Instr.fill place cells l = fillW place cells l := by
  induction l with
  | nil => intro c; rfl
  | cons x r ih =>
    intro c
    obtain ⟨i, v⟩ := x
    simp only [Instr.fill, fillW]
    cases place i with
    | none => rfl
    | some p =>
      obtain ⟨off, size⟩ := p
      simp only
      split
      · rfl
      · rw [ih]
        congr 1
        have := foldl_wr v.cells.toList c off 0
        rw [Nat.add_zero] at this
        rw [← this, ← Array.foldl_toList, Array.toList_zipIdx]
section
variable {P : Program} {s : St} {ρ : Operand → Value} {d : Option Tmp} {ty : TypeId} {ps : String} {af : Array Edge} {g : Option (Nat × Bool)} {x y z : Operand} {K : Value → St → Prop}
theorem o_box {t : TypeId} (h : ∀ b, s.fresh b → K (.pointer (some ⟨b, 0, none⟩)) ⟨s.I, (b, .cells (ρ x).cells t) :: s.cs⟩) : opS P (Oper.mk d (.box t x) ty ps af g) ρ s K := by
  simp only [opS, execOp, Instr.box, newVar, newRow, newObj, swp_bind', swp_pure, swp, nextS]
  exact h
theorem o_alloc {t : TypeId} {b : Bool} {n : Nat} {zv : Value} [TyV P t b n zv] (h : ∀ b, s.fresh b → K (.pointer (some ⟨b, 0, none⟩)) ⟨s.I, (b, .cells zv.cells t) :: s.cs⟩) : opS P (Oper.mk d (.alloc t) ty ps af g) ρ s K := by
  simp only [opS, execOp, Instr.alloc, newVar, newRow, newObj, swp_bind', swp_zeroValue, swp_pure, swp, nextS]
  exact h
theorem swp_storeCells (l : List Value) : ∀ {s : St} {K : Unit → St → Prop} {a : Addr} (k i : Nat) (c : Array Value) (e : TypeId), a.spot = none → s.cs[i]? = some (a.block, .cells c e (0, 0)) →
    (∀ v ∈ l, vOne v = true) → a.off + k + l.length ≤ c.size → K () ⟨s.I, s.cs.set i (a.block, .cells (wr c (a.off + k) l) e (0, 0))⟩ → swp P (storeCells a l k) s K := by
  induction l with
  | nil =>
    intro s K a k i c e ha hi _ _ h
    simp only [storeCells, swp_pure]
    have : s.cs.set i (a.block, .cells (wr c (a.off + k) []) e (0, 0)) = s.cs := by
      apply List.ext_getElem?
      intro j
      rw [List.getElem?_set]
      by_cases e : i = j
      · subst e
        rw [if_pos rfl, if_pos ((List.getElem?_eq_some_iff.1 hi).1), hi]; rfl
      · rw [if_neg e]
    rw [this] at h; exact h
  | cons v r ih =>
    intro s K a k i c e ha hi h1 hlen h
    simp only [List.length_cons] at hlen
    simp only [storeCells, swp_bind', Go.store, swp]
    refine ⟨i, c, e, h1 v (by simp), ?_, ?_, ?_, ?_⟩
    · rw [addr_add_spot _ ha]
    · rw [addr_add_spot _ ha]; exact hi
    · rw [addr_add_spot _ ha]; show a.off + k < c.size; omega
    · rw [addr_add_spot _ ha]
      refine ih (k + 1) i (c.setIfInBounds (a.off + k) v) e ha ?_ (fun u hu => h1 u (by simp [hu])) (by simp; omega) ?_
      · rw [List.getElem?_set, if_pos rfl, if_pos ((List.getElem?_eq_some_iff.1 hi).1)]
      · simp only [List.set_set]
        exact h
theorem o_store {t : TypeId} {b : Bool} {n : Nat} {zv : Value} [TyV P t b n zv] {bl o i : Nat} {c : Array Value} {e : TypeId} {v : Value} (hx : ρ x = .pointer (some ⟨bl, o, none⟩)) (hy : ρ y = v) (hi : s.cs[i]? = some (bl, .cells c e (0, 0)))
    (hn : v.cells.size = n) (h1 : v.cells.toList.all vOne = true) (ho : o + n ≤ c.size) (h : K undef ⟨s.I, s.cs.set i (bl, .cells (wr c o v.cells.toList) e (0, 0))⟩) : opS P (Oper.mk d (.store t x y) ty ps af g) ρ s K := by
  simp only [opS, execOp, hx, hy, Instr.storeAt, Instr.sureAddr, storeVar, swp_bind', swp_pure, swp_sizeOf, hn, ne_eq, not_true_eq_false, if_false]
  refine swp_storeCells (a := ⟨bl, o, none⟩) _ 0 i c e rfl hi (List.all_eq_true.1 h1) ?_ ?_
  · show o + 0 + _ ≤ _; rw [Array.length_toList, hn]; omega
  · simpa [nextS] using h
theorem o_call {n : FuncId} [hf : FnOk P n] {fo : Operand} {as : List Operand} {ts : Array TypeId} {fi ca : List Value} (hx : ρ fo = .func (.func n) fi.toArray ca.toArray) (h : CallS P n (fi ++ (as.map ρ ++ ca)).toArray s K) :
    opS P (Oper.mk d (.call { callee := .value fo, args := as.toArray, argTypes := ts }) ty ps af g) ρ s K := by
  obtain ⟨fn, h1, h2, h3⟩ := hf.ok
  have e : fi.toArray ++ Array.map ρ as.toArray ++ ca.toArray = (fi ++ (as.map ρ ++ ca)).toArray := by simp
  simp only [opS, execOp, resolve, hx, Deferred.ofValue, swp_bind', swp_pure, invoke, callFunc, Go.program, swp, h1, h2, h3, Bool.false_eq_true, if_false, nextS, e]
  exact h
/-- A function that leaves the state alone and yields v. -/
def CallV (P : Program) (f : FuncId) (args : Array Value) (s : St) (v : Value) : Prop := ∀ K : Value → St → Prop, K v s → CallS P f args s K
theorem q_call {n : FuncId} [hf : FnOk P n] {fo : Operand} {as : List Operand} {ts : Array TypeId} {fi ca : List Value} {v : Value} (hx : ρ fo = .func (.func n) fi.toArray ca.toArray) (h : CallV P n (fi ++ (as.map ρ ++ ca)).toArray s v) :
    Quiet P (Oper.mk d (.call { callee := .value fo, args := as.toArray, argTypes := ts }) ty ps af g) ρ s v := fun K k => o_call hx (h K k)
theorem q_build {t : TypeId} {pl : List (Nat × Nat)} {b : Bool} {n : Nat} {zv : Value} [hp : TyBuild P t pl] [TyV P t b n zv] {parts : Array (Nat × Operand)} {c : Array Value}
    (h : fillW (pl[·]?) zv.cells (parts.toList.map fun (i, x) => (i, ρ x)) = some c) : Quiet P (Oper.mk d (.build t parts) ty ps af g) ρ s (.agg c) := by
  intro K k
  obtain ⟨fs, h1, h2⟩ := hp.und
  simp only [opS, execOp, Instr.build, swp_bind', swp_zeroValue, swp_underlying h1, h2, List.getElem?_toArray, Array.toList_map, fill_eq, h, swp_pure, nextS]
  exact k
theorem q_build_arr {t : TypeId} {len : Nat} {e : TypeId} {b b' : Bool} {n m : Nat} {zv zv' : Value} [hp : TyArr P t len e] [TyV P t b n zv] [TyV P e b' m zv'] {parts : Array (Nat × Operand)} {c : Array Value}
    (h : fillW (fun i => some (i * m, m)) zv.cells (parts.toList.map fun (i, x) => (i, ρ x)) = some c) : Quiet P (Oper.mk d (.build t parts) ty ps af g) ρ s (.agg c) := by
  intro K k
  simp only [opS, execOp, Instr.build, swp_bind', swp_zeroValue, swp_underlying hp.und, swp_sizeOf, Array.toList_map, fill_eq, h, swp_pure, nextS]
  exact k
end
end Go.Proofs.YtcnbcblihepbmaaGreatDoor
