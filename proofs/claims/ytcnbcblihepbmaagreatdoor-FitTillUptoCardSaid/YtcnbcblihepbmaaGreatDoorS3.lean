/- Symbolic states: what each operation does. It holds for every program. -/
import Derived.Test.YtcnbcblihepbmaaGreatDoorS2
set_option autoImplicit false
set_option linter.unusedSimpArgs false
set_option linter.unusedVariables false
namespace Go.Proofs.YtcnbcblihepbmaaGreatDoor
open Go Go.RowKit

/-- What the program's types are: small facts, found by the type's number. -/
class TyV (P : Program) (t : TypeId) (agg : outParam Bool) (n : outParam Nat) (z : outParam Value) : Prop where
  und : (P.underlying t).map (fun d => match d with | .struct _ | .array _ _ => true | _ => false) = some agg
  size : (P.info? t).map (·.size) = some n
  zero : (P.info? t).bind (·.zero) = some z
class TySlice (P : Program) (t : TypeId) (e : outParam TypeId) : Prop where
  und : P.underlying t = some (.slice e)
class TyBytes (P : Program) (t : TypeId) (n : outParam Nat) : Prop where
  bytes : (P.info? t).map (·.bytes) = some n
class TyField (P : Program) (t : TypeId) (i : Nat) (off n : outParam Nat) : Prop where
  und : ∃ fs f, P.underlying t = some (.struct fs) ∧ fs[i]? = some f ∧ f.offset = off ∧ (P.info? f.type).map (·.size) = some n ∧ n ≠ 0
class TyArr (P : Program) (t : TypeId) (len : outParam Nat) (e : outParam TypeId) : Prop where
  und : P.underlying t = some (.array len e)
class TyInt (P : Program) (t : TypeId) (k : outParam IntKind) : Prop where
  und : P.underlying t = some (.int k)
class TyStr (P : Program) (t : TypeId) : Prop where
  und : P.underlying t = some .string
class TyBool (P : Program) (t : TypeId) : Prop where
  und : P.underlying t = some .bool
class TyMap (P : Program) (t : TypeId) (k e : outParam TypeId) : Prop where
  und : P.underlying t = some (.map k e)
class TyIf (P : Program) (t : TypeId) : Prop where
  und : ∃ ms, P.underlying t = some (.interface ms)
class TyPtr (P : Program) (t : TypeId) (e : outParam TypeId) : Prop where
  und : P.underlying t = some (.pointer e)

section
variable {P : Program} {s : St}
theorem swp_underlying {t : TypeId} {d : TypeDesc} (h : P.underlying t = some d) (K : TypeDesc → St → Prop) : swp P (underlying t) s K = K d s := by
  simp only [underlying, Go.program, swp_bind', swp, h, swp_pure]
theorem swp_typeInfo {t : TypeId} {i : TypeInfo} (h : P.info? t = some i) (K : TypeInfo → St → Prop) : swp P (typeInfo t) s K = K i s := by
  simp only [typeInfo, Go.program, swp_bind', swp, h, swp_pure]
theorem swp_isAgg {t : TypeId} {b : Bool} {n : Nat} {z : Value} [h : TyV P t b n z] (K : Bool → St → Prop) : swp P (isAgg t) s K = K b s := by
  have := h.und
  cases hd : P.underlying t with
  | none => simp [hd] at this
  | some d =>
    rw [hd] at this
    simp only [Option.map_some, Option.some.injEq] at this
    simp only [isAgg, swp_bind', swp_underlying hd]
    subst this
    cases d <;> rfl
theorem swp_sizeOf {t : TypeId} {b : Bool} {n : Nat} {z : Value} [h : TyV P t b n z] (K : Nat → St → Prop) : swp P (sizeOf t) s K = K n s := by
  have := h.size
  cases hd : P.info? t with
  | none => simp [hd] at this
  | some d =>
    rw [hd] at this
    simp only [Option.map_some, Option.some.injEq] at this
    simp only [sizeOf, swp_bind', swp_typeInfo hd, swp_pure, this]
theorem swp_zeroValue {t : TypeId} {b : Bool} {n : Nat} {z : Value} [h : TyV P t b n z] (K : Value → St → Prop) : swp P (zeroValue t) s K = K z s := by
  have := h.zero
  cases hd : P.info? t with
  | none => simp [hd] at this
  | some d =>
    rw [hd] at this
    simp only [Option.bind_some] at this
    simp only [zeroValue, swp_bind', swp_typeInfo hd, this, swp_pure]
theorem swp_load (a : Addr) (m : Mode) (K : Value → St → Prop) : swp P (Go.load a m) s K ↔ ∃ v c e f, a.spot = none ∧ s.has a.block (.cells c e f) ∧ c[a.off]? = some v ∧ K v s := Iff.rfl
theorem addr_add (b o i : Nat) : (⟨b, o, none⟩ : Addr).add i = ⟨b, o + i, none⟩ := by unfold Addr.add; split <;> simp_all
theorem addr_add_spot (a : Addr) (h : a.spot = none) (i : Nat) : a.add i = ⟨a.block, a.off + i, none⟩ := by
  obtain ⟨b, o, p⟩ := a
  cases h
  exact addr_add b o i
theorem swp_loadCellsFrom {a : Addr} {c : Array Value} {e : TypeId} {f : Nat × Nat} (ha : a.spot = none) (hb : s.has a.block (.cells c e f)) (n : Nat) :
    ∀ (i : Nat) (acc : Array Value) (K : Array Value → St → Prop), a.off + i + n ≤ c.size → K (acc ++ c.extract (a.off + i) (a.off + i + n)) s → swp P (loadCellsFrom a i n acc) s K := by
  induction n with
  | zero =>
    intro i acc K _ h
    have e0 : c.extract (a.off + i) (a.off + i + 0) = #[] := Array.extract_empty_of_stop_le_start (by omega)
    rw [e0, Array.append_empty] at h
    exact h
  | succ n ih =>
    intro i acc K hn h
    simp only [loadCellsFrom, swp_bind', swp_load]
    have hlt : a.off + i < c.size := by omega
    refine ⟨c[a.off + i], c, e, f, ?_, ?_, ?_, ?_⟩
    · rw [addr_add_spot _ ha]
    · rw [addr_add_spot _ ha]; exact hb
    · rw [addr_add_spot _ ha]; simp [hlt]
    · refine ih (i + 1) _ K (by omega) ?_
      have : acc.push c[a.off + i] ++ c.extract (a.off + (i + 1)) (a.off + (i + 1) + n) = acc ++ c.extract (a.off + i) (a.off + i + (n + 1)) := by
        apply Array.ext'
        simp only [Array.toList_append, Array.toList_push, List.append_assoc, Array.toList_extract, List.cons_append, List.nil_append]
        congr 1
        rw [List.extract_eq_take_drop, List.extract_eq_take_drop]
        have e1 : a.off + i + (n + 1) - (a.off + i) = n + 1 := by omega
        have e2 : a.off + (i + 1) + n - (a.off + (i + 1)) = n := by omega
        rw [e1, e2, List.drop_eq_getElem_cons (by simpa using hlt : a.off + i < c.toList.length), List.take_succ_cons]
        simp [Nat.add_assoc]
      rw [this]; exact h
theorem swp_loadVar {t : TypeId} {b : Bool} {n : Nat} {z : Value} [TyV P t b n z] {a : Addr} {c : Array Value} {e : TypeId} {f : Nat × Nat} {v : Value} (ha : a.spot = none) (hb : s.has a.block (.cells c e f))
    (hv : if b then a.off + n ≤ c.size ∧ v = .agg (c.extract a.off (a.off + n)) else c[a.off]? = some v) {K : Value → St → Prop} (h : K v s) : swp P (loadVar t a) s K := by
  simp only [loadVar, swp_bind', swp_isAgg]
  cases b with
  | true =>
    simp only [if_true, swp_bind', swp_sizeOf] at hv ⊢
    simp only [loadCells]
    refine swp_loadCellsFrom ha hb n 0 #[] _ (by omega) ?_
    obtain ⟨h1, rfl⟩ := hv
    simpa [swp_pure] using h
  | false =>
    simp only [Bool.false_eq_true, if_false] at hv ⊢
    exact ⟨v, c, e, f, ha, hb, hv, h⟩

/-- An operation that leaves the state alone and yields v. -/
def Quiet (P : Program) (o : Oper) (ρ : Operand → Value) (s : St) (v : Value) : Prop := ∀ K : Value → St → Prop, K v s → opS P o ρ s K

theorem opsR_q {ops : Array Oper} {o : Oper} {rest : List Oper} {Q : Exit → Act → St → Prop} {a : Act} {v : Value} (hg : Region.wanted o (yielded ops a.tmps) = true) (hq : Quiet P o a.eval s v) (h : OpsR P ops rest Q (a.put o.dst v) s) : OpsR P ops (o :: rest) Q a s :=
  opsR_o hg (hq _ h)
variable {ρ : Operand → Value} {d : Option Tmp} {ty : TypeId} {ps : String} {af : Array Edge} {g : Option (Nat × Bool)} {x y z : Operand}
theorem q_move : Quiet P (Oper.mk d (.move x) ty ps af g) ρ s (ρ x) := fun _ h => h
theorem q_assign : Quiet P (Oper.mk d (.assign x) ty ps af g) ρ s (ρ x) := fun _ h => h
theorem q_pick {b : Bool} (hx : ρ x = .bool b) : Quiet P (Oper.mk d (.pick x y z) ty ps af g) ρ s (if b then ρ y else ρ z) := by
  intro K h
  simp only [opS, execOp, swp_bind', hx, asBool, swp_pure, nextS]
  exact h
theorem q_pick_bool {b p q : Bool} (hx : ρ x = .bool b) (hy : ρ y = .bool p) (hz : ρ z = .bool q) : Quiet P (Oper.mk d (.pick x y z) ty ps af g) ρ s (.bool (if b then p else q)) := by
  intro K h
  refine q_pick hx K ?_
  rw [hy, hz]
  cases b <;> exact h
theorem q_nilCheck {a : Addr} (hx : ρ x = .pointer (some a)) : Quiet P (Oper.mk d (.nilCheck x) ty ps af g) ρ s (.pointer (some a)) := by
  intro K h
  simp only [opS, execOp, hx, swp_pure, nextS]
  exact h
theorem q_nilCheck_func {f : FuncId} {a b : Array Value} (hx : ρ x = .func (.func f) a b) : Quiet P (Oper.mk d (.nilCheck x) ty ps af g) ρ s (.func (.func f) a b) := by
  intro K h
  simp only [opS, execOp, hx, swp_pure, nextS]
  exact h
theorem q_not {b : Bool} {ty' : TypeId} (hx : ρ x = .bool b) : Quiet P (Oper.mk d (.unOp .not ty' x) ty ps af g) ρ s (.bool (!b)) := by
  intro K h
  simp only [opS, execOp, hx, Op.unary, swp_bind', swp_pure, nextS]
  exact h
theorem q_extract {vs : List Value} {i : Nat} {v : Value} (hx : ρ x = .tuple vs.toArray) (hv : vs[i]? = some v) : Quiet P (Oper.mk d (.extract x i) ty ps af g) ρ s v := by
  intro K h
  have hv' : vs.toArray[i]? = some v := by simpa using hv
  simp only [opS, execOp, hx, Instr.extract, hv', swp_bind', swp_pure, nextS]
  exact h
theorem q_makeFunc {fn : Fn} {a b : List Operand} : Quiet P (Oper.mk d (.makeFunc fn a.toArray b.toArray) ty ps af g) ρ s (.func fn (a.map ρ).toArray (b.map ρ).toArray) := by
  intro K h
  simp only [opS, execOp, Instr.makeFunc, swp_bind', swp_pure, nextS, List.map_toArray]
  exact h
theorem q_fieldAddr {t : TypeId} {i off n : Nat} [hf : TyField P t i off n] {b o : Nat} (hx : ρ x = .pointer (some ⟨b, o, none⟩)) : Quiet P (Oper.mk d (.fieldAddr t x i) ty ps af g) ρ s (.pointer (some ⟨b, o + off, none⟩)) := by
  intro K h
  obtain ⟨fs, f, h1, h2, h3, h4, h6⟩ := hf.und
  obtain ⟨i', h4, h5⟩ := Option.map_eq_some_iff.1 h4
  simp only [opS, execOp, hx, Instr.fieldAt, Instr.sureAddr, swp_bind', swp_pure, swp_underlying h1, h2, fieldPlace, sizeOf, swp_typeInfo h4, h5, h6, if_false, addr_add, h3, nextS]
  exact h
theorem q_index_arr {t : TypeId} {len : Nat} {e : TypeId} {b : Bool} {n : Nat} {zv : Value} [ht : TyArr P t len e] [TyV P e b n zv] {bl o : Nat} {k : IntKind} {i : Int} (hx : ρ x = .pointer (some ⟨bl, o, none⟩)) (hy : ρ y = .int k i) (h0 : 0 ≤ i) (h1 : i < len) :
    Quiet P (Oper.mk d (.indexAddr t x y) ty ps af g) ρ s (.pointer (some ⟨bl, o + i.toNat * n, none⟩)) := by
  intro K h
  simp only [opS, execOp, hx, hy, Instr.indexAt, asIntOf, swp_bind', swp_pure, swp_underlying ht.und, Instr.sureAddr, h0, h1, and_self, if_true, swp_sizeOf, addr_add, nextS]
  exact h
theorem q_index_slice {t e : TypeId} {b : Bool} {n : Nat} {zv : Value} [ht : TySlice P t e] [TyV P e b n zv] {bl o len cap : Nat} {k : IntKind} {i : Int} (hx : ρ x = .slice (some ⟨bl, o, none⟩) len cap) (hy : ρ y = .int k i) (h0 : 0 ≤ i) (h1 : i < len) :
    Quiet P (Oper.mk d (.indexAddr t x y) ty ps af g) ρ s (.pointer (some ⟨bl, o + i.toNat * n, none⟩)) := by
  intro K h
  simp only [opS, execOp, hx, hy, Instr.indexAt, asIntOf, swp_bind', swp_pure, swp_underlying ht.und, Instr.sureAddr, h0, h1, and_self, if_true, swp_sizeOf, addr_add, nextS]
  exact h
theorem q_len_slice {t e : TypeId} [ht : TySlice P t e] {a : Option Addr} {len cap : Nat} (hx : ρ x = .slice a len cap) : Quiet P (Oper.mk d (.call { callee := .builtin .len, args := #[x], argTypes := #[t] }) ty ps af g) ρ s (.int .i64 len) := by
  intro K h
  simp [opS, execOp, resolve, hx, invoke, builtin, Builtin.len_, swp_bind', swp_pure, swp_underlying ht.und, goInt, nextS]
  exact h
theorem q_len_str {t : TypeId} [ht : TyStr P t] {b : ByteArray} (hx : ρ x = .string b) : Quiet P (Oper.mk d (.call { callee := .builtin .len, args := #[x], argTypes := #[t] }) ty ps af g) ρ s (.int .i64 b.size) := by
  intro K h
  simp [opS, execOp, resolve, hx, invoke, builtin, Builtin.len_, swp_bind', swp_pure, swp_underlying ht.und, goInt, nextS]
  exact h
theorem q_max {t1 t2 : TypeId} {k : IntKind} {a b : Int} (hx : ρ x = .int k a) (hy : ρ y = .int k b) : Quiet P (Oper.mk d (.call { callee := .builtin .max, args := #[x, y], argTypes := #[t1, t2] }) ty ps af g) ρ s (.int k (max a b)) := by
  intro K h
  simp [opS, execOp, resolve, hx, hy, invoke, builtin, Builtin.max_, Builtin.max2, swp_bind', swp_pure, nextS]
  have : (if a < b then b else a) = max a b := by omega
  rw [this]; exact h
theorem q_min {t1 t2 : TypeId} {k : IntKind} {a b : Int} (hx : ρ x = .int k a) (hy : ρ y = .int k b) : Quiet P (Oper.mk d (.call { callee := .builtin .min, args := #[x, y], argTypes := #[t1, t2] }) ty ps af g) ρ s (.int k (min a b)) := by
  intro K h
  simp [opS, execOp, resolve, hx, hy, invoke, builtin, Builtin.min_, Builtin.min2, swp_bind', swp_pure, nextS]
  have : (if b < a then b else a) = min a b := by omega
  rw [this]; exact h
theorem wrap_i64_id {n : Int} (h1 : -9223372036854775808 ≤ n) (h2 : n ≤ 9223372036854775807) : IntKind.i64.wrap n = n := by
  unfold IntKind.wrap
  have e1 : IntKind.i64.signed = true := rfl
  have e2 : IntKind.i64.bits = 64 := rfl
  simp only [e1, e2, Bool.true_and, decide_eq_true_eq, Nat.reduceSub]
  split <;> omega
section ints
variable {t u : TypeId} {k : IntKind} {a b : Int} (hx : ρ x = .int k a) (hy : ρ y = .int k b)
include hx hy
theorem q_add : Quiet P (Oper.mk d (.binOp .add t x y u) ty ps af g) ρ s (.int k (k.wrap (a + b))) := by
  intro K h
  simp [opS, execOp, hx, hy, eqGuard, Go.binOp, Op.intArith, swp_bind', swp_pure, nextS]; exact h
theorem q_sub : Quiet P (Oper.mk d (.binOp .sub t x y u) ty ps af g) ρ s (.int k (k.wrap (a - b))) := by
  intro K h
  simp [opS, execOp, hx, hy, eqGuard, Go.binOp, Op.intArith, swp_bind', swp_pure, nextS]; exact h
theorem q_mul : Quiet P (Oper.mk d (.binOp .mul t x y u) ty ps af g) ρ s (.int k (k.wrap (a * b))) := by
  intro K h
  simp [opS, execOp, hx, hy, eqGuard, Go.binOp, Op.intArith, swp_bind', swp_pure, nextS]; exact h
theorem q_quo (h0 : b ≠ 0) : Quiet P (Oper.mk d (.binOp .quo t x y u) ty ps af g) ρ s (.int k (k.wrap (a.tdiv b))) := by
  intro K h
  simp [opS, execOp, hx, hy, eqGuard, Go.binOp, Op.intDiv, swp_bind', swp_pure, nextS, h0]; exact h
theorem q_rem (h0 : b ≠ 0) : Quiet P (Oper.mk d (.binOp .rem t x y u) ty ps af g) ρ s (.int k (a.tmod b)) := by
  intro K h
  simp [opS, execOp, hx, hy, eqGuard, Go.binOp, Op.intDiv, swp_bind', swp_pure, nextS, h0]; exact h
theorem q_eql : Quiet P (Oper.mk d (.binOp .eql t x y u) ty ps af g) ρ s (.bool (decide (a = b))) := by
  intro K h
  have e : (a == b) = decide (a = b) := rfl
  simp [opS, execOp, hx, hy, eqGuard, Go.binOp, Op.intCmp, swp_bind', swp_pure, nextS, e]; exact h
theorem q_neq : Quiet P (Oper.mk d (.binOp .neq t x y u) ty ps af g) ρ s (.bool (decide (a ≠ b))) := by
  intro K h
  have e : (a != b) = decide (a ≠ b) := by by_cases h : a = b <;> simp [h]
  simp [opS, execOp, hx, hy, eqGuard, Go.binOp, Op.intCmp, swp_bind', swp_pure, nextS, e]; simpa using h
theorem q_lss : Quiet P (Oper.mk d (.binOp .lss t x y u) ty ps af g) ρ s (.bool (decide (a < b))) := by
  intro K h
  simp [opS, execOp, hx, hy, eqGuard, Go.binOp, Op.intCmp, swp_bind', swp_pure, nextS]; exact h
theorem q_leq : Quiet P (Oper.mk d (.binOp .leq t x y u) ty ps af g) ρ s (.bool (decide (a ≤ b))) := by
  intro K h
  simp [opS, execOp, hx, hy, eqGuard, Go.binOp, Op.intCmp, swp_bind', swp_pure, nextS]; exact h
theorem q_gtr : Quiet P (Oper.mk d (.binOp .gtr t x y u) ty ps af g) ρ s (.bool (decide (a > b))) := by
  intro K h
  simp [opS, execOp, hx, hy, eqGuard, Go.binOp, Op.intCmp, swp_bind', swp_pure, nextS]; exact h
theorem q_geq : Quiet P (Oper.mk d (.binOp .geq t x y u) ty ps af g) ρ s (.bool (decide (a ≥ b))) := by
  intro K h
  simp [opS, execOp, hx, hy, eqGuard, Go.binOp, Op.intCmp, swp_bind', swp_pure, nextS]; exact h
end ints
theorem q_add64 {t u : TypeId} {a b : Int} (hx : ρ x = .int .i64 a) (hy : ρ y = .int .i64 b) (h1 : -9223372036854775808 ≤ a + b) (h2 : a + b ≤ 9223372036854775807) : Quiet P (Oper.mk d (.binOp .add t x y u) ty ps af g) ρ s (.int .i64 (a + b)) := by
  have := q_add (P := P) (s := s) (d := d) (ty := ty) (ps := ps) (af := af) (g := g) (t := t) (u := u) hx hy
  rwa [wrap_i64_id h1 h2] at this
theorem q_sub64 {t u : TypeId} {a b : Int} (hx : ρ x = .int .i64 a) (hy : ρ y = .int .i64 b) (h1 : -9223372036854775808 ≤ a - b) (h2 : a - b ≤ 9223372036854775807) : Quiet P (Oper.mk d (.binOp .sub t x y u) ty ps af g) ρ s (.int .i64 (a - b)) := by
  have := q_sub (P := P) (s := s) (d := d) (ty := ty) (ps := ps) (af := af) (g := g) (t := t) (u := u) hx hy
  rwa [wrap_i64_id h1 h2] at this
theorem q_mul64 {t u : TypeId} {a b : Int} (hx : ρ x = .int .i64 a) (hy : ρ y = .int .i64 b) (h1 : -9223372036854775808 ≤ a * b) (h2 : a * b ≤ 9223372036854775807) : Quiet P (Oper.mk d (.binOp .mul t x y u) ty ps af g) ρ s (.int .i64 (a * b)) := by
  have := q_mul (P := P) (s := s) (d := d) (ty := ty) (ps := ps) (af := af) (g := g) (t := t) (u := u) hx hy
  rwa [wrap_i64_id h1 h2] at this
/-- A load out of a block that is known. -/
theorem q_load {t : TypeId} {b : Bool} {n : Nat} {zv : Value} [TyV P t b n zv] {bl o : Nat} {c : Array Value} {e : TypeId} {f : Nat × Nat} {v : Value} (hx : ρ x = .pointer (some ⟨bl, o, none⟩)) (hb : s.has bl (.cells c e f))
    (hv : if b then o + n ≤ c.size ∧ v = .agg (c.extract o (o + n)) else c[o]? = some v) : Quiet P (Oper.mk d (.load t x) ty ps af g) ρ s v := by
  intro K h
  simp only [opS, execOp, hx, Instr.loadAt, Instr.sureAddr, swp_bind', swp_pure]
  exact swp_loadVar rfl hb hv (by simpa [swp_pure, nextS] using h)
theorem q_load1 {t : TypeId} {n : Nat} {zv : Value} [TyV P t false n zv] {bl o : Nat} {c : Array Value} {e : TypeId} {f : Nat × Nat} {v : Value} (hx : ρ x = .pointer (some ⟨bl, o, none⟩)) (hb : s.has bl (.cells c e f))
    (hv : c[o]? = some v) : Quiet P (Oper.mk d (.load t x) ty ps af g) ρ s v := q_load hx hb (by simpa using hv)
theorem q_loadN {t : TypeId} {n : Nat} {zv : Value} [TyV P t true n zv] {bl o : Nat} {c : Array Value} {e : TypeId} {f : Nat × Nat} (hx : ρ x = .pointer (some ⟨bl, o, none⟩)) (hb : s.has bl (.cells c e f))
    (hn : o + n ≤ c.size) : Quiet P (Oper.mk d (.load t x) ty ps af g) ρ s (.agg (c.extract o (o + n))) := q_load hx hb (by simpa using hn)
end
end Go.Proofs.YtcnbcblihepbmaaGreatDoor
