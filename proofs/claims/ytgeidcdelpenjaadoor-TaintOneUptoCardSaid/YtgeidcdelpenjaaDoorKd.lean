/- The program's structs: how they lie in memory. -/
import Derived.Test.YtgeidcdelpenjaaDoorO
import Derived.Test.YtgeidcdelpenjaaDoorS15
set_option autoImplicit false
set_option linter.unusedVariables false
namespace Go.Proofs.YtgeidcdelpenjaaDoor
open Go Go.RowKit
structure Taint where
  Key : ByteArray
  Value : ByteArray
  Effect : Int
  deriving Inhabited, DecidableEq
def kTaint : Kd Taint := Kd.iso (Kd.pair kStr (Kd.pair kStr (Kd.pair (kInt .i64) Kd.unit))) (fun x => (x.Key, x.Value, x.Effect, ()))
theorem kTaint.open {I : Hp} {x : Taint} {cs : List Value} (h : kTaint.rep I x cs) : cs = [.string x.Key, .string x.Value, .int .i64 x.Effect] := by
  obtain ⟨c0, r0, rfl, e0, h⟩ := h
  obtain ⟨c1, r1, rfl, e1, h⟩ := h
  obtain ⟨c2, r2, rfl, e2, h⟩ := h
  obtain rfl := h
  obtain rfl := e0
  obtain rfl := e1
  obtain rfl := e2
  exact rfl
theorem kTaint.shut {I : Hp} {x : Taint} : kTaint.rep I x [.string x.Key, .string x.Value, .int .i64 x.Effect] := ⟨_, _, rfl, rfl, ⟨_, _, rfl, rfl, ⟨_, _, rfl, rfl, rfl⟩⟩⟩
instance : TyEqS Tryd.prog 32 := ⟨by kernel_rfl, by kernel_rfl⟩
theorem kTaint.eq {x y : Taint} {s : St} (m : Nat) {K : Bool → St → Prop} (h : K (decide (x = y)) s) : swp Tryd.prog (Op.equalIn (m + 2) 32 (.agg #[.string x.Key, .string x.Value, .int .i64 x.Effect]) (.agg #[.string y.Key, .string y.Value, .int .i64 y.Effect])) s K := by
  refine swp_equal_struct Tryd.underlying32 TyEqS.held ?_
  refine eqF_cons rfl (swp_part1 rfl (swp_part1 rfl (swp_equal_str (d := m + 0) (eqF_if (fun h0 => ?_) (fun h0 => ?_)))))
  rotate_left
  · rw [decide_eq_false (fun e => by subst e; simp at h0)] at h; exact h
  refine eqF_cons rfl (swp_part1 rfl (swp_part1 rfl (swp_equal_str (d := m + 0) (eqF_if (fun h1 => ?_) (fun h1 => ?_)))))
  rotate_left
  · rw [decide_eq_false (fun e => by subst e; simp at h1)] at h; exact h
  refine eqF_cons rfl (swp_part1 rfl (swp_part1 rfl (swp_equal_int (d := m + 0) (eqF_if (fun h2 => ?_) (fun h2 => ?_)))))
  rotate_left
  · rw [decide_eq_false (fun e => by subst e; simp at h2)] at h; exact h
  refine eqF_nil ?_
  have e : x = y := by cases x; cases y; simp_all
  rw [decide_eq_true e] at h; exact h
theorem kTaint.eqL {a0 : ByteArray} {a1 : ByteArray} {a2 : Int} {b0 : ByteArray} {b1 : ByteArray} {b2 : Int} {s : St} (m : Nat) {K : Bool → St → Prop} (h : K (decide ((Taint.mk a0 a1 a2) = (Taint.mk b0 b1 b2))) s) : swp Tryd.prog (Op.equalIn (m + 2) 32 (.agg #[.string a0, .string a1, .int .i64 a2]) (.agg #[.string b0, .string b1, .int .i64 b2])) s K := kTaint.eq (x := (Taint.mk a0 a1 a2)) (y := (Taint.mk b0 b1 b2)) m h
theorem openTaint : OpenK Tryd.prog 32 kTaint := openStruct (g := fun b => ⟨b.1, b.2.1, b.2.2.1⟩) Tryd.underlying32 (fun _ => rfl) (by kernel_rfl) (OpenFs.cons rfl rfl (openStr (by kernel_rfl) : OpenK Tryd.prog 9 kStr) (OpenFs.cons rfl rfl (openStr (by kernel_rfl) : OpenK Tryd.prog 9 kStr) (OpenFs.cons rfl rfl (openInt (by kernel_rfl) : OpenK Tryd.prog 3 (kInt .i64)) OpenFs.nil)))
structure Bear where
  Key : ByteArray
  Value : ByteArray
  Any : Bool
  Effect : Int
  deriving Inhabited, DecidableEq
def kBear : Kd Bear := Kd.iso (Kd.pair kStr (Kd.pair kStr (Kd.pair kBool (Kd.pair (kInt .i64) Kd.unit)))) (fun x => (x.Key, x.Value, x.Any, x.Effect, ()))
theorem kBear.open {I : Hp} {x : Bear} {cs : List Value} (h : kBear.rep I x cs) : cs = [.string x.Key, .string x.Value, .bool x.Any, .int .i64 x.Effect] := by
  obtain ⟨c0, r0, rfl, e0, h⟩ := h
  obtain ⟨c1, r1, rfl, e1, h⟩ := h
  obtain ⟨c2, r2, rfl, e2, h⟩ := h
  obtain ⟨c3, r3, rfl, e3, h⟩ := h
  obtain rfl := h
  obtain rfl := e0
  obtain rfl := e1
  obtain rfl := e2
  obtain rfl := e3
  exact rfl
theorem kBear.shut {I : Hp} {x : Bear} : kBear.rep I x [.string x.Key, .string x.Value, .bool x.Any, .int .i64 x.Effect] := ⟨_, _, rfl, rfl, ⟨_, _, rfl, rfl, ⟨_, _, rfl, rfl, ⟨_, _, rfl, rfl, rfl⟩⟩⟩⟩
instance : TyEqS Tryd.prog 38 := ⟨by kernel_rfl, by kernel_rfl⟩
theorem kBear.eq {x y : Bear} {s : St} (m : Nat) {K : Bool → St → Prop} (h : K (decide (x = y)) s) : swp Tryd.prog (Op.equalIn (m + 2) 38 (.agg #[.string x.Key, .string x.Value, .bool x.Any, .int .i64 x.Effect]) (.agg #[.string y.Key, .string y.Value, .bool y.Any, .int .i64 y.Effect])) s K := by
  refine swp_equal_struct Tryd.underlying38 TyEqS.held ?_
  refine eqF_cons rfl (swp_part1 rfl (swp_part1 rfl (swp_equal_str (d := m + 0) (eqF_if (fun h0 => ?_) (fun h0 => ?_)))))
  rotate_left
  · rw [decide_eq_false (fun e => by subst e; simp at h0)] at h; exact h
  refine eqF_cons rfl (swp_part1 rfl (swp_part1 rfl (swp_equal_str (d := m + 0) (eqF_if (fun h1 => ?_) (fun h1 => ?_)))))
  rotate_left
  · rw [decide_eq_false (fun e => by subst e; simp at h1)] at h; exact h
  refine eqF_cons rfl (swp_part1 rfl (swp_part1 rfl (swp_equal_bool' (d := m + 0) (eqF_if (fun h2 => ?_) (fun h2 => ?_)))))
  rotate_left
  · rw [decide_eq_false (fun e => by subst e; simp at h2)] at h; exact h
  refine eqF_cons rfl (swp_part1 rfl (swp_part1 rfl (swp_equal_int (d := m + 0) (eqF_if (fun h3 => ?_) (fun h3 => ?_)))))
  rotate_left
  · rw [decide_eq_false (fun e => by subst e; simp at h3)] at h; exact h
  refine eqF_nil ?_
  have e : x = y := by cases x; cases y; simp_all
  rw [decide_eq_true e] at h; exact h
theorem kBear.eqL {a0 : ByteArray} {a1 : ByteArray} {a2 : Bool} {a3 : Int} {b0 : ByteArray} {b1 : ByteArray} {b2 : Bool} {b3 : Int} {s : St} (m : Nat) {K : Bool → St → Prop} (h : K (decide ((Bear.mk a0 a1 a2 a3) = (Bear.mk b0 b1 b2 b3))) s) : swp Tryd.prog (Op.equalIn (m + 2) 38 (.agg #[.string a0, .string a1, .bool a2, .int .i64 a3]) (.agg #[.string b0, .string b1, .bool b2, .int .i64 b3])) s K := kBear.eq (x := (Bear.mk a0 a1 a2 a3)) (y := (Bear.mk b0 b1 b2 b3)) m h
theorem openBear : OpenK Tryd.prog 38 kBear := openStruct (g := fun b => ⟨b.1, b.2.1, b.2.2.1, b.2.2.2.1⟩) Tryd.underlying38 (fun _ => rfl) (by kernel_rfl) (OpenFs.cons rfl rfl (openStr (by kernel_rfl) : OpenK Tryd.prog 9 kStr) (OpenFs.cons rfl rfl (openStr (by kernel_rfl) : OpenK Tryd.prog 9 kStr) (OpenFs.cons rfl rfl (openBool (by kernel_rfl) : OpenK Tryd.prog 4 kBool) (OpenFs.cons rfl rfl (openInt (by kernel_rfl) : OpenK Tryd.prog 3 (kInt .i64)) OpenFs.nil))))
structure TaintSort where
  xkey : ByteArray
  xeffect : Int
  deriving Inhabited, DecidableEq
def kTaintSort : Kd TaintSort := Kd.iso (Kd.pair kStr (Kd.pair (kInt .i64) Kd.unit)) (fun x => (x.xkey, x.xeffect, ()))
theorem kTaintSort.open {I : Hp} {x : TaintSort} {cs : List Value} (h : kTaintSort.rep I x cs) : cs = [.string x.xkey, .int .i64 x.xeffect] := by
  obtain ⟨c0, r0, rfl, e0, h⟩ := h
  obtain ⟨c1, r1, rfl, e1, h⟩ := h
  obtain rfl := h
  obtain rfl := e0
  obtain rfl := e1
  exact rfl
theorem kTaintSort.shut {I : Hp} {x : TaintSort} : kTaintSort.rep I x [.string x.xkey, .int .i64 x.xeffect] := ⟨_, _, rfl, rfl, ⟨_, _, rfl, rfl, rfl⟩⟩
instance : TyEqS Tryd.prog 45 := ⟨by kernel_rfl, by kernel_rfl⟩
theorem kTaintSort.eq {x y : TaintSort} {s : St} (m : Nat) {K : Bool → St → Prop} (h : K (decide (x = y)) s) : swp Tryd.prog (Op.equalIn (m + 2) 45 (.agg #[.string x.xkey, .int .i64 x.xeffect]) (.agg #[.string y.xkey, .int .i64 y.xeffect])) s K := by
  refine swp_equal_struct Tryd.underlying45 TyEqS.held ?_
  refine eqF_cons rfl (swp_part1 rfl (swp_part1 rfl (swp_equal_str (d := m + 0) (eqF_if (fun h0 => ?_) (fun h0 => ?_)))))
  rotate_left
  · rw [decide_eq_false (fun e => by subst e; simp at h0)] at h; exact h
  refine eqF_cons rfl (swp_part1 rfl (swp_part1 rfl (swp_equal_int (d := m + 0) (eqF_if (fun h1 => ?_) (fun h1 => ?_)))))
  rotate_left
  · rw [decide_eq_false (fun e => by subst e; simp at h1)] at h; exact h
  refine eqF_nil ?_
  have e : x = y := by cases x; cases y; simp_all
  rw [decide_eq_true e] at h; exact h
theorem kTaintSort.eqL {a0 : ByteArray} {a1 : Int} {b0 : ByteArray} {b1 : Int} {s : St} (m : Nat) {K : Bool → St → Prop} (h : K (decide ((TaintSort.mk a0 a1) = (TaintSort.mk b0 b1))) s) : swp Tryd.prog (Op.equalIn (m + 2) 45 (.agg #[.string a0, .int .i64 a1]) (.agg #[.string b0, .int .i64 b1])) s K := kTaintSort.eq (x := (TaintSort.mk a0 a1)) (y := (TaintSort.mk b0 b1)) m h
theorem openTaintSort : OpenK Tryd.prog 45 kTaintSort := openStruct (g := fun b => ⟨b.1, b.2.1⟩) Tryd.underlying45 (fun _ => rfl) (by kernel_rfl) (OpenFs.cons rfl rfl (openStr (by kernel_rfl) : OpenK Tryd.prog 9 kStr) (OpenFs.cons rfl rfl (openInt (by kernel_rfl) : OpenK Tryd.prog 3 (kInt .i64)) OpenFs.nil))
end Go.Proofs.YtgeidcdelpenjaaDoor
