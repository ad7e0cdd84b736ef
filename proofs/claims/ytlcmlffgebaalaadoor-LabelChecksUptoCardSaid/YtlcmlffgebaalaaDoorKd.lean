/- The program's structs: how they lie in memory. -/
import Derived.Test.YtlcmlffgebaalaaDoorO
import Derived.Test.YtlcmlffgebaalaaDoorS15
set_option autoImplicit false
set_option linter.unusedVariables false
namespace Go.Proofs.YtlcmlffgebaalaaDoor
open Go Go.RowKit
attribute [local irreducible] swp Go.Op.equalIn
structure Req where
  Key : ByteArray
  Op : Int
  Values : (List ByteArray)
  deriving Inhabited, DecidableEq
def kReq : Kd Req := Kd.iso (Kd.pair kStr (Kd.pair (kInt .i64) (Kd.pair kStr.slice Kd.unit))) (fun x => (x.Key, x.Op, x.Values, ()))
theorem kReq.open {I : Hp} {x : Req} {cs : List Value} (h : kReq.rep I x cs) : ∃ vValues, cs = [.string x.Key, .int .i64 x.Op, vValues] ∧ Sl kStr I vValues x.Values := by
  obtain ⟨c0, r0, rfl, e0, h⟩ := h
  obtain ⟨c1, r1, rfl, e1, h⟩ := h
  obtain ⟨c2, r2, rfl, e2, h⟩ := h
  obtain rfl := h
  obtain rfl := e0
  obtain rfl := e1
  obtain ⟨w2, rfl, f2⟩ := e2
  exact ⟨_, rfl, f2⟩
theorem kReq.shut {I : Hp} {x : Req} {vValues : Value} (hValues : Sl kStr I vValues x.Values) : kReq.rep I x [.string x.Key, .int .i64 x.Op, vValues] := ⟨_, _, rfl, rfl, ⟨_, _, rfl, rfl, ⟨[vValues], _, rfl, ⟨vValues, rfl, hValues⟩, rfl⟩⟩⟩
theorem openReq : OpenK Tryd.prog 28 kReq := openStruct (g := fun b => ⟨b.1, b.2.1, b.2.2.1⟩) Tryd.underlying28 (fun _ => rfl) (by kernel_rfl) (OpenFs.cons rfl rfl (openStr (by kernel_rfl) : OpenK Tryd.prog 9 kStr) (OpenFs.cons rfl rfl (openInt (by kernel_rfl) : OpenK Tryd.prog 3 (kInt .i64)) (OpenFs.cons rfl rfl (openSlice (openStr (by kernel_rfl) : OpenK Tryd.prog 9 kStr) (by kernel_rfl) (by decide) : OpenK Tryd.prog 23 kStr.slice) OpenFs.nil)))
structure Label where
  Key : ByteArray
  Value : ByteArray
  deriving Inhabited, DecidableEq
def kLabel : Kd Label := Kd.iso (Kd.pair kStr (Kd.pair kStr Kd.unit)) (fun x => (x.Key, x.Value, ()))
theorem kLabel.open {I : Hp} {x : Label} {cs : List Value} (h : kLabel.rep I x cs) : cs = [.string x.Key, .string x.Value] := by
  obtain ⟨c0, r0, rfl, e0, h⟩ := h
  obtain ⟨c1, r1, rfl, e1, h⟩ := h
  obtain rfl := h
  obtain rfl := e0
  obtain rfl := e1
  exact rfl
theorem kLabel.shut {I : Hp} {x : Label} : kLabel.rep I x [.string x.Key, .string x.Value] := ⟨_, _, rfl, rfl, ⟨_, _, rfl, rfl, rfl⟩⟩
instance : TyEqS Tryd.prog 31 := ⟨by kernel_rfl, by kernel_rfl⟩
theorem kLabel.eq {x y : Label} {s : St} (m : Nat) {K : Bool → St → Prop} (h : K (decide (x = y)) s) : swp Tryd.prog (Op.equalIn (m + 2) 31 (.agg #[.string x.Key, .string x.Value]) (.agg #[.string y.Key, .string y.Value])) s K := by
  refine swp_equal_struct Tryd.underlying31 TyEqS.held ?_
  refine eqF_cons rfl (swp_part1 rfl (swp_part1 rfl (swp_equal_str (d := m + 0) (eqF_if (fun h0 => ?_) (fun h0 => ?_)))))
  rotate_left
  · rw [decide_eq_false (fun e => by subst e; simp at h0)] at h; exact h
  refine eqF_cons rfl (swp_part1 rfl (swp_part1 rfl (swp_equal_str (d := m + 0) (eqF_if (fun h1 => ?_) (fun h1 => ?_)))))
  rotate_left
  · rw [decide_eq_false (fun e => by subst e; simp at h1)] at h; exact h
  refine eqF_nil ?_
  have e : x = y := by cases x; cases y; simp_all
  rw [decide_eq_true e] at h; exact h
theorem kLabel.eqL {a0 : ByteArray} {a1 : ByteArray} {b0 : ByteArray} {b1 : ByteArray} {s : St} (m : Nat) {K : Bool → St → Prop} (h : K (decide ((Label.mk a0 a1) = (Label.mk b0 b1))) s) : swp Tryd.prog (Op.equalIn (m + 2) 31 (.agg #[.string a0, .string a1]) (.agg #[.string b0, .string b1])) s K := kLabel.eq (x := (Label.mk a0 a1)) (y := (Label.mk b0 b1)) m h
theorem openLabel : OpenK Tryd.prog 31 kLabel := openStruct (g := fun b => ⟨b.1, b.2.1⟩) Tryd.underlying31 (fun _ => rfl) (by kernel_rfl) (OpenFs.cons rfl rfl (openStr (by kernel_rfl) : OpenK Tryd.prog 9 kStr) (OpenFs.cons rfl rfl (openStr (by kernel_rfl) : OpenK Tryd.prog 9 kStr) OpenFs.nil))
structure LabelFound where
  xvalue : ByteArray
  xthere : Bool
  xvalues : (List ByteArray)
  deriving Inhabited, DecidableEq
def kLabelFound : Kd LabelFound := Kd.iso (Kd.pair kStr (Kd.pair kBool (Kd.pair kStr.slice Kd.unit))) (fun x => (x.xvalue, x.xthere, x.xvalues, ()))
theorem kLabelFound.open {I : Hp} {x : LabelFound} {cs : List Value} (h : kLabelFound.rep I x cs) : ∃ vxvalues, cs = [.string x.xvalue, .bool x.xthere, vxvalues] ∧ Sl kStr I vxvalues x.xvalues := by
  obtain ⟨c0, r0, rfl, e0, h⟩ := h
  obtain ⟨c1, r1, rfl, e1, h⟩ := h
  obtain ⟨c2, r2, rfl, e2, h⟩ := h
  obtain rfl := h
  obtain rfl := e0
  obtain rfl := e1
  obtain ⟨w2, rfl, f2⟩ := e2
  exact ⟨_, rfl, f2⟩
theorem kLabelFound.shut {I : Hp} {x : LabelFound} {vxvalues : Value} (hxvalues : Sl kStr I vxvalues x.xvalues) : kLabelFound.rep I x [.string x.xvalue, .bool x.xthere, vxvalues] := ⟨_, _, rfl, rfl, ⟨_, _, rfl, rfl, ⟨[vxvalues], _, rfl, ⟨vxvalues, rfl, hxvalues⟩, rfl⟩⟩⟩
theorem openLabelFound : OpenK Tryd.prog 53 kLabelFound := openStruct (g := fun b => ⟨b.1, b.2.1, b.2.2.1⟩) Tryd.underlying53 (fun _ => rfl) (by kernel_rfl) (OpenFs.cons rfl rfl (openStr (by kernel_rfl) : OpenK Tryd.prog 9 kStr) (OpenFs.cons rfl rfl (openBool (by kernel_rfl) : OpenK Tryd.prog 4 kBool) (OpenFs.cons rfl rfl (openSlice (openStr (by kernel_rfl) : OpenK Tryd.prog 9 kStr) (by kernel_rfl) (by decide) : OpenK Tryd.prog 23 kStr.slice) OpenFs.nil)))
end Go.Proofs.YtlcmlffgebaalaaDoor
