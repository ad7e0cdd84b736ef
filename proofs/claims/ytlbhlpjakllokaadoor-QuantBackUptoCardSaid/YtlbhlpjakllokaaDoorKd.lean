/- The program's structs: how they lie in memory. -/
import Derived.Test.YtlbhlpjakllokaaDoorO
import Derived.Test.YtlbhlpjakllokaaDoorS15
set_option autoImplicit false
set_option linter.unusedVariables false
namespace Go.Proofs.YtlbhlpjakllokaaDoor
open Go Go.RowKit
structure Res where
  CPU : Int
  Mem : Int
  Disk : Int
  deriving Inhabited, DecidableEq
def kRes : Kd Res := Kd.iso (Kd.pair (kInt .i64) (Kd.pair (kInt .i64) (Kd.pair (kInt .i64) Kd.unit))) (fun x => (x.CPU, x.Mem, x.Disk, ()))
theorem kRes.open {I : Hp} {x : Res} {cs : List Value} (h : kRes.rep I x cs) : cs = [.int .i64 x.CPU, .int .i64 x.Mem, .int .i64 x.Disk] := by
  obtain ⟨c0, r0, rfl, e0, h⟩ := h
  obtain ⟨c1, r1, rfl, e1, h⟩ := h
  obtain ⟨c2, r2, rfl, e2, h⟩ := h
  obtain rfl := h
  obtain rfl := e0
  obtain rfl := e1
  obtain rfl := e2
  exact rfl
theorem kRes.shut {I : Hp} {x : Res} : kRes.rep I x [.int .i64 x.CPU, .int .i64 x.Mem, .int .i64 x.Disk] := ⟨_, _, rfl, rfl, ⟨_, _, rfl, rfl, ⟨_, _, rfl, rfl, rfl⟩⟩⟩
instance : TyEqS Tryd.prog 33 := ⟨by kernel_rfl, by kernel_rfl⟩
theorem kRes.eq {x y : Res} {s : St} (m : Nat) {K : Bool → St → Prop} (h : K (decide (x = y)) s) : swp Tryd.prog (Op.equalIn (m + 2) 33 (.agg #[.int .i64 x.CPU, .int .i64 x.Mem, .int .i64 x.Disk]) (.agg #[.int .i64 y.CPU, .int .i64 y.Mem, .int .i64 y.Disk])) s K := by
  refine swp_equal_struct Tryd.underlying33 TyEqS.held ?_
  refine eqF_cons rfl (swp_part1 rfl (swp_part1 rfl (swp_equal_int (d := m + 0) (eqF_if (fun h0 => ?_) (fun h0 => ?_)))))
  rotate_left
  · rw [decide_eq_false (fun e => by subst e; simp at h0)] at h; exact h
  refine eqF_cons rfl (swp_part1 rfl (swp_part1 rfl (swp_equal_int (d := m + 0) (eqF_if (fun h1 => ?_) (fun h1 => ?_)))))
  rotate_left
  · rw [decide_eq_false (fun e => by subst e; simp at h1)] at h; exact h
  refine eqF_cons rfl (swp_part1 rfl (swp_part1 rfl (swp_equal_int (d := m + 0) (eqF_if (fun h2 => ?_) (fun h2 => ?_)))))
  rotate_left
  · rw [decide_eq_false (fun e => by subst e; simp at h2)] at h; exact h
  refine eqF_nil ?_
  have e : x = y := by cases x; cases y; simp_all
  rw [decide_eq_true e] at h; exact h
theorem kRes.eqL {a0 : Int} {a1 : Int} {a2 : Int} {b0 : Int} {b1 : Int} {b2 : Int} {s : St} (m : Nat) {K : Bool → St → Prop} (h : K (decide ((Res.mk a0 a1 a2) = (Res.mk b0 b1 b2))) s) : swp Tryd.prog (Op.equalIn (m + 2) 33 (.agg #[.int .i64 a0, .int .i64 a1, .int .i64 a2]) (.agg #[.int .i64 b0, .int .i64 b1, .int .i64 b2])) s K := kRes.eq (x := (Res.mk a0 a1 a2)) (y := (Res.mk b0 b1 b2)) m h
theorem openRes : OpenK Tryd.prog 33 kRes := openStruct (g := fun b => ⟨b.1, b.2.1, b.2.2.1⟩) Tryd.underlying33 (fun _ => rfl) (by kernel_rfl) (OpenFs.cons rfl rfl (openInt (by kernel_rfl) : OpenK Tryd.prog 3 (kInt .i64)) (OpenFs.cons rfl rfl (openInt (by kernel_rfl) : OpenK Tryd.prog 3 (kInt .i64)) (OpenFs.cons rfl rfl (openInt (by kernel_rfl) : OpenK Tryd.prog 3 (kInt .i64)) OpenFs.nil)))
end Go.Proofs.YtlbhlpjakllokaaDoor
