/- The program's structs: how they lie in memory. -/
import Derived.Test.YtcnbcblihepbmaaGreatDoorO
import Derived.Test.YtcnbcblihepbmaaGreatDoorS15
set_option autoImplicit false
set_option linter.unusedVariables false
namespace Go.Proofs.YtcnbcblihepbmaaGreatDoor
open Go Go.RowKit
attribute [local irreducible] swp Go.Op.equalIn
structure Res where
  CPU : Int
  Mem : Int
  Disk : Int
  deriving Inhabited, DecidableEq
def kRes : Kd Res := Kd.iso (Kd.pair (kInt .i64) (Kd.pair (kInt .i64) (Kd.pair (kInt .i64) Kd.unit))) (fun x => (x.CPU, x.Mem, x.Disk, ()))
theorem kRes.open {I : Hp} {x : Res} {cs : List Value} (h : kRes.rep I x cs) : cs = [.int .i64 x.CPU, .int .i64 x.Mem, .int .i64 x.Disk] := by
  obtain ⟨c0, r0, rfl, e0, h⟩ := h
  obtain ⟨c1, r1, rfl, e1, h⟩ := h
  obtain ⟨c2, r2, rfl, e2, h⟩ := h
  obtain rfl := h
  obtain rfl := e0
  obtain rfl := e1
  obtain rfl := e2
  exact rfl
theorem kRes.shut {I : Hp} {x : Res} : kRes.rep I x [.int .i64 x.CPU, .int .i64 x.Mem, .int .i64 x.Disk] := ⟨_, _, rfl, rfl, ⟨_, _, rfl, rfl, ⟨_, _, rfl, rfl, rfl⟩⟩⟩
instance : TyEqS Tryz.prog 24 := ⟨by kernel_rfl, by kernel_rfl⟩
theorem kRes.eq {x y : Res} {s : St} (m : Nat) {K : Bool → St → Prop} (h : K (decide (x = y)) s) : swp Tryz.prog (Op.equalIn (m + 2) 24 (.agg #[.int .i64 x.CPU, .int .i64 x.Mem, .int .i64 x.Disk]) (.agg #[.int .i64 y.CPU, .int .i64 y.Mem, .int .i64 y.Disk])) s K := by
  refine swp_equal_struct Tryz.underlying24 TyEqS.held ?_
  refine eqF_cons rfl (swp_part1 rfl (swp_part1 rfl (swp_equal_int (d := m + 0) (eqF_if (fun h0 => ?_) (fun h0 => ?_)))))
  rotate_left
  · rw [decide_eq_false (fun e => by subst e; simp at h0)] at h; exact h
  refine eqF_cons rfl (swp_part1 rfl (swp_part1 rfl (swp_equal_int (d := m + 0) (eqF_if (fun h1 => ?_) (fun h1 => ?_)))))
  rotate_left
  · rw [decide_eq_false (fun e => by subst e; simp at h1)] at h; exact h
  refine eqF_cons rfl (swp_part1 rfl (swp_part1 rfl (swp_equal_int (d := m + 0) (eqF_if (fun h2 => ?_) (fun h2 => ?_)))))
  rotate_left
  · rw [decide_eq_false (fun e => by subst e; simp at h2)] at h; exact h
  refine eqF_nil ?_
  have e : x = y := by cases x; cases y; simp_all
  rw [decide_eq_true e] at h; exact h
theorem kRes.eqL {a0 : Int} {a1 : Int} {a2 : Int} {b0 : Int} {b1 : Int} {b2 : Int} {s : St} (m : Nat) {K : Bool → St → Prop} (h : K (decide ((Res.mk a0 a1 a2) = (Res.mk b0 b1 b2))) s) : swp Tryz.prog (Op.equalIn (m + 2) 24 (.agg #[.int .i64 a0, .int .i64 a1, .int .i64 a2]) (.agg #[.int .i64 b0, .int .i64 b1, .int .i64 b2])) s K := kRes.eq (x := (Res.mk a0 a1 a2)) (y := (Res.mk b0 b1 b2)) m h
theorem openRes : OpenK Tryz.prog 24 kRes := openStruct (g := fun b => ⟨b.1, b.2.1, b.2.2.1⟩) Tryz.underlying24 (fun _ => rfl) (by kernel_rfl) (OpenFs.cons rfl rfl (openInt (by kernel_rfl) : OpenK Tryz.prog 3 (kInt .i64)) (OpenFs.cons rfl rfl (openInt (by kernel_rfl) : OpenK Tryz.prog 3 (kInt .i64)) (OpenFs.cons rfl rfl (openInt (by kernel_rfl) : OpenK Tryz.prog 3 (kInt .i64)) OpenFs.nil)))
structure Label where
  Key : ByteArray
  Value : ByteArray
  deriving Inhabited, DecidableEq
def kLabel : Kd Label := Kd.iso (Kd.pair kStr (Kd.pair kStr Kd.unit)) (fun x => (x.Key, x.Value, ()))
theorem kLabel.open {I : Hp} {x : Label} {cs : List Value} (h : kLabel.rep I x cs) : cs = [.string x.Key, .string x.Value] := by
  obtain ⟨c0, r0, rfl, e0, h⟩ := h
  obtain ⟨c1, r1, rfl, e1, h⟩ := h
  obtain rfl := h
  obtain rfl := e0
  obtain rfl := e1
  exact rfl
theorem kLabel.shut {I : Hp} {x : Label} : kLabel.rep I x [.string x.Key, .string x.Value] := ⟨_, _, rfl, rfl, ⟨_, _, rfl, rfl, rfl⟩⟩
instance : TyEqS Tryz.prog 107 := ⟨by kernel_rfl, by kernel_rfl⟩
theorem kLabel.eq {x y : Label} {s : St} (m : Nat) {K : Bool → St → Prop} (h : K (decide (x = y)) s) : swp Tryz.prog (Op.equalIn (m + 2) 107 (.agg #[.string x.Key, .string x.Value]) (.agg #[.string y.Key, .string y.Value])) s K := by
  refine swp_equal_struct Tryz.underlying107 TyEqS.held ?_
  refine eqF_cons rfl (swp_part1 rfl (swp_part1 rfl (swp_equal_str (d := m + 0) (eqF_if (fun h0 => ?_) (fun h0 => ?_)))))
  rotate_left
  · rw [decide_eq_false (fun e => by subst e; simp at h0)] at h; exact h
  refine eqF_cons rfl (swp_part1 rfl (swp_part1 rfl (swp_equal_str (d := m + 0) (eqF_if (fun h1 => ?_) (fun h1 => ?_)))))
  rotate_left
  · rw [decide_eq_false (fun e => by subst e; simp at h1)] at h; exact h
  refine eqF_nil ?_
  have e : x = y := by cases x; cases y; simp_all
  rw [decide_eq_true e] at h; exact h
theorem kLabel.eqL {a0 : ByteArray} {a1 : ByteArray} {b0 : ByteArray} {b1 : ByteArray} {s : St} (m : Nat) {K : Bool → St → Prop} (h : K (decide ((Label.mk a0 a1) = (Label.mk b0 b1))) s) : swp Tryz.prog (Op.equalIn (m + 2) 107 (.agg #[.string a0, .string a1]) (.agg #[.string b0, .string b1])) s K := kLabel.eq (x := (Label.mk a0 a1)) (y := (Label.mk b0 b1)) m h
theorem openLabel : OpenK Tryz.prog 107 kLabel := openStruct (g := fun b => ⟨b.1, b.2.1⟩) Tryz.underlying107 (fun _ => rfl) (by kernel_rfl) (OpenFs.cons rfl rfl (openStr (by kernel_rfl) : OpenK Tryz.prog 9 kStr) (OpenFs.cons rfl rfl (openStr (by kernel_rfl) : OpenK Tryz.prog 9 kStr) OpenFs.nil))
structure Bear where
  Key : ByteArray
  Value : ByteArray
  Any : Bool
  Effect : Int
  deriving Inhabited, DecidableEq
def kBear : Kd Bear := Kd.iso (Kd.pair kStr (Kd.pair kStr (Kd.pair kBool (Kd.pair (kInt .i64) Kd.unit)))) (fun x => (x.Key, x.Value, x.Any, x.Effect, ()))
theorem kBear.open {I : Hp} {x : Bear} {cs : List Value} (h : kBear.rep I x cs) : cs = [.string x.Key, .string x.Value, .bool x.Any, .int .i64 x.Effect] := by
  obtain ⟨c0, r0, rfl, e0, h⟩ := h
  obtain ⟨c1, r1, rfl, e1, h⟩ := h
  obtain ⟨c2, r2, rfl, e2, h⟩ := h
  obtain ⟨c3, r3, rfl, e3, h⟩ := h
  obtain rfl := h
  obtain rfl := e0
  obtain rfl := e1
  obtain rfl := e2
  obtain rfl := e3
  exact rfl
theorem kBear.shut {I : Hp} {x : Bear} : kBear.rep I x [.string x.Key, .string x.Value, .bool x.Any, .int .i64 x.Effect] := ⟨_, _, rfl, rfl, ⟨_, _, rfl, rfl, ⟨_, _, rfl, rfl, ⟨_, _, rfl, rfl, rfl⟩⟩⟩⟩
instance : TyEqS Tryz.prog 88 := ⟨by kernel_rfl, by kernel_rfl⟩
theorem kBear.eq {x y : Bear} {s : St} (m : Nat) {K : Bool → St → Prop} (h : K (decide (x = y)) s) : swp Tryz.prog (Op.equalIn (m + 2) 88 (.agg #[.string x.Key, .string x.Value, .bool x.Any, .int .i64 x.Effect]) (.agg #[.string y.Key, .string y.Value, .bool y.Any, .int .i64 y.Effect])) s K := by
  refine swp_equal_struct Tryz.underlying88 TyEqS.held ?_
  refine eqF_cons rfl (swp_part1 rfl (swp_part1 rfl (swp_equal_str (d := m + 0) (eqF_if (fun h0 => ?_) (fun h0 => ?_)))))
  rotate_left
  · rw [decide_eq_false (fun e => by subst e; simp at h0)] at h; exact h
  refine eqF_cons rfl (swp_part1 rfl (swp_part1 rfl (swp_equal_str (d := m + 0) (eqF_if (fun h1 => ?_) (fun h1 => ?_)))))
  rotate_left
  · rw [decide_eq_false (fun e => by subst e; simp at h1)] at h; exact h
  refine eqF_cons rfl (swp_part1 rfl (swp_part1 rfl (swp_equal_bool' (d := m + 0) (eqF_if (fun h2 => ?_) (fun h2 => ?_)))))
  rotate_left
  · rw [decide_eq_false (fun e => by subst e; simp at h2)] at h; exact h
  refine eqF_cons rfl (swp_part1 rfl (swp_part1 rfl (swp_equal_int (d := m + 0) (eqF_if (fun h3 => ?_) (fun h3 => ?_)))))
  rotate_left
  · rw [decide_eq_false (fun e => by subst e; simp at h3)] at h; exact h
  refine eqF_nil ?_
  have e : x = y := by cases x; cases y; simp_all
  rw [decide_eq_true e] at h; exact h
theorem kBear.eqL {a0 : ByteArray} {a1 : ByteArray} {a2 : Bool} {a3 : Int} {b0 : ByteArray} {b1 : ByteArray} {b2 : Bool} {b3 : Int} {s : St} (m : Nat) {K : Bool → St → Prop} (h : K (decide ((Bear.mk a0 a1 a2 a3) = (Bear.mk b0 b1 b2 b3))) s) : swp Tryz.prog (Op.equalIn (m + 2) 88 (.agg #[.string a0, .string a1, .bool a2, .int .i64 a3]) (.agg #[.string b0, .string b1, .bool b2, .int .i64 b3])) s K := kBear.eq (x := (Bear.mk a0 a1 a2 a3)) (y := (Bear.mk b0 b1 b2 b3)) m h
theorem openBear : OpenK Tryz.prog 88 kBear := openStruct (g := fun b => ⟨b.1, b.2.1, b.2.2.1, b.2.2.2.1⟩) Tryz.underlying88 (fun _ => rfl) (by kernel_rfl) (OpenFs.cons rfl rfl (openStr (by kernel_rfl) : OpenK Tryz.prog 9 kStr) (OpenFs.cons rfl rfl (openStr (by kernel_rfl) : OpenK Tryz.prog 9 kStr) (OpenFs.cons rfl rfl (openBool (by kernel_rfl) : OpenK Tryz.prog 4 kBool) (OpenFs.cons rfl rfl (openInt (by kernel_rfl) : OpenK Tryz.prog 3 (kInt .i64)) OpenFs.nil))))
structure Req where
  Key : ByteArray
  Op : Int
  Values : (List ByteArray)
  deriving Inhabited, DecidableEq
def kReq : Kd Req := Kd.iso (Kd.pair kStr (Kd.pair (kInt .i64) (Kd.pair kStr.slice Kd.unit))) (fun x => (x.Key, x.Op, x.Values, ()))
theorem kReq.open {I : Hp} {x : Req} {cs : List Value} (h : kReq.rep I x cs) : ∃ vValues, cs = [.string x.Key, .int .i64 x.Op, vValues] ∧ Sl kStr I vValues x.Values := by
  obtain ⟨c0, r0, rfl, e0, h⟩ := h
  obtain ⟨c1, r1, rfl, e1, h⟩ := h
  obtain ⟨c2, r2, rfl, e2, h⟩ := h
  obtain rfl := h
  obtain rfl := e0
  obtain rfl := e1
  obtain ⟨w2, rfl, f2⟩ := e2
  exact ⟨_, rfl, f2⟩
theorem kReq.shut {I : Hp} {x : Req} {vValues : Value} (hValues : Sl kStr I vValues x.Values) : kReq.rep I x [.string x.Key, .int .i64 x.Op, vValues] := ⟨_, _, rfl, rfl, ⟨_, _, rfl, rfl, ⟨[vValues], _, rfl, ⟨vValues, rfl, hValues⟩, rfl⟩⟩⟩
theorem openReq : OpenK Tryz.prog 100 kReq := openStruct (g := fun b => ⟨b.1, b.2.1, b.2.2.1⟩) Tryz.underlying100 (fun _ => rfl) (by kernel_rfl) (OpenFs.cons rfl rfl (openStr (by kernel_rfl) : OpenK Tryz.prog 9 kStr) (OpenFs.cons rfl rfl (openInt (by kernel_rfl) : OpenK Tryz.prog 3 (kInt .i64)) (OpenFs.cons rfl rfl (openSlice (openStr (by kernel_rfl) : OpenK Tryz.prog 9 kStr) (by kernel_rfl) (by decide) : OpenK Tryz.prog 31 kStr.slice) OpenFs.nil)))
structure Prefer where
  Reqs : (List Req)
  Weight : Int
  deriving Inhabited, DecidableEq
def kPrefer : Kd Prefer := Kd.iso (Kd.pair kReq.slice (Kd.pair (kInt .i64) Kd.unit)) (fun x => (x.Reqs, x.Weight, ()))
theorem kPrefer.open {I : Hp} {x : Prefer} {cs : List Value} (h : kPrefer.rep I x cs) : ∃ vReqs, cs = [vReqs, .int .i64 x.Weight] ∧ Sl kReq I vReqs x.Reqs := by
  obtain ⟨c0, r0, rfl, e0, h⟩ := h
  obtain ⟨c1, r1, rfl, e1, h⟩ := h
  obtain rfl := h
  obtain ⟨w0, rfl, f0⟩ := e0
  obtain rfl := e1
  exact ⟨_, rfl, f0⟩
theorem kPrefer.shut {I : Hp} {x : Prefer} {vReqs : Value} (hReqs : Sl kReq I vReqs x.Reqs) : kPrefer.rep I x [vReqs, .int .i64 x.Weight] := ⟨[vReqs], _, rfl, ⟨vReqs, rfl, hReqs⟩, ⟨_, _, rfl, rfl, rfl⟩⟩
theorem openPrefer : OpenK Tryz.prog 62 kPrefer := openStruct (g := fun b => ⟨b.1, b.2.1⟩) Tryz.underlying62 (fun _ => rfl) (by kernel_rfl) (OpenFs.cons rfl rfl (openSlice openReq (by kernel_rfl) (by decide) : OpenK Tryz.prog 26 kReq.slice) (OpenFs.cons rfl rfl (openInt (by kernel_rfl) : OpenK Tryz.prog 3 (kInt .i64)) OpenFs.nil))
structure Term where
  Reqs : (List Req)
  Key : ByteArray
  deriving Inhabited, DecidableEq
def kTerm : Kd Term := Kd.iso (Kd.pair kReq.slice (Kd.pair kStr Kd.unit)) (fun x => (x.Reqs, x.Key, ()))
theorem kTerm.open {I : Hp} {x : Term} {cs : List Value} (h : kTerm.rep I x cs) : ∃ vReqs, cs = [vReqs, .string x.Key] ∧ Sl kReq I vReqs x.Reqs := by
  obtain ⟨c0, r0, rfl, e0, h⟩ := h
  obtain ⟨c1, r1, rfl, e1, h⟩ := h
  obtain rfl := h
  obtain ⟨w0, rfl, f0⟩ := e0
  obtain rfl := e1
  exact ⟨_, rfl, f0⟩
theorem kTerm.shut {I : Hp} {x : Term} {vReqs : Value} (hReqs : Sl kReq I vReqs x.Reqs) : kTerm.rep I x [vReqs, .string x.Key] := ⟨[vReqs], _, rfl, ⟨vReqs, rfl, hReqs⟩, ⟨_, _, rfl, rfl, rfl⟩⟩
theorem openTerm : OpenK Tryz.prog 102 kTerm := openStruct (g := fun b => ⟨b.1, b.2.1⟩) Tryz.underlying102 (fun _ => rfl) (by kernel_rfl) (OpenFs.cons rfl rfl (openSlice openReq (by kernel_rfl) (by decide) : OpenK Tryz.prog 26 kReq.slice) (OpenFs.cons rfl rfl (openStr (by kernel_rfl) : OpenK Tryz.prog 9 kStr) OpenFs.nil))
structure Spread where
  Key : ByteArray
  Skew : Int
  Least : Int
  Reqs : (List Req)
  deriving Inhabited, DecidableEq
def kSpread : Kd Spread := Kd.iso (Kd.pair kStr (Kd.pair (kInt .i64) (Kd.pair (kInt .i64) (Kd.pair kReq.slice Kd.unit)))) (fun x => (x.Key, x.Skew, x.Least, x.Reqs, ()))
theorem kSpread.open {I : Hp} {x : Spread} {cs : List Value} (h : kSpread.rep I x cs) : ∃ vReqs, cs = [.string x.Key, .int .i64 x.Skew, .int .i64 x.Least, vReqs] ∧ Sl kReq I vReqs x.Reqs := by
  obtain ⟨c0, r0, rfl, e0, h⟩ := h
  obtain ⟨c1, r1, rfl, e1, h⟩ := h
  obtain ⟨c2, r2, rfl, e2, h⟩ := h
  obtain ⟨c3, r3, rfl, e3, h⟩ := h
  obtain rfl := h
  obtain rfl := e0
  obtain rfl := e1
  obtain rfl := e2
  obtain ⟨w3, rfl, f3⟩ := e3
  exact ⟨_, rfl, f3⟩
theorem kSpread.shut {I : Hp} {x : Spread} {vReqs : Value} (hReqs : Sl kReq I vReqs x.Reqs) : kSpread.rep I x [.string x.Key, .int .i64 x.Skew, .int .i64 x.Least, vReqs] := ⟨_, _, rfl, rfl, ⟨_, _, rfl, rfl, ⟨_, _, rfl, rfl, ⟨[vReqs], _, rfl, ⟨vReqs, rfl, hReqs⟩, rfl⟩⟩⟩⟩
theorem openSpread : OpenK Tryz.prog 66 kSpread := openStruct (g := fun b => ⟨b.1, b.2.1, b.2.2.1, b.2.2.2.1⟩) Tryz.underlying66 (fun _ => rfl) (by kernel_rfl) (OpenFs.cons rfl rfl (openStr (by kernel_rfl) : OpenK Tryz.prog 9 kStr) (OpenFs.cons rfl rfl (openInt (by kernel_rfl) : OpenK Tryz.prog 3 (kInt .i64)) (OpenFs.cons rfl rfl (openInt (by kernel_rfl) : OpenK Tryz.prog 3 (kInt .i64)) (OpenFs.cons rfl rfl (openSlice openReq (by kernel_rfl) (by decide) : OpenK Tryz.prog 26 kReq.slice) OpenFs.nil))))
structure Pod where
  Name : ByteArray
  Priority : Int
  Labels : (List Label)
  Want : Res
  Bears : (List Bear)
  Asks : (List Req)
  Prefers : (List Prefer)
  Ports : (List Int)
  Near : (List Term)
  Apart : (List Term)
  Spreads : (List Spread)
  Claims : (List ByteArray)
  Node : ByteArray
  Hope : ByteArray
  deriving Inhabited, DecidableEq
def kPod : Kd Pod := Kd.iso (Kd.pair kStr (Kd.pair (kInt .i64) (Kd.pair kLabel.slice (Kd.pair kRes (Kd.pair kBear.slice (Kd.pair kReq.slice (Kd.pair kPrefer.slice (Kd.pair (kInt .i64).slice (Kd.pair kTerm.slice (Kd.pair kTerm.slice (Kd.pair kSpread.slice (Kd.pair kStr.slice (Kd.pair kStr (Kd.pair kStr Kd.unit)))))))))))))) (fun x => (x.Name, x.Priority, x.Labels, x.Want, x.Bears, x.Asks, x.Prefers, x.Ports, x.Near, x.Apart, x.Spreads, x.Claims, x.Node, x.Hope, ()))
theorem kPod.open {I : Hp} {x : Pod} {cs : List Value} (h : kPod.rep I x cs) : ∃ vLabels vBears vAsks vPrefers vPorts vNear vApart vSpreads vClaims, cs = [.string x.Name, .int .i64 x.Priority, vLabels, .int .i64 x.Want.CPU, .int .i64 x.Want.Mem, .int .i64 x.Want.Disk, vBears, vAsks, vPrefers, vPorts, vNear, vApart, vSpreads, vClaims, .string x.Node, .string x.Hope] ∧ Sl kLabel I vLabels x.Labels ∧ Sl kBear I vBears x.Bears ∧ Sl kReq I vAsks x.Asks ∧ Sl kPrefer I vPrefers x.Prefers ∧ Sl (kInt .i64) I vPorts x.Ports ∧ Sl kTerm I vNear x.Near ∧ Sl kTerm I vApart x.Apart ∧ Sl kSpread I vSpreads x.Spreads ∧ Sl kStr I vClaims x.Claims := by
  obtain ⟨c0, r0, rfl, e0, h⟩ := h
  obtain ⟨c1, r1, rfl, e1, h⟩ := h
  obtain ⟨c2, r2, rfl, e2, h⟩ := h
  obtain ⟨c3, r3, rfl, e3, h⟩ := h
  obtain ⟨c4, r4, rfl, e4, h⟩ := h
  obtain ⟨c5, r5, rfl, e5, h⟩ := h
  obtain ⟨c6, r6, rfl, e6, h⟩ := h
  obtain ⟨c7, r7, rfl, e7, h⟩ := h
  obtain ⟨c8, r8, rfl, e8, h⟩ := h
  obtain ⟨c9, r9, rfl, e9, h⟩ := h
  obtain ⟨c10, r10, rfl, e10, h⟩ := h
  obtain ⟨c11, r11, rfl, e11, h⟩ := h
  obtain ⟨c12, r12, rfl, e12, h⟩ := h
  obtain ⟨c13, r13, rfl, e13, h⟩ := h
  obtain rfl := h
  obtain rfl := e0
  obtain rfl := e1
  obtain ⟨w2, rfl, f2⟩ := e2
  obtain rfl := kRes.open e3
  obtain ⟨w4, rfl, f4⟩ := e4
  obtain ⟨w5, rfl, f5⟩ := e5
  obtain ⟨w6, rfl, f6⟩ := e6
  obtain ⟨w7, rfl, f7⟩ := e7
  obtain ⟨w8, rfl, f8⟩ := e8
  obtain ⟨w9, rfl, f9⟩ := e9
  obtain ⟨w10, rfl, f10⟩ := e10
  obtain ⟨w11, rfl, f11⟩ := e11
  obtain rfl := e12
  obtain rfl := e13
  exact ⟨_, _, _, _, _, _, _, _, _, rfl, f2, f4, f5, f6, f7, f8, f9, f10, f11⟩
theorem kPod.shut {I : Hp} {x : Pod} {vLabels vBears vAsks vPrefers vPorts vNear vApart vSpreads vClaims : Value} (hLabels : Sl kLabel I vLabels x.Labels) (hBears : Sl kBear I vBears x.Bears) (hAsks : Sl kReq I vAsks x.Asks) (hPrefers : Sl kPrefer I vPrefers x.Prefers) (hPorts : Sl (kInt .i64) I vPorts x.Ports) (hNear : Sl kTerm I vNear x.Near) (hApart : Sl kTerm I vApart x.Apart) (hSpreads : Sl kSpread I vSpreads x.Spreads) (hClaims : Sl kStr I vClaims x.Claims) : kPod.rep I x [.string x.Name, .int .i64 x.Priority, vLabels, .int .i64 x.Want.CPU, .int .i64 x.Want.Mem, .int .i64 x.Want.Disk, vBears, vAsks, vPrefers, vPorts, vNear, vApart, vSpreads, vClaims, .string x.Node, .string x.Hope] := ⟨_, _, rfl, rfl, ⟨_, _, rfl, rfl, ⟨[vLabels], _, rfl, ⟨vLabels, rfl, hLabels⟩, ⟨[.int .i64 x.Want.CPU, .int .i64 x.Want.Mem, .int .i64 x.Want.Disk], _, rfl, ⟨_, _, rfl, rfl, ⟨_, _, rfl, rfl, ⟨_, _, rfl, rfl, rfl⟩⟩⟩, ⟨[vBears], _, rfl, ⟨vBears, rfl, hBears⟩, ⟨[vAsks], _, rfl, ⟨vAsks, rfl, hAsks⟩, ⟨[vPrefers], _, rfl, ⟨vPrefers, rfl, hPrefers⟩, ⟨[vPorts], _, rfl, ⟨vPorts, rfl, hPorts⟩, ⟨[vNear], _, rfl, ⟨vNear, rfl, hNear⟩, ⟨[vApart], _, rfl, ⟨vApart, rfl, hApart⟩, ⟨[vSpreads], _, rfl, ⟨vSpreads, rfl, hSpreads⟩, ⟨[vClaims], _, rfl, ⟨vClaims, rfl, hClaims⟩, ⟨_, _, rfl, rfl, ⟨_, _, rfl, rfl, rfl⟩⟩⟩⟩⟩⟩⟩⟩⟩⟩⟩⟩⟩⟩
theorem openPod : OpenK Tryz.prog 33 kPod := openStruct (g := fun b => ⟨b.1, b.2.1, b.2.2.1, b.2.2.2.1, b.2.2.2.2.1, b.2.2.2.2.2.1, b.2.2.2.2.2.2.1, b.2.2.2.2.2.2.2.1, b.2.2.2.2.2.2.2.2.1, b.2.2.2.2.2.2.2.2.2.1, b.2.2.2.2.2.2.2.2.2.2.1, b.2.2.2.2.2.2.2.2.2.2.2.1, b.2.2.2.2.2.2.2.2.2.2.2.2.1, b.2.2.2.2.2.2.2.2.2.2.2.2.2.1⟩) Tryz.underlying33 (fun _ => rfl) (by kernel_rfl) (OpenFs.cons rfl rfl (openStr (by kernel_rfl) : OpenK Tryz.prog 9 kStr) (OpenFs.cons rfl rfl (openInt (by kernel_rfl) : OpenK Tryz.prog 3 (kInt .i64)) (OpenFs.cons rfl rfl (openSlice openLabel (by kernel_rfl) (by decide) : OpenK Tryz.prog 22 kLabel.slice) (OpenFs.cons rfl rfl openRes (OpenFs.cons rfl rfl (openSlice openBear (by kernel_rfl) (by decide) : OpenK Tryz.prog 25 kBear.slice) (OpenFs.cons rfl rfl (openSlice openReq (by kernel_rfl) (by decide) : OpenK Tryz.prog 26 kReq.slice) (OpenFs.cons rfl rfl (openSlice openPrefer (by kernel_rfl) (by decide) : OpenK Tryz.prog 27 kPrefer.slice) (OpenFs.cons rfl rfl (openSlice (openInt (by kernel_rfl) : OpenK Tryz.prog 3 (kInt .i64)) (by kernel_rfl) (by decide) : OpenK Tryz.prog 28 (kInt .i64).slice) (OpenFs.cons rfl rfl (openSlice openTerm (by kernel_rfl) (by decide) : OpenK Tryz.prog 29 kTerm.slice) (OpenFs.cons rfl rfl (openSlice openTerm (by kernel_rfl) (by decide) : OpenK Tryz.prog 29 kTerm.slice) (OpenFs.cons rfl rfl (openSlice openSpread (by kernel_rfl) (by decide) : OpenK Tryz.prog 30 kSpread.slice) (OpenFs.cons rfl rfl (openSlice (openStr (by kernel_rfl) : OpenK Tryz.prog 9 kStr) (by kernel_rfl) (by decide) : OpenK Tryz.prog 31 kStr.slice) (OpenFs.cons rfl rfl (openStr (by kernel_rfl) : OpenK Tryz.prog 9 kStr) (OpenFs.cons rfl rfl (openStr (by kernel_rfl) : OpenK Tryz.prog 9 kStr) OpenFs.nil))))))))))))))
structure Taint where
  Key : ByteArray
  Value : ByteArray
  Effect : Int
  deriving Inhabited, DecidableEq
def kTaint : Kd Taint := Kd.iso (Kd.pair kStr (Kd.pair kStr (Kd.pair (kInt .i64) Kd.unit))) (fun x => (x.Key, x.Value, x.Effect, ()))
theorem kTaint.open {I : Hp} {x : Taint} {cs : List Value} (h : kTaint.rep I x cs) : cs = [.string x.Key, .string x.Value, .int .i64 x.Effect] := by
  obtain ⟨c0, r0, rfl, e0, h⟩ := h
  obtain ⟨c1, r1, rfl, e1, h⟩ := h
  obtain ⟨c2, r2, rfl, e2, h⟩ := h
  obtain rfl := h
  obtain rfl := e0
  obtain rfl := e1
  obtain rfl := e2
  exact rfl
theorem kTaint.shut {I : Hp} {x : Taint} : kTaint.rep I x [.string x.Key, .string x.Value, .int .i64 x.Effect] := ⟨_, _, rfl, rfl, ⟨_, _, rfl, rfl, ⟨_, _, rfl, rfl, rfl⟩⟩⟩
instance : TyEqS Tryz.prog 77 := ⟨by kernel_rfl, by kernel_rfl⟩
theorem kTaint.eq {x y : Taint} {s : St} (m : Nat) {K : Bool → St → Prop} (h : K (decide (x = y)) s) : swp Tryz.prog (Op.equalIn (m + 2) 77 (.agg #[.string x.Key, .string x.Value, .int .i64 x.Effect]) (.agg #[.string y.Key, .string y.Value, .int .i64 y.Effect])) s K := by
  refine swp_equal_struct Tryz.underlying77 TyEqS.held ?_
  refine eqF_cons rfl (swp_part1 rfl (swp_part1 rfl (swp_equal_str (d := m + 0) (eqF_if (fun h0 => ?_) (fun h0 => ?_)))))
  rotate_left
  · rw [decide_eq_false (fun e => by subst e; simp at h0)] at h; exact h
  refine eqF_cons rfl (swp_part1 rfl (swp_part1 rfl (swp_equal_str (d := m + 0) (eqF_if (fun h1 => ?_) (fun h1 => ?_)))))
  rotate_left
  · rw [decide_eq_false (fun e => by subst e; simp at h1)] at h; exact h
  refine eqF_cons rfl (swp_part1 rfl (swp_part1 rfl (swp_equal_int (d := m + 0) (eqF_if (fun h2 => ?_) (fun h2 => ?_)))))
  rotate_left
  · rw [decide_eq_false (fun e => by subst e; simp at h2)] at h; exact h
  refine eqF_nil ?_
  have e : x = y := by cases x; cases y; simp_all
  rw [decide_eq_true e] at h; exact h
theorem kTaint.eqL {a0 : ByteArray} {a1 : ByteArray} {a2 : Int} {b0 : ByteArray} {b1 : ByteArray} {b2 : Int} {s : St} (m : Nat) {K : Bool → St → Prop} (h : K (decide ((Taint.mk a0 a1 a2) = (Taint.mk b0 b1 b2))) s) : swp Tryz.prog (Op.equalIn (m + 2) 77 (.agg #[.string a0, .string a1, .int .i64 a2]) (.agg #[.string b0, .string b1, .int .i64 b2])) s K := kTaint.eq (x := (Taint.mk a0 a1 a2)) (y := (Taint.mk b0 b1 b2)) m h
theorem openTaint : OpenK Tryz.prog 77 kTaint := openStruct (g := fun b => ⟨b.1, b.2.1, b.2.2.1⟩) Tryz.underlying77 (fun _ => rfl) (by kernel_rfl) (OpenFs.cons rfl rfl (openStr (by kernel_rfl) : OpenK Tryz.prog 9 kStr) (OpenFs.cons rfl rfl (openStr (by kernel_rfl) : OpenK Tryz.prog 9 kStr) (OpenFs.cons rfl rfl (openInt (by kernel_rfl) : OpenK Tryz.prog 3 (kInt .i64)) OpenFs.nil)))
structure Node where
  Name : ByteArray
  Labels : (List Label)
  Taints : (List Taint)
  Off : Bool
  Give : Res
  Pods : Int
  Disks : Int
  deriving Inhabited, DecidableEq
def kNode : Kd Node := Kd.iso (Kd.pair kStr (Kd.pair kLabel.slice (Kd.pair kTaint.slice (Kd.pair kBool (Kd.pair kRes (Kd.pair (kInt .i64) (Kd.pair (kInt .i64) Kd.unit))))))) (fun x => (x.Name, x.Labels, x.Taints, x.Off, x.Give, x.Pods, x.Disks, ()))
theorem kNode.open {I : Hp} {x : Node} {cs : List Value} (h : kNode.rep I x cs) : ∃ vLabels vTaints, cs = [.string x.Name, vLabels, vTaints, .bool x.Off, .int .i64 x.Give.CPU, .int .i64 x.Give.Mem, .int .i64 x.Give.Disk, .int .i64 x.Pods, .int .i64 x.Disks] ∧ Sl kLabel I vLabels x.Labels ∧ Sl kTaint I vTaints x.Taints := by
  obtain ⟨c0, r0, rfl, e0, h⟩ := h
  obtain ⟨c1, r1, rfl, e1, h⟩ := h
  obtain ⟨c2, r2, rfl, e2, h⟩ := h
  obtain ⟨c3, r3, rfl, e3, h⟩ := h
  obtain ⟨c4, r4, rfl, e4, h⟩ := h
  obtain ⟨c5, r5, rfl, e5, h⟩ := h
  obtain ⟨c6, r6, rfl, e6, h⟩ := h
  obtain rfl := h
  obtain rfl := e0
  obtain ⟨w1, rfl, f1⟩ := e1
  obtain ⟨w2, rfl, f2⟩ := e2
  obtain rfl := e3
  obtain rfl := kRes.open e4
  obtain rfl := e5
  obtain rfl := e6
  exact ⟨_, _, rfl, f1, f2⟩
theorem kNode.shut {I : Hp} {x : Node} {vLabels vTaints : Value} (hLabels : Sl kLabel I vLabels x.Labels) (hTaints : Sl kTaint I vTaints x.Taints) : kNode.rep I x [.string x.Name, vLabels, vTaints, .bool x.Off, .int .i64 x.Give.CPU, .int .i64 x.Give.Mem, .int .i64 x.Give.Disk, .int .i64 x.Pods, .int .i64 x.Disks] := ⟨_, _, rfl, rfl, ⟨[vLabels], _, rfl, ⟨vLabels, rfl, hLabels⟩, ⟨[vTaints], _, rfl, ⟨vTaints, rfl, hTaints⟩, ⟨_, _, rfl, rfl, ⟨[.int .i64 x.Give.CPU, .int .i64 x.Give.Mem, .int .i64 x.Give.Disk], _, rfl, ⟨_, _, rfl, rfl, ⟨_, _, rfl, rfl, ⟨_, _, rfl, rfl, rfl⟩⟩⟩, ⟨_, _, rfl, rfl, ⟨_, _, rfl, rfl, rfl⟩⟩⟩⟩⟩⟩⟩
theorem openNode : OpenK Tryz.prog 36 kNode := openStruct (g := fun b => ⟨b.1, b.2.1, b.2.2.1, b.2.2.2.1, b.2.2.2.2.1, b.2.2.2.2.2.1, b.2.2.2.2.2.2.1⟩) Tryz.underlying36 (fun _ => rfl) (by kernel_rfl) (OpenFs.cons rfl rfl (openStr (by kernel_rfl) : OpenK Tryz.prog 9 kStr) (OpenFs.cons rfl rfl (openSlice openLabel (by kernel_rfl) (by decide) : OpenK Tryz.prog 22 kLabel.slice) (OpenFs.cons rfl rfl (openSlice openTaint (by kernel_rfl) (by decide) : OpenK Tryz.prog 34 kTaint.slice) (OpenFs.cons rfl rfl (openBool (by kernel_rfl) : OpenK Tryz.prog 4 kBool) (OpenFs.cons rfl rfl openRes (OpenFs.cons rfl rfl (openInt (by kernel_rfl) : OpenK Tryz.prog 3 (kInt .i64)) (OpenFs.cons rfl rfl (openInt (by kernel_rfl) : OpenK Tryz.prog 3 (kInt .i64)) OpenFs.nil)))))))
structure Info where
  Node : Node
  Names : (List ByteArray)
  Used : Res
  Ports : (List Int)
  Disks : (List ByteArray)
  deriving Inhabited, DecidableEq
def kInfo : Kd Info := Kd.iso (Kd.pair kNode (Kd.pair kStr.slice (Kd.pair kRes (Kd.pair (kInt .i64).slice (Kd.pair kStr.slice Kd.unit))))) (fun x => (x.Node, x.Names, x.Used, x.Ports, x.Disks, ()))
theorem kInfo.open {I : Hp} {x : Info} {cs : List Value} (h : kInfo.rep I x cs) : ∃ vNode_Labels vNode_Taints vNames vPorts vDisks, cs = [.string x.Node.Name, vNode_Labels, vNode_Taints, .bool x.Node.Off, .int .i64 x.Node.Give.CPU, .int .i64 x.Node.Give.Mem, .int .i64 x.Node.Give.Disk, .int .i64 x.Node.Pods, .int .i64 x.Node.Disks, vNames, .int .i64 x.Used.CPU, .int .i64 x.Used.Mem, .int .i64 x.Used.Disk, vPorts, vDisks] ∧ Sl kLabel I vNode_Labels x.Node.Labels ∧ Sl kTaint I vNode_Taints x.Node.Taints ∧ Sl kStr I vNames x.Names ∧ Sl (kInt .i64) I vPorts x.Ports ∧ Sl kStr I vDisks x.Disks := by
  obtain ⟨c0, r0, rfl, e0, h⟩ := h
  obtain ⟨c1, r1, rfl, e1, h⟩ := h
  obtain ⟨c2, r2, rfl, e2, h⟩ := h
  obtain ⟨c3, r3, rfl, e3, h⟩ := h
  obtain ⟨c4, r4, rfl, e4, h⟩ := h
  obtain rfl := h
  obtain ⟨g0_0, g0_1, rfl, f0_0, f0_1⟩ := kNode.open e0
  obtain ⟨w1, rfl, f1⟩ := e1
  obtain rfl := kRes.open e2
  obtain ⟨w3, rfl, f3⟩ := e3
  obtain ⟨w4, rfl, f4⟩ := e4
  exact ⟨_, _, _, _, _, rfl, f0_0, f0_1, f1, f3, f4⟩
theorem kInfo.shut {I : Hp} {x : Info} {vNode_Labels vNode_Taints vNames vPorts vDisks : Value} (hNode_Labels : Sl kLabel I vNode_Labels x.Node.Labels) (hNode_Taints : Sl kTaint I vNode_Taints x.Node.Taints) (hNames : Sl kStr I vNames x.Names) (hPorts : Sl (kInt .i64) I vPorts x.Ports) (hDisks : Sl kStr I vDisks x.Disks) : kInfo.rep I x [.string x.Node.Name, vNode_Labels, vNode_Taints, .bool x.Node.Off, .int .i64 x.Node.Give.CPU, .int .i64 x.Node.Give.Mem, .int .i64 x.Node.Give.Disk, .int .i64 x.Node.Pods, .int .i64 x.Node.Disks, vNames, .int .i64 x.Used.CPU, .int .i64 x.Used.Mem, .int .i64 x.Used.Disk, vPorts, vDisks] := ⟨[.string x.Node.Name, vNode_Labels, vNode_Taints, .bool x.Node.Off, .int .i64 x.Node.Give.CPU, .int .i64 x.Node.Give.Mem, .int .i64 x.Node.Give.Disk, .int .i64 x.Node.Pods, .int .i64 x.Node.Disks], _, rfl, ⟨_, _, rfl, rfl, ⟨[vNode_Labels], _, rfl, ⟨vNode_Labels, rfl, hNode_Labels⟩, ⟨[vNode_Taints], _, rfl, ⟨vNode_Taints, rfl, hNode_Taints⟩, ⟨_, _, rfl, rfl, ⟨[.int .i64 x.Node.Give.CPU, .int .i64 x.Node.Give.Mem, .int .i64 x.Node.Give.Disk], _, rfl, ⟨_, _, rfl, rfl, ⟨_, _, rfl, rfl, ⟨_, _, rfl, rfl, rfl⟩⟩⟩, ⟨_, _, rfl, rfl, ⟨_, _, rfl, rfl, rfl⟩⟩⟩⟩⟩⟩⟩, ⟨[vNames], _, rfl, ⟨vNames, rfl, hNames⟩, ⟨[.int .i64 x.Used.CPU, .int .i64 x.Used.Mem, .int .i64 x.Used.Disk], _, rfl, ⟨_, _, rfl, rfl, ⟨_, _, rfl, rfl, ⟨_, _, rfl, rfl, rfl⟩⟩⟩, ⟨[vPorts], _, rfl, ⟨vPorts, rfl, hPorts⟩, ⟨[vDisks], _, rfl, ⟨vDisks, rfl, hDisks⟩, rfl⟩⟩⟩⟩⟩
theorem openInfo : OpenK Tryz.prog 38 kInfo := openStruct (g := fun b => ⟨b.1, b.2.1, b.2.2.1, b.2.2.2.1, b.2.2.2.2.1⟩) Tryz.underlying38 (fun _ => rfl) (by kernel_rfl) (OpenFs.cons rfl rfl openNode (OpenFs.cons rfl rfl (openSlice (openStr (by kernel_rfl) : OpenK Tryz.prog 9 kStr) (by kernel_rfl) (by decide) : OpenK Tryz.prog 31 kStr.slice) (OpenFs.cons rfl rfl openRes (OpenFs.cons rfl rfl (openSlice (openInt (by kernel_rfl) : OpenK Tryz.prog 3 (kInt .i64)) (by kernel_rfl) (by decide) : OpenK Tryz.prog 28 (kInt .i64).slice) (OpenFs.cons rfl rfl (openSlice (openStr (by kernel_rfl) : OpenK Tryz.prog 9 kStr) (by kernel_rfl) (by decide) : OpenK Tryz.prog 31 kStr.slice) OpenFs.nil)))))
structure FitPair where
  xp : Pod
  xi : Info
  deriving Inhabited, DecidableEq
def kFitPair : Kd FitPair := Kd.iso (Kd.pair kPod (Kd.pair kInfo Kd.unit)) (fun x => (x.xp, x.xi, ()))
theorem kFitPair.open {I : Hp} {x : FitPair} {cs : List Value} (h : kFitPair.rep I x cs) : ∃ vxp_Labels vxp_Bears vxp_Asks vxp_Prefers vxp_Ports vxp_Near vxp_Apart vxp_Spreads vxp_Claims vxi_Node_Labels vxi_Node_Taints vxi_Names vxi_Ports vxi_Disks, cs = [.string x.xp.Name, .int .i64 x.xp.Priority, vxp_Labels, .int .i64 x.xp.Want.CPU, .int .i64 x.xp.Want.Mem, .int .i64 x.xp.Want.Disk, vxp_Bears, vxp_Asks, vxp_Prefers, vxp_Ports, vxp_Near, vxp_Apart, vxp_Spreads, vxp_Claims, .string x.xp.Node, .string x.xp.Hope, .string x.xi.Node.Name, vxi_Node_Labels, vxi_Node_Taints, .bool x.xi.Node.Off, .int .i64 x.xi.Node.Give.CPU, .int .i64 x.xi.Node.Give.Mem, .int .i64 x.xi.Node.Give.Disk, .int .i64 x.xi.Node.Pods, .int .i64 x.xi.Node.Disks, vxi_Names, .int .i64 x.xi.Used.CPU, .int .i64 x.xi.Used.Mem, .int .i64 x.xi.Used.Disk, vxi_Ports, vxi_Disks] ∧ Sl kLabel I vxp_Labels x.xp.Labels ∧ Sl kBear I vxp_Bears x.xp.Bears ∧ Sl kReq I vxp_Asks x.xp.Asks ∧ Sl kPrefer I vxp_Prefers x.xp.Prefers ∧ Sl (kInt .i64) I vxp_Ports x.xp.Ports ∧ Sl kTerm I vxp_Near x.xp.Near ∧ Sl kTerm I vxp_Apart x.xp.Apart ∧ Sl kSpread I vxp_Spreads x.xp.Spreads ∧ Sl kStr I vxp_Claims x.xp.Claims ∧ Sl kLabel I vxi_Node_Labels x.xi.Node.Labels ∧ Sl kTaint I vxi_Node_Taints x.xi.Node.Taints ∧ Sl kStr I vxi_Names x.xi.Names ∧ Sl (kInt .i64) I vxi_Ports x.xi.Ports ∧ Sl kStr I vxi_Disks x.xi.Disks := by
  obtain ⟨c0, r0, rfl, e0, h⟩ := h
  obtain ⟨c1, r1, rfl, e1, h⟩ := h
  obtain rfl := h
  obtain ⟨g0_0, g0_1, g0_2, g0_3, g0_4, g0_5, g0_6, g0_7, g0_8, rfl, f0_0, f0_1, f0_2, f0_3, f0_4, f0_5, f0_6, f0_7, f0_8⟩ := kPod.open e0
  obtain ⟨g1_0, g1_1, g1_2, g1_3, g1_4, rfl, f1_0, f1_1, f1_2, f1_3, f1_4⟩ := kInfo.open e1
  exact ⟨_, _, _, _, _, _, _, _, _, _, _, _, _, _, rfl, f0_0, f0_1, f0_2, f0_3, f0_4, f0_5, f0_6, f0_7, f0_8, f1_0, f1_1, f1_2, f1_3, f1_4⟩
theorem kFitPair.shut {I : Hp} {x : FitPair} {vxp_Labels vxp_Bears vxp_Asks vxp_Prefers vxp_Ports vxp_Near vxp_Apart vxp_Spreads vxp_Claims vxi_Node_Labels vxi_Node_Taints vxi_Names vxi_Ports vxi_Disks : Value} (hxp_Labels : Sl kLabel I vxp_Labels x.xp.Labels) (hxp_Bears : Sl kBear I vxp_Bears x.xp.Bears) (hxp_Asks : Sl kReq I vxp_Asks x.xp.Asks) (hxp_Prefers : Sl kPrefer I vxp_Prefers x.xp.Prefers) (hxp_Ports : Sl (kInt .i64) I vxp_Ports x.xp.Ports) (hxp_Near : Sl kTerm I vxp_Near x.xp.Near) (hxp_Apart : Sl kTerm I vxp_Apart x.xp.Apart) (hxp_Spreads : Sl kSpread I vxp_Spreads x.xp.Spreads) (hxp_Claims : Sl kStr I vxp_Claims x.xp.Claims) (hxi_Node_Labels : Sl kLabel I vxi_Node_Labels x.xi.Node.Labels) (hxi_Node_Taints : Sl kTaint I vxi_Node_Taints x.xi.Node.Taints) (hxi_Names : Sl kStr I vxi_Names x.xi.Names) (hxi_Ports : Sl (kInt .i64) I vxi_Ports x.xi.Ports) (hxi_Disks : Sl kStr I vxi_Disks x.xi.Disks) : kFitPair.rep I x [.string x.xp.Name, .int .i64 x.xp.Priority, vxp_Labels, .int .i64 x.xp.Want.CPU, .int .i64 x.xp.Want.Mem, .int .i64 x.xp.Want.Disk, vxp_Bears, vxp_Asks, vxp_Prefers, vxp_Ports, vxp_Near, vxp_Apart, vxp_Spreads, vxp_Claims, .string x.xp.Node, .string x.xp.Hope, .string x.xi.Node.Name, vxi_Node_Labels, vxi_Node_Taints, .bool x.xi.Node.Off, .int .i64 x.xi.Node.Give.CPU, .int .i64 x.xi.Node.Give.Mem, .int .i64 x.xi.Node.Give.Disk, .int .i64 x.xi.Node.Pods, .int .i64 x.xi.Node.Disks, vxi_Names, .int .i64 x.xi.Used.CPU, .int .i64 x.xi.Used.Mem, .int .i64 x.xi.Used.Disk, vxi_Ports, vxi_Disks] := ⟨[.string x.xp.Name, .int .i64 x.xp.Priority, vxp_Labels, .int .i64 x.xp.Want.CPU, .int .i64 x.xp.Want.Mem, .int .i64 x.xp.Want.Disk, vxp_Bears, vxp_Asks, vxp_Prefers, vxp_Ports, vxp_Near, vxp_Apart, vxp_Spreads, vxp_Claims, .string x.xp.Node, .string x.xp.Hope], _, rfl, ⟨_, _, rfl, rfl, ⟨_, _, rfl, rfl, ⟨[vxp_Labels], _, rfl, ⟨vxp_Labels, rfl, hxp_Labels⟩, ⟨[.int .i64 x.xp.Want.CPU, .int .i64 x.xp.Want.Mem, .int .i64 x.xp.Want.Disk], _, rfl, ⟨_, _, rfl, rfl, ⟨_, _, rfl, rfl, ⟨_, _, rfl, rfl, rfl⟩⟩⟩, ⟨[vxp_Bears], _, rfl, ⟨vxp_Bears, rfl, hxp_Bears⟩, ⟨[vxp_Asks], _, rfl, ⟨vxp_Asks, rfl, hxp_Asks⟩, ⟨[vxp_Prefers], _, rfl, ⟨vxp_Prefers, rfl, hxp_Prefers⟩, ⟨[vxp_Ports], _, rfl, ⟨vxp_Ports, rfl, hxp_Ports⟩, ⟨[vxp_Near], _, rfl, ⟨vxp_Near, rfl, hxp_Near⟩, ⟨[vxp_Apart], _, rfl, ⟨vxp_Apart, rfl, hxp_Apart⟩, ⟨[vxp_Spreads], _, rfl, ⟨vxp_Spreads, rfl, hxp_Spreads⟩, ⟨[vxp_Claims], _, rfl, ⟨vxp_Claims, rfl, hxp_Claims⟩, ⟨_, _, rfl, rfl, ⟨_, _, rfl, rfl, rfl⟩⟩⟩⟩⟩⟩⟩⟩⟩⟩⟩⟩⟩⟩, ⟨[.string x.xi.Node.Name, vxi_Node_Labels, vxi_Node_Taints, .bool x.xi.Node.Off, .int .i64 x.xi.Node.Give.CPU, .int .i64 x.xi.Node.Give.Mem, .int .i64 x.xi.Node.Give.Disk, .int .i64 x.xi.Node.Pods, .int .i64 x.xi.Node.Disks, vxi_Names, .int .i64 x.xi.Used.CPU, .int .i64 x.xi.Used.Mem, .int .i64 x.xi.Used.Disk, vxi_Ports, vxi_Disks], _, rfl, ⟨[.string x.xi.Node.Name, vxi_Node_Labels, vxi_Node_Taints, .bool x.xi.Node.Off, .int .i64 x.xi.Node.Give.CPU, .int .i64 x.xi.Node.Give.Mem, .int .i64 x.xi.Node.Give.Disk, .int .i64 x.xi.Node.Pods, .int .i64 x.xi.Node.Disks], _, rfl, ⟨_, _, rfl, rfl, ⟨[vxi_Node_Labels], _, rfl, ⟨vxi_Node_Labels, rfl, hxi_Node_Labels⟩, ⟨[vxi_Node_Taints], _, rfl, ⟨vxi_Node_Taints, rfl, hxi_Node_Taints⟩, ⟨_, _, rfl, rfl, ⟨[.int .i64 x.xi.Node.Give.CPU, .int .i64 x.xi.Node.Give.Mem, .int .i64 x.xi.Node.Give.Disk], _, rfl, ⟨_, _, rfl, rfl, ⟨_, _, rfl, rfl, ⟨_, _, rfl, rfl, rfl⟩⟩⟩, ⟨_, _, rfl, rfl, ⟨_, _, rfl, rfl, rfl⟩⟩⟩⟩⟩⟩⟩, ⟨[vxi_Names], _, rfl, ⟨vxi_Names, rfl, hxi_Names⟩, ⟨[.int .i64 x.xi.Used.CPU, .int .i64 x.xi.Used.Mem, .int .i64 x.xi.Used.Disk], _, rfl, ⟨_, _, rfl, rfl, ⟨_, _, rfl, rfl, ⟨_, _, rfl, rfl, rfl⟩⟩⟩, ⟨[vxi_Ports], _, rfl, ⟨vxi_Ports, rfl, hxi_Ports⟩, ⟨[vxi_Disks], _, rfl, ⟨vxi_Disks, rfl, hxi_Disks⟩, rfl⟩⟩⟩⟩⟩, rfl⟩⟩
theorem openFitPair : OpenK Tryz.prog 74 kFitPair := openStruct (g := fun b => ⟨b.1, b.2.1⟩) Tryz.underlying74 (fun _ => rfl) (by kernel_rfl) (OpenFs.cons rfl rfl openPod (OpenFs.cons rfl rfl openInfo OpenFs.nil))
structure LabelFound where
  xvalue : ByteArray
  xthere : Bool
  xvalues : (List ByteArray)
  deriving Inhabited, DecidableEq
def kLabelFound : Kd LabelFound := Kd.iso (Kd.pair kStr (Kd.pair kBool (Kd.pair kStr.slice Kd.unit))) (fun x => (x.xvalue, x.xthere, x.xvalues, ()))
theorem kLabelFound.open {I : Hp} {x : LabelFound} {cs : List Value} (h : kLabelFound.rep I x cs) : ∃ vxvalues, cs = [.string x.xvalue, .bool x.xthere, vxvalues] ∧ Sl kStr I vxvalues x.xvalues := by
  obtain ⟨c0, r0, rfl, e0, h⟩ := h
  obtain ⟨c1, r1, rfl, e1, h⟩ := h
  obtain ⟨c2, r2, rfl, e2, h⟩ := h
  obtain rfl := h
  obtain rfl := e0
  obtain rfl := e1
  obtain ⟨w2, rfl, f2⟩ := e2
  exact ⟨_, rfl, f2⟩
theorem kLabelFound.shut {I : Hp} {x : LabelFound} {vxvalues : Value} (hxvalues : Sl kStr I vxvalues x.xvalues) : kLabelFound.rep I x [.string x.xvalue, .bool x.xthere, vxvalues] := ⟨_, _, rfl, rfl, ⟨_, _, rfl, rfl, ⟨[vxvalues], _, rfl, ⟨vxvalues, rfl, hxvalues⟩, rfl⟩⟩⟩
theorem openLabelFound : OpenK Tryz.prog 132 kLabelFound := openStruct (g := fun b => ⟨b.1, b.2.1, b.2.2.1⟩) Tryz.underlying132 (fun _ => rfl) (by kernel_rfl) (OpenFs.cons rfl rfl (openStr (by kernel_rfl) : OpenK Tryz.prog 9 kStr) (OpenFs.cons rfl rfl (openBool (by kernel_rfl) : OpenK Tryz.prog 4 kBool) (OpenFs.cons rfl rfl (openSlice (openStr (by kernel_rfl) : OpenK Tryz.prog 9 kStr) (by kernel_rfl) (by decide) : OpenK Tryz.prog 31 kStr.slice) OpenFs.nil)))
end Go.Proofs.YtcnbcblihepbmaaGreatDoor
