/- Rules for walks: iterators over texts; arrays told by their cells. It holds for every program. -/
import Derived.Test.YtcnbcblihepbmaaGreatDoorS16
set_option autoImplicit false
set_option linter.unusedSimpArgs false
set_option linter.unusedVariables false
namespace Go.Proofs.YtcnbcblihepbmaaGreatDoor
open Go Go.RowKit
theorem decode_ascii {s : ByteArray} {i : Nat} (h : i < s.size) (hb : s.data.toList[i]!.toNat < 128) : Utf8.decode s i = (s.data.toList[i]!.toNat, 1) := by
  have e : s.get! (i + 0) = s.data.toList[i]! := by
    rw [getElem!_pos s.data.toList i h]
    show s.data[i + 0]! = _
    rw [Nat.add_zero, getElem!_pos s.data i h]; rfl
  simp only [Utf8.decode, e, if_pos hb]
section
variable {P : Program} {s : St} {ρ : Operand → Value} {d : Option Tmp} {ty : TypeId} {ps : String} {af : Array Edge} {g : Option (Nat × Bool)} {x y z : Operand} {K : Value → St → Prop}
theorem o_range_string {t : TypeId} [ht : TyStr P t] {b : ByteArray} (hx : ρ x = .string b) (h : ∀ bl, s.fresh bl → K (.pointer (some ⟨bl, 0, none⟩)) ⟨s.I, (bl, .stringIter b 0) :: s.cs⟩) : opS P (Oper.mk d (.range t x) ty ps af g) ρ s K := by
  simp only [opS, execOp, hx, Instr.range, swp_bind', swp_underlying ht.und, swp_pure, newObj, swp, nextS]
  exact h
theorem o_next_end {bl i : Nat} {b : ByteArray} {p : Nat} (hx : ρ x = .pointer (some ⟨bl, 0, none⟩)) (hi : AtB bl s.cs i (.stringIter b p)) (hp : b.size ≤ p) (h : K (.tuple #[.bool false]) s) : opS P (Oper.mk d (.next x true) ty ps af g) ρ s K := by
  simp only [opS, execOp, hx, Instr.next, swp_bind', swp_pure, getObj, swp]
  refine ⟨_, hi.has, rfl, ?_⟩
  simp only [if_neg (by omega : ¬ p < b.size), swp_pure, nextS]
  exact h
theorem o_next_ascii {bl i : Nat} {b : ByteArray} {p : Nat} (hx : ρ x = .pointer (some ⟨bl, 0, none⟩)) (hi : AtB bl s.cs i (.stringIter b p)) (hp : p < b.size) (hb : b.data.toList[p]!.toNat < 128)
    (h : K (.tuple #[.bool true, .int .i64 p, .int .i32 b.data.toList[p]!.toNat]) ⟨s.I, s.cs.set i (bl, .stringIter b (p + 1))⟩) : opS P (Oper.mk d (.next x true) ty ps af g) ρ s K := by
  simp only [opS, execOp, hx, Instr.next, swp_bind', swp_pure, getObj, swp]
  refine ⟨_, hi.has, rfl, ?_⟩
  simp only [if_pos hp, decode_ascii hp hb, setObj, swp_bind', swp]
  refine ⟨i, _, hi.at_, rfl, ?_⟩
  simp only [swp_pure, goInt, nextS]
  exact h
theorem o_next_asc {bl i : Nat} {b : ByteArray} {p : Nat} (hx : ρ x = .pointer (some ⟨bl, 0, none⟩)) (hi : AtB bl s.cs i (.stringIter b p)) (hall : ∀ c ∈ b.data.toList, c.toNat < 128)
    (h1 : p < b.size → K (.tuple #[.bool true, .int .i64 p, .int .i32 b.data.toList[p]!.toNat]) ⟨s.I, s.cs.set i (bl, .stringIter b (p + 1))⟩) (h2 : b.size ≤ p → K (.tuple #[.bool false]) s) : opS P (Oper.mk d (.next x true) ty ps af g) ρ s K := by
  by_cases hp : p < b.size
  · exact o_next_ascii hx hi hp (hall _ (mem_get! (l := b.data.toList) hp)) (h1 hp)
  · exact o_next_end hx hi (by omega) (h2 (by omega))
end
section
variable {P : Program} {s : St} {ρ : Operand → Value} {d : Option Tmp} {ty : TypeId} {ps : String} {af : Array Edge} {g : Option (Nat × Bool)} {x : Operand}
theorem q_loadBW {t : TypeId} {n : Nat} {zv : Value} [TyV P t true n zv] {bl i : Nat} {c : Array Value} {e : TypeId} {f : Nat × Nat} (hx : ρ x = .pointer (some ⟨bl, 0, none⟩)) (hb : AtB bl s.cs i (.cells c e f)) (hn : c.size = n) : Quiet P (Oper.mk d (.load t x) ty ps af g) ρ s (.agg c) := by
  have := q_loadN (P := P) (t := t) (d := d) (ty := ty) (ps := ps) (af := af) (g := g) hx hb.has (by omega)
  have e0 : c.extract 0 (0 + n) = c := by rw [Nat.zero_add, ← hn, Array.extract_size]
  rwa [e0] at this
end
theorem str_ok {b : ByteArray} (h : b.size ≤ 1000000) : kStr.ok b := Nat.le_trans h (by decide)
theorem int_ok {n : Int} (h : -1000000000000000000 ≤ n ∧ n ≤ 1000000000000000000) : (kInt .i64).ok n := ⟨Int.le_trans (by decide) h.1, Int.le_trans h.2 (by decide)⟩
theorem size_toList (b : ByteArray) : b.data.toList.length = b.size := rfl
theorem mem_bytes {b : ByteArray} {i : Nat} (h : i < b.size) : b.data.toList[i]! ∈ b.data.toList := mem_get! h
theorem u8_lt (b : UInt8) : b.toNat < 256 := b.toNat_lt
theorem str_empty {b : ByteArray} : (b = ⟨#[]⟩) ↔ b.size = 0 := by
  constructor
  · rintro rfl; rfl
  · intro h
    apply ByteArray.ext
    exact Array.eq_empty_of_size_eq_zero h
theorem extract_toList (b : ByteArray) (l h : Nat) : (b.extract l h).data.toList = (b.data.toList.take h).drop l := by
  rw [ByteArray.data_extract, Array.toList_extract, List.extract_eq_take_drop]
  rw [List.drop_take]
theorem extract_size {b : ByteArray} {l h : Nat} (h1 : l ≤ h) (h2 : h ≤ b.size) : (b.extract l h).size = h - l := by
  have := congrArg List.length (extract_toList b l h)
  rw [size_toList, List.length_drop, List.length_take, size_toList] at this
  omega
theorem str_ext {a b : ByteArray} (h : a.data.toList = b.data.toList) : a = b := ByteArray.ext (Array.toList_inj.1 h)
def strOf (l : List UInt8) : ByteArray := ⟨l.toArray⟩
theorem strOf_toList (l : List UInt8) : (strOf l).data.toList = l := rfl
theorem strOf_data (b : ByteArray) : strOf b.data.toList = b := str_ext rfl
theorem take_get! {l : List UInt8} {i : Nat} (h : i < l.length) : l.take i ++ [l[i]!] = l.take (i + 1) := (take_succ! h).symm
theorem last_split {r : ByteArray} (h : 0 < r.size) : r.data.toList = r.data.toList.take (r.size - 1) ++ [r.data.toList[r.size - 1]!] := by
  rw [take_get! (by rw [size_toList]; omega)]
  rw [List.take_of_length_le (by rw [size_toList]; omega)]
theorem str_pos {b : ByteArray} (h : ¬ b = ⟨#[]⟩) : 0 < b.size := by
  have : ¬ b.size = 0 := fun e => h (str_empty.2 e)
  omega
end Go.Proofs.YtcnbcblihepbmaaGreatDoor
