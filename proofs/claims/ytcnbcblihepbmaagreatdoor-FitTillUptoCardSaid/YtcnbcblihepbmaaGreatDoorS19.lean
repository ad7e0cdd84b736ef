/- Rules for walks: bytes made a text; a number's opposite. It holds for every program. -/
import Derived.Test.YtcnbcblihepbmaaGreatDoorS18
set_option autoImplicit false
set_option linter.unusedSimpArgs false
set_option linter.unusedVariables false
namespace Go.Proofs.YtcnbcblihepbmaaGreatDoor
open Go Go.RowKit
section
variable {P : Program} {s : St} {ρ : Operand → Value} {d : Option Tmp} {ty : TypeId} {ps : String} {af : Array Edge} {g : Option (Nat × Bool)} {x y z : Operand}
theorem swp_forIn_bytes (f : Value → ByteArray → Sem (ForInStep ByteArray)) (hf : ∀ (n : Int) (r : ByteArray), f (.int .u8 n) r = pure (.yield (r.push (UInt8.ofNat n.toNat)))) :
    ∀ (xs : List Int) (s0 : ByteArray) (K : ByteArray → St → Prop), K ⟨s0.data ++ (xs.map fun n => UInt8.ofNat n.toNat).toArray⟩ s → swp P (forIn (xs.map (Value.int .u8)) s0 f) s K
  | [], s0, K, h => by
    simp only [List.map_nil, List.forIn_nil, swp_pure]
    simpa using h
  | n :: r, s0, K, h => by
    simp only [List.map_cons, List.forIn_cons, hf, swp_bind', swp_pure]
    refine swp_forIn_bytes f hf r _ K ?_
    have : (s0.push (UInt8.ofNat n.toNat)).data ++ (r.map fun n => UInt8.ofNat n.toNat).toArray = s0.data ++ ((n :: r).map fun n => UInt8.ofNat n.toNat).toArray := by
      apply Array.ext'
      simp [ByteArray.push]
    rw [this]; exact h
theorem q_conv_slice_string {t1 t2 e : TypeId} [h1 : TySlice P t1 e] [h2 : TyInt P e .u8] [h3 : TyStr P t2] {v : Value} {xs : List Int} (hx : ρ x = v) (hs : SlR (kInt .u8) s v xs) :
    Quiet P (Oper.mk d (.convert t1 t2 x) ty ps af g) ρ s (.string ⟨(xs.map fun n => UInt8.ofNat n.toNat).toArray⟩) := by
  intro K hK
  obtain ⟨A, c, rfl, _, _, h4⟩ := hs
  simp only [opS, execOp, hx, convert, swp_bind', swp_underlying h1.und, swp_underlying h3.und, swp_underlying h2.und, Conv.bytesToString]
  have fin : ∀ (a : Addr) (K' : Array Value → St → Prop), A = some a → K' (xs.map (Value.int .u8)).toArray s → swp P (loadCells a xs.length) s K' := by
    intro a K' ha hk
    by_cases hp : 0 < xs.length
    · obtain ⟨b, o, arr, e', f, hA, hb, hr⟩ := h4 hp
      rw [hA] at ha; cases ha
      have hsz := hr.size (k := kInt .u8) Nat.one_pos hp
      have hsz' : o + xs.length ≤ arr.size := by simpa [kInt] using hsz
      refine swp_loadCellsFrom (a := ⟨b, o, none⟩) rfl hb _ 0 #[] K' (by simpa using hsz') ?_
      have ee : (#[] : Array Value) ++ arr.extract (o + 0) (o + 0 + xs.length) = (xs.map (Value.int .u8)).toArray := by
        rw [Array.empty_append, Nat.add_zero]
        apply Array.ext_getElem?
        intro i
        by_cases hi : i < xs.length
        · obtain ⟨cs, hc1, hc2⟩ := hr i xs[i] (by simp [hi])
          have hc3 := hc2 0 Nat.one_pos
          cases hc1
          have e1 : o + i * (kInt .u8).sz + 0 = o + i := by show o + i * 1 + 0 = o + i; omega
          rw [e1] at hc3
          rw [Array.getElem?_extract, if_pos (by omega), hc3]
          simp [hi]
        · rw [Array.getElem?_eq_none (by simp; omega), Array.getElem?_eq_none (by simp; omega)]
      show K' (#[] ++ arr.extract (o + 0) (o + 0 + xs.length)) s
      rw [ee]; exact hk
    · have : xs = [] := List.eq_nil_of_length_eq_zero (by omega)
      subst this
      exact hk
  cases A with
  | none =>
    have hx0 : xs = [] := by
      cases xs with
      | nil => rfl
      | cons a r => obtain ⟨_, _, _, _, _, hA, _⟩ := h4 (by simp); cases hA
    subst hx0
    exact hK
  | some a =>
    simp only [swp_bind']
    refine fin a _ rfl ?_
    rw [← Array.forIn_toList]
    refine swp_forIn_bytes (P := P) (s := s) _ (fun _ _ => rfl) xs ByteArray.empty _ ?_
    simp only [swp_pure, nextS]
    have : (ByteArray.empty.data ++ (xs.map fun n => UInt8.ofNat n.toNat).toArray) = (xs.map fun n => UInt8.ofNat n.toNat).toArray := Array.empty_append
    rw [this]; exact hK
theorem q_index_array {t e : TypeId} {len n : Nat} {zv : Value} [ht : TyArr P t len e] [TyV P e false n zv] {cs : List Value} {k : IntKind} {i : Int} {v : Value} (hx : ρ x = .agg cs.toArray) (hy : ρ y = .int k i) (h0 : 0 ≤ i) (h1 : i < len) (hn : n = 1) (hv : cs[i.toNat]? = some v) : Quiet P (Oper.mk d (.index t x y) ty ps af g) ρ s v := by
  intro K h
  subst hn
  simp only [opS, execOp, hx, hy, Instr.index, asIntOf, swp_bind', swp_pure, swp_underlying ht.und, h0, h1, and_self, if_true, swp_sizeOf, Nat.mul_one]
  exact swp_part1 (by simpa using hv) h
theorem q_neg {k : IntKind} {n : Int} {ty' : TypeId} (hx : ρ x = .int k n) : Quiet P (Oper.mk d (.unOp .neg ty' x) ty ps af g) ρ s (.int k (k.wrap (0 - n))) := by
  intro K h
  simp [opS, execOp, hx, Op.unary, Op.intArith, swp_bind', swp_pure, nextS]
  simpa using h
end
end Go.Proofs.YtcnbcblihepbmaaGreatDoor
