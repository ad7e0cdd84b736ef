/- Rules for walks: slices made, cut, written. It holds for every program. -/
import Derived.Test.YtcnbcblihepbmaaGreatDoorS10
set_option autoImplicit false
set_option linter.unusedSimpArgs false
set_option linter.unusedVariables false
namespace Go.Proofs.YtcnbcblihepbmaaGreatDoor
open Go Go.RowKit
/-- The part of a slice. -/
def subV (v : Value) (l h : Nat) (m : Option Nat) (n : Nat) : Value :=
  match v with
  | .slice a len cap => .slice (if m.getD cap = l then a else a.map (·.add (l * n))) (h - l) (m.getD cap - l)
  | v => v
/-- A bound that stands, or does not. -/
abbrev Bnd (ρ : Operand → Value) (o : Option Operand) (d n : Nat) : Prop :=
  match o with
  | none => n = d
  | some x => ∃ k i, ρ x = .int k i ∧ 0 ≤ i ∧ i.toNat = n
section
variable {P : Program} {s : St} {ρ : Operand → Value} {d : Option Tmp} {ty : TypeId} {ps : String} {af : Array Edge} {g : Option (Nat × Bool)} {x y z : Operand} {K : Value → St → Prop} {α : Type} {k : Kd α}
theorem SlR.sub {v : Value} {xs : List α} (hs : SlR k s v xs) {l h : Nat} {m : Option Nat} (h1 : l ≤ h) (h2 : h ≤ xs.length) (h3 : ∀ m', m = some m' → h ≤ m') : SlR k s (subV v l h m k.sz) ((xs.take h).drop l) := by
  obtain ⟨A, c, rfl, e1, e2, e3⟩ := hs
  have hl : ((xs.take h).drop l).length = h - l := by rw [List.length_drop, List.length_take]; omega
  have hm : h ≤ m.getD c := by
    cases m with
    | none => exact Nat.le_trans h2 e1
    | some m' => exact h3 m' rfl
  refine ⟨_, _, by rw [hl]; rfl, by rw [hl]; omega, by rw [hl]; omega, fun hp => ?_⟩
  rw [hl] at hp
  obtain ⟨b, o, arr, e, f, rfl, a2, a3⟩ := e3 (by omega)
  refine ⟨b, o + l * k.sz, arr, e, f, ?_, a2, (a3.take h).drop l⟩
  rw [if_neg (by omega)]
  simp only [Option.map_some, addr_add]
theorem Sl_iff {I : Hp} {v : Value} {xs : List α} : Sl k I v xs ↔ SlR k ⟨I, []⟩ v xs := by
  constructor
  · exact fun h => h.r .rfl
  · rintro ⟨A, c, e0, e1, e2, e3⟩
    refine ⟨A, c, e0, e1, e2, fun hp => ?_⟩
    obtain ⟨b, o, arr, e, f, a1, a2, a3⟩ := e3 hp
    rcases a2 with a2 | a2
    · exact ⟨b, o, arr, e, f, a1, a2, a3⟩
    · simp at a2
theorem Sl.sub {I : Hp} {v : Value} {xs : List α} (hs : Sl k I v xs) {l h : Nat} {m : Option Nat} (h1 : l ≤ h) (h2 : h ≤ xs.length) (h3 : ∀ m', m = some m' → h ≤ m') : Sl k I (subV v l h m k.sz) ((xs.take h).drop l) := Sl_iff.2 ((Sl_iff.1 hs).sub h1 h2 h3)
theorem swp_bound {o : Operand} {dflt n y : Nat} {c : BoundsCode} (h : Bnd ρ (some o) dflt n) (hy : n ≤ y) (K : Nat → St → Prop) : swp P (Instr.sliceBound (ρ o) y c) s K = K n s := by
  obtain ⟨kk, i, h1, h2, h3⟩ := h
  have : 0 ≤ i ∧ i ≤ (y : Int) := ⟨h2, by omega⟩
  simp only [Instr.sliceBound, h1, asIntOf, swp_bind', swp_pure, this, and_self, if_true, h3]
theorem q_slice {t e : TypeId} {bb : Bool} {n : Nat} {zv : Value} [ht : TySlice P t e] [TyV P e bb n zv] {lo hi : Option Operand} {v : Value} {len l h : Nat} (hx : ρ x = v) (hv : SlLen v len) (hl : Bnd ρ lo 0 l) (hh : Bnd ρ hi len h) (h1 : l ≤ h) (h2 : h ≤ len) :
    Quiet P (Oper.mk d (.slice t x lo hi none) ty ps af g) ρ s (subV v l h none n) := by
  intro K hK
  obtain ⟨A, c, rfl, e1, _⟩ := hv
  simp only [opS, execOp, hx, Instr.sliceAt, Instr.slice, swp_bind', swp_underlying ht.und, Option.map_none, Instr.sliceBounds]
  have step : ∀ K' : Nat × Nat × Nat → St → Prop, K' (l, h, c) s → swp P (Instr.sliceBounds true len c (lo.map ρ) (hi.map ρ) none) s K' := by
    intro K' hk'
    cases lo with
    | none => cases hi with
      | none =>
        obtain rfl : l = 0 := hl
        obtain rfl : h = len := hh
        exact hk'
      | some o =>
        obtain rfl : l = 0 := hl
        simp only [Instr.sliceBounds, Option.map_some, Option.map_none, swp_bind', swp_pure, swp_bound hh (show h ≤ c by omega)]
        exact hk'
    | some o' => cases hi with
      | none =>
        obtain rfl : h = len := hh
        simp only [Instr.sliceBounds, Option.map_some, Option.map_none, swp_bind', swp_pure, Option.isSome_none, Bool.false_eq_true, if_false, swp_bound hl h1]
        exact hk'
      | some o =>
        simp only [Instr.sliceBounds, Option.map_some, Option.map_none, swp_bind', swp_pure, Option.isSome_none, Bool.false_eq_true, if_false, swp_bound hh (show h ≤ c by omega), swp_bound hl h1]
        exact hk'
  refine step _ ?_
  simp only [swp_bind', swp_sizeOf, swp_pure, nextS]
  exact hK
/-- A full slice expression. -/
theorem q_slice3 {t e : TypeId} {bb : Bool} {n : Nat} {zv : Value} [ht : TySlice P t e] [TyV P e bb n zv] {lo : Option Operand} {ohi omx : Operand} {v : Value} {len l h m : Nat} (hx : ρ x = v) (hv : SlLen v len) (hl : Bnd ρ lo 0 l) (hh : Bnd ρ (some ohi) len h) (hm : Bnd ρ (some omx) len m) (h1 : l ≤ h) (h2 : h ≤ m) (h3 : m ≤ len) :
    Quiet P (Oper.mk d (.slice t x lo (some ohi) (some omx)) ty ps af g) ρ s (subV v l h (some m) n) := by
  intro K hK
  obtain ⟨A, c, rfl, e1, _⟩ := hv
  simp only [opS, execOp, hx, Instr.sliceAt, Instr.slice, swp_bind', swp_underlying ht.und, Option.map_some]
  have step : ∀ K' : Nat × Nat × Nat → St → Prop, K' (l, h, m) s → swp P (Instr.sliceBounds true len c (lo.map ρ) (some (ρ ohi)) (some (ρ omx))) s K' := by
    intro K' hk'
    cases lo with
    | none =>
      obtain rfl : l = 0 := hl
      simp only [Instr.sliceBounds, Option.map_none, swp_bind', swp_pure, swp_bound hm (show m ≤ c by omega), swp_bound hh h2]
      exact hk'
    | some o' =>
      simp only [Instr.sliceBounds, Option.map_some, swp_bind', swp_pure, Option.isSome_some, if_true, swp_bound hm (show m ≤ c by omega), swp_bound hh h2, swp_bound hl h1]
      exact hk'
  refine step _ ?_
  simp only [swp_bind', swp_sizeOf, swp_pure, nextS]
  exact hK
/-- Elements that are made: all alike. -/
theorem Rows.zeros {I : Hp} {z : α} {zv : Value} (hr : k.rep I z zv.cells.toList) (n : Nat) (hk : 0 < k.sz) : Rows k I ((Array.range (n * k.sz)).map (fun i => zv.cells[i % zv.cells.size]!)) 0 (List.replicate n z) := by
  intro j x hx
  have hlen := k.len hr
  rw [Array.length_toList] at hlen
  have hj : j < n := by have := (List.getElem?_eq_some_iff.1 hx).1; simpa using this
  have hxe : x = z := by simp [hj] at hx; exact hx.symm
  subst hxe
  refine ⟨_, hr, fun i hi => ?_⟩
  have hlt : j * k.sz + i < n * k.sz := Nat.lt_of_lt_of_le (by rw [Nat.succ_mul]; omega : j * k.sz + i < (j + 1) * k.sz) (Nat.mul_le_mul_right _ hj)
  have hi2 : i < zv.cells.size := by omega
  rw [Array.getElem?_map, Nat.zero_add, Array.getElem?_range]
  simp only [hlt, if_true, Option.map_some, hlen, Array.getElem?_toList]
  rw [Nat.add_comm, Nat.add_mul_mod_self_right, Nat.mod_eq_of_lt hi, Array.getElem?_eq_getElem hi2, getElem!_pos zv.cells i hi2]
theorem opsR_makeSlice {ops : Array Oper} {rest : List Oper} {Q : Exit → Act → St → Prop} {a : Act} {t e : TypeId} {bb : Bool} {n by_ : Nat} {zv : Value} [ht : TySlice P t e] [TyV P e bb n zv] [hby : TyBytes P e by_] {len cap : Nat}
    (k : Kd α) (w : α) (hg : Region.wanted (Oper.mk d (.makeSlice t x y) ty ps af g) (yielded ops a.tmps) = true) (hx : a.eval x = .int .i64 len) (hy : a.eval y = .int .i64 cap) (hz : zv.cells.size = n) (hn : 0 < n) (hb1 : by_ ≤ 65536) (hk : k.sz = n)
    (hr : k.rep s.I w zv.cells.toList) (hle : len ≤ cap) (hc : cap ≤ 1073741824)
    (h : ∀ v hs, OwnS k e s.I v hs (List.replicate len w) → OpsR P ops rest Q (a.put d v) ⟨s.I, hs ++ s.cs⟩) : OpsR P ops (Oper.mk d (.makeSlice t x y) ty ps af g :: rest) Q a s := by
  subst hk
  refine opsR_o hg ?_
  obtain ⟨inf, hi1, hi2⟩ := Option.map_eq_some_iff.1 hby.bytes
  have w1 : IntKind.i64.wrap (len : Int) = len := wrap_i64_id (by omega) (by omega)
  have w2 : IntKind.i64.wrap (cap : Int) = cap := wrap_i64_id (by omega) (by omega)
  have hprod : inf.bytes * cap ≤ 65536 * 1073741824 := Nat.mul_le_mul (by omega) hc
  have t1 : ¬ ((inf.bytes : Int) * (cap : Int) > 2 ^ 48) := by
    rw [← Int.natCast_mul]; omega
  have hnot : ((decide ((cap : Int) < 0) || decide ((inf.bytes : Int) * (cap : Int) > 2 ^ 48)) || decide ((len : Int) < 0) || decide ((len : Int) > (cap : Int))) = false := by
    simp only [Bool.or_eq_false_iff, decide_eq_false_iff_not]
    exact ⟨⟨⟨by omega, t1⟩, by omega⟩, by omega⟩
  have hmark : ∀ (n : Nat) (K : Unit → St → Prop) (s : St), K () s → swp P (askRoom n) s K := by
    intro n K s hK; unfold askRoom; split <;> exact hK
  simp only [opS, execOp, Instr.makeSlice, hx, hy, asInt, asIntOf, swp_bind', swp_underlying ht.und, swp_typeInfo hi1, swp_pure, w1, w2]
  simp only [hnot, Bool.false_eq_true, if_false, Int.toNat_natCast]
  rw [swp_bind']
  refine hmark _ _ _ ?_
  rw [swp_bind', swp_sizeOf]
  have fin : ∀ (b : Nat) (zero : Array Value), (cap * k.sz ≠ 0 → zero = zv.cells) →
      OpsR P ops rest Q (a.put d (.slice (some ⟨b, 0, none⟩) len cap)) ⟨s.I, (b, .cells ((Array.range (cap * k.sz)).map (fun i => zero[i % zero.size]!)) e (0, 0)) :: s.cs⟩ := by
    intro b zero hzero
    have harr : (Array.range (cap * k.sz)).map (fun i => zero[i % zero.size]!) = (Array.range (cap * k.sz)).map (fun i => zv.cells[i % zv.cells.size]!) := by
      by_cases hc0 : cap * k.sz = 0
      · have e0 : Array.range 0 = #[] := rfl
        rw [hc0, e0]; simp
      · rw [hzero hc0]
    rw [harr]
    refine h _ [(b, .cells ((Array.range (cap * k.sz)).map (fun i => zv.cells[i % zv.cells.size]!)) e (0, 0))] ⟨by simp; omega, .inr ⟨b, cap, _, by simp, rfl, by simp; omega, by simp, ?_⟩⟩
    have := Rows.zeros hr cap hn
    have h2 := this.take len
    rwa [List.take_replicate, Nat.min_eq_left hle] at h2
  split
  · rename_i hc0
    simp only [swp_pure, newRow, newObj, swp_bind', swp, nextS]
    exact fun b _ => fin b #[] (fun hne => absurd hc0 hne)
  · simp only [swp_bind', swp_zeroValue, swp_pure, newRow, newObj, swp, nextS]
    exact fun b _ => fin b zv.cells (fun _ => rfl)
theorem Rows.set {I : Hp} {arr : Array Value} {xs : List α} (h : Rows k I arr 0 xs) {j : Nat} {w : α} {l : List Value} (hr : k.rep I w l) (hb : j * k.sz + k.sz ≤ arr.size) : Rows k I (wr arr (j * k.sz) l) 0 (xs.set j w) := by
  intro i x hx
  have hl := k.len hr
  rw [List.getElem?_set] at hx
  by_cases e : j = i
  · subst e
    rw [if_pos rfl] at hx
    split at hx
    · cases hx
      refine ⟨l, hr, fun m hm => ?_⟩
      rw [wr_get _ _ _ _ (by rw [hl]; exact hb), if_pos (by omega)]
      congr 1; omega
    · cases hx
  · rw [if_neg e] at hx
    obtain ⟨cs, h1, h2⟩ := h i x hx
    refine ⟨cs, h1, fun m hm => ?_⟩
    rw [wr_get _ _ _ _ (by rw [hl]; exact hb), if_neg, h2 m hm]
    rintro ⟨a1, a2⟩
    rw [hl] at a2
    rcases Nat.lt_or_gt_of_ne e with h3 | h3
    · have h4 : (j + 1) * k.sz ≤ i * k.sz := Nat.mul_le_mul_right _ h3
      rw [Nat.succ_mul] at h4; omega
    · have h4 : (i + 1) * k.sz ≤ j * k.sz := Nat.mul_le_mul_right _ h3
      rw [Nat.succ_mul] at h4; omega
/-- An element of an own slice is written. -/
theorem opsR_storeO {ops : Array Oper} {rest : List Oper} {Q : Exit → Act → St → Prop} {a : Act} {t e : TypeId} {bb : Bool} {n : Nat} {zv : Value} [TyV P t bb n zv] {A B hs : List (Nat × Obj)} {I : Hp} {v u : Value} {xs : List α} {b o j : Nat} {w : α}
    (hg : Region.wanted (Oper.mk d (.store t x y) ty ps af g) (yielded ops a.tmps) = true) (hx : a.eval x = .pointer (some ⟨b, o, none⟩)) (hy : a.eval y = u) (hat : SlAt v k.sz j b o) (hv : OwnS k e I v hs xs) (hs_ : s = ⟨I, A ++ (hs ++ B)⟩) (hk : k.sz = n) (hr : k.rep I w u.cells.toList)
    (h : ∀ hs', OwnS k e I v hs' (xs.set j w) → OpsR P ops rest Q (a.put d undef) ⟨I, A ++ (hs' ++ B)⟩) : OpsR P ops (Oper.mk d (.store t x y) ty ps af g :: rest) Q a s := by
  subst hk
  obtain ⟨b', o', len, cap, e0, e1, rfl, rfl⟩ := hat
  obtain ⟨h1, h2⟩ := hv
  have hl := k.len hr
  rw [Array.length_toList] at hl
  rcases h2 with ⟨A', e2, _, rfl⟩ | ⟨bl, cap', arr, e2, rfl, a3, a4, a5⟩
  · rw [e2] at e0; cases e0; omega
  · rw [e2] at e0
    simp only [Value.slice.injEq, Option.some.injEq, Addr.mk.injEq, and_true] at e0
    obtain ⟨⟨rfl, rfl⟩, rfl, rfl⟩ := e0
    have hb2 : j * k.sz + k.sz ≤ arr.size := by
      rw [a4]
      have : (j + 1) * k.sz ≤ cap' * k.sz := Nat.mul_le_mul_right _ (by omega)
      rwa [Nat.succ_mul] at this
    rw [Nat.zero_add] at hx
    refine opsR_o hg (o_store hx hy (i := A.length) (e := e) (c := arr) (by rw [hs_]; exact get_mid) hl (k.one hr) hb2 ?_)
    rw [hs_]
    simp only [set_mid]
    refine h [(bl, .cells (wr arr (j * k.sz) u.cells.toList) e (0, 0))] ⟨by rw [List.length_set]; exact h1, .inr ⟨bl, cap', _, by rw [List.length_set]; exact e2, rfl, by rw [List.length_set]; exact a3, by rw [wr_size]; exact a4, a5.set hr hb2⟩⟩
/-- Parts one behind the other. -/
def RepL (k : Kd α) (I : Hp) : List α → List Value → Prop
  | [], [] => True
  | w :: ws, u :: us => k.rep I w u.cells.toList ∧ RepL k I ws us
  | _, _ => False
def partsOf : Nat → List Value → List (Nat × Value)
  | _, [] => []
  | i, u :: us => (i, u) :: partsOf (i + 1) us
theorem fill_rows {I : Hp} (hz : 0 < k.sz) : ∀ (ws : List α) (us : List Value) (i : Nat) (c : Array Value), RepL k I ws us → (i + us.length) * k.sz ≤ c.size →
    ∃ c', fillW (fun i => some (i * k.sz, k.sz)) c (partsOf i us) = some c' ∧ c'.size = c.size ∧ (∀ m, m < i * k.sz → c'[m]? = c[m]?) ∧ Rows k I c' (i * k.sz) ws
  | [], [], i, c, _, _ => ⟨c, rfl, rfl, fun _ _ => rfl, Rows.empty⟩
  | w :: ws, u :: us, i, c, h, hc => by
    obtain ⟨h1, h2⟩ := h
    have hl := k.len h1
    rw [Array.length_toList] at hl
    simp only [List.length_cons] at hc
    have e1 : (i + (us.length + 1)) * k.sz = i * k.sz + k.sz + us.length * k.sz := by rw [← Nat.add_assoc, Nat.succ_mul, Nat.add_mul]; omega
    have hle : i * k.sz + k.sz ≤ c.size := by omega
    obtain ⟨c', a1, a2, a3, a4⟩ := fill_rows hz ws us (i + 1) (wr c (i * k.sz) u.cells.toList) h2 (by rw [wr_size, show i + 1 + us.length = i + (us.length + 1) by omega]; exact hc)
    have hno : (decide (u.cells.size ≠ k.sz) || decide (i * k.sz + u.cells.size > c.size)) = false := by
      rw [hl]; simp; omega
    refine ⟨c', ?_, by rw [a2, wr_size], fun m hm => ?_, ?_⟩
    · simp only [partsOf, fillW, hno, Bool.false_eq_true, if_false]
      exact a1
    · rw [a3 m (by rw [Nat.succ_mul]; omega), wr_get _ _ _ _ (by rw [Array.length_toList, hl]; exact hle), if_neg (by omega)]
    · intro j x hx
      cases j with
      | zero =>
        simp only [List.getElem?_cons_zero, Option.some.injEq] at hx
        subst hx
        refine ⟨_, h1, fun m hm => ?_⟩
        rw [Nat.zero_mul, Nat.add_zero, a3 _ (by rw [Nat.succ_mul]; omega), wr_get _ _ _ _ (by rw [Array.length_toList, hl]; exact hle), if_pos (by rw [Array.length_toList, hl]; omega)]
        congr 1; omega
      | succ j =>
        rw [List.getElem?_cons_succ] at hx
        obtain ⟨cs, b1, b2⟩ := a4 j x hx
        refine ⟨cs, b1, fun m hm => ?_⟩
        rw [← b2 m hm]
        congr 1
        rw [Nat.succ_mul, Nat.succ_mul]; omega
  | [], _ :: _, _, _, h, _ => h.elim
  | _ :: _, [], _, _, h, _ => h.elim
theorem RepL.length {I : Hp} : ∀ {ws : List α} {us : List Value}, RepL k I ws us → us.length = ws.length
  | [], [], _ => rfl
  | _ :: _, _ :: _, h => by simp [RepL.length h.2]
  | [], _ :: _, h => h.elim
  | _ :: _, [], h => h.elim
/-- A slice literal. -/
theorem opsR_sliceN {ops : Array Oper} {rest : List Oper} {Q : Exit → Act → St → Prop} {a : Act} {t e : TypeId} {bb : Bool} {n len : Nat} {zv : Value} [ht : TySlice P t e] [TyV P e bb n zv] {parts : Array (Nat × Operand)}
    (k : Kd α) (ws : List α) (us : List Value) (hg : Region.wanted (Oper.mk d (.buildSlice t len parts) ty ps af g) (yielded ops a.tmps) = true) (hp : (parts.toList.map fun (i, x) => (i, a.eval x)) = partsOf 0 us) (hlen : len = ws.length) (hz : zv.cells.size = n) (hn : 0 < n) (hm : len * n ≤ 16777216) (hk : k.sz = n) (hr : RepL k s.I ws us)
    (h : ∀ v hs, OwnS k e s.I v hs ws → OpsR P ops rest Q (a.put d v) ⟨s.I, hs ++ s.cs⟩) : OpsR P ops (Oper.mk d (.buildSlice t len parts) ty ps af g :: rest) Q a s := by
  subst hk
  refine opsR_o hg ?_
  have hgt : ¬ (len * k.sz > 2 ^ 24) := by omega
  have key : ∀ c0 : Array Value, c0.size = len * k.sz → ∃ c', fillW (fun i => some (i * k.sz, k.sz)) c0 (partsOf 0 us) = some c' ∧ c'.size = len * k.sz ∧ Rows k s.I c' 0 ws := by
    intro c0 hc0
    obtain ⟨c', a1, a2, _, a4⟩ := fill_rows hn ws us 0 c0 hr (by rw [Nat.zero_add, hr.length, ← hlen, hc0]; exact Nat.le_refl _)
    exact ⟨c', a1, by rw [a2, hc0], by rwa [Nat.zero_mul] at a4⟩
  have hp' : List.map (fun x => (x.fst, a.eval x.snd)) parts.toList = partsOf 0 us := hp
  have fin : ∀ (c' : Array Value) (b : Nat), c'.size = len * k.sz → Rows k s.I c' 0 ws → OpsR P ops rest Q (a.put d (.slice (some ⟨b, 0, none⟩) len len)) ⟨s.I, (b, .cells c' e (0, 0)) :: s.cs⟩ := by
    intro c' b a2 a3
    refine h _ [(b, .cells c' e (0, 0))] ⟨?_, .inr ⟨b, len, c', by rw [hlen], rfl, by omega, a2, a3⟩⟩
    have := Nat.le_mul_of_pos_right len hn
    omega
  simp only [opS, execOp, Instr.buildSlice, swp_bind', swp_underlying ht.und, swp_sizeOf, gt_iff_lt, hgt, if_false, Array.toList_map]
  split
  · rename_i h0
    obtain ⟨c', a1, a2, a3⟩ := key ((Array.range (len * k.sz)).map fun x => (#[] : Array Value)[x % (#[] : Array Value).size]!) (by simp)
    simp only [swp_pure, swp_bind', hp', fill_eq, a1, newRow, newObj, swp, nextS]
    exact fun b _ => fin c' b a2 a3
  · obtain ⟨c', a1, a2, a3⟩ := key ((Array.range (len * k.sz)).map fun x => zv.cells[x % zv.cells.size]!) (by simp)
    simp only [swp_pure, swp_bind', swp_zeroValue, hp', fill_eq, a1, newRow, newObj, swp, nextS]
    exact fun b _ => fin c' b a2 a3
theorem opsR_makeInt {ops : Array Oper} {rest : List Oper} {Q : Exit → Act → St → Prop} {a : Act} {t e : TypeId} {bb : Bool} {n by_ : Nat} {zv : Value} [ht : TySlice P t e] [TyV P e bb n zv] [hby : TyBytes P e by_] {i m : Int}
    (k : Kd α) {w : α} (hg : Region.wanted (Oper.mk d (.makeSlice t x y) ty ps af g) (yielded ops a.tmps) = true) (hx : a.eval x = .int .i64 i) (hy : a.eval y = .int .i64 m) (hz : zv.cells.size = n) (hn : 0 < n) (hb1 : by_ ≤ 65536) (hk : k.sz = n)
    (hr : k.rep s.I w zv.cells.toList) (h0 : 0 ≤ i) (hle : i ≤ m) (hc : m ≤ 1073741824)
    (h : ∀ v hs, OwnS k e s.I v hs (List.replicate i.toNat w) → OpsR P ops rest Q (a.put d v) ⟨s.I, hs ++ s.cs⟩) : OpsR P ops (Oper.mk d (.makeSlice t x y) ty ps af g :: rest) Q a s :=
  opsR_makeSlice (len := i.toNat) (cap := m.toNat) k w hg (by rw [hx, Int.toNat_of_nonneg h0]) (by rw [hy, Int.toNat_of_nonneg (by omega)]) hz hn hb1 hk hr (by omega) (by omega) h
section
variable {ops : Array Oper} {rest : List Oper} {Q : Exit → Act → St → Prop} {a : Act} {t e : TypeId} {bb : Bool} {n : Nat} {zv : Value} [ht : TySlice P t e] [htv : TyV P e bb n zv] {v : Value} {xs : List α} {I : Hp} {l h : Nat}
include ht htv
theorem opsR_cut {lo hi : Option Operand} (hg : Region.wanted (Oper.mk d (.slice t x lo hi none) ty ps af g) (yielded ops a.tmps) = true) (hx : a.eval x = v) (hs : Sl k I v xs) (hl : Bnd a.eval lo 0 l) (hh : Bnd a.eval hi xs.length h) (hk : k.sz = n) (h1 : l ≤ h) (h2 : h ≤ xs.length)
    (hK : ∀ v', Sl k I v' ((xs.take h).drop l) → OpsR P ops rest Q (a.put d v') s) : OpsR P ops (Oper.mk d (.slice t x lo hi none) ty ps af g :: rest) Q a s := by
  subst hk
  exact opsR_q hg (q_slice hx hs.len hl hh h1 h2) (hK _ (hs.sub h1 h2 (fun _ h => by cases h)))
theorem opsR_cutR {lo hi : Option Operand} (hg : Region.wanted (Oper.mk d (.slice t x lo hi none) ty ps af g) (yielded ops a.tmps) = true) (hx : a.eval x = v) (hs : SlR k s v xs) (hl : Bnd a.eval lo 0 l) (hh : Bnd a.eval hi xs.length h) (hk : k.sz = n) (h1 : l ≤ h) (h2 : h ≤ xs.length)
    (hK : ∀ v', SlR k s v' ((xs.take h).drop l) → OpsR P ops rest Q (a.put d v') s) : OpsR P ops (Oper.mk d (.slice t x lo hi none) ty ps af g :: rest) Q a s := by
  subst hk
  exact opsR_q hg (q_slice hx hs.len hl hh h1 h2) (hK _ (hs.sub h1 h2 (fun _ h => by cases h)))
theorem oblE_cut {I0 : Hp} {cs0 : List (Nat × Obj)} {fin : Act → Prop} {lo hi : Option Operand} (hg : Region.wanted (Oper.mk d (.slice t x lo hi none) ty ps af g) (yielded ops a.tmps) = true) (hx : a.eval x = v) (hs : Sl k I v xs) (hl : Bnd a.eval lo 0 l) (hh : Bnd a.eval hi xs.length h) (hk : k.sz = n) (h1 : l ≤ h) (h2 : h ≤ xs.length)
    (hK : ∀ v', Sl k I v' ((xs.take h).drop l) → oblE P ops I0 cs0 fin rest (a.put d v')) : oblE P ops I0 cs0 fin (Oper.mk d (.slice t x lo hi none) ty ps af g :: rest) a := by
  subst hk
  exact oblE_q hg (fun I hI => q_slice hx hs.len hl hh h1 h2) (hK _ (hs.sub h1 h2 (fun _ h => by cases h)))
theorem opsR_cut3 {lo : Option Operand} {ohi omx : Operand} {m : Nat} (hg : Region.wanted (Oper.mk d (.slice t x lo (some ohi) (some omx)) ty ps af g) (yielded ops a.tmps) = true) (hx : a.eval x = v) (hs : Sl k I v xs) (hl : Bnd a.eval lo 0 l) (hh : Bnd a.eval (some ohi) xs.length h) (hm : Bnd a.eval (some omx) xs.length m) (hk : k.sz = n) (h1 : l ≤ h) (h2 : h ≤ m) (h3 : m ≤ xs.length)
    (hK : ∀ v', Sl k I v' ((xs.take h).drop l) → OpsR P ops rest Q (a.put d v') s) : OpsR P ops (Oper.mk d (.slice t x lo (some ohi) (some omx)) ty ps af g :: rest) Q a s := by
  subst hk
  exact opsR_q hg (q_slice3 hx hs.len hl hh hm h1 h2 h3) (hK _ (hs.sub h1 (by omega) (fun _ h => by cases h; omega)))
theorem oblE_cut3 {I0 : Hp} {cs0 : List (Nat × Obj)} {fin : Act → Prop} {lo : Option Operand} {ohi omx : Operand} {m : Nat} (hg : Region.wanted (Oper.mk d (.slice t x lo (some ohi) (some omx)) ty ps af g) (yielded ops a.tmps) = true) (hx : a.eval x = v) (hs : Sl k I v xs) (hl : Bnd a.eval lo 0 l) (hh : Bnd a.eval (some ohi) xs.length h) (hm : Bnd a.eval (some omx) xs.length m) (hk : k.sz = n) (h1 : l ≤ h) (h2 : h ≤ m) (h3 : m ≤ xs.length)
    (hK : ∀ v', Sl k I v' ((xs.take h).drop l) → oblE P ops I0 cs0 fin rest (a.put d v')) : oblE P ops I0 cs0 fin (Oper.mk d (.slice t x lo (some ohi) (some omx)) ty ps af g :: rest) a := by
  subst hk
  exact oblE_q hg (fun I hI => q_slice3 hx hs.len hl hh hm h1 h2 h3) (hK _ (hs.sub h1 (by omega) (fun _ h => by cases h; omega)))
end
theorem getElem!_set_self {β : Type} [Inhabited β] {l : List β} {i : Nat} {w : β} (h : i < l.length) : (l.set i w)[i]! = w := by
  rw [getElem!_pos (l.set i w) i (by simpa using h)]; simp
theorem getElem!_set_ne {β : Type} [Inhabited β] {l : List β} {i j : Nat} {w : β} (h : i ≠ j) : (l.set i w)[j]! = l[j]! := by
  by_cases hj : j < l.length
  · rw [getElem!_pos (l.set i w) j (by simpa using hj), getElem!_pos l j hj, List.getElem_set_ne h]
  · rw [getElem!_neg (l.set i w) j (by simpa using hj), getElem!_neg l j hj]
theorem opsR_stO {ops : Array Oper} {rest : List Oper} {Q : Exit → Act → St → Prop} {a : Act} {t e : TypeId} {bb : Bool} {n : Nat} {zv : Value} [TyV P t bb n zv] {A B hs : List (Nat × Obj)} {v u : Value} {xs : List α} {b o j : Nat} {w : α}
    (hg : Region.wanted (Oper.mk d (.store t x y) ty ps af g) (yielded ops a.tmps) = true) (hx : a.eval x = .pointer (some ⟨b, o, none⟩)) (hy : a.eval y = u) (hat : SlAt v k.sz j b o) (hv : OwnS k e s.I v hs xs) (hsp : Spl hs s.cs A B) (hk : k.sz = n) (hr : k.rep s.I w u.cells.toList)
    (h : ∀ hs', OwnS k e s.I v hs' (xs.set j w) → OpsR P ops rest Q (a.put d undef) ⟨s.I, A ++ (hs' ++ B)⟩) : OpsR P ops (Oper.mk d (.store t x y) ty ps af g :: rest) Q a s :=
  opsR_storeO (A := A) (B := B) hg hx hy hat hv (by rw [← hsp.eq]) hk hr h
end
end Go.Proofs.YtcnbcblihepbmaaGreatDoor
