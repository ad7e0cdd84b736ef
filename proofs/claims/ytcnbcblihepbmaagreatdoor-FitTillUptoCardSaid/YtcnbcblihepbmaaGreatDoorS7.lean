/- Kinds: how data lie in memory; slices that never turn again, slices that the code owns. It holds for every program. -/
import Derived.Test.YtcnbcblihepbmaaGreatDoorS6
set_option autoImplicit false
set_option linter.unusedSimpArgs false
set_option linter.unusedVariables false
namespace Go.Proofs.YtcnbcblihepbmaaGreatDoor
open Go Go.RowKit

/-- How an x stands in cells; whether it fits; how much it holds. -/
structure Kd (α : Type) where
  sz : Nat
  rep : Hp → α → List Value → Prop
  len : ∀ {I : Hp} {x : α} {cs : List Value}, rep I x cs → cs.length = sz
  mono : ∀ {I J : Hp} {x : α} {cs : List Value}, Hp.le I J → rep I x cs → rep J x cs
  one : ∀ {I : Hp} {x : α} {cs : List Value}, rep I x cs → cs.all vOne = true
  ok : α → Prop
  bulk : α → Nat
def kInt (k : IntKind) : Kd Int := ⟨1, fun _ x cs => cs = [.int k x], fun h => by rw [h]; rfl, fun _ h => h, fun h => by rw [h]; rfl, fun x => k.min ≤ x ∧ x ≤ k.max, fun _ => 1⟩
def kBool : Kd Bool := ⟨1, fun _ x cs => cs = [.bool x], fun h => by rw [h]; rfl, fun _ h => h, fun h => by rw [h]; rfl, fun _ => True, fun _ => 1⟩
def kStr : Kd ByteArray := ⟨1, fun _ x cs => cs = [.string x], fun h => by rw [h]; rfl, fun _ h => h, fun h => by rw [h]; rfl, fun x => x.size ≤ maxLen, fun x => x.size + 1⟩
def Kd.pair {α β : Type} (a : Kd α) (b : Kd β) : Kd (α × β) :=
  ⟨a.sz + b.sz, fun I x cs => ∃ c d, cs = c ++ d ∧ a.rep I x.1 c ∧ b.rep I x.2 d, fun ⟨c, d, e, h, k⟩ => by rw [e, List.length_append, a.len h, b.len k], fun hl ⟨c, d, e, h, k⟩ => ⟨c, d, e, a.mono hl h, b.mono hl k⟩,
    fun ⟨c, d, e, h, k⟩ => by rw [e, List.all_append, a.one h, b.one k]; rfl, fun x => a.ok x.1 ∧ b.ok x.2, fun x => a.bulk x.1 + b.bulk x.2⟩
def Kd.unit : Kd Unit := ⟨0, fun _ _ cs => cs = [], fun h => by rw [h]; rfl, fun _ h => h, fun h => by rw [h]; rfl, fun _ => True, fun _ => 0⟩
def Kd.iso {α β : Type} (a : Kd β) (f : α → β) : Kd α := ⟨a.sz, fun I x cs => a.rep I (f x) cs, fun h => a.len h, fun hl h => a.mono hl h, fun h => a.one h, fun x => a.ok (f x), fun x => a.bulk (f x)⟩

/-- The rows of x's lie in arr from place o on. -/
def Rows {α : Type} (k : Kd α) (I : Hp) (arr : Array Value) (o : Nat) (xs : List α) : Prop :=
  ∀ (j : Nat) (x : α), xs[j]? = some x → ∃ cs, k.rep I x cs ∧ ∀ i, i < k.sz → arr[o + j * k.sz + i]? = cs[i]?
theorem Rows.mono {α : Type} {k : Kd α} {I J : Hp} {arr : Array Value} {o : Nat} {xs : List α} (h : Rows k I arr o xs) (hl : Hp.le I J) : Rows k J arr o xs := fun j x hx => by
  obtain ⟨cs, h1, h2⟩ := h j x hx
  exact ⟨cs, k.mono hl h1, h2⟩
/-- A slice that never turns again. -/
def Sl {α : Type} (k : Kd α) (I : Hp) (v : Value) (xs : List α) : Prop :=
  ∃ A c, v = .slice A xs.length c ∧ xs.length ≤ c ∧ xs.length ≤ 9223372036854775807 ∧ (0 < xs.length → ∃ b o arr e f, A = some ⟨b, o, none⟩ ∧ I b = some (.cells arr e f) ∧ Rows k I arr o xs)
theorem Sl.mono {α : Type} {k : Kd α} {I J : Hp} {v : Value} {xs : List α} (hl : Hp.le I J) (h : Sl k I v xs) : Sl k J v xs := by
  obtain ⟨A, c, h1, h2, h3, h4⟩ := h
  refine ⟨A, c, h1, h2, h3, fun hp => ?_⟩
  obtain ⟨b, o, arr, e, f, a1, a2, a3⟩ := h4 hp
  exact ⟨b, o, arr, e, f, a1, hl _ _ a2, a3.mono hl⟩
def Kd.slice {α : Type} (k : Kd α) : Kd (List α) := ⟨1, fun I xs cs => ∃ v, cs = [v] ∧ Sl k I v xs, fun ⟨v, e, _⟩ => by rw [e]; rfl, fun hl ⟨v, e, h⟩ => ⟨v, e, h.mono hl⟩, fun ⟨v, e, A, c, hv, _⟩ => by rw [e, hv]; rfl,
  fun xs => ∀ x ∈ xs, k.ok x, fun xs => (xs.map k.bulk).sum + 1⟩
theorem Sl.nil {α : Type} (k : Kd α) (I : Hp) : Sl k I (.slice none 0 0) [] := ⟨none, 0, rfl, Nat.le_refl _, by simp, fun h => by simp at h⟩
theorem Sl.shape {α : Type} {k : Kd α} {I : Hp} {v : Value} {xs : List α} (h : Sl k I v xs) : ∃ A c, v = .slice A xs.length c ∧ xs.length ≤ c ∧ xs.length ≤ 9223372036854775807 := by
  obtain ⟨A, c, h1, h2, h3, _⟩ := h; exact ⟨A, c, h1, h2, h3⟩

section
variable {P : Program} {s : St} {ρ : Operand → Value} {d : Option Tmp} {ty : TypeId} {ps : String} {af : Array Edge} {g : Option (Nat × Bool)} {x y z : Operand} {K : Value → St → Prop} {α : Type} {k : Kd α}
theorem q_len_sl {t e : TypeId} [ht : TySlice P t e] {I : Hp} {v : Value} {xs : List α} (hs : Sl k I v xs) (hx : ρ x = v) : Quiet P (Oper.mk d (.call { callee := .builtin .len, args := #[x], argTypes := #[t] }) ty ps af g) ρ s (.int .i64 xs.length) := by
  obtain ⟨A, c, h1, _⟩ := hs
  exact q_len_slice (hx.trans h1)
/-- An element's address and what lies there. -/
def slAddr (v : Value) (sz i : Nat) : Addr := match v with | .slice (some a) _ _ => ⟨a.block, a.off + i * sz, none⟩ | _ => default
theorem q_index_sl {t e : TypeId} {b : Bool} {n : Nat} {zv : Value} [ht : TySlice P t e] [TyV P e b n zv] {I : Hp} {v : Value} {xs : List α} {kk : IntKind} {i : Int} (hs : Sl k I v xs) (hx : ρ x = v) (hy : ρ y = .int kk i) (h0 : 0 ≤ i) (h1 : i < xs.length) :
    Quiet P (Oper.mk d (.indexAddr t x y) ty ps af g) ρ s (.pointer (some (slAddr v n i.toNat))) := by
  obtain ⟨A, c, e1, _, _, e4⟩ := hs
  obtain ⟨bl, o, arr, e, f, rfl, _⟩ := e4 (by omega)
  subst e1
  exact q_index_slice hx hy h0 h1
theorem Sl.cell {I : Hp} {v : Value} {xs : List α} (hs : Sl k I v xs) {j : Nat} {w : α} (hj : xs[j]? = some w) :
    ∃ b o arr e f cs, slAddr v k.sz j = ⟨b, o, none⟩ ∧ I b = some (.cells arr e f) ∧ k.rep I w cs ∧ ∀ i, i < k.sz → arr[o + i]? = cs[i]? := by
  obtain ⟨A, c, e1, _, _, e4⟩ := hs
  have hlt : j < xs.length := (List.getElem?_eq_some_iff.1 hj).1
  obtain ⟨b, o, arr, e, f, rfl, h2, h3⟩ := e4 (by omega)
  obtain ⟨cs, h4, h5⟩ := h3 j w hj
  exact ⟨b, o + j * k.sz, arr, e, f, cs, by rw [e1]; rfl, h2, h4, h5⟩
theorem extract_cells {arr : Array Value} {o n : Nat} {cs : List Value} (hl : cs.length = n) (h : ∀ i, i < n → arr[o + i]? = cs[i]?) : o + n ≤ arr.size ∨ n = 0 := by
  by_cases hn : n = 0
  · exact .inr hn
  · have := h (n - 1) (by omega)
    have h2 : cs[n - 1]? ≠ none := by simp; omega
    rw [← this] at h2
    have : o + (n - 1) < arr.size := by
      refine Classical.byContradiction fun hc => h2 ?_
      rw [Array.getElem?_eq_none_iff]; omega
    exact .inl (by omega)
theorem extract_eq {arr : Array Value} {o n : Nat} {cs : List Value} (hl : cs.length = n) (h : ∀ i, i < n → arr[o + i]? = cs[i]?) : arr.extract o (o + n) = cs.toArray := by
  apply Array.ext_getElem?
  intro i
  have e2 : cs.toArray[i]? = cs[i]? := by simp
  rw [e2, Array.getElem?_extract]
  by_cases hi : i < n
  · rcases extract_cells hl h with h1 | h1
    · rw [if_pos (by omega)]; exact h i hi
    · omega
  · rw [if_neg (by omega), List.getElem?_eq_none (by omega)]
/-- A load of an element of several cells: they are told by the kind. -/
theorem q_load_slN {t : TypeId} {n : Nat} {zv : Value} [TyV P t true n zv] {I : Hp} {v : Value} {xs : List α} {j : Nat} {w : α} (hs : Sl k I v xs) (hx : ρ x = .pointer (some (slAddr v n j))) (hn : k.sz = n) (hp : 0 < n) (hj : xs[j]? = some w) :
    ∃ cs, k.rep I w cs ∧ ∀ s : St, Hp.le I s.I → Quiet P (Oper.mk d (.load t x) ty ps af g) ρ s (.agg cs.toArray) := by
  subst hn
  obtain ⟨b, o, arr, e, f, cs, h1, h2, h3, h4⟩ := hs.cell hj
  refine ⟨cs, h3, fun s hl => ?_⟩
  rw [h1] at hx
  rw [← extract_eq (k.len h3) h4]
  rcases extract_cells (k.len h3) h4 with h5 | h5
  · exact q_loadN hx (.inl (hl _ _ h2)) h5
  · omega
theorem q_load_sl1 {t : TypeId} {n : Nat} {zv : Value} [TyV P t false n zv] {I : Hp} {v : Value} {xs : List α} {j : Nat} {w : α} (hs : Sl k I v xs) (hx : ρ x = .pointer (some (slAddr v 1 j))) (hn : k.sz = 1) (hj : xs[j]? = some w) :
    ∃ u, k.rep I w [u] ∧ ∀ s : St, Hp.le I s.I → Quiet P (Oper.mk d (.load t x) ty ps af g) ρ s u := by
  obtain ⟨b, o, arr, e, f, cs, h1, h2, h3, h4⟩ := hs.cell hj
  have hl := k.len h3
  rw [hn] at h1 hl
  obtain ⟨u, rfl⟩ : ∃ u, cs = [u] := by
    match cs, hl with
    | [u], _ => exact ⟨u, rfl⟩
  refine ⟨u, h3, fun s hle => ?_⟩
  rw [h1] at hx
  have := h4 0 (by omega)
  exact q_load1 hx (.inl (hle _ _ h2)) (by simpa using this)
theorem q_load_slInt {t : TypeId} {kk : IntKind} {n : Nat} {zv : Value} [TyV P t false n zv] {I : Hp} {v : Value} {xs : List Int} {j : Nat} {w : Int} (hs : Sl (kInt kk) I v xs) (hx : ρ x = .pointer (some (slAddr v 1 j))) (hj : xs[j]? = some w) (hl : Hp.le I s.I) :
    Quiet P (Oper.mk d (.load t x) ty ps af g) ρ s (.int kk w) := by
  obtain ⟨u, h1, h2⟩ := q_load_sl1 (P := P) (t := t) (d := d) (ty := ty) (ps := ps) (af := af) (g := g) hs hx rfl hj
  cases h1
  exact h2 s hl
theorem q_load_slBool {t : TypeId} {n : Nat} {zv : Value} [TyV P t false n zv] {I : Hp} {v : Value} {xs : List Bool} {j : Nat} {w : Bool} (hs : Sl kBool I v xs) (hx : ρ x = .pointer (some (slAddr v 1 j))) (hj : xs[j]? = some w) (hl : Hp.le I s.I) :
    Quiet P (Oper.mk d (.load t x) ty ps af g) ρ s (.bool w) := by
  obtain ⟨u, h1, h2⟩ := q_load_sl1 (P := P) (t := t) (d := d) (ty := ty) (ps := ps) (af := af) (g := g) hs hx rfl hj
  cases h1
  exact h2 s hl
theorem q_load_slStr {t : TypeId} {n : Nat} {zv : Value} [TyV P t false n zv] {I : Hp} {v : Value} {xs : List ByteArray} {j : Nat} {w : ByteArray} (hs : Sl kStr I v xs) (hx : ρ x = .pointer (some (slAddr v 1 j))) (hj : xs[j]? = some w) (hl : Hp.le I s.I) :
    Quiet P (Oper.mk d (.load t x) ty ps af g) ρ s (.string w) := by
  obtain ⟨u, h1, h2⟩ := q_load_sl1 (P := P) (t := t) (d := d) (ty := ty) (ps := ps) (af := af) (g := g) hs hx rfl hj
  cases h1
  exact h2 s hl
end
end Go.Proofs.YtcnbcblihepbmaaGreatDoor
