/- From the readings of a law's arguments to data that lie in memory. -/
import Derived.Test.YtcnbcblihepbmaaGreatDoorS10
import Derived.Test.YtcnbcblihepbmaaGreatDoorTy
import Derived.Test.YtcnbcblihepbmaaGreatDoorRows
import Derived.Deep.Slices
import Derived.ProofKit
import Derived.OpenShut
import Derived.Carry
set_option autoImplicit false
set_option linter.unusedSimpArgs false
set_option linter.unusedVariables false
namespace Go.Proofs.YtcnbcblihepbmaaGreatDoor
open Go Go.RowKit Go.Deep
abbrev World.hp (w : World) : Hp := fun b => w.heap[b]?
/-- What reads as data of a type lies there so. -/
class OpenK (P : Program) (t : TypeId) {α : Type} (k : outParam (Kd α)) : Prop where
  cells : P.cellsOf t = k.sz
  op : ∀ {H : Type} {enc : TypeId × Value → H} {w : World} {spare : Nat → Bool} {held : Bool} {fuel : Nat} {cs : List Value} {x : DataW H × List MemPlace},
    DataW.trod enc P w 0 spare held fuel t cs = some x → ∃ a, k.rep (World.hp w) a cs ∧ k.ok a ∧ k.bulk a ≤ Rows.uptoBulk x.1
theorem cellsOf_of {P : Program} {t : TypeId} {b : Bool} {n : Nat} {z : Value} [h : TyV P t b n z] : P.cellsOf t = n := by
  have := h.size
  unfold Program.cellsOf
  cases hd : P.info? t with
  | none => simp [hd] at this
  | some d => rw [hd] at this; simpa using this
theorem wf_int {k : IntKind} {n : Int} (h : (Lit.int k n).wf = true) : k.min ≤ n ∧ n ≤ k.max := by simpa [Lit.wf] using h
theorem openInt {P : Program} {t : TypeId} {k : IntKind} [ht : TyInt P t k] (h1 : P.cellsOf t = 1) : OpenK P t (kInt k) := ⟨h1, fun h => by
  obtain ⟨n, rfl, rfl, hw⟩ := DataW.trod_int ht.und h
  exact ⟨n, rfl, wf_int hw, by simp [Rows.uptoBulk, kInt]⟩⟩
theorem openBool {P : Program} {t : TypeId} [ht : TyBool P t] (h1 : P.cellsOf t = 1) : OpenK P t kBool := ⟨h1, fun h => by
  obtain ⟨b, rfl, rfl⟩ := DataW.trod_bool ht.und h
  exact ⟨b, rfl, trivial, by simp [Rows.uptoBulk, kBool]⟩⟩
theorem openStr {P : Program} {t : TypeId} [ht : TyStr P t] (h1 : P.cellsOf t = 1) : OpenK P t kStr := ⟨h1, fun h => by
  obtain ⟨b, rfl, rfl, hw⟩ := DataW.trod_string ht.und h
  exact ⟨b, rfl, hw, by simp only [Rows.uptoBulk, kStr, Array.length_toList]; exact Nat.le_refl _⟩⟩
theorem cell_some {w : World} {a : Addr} {v : Value} (h : w.cell? a = some v) : ∃ c t f, w.heap[a.block]? = some (.cells c t f) ∧ a.spot = none ∧ c[a.off]? = some v := by
  unfold World.cell? at h
  split at h
  · rename_i c t f hb
    split at h
    · cases h
    · rename_i hs
      exact ⟨c, t, f, hb, by simpa using hs, h⟩
  · cases h
theorem bulkAll_map {H : Type} {α : Type} (f : α → Nat) (D : Nat → DataW H) (g : Nat → α) : ∀ (l : List Nat), (∀ i ∈ l, f (g i) ≤ Rows.uptoBulk (D i)) → ((l.map g).map f).sum ≤ Rows.uptoBulkAll (l.map D)
  | [], _ => by simp [Rows.uptoBulkAll]
  | i :: l, h => by
    have h1 := h i (by simp)
    have h2 := bulkAll_map f D g l (fun j hj => h j (by simp [hj]))
    simp only [List.map_cons, List.sum_cons, Rows.uptoBulkAll]
    omega
theorem openSlice {P : Program} {t e : TypeId} {α : Type} {k : Kd α} [Inhabited α] [ht : TySlice P t e] (hk : OpenK P e k) (h1 : P.cellsOf t = 1) (hz : 0 < k.sz) : OpenK P t k.slice := ⟨h1, fun {H enc w spare held fuel cs x} h => by
  rcases open_slice ht.und h with ⟨rfl, rfl⟩ | ⟨a, len, cap, m, n, D, Pl, rfl, hb, hl, hm, hmm, rfl, hx⟩
  · exact ⟨[], ⟨_, rfl, Sl.nil k _⟩, by simp [Kd.slice], by simp [Rows.uptoBulk, Kd.slice]⟩
  · have hle : len ≤ m := by rw [hmm]; split <;> omega
    have hmx : cap ≤ 9223372036854775807 := Nat.le_trans hm (by decide)
    have key : ∀ i, i < len → ∃ u : α, (∃ cs', w.cells? 0 (a.add (i * P.cellsOf e)) (P.cellsOf e) = some cs' ∧ k.rep (World.hp w) u cs') ∧ k.ok u ∧ k.bulk u ≤ Rows.uptoBulk (D i) := by
      intro i hi
      obtain ⟨cs', h2, h3⟩ := hx i (by omega)
      obtain ⟨u, h4, h5, h6⟩ := hk.op h3
      exact ⟨u, ⟨cs', h2, h4⟩, h5, h6⟩
    obtain ⟨g, hg⟩ := choose_lt (α := α) (p := fun i u => (∃ cs', w.cells? 0 (a.add (i * P.cellsOf e)) (P.cellsOf e) = some cs' ∧ k.rep (World.hp w) u cs') ∧ k.ok u ∧ k.bulk u ≤ Rows.uptoBulk (D i)) key
    have hlen : ((List.range len).map g).length = len := by simp
    refine ⟨(List.range len).map g, ⟨_, rfl, some a, cap, by rw [hlen], by rw [hlen]; exact hl, by rw [hlen]; omega, fun hp => ?_⟩, ?_, ?_⟩
    · rw [hlen] at hp
      rw [hk.cells] at hg
      obtain ⟨⟨cs0, hc0, hr0⟩, _⟩ := hg 0 hp
      obtain ⟨_, hl0, hall0⟩ := World.cells?_some hc0
      have hzero := hall0 0 (by omega)
      have hlc := k.len hr0
      obtain ⟨v0, hv0⟩ : ∃ v0, cs0[0]? = some v0 := ⟨cs0[0]'(by omega), by simp⟩
      rw [hv0] at hzero
      have ea : (a.add (0 * k.sz)).add 0 = a := by simp [Addr.add]
      rw [ea] at hzero
      obtain ⟨c, t', f, hb1, hs, _⟩ := cell_some hzero
      obtain ⟨ab, ao, asp⟩ := a
      simp only at hs hb1
      subst hs
      refine ⟨ab, ao, c, t', f, rfl, hb1, fun j u hj => ?_⟩
      have hjl : j < len := by have := (List.getElem?_eq_some_iff.1 hj).1; simpa using this
      have hu : u = g j := by simp [hjl] at hj; exact hj.symm
      subst hu
      obtain ⟨⟨cs', h2, h3⟩, _⟩ := hg j hjl
      refine ⟨cs', h3, fun i hi => ?_⟩
      obtain ⟨_, _, hall⟩ := World.cells?_some h2
      have := hall i hi
      rw [addr_add, addr_add] at this
      rw [← this]
      simp only [World.cell?, hb1, Option.isSome_none, Bool.false_eq_true, if_false]
    · intro u hu
      obtain ⟨i, hi, rfl⟩ := List.mem_map.1 hu
      exact (hg i (by simpa using hi)).2.1
    · have := bulkAll_map k.bulk D g (List.range len) (fun i hi => (hg i (by simpa using hi)).2.2)
      simp only [Kd.slice, Rows.uptoBulk]
      omega⟩
/-- A struct's fields from number j and cell o on. -/
structure OpenFs (P : Program) (fs : Array Field) (j o : Nat) {α : Type} (k : Kd α) : Prop where
  op : ∀ {H : Type} {enc : TypeId × Value → H} {w : World} {spare : Nat → Bool} {held : Bool} {fuel : Nat} {cs : List Value} {xs : List (DataW H × List MemPlace)},
    xs.length = fs.size → (∀ (i : Nat) (f : Field), fs[i]? = some f → DataW.trod enc P w 0 spare held fuel f.type ((cs.drop f.offset).take (P.cellsOf f.type)) = xs[i]?) →
    ∃ a, k.rep (World.hp w) a ((cs.drop o).take k.sz) ∧ k.ok a ∧ k.bulk a ≤ Rows.uptoBulkAll ((xs.drop j).map (·.1))
theorem OpenFs.nil {P : Program} {fs : Array Field} {j o : Nat} : OpenFs P fs j o Kd.unit := ⟨fun _ _ => ⟨(), by simp [Kd.unit], trivial, by simp [Kd.unit]⟩⟩
theorem OpenFs.cons {P : Program} {fs : Array Field} {j o : Nat} {f : Field} {α β : Type} {k : Kd α} {r : Kd β} (hf : fs[j]? = some f) (ho : f.offset = o) (hk : OpenK P f.type k) (h : OpenFs P fs (j + 1) (o + k.sz) r) : OpenFs P fs j o (k.pair r) := ⟨fun {H enc w spare held fuel cs xs} hl hx => by
  obtain ⟨b, h1, h2, h3⟩ := h.op hl hx
  have h4 := hx j f hf
  have hj : j < xs.length := by rw [hl]; exact (Array.getElem?_eq_some_iff.1 hf).1
  rw [List.getElem?_eq_getElem hj] at h4
  obtain ⟨a, h5, h6, h7⟩ := hk.op h4
  rw [hk.cells, ho] at h5
  refine ⟨(a, b), ⟨_, _, ?_, h5, h1⟩, ⟨h6, h2⟩, ?_⟩
  · simp only [Kd.pair]
    rw [List.take_add, List.drop_drop]
  · rw [List.drop_eq_getElem_cons hj]
    simp only [List.map_cons, Rows.uptoBulkAll, Kd.pair]
    omega⟩
theorem openStruct {P : Program} {t : TypeId} {fs : Array Field} {α β : Type} {k : Kd β} {f : α → β} {g : β → α} (ht : P.underlying t = some (.struct fs)) (hg : ∀ b, f (g b) = b) (hc : P.cellsOf t = k.sz) (h : OpenFs P fs 0 0 k) : OpenK P t (k.iso f) := ⟨hc, fun {H enc w spare held fuel cs x} hd => by
  obtain ⟨xs, n, rfl, rfl, h1, h2, h3⟩ := DataW.trod_struct ht hd
  obtain ⟨b, h4, h5, h6⟩ := h.op h2 h3
  rw [List.drop_zero, List.take_of_length_le (by rw [h1, hc]; exact Nat.le_refl _)] at h4
  refine ⟨g b, ?_, ?_, ?_⟩
  · show k.rep _ (f (g b)) cs; rw [hg]; exact h4
  · show k.ok (f (g b)); rw [hg]; exact h5
  · show k.bulk (f (g b)) ≤ _; rw [hg]; simp only [List.drop_zero] at h6; simp only [Rows.uptoBulk]; omega⟩
theorem sat_hp (W : World) : Sat ⟨World.hp W, []⟩ W := ⟨fun _ _ h => h, fun _ h => by simp at h, by simp⟩
theorem below_of {W W' : World} {s' : St} (hs : Sat s' W') (hx : Ext W W') (hl : Hp.le (World.hp W) s'.I) : Below W.heap.size W W' := ⟨hx.os, hx.tape, hx.output, hx.size, fun k hk => by
  have h1 : W.heap[k]? = some W.heap[k] := by simp [hk]
  rw [h1]
  exact hs.imm k _ (hl k _ h1)⟩
theorem bulk_len {α : Type} {k : Kd α} (h : ∀ x, 1 ≤ k.bulk x) (xs : List α) : xs.length + 1 ≤ k.slice.bulk xs := by
  have : ∀ l : List α, l.length ≤ (l.map k.bulk).sum := by
    intro l; induction l with
    | nil => simp
    | cons x l ih => have := h x; simp; omega
  have := this xs
  simp only [Kd.slice]; omega
end Go.Proofs.YtcnbcblihepbmaaGreatDoor
