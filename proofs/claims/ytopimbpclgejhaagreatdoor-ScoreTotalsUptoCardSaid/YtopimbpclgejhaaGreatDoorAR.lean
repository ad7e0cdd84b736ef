/- Kinds of arrays. It holds for every program. -/
import Derived.Test.YtopimbpclgejhaaGreatDoorO
import Derived.Test.YtopimbpclgejhaaGreatDoorS19
import Derived.WideShapes
set_option autoImplicit false
set_option linter.unusedSimpArgs false
set_option linter.unusedVariables false
namespace Go.Proofs.YtopimbpclgejhaaGreatDoor
open Go Go.RowKit Go.Deep
theorem Rows.allOne {α : Type} {k : Kd α} {I : Hp} {xs : List α} {cs : List Value} (h : Rows k I cs.toArray 0 xs) (hl : cs.length = xs.length * k.sz) : cs.all vOne = true := by
  rw [List.all_eq_true]
  intro v hv
  obtain ⟨i, hi, rfl⟩ := List.mem_iff_getElem.1 hv
  have hk : 0 < k.sz := Nat.pos_of_ne_zero fun e => by rw [e, Nat.mul_zero] at hl; omega
  obtain ⟨u, h1, h2⟩ := h.cell (i := i) (by omega) hk
  rw [Nat.zero_add] at h1
  have : cs[i]? = some u := by simpa using h1
  rw [List.getElem?_eq_getElem hi] at this
  cases this; exact h2
def Kd.arr {α : Type} (k : Kd α) (n : Nat) : Kd (List α) := ⟨n * k.sz, fun I xs cs => xs.length = n ∧ cs.length = n * k.sz ∧ Rows k I cs.toArray 0 xs, fun h => h.2.1, fun hl h => ⟨h.1, h.2.1, h.2.2.mono hl⟩,
  fun h => h.2.2.allOne (by rw [h.2.1, h.1]), fun xs => xs.length = n ∧ ∀ x ∈ xs, k.ok x, fun xs => (xs.map k.bulk).sum⟩
theorem openArr {P : Program} {t e : TypeId} {n : Nat} {α : Type} {k : Kd α} [Inhabited α] [ht : TyArr P t n e] (hk : OpenK P e k) (h1 : P.cellsOf t = n * k.sz) : OpenK P t (k.arr n) := ⟨h1, fun {H enc w spare held fuel cs x} h => by
  obtain ⟨xs, m, rfl, rfl, h2, h3, h4⟩ := DataW.trod_array ht.und h
  have key : ∀ i, i < n → ∃ u : α, k.rep (World.hp w) u ((cs.drop (i * k.sz)).take k.sz) ∧ k.ok u ∧ ∃ D, xs[i]? = some D ∧ k.bulk u ≤ Rows.uptoBulk D.1 := by
    intro i hi
    have h5 := h4 i hi
    rw [hk.cells, List.getElem?_eq_getElem (by omega)] at h5
    obtain ⟨u, a, b, c⟩ := hk.op h5
    exact ⟨u, a, b, _, List.getElem?_eq_getElem (by omega), c⟩
  obtain ⟨g, hg⟩ := choose_lt (α := α) (p := fun i u => k.rep (World.hp w) u ((cs.drop (i * k.sz)).take k.sz) ∧ k.ok u ∧ ∃ D, xs[i]? = some D ∧ k.bulk u ≤ Rows.uptoBulk D.1) key
  have hlen : ((List.range n).map g).length = n := by simp
  refine ⟨(List.range n).map g, ⟨hlen, by rw [h2, h1], fun j u hj => ?_⟩, ⟨hlen, fun u hu => ?_⟩, ?_⟩
  · have hjl : j < n := by have := (List.getElem?_eq_some_iff.1 hj).1; simpa using this
    have hu : u = g j := by simp [hjl] at hj; exact hj.symm
    subst hu
    refine ⟨_, (hg j hjl).1, fun i hi => ?_⟩
    rw [List.getElem?_take, if_pos hi, List.getElem?_drop, Nat.zero_add]
    simp
  · obtain ⟨i, hi, rfl⟩ := List.mem_map.1 hu
    exact (hg i (by simpa using hi)).2.1
  · have hx : xs = (List.range n).map fun i => xs.getD i (.nil, []) := by
      refine List.ext_getElem (by simp [h3]) fun i a b => ?_
      simp [List.getElem?_eq_getElem a]
    have e : xs.map (·.1) = (List.range n).map fun i => (xs.getD i (.nil, [])).1 := by
      conv => lhs; rw [hx]
      rw [List.map_map]; rfl
    have := bulkAll_map k.bulk (fun i => (xs.getD i (.nil, [])).1) g (List.range n) (fun i hi => by
      obtain ⟨_, _, D, hD, hb⟩ := hg i (by simpa using hi)
      rw [List.getD_eq_getElem?_getD, hD]; exact hb)
    simp only [Kd.arr, Rows.uptoBulk, e]
    omega⟩
theorem okWide_array {P : Program} {w : World} {r : Reach} {base : Nat} {t e : TypeId} {n : Nat} {v : Value} (ht : P.underlying t = some (.array n e)) (h : Value.okWide P w r base t v) : ∃ cs, v = .agg cs ∧ cs.size = P.cellsOf t := by
  simp only [Value.okWide, ht] at h
  obtain ⟨cs, h1, h2, _⟩ := h
  exact ⟨cs, h1, h2⟩
theorem arr_ints {kk : IntKind} : ∀ {n : Nat} {I : Hp} {xs : List Int} {cs : List Value}, ((kInt kk).arr n).rep I xs cs → cs = xs.map (Value.int kk) := by
  intro n I xs cs h
  obtain ⟨h1, h2, h3⟩ := h
  have e : (kInt kk).sz = 1 := rfl
  rw [e, Nat.mul_one] at h2
  refine List.ext_getElem (by simp; omega) fun i a b => ?_
  obtain ⟨c, hc, hr⟩ := h3 i xs[i]! (by rw [getElem!_pos xs i (by omega)]; exact List.getElem?_eq_getElem _)
  have hb : i < xs.length := by omega
  have := hr 0 (by rw [e]; omega)
  rw [e, Nat.mul_one, Nat.zero_add, Nat.add_zero] at this
  cases hc
  rw [getElem!_pos xs i hb] at this
  have t2 : cs[i]? = some (Value.int kk xs[i]) := by simpa using this
  rw [List.getElem?_eq_getElem a] at t2
  rw [List.getElem_map]
  exact Option.some.inj t2
theorem arr_four {kk : IntKind} {I : Hp} {xs : List Int} {cs : List Value} (h : ((kInt kk).arr 4).rep I xs cs) : ∃ a b c d, xs = [a, b, c, d] ∧ cs = [.int kk a, .int kk b, .int kk c, .int kk d] := by
  have hl := h.1
  have hc := arr_ints h
  match xs, hl with
  | [a, b, c, d], _ => exact ⟨a, b, c, d, rfl, hc⟩
section
variable {P : Program} {s : St} {ρ : Operand → Value} {d : Option Tmp} {ty : TypeId} {ps : String} {af : Array Edge} {g : Option (Nat × Bool)} {x y : Operand}
theorem q_index_arrayN {t e : TypeId} {len n : Nat} {zv : Value} [ht : TyArr P t len e] [TyV P e true n zv] {cs : List Value} {k : IntKind} {i : Int} (hx : ρ x = .agg cs.toArray) (hy : ρ y = .int k i) (h0 : 0 ≤ i) (h1 : i < len) :
    Quiet P (Oper.mk d (.index t x y) ty ps af g) ρ s (.agg (cs.toArray.extract (i.toNat * n) (i.toNat * n + n))) := by
  intro K h
  simp only [opS, execOp, hx, hy, Instr.index, asIntOf, swp_bind', swp_pure, swp_underlying ht.und, h0, h1, and_self, if_true, swp_sizeOf]
  exact swp_partN h
end
end Go.Proofs.YtopimbpclgejhaaGreatDoor
