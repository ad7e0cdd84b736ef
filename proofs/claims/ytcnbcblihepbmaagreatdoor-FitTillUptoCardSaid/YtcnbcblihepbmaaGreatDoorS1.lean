/- Symbolic states over the model's memory: a part that never turns, blocks that the code owns; a calculus for operations, regions, code and calls over such states. It holds for every program. -/
import Derived.WalkKit
import Derived.Below
import Derived.Orders
set_option autoImplicit false
set_option linter.unusedVariables false
set_option linter.unusedSimpArgs false
namespace Go.Proofs.YtcnbcblihepbmaaGreatDoor
open Go Go.RowKit

abbrev Hp := Nat → Option Obj
def Hp.le (I J : Hp) : Prop := ∀ b o, I b = some o → J b = some o
theorem Hp.le.rfl {I : Hp} : Hp.le I I := fun _ _ h => h
theorem Hp.le.trans {I J K : Hp} (h : Hp.le I J) (k : Hp.le J K) : Hp.le I K := fun b o e => k b o (h b o e)

/-- I: blocks that never turn again. cs: blocks that the code owns. -/
structure St where
  I : Hp
  cs : List (Nat × Obj)

structure Sat (s : St) (w : World) : Prop where
  imm : ∀ b o, s.I b = some o → w.heap[b]? = some o
  own : ∀ p, p ∈ s.cs → w.heap[p.1]? = some p.2 ∧ s.I p.1 = none
  nodup : (s.cs.map (·.1)).Nodup

structure Ext (w w' : World) : Prop where
  os : w'.os = w.os
  tape : w'.tape = w.tape
  output : w'.output = w.output
  size : w.heap.size ≤ w'.heap.size
theorem Ext.rfl {w : World} : Ext w w := ⟨.refl _, .refl _, .refl _, Nat.le_refl _⟩
theorem Ext.trans {a b c : World} (h : Ext a b) (k : Ext b c) : Ext a c := ⟨k.os.trans h.os, k.tape.trans h.tape, k.output.trans h.output, Nat.le_trans h.size k.size⟩

/-- What block b holds, own or not. -/
def St.has (s : St) (b : Nat) (o : Obj) : Prop := s.I b = some o ∨ (b, o) ∈ s.cs
theorem Sat.has {s : St} {w : World} (h : Sat s w) {b : Nat} {o : Obj} (k : s.has b o) : w.heap[b]? = some o := by
  rcases k with k | k
  · exact h.imm b o k
  · exact (h.own _ k).1
/-- Block b is known nowhere. -/
def St.fresh (s : St) (b : Nat) : Prop := s.I b = none ∧ b ∉ s.cs.map (·.1)

def vOne (v : Value) : Bool := match v with | .agg _ | .tuple _ => false | _ => true
def oCells (o : Obj) : Bool := match o with | .cells .. => true | _ => false
def oShape (o : Obj) : Option (TypeId × Nat) := match o with | .cells c e _ => some (e, c.size) | _ => none
def oFrz (o : Obj) (n : Nat) : Bool := match o with | .cells _ _ (lo, hi) => decide (lo ≤ n) && decide (n < hi) | _ => false

/-- The weakest precondition of a computation over symbolic states. -/
def swp (P : Program) {α : Type} : Sem α → St → (α → St → Prop) → Prop
  | .pure a, s, K => K a s
  | .load _ a k, s, K => ∃ v c e f, a.spot = none ∧ s.has a.block (.cells c e f) ∧ c[a.off]? = some v ∧ swp P (k v) s K
  | .store _ a v k, s, K => ∃ i c e, vOne v = true ∧ a.spot = none ∧ s.cs[i]? = some (a.block, .cells c e (0, 0)) ∧ a.off < c.size ∧
      swp P k ⟨s.I, s.cs.set i (a.block, .cells (c.setIfInBounds a.off v) e (0, 0))⟩ K
  | .new o k, s, K => ∀ b, s.fresh b → swp P (k b) ⟨s.I, (b, o) :: s.cs⟩ K
  | .shape r k, s, K => ∃ o, s.has r o ∧ swp P (k (oShape o)) s K
  | .freeze _ _ _, _, _ => False
  | .frozen a k, s, K => ∃ o, s.has a.block o ∧ swp P (k (oFrz o a.off)) s K
  | .getObj r k, s, K => ∃ o, s.has r o ∧ oCells o = false ∧ swp P (k o) s K
  | .setObj r o k, s, K => ∃ i o0, s.cs[i]? = some (r, o0) ∧ oCells o0 = false ∧ swp P k ⟨s.I, s.cs.set i (r, o)⟩ K
  | .choose q k, s, K => if q.forced then swp P (k 0) s K else ∀ t, swp P (k (q.cut t)) s K
  | .sys _ _, _, _ => False
  | .program k, s, K => swp P (k P) s K
  | .mark _ k, s, K => swp P k s K
  | .halt _, _, _ => False

section sound
variable {P : Program} {s : St} {w : World}

theorem Sat.lt (h : Sat s w) {b : Nat} {o : Obj} (k : s.has b o) : b < w.heap.size := (Array.getElem?_eq_some_iff.1 (h.has k)).1
theorem Sat.fresh (h : Sat s w) : s.fresh w.heap.size := by
  constructor
  · cases e : s.I w.heap.size with
    | none => rfl
    | some o => have := h.lt (.inl e); omega
  · intro hm
    obtain ⟨p, hp, e⟩ := List.mem_map.1 hm
    have := h.lt (b := p.1) (o := p.2) (.inr hp)
    omega
theorem Sat.new (h : Sat s w) (o : Obj) : Sat ⟨s.I, (w.heap.size, o) :: s.cs⟩ { w with heap := w.heap.push o } := by
  obtain ⟨f1, f2⟩ := h.fresh
  refine ⟨fun b o' hb => ?_, fun p hp => ?_, ?_⟩
  · have hlt := h.lt (.inl hb)
    show (w.heap.push o)[b]? = _
    rw [Array.getElem?_push, if_neg (by omega)]
    exact h.imm b o' hb
  · rcases List.mem_cons.1 hp with rfl | hp
    · exact ⟨by simp, f1⟩
    · obtain ⟨a, b⟩ := h.own p hp
      have hlt := h.lt (b := p.1) (o := p.2) (.inr hp)
      refine ⟨?_, b⟩
      show (w.heap.push o)[p.1]? = _
      rw [Array.getElem?_push, if_neg (by omega)]
      exact a
  · simp only [List.map_cons, List.nodup_cons]
    exact ⟨f2, h.nodup⟩
theorem map_fst_set {l : List (Nat × Obj)} {i b : Nat} {o o' : Obj} (h : l[i]? = some (b, o)) : (l.set i (b, o')).map (·.1) = l.map (·.1) := by
  apply List.ext_getElem?
  intro j
  simp only [List.getElem?_map, List.getElem?_set]
  by_cases e : i = j
  · subst e
    have hlt : i < l.length := (List.getElem?_eq_some_iff.1 h).1
    rw [if_pos rfl, if_pos hlt, h]
    rfl
  · simp [e]
theorem Sat.set (h : Sat s w) {i b : Nat} {o o' : Obj} {w' : World} (hi : s.cs[i]? = some (b, o)) (hb : w'.heap[b]? = some o') (hr : ∀ j, j ≠ b → w'.heap[j]? = w.heap[j]?) :
    Sat ⟨s.I, s.cs.set i (b, o')⟩ w' := by
  have hm : (b, o) ∈ s.cs := List.mem_of_getElem? hi
  have hn := (h.own _ hm).2
  have hlen : i < s.cs.length := (List.getElem?_eq_some_iff.1 hi).1
  refine ⟨fun j x hj => ?_, fun p hp => ?_, ?_⟩
  · have : j ≠ b := fun e => by subst e; simp [hn] at hj
    rw [hr j this]; exact h.imm j x hj
  · obtain ⟨j, hj⟩ := List.mem_iff_getElem?.1 hp
    simp only [List.getElem?_set] at hj
    by_cases e : i = j
    · subst e
      simp [hlen] at hj
      subst hj
      exact ⟨hb, hn⟩
    · simp [e] at hj
      have hp' := List.mem_of_getElem? hj
      obtain ⟨a, c⟩ := h.own p hp'
      refine ⟨?_, c⟩
      have : p.1 ≠ b := fun eb => by
        have hnd := h.nodup
        have h1 : (s.cs.map (·.1))[i]? = some b := by simp [hi]
        have h2 : (s.cs.map (·.1))[j]? = some b := by simp [hj, eb]
        have l1 : i < (s.cs.map (·.1)).length := (List.getElem?_eq_some_iff.1 h1).1
        have l2 : j < (s.cs.map (·.1)).length := (List.getElem?_eq_some_iff.1 h2).1
        have q1 : (s.cs.map (·.1))[i] = b := (List.getElem?_eq_some_iff.1 h1).2
        have q2 : (s.cs.map (·.1))[j] = b := (List.getElem?_eq_some_iff.1 h2).2
        exact e ((List.getElem_inj hnd).1 (q1.trans q2.symm))
      rw [hr _ this]; exact a
  · show ((s.cs.set i (b, o')).map (·.1)).Nodup
    rw [map_fst_set hi]; exact h.nodup
theorem Sat.drawn (h : Sat s w) (n : Nat) : Sat s { w with drawn := n } := ⟨h.imm, h.own, h.nodup⟩

theorem cell_of_has (h : Sat s w) {a : Addr} {c : Array Value} {e : TypeId} {f : Nat × Nat} {v : Value} (ha : a.spot = none) (hb : s.has a.block (.cells c e f)) (hv : c[a.off]? = some v) : w.cell? a = some v := by
  simp only [World.cell?, h.has hb, ha, Option.isSome_none, Bool.false_eq_true, if_false, hv]

theorem swp_sound {α : Type} (m : Sem α) : ∀ {s : St} {w : World} {K : α → St → Prop}, swp P m s K → Sat s w →
    ∃ a s' w', m.run P w = .ok a w' ∧ Sat s' w' ∧ Ext w w' ∧ K a s' := by
  induction m with
  | pure a => exact fun h hs => ⟨a, _, _, rfl, hs, .rfl, h⟩
  | load m a k ih =>
    intro s w K h hs
    obtain ⟨v, c, e, f, h1, h2, h3, h4⟩ := h
    obtain ⟨x, s', w', r, q⟩ := ih v h4 hs
    exact ⟨x, s', w', by simp only [Sem.run, cell_of_has hs h1 h2 h3]; exact r, q⟩
  | store m a v k ih =>
    intro s w K h hs
    obtain ⟨i, c, e, h1, h2, h3, h4, h5⟩ := h
    have hb : s.has a.block (.cells c e (0, 0)) := .inr (List.mem_of_getElem? h3)
    have hcell : w.cell? a = some c[a.off] := cell_of_has hs h2 hb (by simp [h4])
    have hfz : w.frozen? a = false := by simp [World.frozen?, hs.has hb]
    have hset : Sat ⟨s.I, s.cs.set i (a.block, .cells (c.setIfInBounds a.off v) e (0, 0))⟩ (w.setCell a v) := by
      refine hs.set h3 ?_ (fun j hj => ?_)
      · simp [World.setCell, Array.getElem?_modify, hs.has hb, h2]
      · simp only [World.setCell, Array.getElem?_modify]
        rw [if_neg (fun e => hj e.symm)]
    obtain ⟨x, s', w', r, q1, q2, q3⟩ := ih h5 hset
    refine ⟨x, s', w', ?_, q1, ⟨q2.os, q2.tape, q2.output, by have := q2.size; simpa [World.setCell] using this⟩, q3⟩
    cases v <;> first
      | (simp [vOne] at h1; done)
      | (simp only [Sem.run, hcell, hfz]; exact r)
  | new o k ih =>
    intro s w K h hs
    obtain ⟨x, s', w', r, q1, q2, q3⟩ := ih w.heap.size (h _ hs.fresh) (hs.new o)
    exact ⟨x, s', w', r, q1, ⟨q2.os, q2.tape, q2.output, by have := q2.size; simp at this; omega⟩, q3⟩
  | shape r k ih =>
    intro s w K h hs
    obtain ⟨o, h1, h2⟩ := h
    obtain ⟨x, s', w', e, q⟩ := ih _ h2 hs
    refine ⟨x, s', w', ?_, q⟩
    have : w.shape? r = oShape o := by
      simp only [World.shape?, hs.has h1]; cases o <;> rfl
    simp only [Sem.run, this]; exact e
  | freeze a n k ih => exact fun h => h.elim
  | frozen a k ih =>
    intro s w K h hs
    obtain ⟨o, h1, h2⟩ := h
    obtain ⟨x, s', w', e, q⟩ := ih _ h2 hs
    refine ⟨x, s', w', ?_, q⟩
    have : w.frozen? a = oFrz o a.off := by
      simp only [World.frozen?, hs.has h1, oFrz]; cases o <;> rfl
    simp only [Sem.run, this]; exact e
  | getObj r k ih =>
    intro s w K h hs
    obtain ⟨o, h1, h0, h2⟩ := h
    obtain ⟨x, s', w', e, q⟩ := ih _ h2 hs
    refine ⟨x, s', w', ?_, q⟩
    have hb := hs.has h1
    cases o <;> first
      | (simp [oCells] at h0; done)
      | (simp only [Sem.run, hb]; exact e)
  | setObj r o k ih =>
    intro s w K h hs
    obtain ⟨i, o0, h1, h0, h2⟩ := h
    have hb := hs.has (.inr (List.mem_of_getElem? h1))
    have hlt : r < w.heap.size := (Array.getElem?_eq_some_iff.1 hb).1
    have hset : Sat ⟨s.I, s.cs.set i (r, o)⟩ { w with heap := w.heap.setIfInBounds r o } := by
      refine hs.set h1 ?_ (fun j hj => ?_)
      · simp [hlt]
      · simp [Array.getElem?_setIfInBounds_ne (fun e => hj e.symm : r ≠ j)]
    obtain ⟨x, s', w', e, q1, q2, q3⟩ := ih h2 hset
    refine ⟨x, s', w', ?_, q1, ⟨q2.os, q2.tape, q2.output, by have := q2.size; simpa using this⟩, q3⟩
    cases o0 <;> first
      | (simp [oCells] at h0; done)
      | (simp only [Sem.run, hb]; exact e)
  | choose q k ih =>
    intro s w K h hs
    simp only [swp] at h
    by_cases hf : q.forced = true
    · simp only [hf, if_true] at h
      obtain ⟨x, s', w', e, r⟩ := ih _ h hs
      exact ⟨x, s', w', by simp only [Sem.run, hf, if_true]; exact e, r⟩
    · simp only [hf] at h
      obtain ⟨x, s', w', e, r1, r2, r3⟩ := ih _ (h (w.tape w.drawn q)) (hs.drawn (w.drawn + 1))
      exact ⟨x, s', w', by simp only [Sem.run, hf]; exact e, r1, ⟨r2.os, r2.tape, r2.output, r2.size⟩, r3⟩
  | sys c k ih => exact fun h => h.elim
  | program k ih => exact fun h hs => ih P h hs
  | mark m k ih => exact fun h hs => ih h hs
  | halt h => exact fun h => h.elim

theorem swp_bind {α β : Type} (m : Sem α) (f : α → Sem β) : ∀ (s : St) (K : β → St → Prop), swp P (m.bind f) s K = swp P m s (fun a s' => swp P (f a) s' K) := by
  induction m with
  | pure a => exact fun _ _ => rfl
  | load m a k ih => intro s K; simp only [Sem.bind, swp, ih]
  | store m a v k ih => intro s K; simp only [Sem.bind, swp, ih]
  | new o k ih => intro s K; simp only [Sem.bind, swp, ih]
  | shape r k ih => intro s K; simp only [Sem.bind, swp, ih]
  | freeze a n k ih => intro s K; rfl
  | frozen a k ih => intro s K; simp only [Sem.bind, swp, ih]
  | getObj r k ih => intro s K; simp only [Sem.bind, swp, ih]
  | setObj r o k ih => intro s K; simp only [Sem.bind, swp, ih]
  | choose q k ih => intro s K; simp only [Sem.bind, swp, ih]
  | sys c k ih => intro s K; rfl
  | program k ih => intro s K; simp only [Sem.bind, swp, ih]
  | mark m k ih => intro s K; simp only [Sem.bind, swp, ih]
  | halt h => intro s K; rfl
theorem swp_bind' {α β : Type} (m : Sem α) (f : α → Sem β) (s : St) (K : β → St → Prop) : swp P (m >>= f) s K = swp P m s (fun a s' => swp P (f a) s' K) := swp_bind m f s K
theorem swp_pure {α : Type} (a : α) (s : St) (K : α → St → Prop) : swp P (pure a) s K = K a s := rfl
theorem swp_mono {α : Type} (m : Sem α) : ∀ {s : St} {K K' : α → St → Prop}, (∀ a s', K a s' → K' a s') → swp P m s K → swp P m s K' := by
  induction m with
  | pure a => exact fun hk h => hk _ _ h
  | load m a k ih => exact fun hk ⟨v, c, e, f, h1, h2, h3, h4⟩ => ⟨v, c, e, f, h1, h2, h3, ih v hk h4⟩
  | store m a v k ih => exact fun hk ⟨i, c, e, h1, h2, h3, h4, h5⟩ => ⟨i, c, e, h1, h2, h3, h4, ih hk h5⟩
  | new o k ih => exact fun hk h b hb => ih b hk (h b hb)
  | shape r k ih => exact fun hk ⟨o, h1, h2⟩ => ⟨o, h1, ih _ hk h2⟩
  | freeze a n k ih => exact fun _ h => h.elim
  | frozen a k ih => exact fun hk ⟨o, h1, h2⟩ => ⟨o, h1, ih _ hk h2⟩
  | getObj r k ih => exact fun hk ⟨o, h1, h0, h2⟩ => ⟨o, h1, h0, ih _ hk h2⟩
  | setObj r o k ih => exact fun hk ⟨i, o0, h1, h0, h2⟩ => ⟨i, o0, h1, h0, ih hk h2⟩
  | choose q k ih =>
    intro s K K' hk h
    simp only [swp] at h ⊢
    split
    · rename_i hf; simp only [hf, if_true] at h; exact ih _ hk h
    · rename_i hf; simp only [hf] at h; exact fun t => ih _ hk (h t)
  | sys c k ih => exact fun _ h => h.elim
  | program k ih => exact fun hk h => ih _ hk h
  | mark m k ih => exact fun hk h => ih hk h
  | halt h => exact fun _ h => h.elim
end sound
end Go.Proofs.YtcnbcblihepbmaaGreatDoor
