/- A call that leaves the state alone may read slices that the code owns. It holds for every program. -/
import Derived.Test.YtcnbcblihepbmaaGreatDoorS20
set_option autoImplicit false
set_option linter.unusedSimpArgs false
set_option linter.unusedVariables false
namespace Go.Proofs.YtcnbcblihepbmaaGreatDoor
open Go Go.RowKit
theorem Gh.thaw {I : Hp} {cs : List (Nat × Obj)} {b : Nat} {o : Obj} (hI : I b = none) (hc : ∀ p ∈ cs, p.1 ≠ b) : Gh ⟨I.put b o, cs⟩ ⟨I, (b, o) :: cs⟩ := fun w hs => by
  refine ⟨fun c u hc' => hs.imm c u ?_, fun p hp => ?_, ?_⟩
  · simp only [Hp.put]
    by_cases e : c = b
    · subst e; have h2 : I c = some u := hc'; rw [hI] at h2; cases h2
    · rw [if_neg e]; exact hc'
  · rcases List.mem_cons.1 hp with rfl | hp
    · exact ⟨hs.imm b o (by simp [Hp.put]), hI⟩
    · refine ⟨(hs.own p hp).1, ?_⟩
      have := (hs.own p hp).2
      simp only [Hp.put, if_neg (hc p hp)] at this
      exact this
  · simp only [List.map_cons, List.nodup_cons]
    refine ⟨fun hm => ?_, hs.nodup⟩
    obtain ⟨p, hp, e⟩ := List.mem_map.1 hm
    exact hc p hp e
theorem CallV.own {P : Program} {f : FuncId} {args : Array Value} {v u : Value} {α : Type} {k : Kd α} {e : TypeId} {I : Hp} {hs cs : List (Nat × Obj)} {xs : List α} (hO : OwnS k e I u hs xs) (h : ∀ J, Hp.le I J → Sl k J u xs → CallV P f args ⟨J, cs⟩ v) : CallV P f args ⟨I, hs ++ cs⟩ v := by
  obtain ⟨h1, h2⟩ := hO
  rcases h2 with ⟨A, rfl, rfl, rfl⟩ | ⟨b, cap, arr, rfl, rfl, a3, a4, a5⟩
  · exact h I .rfl (Sl.none k I A)
  · intro K hK w hs
    have hb : I b = none := (hs.own (b, .cells arr e (0, 0)) (by simp)).2
    have hnd := hs.nodup
    simp only [List.cons_append, List.nil_append, List.map_cons, List.nodup_cons] at hnd
    have hl := Hp.le_put (o := .cells arr e (0, 0)) hb
    have hS : Sl k (I.put b (.cells arr e (0, 0))) (.slice (some ⟨b, 0, none⟩) xs.length cap) xs := ⟨_, cap, rfl, a3, h1, fun _ => ⟨b, 0, arr, e, (0, 0), rfl, by simp [Hp.put], a5.mono hl⟩⟩
    refine (h _ hl hS (fun v' s' => v' = v ∧ s' = ⟨I.put b (.cells arr e (0, 0)), cs⟩) ⟨rfl, rfl⟩ w (Gh.freeze w hs)).mono ?_
    rintro e w' ⟨v', s', he, hs', hx, rfl, rfl⟩
    exact ⟨_, _, he, Gh.thaw hb (fun p hp ee => hnd.1 (List.mem_map.2 ⟨p, hp, ee⟩)) w' hs', hx, hK⟩
/-- What is told is there still. -/
def KeepT (T : List (Nat × Obj)) (s z : St) : Prop := Hp.le s.I z.I ∧ ∀ p ∈ T, p ∈ z.cs
theorem KeepT.has {T : List (Nat × Obj)} {s z : St} (h : KeepT T s z) {b i : Nat} {o : Obj} (k : AtB b T i o) : z.has b o := .inr (h.2 _ (List.mem_of_getElem? k.at_))
theorem KeepT.el {α : Type} {k : Kd α} {T : List (Nat × Obj)} {s z : St} (h : KeepT T s z) {b o : Nat} {w : α} {l : List Value} (e : El k ⟨s.I, []⟩ b o w l) : El k z b o w l := by
  obtain ⟨arr, ee, f, h1, h2, h3⟩ := e
  exact ⟨arr, ee, f, h1.imp (h.1 _ _) (fun hm => nomatch hm), k.mono h.1 h2, h3⟩
theorem oblK_indexI {P : Program} {ops : Array Oper} {keep : St → Prop} {s0 : St} {fin : Act → Prop} {r : List Oper} {E B : List Bool} {a : Act} {b : Bool} {α : Type} [Inhabited α] {kd : Kd α} {x y : Operand} {d : Option Tmp} {ty : TypeId} {ps : String} {af : Array Edge} {g : Option (Nat × Bool)} {t e : TypeId} {bb : Bool} {n : Nat} {zv : Value} [ht : TySlice P t e] [htv : TyV P e bb n zv] {v : Value} {kk : IntKind} {i : Int} {xs : List α}
    (hg : Region.wanted (Oper.mk d (.indexAddr t x y) ty ps af g) (yielded ops a.tmps) = true) (hx : a.eval x = v) (hy : a.eval y = .int kk i) (hs : Sl kd s0.I v xs) (hn : kd.sz = n) (h0 : 0 ≤ i) (h1 : i < xs.length)
    (h : ∀ bl o cs, SlAt v kd.sz i.toNat bl o → kd.rep s0.I xs[i.toNat]! cs → El kd ⟨s0.I, []⟩ bl o xs[i.toNat]! cs → oblK P ops keep s0 fin r E B (a.put d (.pointer (some ⟨bl, o, none⟩)))) : oblK P ops keep s0 fin (Oper.mk d (.indexAddr t x y) ty ps af g :: r) (true :: E) (b :: B) a := by
  subst hn
  obtain ⟨bl, o, cs, e1, e2, e3⟩ := (hs.r (s := ⟨s0.I, []⟩) .rfl).at i.toNat (by omega)
  exact ⟨_, fun s _ => .inl ⟨hg, q_index_at hx hy e1 (by omega)⟩, h bl o cs e1 e2 e3⟩
end Go.Proofs.YtcnbcblihepbmaaGreatDoor
