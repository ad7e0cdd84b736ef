/- Symbolic states: a function's begin and end; frames written out. It holds for every program. -/
import Derived.Test.YtcnbcblihepbmaaGreatDoorS5
set_option autoImplicit false
set_option linter.unusedSimpArgs false
set_option linter.unusedVariables false
namespace Go.Proofs.YtcnbcblihepbmaaGreatDoor
open Go Go.RowKit
section
variable {P : Program} {s s' : St} {fn : Func} {K : Value → St → Prop} {a : Act}
theorem end_tmp {t : Tmp} {v : Value} (h : fn.results = #[.tmp t]) (hd : a.defers = []) (hv : a.tmps.getD t undef = v) (g : Gh s s') (hk : K v s') : endQ P fn K .ret a s := by
  refine ⟨trivial, hd, s', g, ?_⟩
  simp [results, h, rwp_bind', rwp]
  simp at hv
  rw [hv]; exact hk
theorem end_none (h : fn.results = #[]) (hd : a.defers = []) (g : Gh s s') (hk : K (.tuple #[]) s') : endQ P fn K .ret a s := by
  refine ⟨trivial, hd, s', g, ?_⟩
  simp [results, h, rwp_bind', rwp]
  exact hk
theorem end_none' (h : fn.results = #[]) (hd : a.defers = []) (g : Gh s s') (hk : K (.tuple #[]) s') : endQ P fn K .normal a s := by
  refine ⟨trivial, hd, s', g, ?_⟩
  simp [results, h, rwp_bind', rwp]
  exact hk
theorem end_tmp2 {t u : Tmp} {v x : Value} (h : fn.results = #[.tmp t, .tmp u]) (hd : a.defers = []) (hv : a.tmps.getD t undef = v) (hx : a.tmps.getD u undef = x) (g : Gh s s') (hk : K (.tuple #[v, x]) s') : endQ P fn K .ret a s := by
  refine ⟨trivial, hd, s', g, ?_⟩
  simp [results, h, rwp_bind', rwp]
  simp at hv hx
  rw [hv, hx]; exact hk
theorem end_tmp3 {t u r : Tmp} {v x y : Value} (h : fn.results = #[.tmp t, .tmp u, .tmp r]) (hd : a.defers = []) (hv : a.tmps.getD t undef = v) (hx : a.tmps.getD u undef = x) (hy : a.tmps.getD r undef = y) (g : Gh s s') (hk : K (.tuple #[v, x, y]) s') : endQ P fn K .ret a s := by
  refine ⟨trivial, hd, s', g, ?_⟩
  simp [results, h, rwp_bind', rwp]
  simp at hv hx hy
  rw [hv, hx, hy]; exact hk

theorem rwp_underlying {t : TypeId} {d : TypeDesc} (h : P.underlying t = some d) (K : TypeDesc → Prop) : rwp P (underlying t) s K = K d := by
  simp only [underlying, Go.program, rwp_bind', rwp, h]; rfl
theorem rwp_typeInfo {t : TypeId} {i : TypeInfo} (h : P.info? t = some i) (K : TypeInfo → Prop) : rwp P (typeInfo t) s K = K i := by
  simp only [typeInfo, Go.program, rwp_bind', rwp, h]; rfl
theorem rwp_pure {α : Type} (x : α) (K : α → Prop) : rwp P (pure x) s K = K x := rfl
theorem rwp_isAgg {t : TypeId} {b : Bool} {n : Nat} {z : Value} [h : TyV P t b n z] (K : Bool → Prop) : rwp P (isAgg t) s K = K b := by
  have := h.und
  cases hd : P.underlying t with
  | none => simp [hd] at this
  | some d =>
    rw [hd] at this
    simp only [Option.map_some, Option.some.injEq] at this
    simp only [isAgg, rwp_bind', rwp_underlying hd]
    subst this
    cases d <;> rfl
theorem rwp_sizeOf {t : TypeId} {b : Bool} {n : Nat} {z : Value} [h : TyV P t b n z] (K : Nat → Prop) : rwp P (sizeOf t) s K = K n := by
  have := h.size
  cases hd : P.info? t with
  | none => simp [hd] at this
  | some d =>
    rw [hd] at this
    simp only [Option.map_some, Option.some.injEq] at this
    simp only [sizeOf, rwp_bind', rwp_typeInfo hd, rwp_pure, this]
theorem rwp_loadCellsFrom {a : Addr} {c : Array Value} {e : TypeId} {f : Nat × Nat} (ha : a.spot = none) (hb : s.has a.block (.cells c e f)) (n : Nat) :
    ∀ (i : Nat) (acc : Array Value) (K : Array Value → Prop), a.off + i + n ≤ c.size → K (acc ++ c.extract (a.off + i) (a.off + i + n)) → rwp P (loadCellsFrom a i n acc) s K := by
  induction n with
  | zero =>
    intro i acc K _ h
    have e0 : c.extract (a.off + i) (a.off + i + 0) = #[] := Array.extract_empty_of_stop_le_start (by omega)
    rw [e0, Array.append_empty] at h
    exact h
  | succ n ih =>
    intro i acc K hn h
    simp only [loadCellsFrom, rwp_bind']
    have hlt : a.off + i < c.size := by omega
    refine ⟨c[a.off + i], c, e, f, ?_, ?_, ?_, ?_⟩
    · rw [addr_add_spot _ ha]
    · rw [addr_add_spot _ ha]; exact hb
    · rw [addr_add_spot _ ha]; simp [hlt]
    · refine ih (i + 1) _ K (by omega) ?_
      have : acc.push c[a.off + i] ++ c.extract (a.off + (i + 1)) (a.off + (i + 1) + n) = acc ++ c.extract (a.off + i) (a.off + i + (n + 1)) := by
        apply Array.ext'
        simp only [Array.toList_append, Array.toList_push, List.append_assoc, Array.toList_extract, List.cons_append, List.nil_append]
        congr 1
        rw [List.extract_eq_take_drop, List.extract_eq_take_drop]
        have e1 : a.off + i + (n + 1) - (a.off + i) = n + 1 := by omega
        have e2 : a.off + (i + 1) + n - (a.off + (i + 1)) = n := by omega
        rw [e1, e2, List.drop_eq_getElem_cons (by simpa using hlt : a.off + i < c.toList.length), List.take_succ_cons]
        simp [Nat.add_assoc]
      rw [this]; exact h
theorem rwp_cell {t : TypeId} {b : Bool} {n : Nat} {z : Value} [TyV P t b n z] {bl o : Nat} {c : Array Value} {e : TypeId} {f : Nat × Nat} {v : Value} (hb : s.has bl (.cells c e f))
    (hv : if b then o + n ≤ c.size ∧ v = .agg (c.extract o (o + n)) else c[o]? = some v) {K : Value → Prop} (h : K v) : rwp P (loadVar t ⟨bl, o, none⟩) s K := by
  simp only [loadVar, rwp_bind', rwp_isAgg]
  cases b with
  | true =>
    simp only [if_true, rwp_bind', rwp_sizeOf] at hv ⊢
    simp only [loadCells]
    refine rwp_loadCellsFrom (a := ⟨bl, o, none⟩) rfl hb n 0 #[] _ (by simpa using hv.1) ?_
    obtain ⟨h1, rfl⟩ := hv
    simpa [rwp_pure] using h
  | false =>
    simp only [Bool.false_eq_true, if_false] at hv ⊢
    exact ⟨v, c, e, f, rfl, hb, hv, h⟩
theorem rwp_map {α β : Type} (f : α → β) (m : Sem α) (K : β → Prop) : rwp P (f <$> m) s K = rwp P m s (fun a => K (f a)) := by
  have : (f <$> m) = m.bind (fun a => .pure (f a)) := rfl
  rw [this, rwp_bind]; rfl
theorem rwp_whole {t : TypeId} {n : Nat} {z : Value} [TyV P t true n z] {bl : Nat} {c : Array Value} {e : TypeId} {f : Nat × Nat} (hb : s.has bl (.cells c e f)) (hn : c.size = n) {K : Value → Prop} (h : K (.agg c)) : rwp P (loadVar t ⟨bl, 0, none⟩) s K :=
  rwp_cell (n := n) hb (by rw [if_pos rfl]; exact ⟨by omega, rfl⟩) (by
    have : c.extract 0 (0 + n) = c := by rw [Nat.zero_add, ← hn, Array.extract_size]
    rw [this]; exact h)
/-- A struct result: it lies in a block of the call's own. -/
theorem end_cell {t : Tmp} {ty : TypeId} {n : Nat} {z : Value} [TyV P ty true n z] {bl : Nat} {c : Array Value} {e : TypeId} {f : Nat × Nat} (h : fn.results = #[.cell t ty]) (hd : a.defers = []) (ht : a.tmps.getD t undef = .pointer (some ⟨bl, 0, none⟩))
    (hb : s.has bl (.cells c e f)) (hn : c.size = n) (g : Gh s s') (hk : K (.agg c) s') : endQ P fn K .ret a s := by
  refine ⟨trivial, hd, s', g, ?_⟩
  have ht' : a.tmps[t]?.getD undef = .pointer (some ⟨bl, 0, none⟩) := by simpa using ht
  simp [results, h, rwp_bind', ht', asAddr, rwp_pure]
  exact rwp_whole hb hn hk
theorem end_cell_tmp {t u : Tmp} {ty : TypeId} {n : Nat} {z : Value} [TyV P ty true n z] {bl : Nat} {c : Array Value} {e : TypeId} {f : Nat × Nat} {x : Value} (h : fn.results = #[.cell t ty, .tmp u]) (hd : a.defers = []) (ht : a.tmps.getD t undef = .pointer (some ⟨bl, 0, none⟩))
    (hb : s.has bl (.cells c e f)) (hn : c.size = n) (hx : a.tmps.getD u undef = x) (g : Gh s s') (hk : K (.tuple #[.agg c, x]) s') : endQ P fn K .ret a s := by
  refine ⟨trivial, hd, s', g, ?_⟩
  have ht' : a.tmps[t]?.getD undef = .pointer (some ⟨bl, 0, none⟩) := by simpa using ht
  have hx' : a.tmps[u]?.getD undef = x := by simpa using hx
  simp [results, h, rwp_bind', ht', hx', asAddr, rwp_pure, rwp_map]
  exact rwp_whole (P := P) (t := ty) (z := z) hb hn (K := fun v => K (.tuple #[v, x]) s') hk
theorem end_cell_tmp2 {t u r : Tmp} {ty : TypeId} {n : Nat} {z : Value} [TyV P ty true n z] {bl : Nat} {c : Array Value} {e : TypeId} {f : Nat × Nat} {x y : Value} (h : fn.results = #[.cell t ty, .tmp u, .tmp r]) (hd : a.defers = []) (ht : a.tmps.getD t undef = .pointer (some ⟨bl, 0, none⟩))
    (hb : s.has bl (.cells c e f)) (hn : c.size = n) (hx : a.tmps.getD u undef = x) (hy : a.tmps.getD r undef = y) (g : Gh s s') (hk : K (.tuple #[.agg c, x, y]) s') : endQ P fn K .ret a s := by
  refine ⟨trivial, hd, s', g, ?_⟩
  have ht' : a.tmps[t]?.getD undef = .pointer (some ⟨bl, 0, none⟩) := by simpa using ht
  have hx' : a.tmps[u]?.getD undef = x := by simpa using hx
  have hy' : a.tmps[r]?.getD undef = y := by simpa using hy
  simp [results, h, rwp_bind', ht', hx', hy', asAddr, rwp_pure, rwp_map]
  exact rwp_whole (P := P) (t := ty) (z := z) hb hn (K := fun v => K (.tuple #[v, x, y]) s') hk
theorem end_tmp_cell_tmp {t u r : Tmp} {ty : TypeId} {n : Nat} {z : Value} [TyV P ty true n z] {bl : Nat} {c : Array Value} {e : TypeId} {f : Nat × Nat} {x y : Value} (h : fn.results = #[.tmp u, .cell t ty, .tmp r]) (hd : a.defers = []) (ht : a.tmps.getD t undef = .pointer (some ⟨bl, 0, none⟩))
    (hb : s.has bl (.cells c e f)) (hn : c.size = n) (hx : a.tmps.getD u undef = x) (hy : a.tmps.getD r undef = y) (g : Gh s s') (hk : K (.tuple #[x, .agg c, y]) s') : endQ P fn K .ret a s := by
  refine ⟨trivial, hd, s', g, ?_⟩
  have ht' : a.tmps[t]?.getD undef = .pointer (some ⟨bl, 0, none⟩) := by simpa using ht
  have hx' : a.tmps[u]?.getD undef = x := by simpa using hx
  have hy' : a.tmps[r]?.getD undef = y := by simpa using hy
  simp [results, h, rwp_bind', ht', hx', hy', asAddr, rwp_pure, rwp_map]
  exact rwp_whole (P := P) (t := ty) (z := z) hb hn (K := fun v => K (.tuple #[x, v, y]) s') hk
end
section
variable {P : Program} {Q : Exit → Act → St → Prop}
def RunN (P : Program) (c : Code) (Q : Exit → Act → St → Prop) : Nat → Act → St → Prop
  | 0, _, _ => False
  | n + 1, a, s => Run P c (thenQ (RunN P c Q n) Q) a s
theorem run_round {c : Code} {n : Nat} {a : Act} {s : St} (h : ∀ K : Act → St → Prop, (∀ a s, RunN P c Q n a s → K a s) → Run P c (thenQ K Q) a s) : RunN P c Q (n + 1) a s := h _ fun _ _ k => k
/-- A loop, round by round. -/
theorem run_rounds {c : Code} (n : Nat) {a : Act} {s : St} (h : RunN P c Q n a s) : Run P (.loop c) Q a s := by
  refine run_loop (fun m a s => RunN P c Q m a s) n h ?_
  intro m a s hj K hK
  cases m with
  | zero => exact hj.elim
  | succ m =>
    refine run_mono hj fun e a s hq => ?_
    cases e with
    | normal => exact hK a s m (by omega) hq
    | _ => exact hq

/-- A region that draws, all of whose first operations leave the state alone. -/
def oblE (P : Program) (ops : Array Oper) (I0 : Hp) (cs : List (Nat × Obj)) (fin : Act → Prop) : List Oper → Act → Prop
  | [], a => fin a
  | o :: r, a => ∃ v, (∀ I, Hp.le I0 I → (Region.wanted o (yielded ops a.tmps) = true ∧ Quiet P o a.eval ⟨I, cs⟩ v) ∨ (Region.wanted o (yielded ops a.tmps) = false ∧ v = undef)) ∧ oblE P ops I0 cs fin r (a.put o.dst v)
theorem oblE_q {ops : Array Oper} {I0 : Hp} {cs : List (Nat × Obj)} {fin : Act → Prop} {o : Oper} {r : List Oper} {a : Act} {v : Value} (hg : Region.wanted o (yielded ops a.tmps) = true) (h : ∀ I, Hp.le I0 I → Quiet P o a.eval ⟨I, cs⟩ v) (k : oblE P ops I0 cs fin r (a.put o.dst v)) : oblE P ops I0 cs fin (o :: r) a :=
  ⟨v, fun I hI => .inl ⟨hg, h I hI⟩, k⟩
theorem oblE_nil {ops : Array Oper} {I0 : Hp} {cs : List (Nat × Obj)} {fin : Act → Prop} {a : Act} (h : fin a) : oblE P ops I0 cs fin [] a := h
theorem oblE_skip {ops : Array Oper} {I0 : Hp} {cs : List (Nat × Obj)} {fin : Act → Prop} {o : Oper} {r : List Oper} {a : Act} (hg : Region.wanted o (yielded ops a.tmps) = false) (k : oblE P ops I0 cs fin r (a.put o.dst undef)) : oblE P ops I0 cs fin (o :: r) a :=
  ⟨undef, fun I hI => .inr ⟨hg, rfl⟩, k⟩
theorem oblE_obl {ops : Array Oper} {I0 : Hp} {cs : List (Nat × Obj)} {fin : Act → Prop} (l : List Oper) : ∀ {a : Act}, oblE P ops I0 cs fin l a →
    ∃ vals : List Value, ∀ (pre : List Value) (F : Hp → Prop), obl P ops (fun j => .eq ((pre ++ vals).getD j undef)) I0 cs (fun a _ => fin a) l pre.length a F := by
  induction l with
  | nil => exact fun h => ⟨[], fun _ _ => h⟩
  | cons o r ih =>
    rintro a ⟨v, h1, h2⟩
    obtain ⟨vals, h3⟩ := ih h2
    refine ⟨v :: vals, fun pre F => ⟨fun I hI _ => ?_, ?_⟩⟩
    · have e : (pre ++ v :: vals).getD pre.length undef = v := by simp [List.getD_eq_getElem?_getD]
      rcases h1 I hI with ⟨hw, hq⟩ | ⟨hw, rfl⟩
      · rw [if_pos hw]
        exact hq _ ⟨rfl, .rfl, e.symm⟩
      · rw [if_neg (by simp [hw])]
        exact e.symm
    · have e : (pre ++ v :: vals).getD pre.length undef = v := by simp [List.getD_eq_getElem?_getD]
      have := h3 (pre ++ [v]) F
      simp only [List.append_assoc, List.cons_append, List.nil_append, List.length_append, List.length_cons, List.length_nil, Nat.zero_add] at this
      simp only [e]
      exact this
theorem run_drawE {l : List Oper} (hm : P.follows .mixedOrders = true) (m : Nat) {id : Nat} {a0 : Act} {I0 : Hp} {cs : List (Nat × Obj)} (hck : okDraw l.toArray m = true)
    (hdst : (l.all fun o => match o.dst with | none => true | some t => decide (t < a0.tmps.size)) = true)
    (h : oblE P l.toArray I0 cs (fun a' => OpsR P l.toArray (l.drop m) Q a' ⟨I0, cs⟩) (l.take m) a0) : Run P (.region id l.toArray true) Q a0 ⟨I0, cs⟩ := by
  obtain ⟨vals, hv⟩ := oblE_obl (l.take m) h
  have := hv [] (fun _ => True)
  refine run_draw hm m hck hdst (φs := fun j => .eq (([] ++ vals).getD j undef)) ?_
  exact obl_fin_mono (fun a F hf I hI _ => opsR_gh (Gh.less hI) hf) _ this
end
/-- The I-part alone. -/
theorem Gh.drop {I : Hp} {p : Nat × Obj} {cs : List (Nat × Obj)} : Gh ⟨I, p :: cs⟩ ⟨I, cs⟩ := Gh.sub (List.sublist_cons_self p cs)
theorem Gh.drop2 {I : Hp} {p q : Nat × Obj} {cs : List (Nat × Obj)} : Gh ⟨I, p :: q :: cs⟩ ⟨I, cs⟩ := Gh.drop.trans Gh.drop
theorem Gh.drop3 {I : Hp} {p q r : Nat × Obj} {cs : List (Nat × Obj)} : Gh ⟨I, p :: q :: r :: cs⟩ ⟨I, cs⟩ := Gh.drop.trans Gh.drop2
theorem Gh.drop4 {I : Hp} {p q r t : Nat × Obj} {cs : List (Nat × Obj)} : Gh ⟨I, p :: q :: r :: t :: cs⟩ ⟨I, cs⟩ := Gh.drop.trans Gh.drop3
end Go.Proofs.YtcnbcblihepbmaaGreatDoor
