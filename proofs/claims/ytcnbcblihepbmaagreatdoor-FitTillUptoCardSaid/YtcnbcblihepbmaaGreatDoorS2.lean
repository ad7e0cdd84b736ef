/- Symbolic states: operations one behind the other, code, loops, calls. It holds for every program. -/
import Derived.Test.YtcnbcblihepbmaaGreatDoorS1
import Derived.Deep.LoopGhost
set_option autoImplicit false
set_option linter.unusedVariables false
set_option linter.unusedSimpArgs false
namespace Go.Proofs.YtcnbcblihepbmaaGreatDoor
open Go Go.RowKit

/-- A call from a symbolic state: it returns, and K holds of what it returns and of the state behind it. -/
def CallS (P : Program) (f : FuncId) (args : Array Value) (s : St) (K : Value → St → Prop) : Prop :=
  ∀ w, Sat s w → Calls P f args w fun e w' => ∃ v s', e = .returned v ∧ Sat s' w' ∧ Ext w w' ∧ K v s'
theorem CallS.mono {P : Program} {f : FuncId} {args : Array Value} {s : St} {K K' : Value → St → Prop} (h : CallS P f args s K) (hk : ∀ v s', K v s' → K' v s') : CallS P f args s K' :=
  fun w hs => (h w hs).mono fun _ _ ⟨v, s', e, a, b, c⟩ => ⟨v, s', e, a, b, hk _ _ c⟩

def nextS (P : Program) (K : Value → St → Prop) : Next → St → Prop
  | .value v, s => K v s
  | .skip, s => K undef s
  | .enter f args, s => CallS P f args s K
  | _, _ => False
def opS (P : Program) (o : Oper) (ρ : Operand → Value) (s : St) (K : Value → St → Prop) : Prop := swp P (execOp ρ o) s (nextS P K)

/-- A post over symbolic states as one over worlds. -/
def lift (w0 : World) (Q : Exit → Act → St → Prop) (e : Exit) (a : Act) (w : World) : Prop := ∃ s, Sat s w ∧ Ext w0 w ∧ Q e a s
def Run (P : Program) (c : Code) (Q : Exit → Act → St → Prop) (a : Act) (s : St) : Prop :=
  ∀ w0 w, Sat s w → Ext w0 w → c.wp P (lift w0 Q) a w

/-- Operations one behind the other. -/
def OpsR (P : Program) (ops : Array Oper) (l : List Oper) (Q : Exit → Act → St → Prop) (a : Act) (s : St) : Prop :=
  ∀ w0 w, Sat s w → Ext w0 w → wpList P ops (lift w0 Q) l a w
/-- What is known less of a state, or told otherwise. -/
def Gh (s s' : St) : Prop := ∀ w, Sat s w → Sat s' w

section
variable {P : Program} {Q : Exit → Act → St → Prop} {a : Act} {s : St}

theorem opS_wp {o : Oper} {K : Value → St → Prop} {w0 w : World} {next : Act → World → Prop} {R : Exit → Act → World → Prop} (h : opS P o a.eval s K) (hs : Sat s w) (he : Ext w0 w)
    (hn : ∀ v s' w', K v s' → Sat s' w' → Ext w0 w' → next (a.put o.dst v) w') : o.wp P a w next R := by
  obtain ⟨nx, s', w', hr, hs', hx, hk⟩ := swp_sound _ h hs
  simp only [Oper.wp, hr]
  have hx' := he.trans hx
  cases nx with
  | value v => exact hn v s' w' hk hs' hx'
  | skip => exact hn undef s' w' hk hs' hx'
  | enter f args =>
    simp only [Oper.upon]
    refine (hk w' hs').mono ?_
    rintro e w'' ⟨v, s'', rfl, a1, a2, a3⟩
    exact hn v s'' w'' a3 a1 (hx'.trans a2)
  | _ => exact hk.elim
theorem opsR_nil {ops : Array Oper} (h : Q .normal a s) : OpsR P ops [] Q a s := fun _ _ hs he => ⟨s, hs, he, h⟩
theorem opsR_o {ops : Array Oper} {o : Oper} {rest : List Oper} (hg : Region.wanted o (yielded ops a.tmps) = true) (h : opS P o a.eval s (fun v s' => OpsR P ops rest Q (a.put o.dst v) s')) : OpsR P ops (o :: rest) Q a s := by
  intro w0 w hs he
  simp only [wpList, hg, if_true]
  exact .inl (opS_wp h hs he fun v s' w' k a1 a2 => k w0 w' a1 a2)
theorem opsR_skip {ops : Array Oper} {o : Oper} {rest : List Oper} (hg : Region.wanted o (yielded ops a.tmps) = false) (h : OpsR P ops rest Q (a.put o.dst undef) s) : OpsR P ops (o :: rest) Q a s := by
  intro w0 w hs he
  simp only [wpList, hg]
  exact h w0 w hs he
theorem opsR_gh {ops : Array Oper} {l : List Oper} {s' : St} (hg : Gh s s') (h : OpsR P ops l Q a s') : OpsR P ops l Q a s := fun w0 w hs he => h w0 w (hg w hs) he
theorem run_gh {c : Code} {s' : St} (hg : Gh s s') (h : Run P c Q a s') : Run P c Q a s := fun w0 w hs he => h w0 w (hg w hs) he
theorem CallS.gh {f : FuncId} {args : Array Value} {K : Value → St → Prop} {s' : St} (hg : Gh s s') (h : CallS P f args s' K) : CallS P f args s K := fun w hs => h w (hg w hs)
theorem Gh.refl : Gh s s := fun _ h => h
theorem Gh.trans {s1 s2 s3 : St} (h : Gh s1 s2) (k : Gh s2 s3) : Gh s1 s3 := fun w hs => k w (h w hs)
theorem Gh.sub {I : Hp} {cs cs' : List (Nat × Obj)} (h : List.Sublist cs' cs) : Gh ⟨I, cs⟩ ⟨I, cs'⟩ := fun w hs =>
  ⟨hs.imm, fun p hp => hs.own p (h.subset hp), hs.nodup.sublist (h.map _)⟩
theorem Gh.perm {I : Hp} {cs cs' : List (Nat × Obj)} (h : List.Perm cs' cs) : Gh ⟨I, cs⟩ ⟨I, cs'⟩ := fun w hs =>
  ⟨hs.imm, fun p hp => hs.own p (h.subset hp), ((h.map _).nodup_iff).2 hs.nodup⟩
theorem Gh.less {I J : Hp} {cs : List (Nat × Obj)} (h : Hp.le J I) : Gh ⟨I, cs⟩ ⟨J, cs⟩ := fun w hs =>
  ⟨fun b o hb => hs.imm b o (h b o hb), fun p hp => ⟨(hs.own p hp).1, by
    have := (hs.own p hp).2
    cases hj : J p.1 with
    | none => exact hj
    | some o => have h2 := h _ _ hj; simp only at this; rw [this] at h2; cases h2⟩, hs.nodup⟩
def Hp.put (I : Hp) (b : Nat) (o : Obj) : Hp := fun c => if c = b then some o else I c
theorem Hp.le_put {I : Hp} {b : Nat} {o : Obj} (h : I b = none) : Hp.le I (I.put b o) := fun c u hc => by
  unfold Hp.put
  rw [if_neg (fun e => by subst e; rw [h] at hc; cases hc)]; exact hc
/-- A block that the code owns turns no more. -/
theorem Gh.freeze {I : Hp} {cs : List (Nat × Obj)} {b : Nat} {o : Obj} : Gh ⟨I, (b, o) :: cs⟩ ⟨I.put b o, cs⟩ := fun w hs => by
  obtain ⟨h1, h2⟩ := hs.own (b, o) (by simp)
  have hnd := hs.nodup
  simp only [List.map_cons, List.nodup_cons] at hnd
  refine ⟨fun c u hc => ?_, fun p hp => ⟨(hs.own p (by simp [hp])).1, ?_⟩, hnd.2⟩
  · simp only [Hp.put] at hc
    by_cases e : c = b
    · subst e; rw [if_pos rfl] at hc; cases hc; exact h1
    · rw [if_neg e] at hc; exact hs.imm c u hc
  · simp only [Hp.put]
    rw [if_neg (fun e => hnd.1 (List.mem_map.2 ⟨p, hp, e⟩))]
    exact (hs.own p (by simp [hp])).2

theorem run_mono {c : Code} {Q' : Exit → Act → St → Prop} (h : Run P c Q a s) (hq : ∀ e a s, Q e a s → Q' e a s) : Run P c Q' a s :=
  fun w0 w hs he => wp_mono (h w0 w hs he) fun _ _ _ ⟨s', a1, a2, a3⟩ => ⟨s', a1, a2, hq _ _ _ a3⟩
theorem run_skip (h : Q .normal a s) : Run P .skip Q a s := fun _ _ hs he => wp_skip ⟨s, hs, he, h⟩
theorem run_ret (h : Q .ret a s) : Run P .ret Q a s := fun _ _ hs he => wp_ret ⟨s, hs, he, h⟩
theorem run_exit {id : Nat} (h : Q (.exit id) a s) : Run P (.exit id) Q a s := fun _ _ hs he => wp_exit ⟨s, hs, he, h⟩
def thenQ (K : Act → St → Prop) (Q : Exit → Act → St → Prop) : Exit → Act → St → Prop
  | .normal, a, s => K a s
  | e, a, s => Q e a s
theorem run_seq {x y : Code} (h : ∀ K : Act → St → Prop, (∀ a s, Run P y Q a s → K a s) → Run P x (thenQ K Q) a s) : Run P (.seq x y) Q a s := by
  intro w0 w hs he
  refine wp_seq (wp_mono (h _ (fun _ _ k => k) w0 w hs he) ?_)
  rintro e a' w' ⟨s', a1, a2, a3⟩
  cases e with
  | normal => exact a3 w0 w' a1 a2
  | _ => exact ⟨s', a1, a2, a3⟩
def blockQ (id : Nat) (Q : Exit → Act → St → Prop) : Exit → Act → St → Prop
  | .exit id', a, s => if id' = id then Q .normal a s else Q (.exit id') a s
  | e, a, s => Q e a s
theorem run_block {id : Nat} {c : Code} (h : Run P c (blockQ id Q) a s) : Run P (.block id c) Q a s := by
  intro w0 w hs he
  refine wp_block (wp_mono (h w0 w hs he) ?_)
  rintro e a' w' ⟨s', a1, a2, a3⟩
  cases e with
  | exit id' =>
    simp only [Exit.inBlock, blockQ] at a3 ⊢
    split
    · rename_i h1; rw [if_pos h1] at a3; exact ⟨s', a1, a2, a3⟩
    · rename_i h1; rw [if_neg h1] at a3; exact ⟨s', a1, a2, a3⟩
  | _ => exact ⟨s', a1, a2, a3⟩
theorem run_cond {c : Operand} {x y : Code} {t : Bool} (hc : a.eval c = .bool t) (ht : t = true → Run P x Q a s) (hf : t = false → Run P y Q a s) : Run P (.cond c x y) Q a s := by
  intro w0 w hs he
  refine wp_cond_split hc (fun h => ht h w0 w hs he) (fun h => hf h w0 w hs he)
theorem run_region {id : Nat} {ops : List Oper} (h : OpsR P ops.toArray ops Q a s) : Run P (.region id ops.toArray false) Q a s :=
  fun w0 w hs he => wp_region_lit (h w0 w hs he)
/-- A loop: J n: what holds at a round's head when at most n rounds are to come. -/
theorem run_loop {c : Code} (J : Nat → Act → St → Prop) (n0 : Nat) (h0 : J n0 a s)
    (round : ∀ n a s, J n a s → ∀ K : Act → St → Prop, (∀ a' s' n', n' < n → J n' a' s' → K a' s') → Run P c (thenQ K Q) a s) : Run P (.loop c) Q a s := by
  intro w0 w hs he
  refine wp_loop_ghost (fun n a w => ∃ s, Sat s w ∧ Ext w0 w ∧ J n a s) n0 ⟨s, hs, he, h0⟩ ?_
  rintro n a w ⟨s, hs, he, hj⟩
  refine wp_mono (round n a s hj (fun a' s' => ∃ n', n' < n ∧ J n' a' s') (fun a' s' n' h1 h2 => ⟨n', h1, h2⟩) w0 w hs he) ?_
  rintro e a' w' ⟨s', a1, a2, a3⟩
  cases e with
  | normal => obtain ⟨n', h1, h2⟩ := a3; exact ⟨n', h1, s', a1, a2, h2⟩
  | _ => exact ⟨s', a1, a2, a3⟩

/-- What only reads. -/
def rwp (P : Program) {α : Type} : Sem α → St → (α → Prop) → Prop
  | .pure a, _, K => K a
  | .load _ a k, s, K => ∃ v c e f, a.spot = none ∧ s.has a.block (.cells c e f) ∧ c[a.off]? = some v ∧ rwp P (k v) s K
  | .program k, s, K => rwp P (k P) s K
  | .shape r k, s, K => ∃ o, s.has r o ∧ rwp P (k (oShape o)) s K
  | _, _, _ => False
theorem rwp_sound {α : Type} (m : Sem α) : ∀ {s : St} {w : World} {K : α → Prop}, rwp P m s K → Sat s w → ∃ a, m.run P w = .ok a w ∧ K a := by
  induction m with
  | pure a => exact fun h _ => ⟨a, rfl, h⟩
  | load m a k ih =>
    intro s w K h hs
    obtain ⟨v, c, e, f, h1, h2, h3, h4⟩ := h
    obtain ⟨x, r, q⟩ := ih v h4 hs
    exact ⟨x, by simp only [Sem.run, cell_of_has hs h1 h2 h3]; exact r, q⟩
  | program k ih => exact fun h hs => ih P h hs
  | shape r k ih =>
    intro s w K h hs
    obtain ⟨o, h1, h2⟩ := h
    obtain ⟨x, e, q⟩ := ih _ h2 hs
    refine ⟨x, ?_, q⟩
    have : w.shape? r = oShape o := by
      simp only [World.shape?, hs.has h1]; cases o <;> rfl
    simp only [Sem.run, this]; exact e
  | _ => exact fun h => h.elim
theorem rwp_bind {α β : Type} (m : Sem α) (f : α → Sem β) : ∀ (s : St) (K : β → Prop), rwp P (m.bind f) s K = rwp P m s (fun a => rwp P (f a) s K) := by
  induction m with
  | pure a => exact fun _ _ => rfl
  | load m a k ih => intro s K; simp only [Sem.bind, rwp, ih]
  | program k ih => intro s K; simp only [Sem.bind, rwp, ih]
  | shape r k ih => intro s K; simp only [Sem.bind, rwp, ih]
  | _ => intro s K; rfl
theorem rwp_bind' {α β : Type} (m : Sem α) (f : α → Sem β) (s : St) (K : β → Prop) : rwp P (m >>= f) s K = rwp P m s (fun a => rwp P (f a) s K) := rwp_bind m f s K
/-- A function's end. -/
def endQ (P : Program) (fn : Func) (K : Value → St → Prop) (e : Exit) (a : Act) (s : St) : Prop :=
  (match e with | .normal | .ret => True | _ => False) ∧ a.defers = [] ∧ ∃ s', Gh s s' ∧ rwp P (results fn a.tmps) s (fun v => K v s')
theorem callS_of_run {f : FuncId} {fn : Func} {c : Code} {args : Array Value} {K : Value → St → Prop} (hf : P.funcs[f]? = some fn) (hb : fn.body = some c)
    (h : Run P c (endQ P fn K) { tmps := args ++ Array.replicate (fn.ntmps - args.size) undef, defers := [] } s) : CallS P f args s K := by
  intro w hs
  refine calls_of_wp hf hb (wp_mono (h w w hs .rfl) ?_)
  rintro e a w' ⟨s1, a1, a2, a3, a4, s', g, a5⟩
  obtain ⟨v, r, b3⟩ := rwp_sound _ a5 a1
  have a1 := g w' a1
  cases e with
  | normal => exact ⟨a4, v, r, v, s', rfl, a1, a2, b3⟩
  | ret => exact ⟨a4, v, r, v, s', rfl, a1, a2, b3⟩
  | _ => exact a3.elim
end
end Go.Proofs.YtcnbcblihepbmaaGreatDoor
