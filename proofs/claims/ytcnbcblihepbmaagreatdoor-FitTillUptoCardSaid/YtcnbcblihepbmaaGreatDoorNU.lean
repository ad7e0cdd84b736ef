/- Numerals: what is read of a text and told again. It holds for every program. -/
import Derived.Lib.ItoaNum
import Derived.Lib.AtoiTie
import Derived.Lib.AtoiAllCases
set_option autoImplicit false
set_option linter.unusedSimpArgs false
set_option linter.unusedVariables false
namespace Go.Proofs.YtcnbcblihepbmaaGreatDoor
open Go
/-- The number of digits, at most so many, without a 0 ahead of others. -/
def whole (dg : Nat) (l : List UInt8) : Option Nat := if l = [] ∨ dg < l.length ∨ (1 < l.length ∧ l.head? = some 48) then none else Lib.decFrom 0 l
theorem digitVal_of {d : Nat} (h : d < 10) : Lib.digitVal (UInt8.ofNat (48 + d)) = some d := by
  have e : (UInt8.ofNat (48 + d)).toNat = 48 + d := by
    rw [UInt8.toNat_ofNat']; omega
  unfold Lib.digitVal
  rw [e, if_pos (by omega)]
  simp
theorem decFrom_append (l : List UInt8) (b : UInt8) : ∀ acc, Lib.decFrom acc (l ++ [b]) = (Lib.decFrom acc l).bind fun n => (Lib.digitVal b).map fun d => n * 10 + d := by
  induction l with
  | nil =>
    intro acc
    simp only [List.nil_append, Lib.decFrom, Option.bind_some]
    cases Lib.digitVal b <;> rfl
  | cons x r ih =>
    intro acc
    simp only [List.cons_append, Lib.decFrom]
    cases Lib.digitVal x with
    | none => rfl
    | some d => exact ih _
theorem decDigits_big {u : Nat} (h : ¬ u < 10) : Lib.decDigits u = Lib.decDigits (u / 10) ++ [UInt8.ofNat (48 + u % 10)] := by
  rw [Lib.decDigits, dif_neg h]
theorem decFrom_decDigits (u : Nat) : Lib.decFrom 0 (Lib.decDigits u) = some u := by
  induction u using Nat.strongRecOn with
  | ind u ih =>
    by_cases h : u < 10
    · rw [Lib.decDigits_one h]
      simp only [Lib.decFrom, digitVal_of h]
      simp
    · rw [decDigits_big h, decFrom_append, ih (u / 10) (by omega)]
      simp only [Option.bind_some, digitVal_of (Nat.mod_lt u (by omega : 0 < 10)), Option.map_some]
      congr 1; omega
theorem decDigits_ne (u : Nat) : Lib.decDigits u ≠ [] := by
  intro h
  have := Lib.decDigits_length u
  rw [h] at this
  have := Lib.nDigits_pos u
  simp at *; omega
theorem ofNat_ne {d : Nat} (h : d < 10) (h0 : 0 < d) : UInt8.ofNat (48 + d) ≠ 48 := by
  intro e
  have : (UInt8.ofNat (48 + d)).toNat = 48 := by rw [e]; rfl
  rw [UInt8.toNat_ofNat'] at this; omega
theorem head_decDigits (u : Nat) (h0 : 0 < u) : (Lib.decDigits u).head? ≠ some 48 := by
  induction u using Nat.strongRecOn with
  | ind u ih =>
    by_cases h : u < 10
    · rw [Lib.decDigits_one h]
      intro e
      simp only [List.head?_cons, Option.some.injEq] at e
      exact ofNat_ne h h0 e
    · rw [decDigits_big h]
      have hne := decDigits_ne (u / 10)
      have := ih (u / 10) (by omega) (by omega)
      cases hd : Lib.decDigits (u / 10) with
      | nil => exact absurd hd hne
      | cons a r => rw [hd] at this; simpa using this
theorem eq_ofNat {b : UInt8} {d : Nat} (h : Lib.digitVal b = some d) : b = UInt8.ofNat (48 + d) ∧ d < 10 := by
  obtain ⟨h1, h2, h3⟩ := Lib.digitVal_eq h
  refine ⟨?_, by omega⟩
  apply UInt8.toNat_inj.1
  rw [UInt8.toNat_ofNat']; omega
theorem decFrom_pos (l : List UInt8) : ∀ {acc m : Nat}, Lib.decFrom acc l = some m → 0 < acc → 0 < m := by
  induction l with
  | nil => intro acc m h ha; simp only [Lib.decFrom, Option.some.injEq] at h; omega
  | cons b r ih =>
    intro acc m h ha
    simp only [Lib.decFrom] at h
    cases hd : Lib.digitVal b with
    | none => rw [hd] at h; cases h
    | some d => rw [hd] at h; exact ih h (by omega)
theorem decDigits_of (l : List UInt8) : ∀ {m : Nat}, l ≠ [] → Lib.decFrom 0 l = some m → (1 < l.length → l.head? ≠ some 48) → Lib.decDigits m = l := by
  suffices ∀ (n : Nat) (l : List UInt8), l.length = n → ∀ {m : Nat}, l ≠ [] → Lib.decFrom 0 l = some m → (1 < l.length → l.head? ≠ some 48) → Lib.decDigits m = l from fun {m} a b c => this l.length l rfl a b c
  intro n
  induction n with
  | zero => intro l hl m hne; exact absurd (List.eq_nil_of_length_eq_zero hl) hne
  | succ n ih =>
    intro l hl m hne h hz
    obtain ⟨r, b, rfl⟩ : ∃ r b, l = r ++ [b] := ⟨l.dropLast, l.getLast hne, (List.dropLast_concat_getLast hne).symm⟩
    rw [decFrom_append] at h
    cases hr : Lib.decFrom 0 r with
    | none => rw [hr] at h; cases h
    | some k =>
      cases hb : Lib.digitVal b with
      | none => rw [hr, hb] at h; cases h
      | some d =>
        rw [hr, hb] at h
        simp only [Option.bind_some, Option.map_some, Option.some.injEq] at h
        obtain ⟨rfl, hd⟩ := eq_ofNat hb
        by_cases hre : r = []
        · subst hre
          simp only [Lib.decFrom, Option.some.injEq] at hr
          subst hr
          rw [← h, Nat.zero_mul, Nat.zero_add, Lib.decDigits_one hd]; rfl
        · have hlen : r.length = n := by simpa using hl
          have hk : 0 < k := by
            cases r with
            | nil => exact absurd rfl hre
            | cons x r' =>
              simp only [Lib.decFrom] at hr
              cases hx : Lib.digitVal x with
              | none => rw [hx] at hr; cases hr
              | some e =>
                rw [hx] at hr
                obtain ⟨rfl, he⟩ := eq_ofNat hx
                refine decFrom_pos r' hr ?_
                have := hz (by simp)
                simp only [List.cons_append, List.head?_cons, ne_eq, Option.some.injEq] at this
                rcases Nat.eq_zero_or_pos e with rfl | h0
                · exact absurd rfl this
                · omega
          have hrd := ih r hlen (m := k) hre hr (fun h1 => by
            have := hz (by simp; omega)
            cases r with
            | nil => exact absurd rfl hre
            | cons x r' => simpa using this)
          have h10 : ¬ m < 10 := by omega
          rw [decDigits_big h10]
          have e1 : m / 10 = k := by omega
          have e2 : m % 10 = d := by omega
          rw [e1, e2, hrd]
theorem whole_iff {dg : Nat} {l : List UInt8} {m : Nat} : whole dg l = some m ↔ l.length ≤ dg ∧ Lib.decDigits m = l := by
  unfold whole
  constructor
  · intro h
    split at h
    · cases h
    · rename_i hn
      have h1 : l ≠ [] := fun e => hn (.inl e)
      have h2 : ¬ dg < l.length := fun e => hn (.inr (.inl e))
      exact ⟨by omega, decDigits_of l h1 h (fun a b => hn (.inr (.inr ⟨a, b⟩)))⟩
  · rintro ⟨h1, rfl⟩
    have hne := decDigits_ne m
    rw [if_neg]
    · exact decFrom_decDigits m
    · rintro (h | h | ⟨h, h2⟩)
      · exact hne h
      · omega
      · by_cases h0 : m < 10
        · rw [Lib.decDigits_one h0] at h; simp at h
        · exact head_decDigits m (by omega) h2
/-- What is read and told again as it was: a number of digits. -/
theorem atoi_whole {dg : Nat} {l : List UInt8} {n : Int} (hdg : dg ≤ 18) (h : Lib.atoiAll l = .ok n) : (0 ≤ n ∧ l.length ≤ dg ∧ Lib.itoa n = l) ↔ whole dg l = some n.toNat := by
  rw [whole_iff]
  constructor
  · rintro ⟨h0, h1, h2⟩
    refine ⟨h1, ?_⟩
    rw [Lib.itoa, if_neg (by omega)] at h2
    exact h2
  · rintro ⟨h1, h2⟩
    have h0 : 0 ≤ n := by
      refine Classical.byContradiction fun hn => ?_
      have e : n.toNat = 0 := by omega
      rw [e, Lib.decDigits_one (by omega)] at h2
      subst h2
      have : Lib.atoiAll [UInt8.ofNat (48 + 0)] = .ok 0 := by decide
      rw [this] at h
      injection h with h
      omega
    refine ⟨h0, h1, ?_⟩
    rw [Lib.itoa, if_neg (by omega)]
    exact h2
theorem digit_head (m : Nat) : ∃ c r, Lib.decDigits m = c :: r ∧ 48 ≤ c.toNat ∧ c.toNat ≤ 57 := by
  cases h : Lib.decDigits m with
  | nil => exact absurd h (decDigits_ne m)
  | cons c r =>
    refine ⟨c, r, rfl, ?_⟩
    have := decFrom_decDigits m
    rw [h] at this
    simp only [Lib.decFrom] at this
    cases hd : Lib.digitVal c with
    | none => rw [hd] at this; cases this
    | some d => obtain ⟨h1, h2, _⟩ := Lib.digitVal_eq hd; exact ⟨h1, h2⟩
/-- A number of digits is read. -/
theorem atoi_of_whole {dg : Nat} {l : List UInt8} {m : Nat} (hdg : dg ≤ 18) (h : whole dg l = some m) : Lib.atoiAll l = .ok (m : Int) := by
  obtain ⟨h1, rfl⟩ := whole_iff.1 h
  obtain ⟨c, r, hc, h3, h4⟩ := digit_head m
  have hd := decFrom_decDigits m
  rw [Lib.atoiAll_short _ (by omega), hc]
  have e1 : (c == 45) = false := by
    simp only [beq_eq_false_iff_ne, ne_eq]; intro e; subst e; simp at h3
  have e2 : (c == 43) = false := by
    simp only [beq_eq_false_iff_ne, ne_eq]; intro e; subst e; simp at h3
  simp only [Lib.atoi, e1, e2, Bool.false_eq_true, if_false, Lib.decNat, List.isEmpty_cons]
  rw [← hc, hd]; rfl
theorem whole_lt {dg : Nat} {l : List UInt8} {m : Nat} (hdg : dg ≤ 18) (h : whole dg l = some m) : m < 10 ^ dg := by
  obtain ⟨h1, rfl⟩ := whole_iff.1 h
  have := Lib.decFrom_lt _ _ _ (decFrom_decDigits m)
  have h2 : 10 ^ (Lib.decDigits m).length ≤ 10 ^ dg := Nat.pow_le_pow_right (by omega) h1
  omega
theorem whole_none {dg : Nat} {l : List UInt8} {n : Int} (hdg : dg ≤ 18) (h : Lib.atoiAll l = .ok n) (hn : ¬ (0 ≤ n ∧ l.length ≤ dg ∧ Lib.itoa n = l)) : whole dg l = none := by
  cases hw : whole dg l with
  | none => rfl
  | some m =>
    have := atoi_of_whole hdg hw
    rw [this] at h
    injection h with h
    subst h
    exact absurd ((atoi_whole hdg this).2 (by rw [hw]; simp)) hn
theorem whole_none' {dg : Nat} {l : List UInt8} (hdg : dg ≤ 18) (h : ∀ n, Lib.atoiAll l ≠ .ok n) : whole dg l = none := by
  cases hw : whole dg l with
  | none => rfl
  | some m => exact absurd (atoi_of_whole hdg hw) (h _)
end Go.Proofs.YtcnbcblihepbmaaGreatDoor
