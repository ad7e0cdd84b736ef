/- The best and the pick: the plain law. -/
import Derived.Test.YtopimbpclgejhaaGreatDoorSC1
import Derived.Test.YtopimbpclgejhaaGreatDoorSC2
set_option autoImplicit false
set_option linter.unusedVariables false
set_option linter.unusedSimpArgs false
namespace Go.Proofs.YtopimbpclgejhaaGreatDoor
open Go Go.RowKit
section
variable {scores : List Int} {may : List Bool}
theorem bestN_char (n : Nat) : (bestN scores may n = [] ∧ ∀ j, j < n → may[j]! = false) ∨
    (bestN scores may n ≠ [] ∧ ∃ t, (∀ j, j < n → may[j]! = true → scores[j]! ≤ t) ∧ ∀ x : Int, x ∈ bestN scores may n ↔ ∃ j, j < n ∧ x = (j : Int) ∧ may[j]! = true ∧ scores[j]! = t) := by
  induction n with
  | zero => exact .inl ⟨rfl, fun j hj => absurd hj (Nat.not_lt_zero j)⟩
  | succ n ih =>
    by_cases hm : may[n]! = true
    · rcases ih with ⟨h1, h2⟩ | ⟨h1, t, h2, h3⟩
      · refine .inr ?_
        have e : bestN scores may (n + 1) = [(n : Int)] := by simp only [bestN, bestStep]; rw [if_pos hm, if_pos h1]
        rw [e]
        refine ⟨by simp, scores[n]!, fun j hj hmj => ?_, fun x => ?_⟩
        · by_cases hjn : j = n
          · subst hjn; omega
          · have := h2 j (by omega); rw [this] at hmj; cases hmj
        · constructor
          · intro hx
            simp at hx
            exact ⟨n, by omega, hx, hm, rfl⟩
          · rintro ⟨j, hj, rfl, hmj, _⟩
            by_cases hjn : j = n
            · subst hjn; simp
            · have := h2 j (by omega); rw [this] at hmj; cases hmj
      · have hlen : 0 < (bestN scores may n).length := List.length_pos_iff.2 h1
        have h0 := (h3 _).1 (mem_get! hlen)
        obtain ⟨j0, hj0, e0, hm0, ht0⟩ := h0
        have et : scores[(bestN scores may n)[0]!.toNat]! = t := by rw [e0, Int.toNat_natCast]; exact ht0
        refine .inr ?_
        by_cases hgt : t < scores[n]!
        · have e : bestN scores may (n + 1) = [(n : Int)] := by simp only [bestN, bestStep]; rw [if_pos hm, if_neg h1, et, if_pos hgt]
          rw [e]
          refine ⟨by simp, scores[n]!, fun j hj hmj => ?_, fun x => ?_⟩
          · by_cases hjn : j = n
            · subst hjn; omega
            · have := h2 j (by omega) hmj; omega
          · constructor
            · intro hx
              simp at hx
              exact ⟨n, by omega, hx, hm, rfl⟩
            · rintro ⟨j, hj, rfl, hmj, hsj⟩
              by_cases hjn : j = n
              · subst hjn; simp
              · have := h2 j (by omega) hmj; omega
        · by_cases heq : scores[n]! = t
          · have e : bestN scores may (n + 1) = bestN scores may n ++ [(n : Int)] := by simp only [bestN, bestStep]; rw [if_pos hm, if_neg h1, et, if_neg hgt, if_pos heq]
            rw [e]
            refine ⟨by simp, t, fun j hj hmj => ?_, fun x => ?_⟩
            · by_cases hjn : j = n
              · subst hjn; omega
              · exact h2 j (by omega) hmj
            · rw [List.mem_append]
              constructor
              · rintro (hx | hx)
                · obtain ⟨j, a, b, c, d⟩ := (h3 x).1 hx
                  exact ⟨j, by omega, b, c, d⟩
                · simp at hx
                  exact ⟨n, by omega, hx, hm, heq⟩
              · rintro ⟨j, hj, rfl, hmj, hsj⟩
                by_cases hjn : j = n
                · subst hjn; exact .inr (by simp)
                · exact .inl ((h3 _).2 ⟨j, by omega, rfl, hmj, hsj⟩)
          · have e : bestN scores may (n + 1) = bestN scores may n := by simp only [bestN, bestStep]; rw [if_pos hm, if_neg h1, et, if_neg hgt, if_neg heq]
            rw [e]
            refine ⟨h1, t, fun j hj hmj => ?_, fun x => ?_⟩
            · by_cases hjn : j = n
              · subst hjn; omega
              · exact h2 j (by omega) hmj
            · rw [h3]
              constructor
              · rintro ⟨j, a, b, c, d⟩; exact ⟨j, by omega, b, c, d⟩
              · rintro ⟨j, a, b, c, d⟩
                by_cases hjn : j = n
                · subst hjn; omega
                · exact ⟨j, by omega, b, c, d⟩
    · have hf : may[n]! = false := by simpa using hm
      have e : bestN scores may (n + 1) = bestN scores may n := by simp only [bestN, bestStep]; rw [if_neg hm]
      rw [e]
      rcases ih with ⟨h1, h2⟩ | ⟨h1, t, h2, h3⟩
      · exact .inl ⟨h1, fun j hj => by by_cases hjn : j = n
                                       · subst hjn; exact hf
                                       · exact h2 j (by omega)⟩
      · refine .inr ⟨h1, t, fun j hj hmj => ?_, fun x => ?_⟩
        · by_cases hjn : j = n
          · subst hjn; rw [hf] at hmj; cases hmj
          · exact h2 j (by omega) hmj
        · rw [h3]
          constructor
          · rintro ⟨j, a, b, c, d⟩; exact ⟨j, by omega, b, c, d⟩
          · rintro ⟨j, a, b, c, d⟩
            by_cases hjn : j = n
            · subst hjn; rw [hf] at c; cases c
            · exact ⟨j, by omega, b, c, d⟩
theorem may_lt {j : Nat} (h : may[j]! = true) : j < may.length := by
  refine Classical.byContradiction fun hc => ?_
  rw [getElem!_neg may j hc] at h; cases h
/-- What the pick is. -/
theorem pick_facts (draw : Int) (hb : scores.length ≤ 9223372036854775807) :
    (bestN scores may scores.length = [] ∧ pickOf (bestN scores may scores.length) draw = -1 ∧ ∀ j, j < scores.length → may[j]! = false) ∨
    (∃ k : Nat, pickOf (bestN scores may scores.length) draw = (k : Int) ∧ k < scores.length ∧ k < may.length ∧ may[k]! = true ∧ (k : Int) ∈ bestN scores may scores.length ∧
      ∀ j, j < scores.length → ¬ (may[j]! = true ∧ scores[j]! > scores[k]!) ∧ ((j : Int) ∈ bestN scores may scores.length ↔ may[j]! = true ∧ scores[j]! = scores[k]!)) := by
  rcases bestN_char (scores := scores) (may := may) scores.length with ⟨h1, h2⟩ | ⟨h1, t, h2, h3⟩
  · exact .inl ⟨h1, by rw [h1]; rfl, h2⟩
  · right
    have hlen := bestN_len scores may scores.length
    have hpos : 0 < (bestN scores may scores.length).length := List.length_pos_iff.2 h1
    have hbd := pick_bd draw hpos (by omega)
    have hmem : pickOf (bestN scores may scores.length) draw ∈ bestN scores may scores.length := by
      rw [pickOf, if_neg h1]
      exact mem_get! (by omega)
    obtain ⟨k, a, b, c, d⟩ := (h3 _).1 hmem
    refine ⟨k, b, a, may_lt c, c, b ▸ hmem, fun j hj => ⟨?_, ?_⟩⟩
    · rintro ⟨m1, m2⟩
      have := h2 j hj m1; omega
    · rw [h3]
      constructor
      · rintro ⟨j', e1, e2, e3, e4⟩
        have : j = j' := by omega
        subst this
        exact ⟨e3, by omega⟩
      · rintro ⟨m1, m2⟩
        exact ⟨j, hj, rfl, m1, by omega⟩
theorem pick_each {l : List Int} {d : Nat} (h : d < l.length) (hb : l.length ≤ 9223372036854775807) : pickOf l (d : Int) = l[d]! := by
  have hne : l ≠ [] := fun e => by subst e; simp at h
  rw [pickOf, if_neg hne, wrap_u64_id (by omega) (by omega), wrap_u64_id (n := (l.length : Int)) (by omega) (by omega), Int.tmod_eq_emod_of_nonneg (by omega), Int.emod_eq_of_lt (by omega) (by omega), Int.toNat_natCast]
end
theorem Q.clamp_mono {a b : Int} (h : a ≤ b) : Q.clamp a ≤ Q.clamp b := by unfold Q.clamp; omega
theorem Q.share_mono {a b o sc : Int} (h : a ≤ b) : Q.share a o sc ≤ Q.share b o sc := by
  unfold Q.share
  split
  · omega
  · rename_i ho
    have h1 := Q.clamp_lo o
    have h2 : Q.clamp a * min (max sc 0) 1000 ≤ Q.clamp b * min (max sc 0) 1000 := Int.mul_le_mul_of_nonneg_right (Q.clamp_mono h) (by omega)
    have h3 := Int.ediv_le_ediv (show 0 < Q.clamp o by omega) h2
    omega
theorem least_used (give used want more : Res) : leastOf give (Res.plus used more) want ≤ leastOf give used want := by
  have key : ∀ g u w m, Q.sub (Q.sub g (Q.add u m)) w ≤ Q.sub (Q.sub g u) w := by
    intro g u w m
    unfold Q.sub Q.add
    have h1 := Q.clamp_lo m; have h2 := Q.clamp_lo u; have h3 := Q.clamp_hi u
    refine Q.clamp_mono ?_
    have : Q.clamp (Q.clamp (Q.clamp g - Q.clamp (Q.clamp (Q.clamp u + Q.clamp m)))) ≤ Q.clamp (Q.clamp (Q.clamp g - Q.clamp u)) := by
      refine Q.clamp_mono (Q.clamp_mono ?_)
      have : Q.clamp u ≤ Q.clamp (Q.clamp (Q.clamp u + Q.clamp m)) := by
        generalize Q.clamp u = x at *
        generalize Q.clamp m = y at *
        unfold Q.clamp; omega
      omega
    omega
  simp only [leastOf, Res.minus, Res.plus]
  have h1 := Q.share_mono (o := give.CPU) (sc := 100) (key give.CPU used.CPU want.CPU more.CPU)
  have h2 := Q.share_mono (o := give.Mem) (sc := 100) (key give.Mem used.Mem want.Mem more.Mem)
  omega
theorem least_want (give used want more : Res) : leastOf give used (Res.plus want more) ≤ leastOf give used want := by
  have key : ∀ g u w m, Q.sub (Q.sub g u) (Q.add w m) ≤ Q.sub (Q.sub g u) w := by
    intro g u w m
    unfold Q.sub Q.add
    have h1 := Q.clamp_lo m; have h2 := Q.clamp_lo w; have h3 := Q.clamp_hi w
    refine Q.clamp_mono ?_
    have : Q.clamp w ≤ Q.clamp (Q.clamp (Q.clamp w + Q.clamp m)) := by
      generalize Q.clamp w = x at *
      generalize Q.clamp m = y at *
      unfold Q.clamp; omega
    omega
  simp only [leastOf, Res.minus, Res.plus]
  have h1 := Q.share_mono (o := give.CPU) (sc := 100) (key give.CPU used.CPU want.CPU more.CPU)
  have h2 := Q.share_mono (o := give.Mem) (sc := 100) (key give.Mem used.Mem want.Mem more.Mem)
  omega
end Go.Proofs.YtopimbpclgejhaaGreatDoor
