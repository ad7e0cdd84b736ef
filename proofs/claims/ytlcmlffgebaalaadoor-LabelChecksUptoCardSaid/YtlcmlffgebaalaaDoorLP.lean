/- What labels meet: the plain laws. -/
import Derived.Test.YtlcmlffgebaalaaDoorLD
set_option autoImplicit false
set_option linter.unusedVariables false
set_option linter.unusedSimpArgs false
namespace Go.Proofs.YtlcmlffgebaalaaDoor
open Go Go.RowKit
theorem meets_in (l : List Label) (k : ByteArray) (ws : List ByteArray) : meetsOf l ⟨k, 1, ws⟩ = inOf (getOf l k) ws := by simp [meetsOf]
theorem meets_out (l : List Label) (k : ByteArray) (ws : List ByteArray) : meetsOf l ⟨k, 2, ws⟩ = !inOf (getOf l k) ws := by simp [meetsOf]
theorem meets_is (l : List Label) (k : ByteArray) (ws : List ByteArray) : meetsOf l ⟨k, 3, ws⟩ = (getOf l k).isSome := by simp [meetsOf]
theorem meets_lacks (l : List Label) (k : ByteArray) (ws : List ByteArray) : meetsOf l ⟨k, 4, ws⟩ = !(getOf l k).isSome := by simp [meetsOf]
theorem in_is {g : Option ByteArray} {ws : List ByteArray} (h : inOf g ws = true) : g.isSome = true := by
  cases g with
  | none => cases h
  | some x => rfl
theorem match_app (l : List Label) (a b : List Req) : matchOf l (a ++ b) = (matchOf l a && matchOf l b) := by simp [matchOf, List.all_append]
theorem match_nil (l : List Label) : matchOf l [] = true := rfl
theorem get_apart (a b : List Label) (x : Label) (k : ByteArray) (h : ¬ x.Key = k) : getOf (a ++ [x] ++ b) k = getOf (a ++ b) k := by
  simp only [getOf, List.find?_append, List.find?_cons, List.find?_nil, decide_eq_false h, Option.or_none]
theorem meets_apart (a b : List Label) (x : Label) (r : Req) (h : ¬ x.Key = r.Key) : meetsOf (a ++ [x] ++ b) r = meetsOf (a ++ b) r := by
  simp only [meetsOf, get_apart a b x r.Key h]
theorem meets_apart' (l : List Label) (k : Nat) (x : Label) (r : Req) (h : ¬ x.Key = r.Key) : meetsOf (l.take k ++ [x] ++ l.drop k) r = meetsOf l r := by
  rw [meets_apart _ _ _ _ h, List.take_append_drop]
end Go.Proofs.YtlcmlffgebaalaaDoor
