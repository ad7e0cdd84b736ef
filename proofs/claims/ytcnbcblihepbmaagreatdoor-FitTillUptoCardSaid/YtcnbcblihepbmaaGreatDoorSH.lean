/- Contracts of Go's library, off the kit's shelf, as contracts over symbolic states. -/
import Derived.Test.YtcnbcblihepbmaaGreatDoorShelf
import Derived.Test.YtcnbcblihepbmaaGreatDoorS18
import Derived.Test.YtcnbcblihepbmaaGreatDoorTy
import Derived.Test.YtcnbcblihepbmaaGreatDoorNU
import Derived.Lib.SmallJoins
import Derived.Lib.AppendIntMem
set_option autoImplicit false
set_option linter.unusedSimpArgs false
set_option linter.unusedVariables false
namespace Go.Proofs.YtcnbcblihepbmaaGreatDoor
open Go Go.RowKit
/-- What the library's variables hold. -/
structure Tabs (I : Hp) : Prop where
  pow : ∃ e f, I 2 = some (.cells (Lib.pow10Tab.map fun z => Value.int .u64 z).toArray e f)
  syn : ∃ u x e f, I 0 = some (.cells #[.iface u x] e f)
  rng : ∃ u x e f, I 1 = some (.cells #[.iface u x] e f)
theorem Tabs.mono {I J : Hp} (h : Tabs I) (hl : Hp.le I J) : Tabs J := by
  obtain ⟨⟨e, f, h1⟩, ⟨u, x, e2, f2, h2⟩, ⟨u3, x3, e3, f3, h3⟩⟩ := h
  exact ⟨⟨_, _, hl _ _ h1⟩, ⟨_, _, _, _, hl _ _ h2⟩, ⟨_, _, _, _, hl _ _ h3⟩⟩
theorem Tabs.tab {s : St} {w : World} (h : Tabs s.I) (hs : Sat s w) : Lib.TabIs Tryz.prog w "internal/strconv.uint64pow10" .u64 Lib.pow10Tab := by
  obtain ⟨e, f, h1⟩ := h.pow
  have := hs.imm _ _ h1
  unfold Lib.TabIs World.var?
  rw [show Tryz.prog.globalNamed "internal/strconv.uint64pow10" = some 2 by kernel_rfl]
  simp only [Option.bind_some, this]
theorem Itoa_spec {n : Int} {s : St} (hT : Tabs s.I) (h0 : -9223372036854775808 ≤ n) (h1 : n ≤ 9223372036854775807) : CallV Tryz.prog 108 #[.int .i64 n] s (.string ⟨(Lib.itoa n).toArray⟩) :=
  callV_of_below fun w hs => (Tryz.strconv_Itoa n h0 h1 w (hT.tab hs)).mono fun e w' ⟨he, k, os, hw⟩ => ⟨he, by rw [hw]; exact Lib.below_grow _ _ (Nat.le_refl _) _ _⟩
/-- How a text is read as a number: it, and no error; or an error. -/
def AtoiIs (b : ByteArray) (v : Value) : Prop := ∃ n ev, v = .tuple #[.int .i64 n, ev] ∧ EvI ev ∧ -9223372036854775808 ≤ n ∧ n ≤ 9223372036854775807 ∧ ((isI ev = false ∧ Lib.atoiAll b.data.toList = .ok n) ∨ (isI ev = true ∧ ∀ m, Lib.atoiAll b.data.toList ≠ .ok m))
theorem Atoi_q {b : ByteArray} {s : St} (hT : Tabs s.I) (hb : b.size ≤ 281474976710656) : CallQ Tryz.prog 107 #[.string b] s (AtoiIs b) := by
  refine callQ_of_below fun w hs => ?_
  cases h : Lib.atoiAll b.data.toList with
  | ok n =>
    have hbd := Lib.atoiAll_bounds h
    refine (Tryz.strconv_Atoi_ok b (by omega) n h w).mono fun e w' ⟨he, hw⟩ => ⟨_, he, ⟨n, .nilIface, rfl, .inl rfl, hbd.1, hbd.2, .inl ⟨rfl, h⟩⟩, ?_⟩
    rcases hw with rfl | ⟨t, rfl⟩
    · exact Below.refl _ _
    · exact Joins.below_bytesWorld _ _ _ _ (Nat.le_refl _)
  | «syntax» =>
    obtain ⟨u, x, e, f, h1⟩ := hT.syn
    refine (Tryz.strconv_Atoi_syntax b hb h (.iface u x) w (cell_of_has hs rfl (.inl h1) rfl) (.inr ⟨u, x, rfl⟩)).mono fun e w' ⟨N, he, _, _, hw⟩ => ⟨_, he, ⟨0, _, rfl, .inr ⟨_, _, rfl⟩, by decide, by decide, .inr ⟨rfl, fun m hm => by rw [h] at hm; cases hm⟩⟩, hw⟩
  | range =>
    obtain ⟨u, x, e, f, h1⟩ := hT.rng
    have hsb := Lib.atoiSat_bounds b.data.toList
    refine (Tryz.strconv_Atoi_range b hb h (.iface u x) w (cell_of_has hs rfl (.inl h1) rfl) (.inr ⟨u, x, rfl⟩)).mono fun e w' ⟨N, he, _, _, hw⟩ => ⟨_, he, ⟨_, _, rfl, .inr ⟨_, _, rfl⟩, hsb.1, hsb.2, .inr ⟨rfl, fun m hm => by rw [h] at hm; cases hm⟩⟩, hw⟩
theorem Atoi_spec {b : ByteArray} {s : St} (hT : Tabs s.I) (hb : b.size ≤ 281474976710656) : CallR Tryz.prog 107 #[.string b] s (fun _ v => AtoiIs b v) := (Atoi_q hT hb).toR
theorem var_cells {P : Program} {W : World} {nm : String} {g : Nat} {cs : Array Value} (hg : P.globalNamed nm = some g) (hv : W.var? P nm = some cs) : ∃ e f, W.heap[g]? = some (.cells cs e f) := by
  unfold World.var? at hv
  rw [hg, Option.bind_some] at hv
  split at hv
  · rename_i c e f h
    cases hv
    exact ⟨e, f, h⟩
  · cases hv
end Go.Proofs.YtcnbcblihepbmaaGreatDoor
