/- The law LabelChecks holds where what is read is of bulk at most 1048576: the row and its card. -/
import Derived.Test.YtlcmlffgebaalaaDoorLCW
import Derived.Test.YtlcmlffgebaalaaDoorC
set_option autoImplicit false
set_option linter.unusedVariables false
set_option linter.unusedSimpArgs false
namespace Go.Proofs.YtlcmlffgebaalaaDoor
open Go Go.RowKit Go.Deep Go.ChangeShapes Go.WideShapes Go.ChangeAt
theorem LabelChecks_tabs {W : World} (h : laidMetH Tryd.prog Rows.labelChecksUptoRow.laid W) : Tabs (World.hp W) := by
  obtain ⟨ps, ⟨g0, t0, cs0, f0, p0, q0, hg0, ht0, hv0, hd0, ⟨g1, t1, cs1, f1, p1, q1, hg1, ht1, hv1, hd1, ⟨g2, t2, cs2, f2, p2, q2, hg2, ht2, hv2, hd2, ⟨g3, t3, cs3, f3, p3, q3, hg3, ht3, hv3, hd3, ⟨g4, t4, cs4, f4, p4, q4, hg4, ht4, hv4, hd4, ⟨g5, t5, cs5, f5, p5, q5, hg5, ht5, hv5, hd5, ⟨g6, t6, cs6, f6, p6, q6, hg6, ht6, hv6, hd6, _, _⟩, _⟩, _⟩, _⟩, _⟩, _⟩, _⟩, _, _⟩ := h
  obtain rfl := Option.some.inj ((show Tryd.prog.globalNamed "internal/strconv.uint64pow10" = some 5 by kernel_rfl).symm.trans hg2)
  obtain rfl := Option.some.inj ((show (Tryd.prog.globals[5]?).map (·.type) = some 128 by kernel_rfl).symm.trans ht2)
  obtain ⟨e2, r2, hb2⟩ := var_cells (show Tryd.prog.globalNamed "internal/strconv.uint64pow10" = some 5 by kernel_rfl) hv2
  rw [show Rows.laid_internal_strconv_uint64pow10 = Lib.tabData .u64 Lib.pow10Tab from by kernel_rfl] at hd2
  have hc2 := Lib.cells_of_tab Tryd.underlying128 Tryd.underlying54 (by kernel_rfl) (by kernel_rfl) hd2
  have hb2' : World.hp W 5 = some (.cells (Lib.pow10Tab.map fun z => Value.int .u64 z).toArray e2 r2) := by rw [← hc2]; exact hb2
  obtain rfl := Option.some.inj ((show Tryd.prog.globalNamed "strconv.ErrRange" = some 4 by kernel_rfl).symm.trans hg4)
  obtain rfl := Option.some.inj ((show (Tryd.prog.globals[4]?).map (·.type) = some 88 by kernel_rfl).symm.trans ht4)
  obtain ⟨e4, r4, hb4⟩ := var_cells (show Tryd.prog.globalNamed "strconv.ErrRange" = some 4 by kernel_rfl) hv4
  obtain ⟨_, u4, x4, hc4, _, _⟩ := iface_of_trod Tryd.underlying88 hd4
  have hb4' : World.hp W 4 = some (.cells #[.iface u4 x4] e4 r4) := by rw [show cs4 = #[.iface u4 x4] from Array.toList_inj.1 hc4] at hb4; exact hb4
  obtain rfl := Option.some.inj ((show Tryd.prog.globalNamed "strconv.ErrSyntax" = some 3 by kernel_rfl).symm.trans hg5)
  obtain rfl := Option.some.inj ((show (Tryd.prog.globals[3]?).map (·.type) = some 88 by kernel_rfl).symm.trans ht5)
  obtain ⟨e5, r5, hb5⟩ := var_cells (show Tryd.prog.globalNamed "strconv.ErrSyntax" = some 3 by kernel_rfl) hv5
  obtain ⟨_, u5, x5, hc5, _, _⟩ := iface_of_trod Tryd.underlying88 hd5
  have hb5' : World.hp W 3 = some (.cells #[.iface u5 x5] e5 r5) := by rw [show cs5 = #[.iface u5 x5] from Array.toList_inj.1 hc5] at hb5; exact hb5
  exact ⟨⟨_, _, hb2'⟩, ⟨_, _, _, _, hb5'⟩, ⟨_, _, _, _, hb4'⟩⟩
theorem LabelChecks_laidOut : laidOutB Tryd.prog = true := by kernel_rfl
theorem LabelChecks_own : ownKnob Tryd.prog.godebug = none := by kernel_rfl
set_option maxRecDepth 60000 in
theorem LabelChecks_contract (H : Type) (enc : TypeId × Value → H) (W : World) (base : Nat) (args : Array Value) (ds gs : List (DataW H)) (before : List MemPlace)
    (hval : ∀ (j : Nat) t v, Tryd.f7.params[j]? = some t → args[j]? = some v → Value.okWide Tryd.prog W .any base t v)
    (hW : DataW.Whole enc Tryd.prog Tryd.f7.params.toList Rows.labelChecksSpec.vars false W args.toList ds gs before) (hk : Rows.uptoSmall H (ds ++ gs) = true) (hL : laidMetH Tryd.prog Rows.labelChecksUptoRow.laid W) :
    Calls Tryd.prog 7 args W fun e W' => ∃ v, e = .returned v ∧ Rows.labelChecksSpec.post enc Tryd.prog Tryd.f7 false true false false W args v W' := by
  have hW' := hW
  obtain ⟨p, q, hA0, hV, rfl, hfz, hnd⟩ := hW
  have hA : DataW.TrodAll enc Tryd.prog W 0 (fun _ => true) true Tryd.f7.params.toList args.toList ds p := hA0
  rw [Tryd.params7] at hA hval
  obtain ⟨v0, vs0, d0, ds0, p0, q0, hargs, rfl, rfl, h0, r0⟩ := trodAll_cons hA
  obtain ⟨v1, vs1, d1, ds1, p1, q1, rfl, rfl, rfl, h1, r1⟩ := trodAll_cons r0
  obtain ⟨v2, vs2, d2, ds2, p2, q2, rfl, rfl, rfl, h2, r2⟩ := trodAll_cons r1
  obtain ⟨rfl, rfl, rfl⟩ := trodAll_nil r2
  obtain rfl : args = #[v0, v1, v2] := by cases args; simp_all
  obtain ⟨rfl, rfl⟩ := trodVars_none hV
  have k0 := h0
  have lt0 : ∀ x ∈ p0, x.block < W.heap.size := by obtain ⟨m, hm⟩ := k0; exact DataW.trod_lt m _ _ _ hm
  obtain ⟨x0, l0, c0, rfl⟩ := okWide_slice Tryd.underlying22 (hval 0 22 v0 rfl rfl)
  obtain ⟨f0, hf0⟩ := h0
  obtain ⟨a0, ⟨w0, hw0, hs0⟩, ok0, bk0⟩ := (openSlice openLabel (by kernel_rfl) (by decide) : OpenK Tryd.prog 22 kLabel.slice).op hf0
  obtain rfl : Value.slice x0 l0 c0 = w0 := by simpa [Value.cells] using hw0
  have k1 := h1
  have lt1 : ∀ x ∈ p1, x.block < W.heap.size := by obtain ⟨m, hm⟩ := k1; exact DataW.trod_lt m _ _ _ hm
  obtain ⟨x1, l1, c1, rfl⟩ := okWide_slice Tryd.underlying35 (hval 1 35 v1 rfl rfl)
  obtain ⟨f1, hf1⟩ := h1
  obtain ⟨a1, ⟨w1, hw1, hs1⟩, ok1, bk1⟩ := (openSlice openReq (by kernel_rfl) (by decide) : OpenK Tryd.prog 35 kReq.slice).op hf1
  obtain rfl : Value.slice x1 l1 c1 = w1 := by simpa [Value.cells] using hw1
  have k2 := h2
  have lt2 : ∀ x ∈ p2, x.block < W.heap.size := by obtain ⟨m, hm⟩ := k2; exact DataW.trod_lt m _ _ _ hm
  obtain ⟨n2, rfl⟩ := okWide_string Tryd.underlying9 (hval 2 9 v2 rfl rfl)
  obtain ⟨f2, hf2⟩ := h2
  obtain ⟨a2, hs2, ok2, bk2⟩ := (openStr (by kernel_rfl) : OpenK Tryd.prog 9 kStr).op hf2
  obtain rfl : n2 = a2 := by simpa [Value.cells, kInt, kBool, kStr] using hs2
  replace bk0 : _ ≤ Rows.uptoBulk d0 := bk0
  replace bk1 : _ ≤ Rows.uptoBulk d1 := bk1
  replace bk2 : _ ≤ Rows.uptoBulk d2 := bk2
  have hbk : Rows.uptoBulkAll ([d0, d1, d2] ++ ([] : List (DataW H))) ≤ 1048576 := of_decide_eq_true hk
  simp only [List.append_nil, Rows.uptoBulkAll] at hbk
  clear hA0
  simp only [List.append_nil] at hW'
  refine (LabelChecks_walk a0 _ a1 _ n2 ⟨World.hp W, []⟩ (LabelChecks_tabs hL) hs0 ok0 hs1 ok1 ok2 (by omega) W (sat_hp W)).mono fun e W' ⟨v, s', he, hs', hx, hv, hle⟩ => ?_
  have bel := below_of hs' hx hle
  subst he; subst hv
  exact ⟨_, rfl, _, _, _, [], _, [], hW', trodAll_mk1 (shut_bool Tryd.underlying4 _), (trodAll_cons_mk (Below.trod LabelChecks_laidOut (by kernel_rfl) (of_decide_eq_true (by kernel_rfl)) k0 bel lt0) (trodAll_cons_mk (Below.trod LabelChecks_laidOut (by kernel_rfl) (of_decide_eq_true (by kernel_rfl)) k1 bel lt1) (trodAll_cons_mk (Below.trod LabelChecks_laidOut (by kernel_rfl) (of_decide_eq_true (by kernel_rfl)) k2 bel lt2) trodAll_mk0))), rfl, bel.frame _, fun h => by cases h⟩
noncomputable def LabelChecks_low : Nat := (World.holding Tryd.prog default ⟨#[], #[], []⟩).heap.size
noncomputable def LabelChecks_world (os : Os) : World := { (World.holding Tryd.prog os ⟨#[.cells #[.string ⟨([118, 97, 108, 117, 101, 32, 111, 117, 116, 32, 111, 102, 32, 114, 97, 110, 103, 101] : List UInt8).toArray⟩] 126, .cells #[.string ⟨([105, 110, 118, 97, 108, 105, 100, 32, 115, 121, 110, 116, 97, 120] : List UInt8).toArray⟩] 126], #[], []⟩) with heap := ((((((((World.holding Tryd.prog os ⟨#[.cells #[.string ⟨([118, 97, 108, 117, 101, 32, 111, 117, 116, 32, 111, 102, 32, 114, 97, 110, 103, 101] : List UInt8).toArray⟩] 126, .cells #[.string ⟨([105, 110, 118, 97, 108, 105, 100, 32, 115, 121, 110, 116, 97, 120] : List UInt8).toArray⟩] 126], #[], []⟩).heap).modify 6 (layCells Rows.laid_math_bits_deBruijn32tab)).modify 7 (layCells Rows.laid_math_bits_deBruijn64tab)).modify 5 (layCells Rows.laid_internal_strconv_uint64pow10)).modify 2 (layCells Rows.laid_unicode_utf8_acceptRanges)).modify 4 (layIface 124 (LabelChecks_low + 0))).modify 3 (layIface 124 (LabelChecks_low + 1))).modify 1 (layCells Rows.laid_unicode_utf8_first) }
set_option maxRecDepth 100000 in
theorem LabelChecks_met (os : Os) : laidMet Tryd.prog Rows.labelChecksUptoRow.laid ((LabelChecks_world os).forCall (fun _ _ => 0) ⟨#[], #[.slice none 0 0, .slice none 0 0, .string ByteArray.empty], []⟩).memory := laidMet_of_run' 8 (by kernel_rfl) (by kernel_rfl)
set_option maxRecDepth 100000 in
theorem LabelChecks_reads (os : Os) {H : Type} (enc : TypeId × Value → H) : ∃ places, DataW.whole enc Tryd.prog ((LabelChecks_world os).forCall (fun _ _ => 0) ⟨#[], #[.slice none 0 0, .slice none 0 0, .string ByteArray.empty], []⟩).memory Tryd.f7.params.toList Rows.labelChecksSpec.vars false (#[.slice none 0 0, .slice none 0 0, .string ByteArray.empty] : Array Value).toList 8 = some ([.nil, .nil, .lit (.string [])], [], places) := ⟨[], by kernel_rfl⟩
set_option maxRecDepth 100000 in
theorem LabelChecks_lifted (os : Os) (started : os.Started) (H : Type) (enc : TypeId × Value → H) (F : Stop.Interp) :
    ReturnsInHanded {} Tryd.checked os 7 .any ((Rows.OpenSpec.upto Rows.labelChecksSpec).preRow enc Tryd.prog Tryd.f7 Rows.labelChecksUptoRow.domain false Rows.labelChecksUptoRow.laid) (((Rows.OpenSpec.upto Rows.labelChecksSpec).at F).post enc Tryd.prog Tryd.f7 false true false false) := by
  obtain ⟨places, hx⟩ := LabelChecks_reads os enc
  refine returnsInHanded_of_row (C := Tryd.checked) (s := Rows.OpenSpec.upto Rows.labelChecksSpec) LabelChecks_own started (by kernel_rfl) Tryd.func7
    (witness_row_at (enc := enc) (C := Tryd.checked) false (LabelChecks_world os) #[.slice none 0 0, .slice none 0 0, .string ByteArray.empty] rfl (by kernel_rfl) (by kernel_rfl) (by kernel_rfl)
      (OpenSpec.preRow_of_cond 8 hx (by kernel_rfl) (fun k hk => by cases hk; kernel_rfl) (by kernel_rfl) (LabelChecks_met os))) ?_
  intro W base args ds gs before hval hW _ hcond _ hL _ _
  exact LabelChecks_contract H enc W base args ds gs before hval hW (hcond _ rfl) hL
theorem LabelChecks_over : Rows.labelChecksUptoRow.holds Tryd.pinned (Rows.OpenSpec.upto Rows.labelChecksSpec) :=
  OpenClaim.holds_of_cond 7 Tryd.f7 rfl rfl rfl rfl rfl rfl rfl ⟨rfl, rfl, rfl, rfl, rfl⟩ rfl rfl rfl rfl rfl (by kernel_rfl) Tryd.func7 (by kernel_rfl)
    (of_decide_eq_true (by kernel_rfl)) (by unfold Func.isWrapper; first | (rw [if_pos (by decide +kernel)]; kernel_rfl) | (rw [if_neg (by decide +kernel)]; exact ⟨rfl, rfl⟩))
    (fun os started H enc _ F => by rw [OpenClaim.pre_eq_preRow]; exact LabelChecks_lifted os started H enc F)
theorem LabelChecks_plain (f : FuncId) (fn : Func) (hf : Tryd.pinned.checked.prog.funcNamed "stevedore/stevedorelaw02.LabelChecks" = some f) (hfn : Tryd.pinned.checked.prog.funcs[f]? = some fn) :
    true = Tryd.pinned.checked.prog.looks [] ∧ ∀ (j : Nat) t, fn.params[j]? = some t → Tryd.pinned.checked.prog.wantsStandIn t = false := by
  obtain rfl : f = 7 := Option.some.inj ((show Tryd.prog.funcNamed "stevedore/stevedorelaw02.LabelChecks" = some 7 by kernel_rfl).symm.trans hf) |>.symm
  obtain rfl : fn = Tryd.f7 := (Option.some.inj (Tryd.func7.symm.trans hfn)).symm
  refine ⟨by kernel_rfl, fun j t ht => ?_⟩
  rw [Tryd.params7] at ht
  have hm := Array.mem_of_getElem? ht
  simp only [List.mem_toArray, List.mem_cons, List.mem_nil_iff, or_false] at hm
  rcases hm with rfl | rfl | rfl
  · exact (show Tryd.prog.wantsStandIn 22 = false by kernel_rfl)
  · exact (show Tryd.prog.wantsStandIn 35 = false by kernel_rfl)
  · exact (show Tryd.prog.wantsStandIn 9 = false by kernel_rfl)
theorem LabelChecks_proved : Rows.LabelChecksUptoCardSaid :=
  Claim7.holds_tied_plain_at .later [] _ _ _ _ LabelChecks_over (fun _ h => by cases h) (by kernel_rfl) (fun _ h => by cases h) labelChecksUpto_row_tie rfl ⟨rfl, rfl⟩ (by kernel_rfl) rfl LabelChecks_plain (by kernel_rfl)
end Go.Proofs.YtlcmlffgebaalaaDoor
