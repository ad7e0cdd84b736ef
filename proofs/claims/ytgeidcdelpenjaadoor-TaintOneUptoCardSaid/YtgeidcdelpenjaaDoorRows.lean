/-
  NARROWER THAN 'FOR EVERY INPUT', by the rows' own cells (each row's printed sentence says how): TaintChecks: laid · TaintBears: laid · TaintMore: laid · TaintAll: laid · TaintOne: laid.
  DERIVED. THE GIVEN ROWS OF THIS SEAT. 5 by the template 'for every input the law returns true; each argument reads behind the call as it read before'; 0 by the template 'total and deterministic' (their statements: YtgeidcdelpenjaaDoorTotals.lean).
  GIVEN WITH THE SEED: the statements are not yours to turn. If you find one false, say at which input.
  Laid BY PROGRAM, IN A SANDBOX (cutbox-rows.mjs): the forced cells as the released guide's own fill.sh prints them over the translation 6e4299bf4ce184a5… (all of the seat's roots in one cut). By AI agents, Wed Nov 11 2026. No macro, syntax, notation, axiom, sorry.
-/
import Derived.Test.YtgeidcdelpenjaaDoorChecked
import GoSem.PinnedTables
import GoSem.Claim
import GoSem.ClaimJoined
import GoSem.ClaimMapViews
import Derived.JoinedTies
import Derived.KernelRfl
namespace Go.Proofs.YtgeidcdelpenjaaDoor
/- THE CELL 'sum', in the pinned program and in every row, IS THE sha256 OF THE DUMP (.gsa) THAT YtgeidcdelpenjaaDoorProg.lean LOADS. Nothing in Lean hashes anything: it is a label: what it is worth is what the hold of that sum in a sandbox is worth. -/
noncomputable def Tryd.pinned : Pinned := { name := "ytgeidcdelpenjaadoor", sum := "6e4299bf4ce184a5fe568b68da95d7b6ea247473654767e95e41a2f06825806b", checked := Tryd.checked }
namespace Rows
def none {H : Type} : Left H := { results := [], args := [] }

/- WHAT THE LISTED PACKAGE-LEVEL VARIABLES READ AS WHEN THE CALL BEGINS. Each datum BY PROGRAM (the guide's laid-datum.mjs) off the statement by which the dump's own 'gosem.cut.vars' lays the variable. In a bare row this is a premise. The card (YtgeidcdelpenjaaDoorCards.lean) ties it to the program's text. -/
def laid_unicode_utf8_acceptRanges {H : Type} : DataW H := .agg [.agg [.lit (.int .u8 128), .lit (.int .u8 191)], .agg [.lit (.int .u8 160), .lit (.int .u8 191)], .agg [.lit (.int .u8 128), .lit (.int .u8 159)], .agg [.lit (.int .u8 144), .lit (.int .u8 191)], .agg [.lit (.int .u8 128), .lit (.int .u8 143)], .agg [.lit (.int .u8 0), .lit (.int .u8 0)], .agg [.lit (.int .u8 0), .lit (.int .u8 0)], .agg [.lit (.int .u8 0), .lit (.int .u8 0)], .agg [.lit (.int .u8 0), .lit (.int .u8 0)], .agg [.lit (.int .u8 0), .lit (.int .u8 0)], .agg [.lit (.int .u8 0), .lit (.int .u8 0)], .agg [.lit (.int .u8 0), .lit (.int .u8 0)], .agg [.lit (.int .u8 0), .lit (.int .u8 0)], .agg [.lit (.int .u8 0), .lit (.int .u8 0)], .agg [.lit (.int .u8 0), .lit (.int .u8 0)], .agg [.lit (.int .u8 0), .lit (.int .u8 0)]]
/-- One of Go's own tables, pinned by name: the form's constant. -/
def laid_unicode_utf8_first : DataW Unit := Go.Pinned.utf8First

/-- 'stevedorelaw03.TaintChecks': WHATEVER THE INPUT: true; the input reads as it did. -/
def taintChecksSpec : ChangeSpec := { name := "taintChecks", fn := fun _ => fun
  | [d1, d2] => { results := [.lit (.bool true)], args := [d1, d2] }
  | _ => none }
def taintChecksRow : OpenClaim := { program := "ytgeidcdelpenjaadoor", sum := "6e4299bf4ce184a5fe568b68da95d7b6ea247473654767e95e41a2f06825806b", func := "stevedore/stevedorelaw03.TaintChecks", spec := "taintChecks", inPlace := ["internal/bytealg.IndexByteString", "internal/bytealg.IndexString"], unfollowed := true, recurses := true, named := ["unicode/utf8.first", "unicode/utf8.acceptRanges", "internal/bytealg.MaxLen"], apart := false, laid := [("unicode/utf8.acceptRanges", laid_unicode_utf8_acceptRanges), ("unicode/utf8.first", laid_unicode_utf8_first)] }
def TaintChecksSaid : Prop := taintChecksRow.holds Tryd.pinned (OpenSpec.ofChange taintChecksSpec)

/-- ITS FALSE NEIGHBOUR: 'it returns false'. Refute it at one input. -/
def taintChecksWrong : ChangeSpec := { name := "taintChecks", fn := fun _ => fun
  | [d1, d2] => { results := [.lit (.bool false)], args := [d1, d2] }
  | _ => none }
def TaintChecksWrongFalsely : Prop := taintChecksRow.holds Tryd.pinned (OpenSpec.ofChange taintChecksWrong)

/-- 'stevedorelaw03.TaintBears': WHATEVER THE INPUT: true; the input reads as it did. -/
def taintBearsSpec : ChangeSpec := { name := "taintBears", fn := fun _ => fun
  | [d1, d2] => { results := [.lit (.bool true)], args := [d1, d2] }
  | _ => none }
def taintBearsRow : OpenClaim := { program := "ytgeidcdelpenjaadoor", sum := "6e4299bf4ce184a5fe568b68da95d7b6ea247473654767e95e41a2f06825806b", func := "stevedore/stevedorelaw03.TaintBears", spec := "taintBears", inPlace := ["internal/bytealg.IndexByteString", "internal/bytealg.IndexString"], unfollowed := true, recurses := true, named := ["unicode/utf8.first", "unicode/utf8.acceptRanges", "internal/bytealg.MaxLen"], apart := false, laid := [("unicode/utf8.acceptRanges", laid_unicode_utf8_acceptRanges), ("unicode/utf8.first", laid_unicode_utf8_first)] }
def TaintBearsSaid : Prop := taintBearsRow.holds Tryd.pinned (OpenSpec.ofChange taintBearsSpec)

/-- ITS FALSE NEIGHBOUR: 'it returns false'. Refute it at one input. -/
def taintBearsWrong : ChangeSpec := { name := "taintBears", fn := fun _ => fun
  | [d1, d2] => { results := [.lit (.bool false)], args := [d1, d2] }
  | _ => none }
def TaintBearsWrongFalsely : Prop := taintBearsRow.holds Tryd.pinned (OpenSpec.ofChange taintBearsWrong)

/-- 'stevedorelaw03.TaintMore': WHATEVER THE INPUT: true; the input reads as it did. -/
def taintMoreSpec : ChangeSpec := { name := "taintMore", fn := fun _ => fun
  | [d1, d2, d3] => { results := [.lit (.bool true)], args := [d1, d2, d3] }
  | _ => none }
def taintMoreRow : OpenClaim := { program := "ytgeidcdelpenjaadoor", sum := "6e4299bf4ce184a5fe568b68da95d7b6ea247473654767e95e41a2f06825806b", func := "stevedore/stevedorelaw03.TaintMore", spec := "taintMore", inPlace := ["internal/bytealg.IndexByteString", "internal/bytealg.IndexString"], unfollowed := true, recurses := true, named := ["unicode/utf8.first", "unicode/utf8.acceptRanges", "internal/bytealg.MaxLen"], apart := false, laid := [("unicode/utf8.acceptRanges", laid_unicode_utf8_acceptRanges), ("unicode/utf8.first", laid_unicode_utf8_first)] }
def TaintMoreSaid : Prop := taintMoreRow.holds Tryd.pinned (OpenSpec.ofChange taintMoreSpec)

/-- ITS FALSE NEIGHBOUR: 'it returns false'. Refute it at one input. -/
def taintMoreWrong : ChangeSpec := { name := "taintMore", fn := fun _ => fun
  | [d1, d2, d3] => { results := [.lit (.bool false)], args := [d1, d2, d3] }
  | _ => none }
def TaintMoreWrongFalsely : Prop := taintMoreRow.holds Tryd.pinned (OpenSpec.ofChange taintMoreWrong)

/-- 'stevedorelaw03.TaintAll': WHATEVER THE INPUT: true; the input reads as it did. -/
def taintAllSpec : ChangeSpec := { name := "taintAll", fn := fun _ => fun
  | [d1, d2, d3] => { results := [.lit (.bool true)], args := [d1, d2, d3] }
  | _ => none }
def taintAllRow : OpenClaim := { program := "ytgeidcdelpenjaadoor", sum := "6e4299bf4ce184a5fe568b68da95d7b6ea247473654767e95e41a2f06825806b", func := "stevedore/stevedorelaw03.TaintAll", spec := "taintAll", inPlace := ["internal/bytealg.IndexByteString", "internal/bytealg.IndexString"], unfollowed := true, recurses := true, named := ["unicode/utf8.first", "unicode/utf8.acceptRanges", "internal/bytealg.MaxLen"], apart := false, laid := [("unicode/utf8.acceptRanges", laid_unicode_utf8_acceptRanges), ("unicode/utf8.first", laid_unicode_utf8_first)] }
def TaintAllSaid : Prop := taintAllRow.holds Tryd.pinned (OpenSpec.ofChange taintAllSpec)

/-- ITS FALSE NEIGHBOUR: 'it returns false'. Refute it at one input. -/
def taintAllWrong : ChangeSpec := { name := "taintAll", fn := fun _ => fun
  | [d1, d2, d3] => { results := [.lit (.bool false)], args := [d1, d2, d3] }
  | _ => none }
def TaintAllWrongFalsely : Prop := taintAllRow.holds Tryd.pinned (OpenSpec.ofChange taintAllWrong)

/-- 'stevedorelaw03.TaintOne': WHATEVER THE INPUT: true; the input reads as it did. -/
def taintOneSpec : ChangeSpec := { name := "taintOne", fn := fun _ => fun
  | [d1, d2, d3] => { results := [.lit (.bool true)], args := [d1, d2, d3] }
  | _ => none }
def taintOneRow : OpenClaim := { program := "ytgeidcdelpenjaadoor", sum := "6e4299bf4ce184a5fe568b68da95d7b6ea247473654767e95e41a2f06825806b", func := "stevedore/stevedorelaw03.TaintOne", spec := "taintOne", inPlace := ["internal/bytealg.IndexByteString", "internal/bytealg.IndexString"], unfollowed := true, recurses := true, named := ["unicode/utf8.first", "unicode/utf8.acceptRanges", "internal/bytealg.MaxLen"], apart := false, laid := [("unicode/utf8.acceptRanges", laid_unicode_utf8_acceptRanges), ("unicode/utf8.first", laid_unicode_utf8_first)] }
def TaintOneSaid : Prop := taintOneRow.holds Tryd.pinned (OpenSpec.ofChange taintOneSpec)

/-- ITS FALSE NEIGHBOUR: 'it returns false'. Refute it at one input. -/
def taintOneWrong : ChangeSpec := { name := "taintOne", fn := fun _ => fun
  | [d1, d2, d3] => { results := [.lit (.bool false)], args := [d1, d2, d3] }
  | _ => none }
def TaintOneWrongFalsely : Prop := taintOneRow.holds Tryd.pinned (OpenSpec.ofChange taintOneWrong)

/- THE SECOND FORM. 'bulk': how many values and letters a reading holds, each counted each time it is reached (what is shared counts as often as it is met; a slice's spare places count too). A statement '..UptoSaid' is the law's where the arguments, and the package variables that the reading takes, are together of bulk at most 1048576: NARROWER than '..Said'. Prove '..Said' where nothing that the law and all that it calls make is longer than what came in: it says more and counts as full. Else prove '..UptoSaid'. A law counts once. -/
mutual
def uptoBulk {H : Type} : DataW H → Nat
  | .lit (.string bytes) => bytes.length + 1
  | .lit _ => 1
  | .nil => 1
  | .ptr d => uptoBulk d + 1
  | .slice elems spare => uptoBulkAll elems + uptoBulkAll spare + 1
  | .agg parts => uptoBulkAll parts + 1
  | .iface _ d => uptoBulk d + 1
  | .map entries => uptoBulkEntries entries + 1
  | .held _ => 1
def uptoBulkAll {H : Type} : List (DataW H) → Nat
  | [] => 0
  | d :: r => uptoBulk d + uptoBulkAll r
def uptoBulkEntries {H : Type} : List (Lit × DataW H) → Nat
  | [] => 0
  | x :: r => uptoBulkEntry x + uptoBulkEntries r
def uptoBulkEntry {H : Type} : Lit × DataW H → Nat
  | (.string bytes, d) => bytes.length + uptoBulk d + 1
  | (_, d) => uptoBulk d + 1
 end
def uptoSmall : (H : Type) → List (DataW H) → Bool := fun _ ds => decide (uptoBulkAll ds ≤ 1048576)
def OpenSpec.upto (s : _root_.Go.ChangeSpec) : _root_.Go.OpenSpec := { _root_.Go.OpenSpec.ofChange s with cond := some uptoSmall }

/-- 'stevedorelaw03.TaintChecks', WHERE WHAT IT READS IS OF BULK AT MOST 1048576: true; the input reads as it did. -/
def taintChecksUptoRow : OpenClaim := { program := "ytgeidcdelpenjaadoor", sum := "6e4299bf4ce184a5fe568b68da95d7b6ea247473654767e95e41a2f06825806b", func := "stevedore/stevedorelaw03.TaintChecks", spec := "taintChecks", inPlace := ["internal/bytealg.IndexByteString", "internal/bytealg.IndexString"], unfollowed := true, recurses := true, named := ["unicode/utf8.first", "unicode/utf8.acceptRanges", "internal/bytealg.MaxLen"], apart := false, laid := [("unicode/utf8.acceptRanges", laid_unicode_utf8_acceptRanges), ("unicode/utf8.first", laid_unicode_utf8_first)], narrowed := true }
def TaintChecksUptoSaid : Prop := taintChecksUptoRow.holds Tryd.pinned (OpenSpec.upto taintChecksSpec)

/-- 'stevedorelaw03.TaintBears', WHERE WHAT IT READS IS OF BULK AT MOST 1048576: true; the input reads as it did. -/
def taintBearsUptoRow : OpenClaim := { program := "ytgeidcdelpenjaadoor", sum := "6e4299bf4ce184a5fe568b68da95d7b6ea247473654767e95e41a2f06825806b", func := "stevedore/stevedorelaw03.TaintBears", spec := "taintBears", inPlace := ["internal/bytealg.IndexByteString", "internal/bytealg.IndexString"], unfollowed := true, recurses := true, named := ["unicode/utf8.first", "unicode/utf8.acceptRanges", "internal/bytealg.MaxLen"], apart := false, laid := [("unicode/utf8.acceptRanges", laid_unicode_utf8_acceptRanges), ("unicode/utf8.first", laid_unicode_utf8_first)], narrowed := true }
def TaintBearsUptoSaid : Prop := taintBearsUptoRow.holds Tryd.pinned (OpenSpec.upto taintBearsSpec)

/-- 'stevedorelaw03.TaintMore', WHERE WHAT IT READS IS OF BULK AT MOST 1048576: true; the input reads as it did. -/
def taintMoreUptoRow : OpenClaim := { program := "ytgeidcdelpenjaadoor", sum := "6e4299bf4ce184a5fe568b68da95d7b6ea247473654767e95e41a2f06825806b", func := "stevedore/stevedorelaw03.TaintMore", spec := "taintMore", inPlace := ["internal/bytealg.IndexByteString", "internal/bytealg.IndexString"], unfollowed := true, recurses := true, named := ["unicode/utf8.first", "unicode/utf8.acceptRanges", "internal/bytealg.MaxLen"], apart := false, laid := [("unicode/utf8.acceptRanges", laid_unicode_utf8_acceptRanges), ("unicode/utf8.first", laid_unicode_utf8_first)], narrowed := true }
def TaintMoreUptoSaid : Prop := taintMoreUptoRow.holds Tryd.pinned (OpenSpec.upto taintMoreSpec)

/-- 'stevedorelaw03.TaintAll', WHERE WHAT IT READS IS OF BULK AT MOST 1048576: true; the input reads as it did. -/
def taintAllUptoRow : OpenClaim := { program := "ytgeidcdelpenjaadoor", sum := "6e4299bf4ce184a5fe568b68da95d7b6ea247473654767e95e41a2f06825806b", func := "stevedore/stevedorelaw03.TaintAll", spec := "taintAll", inPlace := ["internal/bytealg.IndexByteString", "internal/bytealg.IndexString"], unfollowed := true, recurses := true, named := ["unicode/utf8.first", "unicode/utf8.acceptRanges", "internal/bytealg.MaxLen"], apart := false, laid := [("unicode/utf8.acceptRanges", laid_unicode_utf8_acceptRanges), ("unicode/utf8.first", laid_unicode_utf8_first)], narrowed := true }
def TaintAllUptoSaid : Prop := taintAllUptoRow.holds Tryd.pinned (OpenSpec.upto taintAllSpec)

/-- 'stevedorelaw03.TaintOne', WHERE WHAT IT READS IS OF BULK AT MOST 1048576: true; the input reads as it did. -/
def taintOneUptoRow : OpenClaim := { program := "ytgeidcdelpenjaadoor", sum := "6e4299bf4ce184a5fe568b68da95d7b6ea247473654767e95e41a2f06825806b", func := "stevedore/stevedorelaw03.TaintOne", spec := "taintOne", inPlace := ["internal/bytealg.IndexByteString", "internal/bytealg.IndexString"], unfollowed := true, recurses := true, named := ["unicode/utf8.first", "unicode/utf8.acceptRanges", "internal/bytealg.MaxLen"], apart := false, laid := [("unicode/utf8.acceptRanges", laid_unicode_utf8_acceptRanges), ("unicode/utf8.first", laid_unicode_utf8_first)], narrowed := true }
def TaintOneUptoSaid : Prop := taintOneUptoRow.holds Tryd.pinned (OpenSpec.upto taintOneSpec)

end Rows
end Go.Proofs.YtgeidcdelpenjaaDoor
