/-
  No cell of these rows narrows 'for every input' (looked for: loops, veiled, ifaces, maps, wideKeys, modest, calm, conditions, laid).
  DERIVED. THE GIVEN ROWS OF THIS SEAT. 3 by the template 'for every input the law returns true; each argument reads behind the call as it read before'; 0 by the template 'total and deterministic' (their statements: YtopimbpclgejhaaTotals.lean).
  GIVEN WITH THE SEED: the statements are not yours to turn. If you find one false, say at which input.
  Laid BY PROGRAM, IN A SANDBOX (cutbox-rows.mjs): the forced cells as the released guide's own fill.sh prints them over the translation 93d5c5f694d946e2… (all of the seat's roots in one cut). By AI agents, Wed Nov 11 2026. No macro, syntax, notation, axiom, sorry.
-/
import Derived.Test.YtopimbpclgejhaaChecked
import GoSem.Claim
import GoSem.ClaimJoined
import GoSem.ClaimMapViews
import Derived.JoinedTies
import Derived.KernelRfl
namespace Go.Proofs.Ytopimbpclgejhaa
/- THE CELL 'sum', in the pinned program and in every row, IS THE sha256 OF THE DUMP (.gsa) THAT YtopimbpclgejhaaProg.lean LOADS. Nothing in Lean hashes anything: it is a label: what it is worth is what the hold of that sum in a sandbox is worth. -/
noncomputable def Try.pinned : Pinned := { name := "ytopimbpclgejhaa", sum := "93d5c5f694d946e2a3730dde9b3b2ed2a27543b483be4fe6da3e0d457c3de6ca", checked := Try.checked }
namespace Rows
def none {H : Type} : Left H := { results := [], args := [] }

/-- 'stevedorelaw16.ScorePicks': WHATEVER THE INPUT: true; the input reads as it did. -/
def scorePicksSpec : ChangeSpec := { name := "scorePicks", fn := fun _ => fun
  | [d1, d2, d3] => { results := [.lit (.bool true)], args := [d1, d2, d3] }
  | _ => none }
def scorePicksRow : OpenClaim := { program := "ytopimbpclgejhaa", sum := "93d5c5f694d946e2a3730dde9b3b2ed2a27543b483be4fe6da3e0d457c3de6ca", func := "stevedore/stevedorelaw16.ScorePicks", spec := "scorePicks", unfollowed := true, recurses := true, apart := false }
def ScorePicksSaid : Prop := scorePicksRow.holds Try.pinned (OpenSpec.ofChange scorePicksSpec)

/-- ITS FALSE NEIGHBOUR: 'it returns false'. Refute it at one input. -/
def scorePicksWrong : ChangeSpec := { name := "scorePicks", fn := fun _ => fun
  | [d1, d2, d3] => { results := [.lit (.bool false)], args := [d1, d2, d3] }
  | _ => none }
def ScorePicksWrongFalsely : Prop := scorePicksRow.holds Try.pinned (OpenSpec.ofChange scorePicksWrong)

/-- 'stevedorelaw16.ScoreBest': WHATEVER THE INPUT: true; the input reads as it did. -/
def scoreBestSpec : ChangeSpec := { name := "scoreBest", fn := fun _ => fun
  | [d1, d2, d3] => { results := [.lit (.bool true)], args := [d1, d2, d3] }
  | _ => none }
def scoreBestRow : OpenClaim := { program := "ytopimbpclgejhaa", sum := "93d5c5f694d946e2a3730dde9b3b2ed2a27543b483be4fe6da3e0d457c3de6ca", func := "stevedore/stevedorelaw16.ScoreBest", spec := "scoreBest", unfollowed := true, recurses := true, apart := false }
def ScoreBestSaid : Prop := scoreBestRow.holds Try.pinned (OpenSpec.ofChange scoreBestSpec)

/-- ITS FALSE NEIGHBOUR: 'it returns false'. Refute it at one input. -/
def scoreBestWrong : ChangeSpec := { name := "scoreBest", fn := fun _ => fun
  | [d1, d2, d3] => { results := [.lit (.bool false)], args := [d1, d2, d3] }
  | _ => none }
def ScoreBestWrongFalsely : Prop := scoreBestRow.holds Try.pinned (OpenSpec.ofChange scoreBestWrong)

/-- 'stevedorelaw16.ScoreMore': WHATEVER THE INPUT: true; the input reads as it did. -/
def scoreMoreSpec : ChangeSpec := { name := "scoreMore", fn := fun _ => fun
  | [d1, d2, d3] => { results := [.lit (.bool true)], args := [d1, d2, d3] }
  | _ => none }
def scoreMoreRow : OpenClaim := { program := "ytopimbpclgejhaa", sum := "93d5c5f694d946e2a3730dde9b3b2ed2a27543b483be4fe6da3e0d457c3de6ca", func := "stevedore/stevedorelaw16.ScoreMore", spec := "scoreMore", unfollowed := true, recurses := true, apart := false }
def ScoreMoreSaid : Prop := scoreMoreRow.holds Try.pinned (OpenSpec.ofChange scoreMoreSpec)

/-- ITS FALSE NEIGHBOUR: 'it returns false'. Refute it at one input. -/
def scoreMoreWrong : ChangeSpec := { name := "scoreMore", fn := fun _ => fun
  | [d1, d2, d3] => { results := [.lit (.bool false)], args := [d1, d2, d3] }
  | _ => none }
def ScoreMoreWrongFalsely : Prop := scoreMoreRow.holds Try.pinned (OpenSpec.ofChange scoreMoreWrong)

/- THE SECOND FORM. 'bulk': how many values and letters a reading holds, each counted each time it is reached (what is shared counts as often as it is met; a slice's spare places count too). A statement '..UptoSaid' is the law's where the arguments, and the package variables that the reading takes, are together of bulk at most 1048576: NARROWER than '..Said'. Prove '..Said' where nothing that the law and all that it calls make is longer than what came in: it says more and counts as full. Else prove '..UptoSaid'. A law counts once. -/
mutual
def uptoBulk {H : Type} : DataW H → Nat
  | .lit (.string bytes) => bytes.length + 1
  | .lit _ => 1
  | .nil => 1
  | .ptr d => uptoBulk d + 1
  | .slice elems spare => uptoBulkAll elems + uptoBulkAll spare + 1
  | .agg parts => uptoBulkAll parts + 1
  | .iface _ d => uptoBulk d + 1
  | .map entries => uptoBulkEntries entries + 1
  | .held _ => 1
def uptoBulkAll {H : Type} : List (DataW H) → Nat
  | [] => 0
  | d :: r => uptoBulk d + uptoBulkAll r
def uptoBulkEntries {H : Type} : List (Lit × DataW H) → Nat
  | [] => 0
  | x :: r => uptoBulkEntry x + uptoBulkEntries r
def uptoBulkEntry {H : Type} : Lit × DataW H → Nat
  | (.string bytes, d) => bytes.length + uptoBulk d + 1
  | (_, d) => uptoBulk d + 1
 end
def uptoSmall : (H : Type) → List (DataW H) → Bool := fun _ ds => decide (uptoBulkAll ds ≤ 1048576)
def OpenSpec.upto (s : _root_.Go.ChangeSpec) : _root_.Go.OpenSpec := { _root_.Go.OpenSpec.ofChange s with cond := some uptoSmall }

/-- 'stevedorelaw16.ScorePicks', WHERE WHAT IT READS IS OF BULK AT MOST 1048576: true; the input reads as it did. -/
def scorePicksUptoRow : OpenClaim := { program := "ytopimbpclgejhaa", sum := "93d5c5f694d946e2a3730dde9b3b2ed2a27543b483be4fe6da3e0d457c3de6ca", func := "stevedore/stevedorelaw16.ScorePicks", spec := "scorePicks", unfollowed := true, recurses := true, apart := false, narrowed := true }
def ScorePicksUptoSaid : Prop := scorePicksUptoRow.holds Try.pinned (OpenSpec.upto scorePicksSpec)

/-- 'stevedorelaw16.ScoreBest', WHERE WHAT IT READS IS OF BULK AT MOST 1048576: true; the input reads as it did. -/
def scoreBestUptoRow : OpenClaim := { program := "ytopimbpclgejhaa", sum := "93d5c5f694d946e2a3730dde9b3b2ed2a27543b483be4fe6da3e0d457c3de6ca", func := "stevedore/stevedorelaw16.ScoreBest", spec := "scoreBest", unfollowed := true, recurses := true, apart := false, narrowed := true }
def ScoreBestUptoSaid : Prop := scoreBestUptoRow.holds Try.pinned (OpenSpec.upto scoreBestSpec)

/-- 'stevedorelaw16.ScoreMore', WHERE WHAT IT READS IS OF BULK AT MOST 1048576: true; the input reads as it did. -/
def scoreMoreUptoRow : OpenClaim := { program := "ytopimbpclgejhaa", sum := "93d5c5f694d946e2a3730dde9b3b2ed2a27543b483be4fe6da3e0d457c3de6ca", func := "stevedore/stevedorelaw16.ScoreMore", spec := "scoreMore", unfollowed := true, recurses := true, apart := false, narrowed := true }
def ScoreMoreUptoSaid : Prop := scoreMoreUptoRow.holds Try.pinned (OpenSpec.upto scoreMoreSpec)

end Rows
end Go.Proofs.Ytopimbpclgejhaa
