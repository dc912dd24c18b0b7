/-
  No cell of these rows narrows 'for every input' (looked for: loops, veiled, ifaces, maps, wideKeys, modest, calm, conditions, laid).
  DERIVED. THE GIVEN ROWS OF THIS SEAT. 12 by the template 'for every input the law returns true; each argument reads behind the call as it read before'; 0 by the template 'total and deterministic' (their statements: YtbamooigfbbkaaaTotals.lean).
  GIVEN WITH THE SEED: the statements are not yours to turn. If you find one false, say at which input.
  Laid BY PROGRAM, IN A SANDBOX (cutbox-rows.mjs): the forced cells as the released guide's own fill.sh prints them over the translation cf3eb72075271a90… (all of the seat's roots in one cut). By AI agents, Wed Nov 11 2026. No macro, syntax, notation, axiom, sorry.
-/
import Derived.Test.YtbamooigfbbkaaaChecked
import GoSem.Claim
import GoSem.ClaimJoined
import GoSem.ClaimMapViews
import Derived.JoinedTies
import Derived.KernelRfl
namespace Go.Proofs.Ytbamooigfbbkaaa
/- THE CELL 'sum', in the pinned program and in every row, IS THE sha256 OF THE DUMP (.gsa) THAT YtbamooigfbbkaaaProg.lean LOADS. Nothing in Lean hashes anything: it is a label: what it is worth is what the hold of that sum in a sandbox is worth. -/
noncomputable def Try.pinned : Pinned := { name := "ytbamooigfbbkaaa", sum := "cf3eb72075271a904633a3294ae6f7cf709b1c9d7482ef9365f3b7b141def949", checked := Try.checked }
namespace Rows
def none {H : Type} : Left H := { results := [], args := [] }

/-- 'laws.FnExactFullScore': WHATEVER THE INPUT: true; the input reads as it did. -/
def fnExactFullScoreSpec : ChangeSpec := { name := "fnExactFullScore", fn := fun _ => fun
  | [d] => { results := [.lit (.bool true)], args := [d] }
  | _ => none }
def fnExactFullScoreRow : OpenClaim := { program := "ytbamooigfbbkaaa", sum := "cf3eb72075271a904633a3294ae6f7cf709b1c9d7482ef9365f3b7b141def949", func := "loop.example/g01333/laws.FnExactFullScore", spec := "fnExactFullScore", apart := false }
def FnExactFullScoreSaid : Prop := fnExactFullScoreRow.holds Try.pinned (OpenSpec.ofChange fnExactFullScoreSpec)

/-- ITS FALSE NEIGHBOUR: 'it returns false'. Refute it at one input. -/
def fnExactFullScoreWrong : ChangeSpec := { name := "fnExactFullScore", fn := fun _ => fun
  | [d] => { results := [.lit (.bool false)], args := [d] }
  | _ => none }
def FnExactFullScoreWrongFalsely : Prop := fnExactFullScoreRow.holds Try.pinned (OpenSpec.ofChange fnExactFullScoreWrong)

/-- 'laws.FnExactAreSplitHeaps': WHATEVER THE INPUT: true; the input reads as it did. -/
def fnExactAreSplitHeapsSpec : ChangeSpec := { name := "fnExactAreSplitHeaps", fn := fun _ => fun
  | [d] => { results := [.lit (.bool true)], args := [d] }
  | _ => none }
def fnExactAreSplitHeapsRow : OpenClaim := { program := "ytbamooigfbbkaaa", sum := "cf3eb72075271a904633a3294ae6f7cf709b1c9d7482ef9365f3b7b141def949", func := "loop.example/g01333/laws.FnExactAreSplitHeaps", spec := "fnExactAreSplitHeaps", unfollowed := true, recurses := true, apart := false }
def FnExactAreSplitHeapsSaid : Prop := fnExactAreSplitHeapsRow.holds Try.pinned (OpenSpec.ofChange fnExactAreSplitHeapsSpec)

/-- ITS FALSE NEIGHBOUR: 'it returns false'. Refute it at one input. -/
def fnExactAreSplitHeapsWrong : ChangeSpec := { name := "fnExactAreSplitHeaps", fn := fun _ => fun
  | [d] => { results := [.lit (.bool false)], args := [d] }
  | _ => none }
def FnExactAreSplitHeapsWrongFalsely : Prop := fnExactAreSplitHeapsRow.holds Try.pinned (OpenSpec.ofChange fnExactAreSplitHeapsWrong)

/-- 'laws.FnExactLongestSplit': WHATEVER THE INPUT: true; the input reads as it did. -/
def fnExactLongestSplitSpec : ChangeSpec := { name := "fnExactLongestSplit", fn := fun _ => fun
  | [d1, d2] => { results := [.lit (.bool true)], args := [d1, d2] }
  | _ => none }
def fnExactLongestSplitRow : OpenClaim := { program := "ytbamooigfbbkaaa", sum := "cf3eb72075271a904633a3294ae6f7cf709b1c9d7482ef9365f3b7b141def949", func := "loop.example/g01333/laws.FnExactLongestSplit", spec := "fnExactLongestSplit", unfollowed := true, recurses := true, apart := false }
def FnExactLongestSplitSaid : Prop := fnExactLongestSplitRow.holds Try.pinned (OpenSpec.ofChange fnExactLongestSplitSpec)

/-- ITS FALSE NEIGHBOUR: 'it returns false'. Refute it at one input. -/
def fnExactLongestSplitWrong : ChangeSpec := { name := "fnExactLongestSplit", fn := fun _ => fun
  | [d1, d2] => { results := [.lit (.bool false)], args := [d1, d2] }
  | _ => none }
def FnExactLongestSplitWrongFalsely : Prop := fnExactLongestSplitRow.holds Try.pinned (OpenSpec.ofChange fnExactLongestSplitWrong)

/-- 'laws.FnExactShortestSplit': WHATEVER THE INPUT: true; the input reads as it did. -/
def fnExactShortestSplitSpec : ChangeSpec := { name := "fnExactShortestSplit", fn := fun _ => fun
  | [d1, d2] => { results := [.lit (.bool true)], args := [d1, d2] }
  | _ => none }
def fnExactShortestSplitRow : OpenClaim := { program := "ytbamooigfbbkaaa", sum := "cf3eb72075271a904633a3294ae6f7cf709b1c9d7482ef9365f3b7b141def949", func := "loop.example/g01333/laws.FnExactShortestSplit", spec := "fnExactShortestSplit", unfollowed := true, recurses := true, apart := false }
def FnExactShortestSplitSaid : Prop := fnExactShortestSplitRow.holds Try.pinned (OpenSpec.ofChange fnExactShortestSplitSpec)

/-- ITS FALSE NEIGHBOUR: 'it returns false'. Refute it at one input. -/
def fnExactShortestSplitWrong : ChangeSpec := { name := "fnExactShortestSplit", fn := fun _ => fun
  | [d1, d2] => { results := [.lit (.bool false)], args := [d1, d2] }
  | _ => none }
def FnExactShortestSplitWrongFalsely : Prop := fnExactShortestSplitRow.holds Try.pinned (OpenSpec.ofChange fnExactShortestSplitWrong)

/-- 'laws.FnExactValueOfSplit': WHATEVER THE INPUT: true; the input reads as it did. -/
def fnExactValueOfSplitSpec : ChangeSpec := { name := "fnExactValueOfSplit", fn := fun _ => fun
  | [d1, d2] => { results := [.lit (.bool true)], args := [d1, d2] }
  | _ => none }
def fnExactValueOfSplitRow : OpenClaim := { program := "ytbamooigfbbkaaa", sum := "cf3eb72075271a904633a3294ae6f7cf709b1c9d7482ef9365f3b7b141def949", func := "loop.example/g01333/laws.FnExactValueOfSplit", spec := "fnExactValueOfSplit", unfollowed := true, recurses := true, apart := false }
def FnExactValueOfSplitSaid : Prop := fnExactValueOfSplitRow.holds Try.pinned (OpenSpec.ofChange fnExactValueOfSplitSpec)

/-- ITS FALSE NEIGHBOUR: 'it returns false'. Refute it at one input. -/
def fnExactValueOfSplitWrong : ChangeSpec := { name := "fnExactValueOfSplit", fn := fun _ => fun
  | [d1, d2] => { results := [.lit (.bool false)], args := [d1, d2] }
  | _ => none }
def FnExactValueOfSplitWrongFalsely : Prop := fnExactValueOfSplitRow.holds Try.pinned (OpenSpec.ofChange fnExactValueOfSplitWrong)

/-- 'laws.FnExactIsSplitOver': WHATEVER THE INPUT: true; the input reads as it did. -/
def fnExactIsSplitOverSpec : ChangeSpec := { name := "fnExactIsSplitOver", fn := fun _ => fun
  | [d1, d2] => { results := [.lit (.bool true)], args := [d1, d2] }
  | _ => none }
def fnExactIsSplitOverRow : OpenClaim := { program := "ytbamooigfbbkaaa", sum := "cf3eb72075271a904633a3294ae6f7cf709b1c9d7482ef9365f3b7b141def949", func := "loop.example/g01333/laws.FnExactIsSplitOver", spec := "fnExactIsSplitOver", unfollowed := true, recurses := true, apart := false }
def FnExactIsSplitOverSaid : Prop := fnExactIsSplitOverRow.holds Try.pinned (OpenSpec.ofChange fnExactIsSplitOverSpec)

/-- ITS FALSE NEIGHBOUR: 'it returns false'. Refute it at one input. -/
def fnExactIsSplitOverWrong : ChangeSpec := { name := "fnExactIsSplitOver", fn := fun _ => fun
  | [d1, d2] => { results := [.lit (.bool false)], args := [d1, d2] }
  | _ => none }
def FnExactIsSplitOverWrongFalsely : Prop := fnExactIsSplitOverRow.holds Try.pinned (OpenSpec.ofChange fnExactIsSplitOverWrong)

/-- 'laws.FnExactLosingHeaps': WHATEVER THE INPUT: true; the input reads as it did. -/
def fnExactLosingHeapsSpec : ChangeSpec := { name := "fnExactLosingHeaps", fn := fun _ => fun
  | [d1, d2] => { results := [.lit (.bool true)], args := [d1, d2] }
  | _ => none }
def fnExactLosingHeapsRow : OpenClaim := { program := "ytbamooigfbbkaaa", sum := "cf3eb72075271a904633a3294ae6f7cf709b1c9d7482ef9365f3b7b141def949", func := "loop.example/g01333/laws.FnExactLosingHeaps", spec := "fnExactLosingHeaps", apart := false }
def FnExactLosingHeapsSaid : Prop := fnExactLosingHeapsRow.holds Try.pinned (OpenSpec.ofChange fnExactLosingHeapsSpec)

/-- ITS FALSE NEIGHBOUR: 'it returns false'. Refute it at one input. -/
def fnExactLosingHeapsWrong : ChangeSpec := { name := "fnExactLosingHeaps", fn := fun _ => fun
  | [d1, d2] => { results := [.lit (.bool false)], args := [d1, d2] }
  | _ => none }
def FnExactLosingHeapsWrongFalsely : Prop := fnExactLosingHeapsRow.holds Try.pinned (OpenSpec.ofChange fnExactLosingHeapsWrong)

/-- 'laws.FnExactScoreOfSplits': WHATEVER THE INPUT: true; the input reads as it did. -/
def fnExactScoreOfSplitsSpec : ChangeSpec := { name := "fnExactScoreOfSplits", fn := fun _ => fun
  | [d1, d2] => { results := [.lit (.bool true)], args := [d1, d2] }
  | _ => none }
def fnExactScoreOfSplitsRow : OpenClaim := { program := "ytbamooigfbbkaaa", sum := "cf3eb72075271a904633a3294ae6f7cf709b1c9d7482ef9365f3b7b141def949", func := "loop.example/g01333/laws.FnExactScoreOfSplits", spec := "fnExactScoreOfSplits", apart := false }
def FnExactScoreOfSplitsSaid : Prop := fnExactScoreOfSplitsRow.holds Try.pinned (OpenSpec.ofChange fnExactScoreOfSplitsSpec)

/-- ITS FALSE NEIGHBOUR: 'it returns false'. Refute it at one input. -/
def fnExactScoreOfSplitsWrong : ChangeSpec := { name := "fnExactScoreOfSplits", fn := fun _ => fun
  | [d1, d2] => { results := [.lit (.bool false)], args := [d1, d2] }
  | _ => none }
def FnExactScoreOfSplitsWrongFalsely : Prop := fnExactScoreOfSplitsRow.holds Try.pinned (OpenSpec.ofChange fnExactScoreOfSplitsWrong)

/-- 'laws.FnExactValueOfHeaps': WHATEVER THE INPUT: true; the input reads as it did. -/
def fnExactValueOfHeapsSpec : ChangeSpec := { name := "fnExactValueOfHeaps", fn := fun _ => fun
  | [d1, d2] => { results := [.lit (.bool true)], args := [d1, d2] }
  | _ => none }
def fnExactValueOfHeapsRow : OpenClaim := { program := "ytbamooigfbbkaaa", sum := "cf3eb72075271a904633a3294ae6f7cf709b1c9d7482ef9365f3b7b141def949", func := "loop.example/g01333/laws.FnExactValueOfHeaps", spec := "fnExactValueOfHeaps", unfollowed := true, recurses := true, apart := false }
def FnExactValueOfHeapsSaid : Prop := fnExactValueOfHeapsRow.holds Try.pinned (OpenSpec.ofChange fnExactValueOfHeapsSpec)

/-- ITS FALSE NEIGHBOUR: 'it returns false'. Refute it at one input. -/
def fnExactValueOfHeapsWrong : ChangeSpec := { name := "fnExactValueOfHeaps", fn := fun _ => fun
  | [d1, d2] => { results := [.lit (.bool false)], args := [d1, d2] }
  | _ => none }
def FnExactValueOfHeapsWrongFalsely : Prop := fnExactValueOfHeapsRow.holds Try.pinned (OpenSpec.ofChange fnExactValueOfHeapsWrong)

/-- 'laws.FnExactMakeSplit': WHATEVER THE INPUT: true; the input reads as it did. -/
def fnExactMakeSplitSpec : ChangeSpec := { name := "fnExactMakeSplit", fn := fun _ => fun
  | [d1, d2, d3] => { results := [.lit (.bool true)], args := [d1, d2, d3] }
  | _ => none }
def fnExactMakeSplitRow : OpenClaim := { program := "ytbamooigfbbkaaa", sum := "cf3eb72075271a904633a3294ae6f7cf709b1c9d7482ef9365f3b7b141def949", func := "loop.example/g01333/laws.FnExactMakeSplit", spec := "fnExactMakeSplit", unfollowed := true, recurses := true, apart := false }
def FnExactMakeSplitSaid : Prop := fnExactMakeSplitRow.holds Try.pinned (OpenSpec.ofChange fnExactMakeSplitSpec)

/-- ITS FALSE NEIGHBOUR: 'it returns false'. Refute it at one input. -/
def fnExactMakeSplitWrong : ChangeSpec := { name := "fnExactMakeSplit", fn := fun _ => fun
  | [d1, d2, d3] => { results := [.lit (.bool false)], args := [d1, d2, d3] }
  | _ => none }
def FnExactMakeSplitWrongFalsely : Prop := fnExactMakeSplitRow.holds Try.pinned (OpenSpec.ofChange fnExactMakeSplitWrong)

/-- 'laws.FnExactDoesFirstWin': WHATEVER THE INPUT: true; the input reads as it did. -/
def fnExactDoesFirstWinSpec : ChangeSpec := { name := "fnExactDoesFirstWin", fn := fun _ => fun
  | [d1, d2] => { results := [.lit (.bool true)], args := [d1, d2] }
  | _ => none }
def fnExactDoesFirstWinRow : OpenClaim := { program := "ytbamooigfbbkaaa", sum := "cf3eb72075271a904633a3294ae6f7cf709b1c9d7482ef9365f3b7b141def949", func := "loop.example/g01333/laws.FnExactDoesFirstWin", spec := "fnExactDoesFirstWin", unfollowed := true, recurses := true, apart := false }
def FnExactDoesFirstWinSaid : Prop := fnExactDoesFirstWinRow.holds Try.pinned (OpenSpec.ofChange fnExactDoesFirstWinSpec)

/-- ITS FALSE NEIGHBOUR: 'it returns false'. Refute it at one input. -/
def fnExactDoesFirstWinWrong : ChangeSpec := { name := "fnExactDoesFirstWin", fn := fun _ => fun
  | [d1, d2] => { results := [.lit (.bool false)], args := [d1, d2] }
  | _ => none }
def FnExactDoesFirstWinWrongFalsely : Prop := fnExactDoesFirstWinRow.holds Try.pinned (OpenSpec.ofChange fnExactDoesFirstWinWrong)

/-- 'laws.FnExactSplitsOf': WHATEVER THE INPUT: true; the input reads as it did. -/
def fnExactSplitsOfSpec : ChangeSpec := { name := "fnExactSplitsOf", fn := fun _ => fun
  | [d1, d2] => { results := [.lit (.bool true)], args := [d1, d2] }
  | _ => none }
def fnExactSplitsOfRow : OpenClaim := { program := "ytbamooigfbbkaaa", sum := "cf3eb72075271a904633a3294ae6f7cf709b1c9d7482ef9365f3b7b141def949", func := "loop.example/g01333/laws.FnExactSplitsOf", spec := "fnExactSplitsOf", unfollowed := true, recurses := true, apart := false }
def FnExactSplitsOfSaid : Prop := fnExactSplitsOfRow.holds Try.pinned (OpenSpec.ofChange fnExactSplitsOfSpec)

/-- ITS FALSE NEIGHBOUR: 'it returns false'. Refute it at one input. -/
def fnExactSplitsOfWrong : ChangeSpec := { name := "fnExactSplitsOf", fn := fun _ => fun
  | [d1, d2] => { results := [.lit (.bool false)], args := [d1, d2] }
  | _ => none }
def FnExactSplitsOfWrongFalsely : Prop := fnExactSplitsOfRow.holds Try.pinned (OpenSpec.ofChange fnExactSplitsOfWrong)

/- THE SECOND FORM. 'bulk': how many values and letters a reading holds, each counted each time it is reached (what is shared counts as often as it is met; a slice's spare places count too). A statement '..UptoSaid' is the law's where the arguments, and the package variables that the reading takes, are together of bulk at most 1048576: NARROWER than '..Said'. Prove '..Said' where nothing that the law and all that it calls make is longer than what came in: it says more and counts as full. Else prove '..UptoSaid'. A law counts once. -/
mutual
def uptoBulk {H : Type} : DataW H → Nat
  | .lit (.string bytes) => bytes.length + 1
  | .lit _ => 1
  | .nil => 1
  | .ptr d => uptoBulk d + 1
  | .slice elems spare => uptoBulkAll elems + uptoBulkAll spare + 1
  | .agg parts => uptoBulkAll parts + 1
  | .iface _ d => uptoBulk d + 1
  | .map entries => uptoBulkEntries entries + 1
  | .held _ => 1
def uptoBulkAll {H : Type} : List (DataW H) → Nat
  | [] => 0
  | d :: r => uptoBulk d + uptoBulkAll r
def uptoBulkEntries {H : Type} : List (Lit × DataW H) → Nat
  | [] => 0
  | x :: r => uptoBulkEntry x + uptoBulkEntries r
def uptoBulkEntry {H : Type} : Lit × DataW H → Nat
  | (.string bytes, d) => bytes.length + uptoBulk d + 1
  | (_, d) => uptoBulk d + 1
 end
def uptoSmall : (H : Type) → List (DataW H) → Bool := fun _ ds => decide (uptoBulkAll ds ≤ 1048576)
def OpenSpec.upto (s : _root_.Go.ChangeSpec) : _root_.Go.OpenSpec := { _root_.Go.OpenSpec.ofChange s with cond := some uptoSmall }

/-- 'laws.FnExactFullScore', WHERE WHAT IT READS IS OF BULK AT MOST 1048576: true; the input reads as it did. -/
def fnExactFullScoreUptoRow : OpenClaim := { program := "ytbamooigfbbkaaa", sum := "cf3eb72075271a904633a3294ae6f7cf709b1c9d7482ef9365f3b7b141def949", func := "loop.example/g01333/laws.FnExactFullScore", spec := "fnExactFullScore", apart := false, narrowed := true }
def FnExactFullScoreUptoSaid : Prop := fnExactFullScoreUptoRow.holds Try.pinned (OpenSpec.upto fnExactFullScoreSpec)

/-- 'laws.FnExactAreSplitHeaps', WHERE WHAT IT READS IS OF BULK AT MOST 1048576: true; the input reads as it did. -/
def fnExactAreSplitHeapsUptoRow : OpenClaim := { program := "ytbamooigfbbkaaa", sum := "cf3eb72075271a904633a3294ae6f7cf709b1c9d7482ef9365f3b7b141def949", func := "loop.example/g01333/laws.FnExactAreSplitHeaps", spec := "fnExactAreSplitHeaps", unfollowed := true, recurses := true, apart := false, narrowed := true }
def FnExactAreSplitHeapsUptoSaid : Prop := fnExactAreSplitHeapsUptoRow.holds Try.pinned (OpenSpec.upto fnExactAreSplitHeapsSpec)

/-- 'laws.FnExactLongestSplit', WHERE WHAT IT READS IS OF BULK AT MOST 1048576: true; the input reads as it did. -/
def fnExactLongestSplitUptoRow : OpenClaim := { program := "ytbamooigfbbkaaa", sum := "cf3eb72075271a904633a3294ae6f7cf709b1c9d7482ef9365f3b7b141def949", func := "loop.example/g01333/laws.FnExactLongestSplit", spec := "fnExactLongestSplit", unfollowed := true, recurses := true, apart := false, narrowed := true }
def FnExactLongestSplitUptoSaid : Prop := fnExactLongestSplitUptoRow.holds Try.pinned (OpenSpec.upto fnExactLongestSplitSpec)

/-- 'laws.FnExactShortestSplit', WHERE WHAT IT READS IS OF BULK AT MOST 1048576: true; the input reads as it did. -/
def fnExactShortestSplitUptoRow : OpenClaim := { program := "ytbamooigfbbkaaa", sum := "cf3eb72075271a904633a3294ae6f7cf709b1c9d7482ef9365f3b7b141def949", func := "loop.example/g01333/laws.FnExactShortestSplit", spec := "fnExactShortestSplit", unfollowed := true, recurses := true, apart := false, narrowed := true }
def FnExactShortestSplitUptoSaid : Prop := fnExactShortestSplitUptoRow.holds Try.pinned (OpenSpec.upto fnExactShortestSplitSpec)

/-- 'laws.FnExactValueOfSplit', WHERE WHAT IT READS IS OF BULK AT MOST 1048576: true; the input reads as it did. -/
def fnExactValueOfSplitUptoRow : OpenClaim := { program := "ytbamooigfbbkaaa", sum := "cf3eb72075271a904633a3294ae6f7cf709b1c9d7482ef9365f3b7b141def949", func := "loop.example/g01333/laws.FnExactValueOfSplit", spec := "fnExactValueOfSplit", unfollowed := true, recurses := true, apart := false, narrowed := true }
def FnExactValueOfSplitUptoSaid : Prop := fnExactValueOfSplitUptoRow.holds Try.pinned (OpenSpec.upto fnExactValueOfSplitSpec)

/-- 'laws.FnExactIsSplitOver', WHERE WHAT IT READS IS OF BULK AT MOST 1048576: true; the input reads as it did. -/
def fnExactIsSplitOverUptoRow : OpenClaim := { program := "ytbamooigfbbkaaa", sum := "cf3eb72075271a904633a3294ae6f7cf709b1c9d7482ef9365f3b7b141def949", func := "loop.example/g01333/laws.FnExactIsSplitOver", spec := "fnExactIsSplitOver", unfollowed := true, recurses := true, apart := false, narrowed := true }
def FnExactIsSplitOverUptoSaid : Prop := fnExactIsSplitOverUptoRow.holds Try.pinned (OpenSpec.upto fnExactIsSplitOverSpec)

/-- 'laws.FnExactLosingHeaps', WHERE WHAT IT READS IS OF BULK AT MOST 1048576: true; the input reads as it did. -/
def fnExactLosingHeapsUptoRow : OpenClaim := { program := "ytbamooigfbbkaaa", sum := "cf3eb72075271a904633a3294ae6f7cf709b1c9d7482ef9365f3b7b141def949", func := "loop.example/g01333/laws.FnExactLosingHeaps", spec := "fnExactLosingHeaps", apart := false, narrowed := true }
def FnExactLosingHeapsUptoSaid : Prop := fnExactLosingHeapsUptoRow.holds Try.pinned (OpenSpec.upto fnExactLosingHeapsSpec)

/-- 'laws.FnExactScoreOfSplits', WHERE WHAT IT READS IS OF BULK AT MOST 1048576: true; the input reads as it did. -/
def fnExactScoreOfSplitsUptoRow : OpenClaim := { program := "ytbamooigfbbkaaa", sum := "cf3eb72075271a904633a3294ae6f7cf709b1c9d7482ef9365f3b7b141def949", func := "loop.example/g01333/laws.FnExactScoreOfSplits", spec := "fnExactScoreOfSplits", apart := false, narrowed := true }
def FnExactScoreOfSplitsUptoSaid : Prop := fnExactScoreOfSplitsUptoRow.holds Try.pinned (OpenSpec.upto fnExactScoreOfSplitsSpec)

/-- 'laws.FnExactValueOfHeaps', WHERE WHAT IT READS IS OF BULK AT MOST 1048576: true; the input reads as it did. -/
def fnExactValueOfHeapsUptoRow : OpenClaim := { program := "ytbamooigfbbkaaa", sum := "cf3eb72075271a904633a3294ae6f7cf709b1c9d7482ef9365f3b7b141def949", func := "loop.example/g01333/laws.FnExactValueOfHeaps", spec := "fnExactValueOfHeaps", unfollowed := true, recurses := true, apart := false, narrowed := true }
def FnExactValueOfHeapsUptoSaid : Prop := fnExactValueOfHeapsUptoRow.holds Try.pinned (OpenSpec.upto fnExactValueOfHeapsSpec)

/-- 'laws.FnExactMakeSplit', WHERE WHAT IT READS IS OF BULK AT MOST 1048576: true; the input reads as it did. -/
def fnExactMakeSplitUptoRow : OpenClaim := { program := "ytbamooigfbbkaaa", sum := "cf3eb72075271a904633a3294ae6f7cf709b1c9d7482ef9365f3b7b141def949", func := "loop.example/g01333/laws.FnExactMakeSplit", spec := "fnExactMakeSplit", unfollowed := true, recurses := true, apart := false, narrowed := true }
def FnExactMakeSplitUptoSaid : Prop := fnExactMakeSplitUptoRow.holds Try.pinned (OpenSpec.upto fnExactMakeSplitSpec)

/-- 'laws.FnExactDoesFirstWin', WHERE WHAT IT READS IS OF BULK AT MOST 1048576: true; the input reads as it did. -/
def fnExactDoesFirstWinUptoRow : OpenClaim := { program := "ytbamooigfbbkaaa", sum := "cf3eb72075271a904633a3294ae6f7cf709b1c9d7482ef9365f3b7b141def949", func := "loop.example/g01333/laws.FnExactDoesFirstWin", spec := "fnExactDoesFirstWin", unfollowed := true, recurses := true, apart := false, narrowed := true }
def FnExactDoesFirstWinUptoSaid : Prop := fnExactDoesFirstWinUptoRow.holds Try.pinned (OpenSpec.upto fnExactDoesFirstWinSpec)

/-- 'laws.FnExactSplitsOf', WHERE WHAT IT READS IS OF BULK AT MOST 1048576: true; the input reads as it did. -/
def fnExactSplitsOfUptoRow : OpenClaim := { program := "ytbamooigfbbkaaa", sum := "cf3eb72075271a904633a3294ae6f7cf709b1c9d7482ef9365f3b7b141def949", func := "loop.example/g01333/laws.FnExactSplitsOf", spec := "fnExactSplitsOf", unfollowed := true, recurses := true, apart := false, narrowed := true }
def FnExactSplitsOfUptoSaid : Prop := fnExactSplitsOfUptoRow.holds Try.pinned (OpenSpec.upto fnExactSplitsOfSpec)

end Rows
end Go.Proofs.Ytbamooigfbbkaaa
