/-
  No cell of these rows narrows 'for every input' (looked for: loops, veiled, ifaces, maps, wideKeys, modest, calm, conditions, laid).
  DERIVED. THE GIVEN ROWS OF THIS SEAT. 5 by the template 'for every input the law returns true; each argument reads behind the call as it read before'; 0 by the template 'total and deterministic' (their statements: YtnfofdocnnndnaaTotals.lean).
  GIVEN WITH THE SEED: the statements are not yours to turn. If you find one false, say at which input.
  Laid BY PROGRAM, IN A SANDBOX (cutbox-rows.mjs): the forced cells as the released guide's own fill.sh prints them over the translation 3aaa2d03378950a3… (all of the seat's roots in one cut). By AI agents, Wed Nov 11 2026. No macro, syntax, notation, axiom, sorry.
-/
import Derived.Test.YtnfofdocnnndnaaChecked
import GoSem.Claim
import GoSem.ClaimJoined
import GoSem.ClaimMapViews
import Derived.JoinedTies
import Derived.KernelRfl
namespace Go.Proofs.Ytnfofdocnnndnaa
/- THE CELL 'sum', in the pinned program and in every row, IS THE sha256 OF THE DUMP (.gsa) THAT YtnfofdocnnndnaaProg.lean LOADS. Nothing in Lean hashes anything: it is a label: what it is worth is what the hold of that sum in a sandbox is worth. -/
noncomputable def Try.pinned : Pinned := { name := "ytnfofdocnnndnaa", sum := "3aaa2d03378950a3b091874602d720579f6236a6fc8c86ec1425384986c9e47b", checked := Try.checked }
namespace Rows
def none {H : Type} : Left H := { results := [], args := [] }

/-- 'laws.FnExactPlaySplits': WHATEVER THE INPUT: true; the input reads as it did. -/
def fnExactPlaySplitsSpec : ChangeSpec := { name := "fnExactPlaySplits", fn := fun _ => fun
  | [d1, d2, d3] => { results := [.lit (.bool true)], args := [d1, d2, d3] }
  | _ => none }
def fnExactPlaySplitsRow : OpenClaim := { program := "ytnfofdocnnndnaa", sum := "3aaa2d03378950a3b091874602d720579f6236a6fc8c86ec1425384986c9e47b", func := "loop.example/g01333/laws.FnExactPlaySplits", spec := "fnExactPlaySplits", unfollowed := true, recurses := true, apart := false }
def FnExactPlaySplitsSaid : Prop := fnExactPlaySplitsRow.holds Try.pinned (OpenSpec.ofChange fnExactPlaySplitsSpec)

/-- ITS FALSE NEIGHBOUR: 'it returns false'. Refute it at one input. -/
def fnExactPlaySplitsWrong : ChangeSpec := { name := "fnExactPlaySplits", fn := fun _ => fun
  | [d1, d2, d3] => { results := [.lit (.bool false)], args := [d1, d2, d3] }
  | _ => none }
def FnExactPlaySplitsWrongFalsely : Prop := fnExactPlaySplitsRow.holds Try.pinned (OpenSpec.ofChange fnExactPlaySplitsWrong)

/-- 'laws.FnExactWinningSplits': WHATEVER THE INPUT: true; the input reads as it did. -/
def fnExactWinningSplitsSpec : ChangeSpec := { name := "fnExactWinningSplits", fn := fun _ => fun
  | [d1, d2] => { results := [.lit (.bool true)], args := [d1, d2] }
  | _ => none }
def fnExactWinningSplitsRow : OpenClaim := { program := "ytnfofdocnnndnaa", sum := "3aaa2d03378950a3b091874602d720579f6236a6fc8c86ec1425384986c9e47b", func := "loop.example/g01333/laws.FnExactWinningSplits", spec := "fnExactWinningSplits", unfollowed := true, recurses := true, apart := false }
def FnExactWinningSplitsSaid : Prop := fnExactWinningSplitsRow.holds Try.pinned (OpenSpec.ofChange fnExactWinningSplitsSpec)

/-- ITS FALSE NEIGHBOUR: 'it returns false'. Refute it at one input. -/
def fnExactWinningSplitsWrong : ChangeSpec := { name := "fnExactWinningSplits", fn := fun _ => fun
  | [d1, d2] => { results := [.lit (.bool false)], args := [d1, d2] }
  | _ => none }
def FnExactWinningSplitsWrongFalsely : Prop := fnExactWinningSplitsRow.holds Try.pinned (OpenSpec.ofChange fnExactWinningSplitsWrong)

/-- 'laws.FnExactBestPlay': WHATEVER THE INPUT: true; the input reads as it did. -/
def fnExactBestPlaySpec : ChangeSpec := { name := "fnExactBestPlay", fn := fun _ => fun
  | [d1, d2] => { results := [.lit (.bool true)], args := [d1, d2] }
  | _ => none }
def fnExactBestPlayRow : OpenClaim := { program := "ytnfofdocnnndnaa", sum := "3aaa2d03378950a3b091874602d720579f6236a6fc8c86ec1425384986c9e47b", func := "loop.example/g01333/laws.FnExactBestPlay", spec := "fnExactBestPlay", unfollowed := true, recurses := true, apart := false }
def FnExactBestPlaySaid : Prop := fnExactBestPlayRow.holds Try.pinned (OpenSpec.ofChange fnExactBestPlaySpec)

/-- ITS FALSE NEIGHBOUR: 'it returns false'. Refute it at one input. -/
def fnExactBestPlayWrong : ChangeSpec := { name := "fnExactBestPlay", fn := fun _ => fun
  | [d1, d2] => { results := [.lit (.bool false)], args := [d1, d2] }
  | _ => none }
def FnExactBestPlayWrongFalsely : Prop := fnExactBestPlayRow.holds Try.pinned (OpenSpec.ofChange fnExactBestPlayWrong)

/-- 'laws.FnSplitsValued': WHATEVER THE INPUT: true; the input reads as it did. -/
def fnSplitsValuedSpec : ChangeSpec := { name := "fnSplitsValued", fn := fun _ => fun
  | [d1, d2] => { results := [.lit (.bool true)], args := [d1, d2] }
  | _ => none }
def fnSplitsValuedRow : OpenClaim := { program := "ytnfofdocnnndnaa", sum := "3aaa2d03378950a3b091874602d720579f6236a6fc8c86ec1425384986c9e47b", func := "loop.example/g01333/laws.FnSplitsValued", spec := "fnSplitsValued", unfollowed := true, recurses := true, apart := false }
def FnSplitsValuedSaid : Prop := fnSplitsValuedRow.holds Try.pinned (OpenSpec.ofChange fnSplitsValuedSpec)

/-- ITS FALSE NEIGHBOUR: 'it returns false'. Refute it at one input. -/
def fnSplitsValuedWrong : ChangeSpec := { name := "fnSplitsValued", fn := fun _ => fun
  | [d1, d2] => { results := [.lit (.bool false)], args := [d1, d2] }
  | _ => none }
def FnSplitsValuedWrongFalsely : Prop := fnSplitsValuedRow.holds Try.pinned (OpenSpec.ofChange fnSplitsValuedWrong)

/-- 'laws.FnExactEndsOfSplit': WHATEVER THE INPUT: true; the input reads as it did. -/
def fnExactEndsOfSplitSpec : ChangeSpec := { name := "fnExactEndsOfSplit", fn := fun _ => fun
  | [d1, d2] => { results := [.lit (.bool true)], args := [d1, d2] }
  | _ => none }
def fnExactEndsOfSplitRow : OpenClaim := { program := "ytnfofdocnnndnaa", sum := "3aaa2d03378950a3b091874602d720579f6236a6fc8c86ec1425384986c9e47b", func := "loop.example/g01333/laws.FnExactEndsOfSplit", spec := "fnExactEndsOfSplit", unfollowed := true, recurses := true, apart := false }
def FnExactEndsOfSplitSaid : Prop := fnExactEndsOfSplitRow.holds Try.pinned (OpenSpec.ofChange fnExactEndsOfSplitSpec)

/-- ITS FALSE NEIGHBOUR: 'it returns false'. Refute it at one input. -/
def fnExactEndsOfSplitWrong : ChangeSpec := { name := "fnExactEndsOfSplit", fn := fun _ => fun
  | [d1, d2] => { results := [.lit (.bool false)], args := [d1, d2] }
  | _ => none }
def FnExactEndsOfSplitWrongFalsely : Prop := fnExactEndsOfSplitRow.holds Try.pinned (OpenSpec.ofChange fnExactEndsOfSplitWrong)

/- THE SECOND FORM. 'bulk': how many values and letters a reading holds, each counted each time it is reached (what is shared counts as often as it is met; a slice's spare places count too). A statement '..UptoSaid' is the law's where the arguments, and the package variables that the reading takes, are together of bulk at most 1048576: NARROWER than '..Said'. Prove '..Said' where nothing that the law and all that it calls make is longer than what came in: it says more and counts as full. Else prove '..UptoSaid'. A law counts once. -/
mutual
def uptoBulk {H : Type} : DataW H → Nat
  | .lit (.string bytes) => bytes.length + 1
  | .lit _ => 1
  | .nil => 1
  | .ptr d => uptoBulk d + 1
  | .slice elems spare => uptoBulkAll elems + uptoBulkAll spare + 1
  | .agg parts => uptoBulkAll parts + 1
  | .iface _ d => uptoBulk d + 1
  | .map entries => uptoBulkEntries entries + 1
  | .held _ => 1
def uptoBulkAll {H : Type} : List (DataW H) → Nat
  | [] => 0
  | d :: r => uptoBulk d + uptoBulkAll r
def uptoBulkEntries {H : Type} : List (Lit × DataW H) → Nat
  | [] => 0
  | x :: r => uptoBulkEntry x + uptoBulkEntries r
def uptoBulkEntry {H : Type} : Lit × DataW H → Nat
  | (.string bytes, d) => bytes.length + uptoBulk d + 1
  | (_, d) => uptoBulk d + 1
 end
def uptoSmall : (H : Type) → List (DataW H) → Bool := fun _ ds => decide (uptoBulkAll ds ≤ 1048576)
def OpenSpec.upto (s : _root_.Go.ChangeSpec) : _root_.Go.OpenSpec := { _root_.Go.OpenSpec.ofChange s with cond := some uptoSmall }

/-- 'laws.FnExactPlaySplits', WHERE WHAT IT READS IS OF BULK AT MOST 1048576: true; the input reads as it did. -/
def fnExactPlaySplitsUptoRow : OpenClaim := { program := "ytnfofdocnnndnaa", sum := "3aaa2d03378950a3b091874602d720579f6236a6fc8c86ec1425384986c9e47b", func := "loop.example/g01333/laws.FnExactPlaySplits", spec := "fnExactPlaySplits", unfollowed := true, recurses := true, apart := false, narrowed := true }
def FnExactPlaySplitsUptoSaid : Prop := fnExactPlaySplitsUptoRow.holds Try.pinned (OpenSpec.upto fnExactPlaySplitsSpec)

/-- 'laws.FnExactWinningSplits', WHERE WHAT IT READS IS OF BULK AT MOST 1048576: true; the input reads as it did. -/
def fnExactWinningSplitsUptoRow : OpenClaim := { program := "ytnfofdocnnndnaa", sum := "3aaa2d03378950a3b091874602d720579f6236a6fc8c86ec1425384986c9e47b", func := "loop.example/g01333/laws.FnExactWinningSplits", spec := "fnExactWinningSplits", unfollowed := true, recurses := true, apart := false, narrowed := true }
def FnExactWinningSplitsUptoSaid : Prop := fnExactWinningSplitsUptoRow.holds Try.pinned (OpenSpec.upto fnExactWinningSplitsSpec)

/-- 'laws.FnExactBestPlay', WHERE WHAT IT READS IS OF BULK AT MOST 1048576: true; the input reads as it did. -/
def fnExactBestPlayUptoRow : OpenClaim := { program := "ytnfofdocnnndnaa", sum := "3aaa2d03378950a3b091874602d720579f6236a6fc8c86ec1425384986c9e47b", func := "loop.example/g01333/laws.FnExactBestPlay", spec := "fnExactBestPlay", unfollowed := true, recurses := true, apart := false, narrowed := true }
def FnExactBestPlayUptoSaid : Prop := fnExactBestPlayUptoRow.holds Try.pinned (OpenSpec.upto fnExactBestPlaySpec)

/-- 'laws.FnSplitsValued', WHERE WHAT IT READS IS OF BULK AT MOST 1048576: true; the input reads as it did. -/
def fnSplitsValuedUptoRow : OpenClaim := { program := "ytnfofdocnnndnaa", sum := "3aaa2d03378950a3b091874602d720579f6236a6fc8c86ec1425384986c9e47b", func := "loop.example/g01333/laws.FnSplitsValued", spec := "fnSplitsValued", unfollowed := true, recurses := true, apart := false, narrowed := true }
def FnSplitsValuedUptoSaid : Prop := fnSplitsValuedUptoRow.holds Try.pinned (OpenSpec.upto fnSplitsValuedSpec)

/-- 'laws.FnExactEndsOfSplit', WHERE WHAT IT READS IS OF BULK AT MOST 1048576: true; the input reads as it did. -/
def fnExactEndsOfSplitUptoRow : OpenClaim := { program := "ytnfofdocnnndnaa", sum := "3aaa2d03378950a3b091874602d720579f6236a6fc8c86ec1425384986c9e47b", func := "loop.example/g01333/laws.FnExactEndsOfSplit", spec := "fnExactEndsOfSplit", unfollowed := true, recurses := true, apart := false, narrowed := true }
def FnExactEndsOfSplitUptoSaid : Prop := fnExactEndsOfSplitUptoRow.holds Try.pinned (OpenSpec.upto fnExactEndsOfSplitSpec)

end Rows
end Go.Proofs.Ytnfofdocnnndnaa
