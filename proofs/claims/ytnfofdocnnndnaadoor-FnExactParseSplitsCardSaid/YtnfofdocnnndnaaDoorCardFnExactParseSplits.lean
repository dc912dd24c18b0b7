/-
  The program's ParseSplits returns what the reference's returns, for all arguments: the tied card of its row, the listed variables read off the program's own text.
  Conditions: those of the card itself; none is added.
-/
import Derived.Test.YtnfofdocnnndnaaDoorCards
import Derived.Test.YtnfofdocnnndnaaDoorTie
import Derived.Test.YtnfofdocnnndnaaDoorLawFnExactParseSplits
import Derived.SevenTiedAt
namespace Go.Proofs.YtnfofdocnnndnaaDoor
open Go
/-- The card of the row. -/
theorem fnExactParseSplitsCard_holds : Rows.FnExactParseSplitsCardSaid :=
  Claim7.holds_tied_plain_at .later [] [.data, .data, .data, .data, .sentinel, .sentinel, .pinned] true (true, "b5106abff8b72f026b8dc576bbabe3f7749713285e4b956a0be20f709aaffc87") true
    fnExactParseSplits_holds (fun _ h => by cases h) (by kernel_rfl) (fun _ h => by cases h) fnExactParseSplits_row_tie rfl ⟨rfl, rfl⟩ (by kernel_rfl) rfl
    (fun f fn hf hfn => by
      obtain rfl : f = 5 := Option.some.inj ((show Tryd.prog.funcNamed "loop.example/g01333/laws.FnExactParseSplits" = some 5 by kernel_rfl).symm.trans hf) |>.symm
      obtain rfl : fn = Tryd.f5 := (Option.some.inj (Tryd.func5.symm.trans hfn)).symm
      exact ⟨by kernel_rfl, fun j t ht => by
        rw [Tryd.params5] at ht
        rcases j with _ | j
        · obtain rfl := Option.some.inj ht
          kernel_rfl
        · simp at ht⟩)
    (by kernel_rfl)
#print axioms fnExactParseSplitsCard_holds
end Go.Proofs.YtnfofdocnnndnaaDoor
