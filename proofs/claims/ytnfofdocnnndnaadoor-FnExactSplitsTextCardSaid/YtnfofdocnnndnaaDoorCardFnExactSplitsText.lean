/-
  The program's SplitsText returns what the reference's returns, for all arguments: the tied card of its row, the listed variables read off the program's own text.
  Conditions: those of the card itself; none is added.
-/
import Derived.Test.YtnfofdocnnndnaaDoorCards
import Derived.Test.YtnfofdocnnndnaaDoorTie
import Derived.Test.YtnfofdocnnndnaaDoorLawFnExactSplitsText
import Derived.SevenTiedAt
namespace Go.Proofs.YtnfofdocnnndnaaDoor
open Go
/-- The card of the row. -/
theorem fnExactSplitsTextCard_holds : Rows.FnExactSplitsTextCardSaid :=
  Claim7.holds_tied_plain_at .later [] [.data, .data, .data] true (true, "b5106abff8b72f026b8dc576bbabe3f7749713285e4b956a0be20f709aaffc87") true
    fnExactSplitsText_holds (fun _ h => by cases h) (by kernel_rfl) (fun _ h => by cases h) fnExactSplitsText_row_tie rfl ⟨rfl, rfl⟩ (by kernel_rfl) rfl
    (fun f fn hf hfn => by
      obtain rfl : f = 3 := Option.some.inj ((show Tryd.prog.funcNamed "loop.example/g01333/laws.FnExactSplitsText" = some 3 by kernel_rfl).symm.trans hf) |>.symm
      obtain rfl : fn = Tryd.f3 := (Option.some.inj (Tryd.func3.symm.trans hfn)).symm
      exact ⟨by kernel_rfl, fun j t ht => by
        rw [Tryd.params3] at ht
        rcases j with _ | j
        · obtain rfl := Option.some.inj ht
          kernel_rfl
        · simp at ht⟩)
    (by kernel_rfl)
#print axioms fnExactSplitsTextCard_holds
end Go.Proofs.YtnfofdocnnndnaaDoor
