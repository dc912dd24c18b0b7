/-
  The program's PuzzleText returns what the reference's returns, for all arguments: the tied card of its row, the listed variables read off the program's own text.
  Conditions: those of the card itself; none is added.
-/
import Derived.Test.YtnijlmfamdhjmaaDoorCards
import Derived.Test.YtnijlmfamdhjmaaDoorTie
import Derived.Test.YtnijlmfamdhjmaaDoorLawFnExactPuzzleText
import Derived.SevenTiedAt
namespace Go.Proofs.YtnijlmfamdhjmaaDoor
open Go
/-- The card of the row. -/
theorem fnExactPuzzleTextCard_holds : Rows.FnExactPuzzleTextCardSaid :=
  Claim7.holds_tied_plain_at .later [] [.data, .data, .data] true (true, "d1c999eb4d6ae10d090665187d56508919998c937e2c0ea6cc27a8276ce4f023") true
    fnExactPuzzleText_holds (fun _ h => by cases h) (by kernel_rfl) (fun _ h => by cases h) fnExactPuzzleText_row_tie rfl ⟨rfl, rfl⟩ (by kernel_rfl) rfl
    (fun f fn hf hfn => by
      obtain rfl : f = 3 := Option.some.inj ((show Tryd.prog.funcNamed "loop.example/g01333/laws.FnExactPuzzleText" = some 3 by kernel_rfl).symm.trans hf) |>.symm
      obtain rfl : fn = Tryd.f3 := (Option.some.inj (Tryd.func3.symm.trans hfn)).symm
      exact ⟨by kernel_rfl, fun j t ht => by
        rw [Tryd.params3] at ht
        rcases j with _ | j
        · obtain rfl := Option.some.inj ht
          kernel_rfl
        · simp at ht⟩)
    (by kernel_rfl)
#print axioms fnExactPuzzleTextCard_holds
end Go.Proofs.YtnijlmfamdhjmaaDoor
