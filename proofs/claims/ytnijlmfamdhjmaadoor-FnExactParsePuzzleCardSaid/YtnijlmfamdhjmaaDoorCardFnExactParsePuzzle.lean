/-
  The program's ParsePuzzle returns what the reference's returns, for all arguments: the tied card of its row, the listed variables read off the program's own text.
  Conditions: those of the card itself; none is added.
-/
import Derived.Test.YtnijlmfamdhjmaaDoorCards
import Derived.Test.YtnijlmfamdhjmaaDoorTie
import Derived.Test.YtnijlmfamdhjmaaDoorLawFnExactParsePuzzle
import Derived.SevenTiedAt
namespace Go.Proofs.YtnijlmfamdhjmaaDoor
open Go
/-- The card of the row. -/
theorem fnExactParsePuzzleCard_holds : Rows.FnExactParsePuzzleCardSaid :=
  Claim7.holds_tied_plain_at .later [] [.data, .data, .data, .data, .sentinel, .sentinel, .pinned] true (true, "d1c999eb4d6ae10d090665187d56508919998c937e2c0ea6cc27a8276ce4f023") true
    fnExactParsePuzzle_holds (fun _ h => by cases h) (by kernel_rfl) (fun _ h => by cases h) fnExactParsePuzzle_row_tie rfl ⟨rfl, rfl⟩ (by kernel_rfl) rfl
    (fun f fn hf hfn => by
      obtain rfl : f = 4 := Option.some.inj ((show Tryd.prog.funcNamed "loop.example/g01333/laws.FnExactParsePuzzle" = some 4 by kernel_rfl).symm.trans hf) |>.symm
      obtain rfl : fn = Tryd.f4 := (Option.some.inj (Tryd.func4.symm.trans hfn)).symm
      exact ⟨by kernel_rfl, fun j t ht => by
        rw [Tryd.params4] at ht
        rcases j with _ | j
        · obtain rfl := Option.some.inj ht
          kernel_rfl
        · simp at ht⟩)
    (by kernel_rfl)
#print axioms fnExactParsePuzzleCard_holds
end Go.Proofs.YtnijlmfamdhjmaaDoor
