/-
  FullScore of the program returns what the reference's returns, for every number of stones.
  Conditions: none beyond the row's own (the number is an int).
-/
import Derived.Test.YtbamooigfbbkaaaPFnExactFullScorex1
namespace Go.Proofs.Ytbamooigfbbkaaa.Pure
open Go.RowKit Go.Proofs.Ytbamooigfbbkaaa.PFnExactFullScore Go.Proofs.YtbamooigfbbkaaaW.PrintWords Go.Proofs.YtbamooigfbbkaaaW.PrintLast

theorem FnExactFullScore : laws_FnExactFullScore.Pure := by
  intro a0 _
  simp only [laws_FnExactFullScore.f, spec_FullScore.f, impl_FullScore.f, spec_l1In.f, impl_within.f]
  by_cases h1 : a0 ≥ 1
  · by_cases h2 : a0 ≤ 60
    · simp [h1, h2]
    · simp [h1, h2]
  · simp [h1]

end Go.Proofs.Ytbamooigfbbkaaa.Pure
