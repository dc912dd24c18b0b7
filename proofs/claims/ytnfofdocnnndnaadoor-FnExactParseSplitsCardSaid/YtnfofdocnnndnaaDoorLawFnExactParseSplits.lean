/-
  The program's ParseSplits returns what the reference's returns, for all arguments: the statement of its row.
  Conditions: those of the row itself; none is added.
-/
import Derived.Test.YtnfofdocnnndnaaDoorRows
import Derived.Test.YtnfofdocnnndnaaDoorPPx5
import Derived.Test.YtnfofdocnnndnaaDoorPureFnExactParseSplits
import Derived.WalkKit
import Derived.ProofKit
import Derived.OpenShut
import Derived.ShutString
import Derived.ChangeOld
import Derived.Below
import Derived.SizedLaws
import Derived.LaidMore
import Derived.LaidLaws
import Derived.Lay
import Derived.Test.YtnfofdocnnndnaaDoorLaidAt
namespace Go.Proofs.YtnfofdocnnndnaaDoor.fnExactParseSplits
open Go.ChangeShapes Go.WideShapes Go.ChangeAt Go.RowKit
open Go.ChangeMaps (open_string shut_string)
set_option linter.unusedVariables false
theorem own : ownKnob Tryd.prog.godebug = none := by kernel_rfl
set_option maxRecDepth 100000 in
theorem lifted (os : Os) (started : os.Started) (H : Type) (enc : TypeId × Value → H) :
  ReturnsInHanded {} Tryd.checked os 5 .any (fun w args => (Rows.fnExactParseSplitsSpec.pre enc Tryd.prog Tryd.f5 Rows.fnExactParseSplitsRow.domain false w args ∧ laidMetH Tryd.prog Rows.fnExactParseSplitsRow.laid w) ∧ sizedMet enc Tryd.prog Tryd.f5 (OpenSpec.ofChange Rows.fnExactParseSplitsSpec) false w args) (Rows.fnExactParseSplitsSpec.post enc Tryd.prog Tryd.f5 false true false false) := by
 refine YtnfofdocnnndnaaDoorB.returns_mild (X := fun w _ => laidMetH Tryd.prog Rows.fnExactParseSplitsRow.laid w) (fun _ _ _ hh h => h.of_heap hh) (fun w _ hs h => YtnfofdocnnndnaaDoorB.mild_of_laid hs h (by kernel_rfl) Rows.laid_strconv_ErrSyntax Rows.laid_strconv_ErrRange rfl rfl (by kernel_rfl) (by kernel_rfl) (by kernel_rfl)) own started (by kernel_rfl) Tryd.func5
  (ChangeSpec.witness_shaped (enc := enc) (C := Tryd.checked) (os := os) (X := fun w _ => laidMetH Tryd.prog Rows.fnExactParseSplitsRow.laid w) false (World.laidAll Tryd.prog os Rows.fnExactParseSplitsRow.laid) #[.string ByteArray.empty] 8 (World.laidAll_os _ _ _) (World.shaped_of_ZipB (by kernel_rfl) (by kernel_rfl)) (by kernel_rfl) (by kernel_rfl) (by kernel_rfl) (by rw [MakeChecks.laidMetH_plain _ _ _ (by kernel_rfl)]; exact laidMet_laidAll _ (by kernel_rfl) (by kernel_rfl))) ?_
 intro W base args ds gs before hval0 hW hcnd hsz0 hM
 have hsz : (DataW.weightsEach Tryd.prog (Tryd.f5.params.toList ++ Rows.fnExactParseSplitsSpec.plain.varTypes Tryd.prog) (ds ++ gs)).all (· ≤ reachBytes) = true := hsz0
 have hval : ∀ (j : Nat) t v, Tryd.f5.params[j]? = some t → args[j]? = some v → Value.okWide Tryd.prog W .any base t v := hval0
 have hW' := hW
 obtain ⟨p, q, hA0, hV, rfl, hfz, hnd⟩ := hW
 have hA : DataW.TrodAll enc Tryd.prog W 0 (fun _ => true) true Tryd.f5.params.toList args.toList ds p := hA0
 rw [Tryd.params5] at hA hval hsz
 obtain ⟨v0, vs0, d0, ds0, p0, q0, hargs, rfl, rfl, h0, r0⟩ := trodAll_cons hA
 obtain ⟨rfl, rfl, rfl⟩ := trodAll_nil r0
 obtain rfl : args = #[v0] := by cases args; simp_all
 obtain ⟨rfl, rfl⟩ := trodVars_none hV
 obtain ⟨a0, rfl, rfl, rfl, y0⟩ := open_string Tryd.underlying9 (hval 0 9 v0 rfl rfl) h0
 have w0 : a0.size ≤ 140737488351232 := by
  have z := sized_string hsz (j := 0) (t := 9) rfl rfl
  rw [Array.length_toList] at z
  exact z
 clear hA0 hval0 hsz0 hsz
 refine (PP.laws_FnExactParseSplits.walk Pure.FnExactParseSplits a0 W w0 hM).mono fun e W' ⟨he, bel⟩ => ?_
 subst he
 exact ⟨_, rfl, _, _, _, [], _, [], hW', trodAll_mk1 (shut_bool Tryd.underlying4 _), (trodAll_cons_mk (shut_string Tryd.underlying9 y0) trodAll_mk0), rfl, bel.frame _, fun h => by cases h⟩
theorem over : Rows.fnExactParseSplitsRow.holds Tryd.pinned (OpenSpec.ofChange Rows.fnExactParseSplitsSpec) :=
 OpenClaim.holds_of_wide 5 Tryd.f5 rfl rfl rfl rfl rfl rfl rfl ⟨rfl, rfl, rfl, rfl, rfl⟩ rfl rfl rfl rfl rfl (by kernel_rfl) Tryd.func5 (by kernel_rfl)
  (of_decide_eq_true (by kernel_rfl)) (by unfold Func.isWrapper; first | (rw [if_pos (by decide +kernel)]; kernel_rfl) | (rw [if_neg (by decide +kernel)]; exact ⟨rfl, rfl⟩))
  (fun os started H enc _ => lifted os started H enc)
theorem proved : Rows.FnExactParseSplitsSaid := over
#print axioms proved
end Go.Proofs.YtnfofdocnnndnaaDoor.fnExactParseSplits
namespace Go.Proofs.YtnfofdocnnndnaaDoor
/-- The row, under a short name, for the claim. -/
theorem fnExactParseSplits_holds : Rows.FnExactParseSplitsSaid := fnExactParseSplits.proved
end Go.Proofs.YtnfofdocnnndnaaDoor
