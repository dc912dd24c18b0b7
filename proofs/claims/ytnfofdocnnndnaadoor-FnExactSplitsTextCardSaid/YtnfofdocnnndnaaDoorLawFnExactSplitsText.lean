/-
  The program's SplitsText returns what the reference's returns, for all arguments: the statement of its row.
  Conditions: those of the row itself; none is added.
-/
import Derived.Test.YtnfofdocnnndnaaDoorRows
import Derived.Test.YtnfofdocnnndnaaDoorPAx4
import Derived.Test.YtnfofdocnnndnaaDoorPureFnExactSplitsText
import Derived.Test.YtnfofdocnnndnaaDoorOpen
import Derived.WalkKit
import Derived.ProofKit
import Derived.OpenShut
import Derived.ShutString
import Derived.ChangeOld
import Derived.Below
import Derived.SizedLaws
import Derived.LaidMore
import Derived.LaidLaws
namespace Go.Proofs.YtnfofdocnnndnaaDoor.fnExactSplitsText
open Go.ChangeShapes Go.WideShapes Go.ChangeAt Go.RowKit Go.Proofs.YtnfofdocnnndnaaDoorW.PrintWords Go.Proofs.YtnfofdocnnndnaaDoor.PA Go.Proofs.YtnfofdocnnndnaaDoorB
open Go.ChangeMaps (open_string shut_string)
set_option linter.unusedVariables false
theorem own : ownKnob Tryd.prog.godebug = none := by kernel_rfl
theorem laidOut : laidOutB Tryd.prog = true := by kernel_rfl
theorem told_i64_3 {H : Type} (enc : TypeId × Value → H) (W : World) (base : Nat) (spare : Nat → Bool) (held : Bool) : ToldK enc Tryd.prog W base spare held (Kd.int .i64) (fun y => (Lit.int .i64 y).wf = true) 3 := told_int Tryd.underlying3
set_option maxRecDepth 100000 in
theorem told_T42_42 {H : Type} (enc : TypeId × Value → H) (W : World) (base : Nat) (spare : Nat → Bool) (held : Bool) : ToldK enc Tryd.prog W base spare held k42 (fun y => ((Lit.int .i64 y.f0).wf = true ∧ (Lit.int .i64 y.f1).wf = true)) 42 := by
 intro n cs x h
 obtain ⟨xs, n', _, _, hl, hlen, hg⟩ := DataW.trod_struct Tryd.underlying42 h
 have hl' : cs.length = 2 := hl
 match xs, hlen, cs, hl' with
 | [y0, y1], _, [c0, c1], _ =>
  obtain ⟨z0, K0, w0⟩ := told_i64_3 enc W base spare held n' [c0] y0 (hg 0 _ rfl)
  obtain ⟨z1, K1, w1⟩ := told_i64_3 enc W base spare held n' [c1] y1 (hg 1 _ rfl)
  exact ⟨⟨z0, z1⟩, ⟨[c0], [c1], rfl, K0, K1⟩, ⟨w0, w1⟩⟩
theorem told_L42_T42_22 {H : Type} (enc : TypeId × Value → H) (W : World) (base : Nat) (spare : Nat → Bool) (held : Bool) : ToldK enc Tryd.prog W base spare held (Kd.slice 42 k42) (fun y => (y.length ≤ maxLen ∧ ∀ z0 ∈ y, ((Lit.int .i64 z0.f0).wf = true ∧ (Lit.int .i64 z0.f1).wf = true))) 22 := told_slice Tryd.underlying22 (by kernel_rfl) (told_T42_42 enc W base spare held)
theorem door_met (os : Os) (args : Array Value) : laidMetH Tryd.prog Rows.fnExactSplitsTextRow.laid ((World.doorLaid Tryd.prog 80 os).forCall (fun _ _ => 0) ⟨#[], args, []⟩).memory :=
 laidMetH_of_parts3 (fuel := 8) (laidMet_of_run' 8 (by kernel_rfl) (by kernel_rfl)) (by kernel_rfl) (by kernel_rfl)
set_option maxRecDepth 100000 in
theorem lifted (os : Os) (started : os.Started) (H : Type) (enc : TypeId × Value → H) :
  ReturnsInHanded {} Tryd.checked os 3 .any (fun w args => (Rows.fnExactSplitsTextSpec.pre enc Tryd.prog Tryd.f3 Rows.fnExactSplitsTextRow.domain false w args ∧ laidMetH Tryd.prog Rows.fnExactSplitsTextRow.laid w) ∧ sizedMet enc Tryd.prog Tryd.f3 (OpenSpec.ofChange Rows.fnExactSplitsTextSpec) false w args) (Rows.fnExactSplitsTextSpec.post enc Tryd.prog Tryd.f3 false true false false) := by
 refine returnsInHanded_of_change_and (C := Tryd.checked) (X := fun w _ => laidMetH Tryd.prog Rows.fnExactSplitsTextRow.laid w) (fun _ _ _ hh h => h.of_heap hh) own started (by kernel_rfl) Tryd.func3
  (ChangeSpec.witness_shaped (enc := enc) (C := Tryd.checked) (os := os) (X := fun w _ => laidMetH Tryd.prog Rows.fnExactSplitsTextRow.laid w) false (World.doorLaid Tryd.prog 80 os) #[.slice none 0 0] 8 rfl (World.shaped_of_RefB (by kernel_rfl) (by kernel_rfl)) (by kernel_rfl) (by kernel_rfl) (by kernel_rfl) (door_met os _)) ?_
 intro W base args ds gs before hval0 hW hcnd hsz0 _ _
 have hval : ∀ (j : Nat) t v, Tryd.f3.params[j]? = some t → args[j]? = some v → Value.okWide Tryd.prog W .any base t v := hval0
 have hW' := hW
 obtain ⟨p, q, hA0, hV, rfl, hfz, hnd⟩ := hW
 have hA : DataW.TrodAll enc Tryd.prog W 0 (fun _ => true) true Tryd.f3.params.toList args.toList ds p := hA0
 rw [Tryd.params3] at hA hval
 obtain ⟨v0, vs0, d0, ds0, p0, q0, hargs, rfl, rfl, h0, r0⟩ := trodAll_cons hA
 obtain ⟨rfl, rfl, rfl⟩ := trodAll_nil r0
 obtain rfl : args = #[v0] := by cases args; simp_all
 obtain ⟨rfl, rfl⟩ := trodVars_none hV
 have k0 := h0
 have lt0 : ∀ x ∈ p0, x.block < W.heap.size := by obtain ⟨m, hm⟩ := k0; exact DataW.trod_lt m _ _ _ hm
 obtain ⟨a0, len0, cap0, rfl⟩ := okWide_slice Tryd.underlying22 (hval 0 22 v0 rfl rfl)
 obtain ⟨m0, hm0⟩ := h0
 obtain ⟨l0, K0, w0⟩ := told_L42_T42_22 enc W _ _ _ _ _ _ hm0
 obtain ⟨A0, c0, e0, hc0, hr0⟩ := K0
 simp only [Value.cells, List.cons.injEq, Value.slice.injEq, and_true] at e0
 obtain ⟨rfl, rfl, rfl⟩ := e0
 clear hA0 hval0 hsz0
 obtain ⟨k_, hk_⟩ := Pure.FnExactSplitsText l0 w0
 refine (laws_FnExactSplitsText.calls k_ _ _ l0 true W hr0 hc0 hk_).mono fun e W' ⟨he, bel⟩ => ?_
 subst he
 exact ⟨_, rfl, _, _, _, [], _, [], hW', trodAll_mk1 (shut_bool Tryd.underlying4 _), (trodAll_cons_mk (Below.trod laidOut (by kernel_rfl) (of_decide_eq_true (by kernel_rfl)) k0 bel lt0) trodAll_mk0), rfl, bel.frame _, fun h => by cases h⟩
theorem over : Rows.fnExactSplitsTextRow.holds Tryd.pinned (OpenSpec.ofChange Rows.fnExactSplitsTextSpec) :=
 OpenClaim.holds_of_wide 3 Tryd.f3 rfl rfl rfl rfl rfl rfl rfl ⟨rfl, rfl, rfl, rfl, rfl⟩ rfl rfl rfl rfl rfl (by kernel_rfl) Tryd.func3 (by kernel_rfl)
  (of_decide_eq_true (by kernel_rfl)) (by unfold Func.isWrapper; first | (rw [if_pos (by decide +kernel)]; kernel_rfl) | (rw [if_neg (by decide +kernel)]; exact ⟨rfl, rfl⟩))
  (fun os started H enc _ => lifted os started H enc)
theorem proved : Rows.FnExactSplitsTextSaid := over
#print axioms proved
end Go.Proofs.YtnfofdocnnndnaaDoor.fnExactSplitsText
namespace Go.Proofs.YtnfofdocnnndnaaDoor
/-- The row, under a short name, for the claim. -/
theorem fnExactSplitsText_holds : Rows.FnExactSplitsTextSaid := fnExactSplitsText.proved
end Go.Proofs.YtnfofdocnnndnaaDoor
