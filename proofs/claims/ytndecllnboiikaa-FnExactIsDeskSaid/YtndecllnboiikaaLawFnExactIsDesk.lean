/-
  The program's IsDesk returns what the reference's returns, for all arguments: the statement of its row.
  Conditions: those of the row itself; none is added.
-/
import Derived.Test.YtndecllnboiikaaRows
import Derived.Test.YtndecllnboiikaaPAx5
import Derived.Test.YtndecllnboiikaaPureFnExactIsDesk
import Derived.Test.YtndecllnboiikaaOpen
import Derived.WalkKit
import Derived.ProofKit
import Derived.OpenShut
import Derived.ShutString
import Derived.ChangeOld
import Derived.Below
import Derived.SizedLaws
namespace Go.Proofs.Ytndecllnboiikaa.fnExactIsDesk
open Go.ChangeShapes Go.WideShapes Go.ChangeAt Go.RowKit Go.Proofs.YtndecllnboiikaaW.PrintWords Go.Proofs.Ytndecllnboiikaa.PA Go.Proofs.YtndecllnboiikaaB
open Go.ChangeMaps (open_string shut_string)
set_option linter.unusedVariables false
theorem own : ownKnob Try.prog.godebug = none := by kernel_rfl
theorem laidOut : laidOutB Try.prog = true := by kernel_rfl
theorem told_i64_3 {H : Type} (enc : TypeId × Value → H) (W : World) (base : Nat) (spare : Nat → Bool) (held : Bool) : ToldK enc Try.prog W base spare held (Kd.int .i64) (fun y => (Lit.int .i64 y).wf = true) 3 := told_int Try.underlying3
theorem told_L3_i64_22 {H : Type} (enc : TypeId × Value → H) (W : World) (base : Nat) (spare : Nat → Bool) (held : Bool) : ToldK enc Try.prog W base spare held (Kd.slice 3 (Kd.int .i64)) (fun y => (y.length ≤ maxLen ∧ ∀ z0 ∈ y, (Lit.int .i64 z0).wf = true)) 22 := told_slice Try.underlying22 (by kernel_rfl) (told_i64_3 enc W base spare held)
structure S29 where
 f0 : List (Int)
def k29 : Kd S29 := Kd.iso ((Kd.slice 3 (Kd.int .i64))) (fun x : S29 => (x.f0))
set_option maxRecDepth 100000 in
theorem told_T29_29 {H : Type} (enc : TypeId × Value → H) (W : World) (base : Nat) (spare : Nat → Bool) (held : Bool) : ToldK enc Try.prog W base spare held k29 (fun y => ((y.f0.length ≤ maxLen ∧ ∀ z0 ∈ y.f0, (Lit.int .i64 z0).wf = true))) 29 := by
 intro n cs x h
 obtain ⟨xs, n', _, _, hl, hlen, hg⟩ := DataW.trod_struct Try.underlying29 h
 have hl' : cs.length = 1 := hl
 match xs, hlen, cs, hl' with
 | [y0], _, [c0], _ =>
  obtain ⟨z0, K0, w0⟩ := told_L3_i64_22 enc W base spare held n' [c0] y0 (hg 0 _ rfl)
  exact ⟨⟨z0⟩, K0, w0⟩
set_option maxRecDepth 100000 in
theorem lifted (os : Os) (started : os.Started) (H : Type) (enc : TypeId × Value → H) :
  ReturnsInHanded {} Try.checked os 4 .any (Rows.fnExactIsDeskSpec.pre6 enc Try.prog Try.f4 Rows.fnExactIsDeskRow.domain false) (Rows.fnExactIsDeskSpec.post enc Try.prog Try.f4 false true false false) := by
 refine returnsInHanded_of_change_sized (C := Try.checked) own started (by kernel_rfl) Try.func4
  (ChangeSpec.witness6 (enc := enc) (C := Try.checked) false ⟨#[], #[.agg #[.slice none 0 0]], []⟩ 8 (by kernel_rfl) (by kernel_rfl) (by kernel_rfl) (by kernel_rfl)) ?_
 intro W base args ds gs before hval0 hW hcnd hsz0 _
 have hval : ∀ (j : Nat) t v, Try.f4.params[j]? = some t → args[j]? = some v → Value.okWide Try.prog W .any base t v := hval0
 have hW' := hW
 obtain ⟨p, q, hA0, hV, rfl, hfz, hnd⟩ := hW
 have hA : DataW.TrodAll enc Try.prog W 0 (fun _ => true) true Try.f4.params.toList args.toList ds p := hA0
 rw [Try.params4] at hA hval
 obtain ⟨v0, vs0, d0, ds0, p0, q0, hargs, rfl, rfl, h0, r0⟩ := trodAll_cons hA
 obtain ⟨rfl, rfl, rfl⟩ := trodAll_nil r0
 obtain rfl : args = #[v0] := by cases args; simp_all
 obtain ⟨rfl, rfl⟩ := trodVars_none hV
 have k0 := h0
 have lt0 : ∀ x ∈ p0, x.block < W.heap.size := by obtain ⟨m, hm⟩ := k0; exact DataW.trod_lt m _ _ _ hm
 obtain ⟨vs0, rfl, hs0⟩ := okWide_struct Try.underlying29 (hval 0 29 v0 rfl rfl)
 obtain ⟨m0, hm0⟩ := h0
 obtain ⟨y0, K0, w0⟩ := told_T29_29 enc W _ _ _ _ _ _ hm0
 have K0_0 := K0
 obtain ⟨A0_0, c0_0, E0_0, hc0_0, hr0_0⟩ := K0_0
 obtain rfl : vs0 = #[.slice A0_0 y0.f0.length c0_0] := by
  apply Array.ext'
  have e_ : (Value.agg vs0).cells.toList = _ := E0_0
  simpa only [Value.cells, E0_0, List.cons_append, List.nil_append] using e_
 clear hA0 hval0 hsz0
 obtain ⟨k_, hk_⟩ := Pure.FnExactIsDesk y0.f0 w0
 refine (laws_FnExactIsDesk.calls k_ _ _ y0.f0 true W hr0_0 hc0_0 hk_).mono fun e W' ⟨he, bel⟩ => ?_
 subst he
 exact ⟨_, rfl, _, _, _, [], _, [], hW', trodAll_mk1 (shut_bool Try.underlying4 _), (trodAll_cons_mk (Below.trod laidOut (by kernel_rfl) (of_decide_eq_true (by kernel_rfl)) k0 bel lt0) trodAll_mk0), rfl, bel.frame _, fun h => by cases h⟩
theorem over : Rows.fnExactIsDeskRow.holds Try.pinned (OpenSpec.ofChange Rows.fnExactIsDeskSpec) :=
 OpenClaim.holds_of_wide 4 Try.f4 rfl rfl rfl rfl rfl rfl rfl ⟨rfl, rfl, rfl, rfl, rfl⟩ rfl rfl rfl rfl rfl (by kernel_rfl) Try.func4 (by kernel_rfl)
  (of_decide_eq_true (by kernel_rfl)) (by unfold Func.isWrapper; first | (rw [if_pos (by decide +kernel)]; kernel_rfl) | (rw [if_neg (by decide +kernel)]; exact ⟨rfl, rfl⟩))
  (fun os started H enc _ => lifted os started H enc)
theorem proved : Rows.FnExactIsDeskSaid := over
#print axioms proved
end Go.Proofs.Ytndecllnboiikaa.fnExactIsDesk
namespace Go.Proofs.Ytndecllnboiikaa
/-- The row, under a short name, for the claim. -/
theorem fnExactIsDesk_holds : Rows.FnExactIsDeskSaid := fnExactIsDesk.proved
end Go.Proofs.Ytndecllnboiikaa
