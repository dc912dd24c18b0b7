/-
  The program's PlaySplits returns what the reference's returns, for all arguments: the statement of its row.
  Conditions: those of the row itself; none is added.
-/
import Derived.Test.YtnfofdocnnndnaaRows
import Derived.Test.YtnfofdocnnndnaaPBx10
import Derived.Test.YtnfofdocnnndnaaPureFnExactPlaySplits
import Derived.Test.YtnfofdocnnndnaaOpen
import Derived.WalkKit
import Derived.ProofKit
import Derived.OpenShut
import Derived.ShutString
import Derived.ChangeOld
import Derived.Below
import Derived.SizedLaws
namespace Go.Proofs.Ytnfofdocnnndnaa.fnExactPlaySplits
open Go.ChangeShapes Go.WideShapes Go.ChangeAt Go.RowKit Go.Proofs.YtnfofdocnnndnaaW.PrintWords Go.Proofs.Ytnfofdocnnndnaa.PB Go.Proofs.YtnfofdocnnndnaaB
open Go.ChangeMaps (open_string shut_string)
set_option linter.unusedVariables false
theorem own : ownKnob Try.prog.godebug = none := by kernel_rfl
theorem laidOut : laidOutB Try.prog = true := by kernel_rfl
theorem told_i64_3 {H : Type} (enc : TypeId × Value → H) (W : World) (base : Nat) (spare : Nat → Bool) (held : Bool) : ToldK enc Try.prog W base spare held (Kd.int .i64) (fun y => (Lit.int .i64 y).wf = true) 3 := told_int Try.underlying3
theorem told_L3_i64_22 {H : Type} (enc : TypeId × Value → H) (W : World) (base : Nat) (spare : Nat → Bool) (held : Bool) : ToldK enc Try.prog W base spare held (Kd.slice 3 (Kd.int .i64)) (fun y => (y.length ≤ maxLen ∧ ∀ z0 ∈ y, (Lit.int .i64 z0).wf = true)) 22 := told_slice Try.underlying22 (by kernel_rfl) (told_i64_3 enc W base spare held)
set_option maxRecDepth 100000 in
theorem told_T65_65 {H : Type} (enc : TypeId × Value → H) (W : World) (base : Nat) (spare : Nat → Bool) (held : Bool) : ToldK enc Try.prog W base spare held k65 (fun y => ((Lit.int .i64 y.f0).wf = true ∧ (Lit.int .i64 y.f1).wf = true)) 65 := by
  intro n cs x h
  obtain ⟨xs, n', _, _, hl, hlen, hg⟩ := DataW.trod_struct Try.underlying65 h
  have hl' : cs.length = 2 := hl
  match xs, hlen, cs, hl' with
  | [y0, y1], _, [c0, c1], _ =>
    obtain ⟨z0, K0, w0⟩ := told_i64_3 enc W base spare held n' [c0] y0 (hg 0 _ rfl)
    obtain ⟨z1, K1, w1⟩ := told_i64_3 enc W base spare held n' [c1] y1 (hg 1 _ rfl)
    exact ⟨⟨z0, z1⟩, ⟨[c0], [c1], rfl, K0, K1⟩, ⟨w0, w1⟩⟩
theorem told_L65_T65_23 {H : Type} (enc : TypeId × Value → H) (W : World) (base : Nat) (spare : Nat → Bool) (held : Bool) : ToldK enc Try.prog W base spare held (Kd.slice 65 k65) (fun y => (y.length ≤ maxLen ∧ ∀ z0 ∈ y, ((Lit.int .i64 z0.f0).wf = true ∧ (Lit.int .i64 z0.f1).wf = true))) 23 := told_slice Try.underlying23 (by kernel_rfl) (told_T65_65 enc W base spare held)
set_option maxRecDepth 100000 in
theorem lifted (os : Os) (started : os.Started) (H : Type) (enc : TypeId × Value → H) :
    ReturnsInHanded {} Try.checked os 3 .any (Rows.fnExactPlaySplitsSpec.pre6 enc Try.prog Try.f3 Rows.fnExactPlaySplitsRow.domain false) (Rows.fnExactPlaySplitsSpec.post enc Try.prog Try.f3 false true false false) := by
  refine returnsInHanded_of_change_sized (C := Try.checked) own started (by kernel_rfl) Try.func3
    (ChangeSpec.witness6 (enc := enc) (C := Try.checked) false ⟨#[], #[.int .i64 0, .slice none 0 0, .slice none 0 0], []⟩ 8 (by kernel_rfl) (by kernel_rfl) (by kernel_rfl) (by kernel_rfl)) ?_
  intro W base args ds gs before hval0 hW hcnd hsz0 _
  have hval : ∀ (j : Nat) t v, Try.f3.params[j]? = some t → args[j]? = some v → Value.okWide Try.prog W .any base t v := hval0
  have hW' := hW
  obtain ⟨p, q, hA0, hV, rfl, hfz, hnd⟩ := hW
  have hA : DataW.TrodAll enc Try.prog W 0 (fun _ => true) true Try.f3.params.toList args.toList ds p := hA0
  rw [Try.params3] at hA hval
  obtain ⟨v0, vs0, d0, ds0, p0, q0, hargs, rfl, rfl, h0, r0⟩ := trodAll_cons hA
  obtain ⟨v1, vs1, d1, ds1, p1, q1, rfl, rfl, rfl, h1, r1⟩ := trodAll_cons r0
  obtain ⟨v2, vs2, d2, ds2, p2, q2, rfl, rfl, rfl, h2, r2⟩ := trodAll_cons r1
  obtain ⟨rfl, rfl, rfl⟩ := trodAll_nil r2
  obtain rfl : args = #[v0, v1, v2] := by cases args; simp_all
  obtain ⟨rfl, rfl⟩ := trodVars_none hV
  obtain ⟨a0, rfl, rfl, rfl, w0⟩ := open_int Try.underlying3 (hval 0 3 v0 rfl rfl) h0
  have k1 := h1
  have lt1 : ∀ x ∈ p1, x.block < W.heap.size := by obtain ⟨m, hm⟩ := k1; exact DataW.trod_lt m _ _ _ hm
  obtain ⟨a1, len1, cap1, rfl⟩ := okWide_slice Try.underlying22 (hval 1 22 v1 rfl rfl)
  obtain ⟨m1, hm1⟩ := h1
  obtain ⟨l1, K1, w1⟩ := told_L3_i64_22 enc W _ _ _ _ _ _ hm1
  obtain ⟨A1, c1, e1, hc1, hr1⟩ := K1
  simp only [Value.cells, List.cons.injEq, Value.slice.injEq, and_true] at e1
  obtain ⟨rfl, rfl, rfl⟩ := e1
  have k2 := h2
  have lt2 : ∀ x ∈ p2, x.block < W.heap.size := by obtain ⟨m, hm⟩ := k2; exact DataW.trod_lt m _ _ _ hm
  obtain ⟨a2, len2, cap2, rfl⟩ := okWide_slice Try.underlying23 (hval 2 23 v2 rfl rfl)
  obtain ⟨m2, hm2⟩ := h2
  obtain ⟨l2, K2, w2⟩ := told_L65_T65_23 enc W _ _ _ _ _ _ hm2
  obtain ⟨A2, c2, e2, hc2, hr2⟩ := K2
  simp only [Value.cells, List.cons.injEq, Value.slice.injEq, and_true] at e2
  obtain ⟨rfl, rfl, rfl⟩ := e2
  clear hA0 hval0 hsz0
  obtain ⟨k_, hk_⟩ := Pure.FnExactPlaySplits a0 l1 l2 w0 w1 w2
  refine (laws_FnExactPlaySplits.calls k_ a0 _ _ l1 _ _ l2 true W hr1 hc1 hr2 hc2 hk_).mono fun e W' ⟨he, bel⟩ => ?_
  subst he
  exact ⟨_, rfl, _, _, _, [], _, [], hW', trodAll_mk1 (shut_bool Try.underlying4 _), (trodAll_cons_mk (shut_int Try.underlying3 w0) (trodAll_cons_mk (Below.trod laidOut (by kernel_rfl) (of_decide_eq_true (by kernel_rfl)) k1 bel lt1) (trodAll_cons_mk (Below.trod laidOut (by kernel_rfl) (of_decide_eq_true (by kernel_rfl)) k2 bel lt2) trodAll_mk0))), rfl, bel.frame _, fun h => by cases h⟩
theorem over : Rows.fnExactPlaySplitsRow.holds Try.pinned (OpenSpec.ofChange Rows.fnExactPlaySplitsSpec) :=
  OpenClaim.holds_of_wide 3 Try.f3 rfl rfl rfl rfl rfl rfl rfl ⟨rfl, rfl, rfl, rfl, rfl⟩ rfl rfl rfl rfl rfl (by kernel_rfl) Try.func3 (by kernel_rfl)
    (of_decide_eq_true (by kernel_rfl)) (by unfold Func.isWrapper; first | (rw [if_pos (by decide +kernel)]; kernel_rfl) | (rw [if_neg (by decide +kernel)]; exact ⟨rfl, rfl⟩))
    (fun os started H enc _ => lifted os started H enc)
theorem proved : Rows.FnExactPlaySplitsSaid := over
#print axioms proved
end Go.Proofs.Ytnfofdocnnndnaa.fnExactPlaySplits
namespace Go.Proofs.Ytnfofdocnnndnaa
/-- The row, under a short name, for the claim. -/
theorem fnExactPlaySplits_holds : Rows.FnExactPlaySplitsSaid := fnExactPlaySplits.proved
end Go.Proofs.Ytnfofdocnnndnaa
