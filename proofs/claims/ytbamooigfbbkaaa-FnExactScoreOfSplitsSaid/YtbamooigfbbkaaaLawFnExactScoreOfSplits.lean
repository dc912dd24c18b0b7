/-
  The program's ScoreOfSplits returns what the reference's returns, for all arguments: the statement of its row.
  Conditions: those of the row itself; none is added.
-/
import Derived.Test.YtbamooigfbbkaaaRows
import Derived.Test.YtbamooigfbbkaaaPAx25
import Derived.Test.YtbamooigfbbkaaaPureFnExactScoreOfSplits
import Derived.Test.YtbamooigfbbkaaaOpen
import Derived.WalkKit
import Derived.ProofKit
import Derived.OpenShut
import Derived.ShutString
import Derived.ChangeOld
import Derived.Below
import Derived.SizedLaws
namespace Go.Proofs.Ytbamooigfbbkaaa.fnExactScoreOfSplits
open Go.ChangeShapes Go.WideShapes Go.ChangeAt Go.RowKit Go.Proofs.YtbamooigfbbkaaaW.PrintWords Go.Proofs.Ytbamooigfbbkaaa.PA Go.Proofs.YtbamooigfbbkaaaB
open Go.ChangeMaps (open_string shut_string)
set_option linter.unusedVariables false
theorem own : ownKnob Try.prog.godebug = none := by kernel_rfl
theorem laidOut : laidOutB Try.prog = true := by kernel_rfl
theorem told_i64_3 {H : Type} (enc : TypeId × Value → H) (W : World) (base : Nat) (spare : Nat → Bool) (held : Bool) : ToldK enc Try.prog W base spare held (Kd.int .i64) (fun y => (Lit.int .i64 y).wf = true) 3 := told_int Try.underlying3
theorem told_T46_46 {H : Type} (enc : TypeId × Value → H) (W : World) (base : Nat) (spare : Nat → Bool) (held : Bool) : ToldK enc Try.prog W base spare held k46 (fun y => ((Lit.int .i64 y.f0).wf = true ∧ (Lit.int .i64 y.f1).wf = true)) 46 := by
  intro n cs x h
  obtain ⟨xs, n', _, _, hl, hlen, hg⟩ := DataW.trod_struct Try.underlying46 h
  have hl' : cs.length = 2 := hl
  match xs, hlen, cs, hl' with
  | [y0, y1], _, [c0, c1], _ =>
    obtain ⟨z0, K0, w0⟩ := told_i64_3 enc W base spare held n' [c0] y0 (hg 0 _ rfl)
    obtain ⟨z1, K1, w1⟩ := told_i64_3 enc W base spare held n' [c1] y1 (hg 1 _ rfl)
    exact ⟨⟨z0, z1⟩, ⟨[c0], [c1], rfl, K0, K1⟩, ⟨w0, w1⟩⟩
theorem told_L46_T46_37 {H : Type} (enc : TypeId × Value → H) (W : World) (base : Nat) (spare : Nat → Bool) (held : Bool) : ToldK enc Try.prog W base spare held (Kd.slice 46 k46) (fun y => (y.length ≤ maxLen ∧ ∀ z0 ∈ y, ((Lit.int .i64 z0.f0).wf = true ∧ (Lit.int .i64 z0.f1).wf = true))) 37 := told_slice Try.underlying37 (by kernel_rfl) (told_T46_46 enc W base spare held)
set_option maxRecDepth 100000 in
theorem lifted (os : Os) (started : os.Started) (H : Type) (enc : TypeId × Value → H) :
    ReturnsInHanded {} Try.checked os 10 .any (Rows.fnExactScoreOfSplitsSpec.pre6 enc Try.prog Try.f10 Rows.fnExactScoreOfSplitsRow.domain false) (Rows.fnExactScoreOfSplitsSpec.post enc Try.prog Try.f10 false true false false) := by
  refine returnsInHanded_of_change_sized (C := Try.checked) own started (by kernel_rfl) Try.func10
    (ChangeSpec.witness6 (enc := enc) (C := Try.checked) false ⟨#[], #[.int .i64 0, .slice none 0 0], []⟩ 8 (by kernel_rfl) (by kernel_rfl) (by kernel_rfl) (by kernel_rfl)) ?_
  intro W base args ds gs before hval0 hW hcnd hsz0 _
  have hval : ∀ (j : Nat) t v, Try.f10.params[j]? = some t → args[j]? = some v → Value.okWide Try.prog W .any base t v := hval0
  have hW' := hW
  obtain ⟨p, q, hA0, hV, rfl, hfz, hnd⟩ := hW
  have hA : DataW.TrodAll enc Try.prog W 0 (fun _ => true) true Try.f10.params.toList args.toList ds p := hA0
  rw [Try.params10] at hA hval
  obtain ⟨v0, vs0, d0, ds0, p0, q0, hargs, rfl, rfl, h0, r0⟩ := trodAll_cons hA
  obtain ⟨v1, vs1, d1, ds1, p1, q1, rfl, rfl, rfl, h1, r1⟩ := trodAll_cons r0
  obtain ⟨rfl, rfl, rfl⟩ := trodAll_nil r1
  obtain rfl : args = #[v0, v1] := by cases args; simp_all
  obtain ⟨rfl, rfl⟩ := trodVars_none hV
  obtain ⟨a0, rfl, rfl, rfl, w0⟩ := open_int Try.underlying3 (hval 0 3 v0 rfl rfl) h0
  have k1 := h1
  have lt1 : ∀ x ∈ p1, x.block < W.heap.size := by obtain ⟨m, hm⟩ := k1; exact DataW.trod_lt m _ _ _ hm
  obtain ⟨a1, len1, cap1, rfl⟩ := okWide_slice Try.underlying37 (hval 1 37 v1 rfl rfl)
  obtain ⟨m1, hm1⟩ := h1
  obtain ⟨l1, K1, w1⟩ := told_L46_T46_37 enc W _ _ _ _ _ _ hm1
  obtain ⟨A1, c1, e1, hc1, hr1⟩ := K1
  simp only [Value.cells, List.cons.injEq, Value.slice.injEq, and_true] at e1
  obtain ⟨rfl, rfl, rfl⟩ := e1
  clear hA0 hval0 hsz0
  obtain ⟨k_, hk_⟩ := Pure.FnExactScoreOfSplits a0 l1 w0 w1
  refine (laws_FnExactScoreOfSplits.calls k_ a0 _ _ l1 true W hr1 hc1 hk_).mono fun e W' ⟨he, bel⟩ => ?_
  subst he
  exact ⟨_, rfl, _, _, _, [], _, [], hW', trodAll_mk1 (shut_bool Try.underlying4 _), (trodAll_cons_mk (shut_int Try.underlying3 w0) (trodAll_cons_mk (Below.trod laidOut (by kernel_rfl) (of_decide_eq_true (by kernel_rfl)) k1 bel lt1) trodAll_mk0)), rfl, bel.frame _, fun h => by cases h⟩
theorem over : Rows.fnExactScoreOfSplitsRow.holds Try.pinned (OpenSpec.ofChange Rows.fnExactScoreOfSplitsSpec) :=
  OpenClaim.holds_of_wide 10 Try.f10 rfl rfl rfl rfl rfl rfl rfl ⟨rfl, rfl, rfl, rfl, rfl⟩ rfl rfl rfl rfl rfl (by kernel_rfl) Try.func10 (by kernel_rfl)
    (of_decide_eq_true (by kernel_rfl)) (by unfold Func.isWrapper; first | (rw [if_pos (by decide +kernel)]; kernel_rfl) | (rw [if_neg (by decide +kernel)]; exact ⟨rfl, rfl⟩))
    (fun os started H enc _ => lifted os started H enc)
theorem proved : Rows.FnExactScoreOfSplitsSaid := over
#print axioms proved
end Go.Proofs.Ytbamooigfbbkaaa.fnExactScoreOfSplits
namespace Go.Proofs.Ytbamooigfbbkaaa
/-- The row, under a short name, for the claim. -/
theorem fnExactScoreOfSplits_holds : Rows.FnExactScoreOfSplitsSaid := fnExactScoreOfSplits.proved
end Go.Proofs.Ytbamooigfbbkaaa
