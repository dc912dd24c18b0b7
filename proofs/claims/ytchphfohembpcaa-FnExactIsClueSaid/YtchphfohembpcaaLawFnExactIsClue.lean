/-
  The program's IsClue returns what the reference's returns, for all arguments: the statement of its row.
  Conditions: those of the row itself; none is added.
-/
import Derived.Test.YtchphfohembpcaaRows
import Derived.Test.YtchphfohembpcaaPAx5
import Derived.Test.YtchphfohembpcaaPureFnExactIsClue
import Derived.Test.YtchphfohembpcaaOpen
import Derived.WalkKit
import Derived.ProofKit
import Derived.OpenShut
import Derived.ShutString
import Derived.ChangeOld
import Derived.Below
import Derived.SizedLaws
namespace Go.Proofs.Ytchphfohembpcaa.fnExactIsClue
open Go.ChangeShapes Go.WideShapes Go.ChangeAt Go.RowKit Go.Proofs.YtchphfohembpcaaW.PrintWords Go.Proofs.Ytchphfohembpcaa.PA Go.Proofs.YtchphfohembpcaaB
open Go.ChangeMaps (open_string shut_string)
set_option linter.unusedVariables false
theorem own : ownKnob Try.prog.godebug = none := by kernel_rfl
theorem laidOut : laidOutB Try.prog = true := by kernel_rfl
theorem told_i64_3 {H : Type} (enc : TypeId × Value → H) (W : World) (base : Nat) (spare : Nat → Bool) (held : Bool) : ToldK enc Try.prog W base spare held (Kd.int .i64) (fun y => (Lit.int .i64 y).wf = true) 3 := told_int Try.underlying3
set_option maxRecDepth 100000 in
theorem told_T23_23 {H : Type} (enc : TypeId × Value → H) (W : World) (base : Nat) (spare : Nat → Bool) (held : Bool) : ToldK enc Try.prog W base spare held k23 (fun y => ((Lit.int .i64 y.f0).wf = true ∧ (Lit.int .i64 y.f1).wf = true ∧ (Lit.int .i64 y.f2).wf = true ∧ (Lit.int .i64 y.f3).wf = true)) 23 := by
  intro n cs x h
  obtain ⟨xs, n', _, _, hl, hlen, hg⟩ := DataW.trod_struct Try.underlying23 h
  have hl' : cs.length = 4 := hl
  match xs, hlen, cs, hl' with
  | [y0, y1, y2, y3], _, [c0, c1, c2, c3], _ =>
    obtain ⟨z0, K0, w0⟩ := told_i64_3 enc W base spare held n' [c0] y0 (hg 0 _ rfl)
    obtain ⟨z1, K1, w1⟩ := told_i64_3 enc W base spare held n' [c1] y1 (hg 1 _ rfl)
    obtain ⟨z2, K2, w2⟩ := told_i64_3 enc W base spare held n' [c2] y2 (hg 2 _ rfl)
    obtain ⟨z3, K3, w3⟩ := told_i64_3 enc W base spare held n' [c3] y3 (hg 3 _ rfl)
    exact ⟨⟨z0, z1, z2, z3⟩, ⟨[c0], [c1, c2, c3], rfl, K0, ⟨[c1], [c2, c3], rfl, K1, ⟨[c2], [c3], rfl, K2, K3⟩⟩⟩, ⟨w0, w1, w2, w3⟩⟩
set_option maxRecDepth 100000 in
theorem lifted (os : Os) (started : os.Started) (H : Type) (enc : TypeId × Value → H) :
    ReturnsInHanded {} Try.checked os 3 .any (Rows.fnExactIsClueSpec.pre6 enc Try.prog Try.f3 Rows.fnExactIsClueRow.domain false) (Rows.fnExactIsClueSpec.post enc Try.prog Try.f3 false true false false) := by
  refine returnsInHanded_of_change_sized (C := Try.checked) own started (by kernel_rfl) Try.func3
    (ChangeSpec.witness6 (enc := enc) (C := Try.checked) false ⟨#[], #[.int .i64 0, .agg #[.int .i64 0, .int .i64 0, .int .i64 0, .int .i64 0]], []⟩ 8 (by kernel_rfl) (by kernel_rfl) (by kernel_rfl) (by kernel_rfl)) ?_
  intro W base args ds gs before hval0 hW hcnd hsz0 _
  have hval : ∀ (j : Nat) t v, Try.f3.params[j]? = some t → args[j]? = some v → Value.okWide Try.prog W .any base t v := hval0
  have hW' := hW
  obtain ⟨p, q, hA0, hV, rfl, hfz, hnd⟩ := hW
  have hA : DataW.TrodAll enc Try.prog W 0 (fun _ => true) true Try.f3.params.toList args.toList ds p := hA0
  rw [Try.params3] at hA hval
  obtain ⟨v0, vs0, d0, ds0, p0, q0, hargs, rfl, rfl, h0, r0⟩ := trodAll_cons hA
  obtain ⟨v1, vs1, d1, ds1, p1, q1, rfl, rfl, rfl, h1, r1⟩ := trodAll_cons r0
  obtain ⟨rfl, rfl, rfl⟩ := trodAll_nil r1
  obtain rfl : args = #[v0, v1] := by cases args; simp_all
  obtain ⟨rfl, rfl⟩ := trodVars_none hV
  obtain ⟨a0, rfl, rfl, rfl, w0⟩ := open_int Try.underlying3 (hval 0 3 v0 rfl rfl) h0
  have k1 := h1
  have lt1 : ∀ x ∈ p1, x.block < W.heap.size := by obtain ⟨m, hm⟩ := k1; exact DataW.trod_lt m _ _ _ hm
  obtain ⟨vs1, rfl, hs1⟩ := okWide_struct Try.underlying23 (hval 1 23 v1 rfl rfl)
  obtain ⟨m1, hm1⟩ := h1
  obtain ⟨y1, K1, w1⟩ := told_T23_23 enc W _ _ _ _ _ _ hm1
  obtain ⟨c1_0, _, e1_0, K1_0, ⟨c1_1, _, e1_1, K1_1, ⟨c1_2, _, e1_2, K1_2, K1_3⟩⟩⟩ := K1
  have E1_0 : _ = ([.int .i64 y1.f0] : List Value) := K1_0
  have E1_1 : _ = ([.int .i64 y1.f1] : List Value) := K1_1
  have E1_2 : _ = ([.int .i64 y1.f2] : List Value) := K1_2
  have E1_3 : _ = ([.int .i64 y1.f3] : List Value) := K1_3
  obtain rfl : vs1 = #[.int .i64 y1.f0, .int .i64 y1.f1, .int .i64 y1.f2, .int .i64 y1.f3] := by
    apply Array.ext'
    have e_ : (Value.agg vs1).cells.toList = _ := e1_0
    simpa only [Value.cells, E1_0, E1_1, E1_2, E1_3, e1_1, e1_2, List.cons_append, List.nil_append] using e_
  clear hA0 hval0 hsz0
  obtain ⟨k_, hk_⟩ := Pure.FnExactIsClue a0 y1.f0 y1.f1 y1.f2 y1.f3 w0 w1
  refine (laws_FnExactIsClue.calls k_ a0 y1.f0 y1.f1 y1.f2 y1.f3 true W  hk_).mono fun e W' ⟨he, bel⟩ => ?_
  subst he
  exact ⟨_, rfl, _, _, _, [], _, [], hW', trodAll_mk1 (shut_bool Try.underlying4 _), (trodAll_cons_mk (shut_int Try.underlying3 w0) (trodAll_cons_mk (Below.trod laidOut (by kernel_rfl) (of_decide_eq_true (by kernel_rfl)) k1 bel lt1) trodAll_mk0)), rfl, bel.frame _, fun h => by cases h⟩
theorem over : Rows.fnExactIsClueRow.holds Try.pinned (OpenSpec.ofChange Rows.fnExactIsClueSpec) :=
  OpenClaim.holds_of_wide 3 Try.f3 rfl rfl rfl rfl rfl rfl rfl ⟨rfl, rfl, rfl, rfl, rfl⟩ rfl rfl rfl rfl rfl (by kernel_rfl) Try.func3 (by kernel_rfl)
    (of_decide_eq_true (by kernel_rfl)) (by unfold Func.isWrapper; first | (rw [if_pos (by decide +kernel)]; kernel_rfl) | (rw [if_neg (by decide +kernel)]; exact ⟨rfl, rfl⟩))
    (fun os started H enc _ => lifted os started H enc)
theorem proved : Rows.FnExactIsClueSaid := over
#print axioms proved
end Go.Proofs.Ytchphfohembpcaa.fnExactIsClue
namespace Go.Proofs.Ytchphfohembpcaa
/-- The row, under a short name, for the claim. -/
theorem fnExactIsClue_holds : Rows.FnExactIsClueSaid := fnExactIsClue.proved
end Go.Proofs.Ytchphfohembpcaa
