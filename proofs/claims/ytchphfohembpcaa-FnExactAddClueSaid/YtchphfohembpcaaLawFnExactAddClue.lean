/-
  The program's AddClue returns what the reference's returns, for all arguments: the statement of its row.
  Conditions: those of the row itself; none is added.
-/
import Derived.Test.YtchphfohembpcaaRows
import Derived.Test.YtchphfohembpcaaPXx7
import Derived.Test.YtchphfohembpcaaPureFnExactAddClue
import Derived.Test.YtchphfohembpcaaOpen
import Derived.WalkKit
import Derived.ProofKit
import Derived.OpenShut
import Derived.ShutString
import Derived.ChangeOld
import Derived.Below
import Derived.SizedLaws
namespace Go.Proofs.Ytchphfohembpcaa.fnExactAddClue
open Go.ChangeShapes Go.WideShapes Go.ChangeAt Go.RowKit Go.Proofs.YtchphfohembpcaaW.PrintWords Go.Proofs.Ytchphfohembpcaa.PX Go.Proofs.YtchphfohembpcaaB
open Go.ChangeMaps (open_string shut_string)
set_option linter.unusedVariables false
theorem own : ownKnob Try.prog.godebug = none := by kernel_rfl
theorem laidOut : laidOutB Try.prog = true := by kernel_rfl
theorem told_i64_3 {H : Type} (enc : TypeId × Value → H) (W : World) (base : Nat) (spare : Nat → Bool) (held : Bool) : ToldK enc Try.prog W base spare held (Kd.int .i64) (fun y => (Lit.int .i64 y).wf = true) 3 := told_int Try.underlying3
set_option maxRecDepth 100000 in
theorem told_T23_23 {H : Type} (enc : TypeId × Value → H) (W : World) (base : Nat) (spare : Nat → Bool) (held : Bool) : ToldK enc Try.prog W base spare held k23 (fun y => ((Lit.int .i64 y.f0).wf = true ∧ (Lit.int .i64 y.f1).wf = true ∧ (Lit.int .i64 y.f2).wf = true ∧ (Lit.int .i64 y.f3).wf = true)) 23 := by
 intro n cs x h
 obtain ⟨xs, n', _, _, hl, hlen, hg⟩ := DataW.trod_struct Try.underlying23 h
 have hl' : cs.length = 4 := hl
 match xs, hlen, cs, hl' with
 | [y0, y1, y2, y3], _, [c0, c1, c2, c3], _ =>
  obtain ⟨z0, K0, w0⟩ := told_i64_3 enc W base spare held n' [c0] y0 (hg 0 _ rfl)
  obtain ⟨z1, K1, w1⟩ := told_i64_3 enc W base spare held n' [c1] y1 (hg 1 _ rfl)
  obtain ⟨z2, K2, w2⟩ := told_i64_3 enc W base spare held n' [c2] y2 (hg 2 _ rfl)
  obtain ⟨z3, K3, w3⟩ := told_i64_3 enc W base spare held n' [c3] y3 (hg 3 _ rfl)
  exact ⟨⟨z0, z1, z2, z3⟩, ⟨[c0], [c1, c2, c3], rfl, K0, ⟨[c1], [c2, c3], rfl, K1, ⟨[c2], [c3], rfl, K2, K3⟩⟩⟩, ⟨w0, w1, w2, w3⟩⟩
theorem told_L23_T23_28 {H : Type} (enc : TypeId × Value → H) (W : World) (base : Nat) (spare : Nat → Bool) (held : Bool) : ToldK enc Try.prog W base spare held (Kd.slice 23 k23) (fun y => (y.length ≤ maxLen ∧ ∀ z0 ∈ y, ((Lit.int .i64 z0.f0).wf = true ∧ (Lit.int .i64 z0.f1).wf = true ∧ (Lit.int .i64 z0.f2).wf = true ∧ (Lit.int .i64 z0.f3).wf = true))) 28 := told_slice Try.underlying28 (by kernel_rfl) (told_T23_23 enc W base spare held)
structure S30 where
 f0 : Int
 f1 : List (S23)
def k30 : Kd S30 := Kd.iso (Kd.pair ((Kd.int .i64)) ((Kd.slice 23 k23))) (fun x : S30 => (x.f0, x.f1))
set_option maxRecDepth 100000 in
theorem told_T30_30 {H : Type} (enc : TypeId × Value → H) (W : World) (base : Nat) (spare : Nat → Bool) (held : Bool) : ToldK enc Try.prog W base spare held k30 (fun y => ((Lit.int .i64 y.f0).wf = true ∧ (y.f1.length ≤ maxLen ∧ ∀ z0 ∈ y.f1, ((Lit.int .i64 z0.f0).wf = true ∧ (Lit.int .i64 z0.f1).wf = true ∧ (Lit.int .i64 z0.f2).wf = true ∧ (Lit.int .i64 z0.f3).wf = true)))) 30 := by
 intro n cs x h
 obtain ⟨xs, n', _, _, hl, hlen, hg⟩ := DataW.trod_struct Try.underlying30 h
 have hl' : cs.length = 2 := hl
 match xs, hlen, cs, hl' with
 | [y0, y1], _, [c0, c1], _ =>
  obtain ⟨z0, K0, w0⟩ := told_i64_3 enc W base spare held n' [c0] y0 (hg 0 _ rfl)
  obtain ⟨z1, K1, w1⟩ := told_L23_T23_28 enc W base spare held n' [c1] y1 (hg 1 _ rfl)
  exact ⟨⟨z0, z1⟩, ⟨[c0], [c1], rfl, K0, K1⟩, ⟨w0, w1⟩⟩
set_option maxRecDepth 100000 in
theorem lifted (os : Os) (started : os.Started) (H : Type) (enc : TypeId × Value → H) :
  ReturnsInHanded {} Try.checked os 5 .any (Rows.fnExactAddClueSpec.pre6 enc Try.prog Try.f5 Rows.fnExactAddClueRow.domain false) (Rows.fnExactAddClueSpec.post enc Try.prog Try.f5 false true false false) := by
 refine returnsInHanded_of_change_sized (C := Try.checked) own started (by kernel_rfl) Try.func5
  (ChangeSpec.witness6 (enc := enc) (C := Try.checked) false ⟨#[], #[.agg #[.int .i64 0, .slice none 0 0], .agg #[.int .i64 0, .int .i64 0, .int .i64 0, .int .i64 0]], []⟩ 8 (by kernel_rfl) (by kernel_rfl) (by kernel_rfl) (by kernel_rfl)) ?_
 intro W base args ds gs before hval0 hW hcnd hsz0 _
 have hval : ∀ (j : Nat) t v, Try.f5.params[j]? = some t → args[j]? = some v → Value.okWide Try.prog W .any base t v := hval0
 have hW' := hW
 obtain ⟨p, q, hA0, hV, rfl, hfz, hnd⟩ := hW
 have hA : DataW.TrodAll enc Try.prog W 0 (fun _ => true) true Try.f5.params.toList args.toList ds p := hA0
 rw [Try.params5] at hA hval
 obtain ⟨v0, vs0, d0, ds0, p0, q0, hargs, rfl, rfl, h0, r0⟩ := trodAll_cons hA
 obtain ⟨v1, vs1, d1, ds1, p1, q1, rfl, rfl, rfl, h1, r1⟩ := trodAll_cons r0
 obtain ⟨rfl, rfl, rfl⟩ := trodAll_nil r1
 obtain rfl : args = #[v0, v1] := by cases args; simp_all
 obtain ⟨rfl, rfl⟩ := trodVars_none hV
 have k0 := h0
 have lt0 : ∀ x ∈ p0, x.block < W.heap.size := by obtain ⟨m, hm⟩ := k0; exact DataW.trod_lt m _ _ _ hm
 obtain ⟨vs0, rfl, hs0⟩ := okWide_struct Try.underlying30 (hval 0 30 v0 rfl rfl)
 obtain ⟨m0, hm0⟩ := h0
 obtain ⟨y0, K0, w0⟩ := told_T30_30 enc W _ _ _ _ _ _ hm0
 obtain ⟨c0_0, _, e0_0, K0_0, K0_1⟩ := K0
 have E0_0 : _ = ([.int .i64 y0.f0] : List Value) := K0_0
 obtain ⟨A0_1, c0_1, E0_1, hc0_1, hr0_1⟩ := K0_1
 obtain rfl : vs0 = #[.int .i64 y0.f0, .slice A0_1 y0.f1.length c0_1] := by
  apply Array.ext'
  have e_ : (Value.agg vs0).cells.toList = _ := e0_0
  simpa only [Value.cells, E0_0, E0_1, List.cons_append, List.nil_append] using e_
 have k1 := h1
 have lt1 : ∀ x ∈ p1, x.block < W.heap.size := by obtain ⟨m, hm⟩ := k1; exact DataW.trod_lt m _ _ _ hm
 obtain ⟨vs1, rfl, hs1⟩ := okWide_struct Try.underlying23 (hval 1 23 v1 rfl rfl)
 obtain ⟨m1, hm1⟩ := h1
 obtain ⟨y1, K1, w1⟩ := told_T23_23 enc W _ _ _ _ _ _ hm1
 obtain ⟨c1_0, _, e1_0, K1_0, ⟨c1_1, _, e1_1, K1_1, ⟨c1_2, _, e1_2, K1_2, K1_3⟩⟩⟩ := K1
 have E1_0 : _ = ([.int .i64 y1.f0] : List Value) := K1_0
 have E1_1 : _ = ([.int .i64 y1.f1] : List Value) := K1_1
 have E1_2 : _ = ([.int .i64 y1.f2] : List Value) := K1_2
 have E1_3 : _ = ([.int .i64 y1.f3] : List Value) := K1_3
 obtain rfl : vs1 = #[.int .i64 y1.f0, .int .i64 y1.f1, .int .i64 y1.f2, .int .i64 y1.f3] := by
  apply Array.ext'
  have e_ : (Value.agg vs1).cells.toList = _ := e1_0
  simpa only [Value.cells, E1_0, E1_1, E1_2, E1_3, e1_1, e1_2, List.cons_append, List.nil_append] using e_
 clear hA0 hval0 hsz0
 obtain ⟨k_, hk_⟩ := Pure.FnExactAddClue y0.f0 y0.f1 y1.f0 y1.f1 y1.f2 y1.f3 w0 w1
 refine (laws_FnExactAddClue.calls k_ y0.f0 _ _ y0.f1 y1.f0 y1.f1 y1.f2 y1.f3 true W hr0_1 hc0_1 hk_).mono fun e W' ⟨he, bel⟩ => ?_
 subst he
 exact ⟨_, rfl, _, _, _, [], _, [], hW', trodAll_mk1 (shut_bool Try.underlying4 _), (trodAll_cons_mk (Below.trod laidOut (by kernel_rfl) (of_decide_eq_true (by kernel_rfl)) k0 bel lt0) (trodAll_cons_mk (Below.trod laidOut (by kernel_rfl) (of_decide_eq_true (by kernel_rfl)) k1 bel lt1) trodAll_mk0)), rfl, bel.frame _, fun h => by cases h⟩
theorem over : Rows.fnExactAddClueRow.holds Try.pinned (OpenSpec.ofChange Rows.fnExactAddClueSpec) :=
 OpenClaim.holds_of_wide 5 Try.f5 rfl rfl rfl rfl rfl rfl rfl ⟨rfl, rfl, rfl, rfl, rfl⟩ rfl rfl rfl rfl rfl (by kernel_rfl) Try.func5 (by kernel_rfl)
  (of_decide_eq_true (by kernel_rfl)) (by unfold Func.isWrapper; first | (rw [if_pos (by decide +kernel)]; kernel_rfl) | (rw [if_neg (by decide +kernel)]; exact ⟨rfl, rfl⟩))
  (fun os started H enc _ => lifted os started H enc)
theorem proved : Rows.FnExactAddClueSaid := over
#print axioms proved
end Go.Proofs.Ytchphfohembpcaa.fnExactAddClue
namespace Go.Proofs.Ytchphfohembpcaa
/-- The row, under a short name, for the claim. -/
theorem fnExactAddClue_holds : Rows.FnExactAddClueSaid := fnExactAddClue.proved
end Go.Proofs.Ytchphfohembpcaa
