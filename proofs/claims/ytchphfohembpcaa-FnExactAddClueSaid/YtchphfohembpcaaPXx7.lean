/- Functions of the program and of the reference as Lean functions, each with a contract over the translated program. Conditions: the hypotheses of each theorem. Written by a program of this session, which drives the print of the kit and adds texts of its own. -/
import Derived.Test.YtchphfohembpcaaPXx0
import Derived.Test.YtchphfohembpcaaPXx1
import Derived.Test.YtchphfohembpcaaPXx3
import Derived.Test.YtchphfohembpcaaPXx5
import Derived.Test.YtchphfohembpcaaPXx6
import Derived.Test.YtchphfohembpcaaShort
namespace Go.Proofs.Ytchphfohembpcaa.PX
open Go.RowKit Go.Proofs.YtchphfohembpcaaW.PrintWords Go.Proofs.YtchphfohembpcaaW.PrintLast Go.Proofs.YtchphfohembpcaaW.PrintMore Go.Proofs.YtchphfohembpcaaB
attribute [local go_sem] max2_int min2_int max_two min_two max_three min_three max_four min_four   -- for this text's walks alone
set_option linter.unusedVariables false
set_option linter.unusedSimpArgs false

/-! ### laws_FnExactAddClue: function 5 -/
mutual
def laws_FnExactAddClue.j0 : Nat → Bool → Bool → Bool → Int → List (S23) → Int → Int → Int → Int → Int → List (S25) → Int → List (S25) → Int → List (S25) → Option (Bool)
 | 0, _, _, _, _, _, _, _, _, _, _, _, _, _, _, _ => none
 | k + 1, x7, x10, x46, x198000, x198001, x199000, x199001, x199002, x199003, x214000, x214001, x219000, x219001, x229000, x229001 => if x46 = true then (none) else ((laws_toPuzzle.f k x198000 x198001).bind fun bt230 => ((laws_eqPuzzle.f k x219000 x219001 bt230.1 bt230.2).bind fun t234 => (if t234 = true then ((laws_markPuzzle.f k x219000 x219001 1).bind fun bt235 => (if bt235.1 < 0 then (laws_FnExactAddClue.j1 k x7 true x198000 x198001 x199000 x199001 x199002 x199003 x214000 x214001 x229000 x229001) else ((laws_eqPuzzle.f k x229000 x229001 x214000 x214001).bind fun t237 => (if t237 = true then (laws_FnExactAddClue.j1 k x7 (x10 != x7) x198000 x198001 x199000 x199001 x199002 x199003 x214000 x214001 x229000 x229001) else (laws_FnExactAddClue.j1 k x7 true x198000 x198001 x199000 x199001 x199002 x199003 x214000 x214001 x229000 x229001))))) else (none))))
def laws_FnExactAddClue.j1 : Nat → Bool → Bool → Int → List (S23) → Int → Int → Int → Int → Int → List (S25) → Int → List (S25) → Option (Bool)
 | 0, _, _, _, _, _, _, _, _, _, _, _, _ => none
 | k + 1, x7, x67, x198000, x198001, x199000, x199001, x199002, x199003, x214000, x214001, x229000, x229001 => if x67 = true then (none) else ((laws_markPuzzle.f k x229000 x229001 1).bind fun bt238 => ((laws_heldPuzzle.f k x229000 bt238.2 1).bind fun t240 => (if t240 < 0 then (none) else (if t240 = bt238.1 then ((laws_toPuzzle.f k x198000 x198001).bind fun bt241 => ((laws_toClue.f x199000 x199001 x199002 x199003).bind fun bt245 => ((impl_AddClue.f k bt241.1 bt241.2 bt245.1 bt245.2.1 bt245.2.2.1 bt245.2.2.2).bind fun bt249 => ((laws_eqPuzzle.f k bt249.1 bt249.2.1 x214000 x214001).bind fun t255 => (if t255 = true then (laws_FnExactAddClue.j2 k bt238.1 (bt249.2.2 != x7) x229000 bt238.2) else (laws_FnExactAddClue.j2 k bt238.1 true x229000 bt238.2)))))) else (none)))))
def laws_FnExactAddClue.j2 : Nat → Int → Bool → Int → List (S25) → Option (Bool)
 | 0, _, _, _, _ => none
 | k + 1, x12, x95, x229000, x229001 => if x95 = true then (none) else ((laws_heldPuzzle.f k x229000 x229001 1).bind fun t256 => (if t256 < 0 then (none) else (if t256 = x12 then (some true) else (none))))
end
def laws_FnExactAddClue.f (k : Nat) (a0_0 : Int) (l0_1 : List (S23)) (a1_0 : Int) (a1_1 : Int) (a1_2 : Int) (a1_3 : Int) : Option (Bool) := (laws_szPuzzle.f a0_0 l0_1 1048576).bind fun t199 => (if t199 < 0 then (some true) else ((laws_toPuzzle.f k a0_0 l0_1).bind fun bt200 => ((laws_toClue.f a1_0 a1_1 a1_2 a1_3).bind fun bt204 => ((spec_AddClue.f k bt200.1 bt200.2 bt204.1 bt204.2.1 bt204.2.2.1 bt204.2.2.2).bind fun bt208 => ((laws_toPuzzle.f k a0_0 l0_1).bind fun bt214 => ((laws_toClue.f a1_0 a1_1 a1_2 a1_3).bind fun bt219 => ((impl_AddClue.f k bt214.1 bt214.2 bt219.1 bt219.2.1 bt219.2.2.1 bt219.2.2.2).bind fun bt223 => ((laws_eqPuzzle.f k bt223.1 bt223.2.1 bt208.1 bt208.2.1).bind fun t229 => (if t229 = true then (laws_FnExactAddClue.j0 k bt208.2.2 bt223.2.2 (bt223.2.2 != bt208.2.2) a0_0 l0_1 a1_0 a1_1 a1_2 a1_3 bt208.1 bt208.2.1 bt214.1 bt214.2 bt223.1 bt223.2.1) else (laws_FnExactAddClue.j0 k bt208.2.2 bt223.2.2 true a0_0 l0_1 a1_0 a1_1 a1_2 a1_3 bt208.1 bt208.2.1 bt214.1 bt214.2 bt223.1 bt223.2.1))))))))))
theorem laws_FnExactAddClue.mono_l : ∀ k, (∀ y0 y1 y2 y3 y4 y5 y6 y7 y8 y9 y10 y11 y12 y13 y14, LeO (laws_FnExactAddClue.j0 k y0 y1 y2 y3 y4 y5 y6 y7 y8 y9 y10 y11 y12 y13 y14) (laws_FnExactAddClue.j0 (k + 1) y0 y1 y2 y3 y4 y5 y6 y7 y8 y9 y10 y11 y12 y13 y14)) ∧ (∀ y0 y1 y2 y3 y4 y5 y6 y7 y8 y9 y10 y11, LeO (laws_FnExactAddClue.j1 k y0 y1 y2 y3 y4 y5 y6 y7 y8 y9 y10 y11) (laws_FnExactAddClue.j1 (k + 1) y0 y1 y2 y3 y4 y5 y6 y7 y8 y9 y10 y11)) ∧ (∀ y0 y1 y2 y3, LeO (laws_FnExactAddClue.j2 k y0 y1 y2 y3) (laws_FnExactAddClue.j2 (k + 1) y0 y1 y2 y3))
 | 0 => ⟨fun _ _ _ _ _ _ _ _ _ _ _ _ _ _ _ r h => by simp [laws_FnExactAddClue.j0] at h, fun _ _ _ _ _ _ _ _ _ _ _ _ r h => by simp [laws_FnExactAddClue.j1] at h, fun _ _ _ _ r h => by simp [laws_FnExactAddClue.j2] at h⟩
 | k + 1 => by
  obtain ⟨ih0, ih1, ih2⟩ := laws_FnExactAddClue.mono_l k
  refine ⟨?_, ?_, ?_⟩
  ·intro y0 y1 y2 y3 y4 y5 y6 y7 y8 y9 y10 y11 y12 y13 y14
   unfold laws_FnExactAddClue.j0
   repeat' first
   | (with_reducible exact ih0 _ _ _ _ _ _ _ _ _ _ _ _ _ _ _)
   | (with_reducible exact ih1 _ _ _ _ _ _ _ _ _ _ _ _)
   | (with_reducible exact ih2 _ _ _ _)
   | (with_reducible exact impl_AddClue.mono _ _ _ _ _ _ _)
   | (with_reducible exact laws_eqPuzzle.mono _ _ _ _ _)
   | (with_reducible exact laws_heldPuzzle.mono _ _ _ _)
   | (with_reducible exact laws_markPuzzle.mono _ _ _ _)
   | (with_reducible exact laws_toPuzzle.mono _ _ _)
   | (with_reducible exact spec_AddClue.mono _ _ _ _ _ _ _)
   | (with_reducible exact LeO.refl _)
   | (with_reducible exact LeO.none _)
   | (with_reducible refine LeO.ite ?_ ?_)
   | (with_reducible refine LeO.bind ?_ (fun _ => ?_))
   | exact ih0 _ _ _ _ _ _ _ _ _ _ _ _ _ _ _
   | exact ih1 _ _ _ _ _ _ _ _ _ _ _ _
   | exact ih2 _ _ _ _
   | exact impl_AddClue.mono _ _ _ _ _ _ _
   | exact laws_eqPuzzle.mono _ _ _ _ _
   | exact laws_heldPuzzle.mono _ _ _ _
   | exact laws_markPuzzle.mono _ _ _ _
   | exact laws_toPuzzle.mono _ _ _
   | exact spec_AddClue.mono _ _ _ _ _ _ _
   | exact LeO.none _
   | refine LeO.ite ?_ ?_
   | refine LeO.bind ?_ (fun _ => ?_)
  ·intro y0 y1 y2 y3 y4 y5 y6 y7 y8 y9 y10 y11
   unfold laws_FnExactAddClue.j1
   repeat' first
   | (with_reducible exact ih0 _ _ _ _ _ _ _ _ _ _ _ _ _ _ _)
   | (with_reducible exact ih1 _ _ _ _ _ _ _ _ _ _ _ _)
   | (with_reducible exact ih2 _ _ _ _)
   | (with_reducible exact impl_AddClue.mono _ _ _ _ _ _ _)
   | (with_reducible exact laws_eqPuzzle.mono _ _ _ _ _)
   | (with_reducible exact laws_heldPuzzle.mono _ _ _ _)
   | (with_reducible exact laws_markPuzzle.mono _ _ _ _)
   | (with_reducible exact laws_toPuzzle.mono _ _ _)
   | (with_reducible exact spec_AddClue.mono _ _ _ _ _ _ _)
   | (with_reducible exact LeO.refl _)
   | (with_reducible exact LeO.none _)
   | (with_reducible refine LeO.ite ?_ ?_)
   | (with_reducible refine LeO.bind ?_ (fun _ => ?_))
   | exact ih0 _ _ _ _ _ _ _ _ _ _ _ _ _ _ _
   | exact ih1 _ _ _ _ _ _ _ _ _ _ _ _
   | exact ih2 _ _ _ _
   | exact impl_AddClue.mono _ _ _ _ _ _ _
   | exact laws_eqPuzzle.mono _ _ _ _ _
   | exact laws_heldPuzzle.mono _ _ _ _
   | exact laws_markPuzzle.mono _ _ _ _
   | exact laws_toPuzzle.mono _ _ _
   | exact spec_AddClue.mono _ _ _ _ _ _ _
   | exact LeO.none _
   | refine LeO.ite ?_ ?_
   | refine LeO.bind ?_ (fun _ => ?_)
  ·intro y0 y1 y2 y3
   unfold laws_FnExactAddClue.j2
   repeat' first
   | (with_reducible exact ih0 _ _ _ _ _ _ _ _ _ _ _ _ _ _ _)
   | (with_reducible exact ih1 _ _ _ _ _ _ _ _ _ _ _ _)
   | (with_reducible exact ih2 _ _ _ _)
   | (with_reducible exact impl_AddClue.mono _ _ _ _ _ _ _)
   | (with_reducible exact laws_eqPuzzle.mono _ _ _ _ _)
   | (with_reducible exact laws_heldPuzzle.mono _ _ _ _)
   | (with_reducible exact laws_markPuzzle.mono _ _ _ _)
   | (with_reducible exact laws_toPuzzle.mono _ _ _)
   | (with_reducible exact spec_AddClue.mono _ _ _ _ _ _ _)
   | (with_reducible exact LeO.refl _)
   | (with_reducible exact LeO.none _)
   | (with_reducible refine LeO.ite ?_ ?_)
   | (with_reducible refine LeO.bind ?_ (fun _ => ?_))
   | exact ih0 _ _ _ _ _ _ _ _ _ _ _ _ _ _ _
   | exact ih1 _ _ _ _ _ _ _ _ _ _ _ _
   | exact ih2 _ _ _ _
   | exact impl_AddClue.mono _ _ _ _ _ _ _
   | exact laws_eqPuzzle.mono _ _ _ _ _
   | exact laws_heldPuzzle.mono _ _ _ _
   | exact laws_markPuzzle.mono _ _ _ _
   | exact laws_toPuzzle.mono _ _ _
   | exact spec_AddClue.mono _ _ _ _ _ _ _
   | exact LeO.none _
   | refine LeO.ite ?_ ?_
   | refine LeO.bind ?_ (fun _ => ?_)
theorem laws_FnExactAddClue.mono : ∀ a0 a1 a2 a3 a4 a5 k, LeO (laws_FnExactAddClue.f k a0 a1 a2 a3 a4 a5) (laws_FnExactAddClue.f (k + 1) a0 a1 a2 a3 a4 a5) := by
 intro a0 a1 a2 a3 a4 a5 k
 obtain ⟨ih0, ih1, ih2⟩ := laws_FnExactAddClue.mono_l k
 unfold laws_FnExactAddClue.f
 repeat' first
   | (with_reducible exact ih0 _ _ _ _ _ _ _ _ _ _ _ _ _ _ _)
   | (with_reducible exact ih1 _ _ _ _ _ _ _ _ _ _ _ _)
   | (with_reducible exact ih2 _ _ _ _)
   | (with_reducible exact impl_AddClue.mono _ _ _ _ _ _ _)
   | (with_reducible exact laws_eqPuzzle.mono _ _ _ _ _)
   | (with_reducible exact laws_heldPuzzle.mono _ _ _ _)
   | (with_reducible exact laws_markPuzzle.mono _ _ _ _)
   | (with_reducible exact laws_toPuzzle.mono _ _ _)
   | (with_reducible exact spec_AddClue.mono _ _ _ _ _ _ _)
   | (with_reducible exact LeO.refl _)
   | (with_reducible exact LeO.none _)
   | (with_reducible refine LeO.ite ?_ ?_)
   | (with_reducible refine LeO.bind ?_ (fun _ => ?_))
   | exact ih0 _ _ _ _ _ _ _ _ _ _ _ _ _ _ _
   | exact ih1 _ _ _ _ _ _ _ _ _ _ _ _
   | exact ih2 _ _ _ _
   | exact impl_AddClue.mono _ _ _ _ _ _ _
   | exact laws_eqPuzzle.mono _ _ _ _ _
   | exact laws_heldPuzzle.mono _ _ _ _
   | exact laws_markPuzzle.mono _ _ _ _
   | exact laws_toPuzzle.mono _ _ _
   | exact spec_AddClue.mono _ _ _ _ _ _ _
   | exact LeO.none _
   | refine LeO.ite ?_ ?_
   | refine LeO.bind ?_ (fun _ => ?_)
def laws_FnExactAddClue.T5 : Bool × List (List Nat × List Nat) := (true, [([], []), ([0], [0]), ([], []), ([2, 1], [2]), ([1, 3, 3], [1, 3]), ([4], [4]), ([5], [5]), ([5], [5]), ([], []), ([8, 6, 4, 0, 1, 2, 3, 4, 5, 6, 8], [6, 8]), ([7, 9, 0, 1, 2, 3, 4, 5, 6, 7, 8, 9], [7])])
def laws_FnExactAddClue.B5 : List Nat := [0, 1, 0, 7, 15, 31, 63, 63, 0, 383, 1023]
theorem laws_FnExactAddClue.tab5 : rtab .any (opsOf Try.f5 5) = laws_FnExactAddClue.T5 := by kernel_rfl
theorem laws_FnExactAddClue.bits5 : waitsOk laws_FnExactAddClue.T5.2 laws_FnExactAddClue.B5 = true := by kernel_rfl
def laws_FnExactAddClue.T7 : Bool × List (List Nat × List Nat) := (true, [([], []), ([], []), ([1], [1]), ([0, 2, 2], [0, 2]), ([3], [3]), ([4], [4]), ([4], [4]), ([], []), ([7, 5, 3, 0, 1, 2, 3, 4, 5, 7], [5, 7]), ([6, 8, 0, 1, 2, 3, 4, 5, 6, 7, 8], [6])])
def laws_FnExactAddClue.B7 : List Nat := [0, 0, 2, 7, 15, 31, 31, 0, 191, 511]
theorem laws_FnExactAddClue.tab7 : rtab .any (opsOf Try.f5 7) = laws_FnExactAddClue.T7 := by kernel_rfl
theorem laws_FnExactAddClue.bits7 : waitsOk laws_FnExactAddClue.T7.2 laws_FnExactAddClue.B7 = true := by kernel_rfl
def laws_FnExactAddClue.T24 : Bool × List (List Nat × List Nat) := (true, [([], []), ([0], [0]), ([], []), ([2, 1], [2]), ([1, 3, 3], [1, 3]), ([4], [4]), ([5], [5]), ([5], [5]), ([], []), ([8, 6, 4, 0, 1, 2, 3, 4, 5, 6, 8], [6, 8]), ([7, 9, 0, 1, 2, 3, 4, 5, 6, 7, 8, 9], [7])])
def laws_FnExactAddClue.B24 : List Nat := [0, 1, 0, 7, 15, 31, 63, 63, 0, 383, 1023]
theorem laws_FnExactAddClue.tab24 : rtab .any (opsOf Try.f5 24) = laws_FnExactAddClue.T24 := by kernel_rfl
theorem laws_FnExactAddClue.bits24 : waitsOk laws_FnExactAddClue.T24.2 laws_FnExactAddClue.B24 = true := by kernel_rfl
set_option maxHeartbeats 8000000 in
set_option maxRecDepth 100000 in
theorem laws_FnExactAddClue.calls (k : Nat) (a0_0 : Int) (A0_1 : Option Addr) (c0_1 : Nat) (l0_1 : List (S23)) (a1_0 : Int) (a1_1 : Int) (a1_2 : Int) (a1_3 : Int) (r : Bool) (w : World) (hr0_1 : Kd.C k23 w A0_1 l0_1.length l0_1) (hc0_1 : l0_1.length ≤ c0_1) (h : laws_FnExactAddClue.f k a0_0 l0_1 a1_0 a1_1 a1_2 a1_3 = some r) :
  Calls Try.prog 5 #[.agg #[.int .i64 a0_0, .slice A0_1 l0_1.length c0_1], .agg #[.int .i64 a1_0, .int .i64 a1_1, .int .i64 a1_2, .int .i64 a1_3]] w fun e w' => e = .returned (.bool r) ∧ Below w.heap.size w w' := by
 have hu30 := Try.underlying30
 have hu23 := Try.underlying23
 have hu35 := Try.underlying35
 have HR0_1 := am hr0_1
 have HC0_1 := am hc0_1
 clear hr0_1 hc0_1
 have HB := am (Below.refl w.heap.size w)
 have H : ((laws_szPuzzle.f a0_0 l0_1 1048576).bind fun t199 => (if t199 < 0 then (some true) else ((laws_toPuzzle.f k a0_0 l0_1).bind fun bt200 => ((laws_toClue.f a1_0 a1_1 a1_2 a1_3).bind fun bt204 => ((spec_AddClue.f k bt200.1 bt200.2 bt204.1 bt204.2.1 bt204.2.2.1 bt204.2.2.2).bind fun bt208 => ((laws_toPuzzle.f k a0_0 l0_1).bind fun bt214 => ((laws_toClue.f a1_0 a1_1 a1_2 a1_3).bind fun bt219 => ((impl_AddClue.f k bt214.1 bt214.2 bt219.1 bt219.2.1 bt219.2.2.1 bt219.2.2.2).bind fun bt223 => ((laws_eqPuzzle.f k bt223.1 bt223.2.1 bt208.1 bt208.2.1).bind fun t229 => (if t229 = true then (laws_FnExactAddClue.j0 k bt208.2.2 bt223.2.2 (bt223.2.2 != bt208.2.2) a0_0 l0_1 a1_0 a1_1 a1_2 a1_3 bt208.1 bt208.2.1 bt214.1 bt214.2 bt223.1 bt223.2.1) else (laws_FnExactAddClue.j0 k bt208.2.2 bt223.2.2 true a0_0 l0_1 a1_0 a1_1 a1_2 a1_3 bt208.1 bt208.2.1 bt214.1 bt214.2 bt223.1 bt223.2.1))))))))))) = some r := h
 clear h
 replace H := Option.bind_eq_some_iff.mp H
 obtain ⟨t199, A30, H⟩ := H
 replace H : (if t199 < 0 then (some true) else ((laws_toPuzzle.f k a0_0 l0_1).bind fun bt200 => ((laws_toClue.f a1_0 a1_1 a1_2 a1_3).bind fun bt204 => ((spec_AddClue.f k bt200.1 bt200.2 bt204.1 bt204.2.1 bt204.2.2.1 bt204.2.2.2).bind fun bt208 => ((laws_toPuzzle.f k a0_0 l0_1).bind fun bt214 => ((laws_toClue.f a1_0 a1_1 a1_2 a1_3).bind fun bt219 => ((impl_AddClue.f k bt214.1 bt214.2 bt219.1 bt219.2.1 bt219.2.2.1 bt219.2.2.2).bind fun bt223 => ((laws_eqPuzzle.f k bt223.1 bt223.2.1 bt208.1 bt208.2.1).bind fun t229 => (if t229 = true then (laws_FnExactAddClue.j0 k bt208.2.2 bt223.2.2 (bt223.2.2 != bt208.2.2) a0_0 l0_1 a1_0 a1_1 a1_2 a1_3 bt208.1 bt208.2.1 bt214.1 bt214.2 bt223.1 bt223.2.1) else (laws_FnExactAddClue.j0 k bt208.2.2 bt223.2.2 true a0_0 l0_1 a1_0 a1_1 a1_2 a1_3 bt208.1 bt208.2.1 bt214.1 bt214.2 bt223.1 bt223.2.1)))))))))) = some r := H
 have A3 := am A30
 clear A30
 by_cases c4 : t199 < 0
 ·rw [if_pos c4] at H
  have c4b0 : decide (t199 < 0) = true := decide_eq_true c4
  clear c4
  obtain rfl := Option.some.inj H
  go_enter Try.func5, Try.ntmps5
  go_wp2_with (first | ((with_reducible refine gate_dst (N := 2) rfl ?_); refine box_event ?hg (N := 2) ?hd (cs := #[.int .i64 a0_0, .slice A0_1 l0_1.length c0_1]) (t := 30) ?hr ?_; (case hd => rfl); (case hg => rfl); (case hr => first | (go_simp; done) | (go_simp; rfl)); intro gb197 hg w5 hbox hb; have n0_ := am (below_step (bb HB.out) hb); have n1_ := am (hbox); have n2_ := am ((by rw [hg]; exact (below_size (bb HB.out)) : w.heap.size ≤ gb197)); have n3_ := am ((by rw [hg]; exact (below_size (bb HB.out)) : w.heap.size ≤ gb197)); clear HB; have HB := n0_; have BK197 := n1_; have GW197 := n2_; have GE197 := n3_; clear n0_ n1_ n2_ n3_; clear hb hbox hg) | ((with_reducible refine gate_dst (N := 3) rfl ?_); refine box_event ?hg (N := 3) ?hd (cs := #[.int .i64 a1_0, .int .i64 a1_1, .int .i64 a1_2, .int .i64 a1_3]) (t := 23) ?hr ?_; (case hd => rfl); (case hg => rfl); (case hr => first | (go_simp; done) | (go_simp; rfl)); intro gb198 hg w6 hbox hb; have n0_ := am (blk_below (g := gb197) (o := .cells #[.int .i64 a0_0, .slice A0_1 l0_1.length c0_1] 30 (0, 0)) (bk BK197.out) hb); have n1_ := am (below_step (bb HB.out) hb); have n2_ := am (hbox); have n3_ := am ((by rw [hg]; exact (below_size (bb HB.out)) : w.heap.size ≤ gb198)); have n4_ := am ((by rw [hg]; exact (below_size (bb HB.out)) : w.heap.size ≤ gb198)); have n5_ := am ((by rw [hg]; exact Nat.ne_of_lt (blk_lt (g := gb197) (o := .cells #[.int .i64 a0_0, .slice A0_1 l0_1.length c0_1] 30 (0, 0)) (bk BK197.out)) : gb197 ≠ gb198)); have n6_ := am ((by rw [hg]; exact Nat.ne_of_gt (blk_lt (g := gb197) (o := .cells #[.int .i64 a0_0, .slice A0_1 l0_1.length c0_1] 30 (0, 0)) (bk BK197.out)) : gb198 ≠ gb197)); clear BK197; clear HB; have BK197 := n0_; have HB := n1_; have BK198 := n2_; have GW198 := n3_; have GE198 := n4_; have NB197_198 := n5_; have NB198_197 := n6_; clear n0_ n1_ n2_ n3_ n4_ n5_ n6_; clear hb hbox hg; have hnb7 := NB197_198.out; have hnc7 := NB198_197.out; have hcz8_0 : w6.cell? ⟨gb197, 0, none⟩ = some (.int .i64 a0_0) := (blk_cell BK197.out 0).trans rfl; have hcz8_1 : w6.cell? ⟨gb197, 1, none⟩ = some (.slice A0_1 l0_1.length c0_1) := (blk_cell BK197.out 1).trans rfl; have hfz8_0 := blk_frozen BK197.out 0; have hfz8_1 := blk_frozen BK197.out 1) | ((with_reducible refine gate_callee (f := 18) rfl ?_); refine goesL_ (some 18) rfl rfl Try.func18 (by kernel_rfl) rfl #[.agg #[.int .i64 a0_0, .slice A0_1 l0_1.length c0_1], .int .i64 1048576] rfl (by (try simp only [List.map_toArray, List.map_cons, List.map_nil]); first | done | rfl | (simp only [List.length_drop, List.length_take]; rfl)) ?_; (with_reducible refine (laws_szPuzzle.calls a0_0 _ _ l0_1 1048576 t199 _ ?side1 ?side2 A3.out).mono ?_); (case side1 => repeat (first | exact (Kd.C_below HR0_1.out HB.out) | (with_reducible refine Kd.C_alloc ?_ _) | (with_reducible refine Kd.C_drewN ?_ _) | (with_reducible refine Kd.C_drew ?_))); (case side2 => exact HC0_1.out); rintro e w9 ⟨rfl, hb⟩; refine ⟨_, rfl, ?_⟩; replace BK197 := am (blk_below (g := gb197) (o := .cells #[.int .i64 a0_0, .slice A0_1 l0_1.length c0_1] 30 (0, 0)) (bk BK197.out) hb); replace BK198 := am (blk_below (g := gb198) (o := .cells #[.int .i64 a1_0, .int .i64 a1_1, .int .i64 a1_2, .int .i64 a1_3] 23 (0, 0)) (bk BK198.out) hb); replace HB := am (below_step (bb HB.out) hb); (try clear hb); (try clear hb2); (try clear hk); (try clear hi)))
  go_ret
  exact ⟨by first | rfl | (simp [errW_none, errW_some] <;> rfl) | (simp [*, errW_none, errW_some] <;> rfl), by repeat (first | (with_reducible first | exact HB.out | apply below_alloc | apply pw_below_drewN | apply below_drew1 | refine below_set ?_ GE197.out | refine below_set ?_ GE198.out) | exact HB.out)⟩
 ·rw [if_neg c4] at H
  have c4b0 : decide (t199 < 0) = false := decide_eq_false c4
  clear c4
  replace H := Option.bind_eq_some_iff.mp H
  obtain ⟨⟨t200, t201⟩, A100, H⟩ := H
  replace H : ((laws_toClue.f a1_0 a1_1 a1_2 a1_3).bind fun bt204 => ((spec_AddClue.f k t200 t201 bt204.1 bt204.2.1 bt204.2.2.1 bt204.2.2.2).bind fun bt208 => ((laws_toPuzzle.f k a0_0 l0_1).bind fun bt214 => ((laws_toClue.f a1_0 a1_1 a1_2 a1_3).bind fun bt219 => ((impl_AddClue.f k bt214.1 bt214.2 bt219.1 bt219.2.1 bt219.2.2.1 bt219.2.2.2).bind fun bt223 => ((laws_eqPuzzle.f k bt223.1 bt223.2.1 bt208.1 bt208.2.1).bind fun t229 => (if t229 = true then (laws_FnExactAddClue.j0 k bt208.2.2 bt223.2.2 (bt223.2.2 != bt208.2.2) a0_0 l0_1 a1_0 a1_1 a1_2 a1_3 bt208.1 bt208.2.1 bt214.1 bt214.2 bt223.1 bt223.2.1) else (laws_FnExactAddClue.j0 k bt208.2.2 bt223.2.2 true a0_0 l0_1 a1_0 a1_1 a1_2 a1_3 bt208.1 bt208.2.1 bt214.1 bt214.2 bt223.1 bt223.2.1)))))))) = some r := H
  have A10 := am A100
  clear A100
  replace H := Option.bind_eq_some_iff.mp H
  obtain ⟨⟨t204, t205, t206, t207⟩, A110, H⟩ := H
  replace H : ((spec_AddClue.f k t200 t201 t204 t205 t206 t207).bind fun bt208 => ((laws_toPuzzle.f k a0_0 l0_1).bind fun bt214 => ((laws_toClue.f a1_0 a1_1 a1_2 a1_3).bind fun bt219 => ((impl_AddClue.f k bt214.1 bt214.2 bt219.1 bt219.2.1 bt219.2.2.1 bt219.2.2.2).bind fun bt223 => ((laws_eqPuzzle.f k bt223.1 bt223.2.1 bt208.1 bt208.2.1).bind fun t229 => (if t229 = true then (laws_FnExactAddClue.j0 k bt208.2.2 bt223.2.2 (bt223.2.2 != bt208.2.2) a0_0 l0_1 a1_0 a1_1 a1_2 a1_3 bt208.1 bt208.2.1 bt214.1 bt214.2 bt223.1 bt223.2.1) else (laws_FnExactAddClue.j0 k bt208.2.2 bt223.2.2 true a0_0 l0_1 a1_0 a1_1 a1_2 a1_3 bt208.1 bt208.2.1 bt214.1 bt214.2 bt223.1 bt223.2.1))))))) = some r := H
  have A11 := am A110
  clear A110
  replace H := Option.bind_eq_some_iff.mp H
  obtain ⟨⟨t208, t209, t212⟩, A120, H⟩ := H
  replace H : ((laws_toPuzzle.f k a0_0 l0_1).bind fun bt214 => ((laws_toClue.f a1_0 a1_1 a1_2 a1_3).bind fun bt219 => ((impl_AddClue.f k bt214.1 bt214.2 bt219.1 bt219.2.1 bt219.2.2.1 bt219.2.2.2).bind fun bt223 => ((laws_eqPuzzle.f k bt223.1 bt223.2.1 t208 t209).bind fun t229 => (if t229 = true then (laws_FnExactAddClue.j0 k t212 bt223.2.2 (bt223.2.2 != t212) a0_0 l0_1 a1_0 a1_1 a1_2 a1_3 t208 t209 bt214.1 bt214.2 bt223.1 bt223.2.1) else (laws_FnExactAddClue.j0 k t212 bt223.2.2 true a0_0 l0_1 a1_0 a1_1 a1_2 a1_3 t208 t209 bt214.1 bt214.2 bt223.1 bt223.2.1)))))) = some r := H
  have A12 := am A120
  clear A120
  replace H := Option.bind_eq_some_iff.mp H
  obtain ⟨⟨t214, t215⟩, A130, H⟩ := H
  replace H : ((laws_toClue.f a1_0 a1_1 a1_2 a1_3).bind fun bt219 => ((impl_AddClue.f k t214 t215 bt219.1 bt219.2.1 bt219.2.2.1 bt219.2.2.2).bind fun bt223 => ((laws_eqPuzzle.f k bt223.1 bt223.2.1 t208 t209).bind fun t229 => (if t229 = true then (laws_FnExactAddClue.j0 k t212 bt223.2.2 (bt223.2.2 != t212) a0_0 l0_1 a1_0 a1_1 a1_2 a1_3 t208 t209 t214 t215 bt223.1 bt223.2.1) else (laws_FnExactAddClue.j0 k t212 bt223.2.2 true a0_0 l0_1 a1_0 a1_1 a1_2 a1_3 t208 t209 t214 t215 bt223.1 bt223.2.1))))) = some r := H
  have A13 := am A130
  clear A130
  replace H := Option.bind_eq_some_iff.mp H
  obtain ⟨⟨t219, t220, t221, t222⟩, A140, H⟩ := H
  replace H : ((impl_AddClue.f k t214 t215 t219 t220 t221 t222).bind fun bt223 => ((laws_eqPuzzle.f k bt223.1 bt223.2.1 t208 t209).bind fun t229 => (if t229 = true then (laws_FnExactAddClue.j0 k t212 bt223.2.2 (bt223.2.2 != t212) a0_0 l0_1 a1_0 a1_1 a1_2 a1_3 t208 t209 t214 t215 bt223.1 bt223.2.1) else (laws_FnExactAddClue.j0 k t212 bt223.2.2 true a0_0 l0_1 a1_0 a1_1 a1_2 a1_3 t208 t209 t214 t215 bt223.1 bt223.2.1)))) = some r := H
  have A14 := am A140
  clear A140
  replace H := Option.bind_eq_some_iff.mp H
  obtain ⟨⟨t223, t224, t227⟩, A150, H⟩ := H
  replace H : ((laws_eqPuzzle.f k t223 t224 t208 t209).bind fun t229 => (if t229 = true then (laws_FnExactAddClue.j0 k t212 t227 (t227 != t212) a0_0 l0_1 a1_0 a1_1 a1_2 a1_3 t208 t209 t214 t215 t223 t224) else (laws_FnExactAddClue.j0 k t212 t227 true a0_0 l0_1 a1_0 a1_1 a1_2 a1_3 t208 t209 t214 t215 t223 t224))) = some r := H
  have A15 := am A150
  clear A150
  have HC16 := am H
  clear H
  go_enter Try.func5, Try.ntmps5
  try go_wp2_with (first | ((with_reducible refine gate_dst (N := 2) rfl ?_); refine box_event ?hg (N := 2) ?hd (cs := #[.int .i64 a0_0, .slice A0_1 l0_1.length c0_1]) (t := 30) ?hr ?_; (case hd => rfl); (case hg => rfl); (case hr => first | (go_simp; done) | (go_simp; rfl)); intro gb197 hg w17 hbox hb; have n0_ := am (below_step (bb HB.out) hb); have n1_ := am (hbox); have n2_ := am ((by rw [hg]; exact (below_size (bb HB.out)) : w.heap.size ≤ gb197)); have n3_ := am ((by rw [hg]; exact (below_size (bb HB.out)) : w.heap.size ≤ gb197)); clear HB; have HB := n0_; have BK197 := n1_; have GW197 := n2_; have GE197 := n3_; clear n0_ n1_ n2_ n3_; clear hb hbox hg) | ((with_reducible refine gate_dst (N := 3) rfl ?_); refine box_event ?hg (N := 3) ?hd (cs := #[.int .i64 a1_0, .int .i64 a1_1, .int .i64 a1_2, .int .i64 a1_3]) (t := 23) ?hr ?_; (case hd => rfl); (case hg => rfl); (case hr => first | (go_simp; done) | (go_simp; rfl)); intro gb198 hg w18 hbox hb; have n0_ := am (blk_below (g := gb197) (o := .cells #[.int .i64 a0_0, .slice A0_1 l0_1.length c0_1] 30 (0, 0)) (bk BK197.out) hb); have n1_ := am (below_step (bb HB.out) hb); have n2_ := am (hbox); have n3_ := am ((by rw [hg]; exact (below_size (bb HB.out)) : w.heap.size ≤ gb198)); have n4_ := am ((by rw [hg]; exact (below_size (bb HB.out)) : w.heap.size ≤ gb198)); have n5_ := am ((by rw [hg]; exact Nat.ne_of_lt (blk_lt (g := gb197) (o := .cells #[.int .i64 a0_0, .slice A0_1 l0_1.length c0_1] 30 (0, 0)) (bk BK197.out)) : gb197 ≠ gb198)); have n6_ := am ((by rw [hg]; exact Nat.ne_of_gt (blk_lt (g := gb197) (o := .cells #[.int .i64 a0_0, .slice A0_1 l0_1.length c0_1] 30 (0, 0)) (bk BK197.out)) : gb198 ≠ gb197)); clear BK197; clear HB; have BK197 := n0_; have HB := n1_; have BK198 := n2_; have GW198 := n3_; have GE198 := n4_; have NB197_198 := n5_; have NB198_197 := n6_; clear n0_ n1_ n2_ n3_ n4_ n5_ n6_; clear hb hbox hg; have hnb19 := NB197_198.out; have hnc19 := NB198_197.out; have hcz20_0 : w18.cell? ⟨gb197, 0, none⟩ = some (.int .i64 a0_0) := (blk_cell BK197.out 0).trans rfl; have hcz20_1 : w18.cell? ⟨gb197, 1, none⟩ = some (.slice A0_1 l0_1.length c0_1) := (blk_cell BK197.out 1).trans rfl; have hfz20_0 := blk_frozen BK197.out 0; have hfz20_1 := blk_frozen BK197.out 1) | ((with_reducible refine gate_callee (f := 18) rfl ?_); refine goesL_ (some 18) rfl rfl Try.func18 (by kernel_rfl) rfl #[.agg #[.int .i64 a0_0, .slice A0_1 l0_1.length c0_1], .int .i64 1048576] rfl (by (try simp only [List.map_toArray, List.map_cons, List.map_nil]); first | done | rfl | (simp only [List.length_drop, List.length_take]; rfl)) ?_; (with_reducible refine (laws_szPuzzle.calls a0_0 _ _ l0_1 1048576 t199 _ ?side1 ?side2 A3.out).mono ?_); (case side1 => repeat (first | exact (Kd.C_below HR0_1.out HB.out) | (with_reducible refine Kd.C_alloc ?_ _) | (with_reducible refine Kd.C_drewN ?_ _) | (with_reducible refine Kd.C_drew ?_))); (case side2 => exact HC0_1.out); rintro e w21 ⟨rfl, hb⟩; refine ⟨_, rfl, ?_⟩; replace BK197 := am (blk_below (g := gb197) (o := .cells #[.int .i64 a0_0, .slice A0_1 l0_1.length c0_1] 30 (0, 0)) (bk BK197.out) hb); replace BK198 := am (blk_below (g := gb198) (o := .cells #[.int .i64 a1_0, .int .i64 a1_1, .int .i64 a1_2, .int .i64 a1_3] 23 (0, 0)) (bk BK198.out) hb); replace HB := am (below_step (bb HB.out) hb); (try clear hb); (try clear hb2); (try clear hk); (try clear hi)))
  replace BK197 := am (blk_drew BK197.out)
  replace BK198 := am (blk_drew BK198.out)
  replace HB := am (below_drew1 HB.out)
  refine start_ (n := 11) (S := fun w' => w'.cell? ⟨gb197, 0, none⟩ = some (.int .i64 a0_0) ∧ w'.cell? ⟨gb197, 1, none⟩ = some (.slice A0_1 l0_1.length c0_1) ∧ w'.cell? ⟨gb198, 0, none⟩ = some (.int .i64 a1_0) ∧ w'.cell? ⟨gb198, 1, none⟩ = some (.int .i64 a1_1) ∧ w'.cell? ⟨gb198, 2, none⟩ = some (.int .i64 a1_2) ∧ w'.cell? ⟨gb198, 3, none⟩ = some (.int .i64 a1_3)) (ds := []) #[false, false, false, false, false, false, false, false, false, false, false] (by kernel_rfl) rfl rfl ⟨(blk_cell BK197.out 0).trans rfl, (blk_cell BK197.out 1).trans rfl, (blk_cell BK198.out 0).trans rfl, (blk_cell BK198.out 1).trans rfl, (blk_cell BK198.out 2).trans rfl, (blk_cell BK198.out 3).trans rfl⟩ (fun hHeld => ?_); refine with_tabW laws_FnExactAddClue.tab5 laws_FnExactAddClue.bits5 (fun HT_ HW_ => ?_)
  generalize w21.drew = w22 at BK197 BK198 HB hHeld ⊢
  refine take_ (i := 0) (N := some 22) (v := ?_) (a' := ?_) #[true, false, false, false, false, false, false, false, false, false, false] rfl rfl (take_ofW HT_.out HW_.out (by kernel_rfl)) (fun _ _ _ h => h) (Or.inl ⟨by rfl, ?_⟩) hHeld ?_ ?_
  rotate_left
  ·rintro w' ⟨s0, s1, s2, s3, s4, s5⟩
   go_simp
   with_reducible rfl
  rotate_left
  ·simp only [Act.put, List.setIfInBounds_toArray, List.set_cons_zero, List.set_cons_succ, i64_w, i32_w]
   rfl
  refine take_ (i := 2) (N := some 24) (v := ?_) (a' := ?_) #[true, false, true, false, false, false, false, false, false, false, false] rfl rfl (take_ofW HT_.out HW_.out (by kernel_rfl)) (fun _ _ _ h => h) (Or.inl ⟨by rfl, ?_⟩) hHeld ?_ ?_
  rotate_left
  ·rintro w' ⟨s0, s1, s2, s3, s4, s5⟩
   go_simp
   with_reducible rfl
  rotate_left
  ·simp only [Act.put, List.setIfInBounds_toArray, List.set_cons_zero, List.set_cons_succ, i64_w, i32_w]
   rfl
  refine join_ (σ := Value × Value × Nat) 2 #[true, true, true, true, true, true, true, true, true, false, false] (fun s_ => [(23, .agg #[.int .i64 t200, s_.1]), (25, .agg #[.int .i64 t204, .int .i64 t205, .int .i64 t206, .int .i64 t207]), (26, .tuple #[.agg #[.int .i64 t208, s_.2.1], .bool t212]), (6, .pointer (some ⟨s_.2.2, 0, none⟩)), (21, .tuple #[.agg #[.int .i64 t208, s_.2.1], .bool t212]), (27, .agg #[.int .i64 t208, s_.2.1]), (28, .bool t212)]) (fun s_ w' => (w'.cell? ⟨gb197, 0, none⟩ = some (.int .i64 a0_0) ∧ w'.cell? ⟨gb197, 1, none⟩ = some (.slice A0_1 l0_1.length c0_1) ∧ w'.cell? ⟨gb198, 0, none⟩ = some (.int .i64 a1_0) ∧ w'.cell? ⟨gb198, 1, none⟩ = some (.int .i64 a1_1) ∧ w'.cell? ⟨gb198, 2, none⟩ = some (.int .i64 a1_2) ∧ w'.cell? ⟨gb198, 3, none⟩ = some (.int .i64 a1_3)) ∧ (Kd.R k25 25 w' w.heap.size (fun k_ => some k_ ≠ (s_.2.1 : Value).ownBlock) s_.1 t201) ∧ (Kd.R k25 25 w' w.heap.size (fun k_ => some k_ ≠ (s_.1 : Value).ownBlock) s_.2.1 t209) ∧ (w'.heap[gb197]? = some (.cells #[.int .i64 a0_0, .slice A0_1 l0_1.length c0_1] 30 (0, 0))) ∧ (w'.heap[gb198]? = some (.cells #[.int .i64 a1_0, .int .i64 a1_1, .int .i64 a1_2, .int .i64 a1_3] 23 (0, 0))) ∧ (w'.heap[s_.2.2]? = some (.cells #[.int .i64 0, .slice none 0 0] 35 (0, 0))) ∧ (w.heap.size ≤ s_.2.2) ∧ (w.heap.size ≤ s_.2.2) ∧ (gb197 ≠ s_.2.2) ∧ (s_.2.2 ≠ gb197) ∧ (gb198 ≠ s_.2.2) ∧ (s_.2.2 ≠ gb198) ∧ (Below w.heap.size w w')) ?_ ?_
  rotate_left
  ·intro hCont
   refine two_ (i := 1) (j := 8) (Ni := some 23) (Nj := some 6) #[true, true, true, false, false, false, false, false, false, false, false] #[true, false, true, false, false, false, false, false, true, false, false] rfl rfl rfl rfl (two_of HT_.out (by kernel_rfl)) (by decide) (by decide) (fun K hK => ?_) (fun K hK => ?_)
   ·skip
    refine goes_ Try.func20 (by kernel_rfl) rfl #[.agg #[.int .i64 a0_0, .slice A0_1 l0_1.length c0_1]] (by rfl) rfl rfl (by (try simp only [List.map_toArray, List.map_cons, List.map_nil]); first | done | rfl | (simp only [List.length_drop, List.length_take]; rfl)) ?_
    with_reducible refine (laws_toPuzzle.calls k a0_0 _ _ l0_1 t200 t201 _ ?side1 ?side2 A10.out).mono ?_
    (case side1 => repeat (first | exact (Kd.C_below HR0_1.out HB.out) | (with_reducible refine Kd.C_alloc ?_ _) | (with_reducible refine Kd.C_drewN ?_ _) | (with_reducible refine Kd.C_drew ?_)))
    (case side2 => exact HC0_1.out)
    rintro e w23 ⟨v202, rfl, ho0, hb⟩
    refine ⟨_, rfl, ?_⟩
    have HO203 := am (Kd.R_lower ho0 (below_size (bb HB.out)))
    replace BK197 := am (blk_below (g := gb197) (o := .cells #[.int .i64 a0_0, .slice A0_1 l0_1.length c0_1] 30 (0, 0)) (bk BK197.out) hb)
    replace BK198 := am (blk_below (g := gb198) (o := .cells #[.int .i64 a1_0, .int .i64 a1_1, .int .i64 a1_2, .int .i64 a1_3] 23 (0, 0)) (bk BK198.out) hb)
    replace HB := am (below_step (bb HB.out) hb)
    (try clear hb)
    (try clear hb2)
    (try clear hk)
    (try clear hi)
    (try clear ho0)
    refine hK.out _ _ ⟨(blk_cell BK197.out 0).trans rfl, (blk_cell BK197.out 1).trans rfl, (blk_cell BK198.out 0).trans rfl, (blk_cell BK198.out 1).trans rfl, (blk_cell BK198.out 2).trans rfl, (blk_cell BK198.out 3).trans rfl⟩ (fun hHeld => ?_)
    clear hK K
    refine norm_ (a' := ?_) ?_ ?_
    rotate_left
    ·show Act.put _ (some 23) _ = _
     simp only [Act.put, List.setIfInBounds_toArray, List.set_cons_zero, List.set_cons_succ, i64_w, i32_w]
     rfl
    refine two_ (i := 3) (j := 8) (Ni := some 25) (Nj := some 6) #[true, true, true, true, false, false, false, false, false, false, false] #[true, true, true, false, false, false, false, false, true, false, false] rfl rfl rfl rfl (two_of HT_.out (by kernel_rfl)) (by decide) (by decide) (fun K hK => ?_) (fun K hK => ?_)
    ·skip
     refine goes_ Try.func16 (by kernel_rfl) rfl #[.agg #[.int .i64 a1_0, .int .i64 a1_1, .int .i64 a1_2, .int .i64 a1_3]] (by rfl) rfl rfl (by (try simp only [List.map_toArray, List.map_cons, List.map_nil]); first | done | rfl | (simp only [List.length_drop, List.length_take]; rfl)) ?_
     with_reducible refine (laws_toClue.calls a1_0 a1_1 a1_2 a1_3 t204 t205 t206 t207 _ A11.out).mono ?_
     rintro e w24 ⟨rfl, hb⟩
     refine ⟨_, rfl, ?_⟩
     replace HO203 := am (Kd.R_below (br HO203.out) hb)
     replace BK197 := am (blk_below (g := gb197) (o := .cells #[.int .i64 a0_0, .slice A0_1 l0_1.length c0_1] 30 (0, 0)) (bk BK197.out) hb)
     replace BK198 := am (blk_below (g := gb198) (o := .cells #[.int .i64 a1_0, .int .i64 a1_1, .int .i64 a1_2, .int .i64 a1_3] 23 (0, 0)) (bk BK198.out) hb)
     replace HB := am (below_step (bb HB.out) hb)
     (try clear hb)
     (try clear hb2)
     (try clear hk)
     (try clear hi)
     obtain ⟨Ao25, co25, eo25⟩ := Kd.R_slice HO203.out
     (first | subst eo25 | (injection eo25 with f1_ f2_ f3_; have f4_ := f1_.symm; have f5_ := f3_.symm; clear f1_ f2_ f3_; subst f4_; subst f5_))
     refine hK.out _ _ ⟨(blk_cell BK197.out 0).trans rfl, (blk_cell BK197.out 1).trans rfl, (blk_cell BK198.out 0).trans rfl, (blk_cell BK198.out 1).trans rfl, (blk_cell BK198.out 2).trans rfl, (blk_cell BK198.out 3).trans rfl⟩ (fun hHeld => ?_)
     clear hK K
     refine norm_ (a' := ?_) ?_ ?_
     rotate_left
     ·show Act.put _ (some 25) _ = _
      simp only [Act.put, List.setIfInBounds_toArray, List.set_cons_zero, List.set_cons_succ, i64_w, i32_w]
      rfl
     refine two_ (i := 4) (j := 8) (Ni := some 26) (Nj := some 6) #[true, true, true, true, true, false, false, false, false, false, false] #[true, true, true, true, false, false, false, false, true, false, false] rfl rfl rfl rfl (two_of HT_.out (by kernel_rfl)) (by decide) (by decide) (fun K hK => ?_) (fun K hK => ?_)
     ·skip
      refine goes_ Try.func23 (by kernel_rfl) rfl #[.agg #[.int .i64 t200, .slice Ao25 t201.length co25], .agg #[.int .i64 t204, .int .i64 t205, .int .i64 t206, .int .i64 t207]] (by rfl) rfl rfl (by (try simp only [List.map_toArray, List.map_cons, List.map_nil]); first | done | rfl | (simp only [List.length_drop, List.length_take]; rfl)) ?_
      with_reducible refine (spec_AddClue.calls k t200 _ _ t201 t204 t205 t206 t207 t208 t209 t212 _ ?side1 ?side2 A12.out).mono ?_
      (case side1 => repeat (first | exact (Kd.R_reads' HO203.out).2.2 | (with_reducible refine Kd.C_alloc ?_ _) | (with_reducible refine Kd.C_drewN ?_ _) | (with_reducible refine Kd.C_drew ?_)))
      (case side2 => exact (Kd.R_reads' HO203.out).2.1)
      rintro e w26 ⟨v210, rfl, ho0, hb⟩
      refine ⟨_, rfl, ?_⟩
      have n0_ := am (Kd.R_elder' (br HO203.out) (Kd.R_base ho0) hb)
      have n1_ := am (Kd.R_lower (Kd.R_new' ho0 (Kd.R_lt (br HO203.out))) (below_size (bb HB.out)))
      have n2_ := am (blk_below (g := gb197) (o := .cells #[.int .i64 a0_0, .slice A0_1 l0_1.length c0_1] 30 (0, 0)) (bk BK197.out) hb)
      have n3_ := am (blk_below (g := gb198) (o := .cells #[.int .i64 a1_0, .int .i64 a1_1, .int .i64 a1_2, .int .i64 a1_3] 23 (0, 0)) (bk BK198.out) hb)
      have n4_ := am (below_step (bb HB.out) hb)
      clear HO203
      clear BK197
      clear BK198
      clear HB
      have HO203 := n0_
      have HO211 := n1_
      have BK197 := n2_
      have BK198 := n3_
      have HB := n4_
      clear n0_ n1_ n2_ n3_ n4_
      (try clear hb)
      (try clear hb2)
      (try clear hk)
      (try clear hi)
      (try clear ho0)
      refine hK.out _ _ ⟨(blk_cell BK197.out 0).trans rfl, (blk_cell BK197.out 1).trans rfl, (blk_cell BK198.out 0).trans rfl, (blk_cell BK198.out 1).trans rfl, (blk_cell BK198.out 2).trans rfl, (blk_cell BK198.out 3).trans rfl⟩ (fun hHeld => ?_)
      clear hK K
      refine norm_ (a' := ?_) ?_ ?_
      rotate_left
      ·show Act.put _ (some 26) _ = _
       simp only [Act.put, List.setIfInBounds_toArray, List.set_cons_zero, List.set_cons_succ, i64_w, i32_w]
       rfl
      refine pure_ (i := 5) (N := some 21) (v := ?_) (a' := ?_) #[true, true, true, true, true, true, false, false, false, false, false] rfl rfl (any_of HT_.out (by kernel_rfl)) (fun _ _ _ h => h) (Or.inl ⟨by rfl, ?_⟩) ?_ ?_
      rotate_left
      ·intro w'
       go_simp
       with_reducible rfl
      rotate_left
      ·simp only [Act.put, List.setIfInBounds_toArray, List.set_cons_zero, List.set_cons_succ, i64_w, i32_w]
       rfl
      refine pure_ (i := 6) (N := some 27) (v := ?_) (a' := ?_) #[true, true, true, true, true, true, true, false, false, false, false] rfl rfl (any_of HT_.out (by kernel_rfl)) (fun _ _ _ h => h) (Or.inl ⟨by rfl, ?_⟩) ?_ ?_
      rotate_left
      ·intro w'
       go_simp
       with_reducible rfl
      rotate_left
      ·simp only [Act.put, List.setIfInBounds_toArray, List.set_cons_zero, List.set_cons_succ, i64_w, i32_w]
       rfl
      refine pure_ (i := 7) (N := some 28) (v := ?_) (a' := ?_) #[true, true, true, true, true, true, true, true, false, false, false] rfl rfl (any_of HT_.out (by kernel_rfl)) (fun _ _ _ h => h) (Or.inl ⟨by rfl, ?_⟩) ?_ ?_
      rotate_left
      ·intro w'
       go_simp
       with_reducible rfl
      rotate_left
      ·simp only [Act.put, List.setIfInBounds_toArray, List.set_cons_zero, List.set_cons_succ, i64_w, i32_w]
       rfl
      refine one_ (i := 8) (N := some 6) #[true, true, true, true, true, true, true, true, true, false, false] rfl rfl (one_of HT_.out (by kernel_rfl)) (by decide) (fun K hK => ?_)
      refine box_step ?hg (N := 6) ?hd (cs := #[.int .i64 0, .slice none 0 0]) (t := 35) ?hr ?_; (case hd => rfl); (case hg => rfl); (case hr => first | (go_simp; done) | (go_simp; rfl))
      intro gb213 hg w27 hbox hb
      have n0_ := am (Kd.R_below (br HO203.out) hb)
      have n1_ := am (Kd.R_below (br HO211.out) hb)
      have n2_ := am (blk_below (g := gb197) (o := .cells #[.int .i64 a0_0, .slice A0_1 l0_1.length c0_1] 30 (0, 0)) (bk BK197.out) hb)
      have n3_ := am (blk_below (g := gb198) (o := .cells #[.int .i64 a1_0, .int .i64 a1_1, .int .i64 a1_2, .int .i64 a1_3] 23 (0, 0)) (bk BK198.out) hb)
      have n4_ := am (below_step (bb HB.out) hb)
      have n5_ := am (hbox)
      have n6_ := am ((by rw [hg]; exact (below_size (bb HB.out)) : w.heap.size ≤ gb213))
      have n7_ := am ((by rw [hg]; exact (below_size (bb HB.out)) : w.heap.size ≤ gb213))
      have n8_ := am ((by rw [hg]; exact Nat.ne_of_lt (blk_lt (g := gb197) (o := .cells #[.int .i64 a0_0, .slice A0_1 l0_1.length c0_1] 30 (0, 0)) (bk BK197.out)) : gb197 ≠ gb213))
      have n9_ := am ((by rw [hg]; exact Nat.ne_of_gt (blk_lt (g := gb197) (o := .cells #[.int .i64 a0_0, .slice A0_1 l0_1.length c0_1] 30 (0, 0)) (bk BK197.out)) : gb213 ≠ gb197))
      have n10_ := am ((by rw [hg]; exact Nat.ne_of_lt (blk_lt (g := gb198) (o := .cells #[.int .i64 a1_0, .int .i64 a1_1, .int .i64 a1_2, .int .i64 a1_3] 23 (0, 0)) (bk BK198.out)) : gb198 ≠ gb213))
      have n11_ := am ((by rw [hg]; exact Nat.ne_of_gt (blk_lt (g := gb198) (o := .cells #[.int .i64 a1_0, .int .i64 a1_1, .int .i64 a1_2, .int .i64 a1_3] 23 (0, 0)) (bk BK198.out)) : gb213 ≠ gb198))
      clear HO203
      clear HO211
      clear BK197
      clear BK198
      clear HB
      have HO203 := n0_
      have HO211 := n1_
      have BK197 := n2_
      have BK198 := n3_
      have HB := n4_
      have BK213 := n5_
      have GW213 := n6_
      have GE213 := n7_
      have NB197_213 := n8_
      have NB213_197 := n9_
      have NB198_213 := n10_
      have NB213_198 := n11_
      clear n0_ n1_ n2_ n3_ n4_ n5_ n6_ n7_ n8_ n9_ n10_ n11_
      clear hb hbox hg
      refine hK.out _ _ ⟨(blk_cell BK197.out 0).trans rfl, (blk_cell BK197.out 1).trans rfl, (blk_cell BK198.out 0).trans rfl, (blk_cell BK198.out 1).trans rfl, (blk_cell BK198.out 2).trans rfl, (blk_cell BK198.out 3).trans rfl⟩ (fun hHeld => ?_)
      clear hK K
      refine norm_ (a' := ?_) ?_ ?_
      rotate_left
      ·show Act.put _ (some 6) _ = _
       simp only [Act.put, List.setIfInBounds_toArray, List.set_cons_zero, List.set_cons_succ, i64_w, i32_w]
       rfl
      exact norm_ (by simp only [putAll, Act.put, List.setIfInBounds_toArray, List.set_cons_zero, List.set_cons_succ]) (hCont (.slice Ao25 t201.length co25, v210, gb213) _ ⟨hHeld, (by (with_reducible repeat (first | apply Kd.R_alloc | apply Kd.R_drewN | apply Kd.R_drew)); exact Kd.R_mono HO203.out (fun _ hk => hk.2)), (by (with_reducible repeat (first | apply Kd.R_alloc | apply Kd.R_drewN | apply Kd.R_drew)); exact Kd.R_mono HO211.out (fun _ hk => hk.2)), (bk BK197.out), (bk BK198.out), (bk BK213.out), GW213.out, GE213.out, NB197_213.out, NB213_197.out, NB198_213.out, NB213_198.out, (bb HB.out)⟩)
     ·skip
      refine box_step ?hg (N := 6) ?hd (cs := #[.int .i64 0, .slice none 0 0]) (t := 35) ?hr ?_; (case hd => rfl); (case hg => rfl); (case hr => first | (go_simp; done) | (go_simp; rfl))
      intro gb213 hg w25 hbox hb
      have n0_ := am (Kd.R_below (br HO203.out) hb)
      have n1_ := am (blk_below (g := gb197) (o := .cells #[.int .i64 a0_0, .slice A0_1 l0_1.length c0_1] 30 (0, 0)) (bk BK197.out) hb)
      have n2_ := am (blk_below (g := gb198) (o := .cells #[.int .i64 a1_0, .int .i64 a1_1, .int .i64 a1_2, .int .i64 a1_3] 23 (0, 0)) (bk BK198.out) hb)
      have n3_ := am (below_step (bb HB.out) hb)
      have n4_ := am (hbox)
      have n5_ := am ((by rw [hg]; exact (below_size (bb HB.out)) : w.heap.size ≤ gb213))
      have n6_ := am ((by rw [hg]; exact (below_size (bb HB.out)) : w.heap.size ≤ gb213))
      have n7_ := am ((by rw [hg]; exact Nat.ne_of_lt (blk_lt (g := gb197) (o := .cells #[.int .i64 a0_0, .slice A0_1 l0_1.length c0_1] 30 (0, 0)) (bk BK197.out)) : gb197 ≠ gb213))
      have n8_ := am ((by rw [hg]; exact Nat.ne_of_gt (blk_lt (g := gb197) (o := .cells #[.int .i64 a0_0, .slice A0_1 l0_1.length c0_1] 30 (0, 0)) (bk BK197.out)) : gb213 ≠ gb197))
      have n9_ := am ((by rw [hg]; exact Nat.ne_of_lt (blk_lt (g := gb198) (o := .cells #[.int .i64 a1_0, .int .i64 a1_1, .int .i64 a1_2, .int .i64 a1_3] 23 (0, 0)) (bk BK198.out)) : gb198 ≠ gb213))
      have n10_ := am ((by rw [hg]; exact Nat.ne_of_gt (blk_lt (g := gb198) (o := .cells #[.int .i64 a1_0, .int .i64 a1_1, .int .i64 a1_2, .int .i64 a1_3] 23 (0, 0)) (bk BK198.out)) : gb213 ≠ gb198))
      clear HO203
      clear BK197
      clear BK198
      clear HB
      have HO203 := n0_
      have BK197 := n1_
      have BK198 := n2_
      have HB := n3_
      have BK213 := n4_
      have GW213 := n5_
      have GE213 := n6_
      have NB197_213 := n7_
      have NB213_197 := n8_
      have NB198_213 := n9_
      have NB213_198 := n10_
      clear n0_ n1_ n2_ n3_ n4_ n5_ n6_ n7_ n8_ n9_ n10_
      clear hb hbox hg
      obtain ⟨Ao26, co26, eo26⟩ := Kd.R_slice HO203.out
      (first | subst eo26 | (injection eo26 with f1_ f2_ f3_; have f4_ := f1_.symm; have f5_ := f3_.symm; clear f1_ f2_ f3_; subst f4_; subst f5_))
      refine hK.out _ _ ⟨(blk_cell BK197.out 0).trans rfl, (blk_cell BK197.out 1).trans rfl, (blk_cell BK198.out 0).trans rfl, (blk_cell BK198.out 1).trans rfl, (blk_cell BK198.out 2).trans rfl, (blk_cell BK198.out 3).trans rfl⟩ (fun hHeld => ?_)
      clear hK K
      refine norm_ (a' := ?_) ?_ ?_
      rotate_left
      ·show Act.put _ (some 6) _ = _
       simp only [Act.put, List.setIfInBounds_toArray, List.set_cons_zero, List.set_cons_succ, i64_w, i32_w]
       rfl
      refine one_ (i := 4) (N := some 26) #[true, true, true, true, true, false, false, false, true, false, false] rfl rfl (one_of HT_.out (by kernel_rfl)) (by decide) (fun K hK => ?_)
      refine goes_ Try.func23 (by kernel_rfl) rfl #[.agg #[.int .i64 t200, .slice Ao26 t201.length co26], .agg #[.int .i64 t204, .int .i64 t205, .int .i64 t206, .int .i64 t207]] (by rfl) rfl rfl (by (try simp only [List.map_toArray, List.map_cons, List.map_nil]); first | done | rfl | (simp only [List.length_drop, List.length_take]; rfl)) ?_
      with_reducible refine (spec_AddClue.calls k t200 _ _ t201 t204 t205 t206 t207 t208 t209 t212 _ ?side1 ?side2 A12.out).mono ?_
      (case side1 => repeat (first | exact (Kd.R_reads' HO203.out).2.2 | (with_reducible refine Kd.C_alloc ?_ _) | (with_reducible refine Kd.C_drewN ?_ _) | (with_reducible refine Kd.C_drew ?_)))
      (case side2 => exact (Kd.R_reads' HO203.out).2.1)
      rintro e w27 ⟨v210, rfl, ho0, hb⟩
      refine ⟨_, rfl, ?_⟩
      have n0_ := am (Kd.R_elder' (br HO203.out) (Kd.R_base ho0) hb)
      have n1_ := am (Kd.R_lower (Kd.R_new' ho0 (Kd.R_lt (br HO203.out))) (below_size (bb HB.out)))
      have n2_ := am (blk_below (g := gb197) (o := .cells #[.int .i64 a0_0, .slice A0_1 l0_1.length c0_1] 30 (0, 0)) (bk BK197.out) hb)
      have n3_ := am (blk_below (g := gb198) (o := .cells #[.int .i64 a1_0, .int .i64 a1_1, .int .i64 a1_2, .int .i64 a1_3] 23 (0, 0)) (bk BK198.out) hb)
      have n4_ := am (blk_below (g := gb213) (o := .cells #[.int .i64 0, .slice none 0 0] 35 (0, 0)) (bk BK213.out) hb)
      have n5_ := am (below_step (bb HB.out) hb)
      clear HO203
      clear BK197
      clear BK198
      clear BK213
      clear HB
      have HO203 := n0_
      have HO211 := n1_
      have BK197 := n2_
      have BK198 := n3_
      have BK213 := n4_
      have HB := n5_
      clear n0_ n1_ n2_ n3_ n4_ n5_
      (try clear hb)
      (try clear hb2)
      (try clear hk)
      (try clear hi)
      (try clear ho0)
      refine hK.out _ _ ⟨(blk_cell BK197.out 0).trans rfl, (blk_cell BK197.out 1).trans rfl, (blk_cell BK198.out 0).trans rfl, (blk_cell BK198.out 1).trans rfl, (blk_cell BK198.out 2).trans rfl, (blk_cell BK198.out 3).trans rfl⟩ (fun hHeld => ?_)
      clear hK K
      refine norm_ (a' := ?_) ?_ ?_
      rotate_left
      ·show Act.put _ (some 26) _ = _
       simp only [Act.put, List.setIfInBounds_toArray, List.set_cons_zero, List.set_cons_succ, i64_w, i32_w]
       rfl
      refine pure_ (i := 5) (N := some 21) (v := ?_) (a' := ?_) #[true, true, true, true, true, true, false, false, true, false, false] rfl rfl (any_of HT_.out (by kernel_rfl)) (fun _ _ _ h => h) (Or.inl ⟨by rfl, ?_⟩) ?_ ?_
      rotate_left
      ·intro w'
       go_simp
       with_reducible rfl
      rotate_left
      ·simp only [Act.put, List.setIfInBounds_toArray, List.set_cons_zero, List.set_cons_succ, i64_w, i32_w]
       rfl
      refine pure_ (i := 6) (N := some 27) (v := ?_) (a' := ?_) #[true, true, true, true, true, true, true, false, true, false, false] rfl rfl (any_of HT_.out (by kernel_rfl)) (fun _ _ _ h => h) (Or.inl ⟨by rfl, ?_⟩) ?_ ?_
      rotate_left
      ·intro w'
       go_simp
       with_reducible rfl
      rotate_left
      ·simp only [Act.put, List.setIfInBounds_toArray, List.set_cons_zero, List.set_cons_succ, i64_w, i32_w]
       rfl
      refine pure_ (i := 7) (N := some 28) (v := ?_) (a' := ?_) #[true, true, true, true, true, true, true, true, true, false, false] rfl rfl (any_of HT_.out (by kernel_rfl)) (fun _ _ _ h => h) (Or.inl ⟨by rfl, ?_⟩) ?_ ?_
      rotate_left
      ·intro w'
       go_simp
       with_reducible rfl
      rotate_left
      ·simp only [Act.put, List.setIfInBounds_toArray, List.set_cons_zero, List.set_cons_succ, i64_w, i32_w]
       rfl
      exact norm_ (by simp only [putAll, Act.put, List.setIfInBounds_toArray, List.set_cons_zero, List.set_cons_succ]) (hCont (.slice Ao26 t201.length co26, v210, gb213) _ ⟨hHeld, (by (with_reducible repeat (first | apply Kd.R_alloc | apply Kd.R_drewN | apply Kd.R_drew)); exact Kd.R_mono HO203.out (fun _ hk => hk.2)), (by (with_reducible repeat (first | apply Kd.R_alloc | apply Kd.R_drewN | apply Kd.R_drew)); exact Kd.R_mono HO211.out (fun _ hk => hk.2)), (bk BK197.out), (bk BK198.out), (bk BK213.out), GW213.out, GE213.out, NB197_213.out, NB213_197.out, NB198_213.out, NB213_198.out, (bb HB.out)⟩)
    ·skip
     refine box_step ?hg (N := 6) ?hd (cs := #[.int .i64 0, .slice none 0 0]) (t := 35) ?hr ?_; (case hd => rfl); (case hg => rfl); (case hr => first | (go_simp; done) | (go_simp; rfl))
     intro gb213 hg w24 hbox hb
     have n0_ := am (Kd.R_below (br HO203.out) hb)
     have n1_ := am (blk_below (g := gb197) (o := .cells #[.int .i64 a0_0, .slice A0_1 l0_1.length c0_1] 30 (0, 0)) (bk BK197.out) hb)
     have n2_ := am (blk_below (g := gb198) (o := .cells #[.int .i64 a1_0, .int .i64 a1_1, .int .i64 a1_2, .int .i64 a1_3] 23 (0, 0)) (bk BK198.out) hb)
     have n3_ := am (below_step (bb HB.out) hb)
     have n4_ := am (hbox)
     have n5_ := am ((by rw [hg]; exact (below_size (bb HB.out)) : w.heap.size ≤ gb213))
     have n6_ := am ((by rw [hg]; exact (below_size (bb HB.out)) : w.heap.size ≤ gb213))
     have n7_ := am ((by rw [hg]; exact Nat.ne_of_lt (blk_lt (g := gb197) (o := .cells #[.int .i64 a0_0, .slice A0_1 l0_1.length c0_1] 30 (0, 0)) (bk BK197.out)) : gb197 ≠ gb213))
     have n8_ := am ((by rw [hg]; exact Nat.ne_of_gt (blk_lt (g := gb197) (o := .cells #[.int .i64 a0_0, .slice A0_1 l0_1.length c0_1] 30 (0, 0)) (bk BK197.out)) : gb213 ≠ gb197))
     have n9_ := am ((by rw [hg]; exact Nat.ne_of_lt (blk_lt (g := gb198) (o := .cells #[.int .i64 a1_0, .int .i64 a1_1, .int .i64 a1_2, .int .i64 a1_3] 23 (0, 0)) (bk BK198.out)) : gb198 ≠ gb213))
     have n10_ := am ((by rw [hg]; exact Nat.ne_of_gt (blk_lt (g := gb198) (o := .cells #[.int .i64 a1_0, .int .i64 a1_1, .int .i64 a1_2, .int .i64 a1_3] 23 (0, 0)) (bk BK198.out)) : gb213 ≠ gb198))
     clear HO203
     clear BK197
     clear BK198
     clear HB
     have HO203 := n0_
     have BK197 := n1_
     have BK198 := n2_
     have HB := n3_
     have BK213 := n4_
     have GW213 := n5_
     have GE213 := n6_
     have NB197_213 := n7_
     have NB213_197 := n8_
     have NB198_213 := n9_
     have NB213_198 := n10_
     clear n0_ n1_ n2_ n3_ n4_ n5_ n6_ n7_ n8_ n9_ n10_
     clear hb hbox hg
     refine hK.out _ _ ⟨(blk_cell BK197.out 0).trans rfl, (blk_cell BK197.out 1).trans rfl, (blk_cell BK198.out 0).trans rfl, (blk_cell BK198.out 1).trans rfl, (blk_cell BK198.out 2).trans rfl, (blk_cell BK198.out 3).trans rfl⟩ (fun hHeld => ?_)
     clear hK K
     refine norm_ (a' := ?_) ?_ ?_
     rotate_left
     ·show Act.put _ (some 6) _ = _
      simp only [Act.put, List.setIfInBounds_toArray, List.set_cons_zero, List.set_cons_succ, i64_w, i32_w]
      rfl
     refine one_ (i := 3) (N := some 25) #[true, true, true, true, false, false, false, false, true, false, false] rfl rfl (one_of HT_.out (by kernel_rfl)) (by decide) (fun K hK => ?_)
     refine goes_ Try.func16 (by kernel_rfl) rfl #[.agg #[.int .i64 a1_0, .int .i64 a1_1, .int .i64 a1_2, .int .i64 a1_3]] (by rfl) rfl rfl (by (try simp only [List.map_toArray, List.map_cons, List.map_nil]); first | done | rfl | (simp only [List.length_drop, List.length_take]; rfl)) ?_
     with_reducible refine (laws_toClue.calls a1_0 a1_1 a1_2 a1_3 t204 t205 t206 t207 _ A11.out).mono ?_
     rintro e w25 ⟨rfl, hb⟩
     refine ⟨_, rfl, ?_⟩
     replace HO203 := am (Kd.R_below (br HO203.out) hb)
     replace BK197 := am (blk_below (g := gb197) (o := .cells #[.int .i64 a0_0, .slice A0_1 l0_1.length c0_1] 30 (0, 0)) (bk BK197.out) hb)
     replace BK198 := am (blk_below (g := gb198) (o := .cells #[.int .i64 a1_0, .int .i64 a1_1, .int .i64 a1_2, .int .i64 a1_3] 23 (0, 0)) (bk BK198.out) hb)
     replace BK213 := am (blk_below (g := gb213) (o := .cells #[.int .i64 0, .slice none 0 0] 35 (0, 0)) (bk BK213.out) hb)
     replace HB := am (below_step (bb HB.out) hb)
     (try clear hb)
     (try clear hb2)
     (try clear hk)
     (try clear hi)
     obtain ⟨Ao26, co26, eo26⟩ := Kd.R_slice HO203.out
     (first | subst eo26 | (injection eo26 with f1_ f2_ f3_; have f4_ := f1_.symm; have f5_ := f3_.symm; clear f1_ f2_ f3_; subst f4_; subst f5_))
     refine hK.out _ _ ⟨(blk_cell BK197.out 0).trans rfl, (blk_cell BK197.out 1).trans rfl, (blk_cell BK198.out 0).trans rfl, (blk_cell BK198.out 1).trans rfl, (blk_cell BK198.out 2).trans rfl, (blk_cell BK198.out 3).trans rfl⟩ (fun hHeld => ?_)
     clear hK K
     refine norm_ (a' := ?_) ?_ ?_
     rotate_left
     ·show Act.put _ (some 25) _ = _
      simp only [Act.put, List.setIfInBounds_toArray, List.set_cons_zero, List.set_cons_succ, i64_w, i32_w]
      rfl
     refine one_ (i := 4) (N := some 26) #[true, true, true, true, true, false, false, false, true, false, false] rfl rfl (one_of HT_.out (by kernel_rfl)) (by decide) (fun K hK => ?_)
     refine goes_ Try.func23 (by kernel_rfl) rfl #[.agg #[.int .i64 t200, .slice Ao26 t201.length co26], .agg #[.int .i64 t204, .int .i64 t205, .int .i64 t206, .int .i64 t207]] (by rfl) rfl rfl (by (try simp only [List.map_toArray, List.map_cons, List.map_nil]); first | done | rfl | (simp only [List.length_drop, List.length_take]; rfl)) ?_
     with_reducible refine (spec_AddClue.calls k t200 _ _ t201 t204 t205 t206 t207 t208 t209 t212 _ ?side1 ?side2 A12.out).mono ?_
     (case side1 => repeat (first | exact (Kd.R_reads' HO203.out).2.2 | (with_reducible refine Kd.C_alloc ?_ _) | (with_reducible refine Kd.C_drewN ?_ _) | (with_reducible refine Kd.C_drew ?_)))
     (case side2 => exact (Kd.R_reads' HO203.out).2.1)
     rintro e w27 ⟨v210, rfl, ho0, hb⟩
     refine ⟨_, rfl, ?_⟩
     have n0_ := am (Kd.R_elder' (br HO203.out) (Kd.R_base ho0) hb)
     have n1_ := am (Kd.R_lower (Kd.R_new' ho0 (Kd.R_lt (br HO203.out))) (below_size (bb HB.out)))
     have n2_ := am (blk_below (g := gb197) (o := .cells #[.int .i64 a0_0, .slice A0_1 l0_1.length c0_1] 30 (0, 0)) (bk BK197.out) hb)
     have n3_ := am (blk_below (g := gb198) (o := .cells #[.int .i64 a1_0, .int .i64 a1_1, .int .i64 a1_2, .int .i64 a1_3] 23 (0, 0)) (bk BK198.out) hb)
     have n4_ := am (blk_below (g := gb213) (o := .cells #[.int .i64 0, .slice none 0 0] 35 (0, 0)) (bk BK213.out) hb)
     have n5_ := am (below_step (bb HB.out) hb)
     clear HO203
     clear BK197
     clear BK198
     clear BK213
     clear HB
     have HO203 := n0_
     have HO211 := n1_
     have BK197 := n2_
     have BK198 := n3_
     have BK213 := n4_
     have HB := n5_
     clear n0_ n1_ n2_ n3_ n4_ n5_
     (try clear hb)
     (try clear hb2)
     (try clear hk)
     (try clear hi)
     (try clear ho0)
     refine hK.out _ _ ⟨(blk_cell BK197.out 0).trans rfl, (blk_cell BK197.out 1).trans rfl, (blk_cell BK198.out 0).trans rfl, (blk_cell BK198.out 1).trans rfl, (blk_cell BK198.out 2).trans rfl, (blk_cell BK198.out 3).trans rfl⟩ (fun hHeld => ?_)
     clear hK K
     refine norm_ (a' := ?_) ?_ ?_
     rotate_left
     ·show Act.put _ (some 26) _ = _
      simp only [Act.put, List.setIfInBounds_toArray, List.set_cons_zero, List.set_cons_succ, i64_w, i32_w]
      rfl
     refine pure_ (i := 5) (N := some 21) (v := ?_) (a' := ?_) #[true, true, true, true, true, true, false, false, true, false, false] rfl rfl (any_of HT_.out (by kernel_rfl)) (fun _ _ _ h => h) (Or.inl ⟨by rfl, ?_⟩) ?_ ?_
     rotate_left
     ·intro w'
      go_simp
      with_reducible rfl
     rotate_left
     ·simp only [Act.put, List.setIfInBounds_toArray, List.set_cons_zero, List.set_cons_succ, i64_w, i32_w]
      rfl
     refine pure_ (i := 6) (N := some 27) (v := ?_) (a' := ?_) #[true, true, true, true, true, true, true, false, true, false, false] rfl rfl (any_of HT_.out (by kernel_rfl)) (fun _ _ _ h => h) (Or.inl ⟨by rfl, ?_⟩) ?_ ?_
     rotate_left
     ·intro w'
      go_simp
      with_reducible rfl
     rotate_left
     ·simp only [Act.put, List.setIfInBounds_toArray, List.set_cons_zero, List.set_cons_succ, i64_w, i32_w]
      rfl
     refine pure_ (i := 7) (N := some 28) (v := ?_) (a' := ?_) #[true, true, true, true, true, true, true, true, true, false, false] rfl rfl (any_of HT_.out (by kernel_rfl)) (fun _ _ _ h => h) (Or.inl ⟨by rfl, ?_⟩) ?_ ?_
     rotate_left
     ·intro w'
      go_simp
      with_reducible rfl
     rotate_left
     ·simp only [Act.put, List.setIfInBounds_toArray, List.set_cons_zero, List.set_cons_succ, i64_w, i32_w]
      rfl
     exact norm_ (by simp only [putAll, Act.put, List.setIfInBounds_toArray, List.set_cons_zero, List.set_cons_succ]) (hCont (.slice Ao26 t201.length co26, v210, gb213) _ ⟨hHeld, (by (with_reducible repeat (first | apply Kd.R_alloc | apply Kd.R_drewN | apply Kd.R_drew)); exact Kd.R_mono HO203.out (fun _ hk => hk.2)), (by (with_reducible repeat (first | apply Kd.R_alloc | apply Kd.R_drewN | apply Kd.R_drew)); exact Kd.R_mono HO211.out (fun _ hk => hk.2)), (bk BK197.out), (bk BK198.out), (bk BK213.out), GW213.out, GE213.out, NB197_213.out, NB213_197.out, NB198_213.out, NB213_198.out, (bb HB.out)⟩)
   ·skip
    refine box_step ?hg (N := 6) ?hd (cs := #[.int .i64 0, .slice none 0 0]) (t := 35) ?hr ?_; (case hd => rfl); (case hg => rfl); (case hr => first | (go_simp; done) | (go_simp; rfl))
    intro gb213 hg w23 hbox hb
    have n0_ := am (blk_below (g := gb197) (o := .cells #[.int .i64 a0_0, .slice A0_1 l0_1.length c0_1] 30 (0, 0)) (bk BK197.out) hb)
    have n1_ := am (blk_below (g := gb198) (o := .cells #[.int .i64 a1_0, .int .i64 a1_1, .int .i64 a1_2, .int .i64 a1_3] 23 (0, 0)) (bk BK198.out) hb)
    have n2_ := am (below_step (bb HB.out) hb)
    have n3_ := am (hbox)
    have n4_ := am ((by rw [hg]; exact (below_size (bb HB.out)) : w.heap.size ≤ gb213))
    have n5_ := am ((by rw [hg]; exact (below_size (bb HB.out)) : w.heap.size ≤ gb213))
    have n6_ := am ((by rw [hg]; exact Nat.ne_of_lt (blk_lt (g := gb197) (o := .cells #[.int .i64 a0_0, .slice A0_1 l0_1.length c0_1] 30 (0, 0)) (bk BK197.out)) : gb197 ≠ gb213))
    have n7_ := am ((by rw [hg]; exact Nat.ne_of_gt (blk_lt (g := gb197) (o := .cells #[.int .i64 a0_0, .slice A0_1 l0_1.length c0_1] 30 (0, 0)) (bk BK197.out)) : gb213 ≠ gb197))
    have n8_ := am ((by rw [hg]; exact Nat.ne_of_lt (blk_lt (g := gb198) (o := .cells #[.int .i64 a1_0, .int .i64 a1_1, .int .i64 a1_2, .int .i64 a1_3] 23 (0, 0)) (bk BK198.out)) : gb198 ≠ gb213))
    have n9_ := am ((by rw [hg]; exact Nat.ne_of_gt (blk_lt (g := gb198) (o := .cells #[.int .i64 a1_0, .int .i64 a1_1, .int .i64 a1_2, .int .i64 a1_3] 23 (0, 0)) (bk BK198.out)) : gb213 ≠ gb198))
    clear BK197
    clear BK198
    clear HB
    have BK197 := n0_
    have BK198 := n1_
    have HB := n2_
    have BK213 := n3_
    have GW213 := n4_
    have GE213 := n5_
    have NB197_213 := n6_
    have NB213_197 := n7_
    have NB198_213 := n8_
    have NB213_198 := n9_
    clear n0_ n1_ n2_ n3_ n4_ n5_ n6_ n7_ n8_ n9_
    clear hb hbox hg
    refine hK.out _ _ ⟨(blk_cell BK197.out 0).trans rfl, (blk_cell BK197.out 1).trans rfl, (blk_cell BK198.out 0).trans rfl, (blk_cell BK198.out 1).trans rfl, (blk_cell BK198.out 2).trans rfl, (blk_cell BK198.out 3).trans rfl⟩ (fun hHeld => ?_)
    clear hK K
    refine norm_ (a' := ?_) ?_ ?_
    rotate_left
    ·show Act.put _ (some 6) _ = _
     simp only [Act.put, List.setIfInBounds_toArray, List.set_cons_zero, List.set_cons_succ, i64_w, i32_w]
     rfl
    refine one_ (i := 1) (N := some 23) #[true, true, true, false, false, false, false, false, true, false, false] rfl rfl (one_of HT_.out (by kernel_rfl)) (by decide) (fun K hK => ?_)
    refine goes_ Try.func20 (by kernel_rfl) rfl #[.agg #[.int .i64 a0_0, .slice A0_1 l0_1.length c0_1]] (by rfl) rfl rfl (by (try simp only [List.map_toArray, List.map_cons, List.map_nil]); first | done | rfl | (simp only [List.length_drop, List.length_take]; rfl)) ?_
    with_reducible refine (laws_toPuzzle.calls k a0_0 _ _ l0_1 t200 t201 _ ?side1 ?side2 A10.out).mono ?_
    (case side1 => repeat (first | exact (Kd.C_below HR0_1.out HB.out) | (with_reducible refine Kd.C_alloc ?_ _) | (with_reducible refine Kd.C_drewN ?_ _) | (with_reducible refine Kd.C_drew ?_)))
    (case side2 => exact HC0_1.out)
    rintro e w24 ⟨v202, rfl, ho0, hb⟩
    refine ⟨_, rfl, ?_⟩
    have HO203 := am (Kd.R_lower ho0 (below_size (bb HB.out)))
    replace BK197 := am (blk_below (g := gb197) (o := .cells #[.int .i64 a0_0, .slice A0_1 l0_1.length c0_1] 30 (0, 0)) (bk BK197.out) hb)
    replace BK198 := am (blk_below (g := gb198) (o := .cells #[.int .i64 a1_0, .int .i64 a1_1, .int .i64 a1_2, .int .i64 a1_3] 23 (0, 0)) (bk BK198.out) hb)
    replace BK213 := am (blk_below (g := gb213) (o := .cells #[.int .i64 0, .slice none 0 0] 35 (0, 0)) (bk BK213.out) hb)
    replace HB := am (below_step (bb HB.out) hb)
    (try clear hb)
    (try clear hb2)
    (try clear hk)
    (try clear hi)
    (try clear ho0)
    refine hK.out _ _ ⟨(blk_cell BK197.out 0).trans rfl, (blk_cell BK197.out 1).trans rfl, (blk_cell BK198.out 0).trans rfl, (blk_cell BK198.out 1).trans rfl, (blk_cell BK198.out 2).trans rfl, (blk_cell BK198.out 3).trans rfl⟩ (fun hHeld => ?_)
    clear hK K
    refine norm_ (a' := ?_) ?_ ?_
    rotate_left
    ·show Act.put _ (some 23) _ = _
     simp only [Act.put, List.setIfInBounds_toArray, List.set_cons_zero, List.set_cons_succ, i64_w, i32_w]
     rfl
    refine one_ (i := 3) (N := some 25) #[true, true, true, true, false, false, false, false, true, false, false] rfl rfl (one_of HT_.out (by kernel_rfl)) (by decide) (fun K hK => ?_)
    refine goes_ Try.func16 (by kernel_rfl) rfl #[.agg #[.int .i64 a1_0, .int .i64 a1_1, .int .i64 a1_2, .int .i64 a1_3]] (by rfl) rfl rfl (by (try simp only [List.map_toArray, List.map_cons, List.map_nil]); first | done | rfl | (simp only [List.length_drop, List.length_take]; rfl)) ?_
    with_reducible refine (laws_toClue.calls a1_0 a1_1 a1_2 a1_3 t204 t205 t206 t207 _ A11.out).mono ?_
    rintro e w25 ⟨rfl, hb⟩
    refine ⟨_, rfl, ?_⟩
    replace HO203 := am (Kd.R_below (br HO203.out) hb)
    replace BK197 := am (blk_below (g := gb197) (o := .cells #[.int .i64 a0_0, .slice A0_1 l0_1.length c0_1] 30 (0, 0)) (bk BK197.out) hb)
    replace BK198 := am (blk_below (g := gb198) (o := .cells #[.int .i64 a1_0, .int .i64 a1_1, .int .i64 a1_2, .int .i64 a1_3] 23 (0, 0)) (bk BK198.out) hb)
    replace BK213 := am (blk_below (g := gb213) (o := .cells #[.int .i64 0, .slice none 0 0] 35 (0, 0)) (bk BK213.out) hb)
    replace HB := am (below_step (bb HB.out) hb)
    (try clear hb)
    (try clear hb2)
    (try clear hk)
    (try clear hi)
    obtain ⟨Ao26, co26, eo26⟩ := Kd.R_slice HO203.out
    (first | subst eo26 | (injection eo26 with f1_ f2_ f3_; have f4_ := f1_.symm; have f5_ := f3_.symm; clear f1_ f2_ f3_; subst f4_; subst f5_))
    refine hK.out _ _ ⟨(blk_cell BK197.out 0).trans rfl, (blk_cell BK197.out 1).trans rfl, (blk_cell BK198.out 0).trans rfl, (blk_cell BK198.out 1).trans rfl, (blk_cell BK198.out 2).trans rfl, (blk_cell BK198.out 3).trans rfl⟩ (fun hHeld => ?_)
    clear hK K
    refine norm_ (a' := ?_) ?_ ?_
    rotate_left
    ·show Act.put _ (some 25) _ = _
     simp only [Act.put, List.setIfInBounds_toArray, List.set_cons_zero, List.set_cons_succ, i64_w, i32_w]
     rfl
    refine one_ (i := 4) (N := some 26) #[true, true, true, true, true, false, false, false, true, false, false] rfl rfl (one_of HT_.out (by kernel_rfl)) (by decide) (fun K hK => ?_)
    refine goes_ Try.func23 (by kernel_rfl) rfl #[.agg #[.int .i64 t200, .slice Ao26 t201.length co26], .agg #[.int .i64 t204, .int .i64 t205, .int .i64 t206, .int .i64 t207]] (by rfl) rfl rfl (by (try simp only [List.map_toArray, List.map_cons, List.map_nil]); first | done | rfl | (simp only [List.length_drop, List.length_take]; rfl)) ?_
    with_reducible refine (spec_AddClue.calls k t200 _ _ t201 t204 t205 t206 t207 t208 t209 t212 _ ?side1 ?side2 A12.out).mono ?_
    (case side1 => repeat (first | exact (Kd.R_reads' HO203.out).2.2 | (with_reducible refine Kd.C_alloc ?_ _) | (with_reducible refine Kd.C_drewN ?_ _) | (with_reducible refine Kd.C_drew ?_)))
    (case side2 => exact (Kd.R_reads' HO203.out).2.1)
    rintro e w27 ⟨v210, rfl, ho0, hb⟩
    refine ⟨_, rfl, ?_⟩
    have n0_ := am (Kd.R_elder' (br HO203.out) (Kd.R_base ho0) hb)
    have n1_ := am (Kd.R_lower (Kd.R_new' ho0 (Kd.R_lt (br HO203.out))) (below_size (bb HB.out)))
    have n2_ := am (blk_below (g := gb197) (o := .cells #[.int .i64 a0_0, .slice A0_1 l0_1.length c0_1] 30 (0, 0)) (bk BK197.out) hb)
    have n3_ := am (blk_below (g := gb198) (o := .cells #[.int .i64 a1_0, .int .i64 a1_1, .int .i64 a1_2, .int .i64 a1_3] 23 (0, 0)) (bk BK198.out) hb)
    have n4_ := am (blk_below (g := gb213) (o := .cells #[.int .i64 0, .slice none 0 0] 35 (0, 0)) (bk BK213.out) hb)
    have n5_ := am (below_step (bb HB.out) hb)
    clear HO203
    clear BK197
    clear BK198
    clear BK213
    clear HB
    have HO203 := n0_
    have HO211 := n1_
    have BK197 := n2_
    have BK198 := n3_
    have BK213 := n4_
    have HB := n5_
    clear n0_ n1_ n2_ n3_ n4_ n5_
    (try clear hb)
    (try clear hb2)
    (try clear hk)
    (try clear hi)
    (try clear ho0)
    refine hK.out _ _ ⟨(blk_cell BK197.out 0).trans rfl, (blk_cell BK197.out 1).trans rfl, (blk_cell BK198.out 0).trans rfl, (blk_cell BK198.out 1).trans rfl, (blk_cell BK198.out 2).trans rfl, (blk_cell BK198.out 3).trans rfl⟩ (fun hHeld => ?_)
    clear hK K
    refine norm_ (a' := ?_) ?_ ?_
    rotate_left
    ·show Act.put _ (some 26) _ = _
     simp only [Act.put, List.setIfInBounds_toArray, List.set_cons_zero, List.set_cons_succ, i64_w, i32_w]
     rfl
    refine pure_ (i := 5) (N := some 21) (v := ?_) (a' := ?_) #[true, true, true, true, true, true, false, false, true, false, false] rfl rfl (any_of HT_.out (by kernel_rfl)) (fun _ _ _ h => h) (Or.inl ⟨by rfl, ?_⟩) ?_ ?_
    rotate_left
    ·intro w'
     go_simp
     with_reducible rfl
    rotate_left
    ·simp only [Act.put, List.setIfInBounds_toArray, List.set_cons_zero, List.set_cons_succ, i64_w, i32_w]
     rfl
    refine pure_ (i := 6) (N := some 27) (v := ?_) (a' := ?_) #[true, true, true, true, true, true, true, false, true, false, false] rfl rfl (any_of HT_.out (by kernel_rfl)) (fun _ _ _ h => h) (Or.inl ⟨by rfl, ?_⟩) ?_ ?_
    rotate_left
    ·intro w'
     go_simp
     with_reducible rfl
    rotate_left
    ·simp only [Act.put, List.setIfInBounds_toArray, List.set_cons_zero, List.set_cons_succ, i64_w, i32_w]
     rfl
    refine pure_ (i := 7) (N := some 28) (v := ?_) (a' := ?_) #[true, true, true, true, true, true, true, true, true, false, false] rfl rfl (any_of HT_.out (by kernel_rfl)) (fun _ _ _ h => h) (Or.inl ⟨by rfl, ?_⟩) ?_ ?_
    rotate_left
    ·intro w'
     go_simp
     with_reducible rfl
    rotate_left
    ·simp only [Act.put, List.setIfInBounds_toArray, List.set_cons_zero, List.set_cons_succ, i64_w, i32_w]
     rfl
    exact norm_ (by simp only [putAll, Act.put, List.setIfInBounds_toArray, List.set_cons_zero, List.set_cons_succ]) (hCont (.slice Ao26 t201.length co26, v210, gb213) _ ⟨hHeld, (by (with_reducible repeat (first | apply Kd.R_alloc | apply Kd.R_drewN | apply Kd.R_drew)); exact Kd.R_mono HO203.out (fun _ hk => hk.2)), (by (with_reducible repeat (first | apply Kd.R_alloc | apply Kd.R_drewN | apply Kd.R_drew)); exact Kd.R_mono HO211.out (fun _ hk => hk.2)), (bk BK197.out), (bk BK198.out), (bk BK213.out), GW213.out, GE213.out, NB197_213.out, NB213_197.out, NB198_213.out, NB213_198.out, (bb HB.out)⟩)
  rintro ⟨v202, v210, gb213⟩ w28 ⟨hS_, h0_, h1_, h2_, h3_, h4_, h5_, h6_, h7_, h8_, h9_, h10_, h11_⟩
  have n0_ : Aside0 (Kd.R k25 25 w28 w.heap.size (fun k_ => some k_ ≠ (v210 : Value).ownBlock) v202 t201) := ⟨h0_⟩
  have n1_ : Aside0 (Kd.R k25 25 w28 w.heap.size (fun k_ => some k_ ≠ (v202 : Value).ownBlock) v210 t209) := ⟨h1_⟩
  have n2_ : Aside0 (w28.heap[gb197]? = some (.cells #[.int .i64 a0_0, .slice A0_1 l0_1.length c0_1] 30 (0, 0))) := ⟨h2_⟩
  have n3_ : Aside0 (w28.heap[gb198]? = some (.cells #[.int .i64 a1_0, .int .i64 a1_1, .int .i64 a1_2, .int .i64 a1_3] 23 (0, 0))) := ⟨h3_⟩
  have n4_ : Aside0 (w28.heap[gb213]? = some (.cells #[.int .i64 0, .slice none 0 0] 35 (0, 0))) := ⟨h4_⟩
  have n5_ : Aside0 (w.heap.size ≤ gb213) := ⟨h5_⟩
  have n6_ : Aside0 (w.heap.size ≤ gb213) := ⟨h6_⟩
  have n7_ : Aside0 (gb197 ≠ gb213) := ⟨h7_⟩
  have n8_ : Aside0 (gb213 ≠ gb197) := ⟨h8_⟩
  have n9_ : Aside0 (gb198 ≠ gb213) := ⟨h9_⟩
  have n10_ : Aside0 (gb213 ≠ gb198) := ⟨h10_⟩
  have n11_ : Aside0 (Below w.heap.size w w28) := ⟨h11_⟩
  clear BK197
  clear BK198
  clear HB
  clear h0_ h1_ h2_ h3_ h4_ h5_ h6_ h7_ h8_ h9_ h10_ h11_
  have HO203 := n0_
  have HO211 := n1_
  have BK197 := n2_
  have BK198 := n3_
  have BK213 := n4_
  have GW213 := n5_
  have GE213 := n6_
  have NB197_213 := n7_
  have NB213_197 := n8_
  have NB198_213 := n9_
  have NB213_198 := n10_
  have HB := n11_
  clear n0_ n1_ n2_ n3_ n4_ n5_ n6_ n7_ n8_ n9_ n10_ n11_
  have hHeld : w28.cell? ⟨gb197, 0, none⟩ = some (.int .i64 a0_0) ∧ w28.cell? ⟨gb197, 1, none⟩ = some (.slice A0_1 l0_1.length c0_1) ∧ w28.cell? ⟨gb198, 0, none⟩ = some (.int .i64 a1_0) ∧ w28.cell? ⟨gb198, 1, none⟩ = some (.int .i64 a1_1) ∧ w28.cell? ⟨gb198, 2, none⟩ = some (.int .i64 a1_2) ∧ w28.cell? ⟨gb198, 3, none⟩ = some (.int .i64 a1_3) := hS_
  obtain ⟨Ao30, co30, eo30⟩ := Kd.R_slice HO211.out
  (first | subst eo30 | (injection eo30 with f1_ f2_ f3_; have f4_ := f1_.symm; have f5_ := f3_.symm; clear f1_ f2_ f3_; subst f4_; subst f5_))
  refine norm_ (a' := ?_) ?_ ?_
  rotate_left
  ·simp only [putAll, Act.put, List.setIfInBounds_toArray, List.set_cons_zero, List.set_cons_succ]
   rfl
  refine one_ (i := 9) (N := none) #[true, true, true, true, true, true, true, true, true, true, false] rfl rfl (one_of HT_.out (by kernel_rfl)) (by decide) (fun K hK => ?_)
  have hs29 : w28.cell? ⟨gb213, 0, none⟩ = some (.int .i64 0) := (blk_cell BK213.out 0).trans rfl
  have hfs29 := blk_frozen BK213.out 0
  have hns29_0 := NB197_213.out
  have hns29_1 := NB198_213.out
  have hms29_0 := NB213_197.out
  have hms29_1 := NB213_198.out
  have hs31 : w28.cell? ⟨gb213, 1, none⟩ = some (.slice none 0 0) := (blk_cell BK213.out 1).trans rfl
  have hfs31 := blk_frozen BK213.out 1
  have hns31_0 := NB197_213.out
  have hns31_1 := NB198_213.out
  have hms31_0 := NB213_197.out
  have hms31_1 := NB213_198.out
  refine skip_ (w1 := ?_) (by rfl) rfl ?_ ?_
  rotate_left
  ·go_simp
   rfl
  refine hK.out _ _ ⟨((cell_far (p := ⟨gb213, _, none⟩) NB197_213.out _).trans (((cell_far (p := ⟨gb213, _, none⟩) NB197_213.out _).trans (hHeld.1)))), ((cell_far (p := ⟨gb213, _, none⟩) NB197_213.out _).trans (((cell_far (p := ⟨gb213, _, none⟩) NB197_213.out _).trans (hHeld.2.1)))), ((cell_far (p := ⟨gb213, _, none⟩) NB198_213.out _).trans (((cell_far (p := ⟨gb213, _, none⟩) NB198_213.out _).trans (hHeld.2.2.1)))), ((cell_far (p := ⟨gb213, _, none⟩) NB198_213.out _).trans (((cell_far (p := ⟨gb213, _, none⟩) NB198_213.out _).trans (hHeld.2.2.2.1)))), ((cell_far (p := ⟨gb213, _, none⟩) NB198_213.out _).trans (((cell_far (p := ⟨gb213, _, none⟩) NB198_213.out _).trans (hHeld.2.2.2.2.1)))), ((cell_far (p := ⟨gb213, _, none⟩) NB198_213.out _).trans (((cell_far (p := ⟨gb213, _, none⟩) NB198_213.out _).trans (hHeld.2.2.2.2.2))))⟩ (fun hHeld => ?_)
  clear hK K
  refine pure_ (i := 10) (N := some 7) (v := ?_) (a' := ?_) #[true, true, true, true, true, true, true, true, true, true, true] rfl rfl (any_of HT_.out (by kernel_rfl)) (fun _ _ _ h => h) (Or.inl ⟨by rfl, ?_⟩) ?_ ?_
  rotate_left
  ·intro w'
   go_simp
   with_reducible rfl
  rotate_left
  ·simp only [Act.put, List.setIfInBounds_toArray, List.set_cons_zero, List.set_cons_succ, i64_w, i32_w]
   rfl
  refine done_ (done_of HT_.out (by kernel_rfl)) ?_
  have hnb32 := NB197_213.out
  have hnc32 := NB213_197.out
  have hcz33_0 : w28.cell? ⟨gb197, 0, none⟩ = some (.int .i64 a0_0) := (blk_cell BK197.out 0).trans rfl
  have hcz33_1 : w28.cell? ⟨gb197, 1, none⟩ = some (.slice A0_1 l0_1.length c0_1) := (blk_cell BK197.out 1).trans rfl
  have hfz33_0 := blk_frozen BK197.out 0
  have hfz33_1 := blk_frozen BK197.out 1
  try go_wp2_with (first | ((with_reducible refine gate_callee (f := 20) rfl ?_); refine goesL_ (some 30) rfl rfl Try.func20 (by kernel_rfl) rfl #[.agg #[.int .i64 a0_0, .slice A0_1 l0_1.length c0_1]] rfl (by (try simp only [List.map_toArray, List.map_cons, List.map_nil]); first | done | rfl | (simp only [List.length_drop, List.length_take]; rfl)) ?_; (with_reducible refine (laws_toPuzzle.calls k a0_0 _ _ l0_1 t214 t215 _ ?side1 ?side2 A13.out).mono ?_); (case side1 => exact Kd.C_below HR0_1.out (bb HB.out)); (case side2 => exact HC0_1.out); rintro e w34 ⟨v216, rfl, ho0, hb⟩; refine ⟨_, rfl, ?_⟩; have n0_ := am (Kd.R_elder' (by (with_reducible repeat (first | apply Kd.R_alloc | apply Kd.R_drewN | apply Kd.R_drew)); exact (Kd.R_mono (Kd.R_far (p := ⟨gb213, 1, none⟩) (Kd.R_far (p := ⟨gb213, 0, none⟩) (Kd.R_types HO203.out BK213.out (by decide)) (fun _ hk => hk.2) (.int .i64 t208)) (fun _ hk => hk.2) (.slice Ao30 t209.length co30)) (fun _ h_ => h_.1))) (Kd.R_base ho0) hb); have n1_ := am (Kd.R_elder' (by (with_reducible repeat (first | apply Kd.R_alloc | apply Kd.R_drewN | apply Kd.R_drew)); exact (Kd.R_mono (Kd.R_far (p := ⟨gb213, 1, none⟩) (Kd.R_far (p := ⟨gb213, 0, none⟩) (Kd.R_types HO211.out BK213.out (by decide)) (fun _ hk => hk.2) (.int .i64 t208)) (fun _ hk => hk.2) (.slice Ao30 t209.length co30)) (fun _ h_ => h_.1))) (Kd.R_base ho0) hb); have n2_ := am (Kd.R_lower (Kd.R_new' (Kd.R_new' ho0 (Kd.R_lt (by (with_reducible repeat (first | apply Kd.R_alloc | apply Kd.R_drewN | apply Kd.R_drew)); exact (Kd.R_mono (Kd.R_far (p := ⟨gb213, 1, none⟩) (Kd.R_far (p := ⟨gb213, 0, none⟩) (Kd.R_types HO203.out BK213.out (by decide)) (fun _ hk => hk.2) (.int .i64 t208)) (fun _ hk => hk.2) (.slice Ao30 t209.length co30)) (fun _ h_ => h_.1))))) (Kd.R_lt (by (with_reducible repeat (first | apply Kd.R_alloc | apply Kd.R_drewN | apply Kd.R_drew)); exact (Kd.R_mono (Kd.R_far (p := ⟨gb213, 1, none⟩) (Kd.R_far (p := ⟨gb213, 0, none⟩) (Kd.R_types HO211.out BK213.out (by decide)) (fun _ hk => hk.2) (.int .i64 t208)) (fun _ hk => hk.2) (.slice Ao30 t209.length co30)) (fun _ h_ => h_.1))))) (below_size (bb HB.out))); have n3_ := am (blk_below (g := gb197) (o := .cells #[.int .i64 a0_0, .slice A0_1 l0_1.length c0_1] 30 (0, 0)) (by (with_reducible repeat (first | apply blk_drewN | apply blk_drew | apply blk_alloc)); refine blk_far ?_ NB197_213.out _; (with_reducible repeat (first | apply blk_drewN | apply blk_drew | apply blk_alloc)); refine blk_far ?_ NB197_213.out _; (with_reducible repeat (first | apply blk_drewN | apply blk_drew | apply blk_alloc)); exact BK197.out) hb); have n4_ := am (blk_below (g := gb198) (o := .cells #[.int .i64 a1_0, .int .i64 a1_1, .int .i64 a1_2, .int .i64 a1_3] 23 (0, 0)) (by (with_reducible repeat (first | apply blk_drewN | apply blk_drew | apply blk_alloc)); refine blk_far ?_ NB198_213.out _; (with_reducible repeat (first | apply blk_drewN | apply blk_drew | apply blk_alloc)); refine blk_far ?_ NB198_213.out _; (with_reducible repeat (first | apply blk_drewN | apply blk_drew | apply blk_alloc)); exact BK198.out) hb); have n5_ := am (blk_below (g := gb213) (o := .cells #[.int .i64 t208, .slice Ao30 t209.length co30] 35 (0, 0)) (by (with_reducible repeat (first | apply blk_drewN | apply blk_drew | apply blk_alloc)); refine blk_put (cs := #[.int .i64 t208, .slice none 0 0]) ?_ 1 _ rfl; (with_reducible repeat (first | apply blk_drewN | apply blk_drew | apply blk_alloc)); refine blk_put (cs := #[.int .i64 0, .slice none 0 0]) ?_ 0 _ rfl; (with_reducible repeat (first | apply blk_drewN | apply blk_drew | apply blk_alloc)); exact BK213.out) hb); have n6_ := am (below_step (bb HB.out) hb); clear HO203; clear HO211; clear BK197; clear BK198; clear BK213; clear HB; have HO203 := n0_; have HO211 := n1_; have HO217 := n2_; have BK197 := n3_; have BK198 := n4_; have BK213 := n5_; have HB := n6_; clear n0_ n1_ n2_ n3_ n4_ n5_ n6_; (try clear hb); (try clear hb2); (try clear hk); (try clear hi); (try clear ho0)) | ((with_reducible refine gate_dst (N := 8) rfl ?_); refine box_event ?hg (N := 8) ?hd (cs := #[.int .i64 0, .slice none 0 0]) (t := 35) ?hr ?_; (case hd => rfl); (case hg => rfl); (case hr => first | (go_simp; done) | (go_simp; rfl)); intro gb218 hg w35 hbox hb; have n0_ := am (Kd.R_below (br HO203.out) hb); have n1_ := am (Kd.R_below (br HO211.out) hb); have n2_ := am (Kd.R_below (br HO217.out) hb); have n3_ := am (blk_below (g := gb197) (o := .cells #[.int .i64 a0_0, .slice A0_1 l0_1.length c0_1] 30 (0, 0)) (bk BK197.out) hb); have n4_ := am (blk_below (g := gb198) (o := .cells #[.int .i64 a1_0, .int .i64 a1_1, .int .i64 a1_2, .int .i64 a1_3] 23 (0, 0)) (bk BK198.out) hb); have n5_ := am (blk_below (g := gb213) (o := .cells #[.int .i64 t208, .slice Ao30 t209.length co30] 35 (0, 0)) (bk BK213.out) hb); have n6_ := am (below_step (bb HB.out) hb); have n7_ := am (hbox); have n8_ := am ((by rw [hg]; exact (below_size (bb HB.out)) : w.heap.size ≤ gb218)); have n9_ := am ((by rw [hg]; exact (below_size (bb HB.out)) : w.heap.size ≤ gb218)); have n10_ := am ((by rw [hg]; exact Nat.ne_of_lt (blk_lt (g := gb197) (o := .cells #[.int .i64 a0_0, .slice A0_1 l0_1.length c0_1] 30 (0, 0)) (bk BK197.out)) : gb197 ≠ gb218)); have n11_ := am ((by rw [hg]; exact Nat.ne_of_gt (blk_lt (g := gb197) (o := .cells #[.int .i64 a0_0, .slice A0_1 l0_1.length c0_1] 30 (0, 0)) (bk BK197.out)) : gb218 ≠ gb197)); have n12_ := am ((by rw [hg]; exact Nat.ne_of_lt (blk_lt (g := gb198) (o := .cells #[.int .i64 a1_0, .int .i64 a1_1, .int .i64 a1_2, .int .i64 a1_3] 23 (0, 0)) (bk BK198.out)) : gb198 ≠ gb218)); have n13_ := am ((by rw [hg]; exact Nat.ne_of_gt (blk_lt (g := gb198) (o := .cells #[.int .i64 a1_0, .int .i64 a1_1, .int .i64 a1_2, .int .i64 a1_3] 23 (0, 0)) (bk BK198.out)) : gb218 ≠ gb198)); have n14_ := am ((by rw [hg]; exact Nat.ne_of_lt (blk_lt (g := gb213) (o := .cells #[.int .i64 t208, .slice Ao30 t209.length co30] 35 (0, 0)) (bk BK213.out)) : gb213 ≠ gb218)); have n15_ := am ((by rw [hg]; exact Nat.ne_of_gt (blk_lt (g := gb213) (o := .cells #[.int .i64 t208, .slice Ao30 t209.length co30] 35 (0, 0)) (bk BK213.out)) : gb218 ≠ gb213)); clear HO203; clear HO211; clear HO217; clear BK197; clear BK198; clear BK213; clear HB; have HO203 := n0_; have HO211 := n1_; have HO217 := n2_; have BK197 := n3_; have BK198 := n4_; have BK213 := n5_; have HB := n6_; have BK218 := n7_; have GW218 := n8_; have GE218 := n9_; have NB197_218 := n10_; have NB218_197 := n11_; have NB198_218 := n12_; have NB218_198 := n13_; have NB213_218 := n14_; have NB218_213 := n15_; clear n0_ n1_ n2_ n3_ n4_ n5_ n6_ n7_ n8_ n9_ n10_ n11_ n12_ n13_ n14_ n15_; clear hb hbox hg; have hnb36 := NB218_197.out; have hnc36 := NB197_218.out; have hnb37 := NB218_198.out; have hnc37 := NB198_218.out; have hnb38 := NB218_213.out; have hnc38 := NB213_218.out; have hcz39_0 : w35.cell? ⟨gb218, 0, none⟩ = some (.int .i64 0) := (blk_cell BK218.out 0).trans rfl; have hcz39_1 : w35.cell? ⟨gb218, 1, none⟩ = some (.slice none 0 0) := (blk_cell BK218.out 1).trans rfl; have hfz39_0 := blk_frozen BK218.out 0; have hfz39_1 := blk_frozen BK218.out 1; obtain ⟨Ao40, co40, eo40⟩ := Kd.R_slice HO217.out; subst eo40))
  have n0_ : Aside0 (Kd.R k25 25 ((w35.setCell ⟨gb218, 0, none⟩ (.int .i64 t214)).setCell ⟨gb218, 1, none⟩ (.slice Ao40 t215.length co40)) w.heap.size (fun k_ => some k_ ≠ (.slice Ao30 t209.length co30 : Value).ownBlock ∧ some k_ ≠ (.slice Ao40 t215.length co40 : Value).ownBlock) v202 t201) := ⟨by (with_reducible repeat (first | apply Kd.R_alloc | apply Kd.R_drewN | apply Kd.R_drew)); exact Kd.R_mono (Kd.R_far (p := ⟨gb218, 1, none⟩) (Kd.R_far (p := ⟨gb218, 0, none⟩) (Kd.R_types HO203.out BK218.out (by decide)) (fun _ hk => hk.2) (.int .i64 t214)) (fun _ hk => hk.2) (.slice Ao40 t215.length co40)) (fun _ hk => ⟨hk.1.1, hk.1.2⟩)⟩
  have n1_ : Aside0 (Kd.R k25 25 ((w35.setCell ⟨gb218, 0, none⟩ (.int .i64 t214)).setCell ⟨gb218, 1, none⟩ (.slice Ao40 t215.length co40)) w.heap.size (fun k_ => some k_ ≠ (v202 : Value).ownBlock ∧ some k_ ≠ (.slice Ao40 t215.length co40 : Value).ownBlock) (.slice Ao30 t209.length co30) t209) := ⟨by (with_reducible repeat (first | apply Kd.R_alloc | apply Kd.R_drewN | apply Kd.R_drew)); exact Kd.R_mono (Kd.R_far (p := ⟨gb218, 1, none⟩) (Kd.R_far (p := ⟨gb218, 0, none⟩) (Kd.R_types HO211.out BK218.out (by decide)) (fun _ hk => hk.2) (.int .i64 t214)) (fun _ hk => hk.2) (.slice Ao40 t215.length co40)) (fun _ hk => ⟨hk.1.1, hk.1.2⟩)⟩
  have n2_ : Aside0 (Kd.R k25 25 ((w35.setCell ⟨gb218, 0, none⟩ (.int .i64 t214)).setCell ⟨gb218, 1, none⟩ (.slice Ao40 t215.length co40)) w.heap.size (fun k_ => some k_ ≠ (v202 : Value).ownBlock ∧ some k_ ≠ (.slice Ao30 t209.length co30 : Value).ownBlock) (.slice Ao40 t215.length co40) t215) := ⟨by (with_reducible repeat (first | apply Kd.R_alloc | apply Kd.R_drewN | apply Kd.R_drew)); exact Kd.R_mono (Kd.R_far (p := ⟨gb218, 1, none⟩) (Kd.R_far (p := ⟨gb218, 0, none⟩) (Kd.R_types HO217.out BK218.out (by decide)) (fun _ hk => hk.2) (.int .i64 t214)) (fun _ hk => hk.2) (.slice Ao40 t215.length co40)) (fun _ hk => ⟨hk.1.1.2, hk.1.2⟩)⟩
  have n3_ : Aside0 (((w35.setCell ⟨gb218, 0, none⟩ (.int .i64 t214)).setCell ⟨gb218, 1, none⟩ (.slice Ao40 t215.length co40)).heap[gb197]? = some (.cells #[.int .i64 a0_0, .slice A0_1 l0_1.length c0_1] 30 (0, 0))) := ⟨by (with_reducible repeat (first | apply blk_drewN | apply blk_drew | apply blk_alloc)); refine blk_far ?_ NB197_218.out _; (with_reducible repeat (first | apply blk_drewN | apply blk_drew | apply blk_alloc)); refine blk_far ?_ NB197_218.out _; (with_reducible repeat (first | apply blk_drewN | apply blk_drew | apply blk_alloc)); exact BK197.out⟩
  have n4_ : Aside0 (((w35.setCell ⟨gb218, 0, none⟩ (.int .i64 t214)).setCell ⟨gb218, 1, none⟩ (.slice Ao40 t215.length co40)).heap[gb198]? = some (.cells #[.int .i64 a1_0, .int .i64 a1_1, .int .i64 a1_2, .int .i64 a1_3] 23 (0, 0))) := ⟨by (with_reducible repeat (first | apply blk_drewN | apply blk_drew | apply blk_alloc)); refine blk_far ?_ NB198_218.out _; (with_reducible repeat (first | apply blk_drewN | apply blk_drew | apply blk_alloc)); refine blk_far ?_ NB198_218.out _; (with_reducible repeat (first | apply blk_drewN | apply blk_drew | apply blk_alloc)); exact BK198.out⟩
  have n5_ : Aside0 (((w35.setCell ⟨gb218, 0, none⟩ (.int .i64 t214)).setCell ⟨gb218, 1, none⟩ (.slice Ao40 t215.length co40)).heap[gb213]? = some (.cells #[.int .i64 t208, .slice Ao30 t209.length co30] 35 (0, 0))) := ⟨by (with_reducible repeat (first | apply blk_drewN | apply blk_drew | apply blk_alloc)); refine blk_far ?_ NB213_218.out _; (with_reducible repeat (first | apply blk_drewN | apply blk_drew | apply blk_alloc)); refine blk_far ?_ NB213_218.out _; (with_reducible repeat (first | apply blk_drewN | apply blk_drew | apply blk_alloc)); exact BK213.out⟩
  have n6_ : Aside0 (((w35.setCell ⟨gb218, 0, none⟩ (.int .i64 t214)).setCell ⟨gb218, 1, none⟩ (.slice Ao40 t215.length co40)).heap[gb218]? = some (.cells #[.int .i64 t214, .slice Ao40 t215.length co40] 35 (0, 0))) := ⟨by (with_reducible repeat (first | apply blk_drewN | apply blk_drew | apply blk_alloc)); refine blk_put (cs := #[.int .i64 t214, .slice none 0 0]) ?_ 1 _ rfl; (with_reducible repeat (first | apply blk_drewN | apply blk_drew | apply blk_alloc)); refine blk_put (cs := #[.int .i64 0, .slice none 0 0]) ?_ 0 _ rfl; (with_reducible repeat (first | apply blk_drewN | apply blk_drew | apply blk_alloc)); exact BK218.out⟩
  have n7_ : Aside0 (Below w.heap.size w ((w35.setCell ⟨gb218, 0, none⟩ (.int .i64 t214)).setCell ⟨gb218, 1, none⟩ (.slice Ao40 t215.length co40))) := ⟨by repeat (first | (with_reducible first | exact HB.out | apply below_alloc | apply pw_below_drewN | apply below_drew1 | refine below_set ?_ GE197.out | refine below_set ?_ GE198.out | refine below_set ?_ GE213.out | refine below_set ?_ GE218.out) | exact HB.out)⟩
  (try clear HO203)
  (try clear HO211)
  (try clear HO217)
  (try clear BK197)
  (try clear BK198)
  (try clear BK213)
  (try clear BK218)
  (try clear HB)
  generalize ((w35.setCell ⟨gb218, 0, none⟩ (.int .i64 t214)).setCell ⟨gb218, 1, none⟩ (.slice Ao40 t215.length co40)) = w41 at n0_ n1_ n2_ n3_ n4_ n5_ n6_ n7_ ⊢
  have HO203 := n0_
  have HO211 := n1_
  have HO217 := n2_
  have BK197 := n3_
  have BK198 := n4_
  have BK213 := n5_
  have BK218 := n6_
  have HB := n7_
  clear n0_ n1_ n2_ n3_ n4_ n5_ n6_ n7_
  replace HO203 := am (Kd.R_drew HO203.out)
  replace HO211 := am (Kd.R_drew HO211.out)
  replace HO217 := am (Kd.R_drew HO217.out)
  replace BK197 := am (blk_drew BK197.out)
  replace BK198 := am (blk_drew BK198.out)
  replace BK213 := am (blk_drew BK213.out)
  replace BK218 := am (blk_drew BK218.out)
  replace HB := am (below_drew1 HB.out)
  refine start_ (n := 10) (S := fun w' => w'.cell? ⟨gb218, 0, none⟩ = some (.int .i64 t214) ∧ w'.cell? ⟨gb218, 1, none⟩ = some (.slice Ao40 t215.length co40) ∧ w'.cell? ⟨gb198, 0, none⟩ = some (.int .i64 a1_0) ∧ w'.cell? ⟨gb198, 1, none⟩ = some (.int .i64 a1_1) ∧ w'.cell? ⟨gb198, 2, none⟩ = some (.int .i64 a1_2) ∧ w'.cell? ⟨gb198, 3, none⟩ = some (.int .i64 a1_3)) (ds := []) #[false, false, false, false, false, false, false, false, false, false] (by kernel_rfl) rfl rfl ⟨(blk_cell BK218.out 0).trans rfl, (blk_cell BK218.out 1).trans rfl, (blk_cell BK198.out 0).trans rfl, (blk_cell BK198.out 1).trans rfl, (blk_cell BK198.out 2).trans rfl, (blk_cell BK198.out 3).trans rfl⟩ (fun hHeld => ?_); refine with_tabW laws_FnExactAddClue.tab7 laws_FnExactAddClue.bits7 (fun HT_ HW_ => ?_)
  generalize w41.drew = w42 at HO203 HO211 HO217 BK197 BK198 BK213 BK218 HB hHeld ⊢
  refine take_ (i := 0) (N := some 32) (v := ?_) (a' := ?_) #[true, false, false, false, false, false, false, false, false, false] rfl rfl (take_ofW HT_.out HW_.out (by kernel_rfl)) (fun _ _ _ h => h) (Or.inl ⟨by rfl, ?_⟩) hHeld ?_ ?_
  rotate_left
  ·rintro w' ⟨s0, s1, s2, s3, s4, s5⟩
   go_simp
   with_reducible rfl
  rotate_left
  ·simp only [Act.put, List.setIfInBounds_toArray, List.set_cons_zero, List.set_cons_succ, i64_w, i32_w]
   rfl
  refine take_ (i := 1) (N := some 33) (v := ?_) (a' := ?_) #[true, true, false, false, false, false, false, false, false, false] rfl rfl (take_ofW HT_.out HW_.out (by kernel_rfl)) (fun _ _ _ h => h) (Or.inl ⟨by rfl, ?_⟩) hHeld ?_ ?_
  rotate_left
  ·rintro w' ⟨s0, s1, s2, s3, s4, s5⟩
   go_simp
   with_reducible rfl
  rotate_left
  ·simp only [Act.put, List.setIfInBounds_toArray, List.set_cons_zero, List.set_cons_succ, i64_w, i32_w]
   rfl
  refine join_ (σ := Value × Nat) 2 #[true, true, true, true, true, true, true, true, false, false] (fun s_ => [(34, .agg #[.int .i64 t219, .int .i64 t220, .int .i64 t221, .int .i64 t222]), (35, .tuple #[.agg #[.int .i64 t223, s_.1], .bool t227]), (9, .pointer (some ⟨s_.2, 0, none⟩)), (31, .tuple #[.agg #[.int .i64 t223, s_.1], .bool t227]), (36, .agg #[.int .i64 t223, s_.1]), (37, .bool t227)]) (fun s_ w' => (w'.cell? ⟨gb218, 0, none⟩ = some (.int .i64 t214) ∧ w'.cell? ⟨gb218, 1, none⟩ = some (.slice Ao40 t215.length co40) ∧ w'.cell? ⟨gb198, 0, none⟩ = some (.int .i64 a1_0) ∧ w'.cell? ⟨gb198, 1, none⟩ = some (.int .i64 a1_1) ∧ w'.cell? ⟨gb198, 2, none⟩ = some (.int .i64 a1_2) ∧ w'.cell? ⟨gb198, 3, none⟩ = some (.int .i64 a1_3)) ∧ (Kd.R k25 25 w' w.heap.size (fun k_ => some k_ ≠ (.slice Ao30 t209.length co30 : Value).ownBlock ∧ some k_ ≠ (.slice Ao40 t215.length co40 : Value).ownBlock ∧ some k_ ≠ (s_.1 : Value).ownBlock) v202 t201) ∧ (Kd.R k25 25 w' w.heap.size (fun k_ => some k_ ≠ (v202 : Value).ownBlock ∧ some k_ ≠ (.slice Ao40 t215.length co40 : Value).ownBlock ∧ some k_ ≠ (s_.1 : Value).ownBlock) (.slice Ao30 t209.length co30) t209) ∧ (Kd.R k25 25 w' w.heap.size (fun k_ => some k_ ≠ (v202 : Value).ownBlock ∧ some k_ ≠ (.slice Ao30 t209.length co30 : Value).ownBlock ∧ some k_ ≠ (s_.1 : Value).ownBlock) (.slice Ao40 t215.length co40) t215) ∧ (Kd.R k25 25 w' w.heap.size (fun k_ => some k_ ≠ (v202 : Value).ownBlock ∧ some k_ ≠ (.slice Ao30 t209.length co30 : Value).ownBlock ∧ some k_ ≠ (.slice Ao40 t215.length co40 : Value).ownBlock) s_.1 t224) ∧ (w'.heap[gb197]? = some (.cells #[.int .i64 a0_0, .slice A0_1 l0_1.length c0_1] 30 (0, 0))) ∧ (w'.heap[gb198]? = some (.cells #[.int .i64 a1_0, .int .i64 a1_1, .int .i64 a1_2, .int .i64 a1_3] 23 (0, 0))) ∧ (w'.heap[gb213]? = some (.cells #[.int .i64 t208, .slice Ao30 t209.length co30] 35 (0, 0))) ∧ (w'.heap[gb218]? = some (.cells #[.int .i64 t214, .slice Ao40 t215.length co40] 35 (0, 0))) ∧ (w'.heap[s_.2]? = some (.cells #[.int .i64 0, .slice none 0 0] 35 (0, 0))) ∧ (w.heap.size ≤ s_.2) ∧ (w.heap.size ≤ s_.2) ∧ (gb197 ≠ s_.2) ∧ (s_.2 ≠ gb197) ∧ (gb198 ≠ s_.2) ∧ (s_.2 ≠ gb198) ∧ (gb213 ≠ s_.2) ∧ (s_.2 ≠ gb213) ∧ (gb218 ≠ s_.2) ∧ (s_.2 ≠ gb218) ∧ (Below w.heap.size w w')) ?_ ?_
  rotate_left
  ·intro hCont
   refine two_ (i := 2) (j := 7) (Ni := some 34) (Nj := some 9) #[true, true, true, false, false, false, false, false, false, false] #[true, true, false, false, false, false, false, true, false, false] rfl rfl rfl rfl (two_of HT_.out (by kernel_rfl)) (by decide) (by decide) (fun K hK => ?_) (fun K hK => ?_)
   ·skip
    refine goes_ Try.func16 (by kernel_rfl) rfl #[.agg #[.int .i64 a1_0, .int .i64 a1_1, .int .i64 a1_2, .int .i64 a1_3]] (by rfl) rfl rfl (by (try simp only [List.map_toArray, List.map_cons, List.map_nil]); first | done | rfl | (simp only [List.length_drop, List.length_take]; rfl)) ?_
    with_reducible refine (laws_toClue.calls a1_0 a1_1 a1_2 a1_3 t219 t220 t221 t222 _ A14.out).mono ?_
    rintro e w43 ⟨rfl, hb⟩
    refine ⟨_, rfl, ?_⟩
    replace HO203 := am (Kd.R_below (br HO203.out) hb)
    replace HO211 := am (Kd.R_below (br HO211.out) hb)
    replace HO217 := am (Kd.R_below (br HO217.out) hb)
    replace BK197 := am (blk_below (g := gb197) (o := .cells #[.int .i64 a0_0, .slice A0_1 l0_1.length c0_1] 30 (0, 0)) (bk BK197.out) hb)
    replace BK198 := am (blk_below (g := gb198) (o := .cells #[.int .i64 a1_0, .int .i64 a1_1, .int .i64 a1_2, .int .i64 a1_3] 23 (0, 0)) (bk BK198.out) hb)
    replace BK213 := am (blk_below (g := gb213) (o := .cells #[.int .i64 t208, .slice Ao30 t209.length co30] 35 (0, 0)) (bk BK213.out) hb)
    replace BK218 := am (blk_below (g := gb218) (o := .cells #[.int .i64 t214, .slice Ao40 t215.length co40] 35 (0, 0)) (bk BK218.out) hb)
    replace HB := am (below_step (bb HB.out) hb)
    (try clear hb)
    (try clear hb2)
    (try clear hk)
    (try clear hi)
    refine hK.out _ _ ⟨(blk_cell BK218.out 0).trans rfl, (blk_cell BK218.out 1).trans rfl, (blk_cell BK198.out 0).trans rfl, (blk_cell BK198.out 1).trans rfl, (blk_cell BK198.out 2).trans rfl, (blk_cell BK198.out 3).trans rfl⟩ (fun hHeld => ?_)
    clear hK K
    refine norm_ (a' := ?_) ?_ ?_
    rotate_left
    ·show Act.put _ (some 34) _ = _
     simp only [Act.put, List.setIfInBounds_toArray, List.set_cons_zero, List.set_cons_succ, i64_w, i32_w]
     rfl
    refine two_ (i := 3) (j := 7) (Ni := some 35) (Nj := some 9) #[true, true, true, true, false, false, false, false, false, false] #[true, true, true, false, false, false, false, true, false, false] rfl rfl rfl rfl (two_of HT_.out (by kernel_rfl)) (by decide) (by decide) (fun K hK => ?_) (fun K hK => ?_)
    ·skip
     refine goes_ Try.func24 (by kernel_rfl) rfl #[.agg #[.int .i64 t214, .slice Ao40 t215.length co40], .agg #[.int .i64 t219, .int .i64 t220, .int .i64 t221, .int .i64 t222]] (by rfl) rfl rfl (by (try simp only [List.map_toArray, List.map_cons, List.map_nil]); first | done | rfl | (simp only [List.length_drop, List.length_take]; rfl)) ?_
     with_reducible refine (impl_AddClue.calls k t214 _ _ t215 t219 t220 t221 t222 t223 t224 t227 _ ?side1 ?side2 A15.out).mono ?_
     (case side1 => repeat (first | exact (Kd.R_reads' HO217.out).2.2 | (with_reducible refine Kd.C_alloc ?_ _) | (with_reducible refine Kd.C_drewN ?_ _) | (with_reducible refine Kd.C_drew ?_)))
     (case side2 => exact (Kd.R_reads' HO217.out).2.1)
     rintro e w44 ⟨v225, rfl, ho0, hb⟩
     refine ⟨_, rfl, ?_⟩
     have n0_ := am (Kd.R_elder' (br HO203.out) (Kd.R_base ho0) hb)
     have n1_ := am (Kd.R_elder' (br HO211.out) (Kd.R_base ho0) hb)
     have n2_ := am (Kd.R_elder' (br HO217.out) (Kd.R_base ho0) hb)
     have n3_ := am (Kd.R_lower (Kd.R_new' (Kd.R_new' (Kd.R_new' ho0 (Kd.R_lt (br HO203.out))) (Kd.R_lt (br HO211.out))) (Kd.R_lt (br HO217.out))) (below_size (bb HB.out)))
     have n4_ := am (blk_below (g := gb197) (o := .cells #[.int .i64 a0_0, .slice A0_1 l0_1.length c0_1] 30 (0, 0)) (bk BK197.out) hb)
     have n5_ := am (blk_below (g := gb198) (o := .cells #[.int .i64 a1_0, .int .i64 a1_1, .int .i64 a1_2, .int .i64 a1_3] 23 (0, 0)) (bk BK198.out) hb)
     have n6_ := am (blk_below (g := gb213) (o := .cells #[.int .i64 t208, .slice Ao30 t209.length co30] 35 (0, 0)) (bk BK213.out) hb)
     have n7_ := am (blk_below (g := gb218) (o := .cells #[.int .i64 t214, .slice Ao40 t215.length co40] 35 (0, 0)) (bk BK218.out) hb)
     have n8_ := am (below_step (bb HB.out) hb)
     clear HO203
     clear HO211
     clear HO217
     clear BK197
     clear BK198
     clear BK213
     clear BK218
     clear HB
     have HO203 := n0_
     have HO211 := n1_
     have HO217 := n2_
     have HO226 := n3_
     have BK197 := n4_
     have BK198 := n5_
     have BK213 := n6_
     have BK218 := n7_
     have HB := n8_
     clear n0_ n1_ n2_ n3_ n4_ n5_ n6_ n7_ n8_
     (try clear hb)
     (try clear hb2)
     (try clear hk)
     (try clear hi)
     (try clear ho0)
     refine hK.out _ _ ⟨(blk_cell BK218.out 0).trans rfl, (blk_cell BK218.out 1).trans rfl, (blk_cell BK198.out 0).trans rfl, (blk_cell BK198.out 1).trans rfl, (blk_cell BK198.out 2).trans rfl, (blk_cell BK198.out 3).trans rfl⟩ (fun hHeld => ?_)
     clear hK K
     refine norm_ (a' := ?_) ?_ ?_
     rotate_left
     ·show Act.put _ (some 35) _ = _
      simp only [Act.put, List.setIfInBounds_toArray, List.set_cons_zero, List.set_cons_succ, i64_w, i32_w]
      rfl
     refine pure_ (i := 4) (N := some 31) (v := ?_) (a' := ?_) #[true, true, true, true, true, false, false, false, false, false] rfl rfl (any_of HT_.out (by kernel_rfl)) (fun _ _ _ h => h) (Or.inl ⟨by rfl, ?_⟩) ?_ ?_
     rotate_left
     ·intro w'
      go_simp
      with_reducible rfl
     rotate_left
     ·simp only [Act.put, List.setIfInBounds_toArray, List.set_cons_zero, List.set_cons_succ, i64_w, i32_w]
      rfl
     refine pure_ (i := 5) (N := some 36) (v := ?_) (a' := ?_) #[true, true, true, true, true, true, false, false, false, false] rfl rfl (any_of HT_.out (by kernel_rfl)) (fun _ _ _ h => h) (Or.inl ⟨by rfl, ?_⟩) ?_ ?_
     rotate_left
     ·intro w'
      go_simp
      with_reducible rfl
     rotate_left
     ·simp only [Act.put, List.setIfInBounds_toArray, List.set_cons_zero, List.set_cons_succ, i64_w, i32_w]
      rfl
     refine pure_ (i := 6) (N := some 37) (v := ?_) (a' := ?_) #[true, true, true, true, true, true, true, false, false, false] rfl rfl (any_of HT_.out (by kernel_rfl)) (fun _ _ _ h => h) (Or.inl ⟨by rfl, ?_⟩) ?_ ?_
     rotate_left
     ·intro w'
      go_simp
      with_reducible rfl
     rotate_left
     ·simp only [Act.put, List.setIfInBounds_toArray, List.set_cons_zero, List.set_cons_succ, i64_w, i32_w]
      rfl
     refine one_ (i := 7) (N := some 9) #[true, true, true, true, true, true, true, true, false, false] rfl rfl (one_of HT_.out (by kernel_rfl)) (by decide) (fun K hK => ?_)
     refine box_step ?hg (N := 9) ?hd (cs := #[.int .i64 0, .slice none 0 0]) (t := 35) ?hr ?_; (case hd => rfl); (case hg => rfl); (case hr => first | (go_simp; done) | (go_simp; rfl))
     intro gb228 hg w45 hbox hb
     have n0_ := am (Kd.R_below (br HO203.out) hb)
     have n1_ := am (Kd.R_below (br HO211.out) hb)
     have n2_ := am (Kd.R_below (br HO217.out) hb)
     have n3_ := am (Kd.R_below (br HO226.out) hb)
     have n4_ := am (blk_below (g := gb197) (o := .cells #[.int .i64 a0_0, .slice A0_1 l0_1.length c0_1] 30 (0, 0)) (bk BK197.out) hb)
     have n5_ := am (blk_below (g := gb198) (o := .cells #[.int .i64 a1_0, .int .i64 a1_1, .int .i64 a1_2, .int .i64 a1_3] 23 (0, 0)) (bk BK198.out) hb)
     have n6_ := am (blk_below (g := gb213) (o := .cells #[.int .i64 t208, .slice Ao30 t209.length co30] 35 (0, 0)) (bk BK213.out) hb)
     have n7_ := am (blk_below (g := gb218) (o := .cells #[.int .i64 t214, .slice Ao40 t215.length co40] 35 (0, 0)) (bk BK218.out) hb)
     have n8_ := am (below_step (bb HB.out) hb)
     have n9_ := am (hbox)
     have n10_ := am ((by rw [hg]; exact (below_size (bb HB.out)) : w.heap.size ≤ gb228))
     have n11_ := am ((by rw [hg]; exact (below_size (bb HB.out)) : w.heap.size ≤ gb228))
     have n12_ := am ((by rw [hg]; exact Nat.ne_of_lt (blk_lt (g := gb197) (o := .cells #[.int .i64 a0_0, .slice A0_1 l0_1.length c0_1] 30 (0, 0)) (bk BK197.out)) : gb197 ≠ gb228))
     have n13_ := am ((by rw [hg]; exact Nat.ne_of_gt (blk_lt (g := gb197) (o := .cells #[.int .i64 a0_0, .slice A0_1 l0_1.length c0_1] 30 (0, 0)) (bk BK197.out)) : gb228 ≠ gb197))
     have n14_ := am ((by rw [hg]; exact Nat.ne_of_lt (blk_lt (g := gb198) (o := .cells #[.int .i64 a1_0, .int .i64 a1_1, .int .i64 a1_2, .int .i64 a1_3] 23 (0, 0)) (bk BK198.out)) : gb198 ≠ gb228))
     have n15_ := am ((by rw [hg]; exact Nat.ne_of_gt (blk_lt (g := gb198) (o := .cells #[.int .i64 a1_0, .int .i64 a1_1, .int .i64 a1_2, .int .i64 a1_3] 23 (0, 0)) (bk BK198.out)) : gb228 ≠ gb198))
     have n16_ := am ((by rw [hg]; exact Nat.ne_of_lt (blk_lt (g := gb213) (o := .cells #[.int .i64 t208, .slice Ao30 t209.length co30] 35 (0, 0)) (bk BK213.out)) : gb213 ≠ gb228))
     have n17_ := am ((by rw [hg]; exact Nat.ne_of_gt (blk_lt (g := gb213) (o := .cells #[.int .i64 t208, .slice Ao30 t209.length co30] 35 (0, 0)) (bk BK213.out)) : gb228 ≠ gb213))
     have n18_ := am ((by rw [hg]; exact Nat.ne_of_lt (blk_lt (g := gb218) (o := .cells #[.int .i64 t214, .slice Ao40 t215.length co40] 35 (0, 0)) (bk BK218.out)) : gb218 ≠ gb228))
     have n19_ := am ((by rw [hg]; exact Nat.ne_of_gt (blk_lt (g := gb218) (o := .cells #[.int .i64 t214, .slice Ao40 t215.length co40] 35 (0, 0)) (bk BK218.out)) : gb228 ≠ gb218))
     clear HO203
     clear HO211
     clear HO217
     clear HO226
     clear BK197
     clear BK198
     clear BK213
     clear BK218
     clear HB
     have HO203 := n0_
     have HO211 := n1_
     have HO217 := n2_
     have HO226 := n3_
     have BK197 := n4_
     have BK198 := n5_
     have BK213 := n6_
     have BK218 := n7_
     have HB := n8_
     have BK228 := n9_
     have GW228 := n10_
     have GE228 := n11_
     have NB197_228 := n12_
     have NB228_197 := n13_
     have NB198_228 := n14_
     have NB228_198 := n15_
     have NB213_228 := n16_
     have NB228_213 := n17_
     have NB218_228 := n18_
     have NB228_218 := n19_
     clear n0_ n1_ n2_ n3_ n4_ n5_ n6_ n7_ n8_ n9_ n10_ n11_ n12_ n13_ n14_ n15_ n16_ n17_ n18_ n19_
     clear hb hbox hg
     refine hK.out _ _ ⟨(blk_cell BK218.out 0).trans rfl, (blk_cell BK218.out 1).trans rfl, (blk_cell BK198.out 0).trans rfl, (blk_cell BK198.out 1).trans rfl, (blk_cell BK198.out 2).trans rfl, (blk_cell BK198.out 3).trans rfl⟩ (fun hHeld => ?_)
     clear hK K
     refine norm_ (a' := ?_) ?_ ?_
     rotate_left
     ·show Act.put _ (some 9) _ = _
      simp only [Act.put, List.setIfInBounds_toArray, List.set_cons_zero, List.set_cons_succ, i64_w, i32_w]
      rfl
     exact norm_ (by simp only [putAll, Act.put, List.setIfInBounds_toArray, List.set_cons_zero, List.set_cons_succ]) (hCont (v225, gb228) _ ⟨hHeld, (by (with_reducible repeat (first | apply Kd.R_alloc | apply Kd.R_drewN | apply Kd.R_drew)); exact Kd.R_mono HO203.out (fun _ hk => ⟨hk.1.1, ⟨hk.1.2, hk.2⟩⟩)), (by (with_reducible repeat (first | apply Kd.R_alloc | apply Kd.R_drewN | apply Kd.R_drew)); exact Kd.R_mono HO211.out (fun _ hk => ⟨hk.1.1, ⟨hk.1.2, hk.2⟩⟩)), (by (with_reducible repeat (first | apply Kd.R_alloc | apply Kd.R_drewN | apply Kd.R_drew)); exact Kd.R_mono HO217.out (fun _ hk => ⟨hk.1.1, ⟨hk.1.2, hk.2⟩⟩)), (by (with_reducible repeat (first | apply Kd.R_alloc | apply Kd.R_drewN | apply Kd.R_drew)); exact Kd.R_mono HO226.out (fun _ hk => ⟨hk.1.1.2, ⟨hk.1.2, hk.2⟩⟩)), (bk BK197.out), (bk BK198.out), (bk BK213.out), (bk BK218.out), (bk BK228.out), GW228.out, GE228.out, NB197_228.out, NB228_197.out, NB198_228.out, NB228_198.out, NB213_228.out, NB228_213.out, NB218_228.out, NB228_218.out, (bb HB.out)⟩)
    ·skip
     refine box_step ?hg (N := 9) ?hd (cs := #[.int .i64 0, .slice none 0 0]) (t := 35) ?hr ?_; (case hd => rfl); (case hg => rfl); (case hr => first | (go_simp; done) | (go_simp; rfl))
     intro gb228 hg w44 hbox hb
     have n0_ := am (Kd.R_below (br HO203.out) hb)
     have n1_ := am (Kd.R_below (br HO211.out) hb)
     have n2_ := am (Kd.R_below (br HO217.out) hb)
     have n3_ := am (blk_below (g := gb197) (o := .cells #[.int .i64 a0_0, .slice A0_1 l0_1.length c0_1] 30 (0, 0)) (bk BK197.out) hb)
     have n4_ := am (blk_below (g := gb198) (o := .cells #[.int .i64 a1_0, .int .i64 a1_1, .int .i64 a1_2, .int .i64 a1_3] 23 (0, 0)) (bk BK198.out) hb)
     have n5_ := am (blk_below (g := gb213) (o := .cells #[.int .i64 t208, .slice Ao30 t209.length co30] 35 (0, 0)) (bk BK213.out) hb)
     have n6_ := am (blk_below (g := gb218) (o := .cells #[.int .i64 t214, .slice Ao40 t215.length co40] 35 (0, 0)) (bk BK218.out) hb)
     have n7_ := am (below_step (bb HB.out) hb)
     have n8_ := am (hbox)
     have n9_ := am ((by rw [hg]; exact (below_size (bb HB.out)) : w.heap.size ≤ gb228))
     have n10_ := am ((by rw [hg]; exact (below_size (bb HB.out)) : w.heap.size ≤ gb228))
     have n11_ := am ((by rw [hg]; exact Nat.ne_of_lt (blk_lt (g := gb197) (o := .cells #[.int .i64 a0_0, .slice A0_1 l0_1.length c0_1] 30 (0, 0)) (bk BK197.out)) : gb197 ≠ gb228))
     have n12_ := am ((by rw [hg]; exact Nat.ne_of_gt (blk_lt (g := gb197) (o := .cells #[.int .i64 a0_0, .slice A0_1 l0_1.length c0_1] 30 (0, 0)) (bk BK197.out)) : gb228 ≠ gb197))
     have n13_ := am ((by rw [hg]; exact Nat.ne_of_lt (blk_lt (g := gb198) (o := .cells #[.int .i64 a1_0, .int .i64 a1_1, .int .i64 a1_2, .int .i64 a1_3] 23 (0, 0)) (bk BK198.out)) : gb198 ≠ gb228))
     have n14_ := am ((by rw [hg]; exact Nat.ne_of_gt (blk_lt (g := gb198) (o := .cells #[.int .i64 a1_0, .int .i64 a1_1, .int .i64 a1_2, .int .i64 a1_3] 23 (0, 0)) (bk BK198.out)) : gb228 ≠ gb198))
     have n15_ := am ((by rw [hg]; exact Nat.ne_of_lt (blk_lt (g := gb213) (o := .cells #[.int .i64 t208, .slice Ao30 t209.length co30] 35 (0, 0)) (bk BK213.out)) : gb213 ≠ gb228))
     have n16_ := am ((by rw [hg]; exact Nat.ne_of_gt (blk_lt (g := gb213) (o := .cells #[.int .i64 t208, .slice Ao30 t209.length co30] 35 (0, 0)) (bk BK213.out)) : gb228 ≠ gb213))
     have n17_ := am ((by rw [hg]; exact Nat.ne_of_lt (blk_lt (g := gb218) (o := .cells #[.int .i64 t214, .slice Ao40 t215.length co40] 35 (0, 0)) (bk BK218.out)) : gb218 ≠ gb228))
     have n18_ := am ((by rw [hg]; exact Nat.ne_of_gt (blk_lt (g := gb218) (o := .cells #[.int .i64 t214, .slice Ao40 t215.length co40] 35 (0, 0)) (bk BK218.out)) : gb228 ≠ gb218))
     clear HO203
     clear HO211
     clear HO217
     clear BK197
     clear BK198
     clear BK213
     clear BK218
     clear HB
     have HO203 := n0_
     have HO211 := n1_
     have HO217 := n2_
     have BK197 := n3_
     have BK198 := n4_
     have BK213 := n5_
     have BK218 := n6_
     have HB := n7_
     have BK228 := n8_
     have GW228 := n9_
     have GE228 := n10_
     have NB197_228 := n11_
     have NB228_197 := n12_
     have NB198_228 := n13_
     have NB228_198 := n14_
     have NB213_228 := n15_
     have NB228_213 := n16_
     have NB218_228 := n17_
     have NB228_218 := n18_
     clear n0_ n1_ n2_ n3_ n4_ n5_ n6_ n7_ n8_ n9_ n10_ n11_ n12_ n13_ n14_ n15_ n16_ n17_ n18_
     clear hb hbox hg
     refine hK.out _ _ ⟨(blk_cell BK218.out 0).trans rfl, (blk_cell BK218.out 1).trans rfl, (blk_cell BK198.out 0).trans rfl, (blk_cell BK198.out 1).trans rfl, (blk_cell BK198.out 2).trans rfl, (blk_cell BK198.out 3).trans rfl⟩ (fun hHeld => ?_)
     clear hK K
     refine norm_ (a' := ?_) ?_ ?_
     rotate_left
     ·show Act.put _ (some 9) _ = _
      simp only [Act.put, List.setIfInBounds_toArray, List.set_cons_zero, List.set_cons_succ, i64_w, i32_w]
      rfl
     refine one_ (i := 3) (N := some 35) #[true, true, true, true, false, false, false, true, false, false] rfl rfl (one_of HT_.out (by kernel_rfl)) (by decide) (fun K hK => ?_)
     refine goes_ Try.func24 (by kernel_rfl) rfl #[.agg #[.int .i64 t214, .slice Ao40 t215.length co40], .agg #[.int .i64 t219, .int .i64 t220, .int .i64 t221, .int .i64 t222]] (by rfl) rfl rfl (by (try simp only [List.map_toArray, List.map_cons, List.map_nil]); first | done | rfl | (simp only [List.length_drop, List.length_take]; rfl)) ?_
     with_reducible refine (impl_AddClue.calls k t214 _ _ t215 t219 t220 t221 t222 t223 t224 t227 _ ?side1 ?side2 A15.out).mono ?_
     (case side1 => repeat (first | exact (Kd.R_reads' HO217.out).2.2 | (with_reducible refine Kd.C_alloc ?_ _) | (with_reducible refine Kd.C_drewN ?_ _) | (with_reducible refine Kd.C_drew ?_)))
     (case side2 => exact (Kd.R_reads' HO217.out).2.1)
     rintro e w45 ⟨v225, rfl, ho0, hb⟩
     refine ⟨_, rfl, ?_⟩
     have n0_ := am (Kd.R_elder' (br HO203.out) (Kd.R_base ho0) hb)
     have n1_ := am (Kd.R_elder' (br HO211.out) (Kd.R_base ho0) hb)
     have n2_ := am (Kd.R_elder' (br HO217.out) (Kd.R_base ho0) hb)
     have n3_ := am (Kd.R_lower (Kd.R_new' (Kd.R_new' (Kd.R_new' ho0 (Kd.R_lt (br HO203.out))) (Kd.R_lt (br HO211.out))) (Kd.R_lt (br HO217.out))) (below_size (bb HB.out)))
     have n4_ := am (blk_below (g := gb197) (o := .cells #[.int .i64 a0_0, .slice A0_1 l0_1.length c0_1] 30 (0, 0)) (bk BK197.out) hb)
     have n5_ := am (blk_below (g := gb198) (o := .cells #[.int .i64 a1_0, .int .i64 a1_1, .int .i64 a1_2, .int .i64 a1_3] 23 (0, 0)) (bk BK198.out) hb)
     have n6_ := am (blk_below (g := gb213) (o := .cells #[.int .i64 t208, .slice Ao30 t209.length co30] 35 (0, 0)) (bk BK213.out) hb)
     have n7_ := am (blk_below (g := gb218) (o := .cells #[.int .i64 t214, .slice Ao40 t215.length co40] 35 (0, 0)) (bk BK218.out) hb)
     have n8_ := am (blk_below (g := gb228) (o := .cells #[.int .i64 0, .slice none 0 0] 35 (0, 0)) (bk BK228.out) hb)
     have n9_ := am (below_step (bb HB.out) hb)
     clear HO203
     clear HO211
     clear HO217
     clear BK197
     clear BK198
     clear BK213
     clear BK218
     clear BK228
     clear HB
     have HO203 := n0_
     have HO211 := n1_
     have HO217 := n2_
     have HO226 := n3_
     have BK197 := n4_
     have BK198 := n5_
     have BK213 := n6_
     have BK218 := n7_
     have BK228 := n8_
     have HB := n9_
     clear n0_ n1_ n2_ n3_ n4_ n5_ n6_ n7_ n8_ n9_
     (try clear hb)
     (try clear hb2)
     (try clear hk)
     (try clear hi)
     (try clear ho0)
     refine hK.out _ _ ⟨(blk_cell BK218.out 0).trans rfl, (blk_cell BK218.out 1).trans rfl, (blk_cell BK198.out 0).trans rfl, (blk_cell BK198.out 1).trans rfl, (blk_cell BK198.out 2).trans rfl, (blk_cell BK198.out 3).trans rfl⟩ (fun hHeld => ?_)
     clear hK K
     refine norm_ (a' := ?_) ?_ ?_
     rotate_left
     ·show Act.put _ (some 35) _ = _
      simp only [Act.put, List.setIfInBounds_toArray, List.set_cons_zero, List.set_cons_succ, i64_w, i32_w]
      rfl
     refine pure_ (i := 4) (N := some 31) (v := ?_) (a' := ?_) #[true, true, true, true, true, false, false, true, false, false] rfl rfl (any_of HT_.out (by kernel_rfl)) (fun _ _ _ h => h) (Or.inl ⟨by rfl, ?_⟩) ?_ ?_
     rotate_left
     ·intro w'
      go_simp
      with_reducible rfl
     rotate_left
     ·simp only [Act.put, List.setIfInBounds_toArray, List.set_cons_zero, List.set_cons_succ, i64_w, i32_w]
      rfl
     refine pure_ (i := 5) (N := some 36) (v := ?_) (a' := ?_) #[true, true, true, true, true, true, false, true, false, false] rfl rfl (any_of HT_.out (by kernel_rfl)) (fun _ _ _ h => h) (Or.inl ⟨by rfl, ?_⟩) ?_ ?_
     rotate_left
     ·intro w'
      go_simp
      with_reducible rfl
     rotate_left
     ·simp only [Act.put, List.setIfInBounds_toArray, List.set_cons_zero, List.set_cons_succ, i64_w, i32_w]
      rfl
     refine pure_ (i := 6) (N := some 37) (v := ?_) (a' := ?_) #[true, true, true, true, true, true, true, true, false, false] rfl rfl (any_of HT_.out (by kernel_rfl)) (fun _ _ _ h => h) (Or.inl ⟨by rfl, ?_⟩) ?_ ?_
     rotate_left
     ·intro w'
      go_simp
      with_reducible rfl
     rotate_left
     ·simp only [Act.put, List.setIfInBounds_toArray, List.set_cons_zero, List.set_cons_succ, i64_w, i32_w]
      rfl
     exact norm_ (by simp only [putAll, Act.put, List.setIfInBounds_toArray, List.set_cons_zero, List.set_cons_succ]) (hCont (v225, gb228) _ ⟨hHeld, (by (with_reducible repeat (first | apply Kd.R_alloc | apply Kd.R_drewN | apply Kd.R_drew)); exact Kd.R_mono HO203.out (fun _ hk => ⟨hk.1.1, ⟨hk.1.2, hk.2⟩⟩)), (by (with_reducible repeat (first | apply Kd.R_alloc | apply Kd.R_drewN | apply Kd.R_drew)); exact Kd.R_mono HO211.out (fun _ hk => ⟨hk.1.1, ⟨hk.1.2, hk.2⟩⟩)), (by (with_reducible repeat (first | apply Kd.R_alloc | apply Kd.R_drewN | apply Kd.R_drew)); exact Kd.R_mono HO217.out (fun _ hk => ⟨hk.1.1, ⟨hk.1.2, hk.2⟩⟩)), (by (with_reducible repeat (first | apply Kd.R_alloc | apply Kd.R_drewN | apply Kd.R_drew)); exact Kd.R_mono HO226.out (fun _ hk => ⟨hk.1.1.2, ⟨hk.1.2, hk.2⟩⟩)), (bk BK197.out), (bk BK198.out), (bk BK213.out), (bk BK218.out), (bk BK228.out), GW228.out, GE228.out, NB197_228.out, NB228_197.out, NB198_228.out, NB228_198.out, NB213_228.out, NB228_213.out, NB218_228.out, NB228_218.out, (bb HB.out)⟩)
   ·skip
    refine box_step ?hg (N := 9) ?hd (cs := #[.int .i64 0, .slice none 0 0]) (t := 35) ?hr ?_; (case hd => rfl); (case hg => rfl); (case hr => first | (go_simp; done) | (go_simp; rfl))
    intro gb228 hg w43 hbox hb
    have n0_ := am (Kd.R_below (br HO203.out) hb)
    have n1_ := am (Kd.R_below (br HO211.out) hb)
    have n2_ := am (Kd.R_below (br HO217.out) hb)
    have n3_ := am (blk_below (g := gb197) (o := .cells #[.int .i64 a0_0, .slice A0_1 l0_1.length c0_1] 30 (0, 0)) (bk BK197.out) hb)
    have n4_ := am (blk_below (g := gb198) (o := .cells #[.int .i64 a1_0, .int .i64 a1_1, .int .i64 a1_2, .int .i64 a1_3] 23 (0, 0)) (bk BK198.out) hb)
    have n5_ := am (blk_below (g := gb213) (o := .cells #[.int .i64 t208, .slice Ao30 t209.length co30] 35 (0, 0)) (bk BK213.out) hb)
    have n6_ := am (blk_below (g := gb218) (o := .cells #[.int .i64 t214, .slice Ao40 t215.length co40] 35 (0, 0)) (bk BK218.out) hb)
    have n7_ := am (below_step (bb HB.out) hb)
    have n8_ := am (hbox)
    have n9_ := am ((by rw [hg]; exact (below_size (bb HB.out)) : w.heap.size ≤ gb228))
    have n10_ := am ((by rw [hg]; exact (below_size (bb HB.out)) : w.heap.size ≤ gb228))
    have n11_ := am ((by rw [hg]; exact Nat.ne_of_lt (blk_lt (g := gb197) (o := .cells #[.int .i64 a0_0, .slice A0_1 l0_1.length c0_1] 30 (0, 0)) (bk BK197.out)) : gb197 ≠ gb228))
    have n12_ := am ((by rw [hg]; exact Nat.ne_of_gt (blk_lt (g := gb197) (o := .cells #[.int .i64 a0_0, .slice A0_1 l0_1.length c0_1] 30 (0, 0)) (bk BK197.out)) : gb228 ≠ gb197))
    have n13_ := am ((by rw [hg]; exact Nat.ne_of_lt (blk_lt (g := gb198) (o := .cells #[.int .i64 a1_0, .int .i64 a1_1, .int .i64 a1_2, .int .i64 a1_3] 23 (0, 0)) (bk BK198.out)) : gb198 ≠ gb228))
    have n14_ := am ((by rw [hg]; exact Nat.ne_of_gt (blk_lt (g := gb198) (o := .cells #[.int .i64 a1_0, .int .i64 a1_1, .int .i64 a1_2, .int .i64 a1_3] 23 (0, 0)) (bk BK198.out)) : gb228 ≠ gb198))
    have n15_ := am ((by rw [hg]; exact Nat.ne_of_lt (blk_lt (g := gb213) (o := .cells #[.int .i64 t208, .slice Ao30 t209.length co30] 35 (0, 0)) (bk BK213.out)) : gb213 ≠ gb228))
    have n16_ := am ((by rw [hg]; exact Nat.ne_of_gt (blk_lt (g := gb213) (o := .cells #[.int .i64 t208, .slice Ao30 t209.length co30] 35 (0, 0)) (bk BK213.out)) : gb228 ≠ gb213))
    have n17_ := am ((by rw [hg]; exact Nat.ne_of_lt (blk_lt (g := gb218) (o := .cells #[.int .i64 t214, .slice Ao40 t215.length co40] 35 (0, 0)) (bk BK218.out)) : gb218 ≠ gb228))
    have n18_ := am ((by rw [hg]; exact Nat.ne_of_gt (blk_lt (g := gb218) (o := .cells #[.int .i64 t214, .slice Ao40 t215.length co40] 35 (0, 0)) (bk BK218.out)) : gb228 ≠ gb218))
    clear HO203
    clear HO211
    clear HO217
    clear BK197
    clear BK198
    clear BK213
    clear BK218
    clear HB
    have HO203 := n0_
    have HO211 := n1_
    have HO217 := n2_
    have BK197 := n3_
    have BK198 := n4_
    have BK213 := n5_
    have BK218 := n6_
    have HB := n7_
    have BK228 := n8_
    have GW228 := n9_
    have GE228 := n10_
    have NB197_228 := n11_
    have NB228_197 := n12_
    have NB198_228 := n13_
    have NB228_198 := n14_
    have NB213_228 := n15_
    have NB228_213 := n16_
    have NB218_228 := n17_
    have NB228_218 := n18_
    clear n0_ n1_ n2_ n3_ n4_ n5_ n6_ n7_ n8_ n9_ n10_ n11_ n12_ n13_ n14_ n15_ n16_ n17_ n18_
    clear hb hbox hg
    refine hK.out _ _ ⟨(blk_cell BK218.out 0).trans rfl, (blk_cell BK218.out 1).trans rfl, (blk_cell BK198.out 0).trans rfl, (blk_cell BK198.out 1).trans rfl, (blk_cell BK198.out 2).trans rfl, (blk_cell BK198.out 3).trans rfl⟩ (fun hHeld => ?_)
    clear hK K
    refine norm_ (a' := ?_) ?_ ?_
    rotate_left
    ·show Act.put _ (some 9) _ = _
     simp only [Act.put, List.setIfInBounds_toArray, List.set_cons_zero, List.set_cons_succ, i64_w, i32_w]
     rfl
    refine one_ (i := 2) (N := some 34) #[true, true, true, false, false, false, false, true, false, false] rfl rfl (one_of HT_.out (by kernel_rfl)) (by decide) (fun K hK => ?_)
    refine goes_ Try.func16 (by kernel_rfl) rfl #[.agg #[.int .i64 a1_0, .int .i64 a1_1, .int .i64 a1_2, .int .i64 a1_3]] (by rfl) rfl rfl (by (try simp only [List.map_toArray, List.map_cons, List.map_nil]); first | done | rfl | (simp only [List.length_drop, List.length_take]; rfl)) ?_
    with_reducible refine (laws_toClue.calls a1_0 a1_1 a1_2 a1_3 t219 t220 t221 t222 _ A14.out).mono ?_
    rintro e w44 ⟨rfl, hb⟩
    refine ⟨_, rfl, ?_⟩
    replace HO203 := am (Kd.R_below (br HO203.out) hb)
    replace HO211 := am (Kd.R_below (br HO211.out) hb)
    replace HO217 := am (Kd.R_below (br HO217.out) hb)
    replace BK197 := am (blk_below (g := gb197) (o := .cells #[.int .i64 a0_0, .slice A0_1 l0_1.length c0_1] 30 (0, 0)) (bk BK197.out) hb)
    replace BK198 := am (blk_below (g := gb198) (o := .cells #[.int .i64 a1_0, .int .i64 a1_1, .int .i64 a1_2, .int .i64 a1_3] 23 (0, 0)) (bk BK198.out) hb)
    replace BK213 := am (blk_below (g := gb213) (o := .cells #[.int .i64 t208, .slice Ao30 t209.length co30] 35 (0, 0)) (bk BK213.out) hb)
    replace BK218 := am (blk_below (g := gb218) (o := .cells #[.int .i64 t214, .slice Ao40 t215.length co40] 35 (0, 0)) (bk BK218.out) hb)
    replace BK228 := am (blk_below (g := gb228) (o := .cells #[.int .i64 0, .slice none 0 0] 35 (0, 0)) (bk BK228.out) hb)
    replace HB := am (below_step (bb HB.out) hb)
    (try clear hb)
    (try clear hb2)
    (try clear hk)
    (try clear hi)
    refine hK.out _ _ ⟨(blk_cell BK218.out 0).trans rfl, (blk_cell BK218.out 1).trans rfl, (blk_cell BK198.out 0).trans rfl, (blk_cell BK198.out 1).trans rfl, (blk_cell BK198.out 2).trans rfl, (blk_cell BK198.out 3).trans rfl⟩ (fun hHeld => ?_)
    clear hK K
    refine norm_ (a' := ?_) ?_ ?_
    rotate_left
    ·show Act.put _ (some 34) _ = _
     simp only [Act.put, List.setIfInBounds_toArray, List.set_cons_zero, List.set_cons_succ, i64_w, i32_w]
     rfl
    refine one_ (i := 3) (N := some 35) #[true, true, true, true, false, false, false, true, false, false] rfl rfl (one_of HT_.out (by kernel_rfl)) (by decide) (fun K hK => ?_)
    refine goes_ Try.func24 (by kernel_rfl) rfl #[.agg #[.int .i64 t214, .slice Ao40 t215.length co40], .agg #[.int .i64 t219, .int .i64 t220, .int .i64 t221, .int .i64 t222]] (by rfl) rfl rfl (by (try simp only [List.map_toArray, List.map_cons, List.map_nil]); first | done | rfl | (simp only [List.length_drop, List.length_take]; rfl)) ?_
    with_reducible refine (impl_AddClue.calls k t214 _ _ t215 t219 t220 t221 t222 t223 t224 t227 _ ?side1 ?side2 A15.out).mono ?_
    (case side1 => repeat (first | exact (Kd.R_reads' HO217.out).2.2 | (with_reducible refine Kd.C_alloc ?_ _) | (with_reducible refine Kd.C_drewN ?_ _) | (with_reducible refine Kd.C_drew ?_)))
    (case side2 => exact (Kd.R_reads' HO217.out).2.1)
    rintro e w45 ⟨v225, rfl, ho0, hb⟩
    refine ⟨_, rfl, ?_⟩
    have n0_ := am (Kd.R_elder' (br HO203.out) (Kd.R_base ho0) hb)
    have n1_ := am (Kd.R_elder' (br HO211.out) (Kd.R_base ho0) hb)
    have n2_ := am (Kd.R_elder' (br HO217.out) (Kd.R_base ho0) hb)
    have n3_ := am (Kd.R_lower (Kd.R_new' (Kd.R_new' (Kd.R_new' ho0 (Kd.R_lt (br HO203.out))) (Kd.R_lt (br HO211.out))) (Kd.R_lt (br HO217.out))) (below_size (bb HB.out)))
    have n4_ := am (blk_below (g := gb197) (o := .cells #[.int .i64 a0_0, .slice A0_1 l0_1.length c0_1] 30 (0, 0)) (bk BK197.out) hb)
    have n5_ := am (blk_below (g := gb198) (o := .cells #[.int .i64 a1_0, .int .i64 a1_1, .int .i64 a1_2, .int .i64 a1_3] 23 (0, 0)) (bk BK198.out) hb)
    have n6_ := am (blk_below (g := gb213) (o := .cells #[.int .i64 t208, .slice Ao30 t209.length co30] 35 (0, 0)) (bk BK213.out) hb)
    have n7_ := am (blk_below (g := gb218) (o := .cells #[.int .i64 t214, .slice Ao40 t215.length co40] 35 (0, 0)) (bk BK218.out) hb)
    have n8_ := am (blk_below (g := gb228) (o := .cells #[.int .i64 0, .slice none 0 0] 35 (0, 0)) (bk BK228.out) hb)
    have n9_ := am (below_step (bb HB.out) hb)
    clear HO203
    clear HO211
    clear HO217
    clear BK197
    clear BK198
    clear BK213
    clear BK218
    clear BK228
    clear HB
    have HO203 := n0_
    have HO211 := n1_
    have HO217 := n2_
    have HO226 := n3_
    have BK197 := n4_
    have BK198 := n5_
    have BK213 := n6_
    have BK218 := n7_
    have BK228 := n8_
    have HB := n9_
    clear n0_ n1_ n2_ n3_ n4_ n5_ n6_ n7_ n8_ n9_
    (try clear hb)
    (try clear hb2)
    (try clear hk)
    (try clear hi)
    (try clear ho0)
    refine hK.out _ _ ⟨(blk_cell BK218.out 0).trans rfl, (blk_cell BK218.out 1).trans rfl, (blk_cell BK198.out 0).trans rfl, (blk_cell BK198.out 1).trans rfl, (blk_cell BK198.out 2).trans rfl, (blk_cell BK198.out 3).trans rfl⟩ (fun hHeld => ?_)
    clear hK K
    refine norm_ (a' := ?_) ?_ ?_
    rotate_left
    ·show Act.put _ (some 35) _ = _
     simp only [Act.put, List.setIfInBounds_toArray, List.set_cons_zero, List.set_cons_succ, i64_w, i32_w]
     rfl
    refine pure_ (i := 4) (N := some 31) (v := ?_) (a' := ?_) #[true, true, true, true, true, false, false, true, false, false] rfl rfl (any_of HT_.out (by kernel_rfl)) (fun _ _ _ h => h) (Or.inl ⟨by rfl, ?_⟩) ?_ ?_
    rotate_left
    ·intro w'
     go_simp
     with_reducible rfl
    rotate_left
    ·simp only [Act.put, List.setIfInBounds_toArray, List.set_cons_zero, List.set_cons_succ, i64_w, i32_w]
     rfl
    refine pure_ (i := 5) (N := some 36) (v := ?_) (a' := ?_) #[true, true, true, true, true, true, false, true, false, false] rfl rfl (any_of HT_.out (by kernel_rfl)) (fun _ _ _ h => h) (Or.inl ⟨by rfl, ?_⟩) ?_ ?_
    rotate_left
    ·intro w'
     go_simp
     with_reducible rfl
    rotate_left
    ·simp only [Act.put, List.setIfInBounds_toArray, List.set_cons_zero, List.set_cons_succ, i64_w, i32_w]
     rfl
    refine pure_ (i := 6) (N := some 37) (v := ?_) (a' := ?_) #[true, true, true, true, true, true, true, true, false, false] rfl rfl (any_of HT_.out (by kernel_rfl)) (fun _ _ _ h => h) (Or.inl ⟨by rfl, ?_⟩) ?_ ?_
    rotate_left
    ·intro w'
     go_simp
     with_reducible rfl
    rotate_left
    ·simp only [Act.put, List.setIfInBounds_toArray, List.set_cons_zero, List.set_cons_succ, i64_w, i32_w]
     rfl
    exact norm_ (by simp only [putAll, Act.put, List.setIfInBounds_toArray, List.set_cons_zero, List.set_cons_succ]) (hCont (v225, gb228) _ ⟨hHeld, (by (with_reducible repeat (first | apply Kd.R_alloc | apply Kd.R_drewN | apply Kd.R_drew)); exact Kd.R_mono HO203.out (fun _ hk => ⟨hk.1.1, ⟨hk.1.2, hk.2⟩⟩)), (by (with_reducible repeat (first | apply Kd.R_alloc | apply Kd.R_drewN | apply Kd.R_drew)); exact Kd.R_mono HO211.out (fun _ hk => ⟨hk.1.1, ⟨hk.1.2, hk.2⟩⟩)), (by (with_reducible repeat (first | apply Kd.R_alloc | apply Kd.R_drewN | apply Kd.R_drew)); exact Kd.R_mono HO217.out (fun _ hk => ⟨hk.1.1, ⟨hk.1.2, hk.2⟩⟩)), (by (with_reducible repeat (first | apply Kd.R_alloc | apply Kd.R_drewN | apply Kd.R_drew)); exact Kd.R_mono HO226.out (fun _ hk => ⟨hk.1.1.2, ⟨hk.1.2, hk.2⟩⟩)), (bk BK197.out), (bk BK198.out), (bk BK213.out), (bk BK218.out), (bk BK228.out), GW228.out, GE228.out, NB197_228.out, NB228_197.out, NB198_228.out, NB228_198.out, NB213_228.out, NB228_213.out, NB218_228.out, NB228_218.out, (bb HB.out)⟩)
  rintro ⟨v225, gb228⟩ w46 ⟨hS_, h0_, h1_, h2_, h3_, h4_, h5_, h6_, h7_, h8_, h9_, h10_, h11_, h12_, h13_, h14_, h15_, h16_, h17_, h18_, h19_⟩
  have n0_ : Aside0 (Kd.R k25 25 w46 w.heap.size (fun k_ => some k_ ≠ (.slice Ao30 t209.length co30 : Value).ownBlock ∧ some k_ ≠ (.slice Ao40 t215.length co40 : Value).ownBlock ∧ some k_ ≠ (v225 : Value).ownBlock) v202 t201) := ⟨h0_⟩
  have n1_ : Aside0 (Kd.R k25 25 w46 w.heap.size (fun k_ => some k_ ≠ (v202 : Value).ownBlock ∧ some k_ ≠ (.slice Ao40 t215.length co40 : Value).ownBlock ∧ some k_ ≠ (v225 : Value).ownBlock) (.slice Ao30 t209.length co30) t209) := ⟨h1_⟩
  have n2_ : Aside0 (Kd.R k25 25 w46 w.heap.size (fun k_ => some k_ ≠ (v202 : Value).ownBlock ∧ some k_ ≠ (.slice Ao30 t209.length co30 : Value).ownBlock ∧ some k_ ≠ (v225 : Value).ownBlock) (.slice Ao40 t215.length co40) t215) := ⟨h2_⟩
  have n3_ : Aside0 (Kd.R k25 25 w46 w.heap.size (fun k_ => some k_ ≠ (v202 : Value).ownBlock ∧ some k_ ≠ (.slice Ao30 t209.length co30 : Value).ownBlock ∧ some k_ ≠ (.slice Ao40 t215.length co40 : Value).ownBlock) v225 t224) := ⟨h3_⟩
  have n4_ : Aside0 (w46.heap[gb197]? = some (.cells #[.int .i64 a0_0, .slice A0_1 l0_1.length c0_1] 30 (0, 0))) := ⟨h4_⟩
  have n5_ : Aside0 (w46.heap[gb198]? = some (.cells #[.int .i64 a1_0, .int .i64 a1_1, .int .i64 a1_2, .int .i64 a1_3] 23 (0, 0))) := ⟨h5_⟩
  have n6_ : Aside0 (w46.heap[gb213]? = some (.cells #[.int .i64 t208, .slice Ao30 t209.length co30] 35 (0, 0))) := ⟨h6_⟩
  have n7_ : Aside0 (w46.heap[gb218]? = some (.cells #[.int .i64 t214, .slice Ao40 t215.length co40] 35 (0, 0))) := ⟨h7_⟩
  have n8_ : Aside0 (w46.heap[gb228]? = some (.cells #[.int .i64 0, .slice none 0 0] 35 (0, 0))) := ⟨h8_⟩
  have n9_ : Aside0 (w.heap.size ≤ gb228) := ⟨h9_⟩
  have n10_ : Aside0 (w.heap.size ≤ gb228) := ⟨h10_⟩
  have n11_ : Aside0 (gb197 ≠ gb228) := ⟨h11_⟩
  have n12_ : Aside0 (gb228 ≠ gb197) := ⟨h12_⟩
  have n13_ : Aside0 (gb198 ≠ gb228) := ⟨h13_⟩
  have n14_ : Aside0 (gb228 ≠ gb198) := ⟨h14_⟩
  have n15_ : Aside0 (gb213 ≠ gb228) := ⟨h15_⟩
  have n16_ : Aside0 (gb228 ≠ gb213) := ⟨h16_⟩
  have n17_ : Aside0 (gb218 ≠ gb228) := ⟨h17_⟩
  have n18_ : Aside0 (gb228 ≠ gb218) := ⟨h18_⟩
  have n19_ : Aside0 (Below w.heap.size w w46) := ⟨h19_⟩
  clear HO203
  clear HO211
  clear HO217
  clear BK197
  clear BK198
  clear BK213
  clear BK218
  clear HB
  clear h0_ h1_ h2_ h3_ h4_ h5_ h6_ h7_ h8_ h9_ h10_ h11_ h12_ h13_ h14_ h15_ h16_ h17_ h18_ h19_
  have HO203 := n0_
  have HO211 := n1_
  have HO217 := n2_
  have HO226 := n3_
  have BK197 := n4_
  have BK198 := n5_
  have BK213 := n6_
  have BK218 := n7_
  have BK228 := n8_
  have GW228 := n9_
  have GE228 := n10_
  have NB197_228 := n11_
  have NB228_197 := n12_
  have NB198_228 := n13_
  have NB228_198 := n14_
  have NB213_228 := n15_
  have NB228_213 := n16_
  have NB218_228 := n17_
  have NB228_218 := n18_
  have HB := n19_
  clear n0_ n1_ n2_ n3_ n4_ n5_ n6_ n7_ n8_ n9_ n10_ n11_ n12_ n13_ n14_ n15_ n16_ n17_ n18_ n19_
  have hHeld : w46.cell? ⟨gb218, 0, none⟩ = some (.int .i64 t214) ∧ w46.cell? ⟨gb218, 1, none⟩ = some (.slice Ao40 t215.length co40) ∧ w46.cell? ⟨gb198, 0, none⟩ = some (.int .i64 a1_0) ∧ w46.cell? ⟨gb198, 1, none⟩ = some (.int .i64 a1_1) ∧ w46.cell? ⟨gb198, 2, none⟩ = some (.int .i64 a1_2) ∧ w46.cell? ⟨gb198, 3, none⟩ = some (.int .i64 a1_3) := hS_
  obtain ⟨Ao48, co48, eo48⟩ := Kd.R_slice HO226.out
  (first | subst eo48 | (injection eo48 with f1_ f2_ f3_; have f4_ := f1_.symm; have f5_ := f3_.symm; clear f1_ f2_ f3_; subst f4_; subst f5_))
  refine norm_ (a' := ?_) ?_ ?_
  rotate_left
  ·simp only [putAll, Act.put, List.setIfInBounds_toArray, List.set_cons_zero, List.set_cons_succ]
   rfl
  refine one_ (i := 8) (N := none) #[true, true, true, true, true, true, true, true, true, false] rfl rfl (one_of HT_.out (by kernel_rfl)) (by decide) (fun K hK => ?_)
  have hs47 : w46.cell? ⟨gb228, 0, none⟩ = some (.int .i64 0) := (blk_cell BK228.out 0).trans rfl
  have hfs47 := blk_frozen BK228.out 0
  have hns47_0 := NB197_228.out
  have hns47_1 := NB198_228.out
  have hns47_2 := NB213_228.out
  have hns47_3 := NB218_228.out
  have hms47_0 := NB228_197.out
  have hms47_1 := NB228_198.out
  have hms47_2 := NB228_213.out
  have hms47_3 := NB228_218.out
  have hs49 : w46.cell? ⟨gb228, 1, none⟩ = some (.slice none 0 0) := (blk_cell BK228.out 1).trans rfl
  have hfs49 := blk_frozen BK228.out 1
  have hns49_0 := NB197_228.out
  have hns49_1 := NB198_228.out
  have hns49_2 := NB213_228.out
  have hns49_3 := NB218_228.out
  have hms49_0 := NB228_197.out
  have hms49_1 := NB228_198.out
  have hms49_2 := NB228_213.out
  have hms49_3 := NB228_218.out
  refine skip_ (w1 := ?_) (by rfl) rfl ?_ ?_
  rotate_left
  ·go_simp
   rfl
  refine hK.out _ _ ⟨((cell_far (p := ⟨gb228, _, none⟩) NB218_228.out _).trans (((cell_far (p := ⟨gb228, _, none⟩) NB218_228.out _).trans (hHeld.1)))), ((cell_far (p := ⟨gb228, _, none⟩) NB218_228.out _).trans (((cell_far (p := ⟨gb228, _, none⟩) NB218_228.out _).trans (hHeld.2.1)))), ((cell_far (p := ⟨gb228, _, none⟩) NB198_228.out _).trans (((cell_far (p := ⟨gb228, _, none⟩) NB198_228.out _).trans (hHeld.2.2.1)))), ((cell_far (p := ⟨gb228, _, none⟩) NB198_228.out _).trans (((cell_far (p := ⟨gb228, _, none⟩) NB198_228.out _).trans (hHeld.2.2.2.1)))), ((cell_far (p := ⟨gb228, _, none⟩) NB198_228.out _).trans (((cell_far (p := ⟨gb228, _, none⟩) NB198_228.out _).trans (hHeld.2.2.2.2.1)))), ((cell_far (p := ⟨gb228, _, none⟩) NB198_228.out _).trans (((cell_far (p := ⟨gb228, _, none⟩) NB198_228.out _).trans (hHeld.2.2.2.2.2))))⟩ (fun hHeld => ?_)
  clear hK K
  refine pure_ (i := 9) (N := some 10) (v := ?_) (a' := ?_) #[true, true, true, true, true, true, true, true, true, true] rfl rfl (any_of HT_.out (by kernel_rfl)) (fun _ _ _ h => h) (Or.inl ⟨by rfl, ?_⟩) ?_ ?_
  rotate_left
  ·intro w'
   go_simp
   with_reducible rfl
  rotate_left
  ·simp only [Act.put, List.setIfInBounds_toArray, List.set_cons_zero, List.set_cons_succ, i64_w, i32_w]
   rfl
  refine done_ (done_of HT_.out (by kernel_rfl)) ?_
  go_upto_region 8 with (fail)
  go_cut [46] (fun v46 wc => ∃ (kq : Nat) (x46_15 : Bool), v46 = .bool x46_15 ∧ Aside0 (laws_FnExactAddClue.j0 kq t212 t227 x46_15 a0_0 l0_1 a1_0 a1_1 a1_2 a1_3 t208 t209 t214 t215 t223 t224 = some r) ∧ Aside0 (kq ≤ k) ∧ Aside0 (Kd.R k25 25 wc w.heap.size (fun k_ => some k_ ≠ ((.slice Ao40 t215.length co40) : Value).ownBlock ∧ some k_ ≠ ((.slice Ao48 t224.length co48) : Value).ownBlock) (.slice Ao30 t209.length co30) t209) ∧ Aside0 (Kd.R k25 25 wc w.heap.size (fun k_ => some k_ ≠ ((.slice Ao30 t209.length co30) : Value).ownBlock ∧ some k_ ≠ ((.slice Ao48 t224.length co48) : Value).ownBlock) (.slice Ao40 t215.length co40) t215) ∧ Aside0 (Kd.R k25 25 wc w.heap.size (fun k_ => some k_ ≠ ((.slice Ao30 t209.length co30) : Value).ownBlock ∧ some k_ ≠ ((.slice Ao40 t215.length co40) : Value).ownBlock) (.slice Ao48 t224.length co48) t224) ∧ Aside0 (wc.heap[gb197]? = some (.cells #[.int .i64 a0_0, (.slice A0_1 l0_1.length c0_1)] 30 (0, 0))) ∧ Aside0 (wc.heap[gb198]? = some (.cells #[.int .i64 a1_0, .int .i64 a1_1, .int .i64 a1_2, .int .i64 a1_3] 23 (0, 0))) ∧ Aside0 (wc.heap[gb213]? = some (.cells #[.int .i64 t208, (.slice Ao30 t209.length co30)] 35 (0, 0))) ∧ Aside0 (wc.heap[gb218]? = some (.cells #[.int .i64 t214, (.slice Ao40 t215.length co40)] 35 (0, 0))) ∧ Aside0 (wc.heap[gb228]? = some (.cells #[.int .i64 t223, (.slice Ao48 t224.length co48)] 35 (0, 0))) ∧ Aside0 (Below w.heap.size w wc))
  case first =>
   have H := HC16.out
   clear HC16
   replace H := Option.bind_eq_some_iff.mp H
   obtain ⟨t229, A500, H⟩ := H
   replace H : (if t229 = true then (laws_FnExactAddClue.j0 k t212 t227 (t227 != t212) a0_0 l0_1 a1_0 a1_1 a1_2 a1_3 t208 t209 t214 t215 t223 t224) else (laws_FnExactAddClue.j0 k t212 t227 true a0_0 l0_1 a1_0 a1_1 a1_2 a1_3 t208 t209 t214 t215 t223 t224)) = some r := H
   have A50 := am A500
   clear A500
   by_cases c51 : t229 = true
   ·subst c51
    have H1 : (laws_FnExactAddClue.j0 k t212 t227 (t227 != t212) a0_0 l0_1 a1_0 a1_1 a1_2 a1_3 t208 t209 t214 t215 t223 t224) = some r := by rw [if_pos rfl] at H; exact H
    clear H
    have H := H1
    clear H1
    have H' := am H
    clear H
    have hnb52 := NB228_197.out
    have hnc52 := NB197_228.out
    have hnb53 := NB228_198.out
    have hnc53 := NB198_228.out
    have hnb54 := NB228_213.out
    have hnc54 := NB213_228.out
    have hnb55 := NB228_218.out
    have hnc55 := NB218_228.out
    have hcz56_0 : w46.cell? ⟨gb228, 0, none⟩ = some (.int .i64 0) := (blk_cell BK228.out 0).trans rfl
    have hcz56_1 : w46.cell? ⟨gb228, 1, none⟩ = some (.slice none 0 0) := (blk_cell BK228.out 1).trans rfl
    have hfz56_0 := blk_frozen BK228.out 0
    have hfz56_1 := blk_frozen BK228.out 1
    have hnb57 := NB213_197.out
    have hnc57 := NB197_213.out
    have hnb58 := NB213_198.out
    have hnc58 := NB198_213.out
    have hnb59 := NB213_218.out
    have hnc59 := NB218_213.out
    have hcz60_0 : w46.cell? ⟨gb213, 0, none⟩ = some (.int .i64 t208) := (blk_cell BK213.out 0).trans rfl
    have hcz60_1 : w46.cell? ⟨gb213, 1, none⟩ = some (.slice Ao30 t209.length co30) := (blk_cell BK213.out 1).trans rfl
    have hfz60_0 := blk_frozen BK213.out 0
    have hfz60_1 := blk_frozen BK213.out 1
    go_wp2_with (first | ((with_reducible refine gate_callee (f := 22) rfl ?_); refine goesL_ (some 40) rfl rfl Try.func22 (by kernel_rfl) rfl #[.agg #[.int .i64 t223, .slice Ao48 t224.length co48], .agg #[.int .i64 t208, .slice Ao30 t209.length co30]] rfl (by (try simp only [List.map_toArray, List.map_cons, List.map_nil]); first | done | rfl | (simp only [List.length_drop, List.length_take]; rfl)) ?_; (with_reducible refine (laws_eqPuzzle.calls k t223 _ _ t224 t208 _ _ t209 true _ ?side1 ?side2 ?side3 ?side4 A50.out).mono ?_); (case side1 => refine (Kd.R_reads' (e := 25) (base := w.heap.size) (ok := fun k_ => (some k_ ≠ (v202 : Value).ownBlock ∧ (some k_ ≠ (.slice Ao30 t209.length co30 : Value).ownBlock ∧ some k_ ≠ (.slice Ao40 t215.length co40 : Value).ownBlock))) (n := t224.length) (c := co48) ?_).2.2; exact (by (with_reducible repeat (first | apply Kd.R_alloc | apply Kd.R_drewN | apply Kd.R_drew)); exact (Kd.R_mono (Kd.R_far (p := ⟨gb228, 1, none⟩) (Kd.R_far (p := ⟨gb228, 0, none⟩) (Kd.R_types HO226.out BK228.out (by decide)) (fun _ hk => hk.2) (.int .i64 t223)) (fun _ hk => hk.2) (.slice Ao48 t224.length co48)) (fun _ h_ => h_.1)))); (case side2 => exact (Kd.R_reads' HO226.out).2.1); (case side3 => refine (Kd.R_reads' (e := 25) (base := w.heap.size) (ok := fun k_ => (some k_ ≠ (v202 : Value).ownBlock ∧ (some k_ ≠ (.slice Ao40 t215.length co40 : Value).ownBlock ∧ some k_ ≠ (.slice Ao48 t224.length co48 : Value).ownBlock))) (n := t209.length) (c := co30) ?_).2.2; exact (by (with_reducible repeat (first | apply Kd.R_alloc | apply Kd.R_drewN | apply Kd.R_drew)); exact (Kd.R_mono (Kd.R_far (p := ⟨gb228, 1, none⟩) (Kd.R_far (p := ⟨gb228, 0, none⟩) (Kd.R_types HO211.out BK228.out (by decide)) (fun _ hk => hk.2) (.int .i64 t223)) (fun _ hk => hk.2) (.slice Ao48 t224.length co48)) (fun _ h_ => h_.1)))); (case side4 => exact (Kd.R_reads' HO211.out).2.1); rintro e w61 ⟨rfl, hb⟩; refine ⟨_, rfl, ?_⟩; replace HO203 := am (Kd.R_below (by (with_reducible repeat (first | apply Kd.R_alloc | apply Kd.R_drewN | apply Kd.R_drew)); exact (Kd.R_mono (Kd.R_far (p := ⟨gb228, 1, none⟩) (Kd.R_far (p := ⟨gb228, 0, none⟩) (Kd.R_types HO203.out BK228.out (by decide)) (fun _ hk => hk.2) (.int .i64 t223)) (fun _ hk => hk.2) (.slice Ao48 t224.length co48)) (fun _ h_ => h_.1))) hb); replace HO211 := am (Kd.R_below (by (with_reducible repeat (first | apply Kd.R_alloc | apply Kd.R_drewN | apply Kd.R_drew)); exact (Kd.R_mono (Kd.R_far (p := ⟨gb228, 1, none⟩) (Kd.R_far (p := ⟨gb228, 0, none⟩) (Kd.R_types HO211.out BK228.out (by decide)) (fun _ hk => hk.2) (.int .i64 t223)) (fun _ hk => hk.2) (.slice Ao48 t224.length co48)) (fun _ h_ => h_.1))) hb); replace HO217 := am (Kd.R_below (by (with_reducible repeat (first | apply Kd.R_alloc | apply Kd.R_drewN | apply Kd.R_drew)); exact (Kd.R_mono (Kd.R_far (p := ⟨gb228, 1, none⟩) (Kd.R_far (p := ⟨gb228, 0, none⟩) (Kd.R_types HO217.out BK228.out (by decide)) (fun _ hk => hk.2) (.int .i64 t223)) (fun _ hk => hk.2) (.slice Ao48 t224.length co48)) (fun _ h_ => h_.1))) hb); replace HO226 := am (Kd.R_below (by (with_reducible repeat (first | apply Kd.R_alloc | apply Kd.R_drewN | apply Kd.R_drew)); exact (Kd.R_mono (Kd.R_far (p := ⟨gb228, 1, none⟩) (Kd.R_far (p := ⟨gb228, 0, none⟩) (Kd.R_types HO226.out BK228.out (by decide)) (fun _ hk => hk.2) (.int .i64 t223)) (fun _ hk => hk.2) (.slice Ao48 t224.length co48)) (fun _ h_ => h_.1))) hb); replace BK197 := am (blk_below (g := gb197) (o := .cells #[.int .i64 a0_0, .slice A0_1 l0_1.length c0_1] 30 (0, 0)) (by (with_reducible repeat (first | apply blk_drewN | apply blk_drew | apply blk_alloc)); refine blk_far ?_ NB197_228.out _; (with_reducible repeat (first | apply blk_drewN | apply blk_drew | apply blk_alloc)); refine blk_far ?_ NB197_228.out _; (with_reducible repeat (first | apply blk_drewN | apply blk_drew | apply blk_alloc)); exact BK197.out) hb); replace BK198 := am (blk_below (g := gb198) (o := .cells #[.int .i64 a1_0, .int .i64 a1_1, .int .i64 a1_2, .int .i64 a1_3] 23 (0, 0)) (by (with_reducible repeat (first | apply blk_drewN | apply blk_drew | apply blk_alloc)); refine blk_far ?_ NB198_228.out _; (with_reducible repeat (first | apply blk_drewN | apply blk_drew | apply blk_alloc)); refine blk_far ?_ NB198_228.out _; (with_reducible repeat (first | apply blk_drewN | apply blk_drew | apply blk_alloc)); exact BK198.out) hb); replace BK213 := am (blk_below (g := gb213) (o := .cells #[.int .i64 t208, .slice Ao30 t209.length co30] 35 (0, 0)) (by (with_reducible repeat (first | apply blk_drewN | apply blk_drew | apply blk_alloc)); refine blk_far ?_ NB213_228.out _; (with_reducible repeat (first | apply blk_drewN | apply blk_drew | apply blk_alloc)); refine blk_far ?_ NB213_228.out _; (with_reducible repeat (first | apply blk_drewN | apply blk_drew | apply blk_alloc)); exact BK213.out) hb); replace BK218 := am (blk_below (g := gb218) (o := .cells #[.int .i64 t214, .slice Ao40 t215.length co40] 35 (0, 0)) (by (with_reducible repeat (first | apply blk_drewN | apply blk_drew | apply blk_alloc)); refine blk_far ?_ NB218_228.out _; (with_reducible repeat (first | apply blk_drewN | apply blk_drew | apply blk_alloc)); refine blk_far ?_ NB218_228.out _; (with_reducible repeat (first | apply blk_drewN | apply blk_drew | apply blk_alloc)); exact BK218.out) hb); replace BK228 := am (blk_below (g := gb228) (o := .cells #[.int .i64 t223, .slice Ao48 t224.length co48] 35 (0, 0)) (by (with_reducible repeat (first | apply blk_drewN | apply blk_drew | apply blk_alloc)); refine blk_put (cs := #[.int .i64 t223, .slice none 0 0]) ?_ 1 _ rfl; (with_reducible repeat (first | apply blk_drewN | apply blk_drew | apply blk_alloc)); refine blk_put (cs := #[.int .i64 0, .slice none 0 0]) ?_ 0 _ rfl; (with_reducible repeat (first | apply blk_drewN | apply blk_drew | apply blk_alloc)); exact BK228.out) hb); replace HB := am (below_step (bb HB.out) hb); (try clear hb); (try clear hb2); (try clear hk); (try clear hi)))
    go_meet
    case rel => exact ⟨_, ((t227 != t212)), (by first | rfl | (simp; done) | (simp [*]; done)), H', ⟨by first | omega | exact Nat.le_refl _⟩, ⟨by (with_reducible repeat (first | apply Kd.R_alloc | apply Kd.R_drewN | apply Kd.R_drew)); exact Kd.R_mono HO211.out (fun _ hk => ⟨hk.2.1, hk.2.2⟩)⟩, ⟨by (with_reducible repeat (first | apply Kd.R_alloc | apply Kd.R_drewN | apply Kd.R_drew)); exact Kd.R_mono HO217.out (fun _ hk => ⟨hk.2.1, hk.2.2⟩)⟩, ⟨by (with_reducible repeat (first | apply Kd.R_alloc | apply Kd.R_drewN | apply Kd.R_drew)); exact Kd.R_mono HO226.out (fun _ hk => ⟨hk.2.1, hk.2.2⟩)⟩, ⟨by (with_reducible repeat (first | apply blk_drewN | apply blk_drew | apply blk_alloc)); exact BK197.out⟩, ⟨by (with_reducible repeat (first | apply blk_drewN | apply blk_drew | apply blk_alloc)); exact BK198.out⟩, ⟨by (with_reducible repeat (first | apply blk_drewN | apply blk_drew | apply blk_alloc)); exact BK213.out⟩, ⟨by (with_reducible repeat (first | apply blk_drewN | apply blk_drew | apply blk_alloc)); exact BK218.out⟩, ⟨by (with_reducible repeat (first | apply blk_drewN | apply blk_drew | apply blk_alloc)); exact BK228.out⟩, ⟨by repeat (first | (with_reducible first | exact HB.out | apply below_alloc | apply pw_below_drewN | apply below_drew1 | refine below_set ?_ GE197.out | refine below_set ?_ GE198.out | refine below_set ?_ GE213.out | refine below_set ?_ GE218.out | refine below_set ?_ GE228.out) | exact HB.out)⟩⟩
   ·replace c51 := Bool.eq_false_iff.mpr c51
    subst c51
    have H1 : (laws_FnExactAddClue.j0 k t212 t227 true a0_0 l0_1 a1_0 a1_1 a1_2 a1_3 t208 t209 t214 t215 t223 t224) = some r := by rw [if_neg (show ¬ (false = true) by decide)] at H; exact H
    clear H
    have H := H1
    clear H1
    have H' := am H
    clear H
    have hnb62 := NB228_197.out
    have hnc62 := NB197_228.out
    have hnb63 := NB228_198.out
    have hnc63 := NB198_228.out
    have hnb64 := NB228_213.out
    have hnc64 := NB213_228.out
    have hnb65 := NB228_218.out
    have hnc65 := NB218_228.out
    have hcz66_0 : w46.cell? ⟨gb228, 0, none⟩ = some (.int .i64 0) := (blk_cell BK228.out 0).trans rfl
    have hcz66_1 : w46.cell? ⟨gb228, 1, none⟩ = some (.slice none 0 0) := (blk_cell BK228.out 1).trans rfl
    have hfz66_0 := blk_frozen BK228.out 0
    have hfz66_1 := blk_frozen BK228.out 1
    have hnb67 := NB213_197.out
    have hnc67 := NB197_213.out
    have hnb68 := NB213_198.out
    have hnc68 := NB198_213.out
    have hnb69 := NB213_218.out
    have hnc69 := NB218_213.out
    have hcz70_0 : w46.cell? ⟨gb213, 0, none⟩ = some (.int .i64 t208) := (blk_cell BK213.out 0).trans rfl
    have hcz70_1 : w46.cell? ⟨gb213, 1, none⟩ = some (.slice Ao30 t209.length co30) := (blk_cell BK213.out 1).trans rfl
    have hfz70_0 := blk_frozen BK213.out 0
    have hfz70_1 := blk_frozen BK213.out 1
    go_wp2_with (first | ((with_reducible refine gate_callee (f := 22) rfl ?_); refine goesL_ (some 40) rfl rfl Try.func22 (by kernel_rfl) rfl #[.agg #[.int .i64 t223, .slice Ao48 t224.length co48], .agg #[.int .i64 t208, .slice Ao30 t209.length co30]] rfl (by (try simp only [List.map_toArray, List.map_cons, List.map_nil]); first | done | rfl | (simp only [List.length_drop, List.length_take]; rfl)) ?_; (with_reducible refine (laws_eqPuzzle.calls k t223 _ _ t224 t208 _ _ t209 false _ ?side1 ?side2 ?side3 ?side4 A50.out).mono ?_); (case side1 => refine (Kd.R_reads' (e := 25) (base := w.heap.size) (ok := fun k_ => (some k_ ≠ (v202 : Value).ownBlock ∧ (some k_ ≠ (.slice Ao30 t209.length co30 : Value).ownBlock ∧ some k_ ≠ (.slice Ao40 t215.length co40 : Value).ownBlock))) (n := t224.length) (c := co48) ?_).2.2; exact (by (with_reducible repeat (first | apply Kd.R_alloc | apply Kd.R_drewN | apply Kd.R_drew)); exact (Kd.R_mono (Kd.R_far (p := ⟨gb228, 1, none⟩) (Kd.R_far (p := ⟨gb228, 0, none⟩) (Kd.R_types HO226.out BK228.out (by decide)) (fun _ hk => hk.2) (.int .i64 t223)) (fun _ hk => hk.2) (.slice Ao48 t224.length co48)) (fun _ h_ => h_.1)))); (case side2 => exact (Kd.R_reads' HO226.out).2.1); (case side3 => refine (Kd.R_reads' (e := 25) (base := w.heap.size) (ok := fun k_ => (some k_ ≠ (v202 : Value).ownBlock ∧ (some k_ ≠ (.slice Ao40 t215.length co40 : Value).ownBlock ∧ some k_ ≠ (.slice Ao48 t224.length co48 : Value).ownBlock))) (n := t209.length) (c := co30) ?_).2.2; exact (by (with_reducible repeat (first | apply Kd.R_alloc | apply Kd.R_drewN | apply Kd.R_drew)); exact (Kd.R_mono (Kd.R_far (p := ⟨gb228, 1, none⟩) (Kd.R_far (p := ⟨gb228, 0, none⟩) (Kd.R_types HO211.out BK228.out (by decide)) (fun _ hk => hk.2) (.int .i64 t223)) (fun _ hk => hk.2) (.slice Ao48 t224.length co48)) (fun _ h_ => h_.1)))); (case side4 => exact (Kd.R_reads' HO211.out).2.1); rintro e w71 ⟨rfl, hb⟩; refine ⟨_, rfl, ?_⟩; replace HO203 := am (Kd.R_below (by (with_reducible repeat (first | apply Kd.R_alloc | apply Kd.R_drewN | apply Kd.R_drew)); exact (Kd.R_mono (Kd.R_far (p := ⟨gb228, 1, none⟩) (Kd.R_far (p := ⟨gb228, 0, none⟩) (Kd.R_types HO203.out BK228.out (by decide)) (fun _ hk => hk.2) (.int .i64 t223)) (fun _ hk => hk.2) (.slice Ao48 t224.length co48)) (fun _ h_ => h_.1))) hb); replace HO211 := am (Kd.R_below (by (with_reducible repeat (first | apply Kd.R_alloc | apply Kd.R_drewN | apply Kd.R_drew)); exact (Kd.R_mono (Kd.R_far (p := ⟨gb228, 1, none⟩) (Kd.R_far (p := ⟨gb228, 0, none⟩) (Kd.R_types HO211.out BK228.out (by decide)) (fun _ hk => hk.2) (.int .i64 t223)) (fun _ hk => hk.2) (.slice Ao48 t224.length co48)) (fun _ h_ => h_.1))) hb); replace HO217 := am (Kd.R_below (by (with_reducible repeat (first | apply Kd.R_alloc | apply Kd.R_drewN | apply Kd.R_drew)); exact (Kd.R_mono (Kd.R_far (p := ⟨gb228, 1, none⟩) (Kd.R_far (p := ⟨gb228, 0, none⟩) (Kd.R_types HO217.out BK228.out (by decide)) (fun _ hk => hk.2) (.int .i64 t223)) (fun _ hk => hk.2) (.slice Ao48 t224.length co48)) (fun _ h_ => h_.1))) hb); replace HO226 := am (Kd.R_below (by (with_reducible repeat (first | apply Kd.R_alloc | apply Kd.R_drewN | apply Kd.R_drew)); exact (Kd.R_mono (Kd.R_far (p := ⟨gb228, 1, none⟩) (Kd.R_far (p := ⟨gb228, 0, none⟩) (Kd.R_types HO226.out BK228.out (by decide)) (fun _ hk => hk.2) (.int .i64 t223)) (fun _ hk => hk.2) (.slice Ao48 t224.length co48)) (fun _ h_ => h_.1))) hb); replace BK197 := am (blk_below (g := gb197) (o := .cells #[.int .i64 a0_0, .slice A0_1 l0_1.length c0_1] 30 (0, 0)) (by (with_reducible repeat (first | apply blk_drewN | apply blk_drew | apply blk_alloc)); refine blk_far ?_ NB197_228.out _; (with_reducible repeat (first | apply blk_drewN | apply blk_drew | apply blk_alloc)); refine blk_far ?_ NB197_228.out _; (with_reducible repeat (first | apply blk_drewN | apply blk_drew | apply blk_alloc)); exact BK197.out) hb); replace BK198 := am (blk_below (g := gb198) (o := .cells #[.int .i64 a1_0, .int .i64 a1_1, .int .i64 a1_2, .int .i64 a1_3] 23 (0, 0)) (by (with_reducible repeat (first | apply blk_drewN | apply blk_drew | apply blk_alloc)); refine blk_far ?_ NB198_228.out _; (with_reducible repeat (first | apply blk_drewN | apply blk_drew | apply blk_alloc)); refine blk_far ?_ NB198_228.out _; (with_reducible repeat (first | apply blk_drewN | apply blk_drew | apply blk_alloc)); exact BK198.out) hb); replace BK213 := am (blk_below (g := gb213) (o := .cells #[.int .i64 t208, .slice Ao30 t209.length co30] 35 (0, 0)) (by (with_reducible repeat (first | apply blk_drewN | apply blk_drew | apply blk_alloc)); refine blk_far ?_ NB213_228.out _; (with_reducible repeat (first | apply blk_drewN | apply blk_drew | apply blk_alloc)); refine blk_far ?_ NB213_228.out _; (with_reducible repeat (first | apply blk_drewN | apply blk_drew | apply blk_alloc)); exact BK213.out) hb); replace BK218 := am (blk_below (g := gb218) (o := .cells #[.int .i64 t214, .slice Ao40 t215.length co40] 35 (0, 0)) (by (with_reducible repeat (first | apply blk_drewN | apply blk_drew | apply blk_alloc)); refine blk_far ?_ NB218_228.out _; (with_reducible repeat (first | apply blk_drewN | apply blk_drew | apply blk_alloc)); refine blk_far ?_ NB218_228.out _; (with_reducible repeat (first | apply blk_drewN | apply blk_drew | apply blk_alloc)); exact BK218.out) hb); replace BK228 := am (blk_below (g := gb228) (o := .cells #[.int .i64 t223, .slice Ao48 t224.length co48] 35 (0, 0)) (by (with_reducible repeat (first | apply blk_drewN | apply blk_drew | apply blk_alloc)); refine blk_put (cs := #[.int .i64 t223, .slice none 0 0]) ?_ 1 _ rfl; (with_reducible repeat (first | apply blk_drewN | apply blk_drew | apply blk_alloc)); refine blk_put (cs := #[.int .i64 0, .slice none 0 0]) ?_ 0 _ rfl; (with_reducible repeat (first | apply blk_drewN | apply blk_drew | apply blk_alloc)); exact BK228.out) hb); replace HB := am (below_step (bb HB.out) hb); (try clear hb); (try clear hb2); (try clear hk); (try clear hi)))
    go_meet
    case rel => exact ⟨_, (true), (by first | rfl | (simp; done) | (simp [*]; done)), H', ⟨by first | omega | exact Nat.le_refl _⟩, ⟨by (with_reducible repeat (first | apply Kd.R_alloc | apply Kd.R_drewN | apply Kd.R_drew)); exact Kd.R_mono HO211.out (fun _ hk => ⟨hk.2.1, hk.2.2⟩)⟩, ⟨by (with_reducible repeat (first | apply Kd.R_alloc | apply Kd.R_drewN | apply Kd.R_drew)); exact Kd.R_mono HO217.out (fun _ hk => ⟨hk.2.1, hk.2.2⟩)⟩, ⟨by (with_reducible repeat (first | apply Kd.R_alloc | apply Kd.R_drewN | apply Kd.R_drew)); exact Kd.R_mono HO226.out (fun _ hk => ⟨hk.2.1, hk.2.2⟩)⟩, ⟨by (with_reducible repeat (first | apply blk_drewN | apply blk_drew | apply blk_alloc)); exact BK197.out⟩, ⟨by (with_reducible repeat (first | apply blk_drewN | apply blk_drew | apply blk_alloc)); exact BK198.out⟩, ⟨by (with_reducible repeat (first | apply blk_drewN | apply blk_drew | apply blk_alloc)); exact BK213.out⟩, ⟨by (with_reducible repeat (first | apply blk_drewN | apply blk_drew | apply blk_alloc)); exact BK218.out⟩, ⟨by (with_reducible repeat (first | apply blk_drewN | apply blk_drew | apply blk_alloc)); exact BK228.out⟩, ⟨by repeat (first | (with_reducible first | exact HB.out | apply below_alloc | apply pw_below_drewN | apply below_drew1 | refine below_set ?_ GE197.out | refine below_set ?_ GE198.out | refine below_set ?_ GE213.out | refine below_set ?_ GE218.out | refine below_set ?_ GE228.out) | exact HB.out)⟩⟩
  case rest =>
   clear HC16
   obtain ⟨kq, x46_15, rfl, HA, HJ15, HO_214001, HO_219001, HO_229001, BK197, BK198, BK213, BK218, BK228, HB⟩ := hcut
   cases kq with
   | zero => exact absurd HA.out (by simp [laws_FnExactAddClue.j0])
   | succ kj15 =>
    have H := HA.out
    clear HA
    simp only [laws_FnExactAddClue.j0] at H
    by_cases c72 : x46_15 = true
    ·subst c72
     have H1 : (none) = some r := by rw [if_pos rfl] at H; exact H
     clear H
     have H := H1
     clear H1
     exact absurd H (by simp)
    ·replace c72 := Bool.eq_false_iff.mpr c72
     subst c72
     have H1 : ((laws_toPuzzle.f kj15 a0_0 l0_1).bind fun bt230 => ((laws_eqPuzzle.f kj15 t214 t215 bt230.1 bt230.2).bind fun t234 => (if t234 = true then ((laws_markPuzzle.f kj15 t214 t215 1).bind fun bt235 => (if bt235.1 < 0 then (laws_FnExactAddClue.j1 kj15 t212 true a0_0 l0_1 a1_0 a1_1 a1_2 a1_3 t208 t209 t223 t224) else ((laws_eqPuzzle.f kj15 t223 t224 t208 t209).bind fun t237 => (if t237 = true then (laws_FnExactAddClue.j1 kj15 t212 (t227 != t212) a0_0 l0_1 a1_0 a1_1 a1_2 a1_3 t208 t209 t223 t224) else (laws_FnExactAddClue.j1 kj15 t212 true a0_0 l0_1 a1_0 a1_1 a1_2 a1_3 t208 t209 t223 t224))))) else (none)))) = some r := by rw [if_neg (show ¬ (false = true) by decide)] at H; exact H
     clear H
     have H := H1
     clear H1
     replace H := Option.bind_eq_some_iff.mp H
     obtain ⟨⟨t230, t231⟩, A730, H⟩ := H
     replace H : ((laws_eqPuzzle.f kj15 t214 t215 t230 t231).bind fun t234 => (if t234 = true then ((laws_markPuzzle.f kj15 t214 t215 1).bind fun bt235 => (if bt235.1 < 0 then (laws_FnExactAddClue.j1 kj15 t212 true a0_0 l0_1 a1_0 a1_1 a1_2 a1_3 t208 t209 t223 t224) else ((laws_eqPuzzle.f kj15 t223 t224 t208 t209).bind fun t237 => (if t237 = true then (laws_FnExactAddClue.j1 kj15 t212 (t227 != t212) a0_0 l0_1 a1_0 a1_1 a1_2 a1_3 t208 t209 t223 t224) else (laws_FnExactAddClue.j1 kj15 t212 true a0_0 l0_1 a1_0 a1_1 a1_2 a1_3 t208 t209 t223 t224))))) else (none))) = some r := H
     have A73 := am A730
     clear A730
     replace H := Option.bind_eq_some_iff.mp H
     obtain ⟨t234, A740, H⟩ := H
     replace H : (if t234 = true then ((laws_markPuzzle.f kj15 t214 t215 1).bind fun bt235 => (if bt235.1 < 0 then (laws_FnExactAddClue.j1 kj15 t212 true a0_0 l0_1 a1_0 a1_1 a1_2 a1_3 t208 t209 t223 t224) else ((laws_eqPuzzle.f kj15 t223 t224 t208 t209).bind fun t237 => (if t237 = true then (laws_FnExactAddClue.j1 kj15 t212 (t227 != t212) a0_0 l0_1 a1_0 a1_1 a1_2 a1_3 t208 t209 t223 t224) else (laws_FnExactAddClue.j1 kj15 t212 true a0_0 l0_1 a1_0 a1_1 a1_2 a1_3 t208 t209 t223 t224))))) else (none)) = some r := H
     have A74 := am A740
     clear A740
     by_cases c75 : t234 = true
     ·subst c75
      have H1 : ((laws_markPuzzle.f kj15 t214 t215 1).bind fun bt235 => (if bt235.1 < 0 then (laws_FnExactAddClue.j1 kj15 t212 true a0_0 l0_1 a1_0 a1_1 a1_2 a1_3 t208 t209 t223 t224) else ((laws_eqPuzzle.f kj15 t223 t224 t208 t209).bind fun t237 => (if t237 = true then (laws_FnExactAddClue.j1 kj15 t212 (t227 != t212) a0_0 l0_1 a1_0 a1_1 a1_2 a1_3 t208 t209 t223 t224) else (laws_FnExactAddClue.j1 kj15 t212 true a0_0 l0_1 a1_0 a1_1 a1_2 a1_3 t208 t209 t223 t224))))) = some r := by rw [if_pos rfl] at H; exact H
      clear H
      have H := H1
      clear H1
      replace H := Option.bind_eq_some_iff.mp H
      obtain ⟨⟨t235, t236⟩, A760, H⟩ := H
      replace H : (if t235 < 0 then (laws_FnExactAddClue.j1 kj15 t212 true a0_0 l0_1 a1_0 a1_1 a1_2 a1_3 t208 t209 t223 t224) else ((laws_eqPuzzle.f kj15 t223 t224 t208 t209).bind fun t237 => (if t237 = true then (laws_FnExactAddClue.j1 kj15 t212 (t227 != t212) a0_0 l0_1 a1_0 a1_1 a1_2 a1_3 t208 t209 t223 t224) else (laws_FnExactAddClue.j1 kj15 t212 true a0_0 l0_1 a1_0 a1_1 a1_2 a1_3 t208 t209 t223 t224)))) = some r := H
      have A76 := am A760
      clear A760
      have HC77 := am H
      clear H
      try go_wp2
      replace HO_214001 := am (Kd.R_drew HO_214001.out)
      replace HO_219001 := am (Kd.R_drew HO_219001.out)
      replace HO_229001 := am (Kd.R_drew HO_229001.out)
      replace BK197 := am (blk_drew BK197.out)
      replace BK198 := am (blk_drew BK198.out)
      replace BK213 := am (blk_drew BK213.out)
      replace BK218 := am (blk_drew BK218.out)
      replace BK228 := am (blk_drew BK228.out)
      replace HB := am (below_drew1 HB.out)
      refine start_ (n := 5) (S := fun w' => w'.cell? ⟨gb218, 0, none⟩ = some (.int .i64 t214) ∧ w'.cell? ⟨gb218, 1, none⟩ = some (.slice Ao40 t215.length co40) ∧ w'.cell? ⟨gb197, 0, none⟩ = some (.int .i64 a0_0) ∧ w'.cell? ⟨gb197, 1, none⟩ = some (.slice A0_1 l0_1.length c0_1)) (ds := []) #[false, false, false, false, false] (by kernel_rfl) rfl rfl ⟨(blk_cell BK218.out 0).trans rfl, (blk_cell BK218.out 1).trans rfl, (blk_cell BK197.out 0).trans rfl, (blk_cell BK197.out 1).trans rfl⟩ (fun hHeld => ?_)
      generalize wc.drew = w78 at HO_214001 HO_219001 HO_229001 BK197 BK198 BK213 BK218 BK228 HB hHeld ⊢
      refine take_ (i := 0) (N := some 47) (v := ?_) (a' := ?_) #[true, false, false, false, false] rfl rfl (by kernel_rfl) (fun _ _ _ h => h) (Or.inl ⟨by rfl, ?_⟩) hHeld ?_ ?_
      rotate_left
      ·rintro w' ⟨s0, s1, s2, s3⟩
       go_simp
       with_reducible rfl
      rotate_left
      ·simp only [Act.put, List.setIfInBounds_toArray, List.set_cons_zero, List.set_cons_succ, i64_w, i32_w]
       rfl
      refine take_ (i := 1) (N := some 48) (v := ?_) (a' := ?_) #[true, true, false, false, false] rfl rfl (by kernel_rfl) (fun _ _ _ h => h) (Or.inl ⟨by rfl, ?_⟩) hHeld ?_ ?_
      rotate_left
      ·rintro w' ⟨s0, s1, s2, s3⟩
       go_simp
       with_reducible rfl
      rotate_left
      ·simp only [Act.put, List.setIfInBounds_toArray, List.set_cons_zero, List.set_cons_succ, i64_w, i32_w]
       rfl
      refine one_ (i := 2) (N := some 49) #[true, true, true, false, false] rfl rfl (by kernel_rfl) (by decide) (fun K hK => ?_)
      refine goes_ Try.func20 (by kernel_rfl) rfl #[.agg #[.int .i64 a0_0, .slice A0_1 l0_1.length c0_1]] (by rfl) rfl rfl (by (try simp only [List.map_toArray, List.map_cons, List.map_nil]); first | done | rfl | (simp only [List.length_drop, List.length_take]; rfl)) ?_
      with_reducible refine (laws_toPuzzle.calls kj15 a0_0 _ _ l0_1 t230 t231 _ ?side1 ?side2 A73.out).mono ?_
      (case side1 => repeat (first | exact (Kd.C_below HR0_1.out HB.out) | (with_reducible refine Kd.C_alloc ?_ _) | (with_reducible refine Kd.C_drewN ?_ _) | (with_reducible refine Kd.C_drew ?_)))
      (case side2 => exact HC0_1.out)
      rintro e w79 ⟨v232, rfl, ho0, hb⟩
      refine ⟨_, rfl, ?_⟩
      have n0_ := am (Kd.R_elder' (br HO_214001.out) (Kd.R_base ho0) hb)
      have n1_ := am (Kd.R_elder' (br HO_219001.out) (Kd.R_base ho0) hb)
      have n2_ := am (Kd.R_elder' (br HO_229001.out) (Kd.R_base ho0) hb)
      have n3_ := am (Kd.R_lower (Kd.R_new' (Kd.R_new' (Kd.R_new' ho0 (Kd.R_lt (br HO_214001.out))) (Kd.R_lt (br HO_219001.out))) (Kd.R_lt (br HO_229001.out))) (below_size (bb HB.out)))
      have n4_ := am (blk_below (g := gb197) (o := .cells #[.int .i64 a0_0, .slice A0_1 l0_1.length c0_1] 30 (0, 0)) (bk BK197.out) hb)
      have n5_ := am (blk_below (g := gb198) (o := .cells #[.int .i64 a1_0, .int .i64 a1_1, .int .i64 a1_2, .int .i64 a1_3] 23 (0, 0)) (bk BK198.out) hb)
      have n6_ := am (blk_below (g := gb213) (o := .cells #[.int .i64 t208, .slice Ao30 t209.length co30] 35 (0, 0)) (bk BK213.out) hb)
      have n7_ := am (blk_below (g := gb218) (o := .cells #[.int .i64 t214, .slice Ao40 t215.length co40] 35 (0, 0)) (bk BK218.out) hb)
      have n8_ := am (blk_below (g := gb228) (o := .cells #[.int .i64 t223, .slice Ao48 t224.length co48] 35 (0, 0)) (bk BK228.out) hb)
      have n9_ := am (below_step (bb HB.out) hb)
      clear HO_214001
      clear HO_219001
      clear HO_229001
      clear BK197
      clear BK198
      clear BK213
      clear BK218
      clear BK228
      clear HB
      have HO_214001 := n0_
      have HO_219001 := n1_
      have HO_229001 := n2_
      have HO233 := n3_
      have BK197 := n4_
      have BK198 := n5_
      have BK213 := n6_
      have BK218 := n7_
      have BK228 := n8_
      have HB := n9_
      clear n0_ n1_ n2_ n3_ n4_ n5_ n6_ n7_ n8_ n9_
      (try clear hb)
      (try clear hb2)
      (try clear hk)
      (try clear hi)
      (try clear ho0)
      obtain ⟨Ao80, co80, eo80⟩ := Kd.R_slice HO233.out
      (first | subst eo80 | (injection eo80 with f1_ f2_ f3_; have f4_ := f1_.symm; have f5_ := f3_.symm; clear f1_ f2_ f3_; subst f4_; subst f5_))
      refine hK.out _ _ ⟨(blk_cell BK218.out 0).trans rfl, (blk_cell BK218.out 1).trans rfl, (blk_cell BK197.out 0).trans rfl, (blk_cell BK197.out 1).trans rfl⟩ (fun hHeld => ?_)
      clear hK K
      refine norm_ (a' := ?_) ?_ ?_
      rotate_left
      ·show Act.put _ (some 49) _ = _
       simp only [Act.put, List.setIfInBounds_toArray, List.set_cons_zero, List.set_cons_succ, i64_w, i32_w]
       rfl
      refine one_ (i := 3) (N := some 50) #[true, true, true, true, false] rfl rfl (by kernel_rfl) (by decide) (fun K hK => ?_)
      refine goes_ Try.func22 (by kernel_rfl) rfl #[.agg #[.int .i64 t214, .slice Ao40 t215.length co40], .agg #[.int .i64 t230, .slice Ao80 t231.length co80]] (by rfl) rfl rfl (by (try simp only [List.map_toArray, List.map_cons, List.map_nil]); first | done | rfl | (simp only [List.length_drop, List.length_take]; rfl)) ?_
      with_reducible refine (laws_eqPuzzle.calls kj15 t214 _ _ t215 t230 _ _ t231 true _ ?side1 ?side2 ?side3 ?side4 A74.out).mono ?_
      (case side1 => repeat (first | exact (Kd.R_reads' HO_219001.out).2.2 | (with_reducible refine Kd.C_alloc ?_ _) | (with_reducible refine Kd.C_drewN ?_ _) | (with_reducible refine Kd.C_drew ?_)))
      (case side2 => exact (Kd.R_reads' HO_219001.out).2.1)
      (case side3 => repeat (first | exact (Kd.R_reads' HO233.out).2.2 | (with_reducible refine Kd.C_alloc ?_ _) | (with_reducible refine Kd.C_drewN ?_ _) | (with_reducible refine Kd.C_drew ?_)))
      (case side4 => exact (Kd.R_reads' HO233.out).2.1)
      rintro e w81 ⟨rfl, hb⟩
      refine ⟨_, rfl, ?_⟩
      replace HO_214001 := am (Kd.R_below (br HO_214001.out) hb)
      replace HO_219001 := am (Kd.R_below (br HO_219001.out) hb)
      replace HO_229001 := am (Kd.R_below (br HO_229001.out) hb)
      replace HO233 := am (Kd.R_below (br HO233.out) hb)
      replace BK197 := am (blk_below (g := gb197) (o := .cells #[.int .i64 a0_0, .slice A0_1 l0_1.length c0_1] 30 (0, 0)) (bk BK197.out) hb)
      replace BK198 := am (blk_below (g := gb198) (o := .cells #[.int .i64 a1_0, .int .i64 a1_1, .int .i64 a1_2, .int .i64 a1_3] 23 (0, 0)) (bk BK198.out) hb)
      replace BK213 := am (blk_below (g := gb213) (o := .cells #[.int .i64 t208, .slice Ao30 t209.length co30] 35 (0, 0)) (bk BK213.out) hb)
      replace BK218 := am (blk_below (g := gb218) (o := .cells #[.int .i64 t214, .slice Ao40 t215.length co40] 35 (0, 0)) (bk BK218.out) hb)
      replace BK228 := am (blk_below (g := gb228) (o := .cells #[.int .i64 t223, .slice Ao48 t224.length co48] 35 (0, 0)) (bk BK228.out) hb)
      replace HB := am (below_step (bb HB.out) hb)
      (try clear hb)
      (try clear hb2)
      (try clear hk)
      (try clear hi)
      refine hK.out _ _ ⟨(blk_cell BK218.out 0).trans rfl, (blk_cell BK218.out 1).trans rfl, (blk_cell BK197.out 0).trans rfl, (blk_cell BK197.out 1).trans rfl⟩ (fun hHeld => ?_)
      clear hK K
      refine norm_ (a' := ?_) ?_ ?_
      rotate_left
      ·show Act.put _ (some 50) _ = _
       simp only [Act.put, List.setIfInBounds_toArray, List.set_cons_zero, List.set_cons_succ, i64_w, i32_w]
       rfl
      refine pure_ (i := 4) (N := some 51) (v := ?_) (a' := ?_) #[true, true, true, true, true] rfl rfl (by kernel_rfl) (fun _ _ _ h => h) (Or.inl ⟨by rfl, ?_⟩) ?_ ?_
      rotate_left
      ·intro w'
       go_simp
       with_reducible rfl
      rotate_left
      ·simp only [Act.put, List.setIfInBounds_toArray, List.set_cons_zero, List.set_cons_succ, i64_w, i32_w]
       rfl
      refine done_ (by kernel_rfl) ?_
      have hnb82 := NB218_197.out
      have hnc82 := NB197_218.out
      have hnb83 := NB218_198.out
      have hnc83 := NB198_218.out
      have hnb84 := NB218_213.out
      have hnc84 := NB213_218.out
      have hnb85 := NB218_228.out
      have hnc85 := NB228_218.out
      have hcz86_0 : w81.cell? ⟨gb218, 0, none⟩ = some (.int .i64 t214) := (blk_cell BK218.out 0).trans rfl
      have hcz86_1 : w81.cell? ⟨gb218, 1, none⟩ = some (.slice Ao40 t215.length co40) := (blk_cell BK218.out 1).trans rfl
      have hfz86_0 := blk_frozen BK218.out 0
      have hfz86_1 := blk_frozen BK218.out 1
      go_upto_region 14 with (first | ((with_reducible refine gate_callee (f := 25) rfl ?_); refine goesL_ (some 54) rfl rfl Try.func25 (by kernel_rfl) rfl #[.agg #[.int .i64 t214, .slice Ao40 t215.length co40], .int .i64 1] rfl (by (try simp only [List.map_toArray, List.map_cons, List.map_nil]); first | done | rfl | (simp only [List.length_drop, List.length_take]; rfl)) ?_; (with_reducible refine (laws_markPuzzle.calls kj15 t214 (fun k_ => some k_ = (.slice Ao40 t215.length co40 : Value).ownBlock) (.slice Ao40 t215.length co40) t215 1 t235 t236 w _ ?side1 ?side2 A76.out).mono ?_); (case side1 => repeat (first | (with_reducible first | exact HB.out | apply below_alloc | apply pw_below_drewN | apply below_drew1 | refine below_set ?_ GE197.out | refine below_set ?_ GE198.out | refine below_set ?_ GE213.out | refine below_set ?_ GE218.out | refine below_set ?_ GE228.out) | exact HB.out)); (case side2 => exact Kd.R_tight rfl HO_219001.out); rintro e w87 ⟨rfl, hy0, hb, hkp⟩; refine ⟨_, rfl, ?_⟩; have n0_ := am (Kd.R_mono (ok' := fun k_ => some k_ ≠ (.slice Ao40 t215.length co40 : Value).ownBlock ∧ some k_ ≠ (.slice Ao48 t224.length co48 : Value).ownBlock ∧ some k_ ≠ (.slice Ao80 t231.length co80 : Value).ownBlock) (Kd.R_keptB (HO_214001.out) hkp (fun k_ hk_ hs_ => (hk_.1.1) hs_)) (fun k_ hk_ => ⟨hk_.1.1.1, hk_.1.1.2, hk_.1.2⟩)); have n1_ := am (Kd.R_reok rfl hy0 (fun k_ e_ => HO_219001.out.1 k_ e_)); have n2_ := am (Kd.R_mono (ok' := fun k_ => some k_ ≠ (.slice Ao30 t209.length co30 : Value).ownBlock ∧ some k_ ≠ (.slice Ao40 t215.length co40 : Value).ownBlock ∧ some k_ ≠ (.slice Ao80 t231.length co80 : Value).ownBlock) (Kd.R_keptB (HO_229001.out) hkp (fun k_ hk_ hs_ => (hk_.1.2) hs_)) (fun k_ hk_ => ⟨hk_.1.1.1, hk_.1.1.2, hk_.1.2⟩)); have n3_ := am (blk_kept (bk BK197.out) hkp (fun hs_ => (fun e_ => (Kd.R_ne HO_219001.out BK197.out (by decide)) e_) hs_)); have n4_ := am (blk_kept (bk BK198.out) hkp (fun hs_ => (fun e_ => (Kd.R_ne HO_219001.out BK198.out (by decide)) e_) hs_)); have n5_ := am (blk_kept (bk BK213.out) hkp (fun hs_ => (fun e_ => (Kd.R_ne HO_219001.out BK213.out (by decide)) e_) hs_)); have n6_ := am (blk_kept (bk BK218.out) hkp (fun hs_ => (fun e_ => (Kd.R_ne HO_219001.out BK218.out (by decide)) e_) hs_)); have n7_ := am (blk_kept (bk BK228.out) hkp (fun hs_ => (fun e_ => (Kd.R_ne HO_219001.out BK228.out (by decide)) e_) hs_)); have n8_ := am (Kd.R_mono (ok' := fun k_ => some k_ ≠ (.slice Ao30 t209.length co30 : Value).ownBlock ∧ some k_ ≠ (.slice Ao40 t215.length co40 : Value).ownBlock ∧ some k_ ≠ (.slice Ao48 t224.length co48 : Value).ownBlock) (Kd.R_keptB (HO233.out) hkp (fun k_ hk_ hs_ => (hk_.1.2) hs_)) (fun k_ hk_ => ⟨hk_.1.1.1.2, hk_.1.1.2, hk_.1.2⟩)); have n9_ := am (hb); clear HO_214001; clear HO_219001; clear HO_229001; clear BK197; clear BK198; clear BK213; clear BK218; clear BK228; clear HO233; clear HB; have HO_214001 := n0_; have HO_219001 := n1_; have HO_229001 := n2_; have BK197 := n3_; have BK198 := n4_; have BK213 := n5_; have BK218 := n6_; have BK228 := n7_; have HO233 := n8_; have HB := n9_; clear n0_ n1_ n2_ n3_ n4_ n5_ n6_ n7_ n8_ n9_; (try clear hb); (try clear hkp); (try clear hy0)))
      (try simp only [Act.put, List.setIfInBounds_toArray, List.set_cons_zero, List.set_cons_succ])
      go_cut [67] (fun v67 wc => ∃ (kq : Nat) (x67_76 : Bool), v67 = .bool x67_76 ∧ Aside0 (laws_FnExactAddClue.j1 kq t212 x67_76 a0_0 l0_1 a1_0 a1_1 a1_2 a1_3 t208 t209 t223 t224 = some r) ∧ Aside0 (kq ≤ kj15) ∧ Aside0 (Kd.R k25 25 wc w.heap.size (fun k_ => some k_ ≠ ((.slice Ao40 t215.length co40) : Value).ownBlock ∧ some k_ ≠ ((.slice Ao48 t224.length co48) : Value).ownBlock) (.slice Ao30 t209.length co30) t209) ∧ Aside0 (Kd.R k25 25 wc w.heap.size (fun k_ => some k_ ≠ ((.slice Ao30 t209.length co30) : Value).ownBlock ∧ some k_ ≠ ((.slice Ao48 t224.length co48) : Value).ownBlock) (.slice Ao40 t215.length co40) t236) ∧ Aside0 (Kd.R k25 25 wc w.heap.size (fun k_ => some k_ ≠ ((.slice Ao30 t209.length co30) : Value).ownBlock ∧ some k_ ≠ ((.slice Ao40 t215.length co40) : Value).ownBlock) (.slice Ao48 t224.length co48) t224) ∧ Aside0 (wc.heap[gb197]? = some (.cells #[.int .i64 a0_0, (.slice A0_1 l0_1.length c0_1)] 30 (0, 0))) ∧ Aside0 (wc.heap[gb198]? = some (.cells #[.int .i64 a1_0, .int .i64 a1_1, .int .i64 a1_2, .int .i64 a1_3] 23 (0, 0))) ∧ Aside0 (wc.heap[gb213]? = some (.cells #[.int .i64 t208, (.slice Ao30 t209.length co30)] 35 (0, 0))) ∧ Aside0 (wc.heap[gb218]? = some (.cells #[.int .i64 t214, (.slice Ao40 t215.length co40)] 35 (0, 0))) ∧ Aside0 (wc.heap[gb228]? = some (.cells #[.int .i64 t223, (.slice Ao48 t224.length co48)] 35 (0, 0))) ∧ Aside0 (Below w.heap.size w wc))
      case first =>
       have H := HC77.out
       clear HC77
       by_cases c88 : t235 < 0
       ·rw [if_pos c88] at H
        have c88b0 : decide (t235 < 0) = true := decide_eq_true c88
        clear c88
        (first | rw [c88b0] | (simp only [i64_w, i32_w]; rw [c88b0]) | skip)
        have H' := am H
        clear H
        go_wp2
        go_meet
        case rel => exact ⟨_, (true), (by first | rfl | (simp; done) | (simp [*]; done)), H', ⟨by have := HJ15.out; first | omega | exact Nat.le_refl _⟩, ⟨by (with_reducible repeat (first | apply Kd.R_alloc | apply Kd.R_drewN | apply Kd.R_drew)); exact Kd.R_mono HO_214001.out (fun _ hk => ⟨hk.1, hk.2.1⟩)⟩, ⟨by (with_reducible repeat (first | apply Kd.R_alloc | apply Kd.R_drewN | apply Kd.R_drew)); exact Kd.R_mono HO_219001.out (fun _ hk => ⟨hk.1.1, hk.1.2⟩)⟩, ⟨by (with_reducible repeat (first | apply Kd.R_alloc | apply Kd.R_drewN | apply Kd.R_drew)); exact Kd.R_mono HO_229001.out (fun _ hk => ⟨hk.1, hk.2.1⟩)⟩, ⟨by (with_reducible repeat (first | apply blk_drewN | apply blk_drew | apply blk_alloc)); exact BK197.out⟩, ⟨by (with_reducible repeat (first | apply blk_drewN | apply blk_drew | apply blk_alloc)); exact BK198.out⟩, ⟨by (with_reducible repeat (first | apply blk_drewN | apply blk_drew | apply blk_alloc)); exact BK213.out⟩, ⟨by (with_reducible repeat (first | apply blk_drewN | apply blk_drew | apply blk_alloc)); exact BK218.out⟩, ⟨by (with_reducible repeat (first | apply blk_drewN | apply blk_drew | apply blk_alloc)); exact BK228.out⟩, ⟨by repeat (first | (with_reducible first | exact HB.out | apply below_alloc | apply pw_below_drewN | apply below_drew1 | refine below_set ?_ GE197.out | refine below_set ?_ GE198.out | refine below_set ?_ GE213.out | refine below_set ?_ GE218.out | refine below_set ?_ GE228.out) | exact HB.out)⟩⟩
       ·rw [if_neg c88] at H
        have c88b0 : decide (t235 < 0) = false := decide_eq_false c88
        clear c88
        (first | rw [c88b0] | (simp only [i64_w, i32_w]; rw [c88b0]) | skip)
        replace H := Option.bind_eq_some_iff.mp H
        obtain ⟨t237, A890, H⟩ := H
        replace H : (if t237 = true then (laws_FnExactAddClue.j1 kj15 t212 (t227 != t212) a0_0 l0_1 a1_0 a1_1 a1_2 a1_3 t208 t209 t223 t224) else (laws_FnExactAddClue.j1 kj15 t212 true a0_0 l0_1 a1_0 a1_1 a1_2 a1_3 t208 t209 t223 t224)) = some r := H
        have A89 := am A890
        clear A890
        by_cases c90 : t237 = true
        ·subst c90
         have H1 : (laws_FnExactAddClue.j1 kj15 t212 (t227 != t212) a0_0 l0_1 a1_0 a1_1 a1_2 a1_3 t208 t209 t223 t224) = some r := by rw [if_pos rfl] at H; exact H
         clear H
         have H := H1
         clear H1
         have H' := am H
         clear H
         have hnb91 := NB228_197.out
         have hnc91 := NB197_228.out
         have hnb92 := NB228_198.out
         have hnc92 := NB198_228.out
         have hnb93 := NB228_213.out
         have hnc93 := NB213_228.out
         have hnb94 := NB228_218.out
         have hnc94 := NB218_228.out
         have hcz95_0 : w87.cell? ⟨gb228, 0, none⟩ = some (.int .i64 t223) := (blk_cell BK228.out 0).trans rfl
         have hcz95_1 : w87.cell? ⟨gb228, 1, none⟩ = some (.slice Ao48 t224.length co48) := (blk_cell BK228.out 1).trans rfl
         have hfz95_0 := blk_frozen BK228.out 0
         have hfz95_1 := blk_frozen BK228.out 1
         have hnb96 := NB213_197.out
         have hnc96 := NB197_213.out
         have hnb97 := NB213_198.out
         have hnc97 := NB198_213.out
         have hnb98 := NB213_218.out
         have hnc98 := NB218_213.out
         have hcz99_0 : w87.cell? ⟨gb213, 0, none⟩ = some (.int .i64 t208) := (blk_cell BK213.out 0).trans rfl
         have hcz99_1 : w87.cell? ⟨gb213, 1, none⟩ = some (.slice Ao30 t209.length co30) := (blk_cell BK213.out 1).trans rfl
         have hfz99_0 := blk_frozen BK213.out 0
         have hfz99_1 := blk_frozen BK213.out 1
         go_wp2_with (first | (go_at_call 22; (with_reducible refine (laws_eqPuzzle.calls kj15 t223 _ _ t224 t208 _ _ t209 true _ ?side1 ?side2 ?side3 ?side4 A89.out).mono ?_); (case side1 => repeat (first | exact (Kd.R_reads' HO_229001.out).2.2 | (with_reducible refine Kd.C_alloc ?_ _) | (with_reducible refine Kd.C_drewN ?_ _) | (with_reducible refine Kd.C_drew ?_))); (case side2 => exact (Kd.R_reads' HO_229001.out).2.1); (case side3 => repeat (first | exact (Kd.R_reads' HO_214001.out).2.2 | (with_reducible refine Kd.C_alloc ?_ _) | (with_reducible refine Kd.C_drewN ?_ _) | (with_reducible refine Kd.C_drew ?_))); (case side4 => exact (Kd.R_reads' HO_214001.out).2.1); rintro e w100 ⟨rfl, hb⟩; replace HO_214001 := am (Kd.R_below (br HO_214001.out) hb); replace HO_219001 := am (Kd.R_below (br HO_219001.out) hb); replace HO_229001 := am (Kd.R_below (br HO_229001.out) hb); replace HO233 := am (Kd.R_below (br HO233.out) hb); replace BK197 := am (blk_below (g := gb197) (o := .cells #[.int .i64 a0_0, .slice A0_1 l0_1.length c0_1] 30 (0, 0)) (bk BK197.out) hb); replace BK198 := am (blk_below (g := gb198) (o := .cells #[.int .i64 a1_0, .int .i64 a1_1, .int .i64 a1_2, .int .i64 a1_3] 23 (0, 0)) (bk BK198.out) hb); replace BK213 := am (blk_below (g := gb213) (o := .cells #[.int .i64 t208, .slice Ao30 t209.length co30] 35 (0, 0)) (bk BK213.out) hb); replace BK218 := am (blk_below (g := gb218) (o := .cells #[.int .i64 t214, .slice Ao40 t215.length co40] 35 (0, 0)) (bk BK218.out) hb); replace BK228 := am (blk_below (g := gb228) (o := .cells #[.int .i64 t223, .slice Ao48 t224.length co48] 35 (0, 0)) (bk BK228.out) hb); replace HB := am (below_step (bb HB.out) hb); (try clear hb); (try clear hb2); (try clear hk); (try clear hi)))
         go_meet
         case rel => exact ⟨_, ((t227 != t212)), (by first | rfl | (simp; done) | (simp [*]; done)), H', ⟨by have := HJ15.out; first | omega | exact Nat.le_refl _⟩, ⟨by (with_reducible repeat (first | apply Kd.R_alloc | apply Kd.R_drewN | apply Kd.R_drew)); exact Kd.R_mono HO_214001.out (fun _ hk => ⟨hk.1, hk.2.1⟩)⟩, ⟨by (with_reducible repeat (first | apply Kd.R_alloc | apply Kd.R_drewN | apply Kd.R_drew)); exact Kd.R_mono HO_219001.out (fun _ hk => ⟨hk.1.1, hk.1.2⟩)⟩, ⟨by (with_reducible repeat (first | apply Kd.R_alloc | apply Kd.R_drewN | apply Kd.R_drew)); exact Kd.R_mono HO_229001.out (fun _ hk => ⟨hk.1, hk.2.1⟩)⟩, ⟨by (with_reducible repeat (first | apply blk_drewN | apply blk_drew | apply blk_alloc)); exact BK197.out⟩, ⟨by (with_reducible repeat (first | apply blk_drewN | apply blk_drew | apply blk_alloc)); exact BK198.out⟩, ⟨by (with_reducible repeat (first | apply blk_drewN | apply blk_drew | apply blk_alloc)); exact BK213.out⟩, ⟨by (with_reducible repeat (first | apply blk_drewN | apply blk_drew | apply blk_alloc)); exact BK218.out⟩, ⟨by (with_reducible repeat (first | apply blk_drewN | apply blk_drew | apply blk_alloc)); exact BK228.out⟩, ⟨by repeat (first | (with_reducible first | exact HB.out | apply below_alloc | apply pw_below_drewN | apply below_drew1 | refine below_set ?_ GE197.out | refine below_set ?_ GE198.out | refine below_set ?_ GE213.out | refine below_set ?_ GE218.out | refine below_set ?_ GE228.out) | exact HB.out)⟩⟩
        ·replace c90 := Bool.eq_false_iff.mpr c90
         subst c90
         have H1 : (laws_FnExactAddClue.j1 kj15 t212 true a0_0 l0_1 a1_0 a1_1 a1_2 a1_3 t208 t209 t223 t224) = some r := by rw [if_neg (show ¬ (false = true) by decide)] at H; exact H
         clear H
         have H := H1
         clear H1
         have H' := am H
         clear H
         have hnb101 := NB228_197.out
         have hnc101 := NB197_228.out
         have hnb102 := NB228_198.out
         have hnc102 := NB198_228.out
         have hnb103 := NB228_213.out
         have hnc103 := NB213_228.out
         have hnb104 := NB228_218.out
         have hnc104 := NB218_228.out
         have hcz105_0 : w87.cell? ⟨gb228, 0, none⟩ = some (.int .i64 t223) := (blk_cell BK228.out 0).trans rfl
         have hcz105_1 : w87.cell? ⟨gb228, 1, none⟩ = some (.slice Ao48 t224.length co48) := (blk_cell BK228.out 1).trans rfl
         have hfz105_0 := blk_frozen BK228.out 0
         have hfz105_1 := blk_frozen BK228.out 1
         have hnb106 := NB213_197.out
         have hnc106 := NB197_213.out
         have hnb107 := NB213_198.out
         have hnc107 := NB198_213.out
         have hnb108 := NB213_218.out
         have hnc108 := NB218_213.out
         have hcz109_0 : w87.cell? ⟨gb213, 0, none⟩ = some (.int .i64 t208) := (blk_cell BK213.out 0).trans rfl
         have hcz109_1 : w87.cell? ⟨gb213, 1, none⟩ = some (.slice Ao30 t209.length co30) := (blk_cell BK213.out 1).trans rfl
         have hfz109_0 := blk_frozen BK213.out 0
         have hfz109_1 := blk_frozen BK213.out 1
         go_wp2_with (first | (go_at_call 22; (with_reducible refine (laws_eqPuzzle.calls kj15 t223 _ _ t224 t208 _ _ t209 false _ ?side1 ?side2 ?side3 ?side4 A89.out).mono ?_); (case side1 => repeat (first | exact (Kd.R_reads' HO_229001.out).2.2 | (with_reducible refine Kd.C_alloc ?_ _) | (with_reducible refine Kd.C_drewN ?_ _) | (with_reducible refine Kd.C_drew ?_))); (case side2 => exact (Kd.R_reads' HO_229001.out).2.1); (case side3 => repeat (first | exact (Kd.R_reads' HO_214001.out).2.2 | (with_reducible refine Kd.C_alloc ?_ _) | (with_reducible refine Kd.C_drewN ?_ _) | (with_reducible refine Kd.C_drew ?_))); (case side4 => exact (Kd.R_reads' HO_214001.out).2.1); rintro e w110 ⟨rfl, hb⟩; replace HO_214001 := am (Kd.R_below (br HO_214001.out) hb); replace HO_219001 := am (Kd.R_below (br HO_219001.out) hb); replace HO_229001 := am (Kd.R_below (br HO_229001.out) hb); replace HO233 := am (Kd.R_below (br HO233.out) hb); replace BK197 := am (blk_below (g := gb197) (o := .cells #[.int .i64 a0_0, .slice A0_1 l0_1.length c0_1] 30 (0, 0)) (bk BK197.out) hb); replace BK198 := am (blk_below (g := gb198) (o := .cells #[.int .i64 a1_0, .int .i64 a1_1, .int .i64 a1_2, .int .i64 a1_3] 23 (0, 0)) (bk BK198.out) hb); replace BK213 := am (blk_below (g := gb213) (o := .cells #[.int .i64 t208, .slice Ao30 t209.length co30] 35 (0, 0)) (bk BK213.out) hb); replace BK218 := am (blk_below (g := gb218) (o := .cells #[.int .i64 t214, .slice Ao40 t215.length co40] 35 (0, 0)) (bk BK218.out) hb); replace BK228 := am (blk_below (g := gb228) (o := .cells #[.int .i64 t223, .slice Ao48 t224.length co48] 35 (0, 0)) (bk BK228.out) hb); replace HB := am (below_step (bb HB.out) hb); (try clear hb); (try clear hb2); (try clear hk); (try clear hi)))
         go_meet
         case rel => exact ⟨_, (true), (by first | rfl | (simp; done) | (simp [*]; done)), H', ⟨by have := HJ15.out; first | omega | exact Nat.le_refl _⟩, ⟨by (with_reducible repeat (first | apply Kd.R_alloc | apply Kd.R_drewN | apply Kd.R_drew)); exact Kd.R_mono HO_214001.out (fun _ hk => ⟨hk.1, hk.2.1⟩)⟩, ⟨by (with_reducible repeat (first | apply Kd.R_alloc | apply Kd.R_drewN | apply Kd.R_drew)); exact Kd.R_mono HO_219001.out (fun _ hk => ⟨hk.1.1, hk.1.2⟩)⟩, ⟨by (with_reducible repeat (first | apply Kd.R_alloc | apply Kd.R_drewN | apply Kd.R_drew)); exact Kd.R_mono HO_229001.out (fun _ hk => ⟨hk.1, hk.2.1⟩)⟩, ⟨by (with_reducible repeat (first | apply blk_drewN | apply blk_drew | apply blk_alloc)); exact BK197.out⟩, ⟨by (with_reducible repeat (first | apply blk_drewN | apply blk_drew | apply blk_alloc)); exact BK198.out⟩, ⟨by (with_reducible repeat (first | apply blk_drewN | apply blk_drew | apply blk_alloc)); exact BK213.out⟩, ⟨by (with_reducible repeat (first | apply blk_drewN | apply blk_drew | apply blk_alloc)); exact BK218.out⟩, ⟨by (with_reducible repeat (first | apply blk_drewN | apply blk_drew | apply blk_alloc)); exact BK228.out⟩, ⟨by repeat (first | (with_reducible first | exact HB.out | apply below_alloc | apply pw_below_drewN | apply below_drew1 | refine below_set ?_ GE197.out | refine below_set ?_ GE198.out | refine below_set ?_ GE213.out | refine below_set ?_ GE218.out | refine below_set ?_ GE228.out) | exact HB.out)⟩⟩
      case rest =>
       clear HC77
       try clear c72
       try clear hcz86_0
       try clear hcz86_1
       try clear hfz86_0
       try clear hfz86_1
       obtain ⟨kq, x67_76, rfl, HA, HJ76, HO_214001, HO_219001, HO_229001, BK197, BK198, BK213, BK218, BK228, HB⟩ := hcut
       have hl219001_76 := (Kd.R_reads' HO_219001.out).1
       rw [hl219001_76] at HO_219001
       (try simp only [hl219001_76])
       (try simp only [hl219001_76] at BK197)
       (try simp only [hl219001_76] at BK198)
       (try simp only [hl219001_76] at BK213)
       (try simp only [hl219001_76] at BK218)
       (try simp only [hl219001_76] at BK228)
       (try simp only [hl219001_76] at HO_214001)
       (try simp only [hl219001_76] at HO_229001)
       cases kq with
       | zero => exact absurd HA.out (by simp [laws_FnExactAddClue.j1])
       | succ kj76 =>
        have H := HA.out
        clear HA
        simp only [laws_FnExactAddClue.j1] at H
        by_cases c111 : x67_76 = true
        ·subst c111
         have H1 : (none) = some r := by rw [if_pos rfl] at H; exact H
         clear H
         have H := H1
         clear H1
         exact absurd H (by simp)
        ·replace c111 := Bool.eq_false_iff.mpr c111
         subst c111
         have H1 : ((laws_markPuzzle.f kj76 t223 t224 1).bind fun bt238 => ((laws_heldPuzzle.f kj76 t223 bt238.2 1).bind fun t240 => (if t240 < 0 then (none) else (if t240 = bt238.1 then ((laws_toPuzzle.f kj76 a0_0 l0_1).bind fun bt241 => ((laws_toClue.f a1_0 a1_1 a1_2 a1_3).bind fun bt245 => ((impl_AddClue.f kj76 bt241.1 bt241.2 bt245.1 bt245.2.1 bt245.2.2.1 bt245.2.2.2).bind fun bt249 => ((laws_eqPuzzle.f kj76 bt249.1 bt249.2.1 t208 t209).bind fun t255 => (if t255 = true then (laws_FnExactAddClue.j2 kj76 bt238.1 (bt249.2.2 != t212) t223 bt238.2) else (laws_FnExactAddClue.j2 kj76 bt238.1 true t223 bt238.2)))))) else (none))))) = some r := by rw [if_neg (show ¬ (false = true) by decide)] at H; exact H
         clear H
         have H := H1
         clear H1
         replace H := Option.bind_eq_some_iff.mp H
         obtain ⟨⟨t238, t239⟩, A1120, H⟩ := H
         replace H : ((laws_heldPuzzle.f kj76 t223 t239 1).bind fun t240 => (if t240 < 0 then (none) else (if t240 = t238 then ((laws_toPuzzle.f kj76 a0_0 l0_1).bind fun bt241 => ((laws_toClue.f a1_0 a1_1 a1_2 a1_3).bind fun bt245 => ((impl_AddClue.f kj76 bt241.1 bt241.2 bt245.1 bt245.2.1 bt245.2.2.1 bt245.2.2.2).bind fun bt249 => ((laws_eqPuzzle.f kj76 bt249.1 bt249.2.1 t208 t209).bind fun t255 => (if t255 = true then (laws_FnExactAddClue.j2 kj76 t238 (bt249.2.2 != t212) t223 t239) else (laws_FnExactAddClue.j2 kj76 t238 true t223 t239)))))) else (none)))) = some r := H
         have A112 := am A1120
         clear A1120
         replace H := Option.bind_eq_some_iff.mp H
         obtain ⟨t240, A1130, H⟩ := H
         replace H : (if t240 < 0 then (none) else (if t240 = t238 then ((laws_toPuzzle.f kj76 a0_0 l0_1).bind fun bt241 => ((laws_toClue.f a1_0 a1_1 a1_2 a1_3).bind fun bt245 => ((impl_AddClue.f kj76 bt241.1 bt241.2 bt245.1 bt245.2.1 bt245.2.2.1 bt245.2.2.2).bind fun bt249 => ((laws_eqPuzzle.f kj76 bt249.1 bt249.2.1 t208 t209).bind fun t255 => (if t255 = true then (laws_FnExactAddClue.j2 kj76 t238 (bt249.2.2 != t212) t223 t239) else (laws_FnExactAddClue.j2 kj76 t238 true t223 t239)))))) else (none))) = some r := H
         have A113 := am A1130
         clear A1130
         by_cases c114 : t240 < 0
         ·rw [if_pos c114] at H
          exact absurd H (by simp)
         ·rw [if_neg c114] at H
          have c114b0 : decide (t240 < 0) = false := decide_eq_false c114
          clear c114
          by_cases c115 : t240 = t238
          ·rw [if_pos c115] at H
           have c115b0 : (t240 == t238) = true := beq_iff_eq.mpr c115
           have c115b1 : (t240 != t238) = false := bne_eq_false_iff_eq.mpr c115
           clear c115
           replace H := Option.bind_eq_some_iff.mp H
           obtain ⟨⟨t241, t242⟩, A1160, H⟩ := H
           replace H : ((laws_toClue.f a1_0 a1_1 a1_2 a1_3).bind fun bt245 => ((impl_AddClue.f kj76 t241 t242 bt245.1 bt245.2.1 bt245.2.2.1 bt245.2.2.2).bind fun bt249 => ((laws_eqPuzzle.f kj76 bt249.1 bt249.2.1 t208 t209).bind fun t255 => (if t255 = true then (laws_FnExactAddClue.j2 kj76 t238 (bt249.2.2 != t212) t223 t239) else (laws_FnExactAddClue.j2 kj76 t238 true t223 t239))))) = some r := H
           have A116 := am A1160
           clear A1160
           replace H := Option.bind_eq_some_iff.mp H
           obtain ⟨⟨t245, t246, t247, t248⟩, A1170, H⟩ := H
           replace H : ((impl_AddClue.f kj76 t241 t242 t245 t246 t247 t248).bind fun bt249 => ((laws_eqPuzzle.f kj76 bt249.1 bt249.2.1 t208 t209).bind fun t255 => (if t255 = true then (laws_FnExactAddClue.j2 kj76 t238 (bt249.2.2 != t212) t223 t239) else (laws_FnExactAddClue.j2 kj76 t238 true t223 t239)))) = some r := H
           have A117 := am A1170
           clear A1170
           replace H := Option.bind_eq_some_iff.mp H
           obtain ⟨⟨t249, t250, t253⟩, A1180, H⟩ := H
           replace H : ((laws_eqPuzzle.f kj76 t249 t250 t208 t209).bind fun t255 => (if t255 = true then (laws_FnExactAddClue.j2 kj76 t238 (t253 != t212) t223 t239) else (laws_FnExactAddClue.j2 kj76 t238 true t223 t239))) = some r := H
           have A118 := am A1180
           clear A1180
           have HC119 := am H
           clear H
           have hnb120 := NB228_197.out
           have hnc120 := NB197_228.out
           have hnb121 := NB228_198.out
           have hnc121 := NB198_228.out
           have hnb122 := NB228_213.out
           have hnc122 := NB213_228.out
           have hnb123 := NB228_218.out
           have hnc123 := NB218_228.out
           have hcz124_0 : wc.cell? ⟨gb228, 0, none⟩ = some (.int .i64 t223) := (blk_cell BK228.out 0).trans rfl
           have hcz124_1 : wc.cell? ⟨gb228, 1, none⟩ = some (.slice Ao48 t224.length co48) := (blk_cell BK228.out 1).trans rfl
           have hfz124_0 := blk_frozen BK228.out 0
           have hfz124_1 := blk_frozen BK228.out 1
           try go_wp2_with (first | ((with_reducible refine gate_callee (f := 25) rfl ?_); refine goesL_ (some 70) rfl rfl Try.func25 (by kernel_rfl) rfl #[.agg #[.int .i64 t223, .slice Ao48 t224.length co48], .int .i64 1] rfl (by (try simp only [List.map_toArray, List.map_cons, List.map_nil]); first | done | rfl | (simp only [List.length_drop, List.length_take]; rfl)) ?_; (with_reducible refine (laws_markPuzzle.calls kj76 t223 (fun k_ => some k_ = (.slice Ao48 t224.length co48 : Value).ownBlock) (.slice Ao48 t224.length co48) t224 1 t238 t239 w _ ?side1 ?side2 A112.out).mono ?_); (case side1 => repeat (first | (with_reducible first | exact HB.out | apply below_alloc | apply pw_below_drewN | apply below_drew1 | refine below_set ?_ GE197.out | refine below_set ?_ GE198.out | refine below_set ?_ GE213.out | refine below_set ?_ GE218.out | refine below_set ?_ GE228.out) | exact HB.out)); (case side2 => exact Kd.R_tight rfl HO_229001.out); rintro e w125 ⟨rfl, hy0, hb, hkp⟩; refine ⟨_, rfl, ?_⟩; have n0_ := am (Kd.R_mono (ok' := fun k_ => some k_ ≠ (.slice Ao40 t236.length co40 : Value).ownBlock ∧ some k_ ≠ (.slice Ao48 t224.length co48 : Value).ownBlock) (Kd.R_keptB (HO_214001.out) hkp (fun k_ hk_ hs_ => (hk_.2) hs_)) (fun k_ hk_ => ⟨hk_.1.1, hk_.1.2⟩)); have n1_ := am (Kd.R_mono (ok' := fun k_ => some k_ ≠ (.slice Ao30 t209.length co30 : Value).ownBlock ∧ some k_ ≠ (.slice Ao48 t224.length co48 : Value).ownBlock) (Kd.R_keptB (HO_219001.out) hkp (fun k_ hk_ hs_ => (hk_.2) hs_)) (fun k_ hk_ => ⟨hk_.1.1, hk_.1.2⟩)); have n2_ := am (Kd.R_reok rfl hy0 (fun k_ e_ => HO_229001.out.1 k_ e_)); have n3_ := am (blk_kept (bk BK197.out) hkp (fun hs_ => (fun e_ => (Kd.R_ne HO_229001.out BK197.out (by decide)) e_) hs_)); have n4_ := am (blk_kept (bk BK198.out) hkp (fun hs_ => (fun e_ => (Kd.R_ne HO_229001.out BK198.out (by decide)) e_) hs_)); have n5_ := am (blk_kept (bk BK213.out) hkp (fun hs_ => (fun e_ => (Kd.R_ne HO_229001.out BK213.out (by decide)) e_) hs_)); have n6_ := am (blk_kept (bk BK218.out) hkp (fun hs_ => (fun e_ => (Kd.R_ne HO_229001.out BK218.out (by decide)) e_) hs_)); have n7_ := am (blk_kept (bk BK228.out) hkp (fun hs_ => (fun e_ => (Kd.R_ne HO_229001.out BK228.out (by decide)) e_) hs_)); have n8_ := am (hb); clear HO_214001; clear HO_219001; clear HO_229001; clear BK197; clear BK198; clear BK213; clear BK218; clear BK228; clear HB; have HO_214001 := n0_; have HO_219001 := n1_; have HO_229001 := n2_; have BK197 := n3_; have BK198 := n4_; have BK213 := n5_; have BK218 := n6_; have BK228 := n7_; have HB := n8_; clear n0_ n1_ n2_ n3_ n4_ n5_ n6_ n7_ n8_; (try clear hb); (try clear hkp); (try clear hy0); have hcz126_0 : w125.cell? ⟨gb228, 0, none⟩ = some (.int .i64 t223) := (blk_cell BK228.out 0).trans rfl; have hcz126_1 : w125.cell? ⟨gb228, 1, none⟩ = some (.slice Ao48 t224.length co48) := (blk_cell BK228.out 1).trans rfl; have hfz126_0 := blk_frozen BK228.out 0; have hfz126_1 := blk_frozen BK228.out 1) | ((with_reducible refine gate_callee (f := 26) rfl ?_); refine goesL_ (some 73) rfl rfl Try.func26 (by kernel_rfl) rfl #[.agg #[.int .i64 t223, .slice Ao48 t239.length co48], .int .i64 1] rfl (by (try simp only [List.map_toArray, List.map_cons, List.map_nil]); first | done | (rw [show t239.length = t224.length from (Kd.R_reads' HO_229001.out).1.symm] <;> rfl) | rfl | (simp only [List.length_drop, List.length_take]; rfl)) ?_; (with_reducible refine (laws_heldPuzzle.calls kj76 t223 _ _ t239 1 t240 _ ?side1 ?side2 A113.out).mono ?_); (case side1 => repeat (first | exact (Kd.R_reads' HO_229001.out).2.2 | (with_reducible refine Kd.C_alloc ?_ _) | (with_reducible refine Kd.C_drewN ?_ _) | (with_reducible refine Kd.C_drew ?_))); (case side2 => rw [show t239.length = t224.length from (Kd.R_reads' HO_229001.out).1.symm]; exact (Kd.R_reads' HO_229001.out).2.1); rintro e w127 ⟨rfl, hb⟩; refine ⟨_, rfl, ?_⟩; replace HO_214001 := am (Kd.R_below (br HO_214001.out) hb); replace HO_219001 := am (Kd.R_below (br HO_219001.out) hb); replace HO_229001 := am (Kd.R_below (br HO_229001.out) hb); replace BK197 := am (blk_below (g := gb197) (o := .cells #[.int .i64 a0_0, .slice A0_1 l0_1.length c0_1] 30 (0, 0)) (bk BK197.out) hb); replace BK198 := am (blk_below (g := gb198) (o := .cells #[.int .i64 a1_0, .int .i64 a1_1, .int .i64 a1_2, .int .i64 a1_3] 23 (0, 0)) (bk BK198.out) hb); replace BK213 := am (blk_below (g := gb213) (o := .cells #[.int .i64 t208, .slice Ao30 t209.length co30] 35 (0, 0)) (bk BK213.out) hb); replace BK218 := am (blk_below (g := gb218) (o := .cells #[.int .i64 t214, .slice Ao40 t236.length co40] 35 (0, 0)) (bk BK218.out) hb); replace BK228 := am (blk_below (g := gb228) (o := .cells #[.int .i64 t223, .slice Ao48 t224.length co48] 35 (0, 0)) (bk BK228.out) hb); replace HB := am (below_step (bb HB.out) hb); (try clear hb); (try clear hb2); (try clear hk); (try clear hi)))
           replace HO_214001 := am (Kd.R_drew HO_214001.out)
           replace HO_219001 := am (Kd.R_drew HO_219001.out)
           replace HO_229001 := am (Kd.R_drew HO_229001.out)
           replace BK197 := am (blk_drew BK197.out)
           replace BK198 := am (blk_drew BK198.out)
           replace BK213 := am (blk_drew BK213.out)
           replace BK218 := am (blk_drew BK218.out)
           replace BK228 := am (blk_drew BK228.out)
           replace HB := am (below_drew1 HB.out)
           refine start_ (n := 11) (S := fun w' => w'.cell? ⟨gb197, 0, none⟩ = some (.int .i64 a0_0) ∧ w'.cell? ⟨gb197, 1, none⟩ = some (.slice A0_1 l0_1.length c0_1) ∧ w'.cell? ⟨gb198, 0, none⟩ = some (.int .i64 a1_0) ∧ w'.cell? ⟨gb198, 1, none⟩ = some (.int .i64 a1_1) ∧ w'.cell? ⟨gb198, 2, none⟩ = some (.int .i64 a1_2) ∧ w'.cell? ⟨gb198, 3, none⟩ = some (.int .i64 a1_3)) (ds := []) #[false, false, false, false, false, false, false, false, false, false, false] (by kernel_rfl) rfl rfl ⟨(blk_cell BK197.out 0).trans rfl, (blk_cell BK197.out 1).trans rfl, (blk_cell BK198.out 0).trans rfl, (blk_cell BK198.out 1).trans rfl, (blk_cell BK198.out 2).trans rfl, (blk_cell BK198.out 3).trans rfl⟩ (fun hHeld => ?_); refine with_tabW laws_FnExactAddClue.tab24 laws_FnExactAddClue.bits24 (fun HT_ HW_ => ?_)
           generalize w127.drew = w128 at HO_214001 HO_219001 HO_229001 BK197 BK198 BK213 BK218 BK228 HB hHeld ⊢
           refine take_ (i := 0) (N := some 80) (v := ?_) (a' := ?_) #[true, false, false, false, false, false, false, false, false, false, false] rfl rfl (take_ofW HT_.out HW_.out (by kernel_rfl)) (fun _ _ _ h => h) (Or.inl ⟨by rfl, ?_⟩) hHeld ?_ ?_
           rotate_left
           ·rintro w' ⟨s0, s1, s2, s3, s4, s5⟩
            go_simp
            with_reducible rfl
           rotate_left
           ·simp only [Act.put, List.setIfInBounds_toArray, List.set_cons_zero, List.set_cons_succ, i64_w, i32_w]
            rfl
           refine take_ (i := 2) (N := some 82) (v := ?_) (a' := ?_) #[true, false, true, false, false, false, false, false, false, false, false] rfl rfl (take_ofW HT_.out HW_.out (by kernel_rfl)) (fun _ _ _ h => h) (Or.inl ⟨by rfl, ?_⟩) hHeld ?_ ?_
           rotate_left
           ·rintro w' ⟨s0, s1, s2, s3, s4, s5⟩
            go_simp
            with_reducible rfl
           rotate_left
           ·simp only [Act.put, List.setIfInBounds_toArray, List.set_cons_zero, List.set_cons_succ, i64_w, i32_w]
            rfl
           refine join_ (σ := Value × Value × Nat) 2 #[true, true, true, true, true, true, true, true, true, false, false] (fun s_ => [(81, .agg #[.int .i64 t241, s_.1]), (83, .agg #[.int .i64 t245, .int .i64 t246, .int .i64 t247, .int .i64 t248]), (84, .tuple #[.agg #[.int .i64 t249, s_.2.1], .bool t253]), (14, .pointer (some ⟨s_.2.2, 0, none⟩)), (79, .tuple #[.agg #[.int .i64 t249, s_.2.1], .bool t253]), (85, .agg #[.int .i64 t249, s_.2.1]), (86, .bool t253)]) (fun s_ w' => (w'.cell? ⟨gb197, 0, none⟩ = some (.int .i64 a0_0) ∧ w'.cell? ⟨gb197, 1, none⟩ = some (.slice A0_1 l0_1.length c0_1) ∧ w'.cell? ⟨gb198, 0, none⟩ = some (.int .i64 a1_0) ∧ w'.cell? ⟨gb198, 1, none⟩ = some (.int .i64 a1_1) ∧ w'.cell? ⟨gb198, 2, none⟩ = some (.int .i64 a1_2) ∧ w'.cell? ⟨gb198, 3, none⟩ = some (.int .i64 a1_3)) ∧ (Kd.R k25 25 w' w.heap.size (fun k_ => some k_ ≠ (s_.2.1 : Value).ownBlock ∧ some k_ ≠ (.slice Ao30 t209.length co30 : Value).ownBlock ∧ some k_ ≠ (.slice Ao40 t236.length co40 : Value).ownBlock ∧ some k_ ≠ (.slice Ao48 t224.length co48 : Value).ownBlock) s_.1 t242) ∧ (Kd.R k25 25 w' w.heap.size (fun k_ => some k_ ≠ (s_.1 : Value).ownBlock ∧ some k_ ≠ (.slice Ao30 t209.length co30 : Value).ownBlock ∧ some k_ ≠ (.slice Ao40 t236.length co40 : Value).ownBlock ∧ some k_ ≠ (.slice Ao48 t224.length co48 : Value).ownBlock) s_.2.1 t250) ∧ (Kd.R k25 25 w' w.heap.size (fun k_ => some k_ ≠ (s_.1 : Value).ownBlock ∧ some k_ ≠ (s_.2.1 : Value).ownBlock ∧ some k_ ≠ (.slice Ao40 t236.length co40 : Value).ownBlock ∧ some k_ ≠ (.slice Ao48 t224.length co48 : Value).ownBlock) (.slice Ao30 t209.length co30) t209) ∧ (Kd.R k25 25 w' w.heap.size (fun k_ => some k_ ≠ (s_.1 : Value).ownBlock ∧ some k_ ≠ (s_.2.1 : Value).ownBlock ∧ some k_ ≠ (.slice Ao30 t209.length co30 : Value).ownBlock ∧ some k_ ≠ (.slice Ao48 t224.length co48 : Value).ownBlock) (.slice Ao40 t236.length co40) t236) ∧ (Kd.R k25 25 w' w.heap.size (fun k_ => some k_ ≠ (s_.1 : Value).ownBlock ∧ some k_ ≠ (s_.2.1 : Value).ownBlock ∧ some k_ ≠ (.slice Ao30 t209.length co30 : Value).ownBlock ∧ some k_ ≠ (.slice Ao40 t236.length co40 : Value).ownBlock) (.slice Ao48 t224.length co48) t239) ∧ (w'.heap[gb197]? = some (.cells #[.int .i64 a0_0, .slice A0_1 l0_1.length c0_1] 30 (0, 0))) ∧ (w'.heap[gb198]? = some (.cells #[.int .i64 a1_0, .int .i64 a1_1, .int .i64 a1_2, .int .i64 a1_3] 23 (0, 0))) ∧ (w'.heap[gb213]? = some (.cells #[.int .i64 t208, .slice Ao30 t209.length co30] 35 (0, 0))) ∧ (w'.heap[gb218]? = some (.cells #[.int .i64 t214, .slice Ao40 t236.length co40] 35 (0, 0))) ∧ (w'.heap[gb228]? = some (.cells #[.int .i64 t223, .slice Ao48 t224.length co48] 35 (0, 0))) ∧ (w'.heap[s_.2.2]? = some (.cells #[.int .i64 0, .slice none 0 0] 35 (0, 0))) ∧ (w.heap.size ≤ s_.2.2) ∧ (w.heap.size ≤ s_.2.2) ∧ (gb197 ≠ s_.2.2) ∧ (s_.2.2 ≠ gb197) ∧ (gb198 ≠ s_.2.2) ∧ (s_.2.2 ≠ gb198) ∧ (gb213 ≠ s_.2.2) ∧ (s_.2.2 ≠ gb213) ∧ (gb218 ≠ s_.2.2) ∧ (s_.2.2 ≠ gb218) ∧ (gb228 ≠ s_.2.2) ∧ (s_.2.2 ≠ gb228) ∧ (Below w.heap.size w w')) ?_ ?_
           rotate_left
           ·intro hCont
            refine two_ (i := 1) (j := 8) (Ni := some 81) (Nj := some 14) #[true, true, true, false, false, false, false, false, false, false, false] #[true, false, true, false, false, false, false, false, true, false, false] rfl rfl rfl rfl (two_of HT_.out (by kernel_rfl)) (by decide) (by decide) (fun K hK => ?_) (fun K hK => ?_)
            ·skip
             refine goes_ Try.func20 (by kernel_rfl) rfl #[.agg #[.int .i64 a0_0, .slice A0_1 l0_1.length c0_1]] (by rfl) rfl rfl (by (try simp only [List.map_toArray, List.map_cons, List.map_nil]); first | done | rfl | (simp only [List.length_drop, List.length_take]; rfl)) ?_
             with_reducible refine (laws_toPuzzle.calls kj76 a0_0 _ _ l0_1 t241 t242 _ ?side1 ?side2 A116.out).mono ?_
             (case side1 => repeat (first | exact (Kd.C_below HR0_1.out HB.out) | (with_reducible refine Kd.C_alloc ?_ _) | (with_reducible refine Kd.C_drewN ?_ _) | (with_reducible refine Kd.C_drew ?_)))
             (case side2 => exact HC0_1.out)
             rintro e w129 ⟨v243, rfl, ho0, hb⟩
             refine ⟨_, rfl, ?_⟩
             have n0_ := am (Kd.R_elder' (br HO_214001.out) (Kd.R_base ho0) hb)
             have n1_ := am (Kd.R_elder' (br HO_219001.out) (Kd.R_base ho0) hb)
             have n2_ := am (Kd.R_elder' (br HO_229001.out) (Kd.R_base ho0) hb)
             have n3_ := am (Kd.R_lower (Kd.R_new' (Kd.R_new' (Kd.R_new' ho0 (Kd.R_lt (br HO_214001.out))) (Kd.R_lt (br HO_219001.out))) (Kd.R_lt (br HO_229001.out))) (below_size (bb HB.out)))
             have n4_ := am (blk_below (g := gb197) (o := .cells #[.int .i64 a0_0, .slice A0_1 l0_1.length c0_1] 30 (0, 0)) (bk BK197.out) hb)
             have n5_ := am (blk_below (g := gb198) (o := .cells #[.int .i64 a1_0, .int .i64 a1_1, .int .i64 a1_2, .int .i64 a1_3] 23 (0, 0)) (bk BK198.out) hb)
             have n6_ := am (blk_below (g := gb213) (o := .cells #[.int .i64 t208, .slice Ao30 t209.length co30] 35 (0, 0)) (bk BK213.out) hb)
             have n7_ := am (blk_below (g := gb218) (o := .cells #[.int .i64 t214, .slice Ao40 t236.length co40] 35 (0, 0)) (bk BK218.out) hb)
             have n8_ := am (blk_below (g := gb228) (o := .cells #[.int .i64 t223, .slice Ao48 t224.length co48] 35 (0, 0)) (bk BK228.out) hb)
             have n9_ := am (below_step (bb HB.out) hb)
             clear HO_214001
             clear HO_219001
             clear HO_229001
             clear BK197
             clear BK198
             clear BK213
             clear BK218
             clear BK228
             clear HB
             have HO_214001 := n0_
             have HO_219001 := n1_
             have HO_229001 := n2_
             have HO244 := n3_
             have BK197 := n4_
             have BK198 := n5_
             have BK213 := n6_
             have BK218 := n7_
             have BK228 := n8_
             have HB := n9_
             clear n0_ n1_ n2_ n3_ n4_ n5_ n6_ n7_ n8_ n9_
             (try clear hb)
             (try clear hb2)
             (try clear hk)
             (try clear hi)
             (try clear ho0)
             refine hK.out _ _ ⟨(blk_cell BK197.out 0).trans rfl, (blk_cell BK197.out 1).trans rfl, (blk_cell BK198.out 0).trans rfl, (blk_cell BK198.out 1).trans rfl, (blk_cell BK198.out 2).trans rfl, (blk_cell BK198.out 3).trans rfl⟩ (fun hHeld => ?_)
             clear hK K
             refine norm_ (a' := ?_) ?_ ?_
             rotate_left
             ·show Act.put _ (some 81) _ = _
              simp only [Act.put, List.setIfInBounds_toArray, List.set_cons_zero, List.set_cons_succ, i64_w, i32_w]
              rfl
             refine two_ (i := 3) (j := 8) (Ni := some 83) (Nj := some 14) #[true, true, true, true, false, false, false, false, false, false, false] #[true, true, true, false, false, false, false, false, true, false, false] rfl rfl rfl rfl (two_of HT_.out (by kernel_rfl)) (by decide) (by decide) (fun K hK => ?_) (fun K hK => ?_)
             ·skip
              refine goes_ Try.func16 (by kernel_rfl) rfl #[.agg #[.int .i64 a1_0, .int .i64 a1_1, .int .i64 a1_2, .int .i64 a1_3]] (by rfl) rfl rfl (by (try simp only [List.map_toArray, List.map_cons, List.map_nil]); first | done | rfl | (simp only [List.length_drop, List.length_take]; rfl)) ?_
              with_reducible refine (laws_toClue.calls a1_0 a1_1 a1_2 a1_3 t245 t246 t247 t248 _ A117.out).mono ?_
              rintro e w130 ⟨rfl, hb⟩
              refine ⟨_, rfl, ?_⟩
              replace HO_214001 := am (Kd.R_below (br HO_214001.out) hb)
              replace HO_219001 := am (Kd.R_below (br HO_219001.out) hb)
              replace HO_229001 := am (Kd.R_below (br HO_229001.out) hb)
              replace HO244 := am (Kd.R_below (br HO244.out) hb)
              replace BK197 := am (blk_below (g := gb197) (o := .cells #[.int .i64 a0_0, .slice A0_1 l0_1.length c0_1] 30 (0, 0)) (bk BK197.out) hb)
              replace BK198 := am (blk_below (g := gb198) (o := .cells #[.int .i64 a1_0, .int .i64 a1_1, .int .i64 a1_2, .int .i64 a1_3] 23 (0, 0)) (bk BK198.out) hb)
              replace BK213 := am (blk_below (g := gb213) (o := .cells #[.int .i64 t208, .slice Ao30 t209.length co30] 35 (0, 0)) (bk BK213.out) hb)
              replace BK218 := am (blk_below (g := gb218) (o := .cells #[.int .i64 t214, .slice Ao40 t236.length co40] 35 (0, 0)) (bk BK218.out) hb)
              replace BK228 := am (blk_below (g := gb228) (o := .cells #[.int .i64 t223, .slice Ao48 t224.length co48] 35 (0, 0)) (bk BK228.out) hb)
              replace HB := am (below_step (bb HB.out) hb)
              (try clear hb)
              (try clear hb2)
              (try clear hk)
              (try clear hi)
              obtain ⟨Ao131, co131, eo131⟩ := Kd.R_slice HO244.out
              (first | subst eo131 | (injection eo131 with f1_ f2_ f3_; have f4_ := f1_.symm; have f5_ := f3_.symm; clear f1_ f2_ f3_; subst f4_; subst f5_))
              refine hK.out _ _ ⟨(blk_cell BK197.out 0).trans rfl, (blk_cell BK197.out 1).trans rfl, (blk_cell BK198.out 0).trans rfl, (blk_cell BK198.out 1).trans rfl, (blk_cell BK198.out 2).trans rfl, (blk_cell BK198.out 3).trans rfl⟩ (fun hHeld => ?_)
              clear hK K
              refine norm_ (a' := ?_) ?_ ?_
              rotate_left
              ·show Act.put _ (some 83) _ = _
               simp only [Act.put, List.setIfInBounds_toArray, List.set_cons_zero, List.set_cons_succ, i64_w, i32_w]
               rfl
              refine two_ (i := 4) (j := 8) (Ni := some 84) (Nj := some 14) #[true, true, true, true, true, false, false, false, false, false, false] #[true, true, true, true, false, false, false, false, true, false, false] rfl rfl rfl rfl (two_of HT_.out (by kernel_rfl)) (by decide) (by decide) (fun K hK => ?_) (fun K hK => ?_)
              ·skip
               refine goes_ Try.func24 (by kernel_rfl) rfl #[.agg #[.int .i64 t241, .slice Ao131 t242.length co131], .agg #[.int .i64 t245, .int .i64 t246, .int .i64 t247, .int .i64 t248]] (by rfl) rfl rfl (by (try simp only [List.map_toArray, List.map_cons, List.map_nil]); first | done | rfl | (simp only [List.length_drop, List.length_take]; rfl)) ?_
               with_reducible refine (impl_AddClue.calls kj76 t241 _ _ t242 t245 t246 t247 t248 t249 t250 t253 _ ?side1 ?side2 A118.out).mono ?_
               (case side1 => repeat (first | exact (Kd.R_reads' HO244.out).2.2 | (with_reducible refine Kd.C_alloc ?_ _) | (with_reducible refine Kd.C_drewN ?_ _) | (with_reducible refine Kd.C_drew ?_)))
               (case side2 => exact (Kd.R_reads' HO244.out).2.1)
               rintro e w132 ⟨v251, rfl, ho0, hb⟩
               refine ⟨_, rfl, ?_⟩
               have n0_ := am (Kd.R_elder' (br HO_214001.out) (Kd.R_base ho0) hb)
               have n1_ := am (Kd.R_elder' (br HO_219001.out) (Kd.R_base ho0) hb)
               have n2_ := am (Kd.R_elder' (br HO_229001.out) (Kd.R_base ho0) hb)
               have n3_ := am (Kd.R_elder' (br HO244.out) (Kd.R_base ho0) hb)
               have n4_ := am (Kd.R_lower (Kd.R_new' (Kd.R_new' (Kd.R_new' (Kd.R_new' ho0 (Kd.R_lt (br HO_214001.out))) (Kd.R_lt (br HO_219001.out))) (Kd.R_lt (br HO_229001.out))) (Kd.R_lt (br HO244.out))) (below_size (bb HB.out)))
               have n5_ := am (blk_below (g := gb197) (o := .cells #[.int .i64 a0_0, .slice A0_1 l0_1.length c0_1] 30 (0, 0)) (bk BK197.out) hb)
               have n6_ := am (blk_below (g := gb198) (o := .cells #[.int .i64 a1_0, .int .i64 a1_1, .int .i64 a1_2, .int .i64 a1_3] 23 (0, 0)) (bk BK198.out) hb)
               have n7_ := am (blk_below (g := gb213) (o := .cells #[.int .i64 t208, .slice Ao30 t209.length co30] 35 (0, 0)) (bk BK213.out) hb)
               have n8_ := am (blk_below (g := gb218) (o := .cells #[.int .i64 t214, .slice Ao40 t236.length co40] 35 (0, 0)) (bk BK218.out) hb)
               have n9_ := am (blk_below (g := gb228) (o := .cells #[.int .i64 t223, .slice Ao48 t224.length co48] 35 (0, 0)) (bk BK228.out) hb)
               have n10_ := am (below_step (bb HB.out) hb)
               clear HO_214001
               clear HO_219001
               clear HO_229001
               clear HO244
               clear BK197
               clear BK198
               clear BK213
               clear BK218
               clear BK228
               clear HB
               have HO_214001 := n0_
               have HO_219001 := n1_
               have HO_229001 := n2_
               have HO244 := n3_
               have HO252 := n4_
               have BK197 := n5_
               have BK198 := n6_
               have BK213 := n7_
               have BK218 := n8_
               have BK228 := n9_
               have HB := n10_
               clear n0_ n1_ n2_ n3_ n4_ n5_ n6_ n7_ n8_ n9_ n10_
               (try clear hb)
               (try clear hb2)
               (try clear hk)
               (try clear hi)
               (try clear ho0)
               refine hK.out _ _ ⟨(blk_cell BK197.out 0).trans rfl, (blk_cell BK197.out 1).trans rfl, (blk_cell BK198.out 0).trans rfl, (blk_cell BK198.out 1).trans rfl, (blk_cell BK198.out 2).trans rfl, (blk_cell BK198.out 3).trans rfl⟩ (fun hHeld => ?_)
               clear hK K
               refine norm_ (a' := ?_) ?_ ?_
               rotate_left
               ·show Act.put _ (some 84) _ = _
                simp only [Act.put, List.setIfInBounds_toArray, List.set_cons_zero, List.set_cons_succ, i64_w, i32_w]
                rfl
               refine pure_ (i := 5) (N := some 79) (v := ?_) (a' := ?_) #[true, true, true, true, true, true, false, false, false, false, false] rfl rfl (any_of HT_.out (by kernel_rfl)) (fun _ _ _ h => h) (Or.inl ⟨by rfl, ?_⟩) ?_ ?_
               rotate_left
               ·intro w'
                go_simp
                with_reducible rfl
               rotate_left
               ·simp only [Act.put, List.setIfInBounds_toArray, List.set_cons_zero, List.set_cons_succ, i64_w, i32_w]
                rfl
               refine pure_ (i := 6) (N := some 85) (v := ?_) (a' := ?_) #[true, true, true, true, true, true, true, false, false, false, false] rfl rfl (any_of HT_.out (by kernel_rfl)) (fun _ _ _ h => h) (Or.inl ⟨by rfl, ?_⟩) ?_ ?_
               rotate_left
               ·intro w'
                go_simp
                with_reducible rfl
               rotate_left
               ·simp only [Act.put, List.setIfInBounds_toArray, List.set_cons_zero, List.set_cons_succ, i64_w, i32_w]
                rfl
               refine pure_ (i := 7) (N := some 86) (v := ?_) (a' := ?_) #[true, true, true, true, true, true, true, true, false, false, false] rfl rfl (any_of HT_.out (by kernel_rfl)) (fun _ _ _ h => h) (Or.inl ⟨by rfl, ?_⟩) ?_ ?_
               rotate_left
               ·intro w'
                go_simp
                with_reducible rfl
               rotate_left
               ·simp only [Act.put, List.setIfInBounds_toArray, List.set_cons_zero, List.set_cons_succ, i64_w, i32_w]
                rfl
               refine one_ (i := 8) (N := some 14) #[true, true, true, true, true, true, true, true, true, false, false] rfl rfl (one_of HT_.out (by kernel_rfl)) (by decide) (fun K hK => ?_)
               refine box_step ?hg (N := 14) ?hd (cs := #[.int .i64 0, .slice none 0 0]) (t := 35) ?hr ?_; (case hd => rfl); (case hg => rfl); (case hr => first | (go_simp; done) | (go_simp; rfl))
               intro gb254 hg w133 hbox hb
               have n0_ := am (Kd.R_below (br HO_214001.out) hb)
               have n1_ := am (Kd.R_below (br HO_219001.out) hb)
               have n2_ := am (Kd.R_below (br HO_229001.out) hb)
               have n3_ := am (Kd.R_below (br HO244.out) hb)
               have n4_ := am (Kd.R_below (br HO252.out) hb)
               have n5_ := am (blk_below (g := gb197) (o := .cells #[.int .i64 a0_0, .slice A0_1 l0_1.length c0_1] 30 (0, 0)) (bk BK197.out) hb)
               have n6_ := am (blk_below (g := gb198) (o := .cells #[.int .i64 a1_0, .int .i64 a1_1, .int .i64 a1_2, .int .i64 a1_3] 23 (0, 0)) (bk BK198.out) hb)
               have n7_ := am (blk_below (g := gb213) (o := .cells #[.int .i64 t208, .slice Ao30 t209.length co30] 35 (0, 0)) (bk BK213.out) hb)
               have n8_ := am (blk_below (g := gb218) (o := .cells #[.int .i64 t214, .slice Ao40 t236.length co40] 35 (0, 0)) (bk BK218.out) hb)
               have n9_ := am (blk_below (g := gb228) (o := .cells #[.int .i64 t223, .slice Ao48 t224.length co48] 35 (0, 0)) (bk BK228.out) hb)
               have n10_ := am (below_step (bb HB.out) hb)
               have n11_ := am (hbox)
               have n12_ := am ((by rw [hg]; exact (below_size (bb HB.out)) : w.heap.size ≤ gb254))
               have n13_ := am ((by rw [hg]; exact (below_size (bb HB.out)) : w.heap.size ≤ gb254))
               have n14_ := am ((by rw [hg]; exact Nat.ne_of_lt (blk_lt (g := gb197) (o := .cells #[.int .i64 a0_0, .slice A0_1 l0_1.length c0_1] 30 (0, 0)) (bk BK197.out)) : gb197 ≠ gb254))
               have n15_ := am ((by rw [hg]; exact Nat.ne_of_gt (blk_lt (g := gb197) (o := .cells #[.int .i64 a0_0, .slice A0_1 l0_1.length c0_1] 30 (0, 0)) (bk BK197.out)) : gb254 ≠ gb197))
               have n16_ := am ((by rw [hg]; exact Nat.ne_of_lt (blk_lt (g := gb198) (o := .cells #[.int .i64 a1_0, .int .i64 a1_1, .int .i64 a1_2, .int .i64 a1_3] 23 (0, 0)) (bk BK198.out)) : gb198 ≠ gb254))
               have n17_ := am ((by rw [hg]; exact Nat.ne_of_gt (blk_lt (g := gb198) (o := .cells #[.int .i64 a1_0, .int .i64 a1_1, .int .i64 a1_2, .int .i64 a1_3] 23 (0, 0)) (bk BK198.out)) : gb254 ≠ gb198))
               have n18_ := am ((by rw [hg]; exact Nat.ne_of_lt (blk_lt (g := gb213) (o := .cells #[.int .i64 t208, .slice Ao30 t209.length co30] 35 (0, 0)) (bk BK213.out)) : gb213 ≠ gb254))
               have n19_ := am ((by rw [hg]; exact Nat.ne_of_gt (blk_lt (g := gb213) (o := .cells #[.int .i64 t208, .slice Ao30 t209.length co30] 35 (0, 0)) (bk BK213.out)) : gb254 ≠ gb213))
               have n20_ := am ((by rw [hg]; exact Nat.ne_of_lt (blk_lt (g := gb218) (o := .cells #[.int .i64 t214, .slice Ao40 t236.length co40] 35 (0, 0)) (bk BK218.out)) : gb218 ≠ gb254))
               have n21_ := am ((by rw [hg]; exact Nat.ne_of_gt (blk_lt (g := gb218) (o := .cells #[.int .i64 t214, .slice Ao40 t236.length co40] 35 (0, 0)) (bk BK218.out)) : gb254 ≠ gb218))
               have n22_ := am ((by rw [hg]; exact Nat.ne_of_lt (blk_lt (g := gb228) (o := .cells #[.int .i64 t223, .slice Ao48 t224.length co48] 35 (0, 0)) (bk BK228.out)) : gb228 ≠ gb254))
               have n23_ := am ((by rw [hg]; exact Nat.ne_of_gt (blk_lt (g := gb228) (o := .cells #[.int .i64 t223, .slice Ao48 t224.length co48] 35 (0, 0)) (bk BK228.out)) : gb254 ≠ gb228))
               clear HO_214001
               clear HO_219001
               clear HO_229001
               clear HO244
               clear HO252
               clear BK197
               clear BK198
               clear BK213
               clear BK218
               clear BK228
               clear HB
               have HO_214001 := n0_
               have HO_219001 := n1_
               have HO_229001 := n2_
               have HO244 := n3_
               have HO252 := n4_
               have BK197 := n5_
               have BK198 := n6_
               have BK213 := n7_
               have BK218 := n8_
               have BK228 := n9_
               have HB := n10_
               have BK254 := n11_
               have GW254 := n12_
               have GE254 := n13_
               have NB197_254 := n14_
               have NB254_197 := n15_
               have NB198_254 := n16_
               have NB254_198 := n17_
               have NB213_254 := n18_
               have NB254_213 := n19_
               have NB218_254 := n20_
               have NB254_218 := n21_
               have NB228_254 := n22_
               have NB254_228 := n23_
               clear n0_ n1_ n2_ n3_ n4_ n5_ n6_ n7_ n8_ n9_ n10_ n11_ n12_ n13_ n14_ n15_ n16_ n17_ n18_ n19_ n20_ n21_ n22_ n23_
               clear hb hbox hg
               refine hK.out _ _ ⟨(blk_cell BK197.out 0).trans rfl, (blk_cell BK197.out 1).trans rfl, (blk_cell BK198.out 0).trans rfl, (blk_cell BK198.out 1).trans rfl, (blk_cell BK198.out 2).trans rfl, (blk_cell BK198.out 3).trans rfl⟩ (fun hHeld => ?_)
               clear hK K
               refine norm_ (a' := ?_) ?_ ?_
               rotate_left
               ·show Act.put _ (some 14) _ = _
                simp only [Act.put, List.setIfInBounds_toArray, List.set_cons_zero, List.set_cons_succ, i64_w, i32_w]
                rfl
               exact norm_ (by simp only [putAll, Act.put, List.setIfInBounds_toArray, List.set_cons_zero, List.set_cons_succ]) (hCont (.slice Ao131 t242.length co131, v251, gb254) _ ⟨hHeld, (by (with_reducible repeat (first | apply Kd.R_alloc | apply Kd.R_drewN | apply Kd.R_drew)); exact Kd.R_mono HO244.out (fun _ hk => ⟨hk.2, ⟨hk.1.1.1.2, ⟨hk.1.1.2, hk.1.2⟩⟩⟩)), (by (with_reducible repeat (first | apply Kd.R_alloc | apply Kd.R_drewN | apply Kd.R_drew)); exact Kd.R_mono HO252.out (fun _ hk => ⟨hk.2, ⟨hk.1.1.1.2, ⟨hk.1.1.2, hk.1.2⟩⟩⟩)), (by (with_reducible repeat (first | apply Kd.R_alloc | apply Kd.R_drewN | apply Kd.R_drew)); exact Kd.R_mono HO_214001.out (fun _ hk => ⟨hk.1.2, ⟨hk.2, ⟨hk.1.1.1, hk.1.1.2⟩⟩⟩)), (by (with_reducible repeat (first | apply Kd.R_alloc | apply Kd.R_drewN | apply Kd.R_drew)); exact Kd.R_mono HO_219001.out (fun _ hk => ⟨hk.1.2, ⟨hk.2, ⟨hk.1.1.1, hk.1.1.2⟩⟩⟩)), (by (with_reducible repeat (first | apply Kd.R_alloc | apply Kd.R_drewN | apply Kd.R_drew)); exact Kd.R_mono HO_229001.out (fun _ hk => ⟨hk.1.2, ⟨hk.2, ⟨hk.1.1.1, hk.1.1.2⟩⟩⟩)), (bk BK197.out), (bk BK198.out), (bk BK213.out), (bk BK218.out), (bk BK228.out), (bk BK254.out), GW254.out, GE254.out, NB197_254.out, NB254_197.out, NB198_254.out, NB254_198.out, NB213_254.out, NB254_213.out, NB218_254.out, NB254_218.out, NB228_254.out, NB254_228.out, (bb HB.out)⟩)
              ·skip
               refine box_step ?hg (N := 14) ?hd (cs := #[.int .i64 0, .slice none 0 0]) (t := 35) ?hr ?_; (case hd => rfl); (case hg => rfl); (case hr => first | (go_simp; done) | (go_simp; rfl))
               intro gb254 hg w131 hbox hb
               have n0_ := am (Kd.R_below (br HO_214001.out) hb)
               have n1_ := am (Kd.R_below (br HO_219001.out) hb)
               have n2_ := am (Kd.R_below (br HO_229001.out) hb)
               have n3_ := am (Kd.R_below (br HO244.out) hb)
               have n4_ := am (blk_below (g := gb197) (o := .cells #[.int .i64 a0_0, .slice A0_1 l0_1.length c0_1] 30 (0, 0)) (bk BK197.out) hb)
               have n5_ := am (blk_below (g := gb198) (o := .cells #[.int .i64 a1_0, .int .i64 a1_1, .int .i64 a1_2, .int .i64 a1_3] 23 (0, 0)) (bk BK198.out) hb)
               have n6_ := am (blk_below (g := gb213) (o := .cells #[.int .i64 t208, .slice Ao30 t209.length co30] 35 (0, 0)) (bk BK213.out) hb)
               have n7_ := am (blk_below (g := gb218) (o := .cells #[.int .i64 t214, .slice Ao40 t236.length co40] 35 (0, 0)) (bk BK218.out) hb)
               have n8_ := am (blk_below (g := gb228) (o := .cells #[.int .i64 t223, .slice Ao48 t224.length co48] 35 (0, 0)) (bk BK228.out) hb)
               have n9_ := am (below_step (bb HB.out) hb)
               have n10_ := am (hbox)
               have n11_ := am ((by rw [hg]; exact (below_size (bb HB.out)) : w.heap.size ≤ gb254))
               have n12_ := am ((by rw [hg]; exact (below_size (bb HB.out)) : w.heap.size ≤ gb254))
               have n13_ := am ((by rw [hg]; exact Nat.ne_of_lt (blk_lt (g := gb197) (o := .cells #[.int .i64 a0_0, .slice A0_1 l0_1.length c0_1] 30 (0, 0)) (bk BK197.out)) : gb197 ≠ gb254))
               have n14_ := am ((by rw [hg]; exact Nat.ne_of_gt (blk_lt (g := gb197) (o := .cells #[.int .i64 a0_0, .slice A0_1 l0_1.length c0_1] 30 (0, 0)) (bk BK197.out)) : gb254 ≠ gb197))
               have n15_ := am ((by rw [hg]; exact Nat.ne_of_lt (blk_lt (g := gb198) (o := .cells #[.int .i64 a1_0, .int .i64 a1_1, .int .i64 a1_2, .int .i64 a1_3] 23 (0, 0)) (bk BK198.out)) : gb198 ≠ gb254))
               have n16_ := am ((by rw [hg]; exact Nat.ne_of_gt (blk_lt (g := gb198) (o := .cells #[.int .i64 a1_0, .int .i64 a1_1, .int .i64 a1_2, .int .i64 a1_3] 23 (0, 0)) (bk BK198.out)) : gb254 ≠ gb198))
               have n17_ := am ((by rw [hg]; exact Nat.ne_of_lt (blk_lt (g := gb213) (o := .cells #[.int .i64 t208, .slice Ao30 t209.length co30] 35 (0, 0)) (bk BK213.out)) : gb213 ≠ gb254))
               have n18_ := am ((by rw [hg]; exact Nat.ne_of_gt (blk_lt (g := gb213) (o := .cells #[.int .i64 t208, .slice Ao30 t209.length co30] 35 (0, 0)) (bk BK213.out)) : gb254 ≠ gb213))
               have n19_ := am ((by rw [hg]; exact Nat.ne_of_lt (blk_lt (g := gb218) (o := .cells #[.int .i64 t214, .slice Ao40 t236.length co40] 35 (0, 0)) (bk BK218.out)) : gb218 ≠ gb254))
               have n20_ := am ((by rw [hg]; exact Nat.ne_of_gt (blk_lt (g := gb218) (o := .cells #[.int .i64 t214, .slice Ao40 t236.length co40] 35 (0, 0)) (bk BK218.out)) : gb254 ≠ gb218))
               have n21_ := am ((by rw [hg]; exact Nat.ne_of_lt (blk_lt (g := gb228) (o := .cells #[.int .i64 t223, .slice Ao48 t224.length co48] 35 (0, 0)) (bk BK228.out)) : gb228 ≠ gb254))
               have n22_ := am ((by rw [hg]; exact Nat.ne_of_gt (blk_lt (g := gb228) (o := .cells #[.int .i64 t223, .slice Ao48 t224.length co48] 35 (0, 0)) (bk BK228.out)) : gb254 ≠ gb228))
               clear HO_214001
               clear HO_219001
               clear HO_229001
               clear HO244
               clear BK197
               clear BK198
               clear BK213
               clear BK218
               clear BK228
               clear HB
               have HO_214001 := n0_
               have HO_219001 := n1_
               have HO_229001 := n2_
               have HO244 := n3_
               have BK197 := n4_
               have BK198 := n5_
               have BK213 := n6_
               have BK218 := n7_
               have BK228 := n8_
               have HB := n9_
               have BK254 := n10_
               have GW254 := n11_
               have GE254 := n12_
               have NB197_254 := n13_
               have NB254_197 := n14_
               have NB198_254 := n15_
               have NB254_198 := n16_
               have NB213_254 := n17_
               have NB254_213 := n18_
               have NB218_254 := n19_
               have NB254_218 := n20_
               have NB228_254 := n21_
               have NB254_228 := n22_
               clear n0_ n1_ n2_ n3_ n4_ n5_ n6_ n7_ n8_ n9_ n10_ n11_ n12_ n13_ n14_ n15_ n16_ n17_ n18_ n19_ n20_ n21_ n22_
               clear hb hbox hg
               obtain ⟨Ao132, co132, eo132⟩ := Kd.R_slice HO244.out
               (first | subst eo132 | (injection eo132 with f1_ f2_ f3_; have f4_ := f1_.symm; have f5_ := f3_.symm; clear f1_ f2_ f3_; subst f4_; subst f5_))
               refine hK.out _ _ ⟨(blk_cell BK197.out 0).trans rfl, (blk_cell BK197.out 1).trans rfl, (blk_cell BK198.out 0).trans rfl, (blk_cell BK198.out 1).trans rfl, (blk_cell BK198.out 2).trans rfl, (blk_cell BK198.out 3).trans rfl⟩ (fun hHeld => ?_)
               clear hK K
               refine norm_ (a' := ?_) ?_ ?_
               rotate_left
               ·show Act.put _ (some 14) _ = _
                simp only [Act.put, List.setIfInBounds_toArray, List.set_cons_zero, List.set_cons_succ, i64_w, i32_w]
                rfl
               refine one_ (i := 4) (N := some 84) #[true, true, true, true, true, false, false, false, true, false, false] rfl rfl (one_of HT_.out (by kernel_rfl)) (by decide) (fun K hK => ?_)
               refine goes_ Try.func24 (by kernel_rfl) rfl #[.agg #[.int .i64 t241, .slice Ao132 t242.length co132], .agg #[.int .i64 t245, .int .i64 t246, .int .i64 t247, .int .i64 t248]] (by rfl) rfl rfl (by (try simp only [List.map_toArray, List.map_cons, List.map_nil]); first | done | rfl | (simp only [List.length_drop, List.length_take]; rfl)) ?_
               with_reducible refine (impl_AddClue.calls kj76 t241 _ _ t242 t245 t246 t247 t248 t249 t250 t253 _ ?side1 ?side2 A118.out).mono ?_
               (case side1 => repeat (first | exact (Kd.R_reads' HO244.out).2.2 | (with_reducible refine Kd.C_alloc ?_ _) | (with_reducible refine Kd.C_drewN ?_ _) | (with_reducible refine Kd.C_drew ?_)))
               (case side2 => exact (Kd.R_reads' HO244.out).2.1)
               rintro e w133 ⟨v251, rfl, ho0, hb⟩
               refine ⟨_, rfl, ?_⟩
               have n0_ := am (Kd.R_elder' (br HO_214001.out) (Kd.R_base ho0) hb)
               have n1_ := am (Kd.R_elder' (br HO_219001.out) (Kd.R_base ho0) hb)
               have n2_ := am (Kd.R_elder' (br HO_229001.out) (Kd.R_base ho0) hb)
               have n3_ := am (Kd.R_elder' (br HO244.out) (Kd.R_base ho0) hb)
               have n4_ := am (Kd.R_lower (Kd.R_new' (Kd.R_new' (Kd.R_new' (Kd.R_new' ho0 (Kd.R_lt (br HO_214001.out))) (Kd.R_lt (br HO_219001.out))) (Kd.R_lt (br HO_229001.out))) (Kd.R_lt (br HO244.out))) (below_size (bb HB.out)))
               have n5_ := am (blk_below (g := gb197) (o := .cells #[.int .i64 a0_0, .slice A0_1 l0_1.length c0_1] 30 (0, 0)) (bk BK197.out) hb)
               have n6_ := am (blk_below (g := gb198) (o := .cells #[.int .i64 a1_0, .int .i64 a1_1, .int .i64 a1_2, .int .i64 a1_3] 23 (0, 0)) (bk BK198.out) hb)
               have n7_ := am (blk_below (g := gb213) (o := .cells #[.int .i64 t208, .slice Ao30 t209.length co30] 35 (0, 0)) (bk BK213.out) hb)
               have n8_ := am (blk_below (g := gb218) (o := .cells #[.int .i64 t214, .slice Ao40 t236.length co40] 35 (0, 0)) (bk BK218.out) hb)
               have n9_ := am (blk_below (g := gb228) (o := .cells #[.int .i64 t223, .slice Ao48 t224.length co48] 35 (0, 0)) (bk BK228.out) hb)
               have n10_ := am (blk_below (g := gb254) (o := .cells #[.int .i64 0, .slice none 0 0] 35 (0, 0)) (bk BK254.out) hb)
               have n11_ := am (below_step (bb HB.out) hb)
               clear HO_214001
               clear HO_219001
               clear HO_229001
               clear HO244
               clear BK197
               clear BK198
               clear BK213
               clear BK218
               clear BK228
               clear BK254
               clear HB
               have HO_214001 := n0_
               have HO_219001 := n1_
               have HO_229001 := n2_
               have HO244 := n3_
               have HO252 := n4_
               have BK197 := n5_
               have BK198 := n6_
               have BK213 := n7_
               have BK218 := n8_
               have BK228 := n9_
               have BK254 := n10_
               have HB := n11_
               clear n0_ n1_ n2_ n3_ n4_ n5_ n6_ n7_ n8_ n9_ n10_ n11_
               (try clear hb)
               (try clear hb2)
               (try clear hk)
               (try clear hi)
               (try clear ho0)
               refine hK.out _ _ ⟨(blk_cell BK197.out 0).trans rfl, (blk_cell BK197.out 1).trans rfl, (blk_cell BK198.out 0).trans rfl, (blk_cell BK198.out 1).trans rfl, (blk_cell BK198.out 2).trans rfl, (blk_cell BK198.out 3).trans rfl⟩ (fun hHeld => ?_)
               clear hK K
               refine norm_ (a' := ?_) ?_ ?_
               rotate_left
               ·show Act.put _ (some 84) _ = _
                simp only [Act.put, List.setIfInBounds_toArray, List.set_cons_zero, List.set_cons_succ, i64_w, i32_w]
                rfl
               refine pure_ (i := 5) (N := some 79) (v := ?_) (a' := ?_) #[true, true, true, true, true, true, false, false, true, false, false] rfl rfl (any_of HT_.out (by kernel_rfl)) (fun _ _ _ h => h) (Or.inl ⟨by rfl, ?_⟩) ?_ ?_
               rotate_left
               ·intro w'
                go_simp
                with_reducible rfl
               rotate_left
               ·simp only [Act.put, List.setIfInBounds_toArray, List.set_cons_zero, List.set_cons_succ, i64_w, i32_w]
                rfl
               refine pure_ (i := 6) (N := some 85) (v := ?_) (a' := ?_) #[true, true, true, true, true, true, true, false, true, false, false] rfl rfl (any_of HT_.out (by kernel_rfl)) (fun _ _ _ h => h) (Or.inl ⟨by rfl, ?_⟩) ?_ ?_
               rotate_left
               ·intro w'
                go_simp
                with_reducible rfl
               rotate_left
               ·simp only [Act.put, List.setIfInBounds_toArray, List.set_cons_zero, List.set_cons_succ, i64_w, i32_w]
                rfl
               refine pure_ (i := 7) (N := some 86) (v := ?_) (a' := ?_) #[true, true, true, true, true, true, true, true, true, false, false] rfl rfl (any_of HT_.out (by kernel_rfl)) (fun _ _ _ h => h) (Or.inl ⟨by rfl, ?_⟩) ?_ ?_
               rotate_left
               ·intro w'
                go_simp
                with_reducible rfl
               rotate_left
               ·simp only [Act.put, List.setIfInBounds_toArray, List.set_cons_zero, List.set_cons_succ, i64_w, i32_w]
                rfl
               exact norm_ (by simp only [putAll, Act.put, List.setIfInBounds_toArray, List.set_cons_zero, List.set_cons_succ]) (hCont (.slice Ao132 t242.length co132, v251, gb254) _ ⟨hHeld, (by (with_reducible repeat (first | apply Kd.R_alloc | apply Kd.R_drewN | apply Kd.R_drew)); exact Kd.R_mono HO244.out (fun _ hk => ⟨hk.2, ⟨hk.1.1.1.2, ⟨hk.1.1.2, hk.1.2⟩⟩⟩)), (by (with_reducible repeat (first | apply Kd.R_alloc | apply Kd.R_drewN | apply Kd.R_drew)); exact Kd.R_mono HO252.out (fun _ hk => ⟨hk.2, ⟨hk.1.1.1.2, ⟨hk.1.1.2, hk.1.2⟩⟩⟩)), (by (with_reducible repeat (first | apply Kd.R_alloc | apply Kd.R_drewN | apply Kd.R_drew)); exact Kd.R_mono HO_214001.out (fun _ hk => ⟨hk.1.2, ⟨hk.2, ⟨hk.1.1.1, hk.1.1.2⟩⟩⟩)), (by (with_reducible repeat (first | apply Kd.R_alloc | apply Kd.R_drewN | apply Kd.R_drew)); exact Kd.R_mono HO_219001.out (fun _ hk => ⟨hk.1.2, ⟨hk.2, ⟨hk.1.1.1, hk.1.1.2⟩⟩⟩)), (by (with_reducible repeat (first | apply Kd.R_alloc | apply Kd.R_drewN | apply Kd.R_drew)); exact Kd.R_mono HO_229001.out (fun _ hk => ⟨hk.1.2, ⟨hk.2, ⟨hk.1.1.1, hk.1.1.2⟩⟩⟩)), (bk BK197.out), (bk BK198.out), (bk BK213.out), (bk BK218.out), (bk BK228.out), (bk BK254.out), GW254.out, GE254.out, NB197_254.out, NB254_197.out, NB198_254.out, NB254_198.out, NB213_254.out, NB254_213.out, NB218_254.out, NB254_218.out, NB228_254.out, NB254_228.out, (bb HB.out)⟩)
             ·skip
              refine box_step ?hg (N := 14) ?hd (cs := #[.int .i64 0, .slice none 0 0]) (t := 35) ?hr ?_; (case hd => rfl); (case hg => rfl); (case hr => first | (go_simp; done) | (go_simp; rfl))
              intro gb254 hg w130 hbox hb
              have n0_ := am (Kd.R_below (br HO_214001.out) hb)
              have n1_ := am (Kd.R_below (br HO_219001.out) hb)
              have n2_ := am (Kd.R_below (br HO_229001.out) hb)
              have n3_ := am (Kd.R_below (br HO244.out) hb)
              have n4_ := am (blk_below (g := gb197) (o := .cells #[.int .i64 a0_0, .slice A0_1 l0_1.length c0_1] 30 (0, 0)) (bk BK197.out) hb)
              have n5_ := am (blk_below (g := gb198) (o := .cells #[.int .i64 a1_0, .int .i64 a1_1, .int .i64 a1_2, .int .i64 a1_3] 23 (0, 0)) (bk BK198.out) hb)
              have n6_ := am (blk_below (g := gb213) (o := .cells #[.int .i64 t208, .slice Ao30 t209.length co30] 35 (0, 0)) (bk BK213.out) hb)
              have n7_ := am (blk_below (g := gb218) (o := .cells #[.int .i64 t214, .slice Ao40 t236.length co40] 35 (0, 0)) (bk BK218.out) hb)
              have n8_ := am (blk_below (g := gb228) (o := .cells #[.int .i64 t223, .slice Ao48 t224.length co48] 35 (0, 0)) (bk BK228.out) hb)
              have n9_ := am (below_step (bb HB.out) hb)
              have n10_ := am (hbox)
              have n11_ := am ((by rw [hg]; exact (below_size (bb HB.out)) : w.heap.size ≤ gb254))
              have n12_ := am ((by rw [hg]; exact (below_size (bb HB.out)) : w.heap.size ≤ gb254))
              have n13_ := am ((by rw [hg]; exact Nat.ne_of_lt (blk_lt (g := gb197) (o := .cells #[.int .i64 a0_0, .slice A0_1 l0_1.length c0_1] 30 (0, 0)) (bk BK197.out)) : gb197 ≠ gb254))
              have n14_ := am ((by rw [hg]; exact Nat.ne_of_gt (blk_lt (g := gb197) (o := .cells #[.int .i64 a0_0, .slice A0_1 l0_1.length c0_1] 30 (0, 0)) (bk BK197.out)) : gb254 ≠ gb197))
              have n15_ := am ((by rw [hg]; exact Nat.ne_of_lt (blk_lt (g := gb198) (o := .cells #[.int .i64 a1_0, .int .i64 a1_1, .int .i64 a1_2, .int .i64 a1_3] 23 (0, 0)) (bk BK198.out)) : gb198 ≠ gb254))
              have n16_ := am ((by rw [hg]; exact Nat.ne_of_gt (blk_lt (g := gb198) (o := .cells #[.int .i64 a1_0, .int .i64 a1_1, .int .i64 a1_2, .int .i64 a1_3] 23 (0, 0)) (bk BK198.out)) : gb254 ≠ gb198))
              have n17_ := am ((by rw [hg]; exact Nat.ne_of_lt (blk_lt (g := gb213) (o := .cells #[.int .i64 t208, .slice Ao30 t209.length co30] 35 (0, 0)) (bk BK213.out)) : gb213 ≠ gb254))
              have n18_ := am ((by rw [hg]; exact Nat.ne_of_gt (blk_lt (g := gb213) (o := .cells #[.int .i64 t208, .slice Ao30 t209.length co30] 35 (0, 0)) (bk BK213.out)) : gb254 ≠ gb213))
              have n19_ := am ((by rw [hg]; exact Nat.ne_of_lt (blk_lt (g := gb218) (o := .cells #[.int .i64 t214, .slice Ao40 t236.length co40] 35 (0, 0)) (bk BK218.out)) : gb218 ≠ gb254))
              have n20_ := am ((by rw [hg]; exact Nat.ne_of_gt (blk_lt (g := gb218) (o := .cells #[.int .i64 t214, .slice Ao40 t236.length co40] 35 (0, 0)) (bk BK218.out)) : gb254 ≠ gb218))
              have n21_ := am ((by rw [hg]; exact Nat.ne_of_lt (blk_lt (g := gb228) (o := .cells #[.int .i64 t223, .slice Ao48 t224.length co48] 35 (0, 0)) (bk BK228.out)) : gb228 ≠ gb254))
              have n22_ := am ((by rw [hg]; exact Nat.ne_of_gt (blk_lt (g := gb228) (o := .cells #[.int .i64 t223, .slice Ao48 t224.length co48] 35 (0, 0)) (bk BK228.out)) : gb254 ≠ gb228))
              clear HO_214001
              clear HO_219001
              clear HO_229001
              clear HO244
              clear BK197
              clear BK198
              clear BK213
              clear BK218
              clear BK228
              clear HB
              have HO_214001 := n0_
              have HO_219001 := n1_
              have HO_229001 := n2_
              have HO244 := n3_
              have BK197 := n4_
              have BK198 := n5_
              have BK213 := n6_
              have BK218 := n7_
              have BK228 := n8_
              have HB := n9_
              have BK254 := n10_
              have GW254 := n11_
              have GE254 := n12_
              have NB197_254 := n13_
              have NB254_197 := n14_
              have NB198_254 := n15_
              have NB254_198 := n16_
              have NB213_254 := n17_
              have NB254_213 := n18_
              have NB218_254 := n19_
              have NB254_218 := n20_
              have NB228_254 := n21_
              have NB254_228 := n22_
              clear n0_ n1_ n2_ n3_ n4_ n5_ n6_ n7_ n8_ n9_ n10_ n11_ n12_ n13_ n14_ n15_ n16_ n17_ n18_ n19_ n20_ n21_ n22_
              clear hb hbox hg
              refine hK.out _ _ ⟨(blk_cell BK197.out 0).trans rfl, (blk_cell BK197.out 1).trans rfl, (blk_cell BK198.out 0).trans rfl, (blk_cell BK198.out 1).trans rfl, (blk_cell BK198.out 2).trans rfl, (blk_cell BK198.out 3).trans rfl⟩ (fun hHeld => ?_)
              clear hK K
              refine norm_ (a' := ?_) ?_ ?_
              rotate_left
              ·show Act.put _ (some 14) _ = _
               simp only [Act.put, List.setIfInBounds_toArray, List.set_cons_zero, List.set_cons_succ, i64_w, i32_w]
               rfl
              refine one_ (i := 3) (N := some 83) #[true, true, true, true, false, false, false, false, true, false, false] rfl rfl (one_of HT_.out (by kernel_rfl)) (by decide) (fun K hK => ?_)
              refine goes_ Try.func16 (by kernel_rfl) rfl #[.agg #[.int .i64 a1_0, .int .i64 a1_1, .int .i64 a1_2, .int .i64 a1_3]] (by rfl) rfl rfl (by (try simp only [List.map_toArray, List.map_cons, List.map_nil]); first | done | rfl | (simp only [List.length_drop, List.length_take]; rfl)) ?_
              with_reducible refine (laws_toClue.calls a1_0 a1_1 a1_2 a1_3 t245 t246 t247 t248 _ A117.out).mono ?_
              rintro e w131 ⟨rfl, hb⟩
              refine ⟨_, rfl, ?_⟩
              replace HO_214001 := am (Kd.R_below (br HO_214001.out) hb)
              replace HO_219001 := am (Kd.R_below (br HO_219001.out) hb)
              replace HO_229001 := am (Kd.R_below (br HO_229001.out) hb)
              replace HO244 := am (Kd.R_below (br HO244.out) hb)
              replace BK197 := am (blk_below (g := gb197) (o := .cells #[.int .i64 a0_0, .slice A0_1 l0_1.length c0_1] 30 (0, 0)) (bk BK197.out) hb)
              replace BK198 := am (blk_below (g := gb198) (o := .cells #[.int .i64 a1_0, .int .i64 a1_1, .int .i64 a1_2, .int .i64 a1_3] 23 (0, 0)) (bk BK198.out) hb)
              replace BK213 := am (blk_below (g := gb213) (o := .cells #[.int .i64 t208, .slice Ao30 t209.length co30] 35 (0, 0)) (bk BK213.out) hb)
              replace BK218 := am (blk_below (g := gb218) (o := .cells #[.int .i64 t214, .slice Ao40 t236.length co40] 35 (0, 0)) (bk BK218.out) hb)
              replace BK228 := am (blk_below (g := gb228) (o := .cells #[.int .i64 t223, .slice Ao48 t224.length co48] 35 (0, 0)) (bk BK228.out) hb)
              replace BK254 := am (blk_below (g := gb254) (o := .cells #[.int .i64 0, .slice none 0 0] 35 (0, 0)) (bk BK254.out) hb)
              replace HB := am (below_step (bb HB.out) hb)
              (try clear hb)
              (try clear hb2)
              (try clear hk)
              (try clear hi)
              obtain ⟨Ao132, co132, eo132⟩ := Kd.R_slice HO244.out
              (first | subst eo132 | (injection eo132 with f1_ f2_ f3_; have f4_ := f1_.symm; have f5_ := f3_.symm; clear f1_ f2_ f3_; subst f4_; subst f5_))
              refine hK.out _ _ ⟨(blk_cell BK197.out 0).trans rfl, (blk_cell BK197.out 1).trans rfl, (blk_cell BK198.out 0).trans rfl, (blk_cell BK198.out 1).trans rfl, (blk_cell BK198.out 2).trans rfl, (blk_cell BK198.out 3).trans rfl⟩ (fun hHeld => ?_)
              clear hK K
              refine norm_ (a' := ?_) ?_ ?_
              rotate_left
              ·show Act.put _ (some 83) _ = _
               simp only [Act.put, List.setIfInBounds_toArray, List.set_cons_zero, List.set_cons_succ, i64_w, i32_w]
               rfl
              refine one_ (i := 4) (N := some 84) #[true, true, true, true, true, false, false, false, true, false, false] rfl rfl (one_of HT_.out (by kernel_rfl)) (by decide) (fun K hK => ?_)
              refine goes_ Try.func24 (by kernel_rfl) rfl #[.agg #[.int .i64 t241, .slice Ao132 t242.length co132], .agg #[.int .i64 t245, .int .i64 t246, .int .i64 t247, .int .i64 t248]] (by rfl) rfl rfl (by (try simp only [List.map_toArray, List.map_cons, List.map_nil]); first | done | rfl | (simp only [List.length_drop, List.length_take]; rfl)) ?_
              with_reducible refine (impl_AddClue.calls kj76 t241 _ _ t242 t245 t246 t247 t248 t249 t250 t253 _ ?side1 ?side2 A118.out).mono ?_
              (case side1 => repeat (first | exact (Kd.R_reads' HO244.out).2.2 | (with_reducible refine Kd.C_alloc ?_ _) | (with_reducible refine Kd.C_drewN ?_ _) | (with_reducible refine Kd.C_drew ?_)))
              (case side2 => exact (Kd.R_reads' HO244.out).2.1)
              rintro e w133 ⟨v251, rfl, ho0, hb⟩
              refine ⟨_, rfl, ?_⟩
              have n0_ := am (Kd.R_elder' (br HO_214001.out) (Kd.R_base ho0) hb)
              have n1_ := am (Kd.R_elder' (br HO_219001.out) (Kd.R_base ho0) hb)
              have n2_ := am (Kd.R_elder' (br HO_229001.out) (Kd.R_base ho0) hb)
              have n3_ := am (Kd.R_elder' (br HO244.out) (Kd.R_base ho0) hb)
              have n4_ := am (Kd.R_lower (Kd.R_new' (Kd.R_new' (Kd.R_new' (Kd.R_new' ho0 (Kd.R_lt (br HO_214001.out))) (Kd.R_lt (br HO_219001.out))) (Kd.R_lt (br HO_229001.out))) (Kd.R_lt (br HO244.out))) (below_size (bb HB.out)))
              have n5_ := am (blk_below (g := gb197) (o := .cells #[.int .i64 a0_0, .slice A0_1 l0_1.length c0_1] 30 (0, 0)) (bk BK197.out) hb)
              have n6_ := am (blk_below (g := gb198) (o := .cells #[.int .i64 a1_0, .int .i64 a1_1, .int .i64 a1_2, .int .i64 a1_3] 23 (0, 0)) (bk BK198.out) hb)
              have n7_ := am (blk_below (g := gb213) (o := .cells #[.int .i64 t208, .slice Ao30 t209.length co30] 35 (0, 0)) (bk BK213.out) hb)
              have n8_ := am (blk_below (g := gb218) (o := .cells #[.int .i64 t214, .slice Ao40 t236.length co40] 35 (0, 0)) (bk BK218.out) hb)
              have n9_ := am (blk_below (g := gb228) (o := .cells #[.int .i64 t223, .slice Ao48 t224.length co48] 35 (0, 0)) (bk BK228.out) hb)
              have n10_ := am (blk_below (g := gb254) (o := .cells #[.int .i64 0, .slice none 0 0] 35 (0, 0)) (bk BK254.out) hb)
              have n11_ := am (below_step (bb HB.out) hb)
              clear HO_214001
              clear HO_219001
              clear HO_229001
              clear HO244
              clear BK197
              clear BK198
              clear BK213
              clear BK218
              clear BK228
              clear BK254
              clear HB
              have HO_214001 := n0_
              have HO_219001 := n1_
              have HO_229001 := n2_
              have HO244 := n3_
              have HO252 := n4_
              have BK197 := n5_
              have BK198 := n6_
              have BK213 := n7_
              have BK218 := n8_
              have BK228 := n9_
              have BK254 := n10_
              have HB := n11_
              clear n0_ n1_ n2_ n3_ n4_ n5_ n6_ n7_ n8_ n9_ n10_ n11_
              (try clear hb)
              (try clear hb2)
              (try clear hk)
              (try clear hi)
              (try clear ho0)
              refine hK.out _ _ ⟨(blk_cell BK197.out 0).trans rfl, (blk_cell BK197.out 1).trans rfl, (blk_cell BK198.out 0).trans rfl, (blk_cell BK198.out 1).trans rfl, (blk_cell BK198.out 2).trans rfl, (blk_cell BK198.out 3).trans rfl⟩ (fun hHeld => ?_)
              clear hK K
              refine norm_ (a' := ?_) ?_ ?_
              rotate_left
              ·show Act.put _ (some 84) _ = _
               simp only [Act.put, List.setIfInBounds_toArray, List.set_cons_zero, List.set_cons_succ, i64_w, i32_w]
               rfl
              refine pure_ (i := 5) (N := some 79) (v := ?_) (a' := ?_) #[true, true, true, true, true, true, false, false, true, false, false] rfl rfl (any_of HT_.out (by kernel_rfl)) (fun _ _ _ h => h) (Or.inl ⟨by rfl, ?_⟩) ?_ ?_
              rotate_left
              ·intro w'
               go_simp
               with_reducible rfl
              rotate_left
              ·simp only [Act.put, List.setIfInBounds_toArray, List.set_cons_zero, List.set_cons_succ, i64_w, i32_w]
               rfl
              refine pure_ (i := 6) (N := some 85) (v := ?_) (a' := ?_) #[true, true, true, true, true, true, true, false, true, false, false] rfl rfl (any_of HT_.out (by kernel_rfl)) (fun _ _ _ h => h) (Or.inl ⟨by rfl, ?_⟩) ?_ ?_
              rotate_left
              ·intro w'
               go_simp
               with_reducible rfl
              rotate_left
              ·simp only [Act.put, List.setIfInBounds_toArray, List.set_cons_zero, List.set_cons_succ, i64_w, i32_w]
               rfl
              refine pure_ (i := 7) (N := some 86) (v := ?_) (a' := ?_) #[true, true, true, true, true, true, true, true, true, false, false] rfl rfl (any_of HT_.out (by kernel_rfl)) (fun _ _ _ h => h) (Or.inl ⟨by rfl, ?_⟩) ?_ ?_
              rotate_left
              ·intro w'
               go_simp
               with_reducible rfl
              rotate_left
              ·simp only [Act.put, List.setIfInBounds_toArray, List.set_cons_zero, List.set_cons_succ, i64_w, i32_w]
               rfl
              exact norm_ (by simp only [putAll, Act.put, List.setIfInBounds_toArray, List.set_cons_zero, List.set_cons_succ]) (hCont (.slice Ao132 t242.length co132, v251, gb254) _ ⟨hHeld, (by (with_reducible repeat (first | apply Kd.R_alloc | apply Kd.R_drewN | apply Kd.R_drew)); exact Kd.R_mono HO244.out (fun _ hk => ⟨hk.2, ⟨hk.1.1.1.2, ⟨hk.1.1.2, hk.1.2⟩⟩⟩)), (by (with_reducible repeat (first | apply Kd.R_alloc | apply Kd.R_drewN | apply Kd.R_drew)); exact Kd.R_mono HO252.out (fun _ hk => ⟨hk.2, ⟨hk.1.1.1.2, ⟨hk.1.1.2, hk.1.2⟩⟩⟩)), (by (with_reducible repeat (first | apply Kd.R_alloc | apply Kd.R_drewN | apply Kd.R_drew)); exact Kd.R_mono HO_214001.out (fun _ hk => ⟨hk.1.2, ⟨hk.2, ⟨hk.1.1.1, hk.1.1.2⟩⟩⟩)), (by (with_reducible repeat (first | apply Kd.R_alloc | apply Kd.R_drewN | apply Kd.R_drew)); exact Kd.R_mono HO_219001.out (fun _ hk => ⟨hk.1.2, ⟨hk.2, ⟨hk.1.1.1, hk.1.1.2⟩⟩⟩)), (by (with_reducible repeat (first | apply Kd.R_alloc | apply Kd.R_drewN | apply Kd.R_drew)); exact Kd.R_mono HO_229001.out (fun _ hk => ⟨hk.1.2, ⟨hk.2, ⟨hk.1.1.1, hk.1.1.2⟩⟩⟩)), (bk BK197.out), (bk BK198.out), (bk BK213.out), (bk BK218.out), (bk BK228.out), (bk BK254.out), GW254.out, GE254.out, NB197_254.out, NB254_197.out, NB198_254.out, NB254_198.out, NB213_254.out, NB254_213.out, NB218_254.out, NB254_218.out, NB228_254.out, NB254_228.out, (bb HB.out)⟩)
            ·skip
             refine box_step ?hg (N := 14) ?hd (cs := #[.int .i64 0, .slice none 0 0]) (t := 35) ?hr ?_; (case hd => rfl); (case hg => rfl); (case hr => first | (go_simp; done) | (go_simp; rfl))
             intro gb254 hg w129 hbox hb
             have n0_ := am (Kd.R_below (br HO_214001.out) hb)
             have n1_ := am (Kd.R_below (br HO_219001.out) hb)
             have n2_ := am (Kd.R_below (br HO_229001.out) hb)
             have n3_ := am (blk_below (g := gb197) (o := .cells #[.int .i64 a0_0, .slice A0_1 l0_1.length c0_1] 30 (0, 0)) (bk BK197.out) hb)
             have n4_ := am (blk_below (g := gb198) (o := .cells #[.int .i64 a1_0, .int .i64 a1_1, .int .i64 a1_2, .int .i64 a1_3] 23 (0, 0)) (bk BK198.out) hb)
             have n5_ := am (blk_below (g := gb213) (o := .cells #[.int .i64 t208, .slice Ao30 t209.length co30] 35 (0, 0)) (bk BK213.out) hb)
             have n6_ := am (blk_below (g := gb218) (o := .cells #[.int .i64 t214, .slice Ao40 t236.length co40] 35 (0, 0)) (bk BK218.out) hb)
             have n7_ := am (blk_below (g := gb228) (o := .cells #[.int .i64 t223, .slice Ao48 t224.length co48] 35 (0, 0)) (bk BK228.out) hb)
             have n8_ := am (below_step (bb HB.out) hb)
             have n9_ := am (hbox)
             have n10_ := am ((by rw [hg]; exact (below_size (bb HB.out)) : w.heap.size ≤ gb254))
             have n11_ := am ((by rw [hg]; exact (below_size (bb HB.out)) : w.heap.size ≤ gb254))
             have n12_ := am ((by rw [hg]; exact Nat.ne_of_lt (blk_lt (g := gb197) (o := .cells #[.int .i64 a0_0, .slice A0_1 l0_1.length c0_1] 30 (0, 0)) (bk BK197.out)) : gb197 ≠ gb254))
             have n13_ := am ((by rw [hg]; exact Nat.ne_of_gt (blk_lt (g := gb197) (o := .cells #[.int .i64 a0_0, .slice A0_1 l0_1.length c0_1] 30 (0, 0)) (bk BK197.out)) : gb254 ≠ gb197))
             have n14_ := am ((by rw [hg]; exact Nat.ne_of_lt (blk_lt (g := gb198) (o := .cells #[.int .i64 a1_0, .int .i64 a1_1, .int .i64 a1_2, .int .i64 a1_3] 23 (0, 0)) (bk BK198.out)) : gb198 ≠ gb254))
             have n15_ := am ((by rw [hg]; exact Nat.ne_of_gt (blk_lt (g := gb198) (o := .cells #[.int .i64 a1_0, .int .i64 a1_1, .int .i64 a1_2, .int .i64 a1_3] 23 (0, 0)) (bk BK198.out)) : gb254 ≠ gb198))
             have n16_ := am ((by rw [hg]; exact Nat.ne_of_lt (blk_lt (g := gb213) (o := .cells #[.int .i64 t208, .slice Ao30 t209.length co30] 35 (0, 0)) (bk BK213.out)) : gb213 ≠ gb254))
             have n17_ := am ((by rw [hg]; exact Nat.ne_of_gt (blk_lt (g := gb213) (o := .cells #[.int .i64 t208, .slice Ao30 t209.length co30] 35 (0, 0)) (bk BK213.out)) : gb254 ≠ gb213))
             have n18_ := am ((by rw [hg]; exact Nat.ne_of_lt (blk_lt (g := gb218) (o := .cells #[.int .i64 t214, .slice Ao40 t236.length co40] 35 (0, 0)) (bk BK218.out)) : gb218 ≠ gb254))
             have n19_ := am ((by rw [hg]; exact Nat.ne_of_gt (blk_lt (g := gb218) (o := .cells #[.int .i64 t214, .slice Ao40 t236.length co40] 35 (0, 0)) (bk BK218.out)) : gb254 ≠ gb218))
             have n20_ := am ((by rw [hg]; exact Nat.ne_of_lt (blk_lt (g := gb228) (o := .cells #[.int .i64 t223, .slice Ao48 t224.length co48] 35 (0, 0)) (bk BK228.out)) : gb228 ≠ gb254))
             have n21_ := am ((by rw [hg]; exact Nat.ne_of_gt (blk_lt (g := gb228) (o := .cells #[.int .i64 t223, .slice Ao48 t224.length co48] 35 (0, 0)) (bk BK228.out)) : gb254 ≠ gb228))
             clear HO_214001
             clear HO_219001
             clear HO_229001
             clear BK197
             clear BK198
             clear BK213
             clear BK218
             clear BK228
             clear HB
             have HO_214001 := n0_
             have HO_219001 := n1_
             have HO_229001 := n2_
             have BK197 := n3_
             have BK198 := n4_
             have BK213 := n5_
             have BK218 := n6_
             have BK228 := n7_
             have HB := n8_
             have BK254 := n9_
             have GW254 := n10_
             have GE254 := n11_
             have NB197_254 := n12_
             have NB254_197 := n13_
             have NB198_254 := n14_
             have NB254_198 := n15_
             have NB213_254 := n16_
             have NB254_213 := n17_
             have NB218_254 := n18_
             have NB254_218 := n19_
             have NB228_254 := n20_
             have NB254_228 := n21_
             clear n0_ n1_ n2_ n3_ n4_ n5_ n6_ n7_ n8_ n9_ n10_ n11_ n12_ n13_ n14_ n15_ n16_ n17_ n18_ n19_ n20_ n21_
             clear hb hbox hg
             refine hK.out _ _ ⟨(blk_cell BK197.out 0).trans rfl, (blk_cell BK197.out 1).trans rfl, (blk_cell BK198.out 0).trans rfl, (blk_cell BK198.out 1).trans rfl, (blk_cell BK198.out 2).trans rfl, (blk_cell BK198.out 3).trans rfl⟩ (fun hHeld => ?_)
             clear hK K
             refine norm_ (a' := ?_) ?_ ?_
             rotate_left
             ·show Act.put _ (some 14) _ = _
              simp only [Act.put, List.setIfInBounds_toArray, List.set_cons_zero, List.set_cons_succ, i64_w, i32_w]
              rfl
             refine one_ (i := 1) (N := some 81) #[true, true, true, false, false, false, false, false, true, false, false] rfl rfl (one_of HT_.out (by kernel_rfl)) (by decide) (fun K hK => ?_)
             refine goes_ Try.func20 (by kernel_rfl) rfl #[.agg #[.int .i64 a0_0, .slice A0_1 l0_1.length c0_1]] (by rfl) rfl rfl (by (try simp only [List.map_toArray, List.map_cons, List.map_nil]); first | done | rfl | (simp only [List.length_drop, List.length_take]; rfl)) ?_
             with_reducible refine (laws_toPuzzle.calls kj76 a0_0 _ _ l0_1 t241 t242 _ ?side1 ?side2 A116.out).mono ?_
             (case side1 => repeat (first | exact (Kd.C_below HR0_1.out HB.out) | (with_reducible refine Kd.C_alloc ?_ _) | (with_reducible refine Kd.C_drewN ?_ _) | (with_reducible refine Kd.C_drew ?_)))
             (case side2 => exact HC0_1.out)
             rintro e w130 ⟨v243, rfl, ho0, hb⟩
             refine ⟨_, rfl, ?_⟩
             have n0_ := am (Kd.R_elder' (br HO_214001.out) (Kd.R_base ho0) hb)
             have n1_ := am (Kd.R_elder' (br HO_219001.out) (Kd.R_base ho0) hb)
             have n2_ := am (Kd.R_elder' (br HO_229001.out) (Kd.R_base ho0) hb)
             have n3_ := am (Kd.R_lower (Kd.R_new' (Kd.R_new' (Kd.R_new' ho0 (Kd.R_lt (br HO_214001.out))) (Kd.R_lt (br HO_219001.out))) (Kd.R_lt (br HO_229001.out))) (below_size (bb HB.out)))
             have n4_ := am (blk_below (g := gb197) (o := .cells #[.int .i64 a0_0, .slice A0_1 l0_1.length c0_1] 30 (0, 0)) (bk BK197.out) hb)
             have n5_ := am (blk_below (g := gb198) (o := .cells #[.int .i64 a1_0, .int .i64 a1_1, .int .i64 a1_2, .int .i64 a1_3] 23 (0, 0)) (bk BK198.out) hb)
             have n6_ := am (blk_below (g := gb213) (o := .cells #[.int .i64 t208, .slice Ao30 t209.length co30] 35 (0, 0)) (bk BK213.out) hb)
             have n7_ := am (blk_below (g := gb218) (o := .cells #[.int .i64 t214, .slice Ao40 t236.length co40] 35 (0, 0)) (bk BK218.out) hb)
             have n8_ := am (blk_below (g := gb228) (o := .cells #[.int .i64 t223, .slice Ao48 t224.length co48] 35 (0, 0)) (bk BK228.out) hb)
             have n9_ := am (blk_below (g := gb254) (o := .cells #[.int .i64 0, .slice none 0 0] 35 (0, 0)) (bk BK254.out) hb)
             have n10_ := am (below_step (bb HB.out) hb)
             clear HO_214001
             clear HO_219001
             clear HO_229001
             clear BK197
             clear BK198
             clear BK213
             clear BK218
             clear BK228
             clear BK254
             clear HB
             have HO_214001 := n0_
             have HO_219001 := n1_
             have HO_229001 := n2_
             have HO244 := n3_
             have BK197 := n4_
             have BK198 := n5_
             have BK213 := n6_
             have BK218 := n7_
             have BK228 := n8_
             have BK254 := n9_
             have HB := n10_
             clear n0_ n1_ n2_ n3_ n4_ n5_ n6_ n7_ n8_ n9_ n10_
             (try clear hb)
             (try clear hb2)
             (try clear hk)
             (try clear hi)
             (try clear ho0)
             refine hK.out _ _ ⟨(blk_cell BK197.out 0).trans rfl, (blk_cell BK197.out 1).trans rfl, (blk_cell BK198.out 0).trans rfl, (blk_cell BK198.out 1).trans rfl, (blk_cell BK198.out 2).trans rfl, (blk_cell BK198.out 3).trans rfl⟩ (fun hHeld => ?_)
             clear hK K
             refine norm_ (a' := ?_) ?_ ?_
             rotate_left
             ·show Act.put _ (some 81) _ = _
              simp only [Act.put, List.setIfInBounds_toArray, List.set_cons_zero, List.set_cons_succ, i64_w, i32_w]
              rfl
             refine one_ (i := 3) (N := some 83) #[true, true, true, true, false, false, false, false, true, false, false] rfl rfl (one_of HT_.out (by kernel_rfl)) (by decide) (fun K hK => ?_)
             refine goes_ Try.func16 (by kernel_rfl) rfl #[.agg #[.int .i64 a1_0, .int .i64 a1_1, .int .i64 a1_2, .int .i64 a1_3]] (by rfl) rfl rfl (by (try simp only [List.map_toArray, List.map_cons, List.map_nil]); first | done | rfl | (simp only [List.length_drop, List.length_take]; rfl)) ?_
             with_reducible refine (laws_toClue.calls a1_0 a1_1 a1_2 a1_3 t245 t246 t247 t248 _ A117.out).mono ?_
             rintro e w131 ⟨rfl, hb⟩
             refine ⟨_, rfl, ?_⟩
             replace HO_214001 := am (Kd.R_below (br HO_214001.out) hb)
             replace HO_219001 := am (Kd.R_below (br HO_219001.out) hb)
             replace HO_229001 := am (Kd.R_below (br HO_229001.out) hb)
             replace HO244 := am (Kd.R_below (br HO244.out) hb)
             replace BK197 := am (blk_below (g := gb197) (o := .cells #[.int .i64 a0_0, .slice A0_1 l0_1.length c0_1] 30 (0, 0)) (bk BK197.out) hb)
             replace BK198 := am (blk_below (g := gb198) (o := .cells #[.int .i64 a1_0, .int .i64 a1_1, .int .i64 a1_2, .int .i64 a1_3] 23 (0, 0)) (bk BK198.out) hb)
             replace BK213 := am (blk_below (g := gb213) (o := .cells #[.int .i64 t208, .slice Ao30 t209.length co30] 35 (0, 0)) (bk BK213.out) hb)
             replace BK218 := am (blk_below (g := gb218) (o := .cells #[.int .i64 t214, .slice Ao40 t236.length co40] 35 (0, 0)) (bk BK218.out) hb)
             replace BK228 := am (blk_below (g := gb228) (o := .cells #[.int .i64 t223, .slice Ao48 t224.length co48] 35 (0, 0)) (bk BK228.out) hb)
             replace BK254 := am (blk_below (g := gb254) (o := .cells #[.int .i64 0, .slice none 0 0] 35 (0, 0)) (bk BK254.out) hb)
             replace HB := am (below_step (bb HB.out) hb)
             (try clear hb)
             (try clear hb2)
             (try clear hk)
             (try clear hi)
             obtain ⟨Ao132, co132, eo132⟩ := Kd.R_slice HO244.out
             (first | subst eo132 | (injection eo132 with f1_ f2_ f3_; have f4_ := f1_.symm; have f5_ := f3_.symm; clear f1_ f2_ f3_; subst f4_; subst f5_))
             refine hK.out _ _ ⟨(blk_cell BK197.out 0).trans rfl, (blk_cell BK197.out 1).trans rfl, (blk_cell BK198.out 0).trans rfl, (blk_cell BK198.out 1).trans rfl, (blk_cell BK198.out 2).trans rfl, (blk_cell BK198.out 3).trans rfl⟩ (fun hHeld => ?_)
             clear hK K
             refine norm_ (a' := ?_) ?_ ?_
             rotate_left
             ·show Act.put _ (some 83) _ = _
              simp only [Act.put, List.setIfInBounds_toArray, List.set_cons_zero, List.set_cons_succ, i64_w, i32_w]
              rfl
             refine one_ (i := 4) (N := some 84) #[true, true, true, true, true, false, false, false, true, false, false] rfl rfl (one_of HT_.out (by kernel_rfl)) (by decide) (fun K hK => ?_)
             refine goes_ Try.func24 (by kernel_rfl) rfl #[.agg #[.int .i64 t241, .slice Ao132 t242.length co132], .agg #[.int .i64 t245, .int .i64 t246, .int .i64 t247, .int .i64 t248]] (by rfl) rfl rfl (by (try simp only [List.map_toArray, List.map_cons, List.map_nil]); first | done | rfl | (simp only [List.length_drop, List.length_take]; rfl)) ?_
             with_reducible refine (impl_AddClue.calls kj76 t241 _ _ t242 t245 t246 t247 t248 t249 t250 t253 _ ?side1 ?side2 A118.out).mono ?_
             (case side1 => repeat (first | exact (Kd.R_reads' HO244.out).2.2 | (with_reducible refine Kd.C_alloc ?_ _) | (with_reducible refine Kd.C_drewN ?_ _) | (with_reducible refine Kd.C_drew ?_)))
             (case side2 => exact (Kd.R_reads' HO244.out).2.1)
             rintro e w133 ⟨v251, rfl, ho0, hb⟩
             refine ⟨_, rfl, ?_⟩
             have n0_ := am (Kd.R_elder' (br HO_214001.out) (Kd.R_base ho0) hb)
             have n1_ := am (Kd.R_elder' (br HO_219001.out) (Kd.R_base ho0) hb)
             have n2_ := am (Kd.R_elder' (br HO_229001.out) (Kd.R_base ho0) hb)
             have n3_ := am (Kd.R_elder' (br HO244.out) (Kd.R_base ho0) hb)
             have n4_ := am (Kd.R_lower (Kd.R_new' (Kd.R_new' (Kd.R_new' (Kd.R_new' ho0 (Kd.R_lt (br HO_214001.out))) (Kd.R_lt (br HO_219001.out))) (Kd.R_lt (br HO_229001.out))) (Kd.R_lt (br HO244.out))) (below_size (bb HB.out)))
             have n5_ := am (blk_below (g := gb197) (o := .cells #[.int .i64 a0_0, .slice A0_1 l0_1.length c0_1] 30 (0, 0)) (bk BK197.out) hb)
             have n6_ := am (blk_below (g := gb198) (o := .cells #[.int .i64 a1_0, .int .i64 a1_1, .int .i64 a1_2, .int .i64 a1_3] 23 (0, 0)) (bk BK198.out) hb)
             have n7_ := am (blk_below (g := gb213) (o := .cells #[.int .i64 t208, .slice Ao30 t209.length co30] 35 (0, 0)) (bk BK213.out) hb)
             have n8_ := am (blk_below (g := gb218) (o := .cells #[.int .i64 t214, .slice Ao40 t236.length co40] 35 (0, 0)) (bk BK218.out) hb)
             have n9_ := am (blk_below (g := gb228) (o := .cells #[.int .i64 t223, .slice Ao48 t224.length co48] 35 (0, 0)) (bk BK228.out) hb)
             have n10_ := am (blk_below (g := gb254) (o := .cells #[.int .i64 0, .slice none 0 0] 35 (0, 0)) (bk BK254.out) hb)
             have n11_ := am (below_step (bb HB.out) hb)
             clear HO_214001
             clear HO_219001
             clear HO_229001
             clear HO244
             clear BK197
             clear BK198
             clear BK213
             clear BK218
             clear BK228
             clear BK254
             clear HB
             have HO_214001 := n0_
             have HO_219001 := n1_
             have HO_229001 := n2_
             have HO244 := n3_
             have HO252 := n4_
             have BK197 := n5_
             have BK198 := n6_
             have BK213 := n7_
             have BK218 := n8_
             have BK228 := n9_
             have BK254 := n10_
             have HB := n11_
             clear n0_ n1_ n2_ n3_ n4_ n5_ n6_ n7_ n8_ n9_ n10_ n11_
             (try clear hb)
             (try clear hb2)
             (try clear hk)
             (try clear hi)
             (try clear ho0)
             refine hK.out _ _ ⟨(blk_cell BK197.out 0).trans rfl, (blk_cell BK197.out 1).trans rfl, (blk_cell BK198.out 0).trans rfl, (blk_cell BK198.out 1).trans rfl, (blk_cell BK198.out 2).trans rfl, (blk_cell BK198.out 3).trans rfl⟩ (fun hHeld => ?_)
             clear hK K
             refine norm_ (a' := ?_) ?_ ?_
             rotate_left
             ·show Act.put _ (some 84) _ = _
              simp only [Act.put, List.setIfInBounds_toArray, List.set_cons_zero, List.set_cons_succ, i64_w, i32_w]
              rfl
             refine pure_ (i := 5) (N := some 79) (v := ?_) (a' := ?_) #[true, true, true, true, true, true, false, false, true, false, false] rfl rfl (any_of HT_.out (by kernel_rfl)) (fun _ _ _ h => h) (Or.inl ⟨by rfl, ?_⟩) ?_ ?_
             rotate_left
             ·intro w'
              go_simp
              with_reducible rfl
             rotate_left
             ·simp only [Act.put, List.setIfInBounds_toArray, List.set_cons_zero, List.set_cons_succ, i64_w, i32_w]
              rfl
             refine pure_ (i := 6) (N := some 85) (v := ?_) (a' := ?_) #[true, true, true, true, true, true, true, false, true, false, false] rfl rfl (any_of HT_.out (by kernel_rfl)) (fun _ _ _ h => h) (Or.inl ⟨by rfl, ?_⟩) ?_ ?_
             rotate_left
             ·intro w'
              go_simp
              with_reducible rfl
             rotate_left
             ·simp only [Act.put, List.setIfInBounds_toArray, List.set_cons_zero, List.set_cons_succ, i64_w, i32_w]
              rfl
             refine pure_ (i := 7) (N := some 86) (v := ?_) (a' := ?_) #[true, true, true, true, true, true, true, true, true, false, false] rfl rfl (any_of HT_.out (by kernel_rfl)) (fun _ _ _ h => h) (Or.inl ⟨by rfl, ?_⟩) ?_ ?_
             rotate_left
             ·intro w'
              go_simp
              with_reducible rfl
             rotate_left
             ·simp only [Act.put, List.setIfInBounds_toArray, List.set_cons_zero, List.set_cons_succ, i64_w, i32_w]
              rfl
             exact norm_ (by simp only [putAll, Act.put, List.setIfInBounds_toArray, List.set_cons_zero, List.set_cons_succ]) (hCont (.slice Ao132 t242.length co132, v251, gb254) _ ⟨hHeld, (by (with_reducible repeat (first | apply Kd.R_alloc | apply Kd.R_drewN | apply Kd.R_drew)); exact Kd.R_mono HO244.out (fun _ hk => ⟨hk.2, ⟨hk.1.1.1.2, ⟨hk.1.1.2, hk.1.2⟩⟩⟩)), (by (with_reducible repeat (first | apply Kd.R_alloc | apply Kd.R_drewN | apply Kd.R_drew)); exact Kd.R_mono HO252.out (fun _ hk => ⟨hk.2, ⟨hk.1.1.1.2, ⟨hk.1.1.2, hk.1.2⟩⟩⟩)), (by (with_reducible repeat (first | apply Kd.R_alloc | apply Kd.R_drewN | apply Kd.R_drew)); exact Kd.R_mono HO_214001.out (fun _ hk => ⟨hk.1.2, ⟨hk.2, ⟨hk.1.1.1, hk.1.1.2⟩⟩⟩)), (by (with_reducible repeat (first | apply Kd.R_alloc | apply Kd.R_drewN | apply Kd.R_drew)); exact Kd.R_mono HO_219001.out (fun _ hk => ⟨hk.1.2, ⟨hk.2, ⟨hk.1.1.1, hk.1.1.2⟩⟩⟩)), (by (with_reducible repeat (first | apply Kd.R_alloc | apply Kd.R_drewN | apply Kd.R_drew)); exact Kd.R_mono HO_229001.out (fun _ hk => ⟨hk.1.2, ⟨hk.2, ⟨hk.1.1.1, hk.1.1.2⟩⟩⟩)), (bk BK197.out), (bk BK198.out), (bk BK213.out), (bk BK218.out), (bk BK228.out), (bk BK254.out), GW254.out, GE254.out, NB197_254.out, NB254_197.out, NB198_254.out, NB254_198.out, NB213_254.out, NB254_213.out, NB218_254.out, NB254_218.out, NB228_254.out, NB254_228.out, (bb HB.out)⟩)
           rintro ⟨v243, v251, gb254⟩ w134 ⟨hS_, h0_, h1_, h2_, h3_, h4_, h5_, h6_, h7_, h8_, h9_, h10_, h11_, h12_, h13_, h14_, h15_, h16_, h17_, h18_, h19_, h20_, h21_, h22_, h23_⟩
           have n0_ : Aside0 (Kd.R k25 25 w134 w.heap.size (fun k_ => some k_ ≠ (v251 : Value).ownBlock ∧ some k_ ≠ (.slice Ao30 t209.length co30 : Value).ownBlock ∧ some k_ ≠ (.slice Ao40 t236.length co40 : Value).ownBlock ∧ some k_ ≠ (.slice Ao48 t224.length co48 : Value).ownBlock) v243 t242) := ⟨h0_⟩
           have n1_ : Aside0 (Kd.R k25 25 w134 w.heap.size (fun k_ => some k_ ≠ (v243 : Value).ownBlock ∧ some k_ ≠ (.slice Ao30 t209.length co30 : Value).ownBlock ∧ some k_ ≠ (.slice Ao40 t236.length co40 : Value).ownBlock ∧ some k_ ≠ (.slice Ao48 t224.length co48 : Value).ownBlock) v251 t250) := ⟨h1_⟩
           have n2_ : Aside0 (Kd.R k25 25 w134 w.heap.size (fun k_ => some k_ ≠ (v243 : Value).ownBlock ∧ some k_ ≠ (v251 : Value).ownBlock ∧ some k_ ≠ (.slice Ao40 t236.length co40 : Value).ownBlock ∧ some k_ ≠ (.slice Ao48 t224.length co48 : Value).ownBlock) (.slice Ao30 t209.length co30) t209) := ⟨h2_⟩
           have n3_ : Aside0 (Kd.R k25 25 w134 w.heap.size (fun k_ => some k_ ≠ (v243 : Value).ownBlock ∧ some k_ ≠ (v251 : Value).ownBlock ∧ some k_ ≠ (.slice Ao30 t209.length co30 : Value).ownBlock ∧ some k_ ≠ (.slice Ao48 t224.length co48 : Value).ownBlock) (.slice Ao40 t236.length co40) t236) := ⟨h3_⟩
           have n4_ : Aside0 (Kd.R k25 25 w134 w.heap.size (fun k_ => some k_ ≠ (v243 : Value).ownBlock ∧ some k_ ≠ (v251 : Value).ownBlock ∧ some k_ ≠ (.slice Ao30 t209.length co30 : Value).ownBlock ∧ some k_ ≠ (.slice Ao40 t236.length co40 : Value).ownBlock) (.slice Ao48 t224.length co48) t239) := ⟨h4_⟩
           have n5_ : Aside0 (w134.heap[gb197]? = some (.cells #[.int .i64 a0_0, .slice A0_1 l0_1.length c0_1] 30 (0, 0))) := ⟨h5_⟩
           have n6_ : Aside0 (w134.heap[gb198]? = some (.cells #[.int .i64 a1_0, .int .i64 a1_1, .int .i64 a1_2, .int .i64 a1_3] 23 (0, 0))) := ⟨h6_⟩
           have n7_ : Aside0 (w134.heap[gb213]? = some (.cells #[.int .i64 t208, .slice Ao30 t209.length co30] 35 (0, 0))) := ⟨h7_⟩
           have n8_ : Aside0 (w134.heap[gb218]? = some (.cells #[.int .i64 t214, .slice Ao40 t236.length co40] 35 (0, 0))) := ⟨h8_⟩
           have n9_ : Aside0 (w134.heap[gb228]? = some (.cells #[.int .i64 t223, .slice Ao48 t224.length co48] 35 (0, 0))) := ⟨h9_⟩
           have n10_ : Aside0 (w134.heap[gb254]? = some (.cells #[.int .i64 0, .slice none 0 0] 35 (0, 0))) := ⟨h10_⟩
           have n11_ : Aside0 (w.heap.size ≤ gb254) := ⟨h11_⟩
           have n12_ : Aside0 (w.heap.size ≤ gb254) := ⟨h12_⟩
           have n13_ : Aside0 (gb197 ≠ gb254) := ⟨h13_⟩
           have n14_ : Aside0 (gb254 ≠ gb197) := ⟨h14_⟩
           have n15_ : Aside0 (gb198 ≠ gb254) := ⟨h15_⟩
           have n16_ : Aside0 (gb254 ≠ gb198) := ⟨h16_⟩
           have n17_ : Aside0 (gb213 ≠ gb254) := ⟨h17_⟩
           have n18_ : Aside0 (gb254 ≠ gb213) := ⟨h18_⟩
           have n19_ : Aside0 (gb218 ≠ gb254) := ⟨h19_⟩
           have n20_ : Aside0 (gb254 ≠ gb218) := ⟨h20_⟩
           have n21_ : Aside0 (gb228 ≠ gb254) := ⟨h21_⟩
           have n22_ : Aside0 (gb254 ≠ gb228) := ⟨h22_⟩
           have n23_ : Aside0 (Below w.heap.size w w134) := ⟨h23_⟩
           clear HO_214001
           clear HO_219001
           clear HO_229001
           clear BK197
           clear BK198
           clear BK213
           clear BK218
           clear BK228
           clear HB
           clear h0_ h1_ h2_ h3_ h4_ h5_ h6_ h7_ h8_ h9_ h10_ h11_ h12_ h13_ h14_ h15_ h16_ h17_ h18_ h19_ h20_ h21_ h22_ h23_
           have HO244 := n0_
           have HO252 := n1_
           have HO_214001 := n2_
           have HO_219001 := n3_
           have HO_229001 := n4_
           have BK197 := n5_
           have BK198 := n6_
           have BK213 := n7_
           have BK218 := n8_
           have BK228 := n9_
           have BK254 := n10_
           have GW254 := n11_
           have GE254 := n12_
           have NB197_254 := n13_
           have NB254_197 := n14_
           have NB198_254 := n15_
           have NB254_198 := n16_
           have NB213_254 := n17_
           have NB254_213 := n18_
           have NB218_254 := n19_
           have NB254_218 := n20_
           have NB228_254 := n21_
           have NB254_228 := n22_
           have HB := n23_
           clear n0_ n1_ n2_ n3_ n4_ n5_ n6_ n7_ n8_ n9_ n10_ n11_ n12_ n13_ n14_ n15_ n16_ n17_ n18_ n19_ n20_ n21_ n22_ n23_
           have hHeld : w134.cell? ⟨gb197, 0, none⟩ = some (.int .i64 a0_0) ∧ w134.cell? ⟨gb197, 1, none⟩ = some (.slice A0_1 l0_1.length c0_1) ∧ w134.cell? ⟨gb198, 0, none⟩ = some (.int .i64 a1_0) ∧ w134.cell? ⟨gb198, 1, none⟩ = some (.int .i64 a1_1) ∧ w134.cell? ⟨gb198, 2, none⟩ = some (.int .i64 a1_2) ∧ w134.cell? ⟨gb198, 3, none⟩ = some (.int .i64 a1_3) := hS_
           obtain ⟨Ao136, co136, eo136⟩ := Kd.R_slice HO252.out
           (first | subst eo136 | (injection eo136 with f1_ f2_ f3_; have f4_ := f1_.symm; have f5_ := f3_.symm; clear f1_ f2_ f3_; subst f4_; subst f5_))
           refine norm_ (a' := ?_) ?_ ?_
           rotate_left
           ·simp only [putAll, Act.put, List.setIfInBounds_toArray, List.set_cons_zero, List.set_cons_succ]
            rfl
           refine one_ (i := 9) (N := none) #[true, true, true, true, true, true, true, true, true, true, false] rfl rfl (one_of HT_.out (by kernel_rfl)) (by decide) (fun K hK => ?_)
           have hs135 : w134.cell? ⟨gb254, 0, none⟩ = some (.int .i64 0) := (blk_cell BK254.out 0).trans rfl
           have hfs135 := blk_frozen BK254.out 0
           have hns135_0 := NB197_254.out
           have hns135_1 := NB198_254.out
           have hns135_2 := NB213_254.out
           have hns135_3 := NB218_254.out
           have hns135_4 := NB228_254.out
           have hms135_0 := NB254_197.out
           have hms135_1 := NB254_198.out
           have hms135_2 := NB254_213.out
           have hms135_3 := NB254_218.out
           have hms135_4 := NB254_228.out
           have hs137 : w134.cell? ⟨gb254, 1, none⟩ = some (.slice none 0 0) := (blk_cell BK254.out 1).trans rfl
           have hfs137 := blk_frozen BK254.out 1
           have hns137_0 := NB197_254.out
           have hns137_1 := NB198_254.out
           have hns137_2 := NB213_254.out
           have hns137_3 := NB218_254.out
           have hns137_4 := NB228_254.out
           have hms137_0 := NB254_197.out
           have hms137_1 := NB254_198.out
           have hms137_2 := NB254_213.out
           have hms137_3 := NB254_218.out
           have hms137_4 := NB254_228.out
           refine skip_ (w1 := ?_) (by rfl) rfl ?_ ?_
           rotate_left
           ·go_simp
            rfl
           refine hK.out _ _ ⟨((cell_far (p := ⟨gb254, _, none⟩) NB197_254.out _).trans (((cell_far (p := ⟨gb254, _, none⟩) NB197_254.out _).trans (hHeld.1)))), ((cell_far (p := ⟨gb254, _, none⟩) NB197_254.out _).trans (((cell_far (p := ⟨gb254, _, none⟩) NB197_254.out _).trans (hHeld.2.1)))), ((cell_far (p := ⟨gb254, _, none⟩) NB198_254.out _).trans (((cell_far (p := ⟨gb254, _, none⟩) NB198_254.out _).trans (hHeld.2.2.1)))), ((cell_far (p := ⟨gb254, _, none⟩) NB198_254.out _).trans (((cell_far (p := ⟨gb254, _, none⟩) NB198_254.out _).trans (hHeld.2.2.2.1)))), ((cell_far (p := ⟨gb254, _, none⟩) NB198_254.out _).trans (((cell_far (p := ⟨gb254, _, none⟩) NB198_254.out _).trans (hHeld.2.2.2.2.1)))), ((cell_far (p := ⟨gb254, _, none⟩) NB198_254.out _).trans (((cell_far (p := ⟨gb254, _, none⟩) NB198_254.out _).trans (hHeld.2.2.2.2.2))))⟩ (fun hHeld => ?_)
           clear hK K
           refine pure_ (i := 10) (N := some 15) (v := ?_) (a' := ?_) #[true, true, true, true, true, true, true, true, true, true, true] rfl rfl (any_of HT_.out (by kernel_rfl)) (fun _ _ _ h => h) (Or.inl ⟨by rfl, ?_⟩) ?_ ?_
           rotate_left
           ·intro w'
            go_simp
            with_reducible rfl
           rotate_left
           ·simp only [Act.put, List.setIfInBounds_toArray, List.set_cons_zero, List.set_cons_succ, i64_w, i32_w]
            rfl
           refine done_ (done_of HT_.out (by kernel_rfl)) ?_
           go_upto_region 25 with (fail)
           go_cut [95] (fun v95 wc => ∃ (kq : Nat) (x95_118 : Bool), v95 = .bool x95_118 ∧ Aside0 (laws_FnExactAddClue.j2 kq t238 x95_118 t223 t239 = some r) ∧ Aside0 (kq ≤ kj76) ∧ Aside0 (Kd.R k25 25 wc w.heap.size (fun k_ => some k_ ≠ ((.slice Ao40 t236.length co40) : Value).ownBlock ∧ some k_ ≠ ((.slice Ao48 t224.length co48) : Value).ownBlock ∧ some k_ ≠ ((.slice Ao136 t250.length co136) : Value).ownBlock) (.slice Ao30 t209.length co30) t209) ∧ Aside0 (Kd.R k25 25 wc w.heap.size (fun k_ => some k_ ≠ ((.slice Ao30 t209.length co30) : Value).ownBlock ∧ some k_ ≠ ((.slice Ao48 t224.length co48) : Value).ownBlock ∧ some k_ ≠ ((.slice Ao136 t250.length co136) : Value).ownBlock) (.slice Ao40 t236.length co40) t236) ∧ Aside0 (Kd.R k25 25 wc w.heap.size (fun k_ => some k_ ≠ ((.slice Ao30 t209.length co30) : Value).ownBlock ∧ some k_ ≠ ((.slice Ao40 t236.length co40) : Value).ownBlock ∧ some k_ ≠ ((.slice Ao136 t250.length co136) : Value).ownBlock) (.slice Ao48 t224.length co48) t239) ∧ Aside0 (Kd.R k25 25 wc w.heap.size (fun k_ => some k_ ≠ ((.slice Ao30 t209.length co30) : Value).ownBlock ∧ some k_ ≠ ((.slice Ao40 t236.length co40) : Value).ownBlock ∧ some k_ ≠ ((.slice Ao48 t224.length co48) : Value).ownBlock) (.slice Ao136 t250.length co136) t250) ∧ Aside0 (wc.heap[gb197]? = some (.cells #[.int .i64 a0_0, (.slice A0_1 l0_1.length c0_1)] 30 (0, 0))) ∧ Aside0 (wc.heap[gb198]? = some (.cells #[.int .i64 a1_0, .int .i64 a1_1, .int .i64 a1_2, .int .i64 a1_3] 23 (0, 0))) ∧ Aside0 (wc.heap[gb213]? = some (.cells #[.int .i64 t208, (.slice Ao30 t209.length co30)] 35 (0, 0))) ∧ Aside0 (wc.heap[gb218]? = some (.cells #[.int .i64 t214, (.slice Ao40 t236.length co40)] 35 (0, 0))) ∧ Aside0 (wc.heap[gb228]? = some (.cells #[.int .i64 t223, (.slice Ao48 t224.length co48)] 35 (0, 0))) ∧ Aside0 (wc.heap[gb254]? = some (.cells #[.int .i64 t249, (.slice Ao136 t250.length co136)] 35 (0, 0))) ∧ Aside0 (Below w.heap.size w wc))
           case first =>
            have H := HC119.out
            clear HC119
            replace H := Option.bind_eq_some_iff.mp H
            obtain ⟨t255, A1380, H⟩ := H
            replace H : (if t255 = true then (laws_FnExactAddClue.j2 kj76 t238 (t253 != t212) t223 t239) else (laws_FnExactAddClue.j2 kj76 t238 true t223 t239)) = some r := H
            have A138 := am A1380
            clear A1380
            by_cases c139 : t255 = true
            ·subst c139
             have H1 : (laws_FnExactAddClue.j2 kj76 t238 (t253 != t212) t223 t239) = some r := by rw [if_pos rfl] at H; exact H
             clear H
             have H := H1
             clear H1
             have H' := am H
             clear H
             have hnb140 := NB254_197.out
             have hnc140 := NB197_254.out
             have hnb141 := NB254_198.out
             have hnc141 := NB198_254.out
             have hnb142 := NB254_213.out
             have hnc142 := NB213_254.out
             have hnb143 := NB254_218.out
             have hnc143 := NB218_254.out
             have hnb144 := NB254_228.out
             have hnc144 := NB228_254.out
             have hcz145_0 : w134.cell? ⟨gb254, 0, none⟩ = some (.int .i64 0) := (blk_cell BK254.out 0).trans rfl
             have hcz145_1 : w134.cell? ⟨gb254, 1, none⟩ = some (.slice none 0 0) := (blk_cell BK254.out 1).trans rfl
             have hfz145_0 := blk_frozen BK254.out 0
             have hfz145_1 := blk_frozen BK254.out 1
             have hnb146 := NB213_197.out
             have hnc146 := NB197_213.out
             have hnb147 := NB213_198.out
             have hnc147 := NB198_213.out
             have hnb148 := NB213_218.out
             have hnc148 := NB218_213.out
             have hnb149 := NB213_228.out
             have hnc149 := NB228_213.out
             have hcz150_0 : w134.cell? ⟨gb213, 0, none⟩ = some (.int .i64 t208) := (blk_cell BK213.out 0).trans rfl
             have hcz150_1 : w134.cell? ⟨gb213, 1, none⟩ = some (.slice Ao30 t209.length co30) := (blk_cell BK213.out 1).trans rfl
             have hfz150_0 := blk_frozen BK213.out 0
             have hfz150_1 := blk_frozen BK213.out 1
             go_wp2_with (first | ((with_reducible refine gate_callee (f := 22) rfl ?_); refine goesL_ (some 89) rfl rfl Try.func22 (by kernel_rfl) rfl #[.agg #[.int .i64 t249, .slice Ao136 t250.length co136], .agg #[.int .i64 t208, .slice Ao30 t209.length co30]] rfl (by (try simp only [List.map_toArray, List.map_cons, List.map_nil]); first | done | rfl | (simp only [List.length_drop, List.length_take]; rfl)) ?_; (with_reducible refine (laws_eqPuzzle.calls kj76 t249 _ _ t250 t208 _ _ t209 true _ ?side1 ?side2 ?side3 ?side4 A138.out).mono ?_); (case side1 => refine (Kd.R_reads' (e := 25) (base := w.heap.size) (ok := fun k_ => (some k_ ≠ (v243 : Value).ownBlock ∧ (some k_ ≠ (.slice Ao30 t209.length co30 : Value).ownBlock ∧ (some k_ ≠ (.slice Ao40 t236.length co40 : Value).ownBlock ∧ some k_ ≠ (.slice Ao48 t224.length co48 : Value).ownBlock)))) (n := t250.length) (c := co136) ?_).2.2; exact (by (with_reducible repeat (first | apply Kd.R_alloc | apply Kd.R_drewN | apply Kd.R_drew)); exact (Kd.R_mono (Kd.R_far (p := ⟨gb254, 1, none⟩) (Kd.R_far (p := ⟨gb254, 0, none⟩) (Kd.R_types HO252.out BK254.out (by decide)) (fun _ hk => hk.2) (.int .i64 t249)) (fun _ hk => hk.2) (.slice Ao136 t250.length co136)) (fun _ h_ => h_.1)))); (case side2 => exact (Kd.R_reads' HO252.out).2.1); (case side3 => refine (Kd.R_reads' (e := 25) (base := w.heap.size) (ok := fun k_ => (some k_ ≠ (v243 : Value).ownBlock ∧ (some k_ ≠ (.slice Ao136 t250.length co136 : Value).ownBlock ∧ (some k_ ≠ (.slice Ao40 t236.length co40 : Value).ownBlock ∧ some k_ ≠ (.slice Ao48 t224.length co48 : Value).ownBlock)))) (n := t209.length) (c := co30) ?_).2.2; exact (by (with_reducible repeat (first | apply Kd.R_alloc | apply Kd.R_drewN | apply Kd.R_drew)); exact (Kd.R_mono (Kd.R_far (p := ⟨gb254, 1, none⟩) (Kd.R_far (p := ⟨gb254, 0, none⟩) (Kd.R_types HO_214001.out BK254.out (by decide)) (fun _ hk => hk.2) (.int .i64 t249)) (fun _ hk => hk.2) (.slice Ao136 t250.length co136)) (fun _ h_ => h_.1)))); (case side4 => exact (Kd.R_reads' HO_214001.out).2.1); rintro e w151 ⟨rfl, hb⟩; refine ⟨_, rfl, ?_⟩; replace HO_214001 := am (Kd.R_below (by (with_reducible repeat (first | apply Kd.R_alloc | apply Kd.R_drewN | apply Kd.R_drew)); exact (Kd.R_mono (Kd.R_far (p := ⟨gb254, 1, none⟩) (Kd.R_far (p := ⟨gb254, 0, none⟩) (Kd.R_types HO_214001.out BK254.out (by decide)) (fun _ hk => hk.2) (.int .i64 t249)) (fun _ hk => hk.2) (.slice Ao136 t250.length co136)) (fun _ h_ => h_.1))) hb); replace HO_219001 := am (Kd.R_below (by (with_reducible repeat (first | apply Kd.R_alloc | apply Kd.R_drewN | apply Kd.R_drew)); exact (Kd.R_mono (Kd.R_far (p := ⟨gb254, 1, none⟩) (Kd.R_far (p := ⟨gb254, 0, none⟩) (Kd.R_types HO_219001.out BK254.out (by decide)) (fun _ hk => hk.2) (.int .i64 t249)) (fun _ hk => hk.2) (.slice Ao136 t250.length co136)) (fun _ h_ => h_.1))) hb); replace HO_229001 := am (Kd.R_below (by (with_reducible repeat (first | apply Kd.R_alloc | apply Kd.R_drewN | apply Kd.R_drew)); exact (Kd.R_mono (Kd.R_far (p := ⟨gb254, 1, none⟩) (Kd.R_far (p := ⟨gb254, 0, none⟩) (Kd.R_types HO_229001.out BK254.out (by decide)) (fun _ hk => hk.2) (.int .i64 t249)) (fun _ hk => hk.2) (.slice Ao136 t250.length co136)) (fun _ h_ => h_.1))) hb); replace HO244 := am (Kd.R_below (by (with_reducible repeat (first | apply Kd.R_alloc | apply Kd.R_drewN | apply Kd.R_drew)); exact (Kd.R_mono (Kd.R_far (p := ⟨gb254, 1, none⟩) (Kd.R_far (p := ⟨gb254, 0, none⟩) (Kd.R_types HO244.out BK254.out (by decide)) (fun _ hk => hk.2) (.int .i64 t249)) (fun _ hk => hk.2) (.slice Ao136 t250.length co136)) (fun _ h_ => h_.1))) hb); replace HO252 := am (Kd.R_below (by (with_reducible repeat (first | apply Kd.R_alloc | apply Kd.R_drewN | apply Kd.R_drew)); exact (Kd.R_mono (Kd.R_far (p := ⟨gb254, 1, none⟩) (Kd.R_far (p := ⟨gb254, 0, none⟩) (Kd.R_types HO252.out BK254.out (by decide)) (fun _ hk => hk.2) (.int .i64 t249)) (fun _ hk => hk.2) (.slice Ao136 t250.length co136)) (fun _ h_ => h_.1))) hb); replace BK197 := am (blk_below (g := gb197) (o := .cells #[.int .i64 a0_0, .slice A0_1 l0_1.length c0_1] 30 (0, 0)) (by (with_reducible repeat (first | apply blk_drewN | apply blk_drew | apply blk_alloc)); refine blk_far ?_ NB197_254.out _; (with_reducible repeat (first | apply blk_drewN | apply blk_drew | apply blk_alloc)); refine blk_far ?_ NB197_254.out _; (with_reducible repeat (first | apply blk_drewN | apply blk_drew | apply blk_alloc)); exact BK197.out) hb); replace BK198 := am (blk_below (g := gb198) (o := .cells #[.int .i64 a1_0, .int .i64 a1_1, .int .i64 a1_2, .int .i64 a1_3] 23 (0, 0)) (by (with_reducible repeat (first | apply blk_drewN | apply blk_drew | apply blk_alloc)); refine blk_far ?_ NB198_254.out _; (with_reducible repeat (first | apply blk_drewN | apply blk_drew | apply blk_alloc)); refine blk_far ?_ NB198_254.out _; (with_reducible repeat (first | apply blk_drewN | apply blk_drew | apply blk_alloc)); exact BK198.out) hb); replace BK213 := am (blk_below (g := gb213) (o := .cells #[.int .i64 t208, .slice Ao30 t209.length co30] 35 (0, 0)) (by (with_reducible repeat (first | apply blk_drewN | apply blk_drew | apply blk_alloc)); refine blk_far ?_ NB213_254.out _; (with_reducible repeat (first | apply blk_drewN | apply blk_drew | apply blk_alloc)); refine blk_far ?_ NB213_254.out _; (with_reducible repeat (first | apply blk_drewN | apply blk_drew | apply blk_alloc)); exact BK213.out) hb); replace BK218 := am (blk_below (g := gb218) (o := .cells #[.int .i64 t214, .slice Ao40 t236.length co40] 35 (0, 0)) (by (with_reducible repeat (first | apply blk_drewN | apply blk_drew | apply blk_alloc)); refine blk_far ?_ NB218_254.out _; (with_reducible repeat (first | apply blk_drewN | apply blk_drew | apply blk_alloc)); refine blk_far ?_ NB218_254.out _; (with_reducible repeat (first | apply blk_drewN | apply blk_drew | apply blk_alloc)); exact BK218.out) hb); replace BK228 := am (blk_below (g := gb228) (o := .cells #[.int .i64 t223, .slice Ao48 t224.length co48] 35 (0, 0)) (by (with_reducible repeat (first | apply blk_drewN | apply blk_drew | apply blk_alloc)); refine blk_far ?_ NB228_254.out _; (with_reducible repeat (first | apply blk_drewN | apply blk_drew | apply blk_alloc)); refine blk_far ?_ NB228_254.out _; (with_reducible repeat (first | apply blk_drewN | apply blk_drew | apply blk_alloc)); exact BK228.out) hb); replace BK254 := am (blk_below (g := gb254) (o := .cells #[.int .i64 t249, .slice Ao136 t250.length co136] 35 (0, 0)) (by (with_reducible repeat (first | apply blk_drewN | apply blk_drew | apply blk_alloc)); refine blk_put (cs := #[.int .i64 t249, .slice none 0 0]) ?_ 1 _ rfl; (with_reducible repeat (first | apply blk_drewN | apply blk_drew | apply blk_alloc)); refine blk_put (cs := #[.int .i64 0, .slice none 0 0]) ?_ 0 _ rfl; (with_reducible repeat (first | apply blk_drewN | apply blk_drew | apply blk_alloc)); exact BK254.out) hb); replace HB := am (below_step (bb HB.out) hb); (try clear hb); (try clear hb2); (try clear hk); (try clear hi)))
             go_meet
             case rel => exact ⟨_, ((t253 != t212)), (by first | rfl | (simp; done) | (simp [*]; done)), H', ⟨by have := HJ15.out; have := HJ76.out; first | omega | exact Nat.le_refl _⟩, ⟨by (try simp only [hl219001_76]); (with_reducible repeat (first | apply Kd.R_alloc | apply Kd.R_drewN | apply Kd.R_drew)); exact Kd.R_mono HO_214001.out (fun _ hk => ⟨hk.2.2.1, ⟨hk.2.2.2, hk.2.1⟩⟩)⟩, ⟨by (try simp only [hl219001_76]); (with_reducible repeat (first | apply Kd.R_alloc | apply Kd.R_drewN | apply Kd.R_drew)); exact Kd.R_mono HO_219001.out (fun _ hk => ⟨hk.2.2.1, ⟨hk.2.2.2, hk.2.1⟩⟩)⟩, ⟨by (try simp only [hl219001_76]); (with_reducible repeat (first | apply Kd.R_alloc | apply Kd.R_drewN | apply Kd.R_drew)); exact Kd.R_mono HO_229001.out (fun _ hk => ⟨hk.2.2.1, ⟨hk.2.2.2, hk.2.1⟩⟩)⟩, ⟨by (try simp only [hl219001_76]); (with_reducible repeat (first | apply Kd.R_alloc | apply Kd.R_drewN | apply Kd.R_drew)); exact Kd.R_mono HO252.out (fun _ hk => ⟨hk.2.1, ⟨hk.2.2.1, hk.2.2.2⟩⟩)⟩, ⟨by (try simp only [hl219001_76]); (with_reducible repeat (first | apply blk_drewN | apply blk_drew | apply blk_alloc)); exact BK197.out⟩, ⟨by (try simp only [hl219001_76]); (with_reducible repeat (first | apply blk_drewN | apply blk_drew | apply blk_alloc)); exact BK198.out⟩, ⟨by (try simp only [hl219001_76]); (with_reducible repeat (first | apply blk_drewN | apply blk_drew | apply blk_alloc)); exact BK213.out⟩, ⟨by (try simp only [hl219001_76]); (with_reducible repeat (first | apply blk_drewN | apply blk_drew | apply blk_alloc)); exact BK218.out⟩, ⟨by (try simp only [hl219001_76]); (with_reducible repeat (first | apply blk_drewN | apply blk_drew | apply blk_alloc)); exact BK228.out⟩, ⟨by (try simp only [hl219001_76]); (with_reducible repeat (first | apply blk_drewN | apply blk_drew | apply blk_alloc)); exact BK254.out⟩, ⟨by repeat (first | (with_reducible first | exact HB.out | apply below_alloc | apply pw_below_drewN | apply below_drew1 | refine below_set ?_ GE197.out | refine below_set ?_ GE198.out | refine below_set ?_ GE213.out | refine below_set ?_ GE218.out | refine below_set ?_ GE228.out | refine below_set ?_ GE254.out) | exact HB.out)⟩⟩
            ·replace c139 := Bool.eq_false_iff.mpr c139
             subst c139
             have H1 : (laws_FnExactAddClue.j2 kj76 t238 true t223 t239) = some r := by rw [if_neg (show ¬ (false = true) by decide)] at H; exact H
             clear H
             have H := H1
             clear H1
             have H' := am H
             clear H
             have hnb152 := NB254_197.out
             have hnc152 := NB197_254.out
             have hnb153 := NB254_198.out
             have hnc153 := NB198_254.out
             have hnb154 := NB254_213.out
             have hnc154 := NB213_254.out
             have hnb155 := NB254_218.out
             have hnc155 := NB218_254.out
             have hnb156 := NB254_228.out
             have hnc156 := NB228_254.out
             have hcz157_0 : w134.cell? ⟨gb254, 0, none⟩ = some (.int .i64 0) := (blk_cell BK254.out 0).trans rfl
             have hcz157_1 : w134.cell? ⟨gb254, 1, none⟩ = some (.slice none 0 0) := (blk_cell BK254.out 1).trans rfl
             have hfz157_0 := blk_frozen BK254.out 0
             have hfz157_1 := blk_frozen BK254.out 1
             have hnb158 := NB213_197.out
             have hnc158 := NB197_213.out
             have hnb159 := NB213_198.out
             have hnc159 := NB198_213.out
             have hnb160 := NB213_218.out
             have hnc160 := NB218_213.out
             have hnb161 := NB213_228.out
             have hnc161 := NB228_213.out
             have hcz162_0 : w134.cell? ⟨gb213, 0, none⟩ = some (.int .i64 t208) := (blk_cell BK213.out 0).trans rfl
             have hcz162_1 : w134.cell? ⟨gb213, 1, none⟩ = some (.slice Ao30 t209.length co30) := (blk_cell BK213.out 1).trans rfl
             have hfz162_0 := blk_frozen BK213.out 0
             have hfz162_1 := blk_frozen BK213.out 1
             go_wp2_with (first | ((with_reducible refine gate_callee (f := 22) rfl ?_); refine goesL_ (some 89) rfl rfl Try.func22 (by kernel_rfl) rfl #[.agg #[.int .i64 t249, .slice Ao136 t250.length co136], .agg #[.int .i64 t208, .slice Ao30 t209.length co30]] rfl (by (try simp only [List.map_toArray, List.map_cons, List.map_nil]); first | done | rfl | (simp only [List.length_drop, List.length_take]; rfl)) ?_; (with_reducible refine (laws_eqPuzzle.calls kj76 t249 _ _ t250 t208 _ _ t209 false _ ?side1 ?side2 ?side3 ?side4 A138.out).mono ?_); (case side1 => refine (Kd.R_reads' (e := 25) (base := w.heap.size) (ok := fun k_ => (some k_ ≠ (v243 : Value).ownBlock ∧ (some k_ ≠ (.slice Ao30 t209.length co30 : Value).ownBlock ∧ (some k_ ≠ (.slice Ao40 t236.length co40 : Value).ownBlock ∧ some k_ ≠ (.slice Ao48 t224.length co48 : Value).ownBlock)))) (n := t250.length) (c := co136) ?_).2.2; exact (by (with_reducible repeat (first | apply Kd.R_alloc | apply Kd.R_drewN | apply Kd.R_drew)); exact (Kd.R_mono (Kd.R_far (p := ⟨gb254, 1, none⟩) (Kd.R_far (p := ⟨gb254, 0, none⟩) (Kd.R_types HO252.out BK254.out (by decide)) (fun _ hk => hk.2) (.int .i64 t249)) (fun _ hk => hk.2) (.slice Ao136 t250.length co136)) (fun _ h_ => h_.1)))); (case side2 => exact (Kd.R_reads' HO252.out).2.1); (case side3 => refine (Kd.R_reads' (e := 25) (base := w.heap.size) (ok := fun k_ => (some k_ ≠ (v243 : Value).ownBlock ∧ (some k_ ≠ (.slice Ao136 t250.length co136 : Value).ownBlock ∧ (some k_ ≠ (.slice Ao40 t236.length co40 : Value).ownBlock ∧ some k_ ≠ (.slice Ao48 t224.length co48 : Value).ownBlock)))) (n := t209.length) (c := co30) ?_).2.2; exact (by (with_reducible repeat (first | apply Kd.R_alloc | apply Kd.R_drewN | apply Kd.R_drew)); exact (Kd.R_mono (Kd.R_far (p := ⟨gb254, 1, none⟩) (Kd.R_far (p := ⟨gb254, 0, none⟩) (Kd.R_types HO_214001.out BK254.out (by decide)) (fun _ hk => hk.2) (.int .i64 t249)) (fun _ hk => hk.2) (.slice Ao136 t250.length co136)) (fun _ h_ => h_.1)))); (case side4 => exact (Kd.R_reads' HO_214001.out).2.1); rintro e w163 ⟨rfl, hb⟩; refine ⟨_, rfl, ?_⟩; replace HO_214001 := am (Kd.R_below (by (with_reducible repeat (first | apply Kd.R_alloc | apply Kd.R_drewN | apply Kd.R_drew)); exact (Kd.R_mono (Kd.R_far (p := ⟨gb254, 1, none⟩) (Kd.R_far (p := ⟨gb254, 0, none⟩) (Kd.R_types HO_214001.out BK254.out (by decide)) (fun _ hk => hk.2) (.int .i64 t249)) (fun _ hk => hk.2) (.slice Ao136 t250.length co136)) (fun _ h_ => h_.1))) hb); replace HO_219001 := am (Kd.R_below (by (with_reducible repeat (first | apply Kd.R_alloc | apply Kd.R_drewN | apply Kd.R_drew)); exact (Kd.R_mono (Kd.R_far (p := ⟨gb254, 1, none⟩) (Kd.R_far (p := ⟨gb254, 0, none⟩) (Kd.R_types HO_219001.out BK254.out (by decide)) (fun _ hk => hk.2) (.int .i64 t249)) (fun _ hk => hk.2) (.slice Ao136 t250.length co136)) (fun _ h_ => h_.1))) hb); replace HO_229001 := am (Kd.R_below (by (with_reducible repeat (first | apply Kd.R_alloc | apply Kd.R_drewN | apply Kd.R_drew)); exact (Kd.R_mono (Kd.R_far (p := ⟨gb254, 1, none⟩) (Kd.R_far (p := ⟨gb254, 0, none⟩) (Kd.R_types HO_229001.out BK254.out (by decide)) (fun _ hk => hk.2) (.int .i64 t249)) (fun _ hk => hk.2) (.slice Ao136 t250.length co136)) (fun _ h_ => h_.1))) hb); replace HO244 := am (Kd.R_below (by (with_reducible repeat (first | apply Kd.R_alloc | apply Kd.R_drewN | apply Kd.R_drew)); exact (Kd.R_mono (Kd.R_far (p := ⟨gb254, 1, none⟩) (Kd.R_far (p := ⟨gb254, 0, none⟩) (Kd.R_types HO244.out BK254.out (by decide)) (fun _ hk => hk.2) (.int .i64 t249)) (fun _ hk => hk.2) (.slice Ao136 t250.length co136)) (fun _ h_ => h_.1))) hb); replace HO252 := am (Kd.R_below (by (with_reducible repeat (first | apply Kd.R_alloc | apply Kd.R_drewN | apply Kd.R_drew)); exact (Kd.R_mono (Kd.R_far (p := ⟨gb254, 1, none⟩) (Kd.R_far (p := ⟨gb254, 0, none⟩) (Kd.R_types HO252.out BK254.out (by decide)) (fun _ hk => hk.2) (.int .i64 t249)) (fun _ hk => hk.2) (.slice Ao136 t250.length co136)) (fun _ h_ => h_.1))) hb); replace BK197 := am (blk_below (g := gb197) (o := .cells #[.int .i64 a0_0, .slice A0_1 l0_1.length c0_1] 30 (0, 0)) (by (with_reducible repeat (first | apply blk_drewN | apply blk_drew | apply blk_alloc)); refine blk_far ?_ NB197_254.out _; (with_reducible repeat (first | apply blk_drewN | apply blk_drew | apply blk_alloc)); refine blk_far ?_ NB197_254.out _; (with_reducible repeat (first | apply blk_drewN | apply blk_drew | apply blk_alloc)); exact BK197.out) hb); replace BK198 := am (blk_below (g := gb198) (o := .cells #[.int .i64 a1_0, .int .i64 a1_1, .int .i64 a1_2, .int .i64 a1_3] 23 (0, 0)) (by (with_reducible repeat (first | apply blk_drewN | apply blk_drew | apply blk_alloc)); refine blk_far ?_ NB198_254.out _; (with_reducible repeat (first | apply blk_drewN | apply blk_drew | apply blk_alloc)); refine blk_far ?_ NB198_254.out _; (with_reducible repeat (first | apply blk_drewN | apply blk_drew | apply blk_alloc)); exact BK198.out) hb); replace BK213 := am (blk_below (g := gb213) (o := .cells #[.int .i64 t208, .slice Ao30 t209.length co30] 35 (0, 0)) (by (with_reducible repeat (first | apply blk_drewN | apply blk_drew | apply blk_alloc)); refine blk_far ?_ NB213_254.out _; (with_reducible repeat (first | apply blk_drewN | apply blk_drew | apply blk_alloc)); refine blk_far ?_ NB213_254.out _; (with_reducible repeat (first | apply blk_drewN | apply blk_drew | apply blk_alloc)); exact BK213.out) hb); replace BK218 := am (blk_below (g := gb218) (o := .cells #[.int .i64 t214, .slice Ao40 t236.length co40] 35 (0, 0)) (by (with_reducible repeat (first | apply blk_drewN | apply blk_drew | apply blk_alloc)); refine blk_far ?_ NB218_254.out _; (with_reducible repeat (first | apply blk_drewN | apply blk_drew | apply blk_alloc)); refine blk_far ?_ NB218_254.out _; (with_reducible repeat (first | apply blk_drewN | apply blk_drew | apply blk_alloc)); exact BK218.out) hb); replace BK228 := am (blk_below (g := gb228) (o := .cells #[.int .i64 t223, .slice Ao48 t224.length co48] 35 (0, 0)) (by (with_reducible repeat (first | apply blk_drewN | apply blk_drew | apply blk_alloc)); refine blk_far ?_ NB228_254.out _; (with_reducible repeat (first | apply blk_drewN | apply blk_drew | apply blk_alloc)); refine blk_far ?_ NB228_254.out _; (with_reducible repeat (first | apply blk_drewN | apply blk_drew | apply blk_alloc)); exact BK228.out) hb); replace BK254 := am (blk_below (g := gb254) (o := .cells #[.int .i64 t249, .slice Ao136 t250.length co136] 35 (0, 0)) (by (with_reducible repeat (first | apply blk_drewN | apply blk_drew | apply blk_alloc)); refine blk_put (cs := #[.int .i64 t249, .slice none 0 0]) ?_ 1 _ rfl; (with_reducible repeat (first | apply blk_drewN | apply blk_drew | apply blk_alloc)); refine blk_put (cs := #[.int .i64 0, .slice none 0 0]) ?_ 0 _ rfl; (with_reducible repeat (first | apply blk_drewN | apply blk_drew | apply blk_alloc)); exact BK254.out) hb); replace HB := am (below_step (bb HB.out) hb); (try clear hb); (try clear hb2); (try clear hk); (try clear hi)))
             go_meet
             case rel => exact ⟨_, (true), (by first | rfl | (simp; done) | (simp [*]; done)), H', ⟨by have := HJ15.out; have := HJ76.out; first | omega | exact Nat.le_refl _⟩, ⟨by (try simp only [hl219001_76]); (with_reducible repeat (first | apply Kd.R_alloc | apply Kd.R_drewN | apply Kd.R_drew)); exact Kd.R_mono HO_214001.out (fun _ hk => ⟨hk.2.2.1, ⟨hk.2.2.2, hk.2.1⟩⟩)⟩, ⟨by (try simp only [hl219001_76]); (with_reducible repeat (first | apply Kd.R_alloc | apply Kd.R_drewN | apply Kd.R_drew)); exact Kd.R_mono HO_219001.out (fun _ hk => ⟨hk.2.2.1, ⟨hk.2.2.2, hk.2.1⟩⟩)⟩, ⟨by (try simp only [hl219001_76]); (with_reducible repeat (first | apply Kd.R_alloc | apply Kd.R_drewN | apply Kd.R_drew)); exact Kd.R_mono HO_229001.out (fun _ hk => ⟨hk.2.2.1, ⟨hk.2.2.2, hk.2.1⟩⟩)⟩, ⟨by (try simp only [hl219001_76]); (with_reducible repeat (first | apply Kd.R_alloc | apply Kd.R_drewN | apply Kd.R_drew)); exact Kd.R_mono HO252.out (fun _ hk => ⟨hk.2.1, ⟨hk.2.2.1, hk.2.2.2⟩⟩)⟩, ⟨by (try simp only [hl219001_76]); (with_reducible repeat (first | apply blk_drewN | apply blk_drew | apply blk_alloc)); exact BK197.out⟩, ⟨by (try simp only [hl219001_76]); (with_reducible repeat (first | apply blk_drewN | apply blk_drew | apply blk_alloc)); exact BK198.out⟩, ⟨by (try simp only [hl219001_76]); (with_reducible repeat (first | apply blk_drewN | apply blk_drew | apply blk_alloc)); exact BK213.out⟩, ⟨by (try simp only [hl219001_76]); (with_reducible repeat (first | apply blk_drewN | apply blk_drew | apply blk_alloc)); exact BK218.out⟩, ⟨by (try simp only [hl219001_76]); (with_reducible repeat (first | apply blk_drewN | apply blk_drew | apply blk_alloc)); exact BK228.out⟩, ⟨by (try simp only [hl219001_76]); (with_reducible repeat (first | apply blk_drewN | apply blk_drew | apply blk_alloc)); exact BK254.out⟩, ⟨by repeat (first | (with_reducible first | exact HB.out | apply below_alloc | apply pw_below_drewN | apply below_drew1 | refine below_set ?_ GE197.out | refine below_set ?_ GE198.out | refine below_set ?_ GE213.out | refine below_set ?_ GE218.out | refine below_set ?_ GE228.out | refine below_set ?_ GE254.out) | exact HB.out)⟩⟩
           case rest =>
            clear HC119
            obtain ⟨kq, x95_118, rfl, HA, HJ118, HO_214001, HO_219001, HO_229001, HO_255001, BK197, BK198, BK213, BK218, BK228, BK254, HB⟩ := hcut
            have hl229001_118 := (Kd.R_reads' HO_229001.out).1
            rw [hl229001_118] at HO_229001
            (try simp only [hl229001_118])
            (try simp only [hl229001_118] at BK197)
            (try simp only [hl229001_118] at BK198)
            (try simp only [hl229001_118] at BK213)
            (try simp only [hl229001_118] at BK218)
            (try simp only [hl229001_118] at BK228)
            (try simp only [hl229001_118] at BK254)
            (try simp only [hl229001_118] at HO_214001)
            (try simp only [hl229001_118] at HO_219001)
            (try simp only [hl229001_118] at HO_255001)
            cases kq with
            | zero => exact absurd HA.out (by simp [laws_FnExactAddClue.j2])
            | succ kj118 =>
             have H := HA.out
             clear HA
             simp only [laws_FnExactAddClue.j2] at H
             by_cases c164 : x95_118 = true
             ·subst c164
              have H1 : (none) = some r := by rw [if_pos rfl] at H; exact H
              clear H
              have H := H1
              clear H1
              exact absurd H (by simp)
             ·replace c164 := Bool.eq_false_iff.mpr c164
              subst c164
              have H1 : ((laws_heldPuzzle.f kj118 t223 t239 1).bind fun t256 => (if t256 < 0 then (none) else (if t256 = t238 then (some true) else (none)))) = some r := by rw [if_neg (show ¬ (false = true) by decide)] at H; exact H
              clear H
              have H := H1
              clear H1
              replace H := Option.bind_eq_some_iff.mp H
              obtain ⟨t256, A1650, H⟩ := H
              replace H : (if t256 < 0 then (none) else (if t256 = t238 then (some true) else (none))) = some r := H
              have A165 := am A1650
              clear A1650
              by_cases c166 : t256 < 0
              ·rw [if_pos c166] at H
               exact absurd H (by simp)
              ·rw [if_neg c166] at H
               have c166b0 : decide (t256 < 0) = false := decide_eq_false c166
               clear c166
               by_cases c167 : t256 = t238
               ·rw [if_pos c167] at H
                have c167b0 : (t256 == t238) = true := beq_iff_eq.mpr c167
                have c167b1 : (t256 != t238) = false := bne_eq_false_iff_eq.mpr c167
                clear c167
                obtain rfl := Option.some.inj H
                have hnb168 := NB228_197.out
                have hnc168 := NB197_228.out
                have hnb169 := NB228_198.out
                have hnc169 := NB198_228.out
                have hnb170 := NB228_213.out
                have hnc170 := NB213_228.out
                have hnb171 := NB228_218.out
                have hnc171 := NB218_228.out
                have hnb172 := NB228_254.out
                have hnc172 := NB254_228.out
                have hcz173_0 : wc.cell? ⟨gb228, 0, none⟩ = some (.int .i64 t223) := (blk_cell BK228.out 0).trans rfl
                have hcz173_1 : wc.cell? ⟨gb228, 1, none⟩ = some (.slice Ao48 t239.length co48) := (blk_cell BK228.out 1).trans rfl
                have hfz173_0 := blk_frozen BK228.out 0
                have hfz173_1 := blk_frozen BK228.out 1
                go_wp2_with (first | ((with_reducible refine gate_callee (f := 26) rfl ?_); refine goesL_ (some 98) rfl rfl Try.func26 (by kernel_rfl) rfl #[.agg #[.int .i64 t223, .slice Ao48 t239.length co48], .int .i64 1] rfl (by (try simp only [List.map_toArray, List.map_cons, List.map_nil]); first | done | rfl | (simp only [List.length_drop, List.length_take]; rfl)) ?_; (with_reducible refine (laws_heldPuzzle.calls kj118 t223 _ _ t239 1 t256 _ ?side1 ?side2 A165.out).mono ?_); (case side1 => repeat (first | exact (Kd.R_reads' HO_229001.out).2.2 | (with_reducible refine Kd.C_alloc ?_ _) | (with_reducible refine Kd.C_drewN ?_ _) | (with_reducible refine Kd.C_drew ?_))); (case side2 => exact (Kd.R_reads' HO_229001.out).2.1); rintro e w174 ⟨rfl, hb⟩; refine ⟨_, rfl, ?_⟩; replace HO_214001 := am (Kd.R_below (br HO_214001.out) hb); replace HO_219001 := am (Kd.R_below (br HO_219001.out) hb); replace HO_229001 := am (Kd.R_below (br HO_229001.out) hb); replace HO_255001 := am (Kd.R_below (br HO_255001.out) hb); replace BK197 := am (blk_below (g := gb197) (o := .cells #[.int .i64 a0_0, .slice A0_1 l0_1.length c0_1] 30 (0, 0)) (bk BK197.out) hb); replace BK198 := am (blk_below (g := gb198) (o := .cells #[.int .i64 a1_0, .int .i64 a1_1, .int .i64 a1_2, .int .i64 a1_3] 23 (0, 0)) (bk BK198.out) hb); replace BK213 := am (blk_below (g := gb213) (o := .cells #[.int .i64 t208, .slice Ao30 t209.length co30] 35 (0, 0)) (bk BK213.out) hb); replace BK218 := am (blk_below (g := gb218) (o := .cells #[.int .i64 t214, .slice Ao40 t236.length co40] 35 (0, 0)) (bk BK218.out) hb); replace BK228 := am (blk_below (g := gb228) (o := .cells #[.int .i64 t223, .slice Ao48 t239.length co48] 35 (0, 0)) (bk BK228.out) hb); replace BK254 := am (blk_below (g := gb254) (o := .cells #[.int .i64 t249, .slice Ao136 t250.length co136] 35 (0, 0)) (bk BK254.out) hb); replace HB := am (below_step (bb HB.out) hb); (try clear hb); (try clear hb2); (try clear hk); (try clear hi)))
                go_ret
                exact ⟨by first | rfl | (simp [errW_none, errW_some] <;> rfl) | (simp [*, errW_none, errW_some] <;> rfl), by repeat (first | (with_reducible first | exact HB.out | apply below_alloc | apply pw_below_drewN | apply below_drew1 | refine below_set ?_ GE197.out | refine below_set ?_ GE198.out | refine below_set ?_ GE213.out | refine below_set ?_ GE218.out | refine below_set ?_ GE228.out | refine below_set ?_ GE254.out) | exact HB.out)⟩
               ·rw [if_neg c167] at H
                exact absurd H (by simp)
          ·rw [if_neg c115] at H
           exact absurd H (by simp)
     ·replace c75 := Bool.eq_false_iff.mpr c75
      subst c75
      have H1 : (none) = some r := by rw [if_neg (show ¬ (false = true) by decide)] at H; exact H
      clear H
      have H := H1
      clear H1
      exact absurd H (by simp)

/-- The one pure statement of laws_FnExactAddClue. -/
def laws_FnExactAddClue.Pure : Prop := ∀ (a0_0 : Int) (l0_1 : List (S23)) (a1_0 : Int) (a1_1 : Int) (a1_2 : Int) (a1_3 : Int), ((Lit.int .i64 a0_0).wf = true ∧ (l0_1.length ≤ maxLen ∧ ∀ z0 ∈ l0_1, ((Lit.int .i64 z0.f0).wf = true ∧ (Lit.int .i64 z0.f1).wf = true ∧ (Lit.int .i64 z0.f2).wf = true ∧ (Lit.int .i64 z0.f3).wf = true))) → ((Lit.int .i64 a1_0).wf = true ∧ (Lit.int .i64 a1_1).wf = true ∧ (Lit.int .i64 a1_2).wf = true ∧ (Lit.int .i64 a1_3).wf = true) → ∃ k, laws_FnExactAddClue.f k a0_0 l0_1 a1_0 a1_1 a1_2 a1_3 = some true

end Go.Proofs.Ytchphfohembpcaa.PX
