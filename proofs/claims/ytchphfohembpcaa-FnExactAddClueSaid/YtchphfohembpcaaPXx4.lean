/- Functions of the program and of the reference as Lean functions, each with a contract over the translated program. Conditions: the hypotheses of each theorem. Written by a program of this session, which drives the print of the kit and adds texts of its own. -/
import Derived.Test.YtchphfohembpcaaPXx0
import Derived.Test.YtchphfohembpcaaPXx3
import Derived.Test.YtchphfohembpcaaShort
namespace Go.Proofs.Ytchphfohembpcaa.PX
open Go.RowKit Go.Proofs.YtchphfohembpcaaW.PrintWords Go.Proofs.YtchphfohembpcaaW.PrintLast Go.Proofs.YtchphfohembpcaaW.PrintMore Go.Proofs.YtchphfohembpcaaB
attribute [local go_sem] max2_int min2_int max_two min_two max_three min_three max_four min_four   -- for this text's walks alone
set_option linter.unusedVariables false
set_option linter.unusedSimpArgs false

/-! ### impl_IsClue: function 17 -/
mutual
def impl_IsClue.j0 : Nat → Int → Bool → Int → Int → Int → Int → Option (Bool)
 | 0, _, _, _, _, _, _ => none
 | k + 1, x0, x5, x162000, x162001, x162002, x162003 => if x162001 = 0 then (impl_IsClue.j1 k x0 x5 (x162002 == 0) x162000 x162001 x162002 x162003) else (impl_IsClue.j1 k x0 x5 false x162000 x162001 x162002 x162003)
def impl_IsClue.j1 : Nat → Int → Bool → Bool → Int → Int → Int → Int → Option (Bool)
 | 0, _, _, _, _, _, _, _ => none
 | k + 1, x0, x5, x6, x162000, x162001, x162002, x162003 => if x162000 = 0 then (impl_IsClue.j2 k x0 x5 x6 x162000 (x162000 == 0) x162000 x162001 x162002 x162003) else (impl_IsClue.j2 k x0 x5 x6 x162000 (x162000 == 3) x162000 x162001 x162002 x162003)
def impl_IsClue.j2 : Nat → Int → Bool → Bool → Int → Bool → Int → Int → Int → Int → Option (Bool)
 | 0, _, _, _, _, _, _, _, _, _ => none
 | k + 1, x0, x5, x6, x41, x42, x162000, x162001, x162002, x162003 => if x42 = true then (if x6 = true then ((impl_within.f x162003 0 20).bind fun t163 => (some t163)) else (some false)) else (if x41 = 1 then (if x5 = true then ((impl_within.f x162003 0 1).bind fun t164 => (some t164)) else (some false)) else (if x41 = 2 then ((impl_within.f x162001 0 5).bind fun t165 => (if t165 = true then (if x162002 = 0 then ((impl_within.f x162003 0 x0).bind fun t166 => (some t166)) else (some false)) else (some false))) else (if x41 = 4 then (if x5 = true then ((impl_within.f x162003 0 10).bind fun t167 => (some t167)) else (some false)) else (if x41 = 5 then (if x6 = true then ((impl_within.f x162003 0 5).bind fun t168 => (some t168)) else (some false)) else (some false)))))
end
def impl_IsClue.f (k : Nat) (a0 : Int) (a1_0 : Int) (a1_1 : Int) (a1_2 : Int) (a1_3 : Int) : Option (Bool) := (impl_within.f a0 2 4).bind fun t162 => (if t162 = true then (if (mn a1_1 a1_2) ≥ 0 then (if (mx a1_1 a1_2) < a0 then (impl_IsClue.j0 k a0 (a1_1 != a1_2) a1_0 a1_1 a1_2 a1_3) else (impl_IsClue.j0 k a0 false a1_0 a1_1 a1_2 a1_3)) else (impl_IsClue.j0 k a0 false a1_0 a1_1 a1_2 a1_3)) else (some false))
theorem impl_IsClue.mono_l : ∀ k, (∀ y0 y1 y2 y3 y4 y5, LeO (impl_IsClue.j0 k y0 y1 y2 y3 y4 y5) (impl_IsClue.j0 (k + 1) y0 y1 y2 y3 y4 y5)) ∧ (∀ y0 y1 y2 y3 y4 y5 y6, LeO (impl_IsClue.j1 k y0 y1 y2 y3 y4 y5 y6) (impl_IsClue.j1 (k + 1) y0 y1 y2 y3 y4 y5 y6)) ∧ (∀ y0 y1 y2 y3 y4 y5 y6 y7 y8, LeO (impl_IsClue.j2 k y0 y1 y2 y3 y4 y5 y6 y7 y8) (impl_IsClue.j2 (k + 1) y0 y1 y2 y3 y4 y5 y6 y7 y8))
 | 0 => ⟨fun _ _ _ _ _ _ r h => by simp [impl_IsClue.j0] at h, fun _ _ _ _ _ _ _ r h => by simp [impl_IsClue.j1] at h, fun _ _ _ _ _ _ _ _ _ r h => by simp [impl_IsClue.j2] at h⟩
 | k + 1 => by
  obtain ⟨ih0, ih1, ih2⟩ := impl_IsClue.mono_l k
  refine ⟨?_, ?_, ?_⟩
  ·intro y0 y1 y2 y3 y4 y5
   unfold impl_IsClue.j0
   repeat' first
   | (with_reducible exact ih0 _ _ _ _ _ _)
   | (with_reducible exact ih1 _ _ _ _ _ _ _)
   | (with_reducible exact ih2 _ _ _ _ _ _ _ _ _)
   | (with_reducible exact LeO.refl _)
   | (with_reducible exact LeO.none _)
   | (with_reducible refine LeO.ite ?_ ?_)
   | (with_reducible refine LeO.bind ?_ (fun _ => ?_))
   | exact ih0 _ _ _ _ _ _
   | exact ih1 _ _ _ _ _ _ _
   | exact ih2 _ _ _ _ _ _ _ _ _
   | exact LeO.none _
   | refine LeO.ite ?_ ?_
   | refine LeO.bind ?_ (fun _ => ?_)
  ·intro y0 y1 y2 y3 y4 y5 y6
   unfold impl_IsClue.j1
   repeat' first
   | (with_reducible exact ih0 _ _ _ _ _ _)
   | (with_reducible exact ih1 _ _ _ _ _ _ _)
   | (with_reducible exact ih2 _ _ _ _ _ _ _ _ _)
   | (with_reducible exact LeO.refl _)
   | (with_reducible exact LeO.none _)
   | (with_reducible refine LeO.ite ?_ ?_)
   | (with_reducible refine LeO.bind ?_ (fun _ => ?_))
   | exact ih0 _ _ _ _ _ _
   | exact ih1 _ _ _ _ _ _ _
   | exact ih2 _ _ _ _ _ _ _ _ _
   | exact LeO.none _
   | refine LeO.ite ?_ ?_
   | refine LeO.bind ?_ (fun _ => ?_)
  ·intro y0 y1 y2 y3 y4 y5 y6 y7 y8
   unfold impl_IsClue.j2
   repeat' first
   | (with_reducible exact ih0 _ _ _ _ _ _)
   | (with_reducible exact ih1 _ _ _ _ _ _ _)
   | (with_reducible exact ih2 _ _ _ _ _ _ _ _ _)
   | (with_reducible exact LeO.refl _)
   | (with_reducible exact LeO.none _)
   | (with_reducible refine LeO.ite ?_ ?_)
   | (with_reducible refine LeO.bind ?_ (fun _ => ?_))
   | exact ih0 _ _ _ _ _ _
   | exact ih1 _ _ _ _ _ _ _
   | exact ih2 _ _ _ _ _ _ _ _ _
   | exact LeO.none _
   | refine LeO.ite ?_ ?_
   | refine LeO.bind ?_ (fun _ => ?_)
theorem impl_IsClue.mono : ∀ a0 a1 a2 a3 a4 k, LeO (impl_IsClue.f k a0 a1 a2 a3 a4) (impl_IsClue.f (k + 1) a0 a1 a2 a3 a4) := by
 intro a0 a1 a2 a3 a4 k
 obtain ⟨ih0, ih1, ih2⟩ := impl_IsClue.mono_l k
 unfold impl_IsClue.f
 repeat' first
   | (with_reducible exact ih0 _ _ _ _ _ _)
   | (with_reducible exact ih1 _ _ _ _ _ _ _)
   | (with_reducible exact ih2 _ _ _ _ _ _ _ _ _)
   | (with_reducible exact LeO.refl _)
   | (with_reducible exact LeO.none _)
   | (with_reducible refine LeO.ite ?_ ?_)
   | (with_reducible refine LeO.bind ?_ (fun _ => ?_))
   | exact ih0 _ _ _ _ _ _
   | exact ih1 _ _ _ _ _ _ _
   | exact ih2 _ _ _ _ _ _ _ _ _
   | exact LeO.none _
   | refine LeO.ite ?_ ?_
   | refine LeO.bind ?_ (fun _ => ?_)
set_option maxHeartbeats 8000000 in
set_option maxRecDepth 100000 in
theorem impl_IsClue.calls (k : Nat) (a0 : Int) (a1_0 : Int) (a1_1 : Int) (a1_2 : Int) (a1_3 : Int) (r : Bool) (w : World) (h : impl_IsClue.f k a0 a1_0 a1_1 a1_2 a1_3 = some r) :
  Calls Try.prog 17 #[.int .i64 a0, .agg #[.int .i64 a1_0, .int .i64 a1_1, .int .i64 a1_2, .int .i64 a1_3]] w fun e w' => e = .returned (.bool r) ∧ Below w.heap.size w w' := by
 have hu25 := Try.underlying25
 have HB := Aside0.mk (Below.refl w.heap.size w)
 have H : ((impl_within.f a0 2 4).bind fun t162 => (if t162 = true then (if (mn a1_1 a1_2) ≥ 0 then (if (mx a1_1 a1_2) < a0 then (impl_IsClue.j0 k a0 (a1_1 != a1_2) a1_0 a1_1 a1_2 a1_3) else (impl_IsClue.j0 k a0 false a1_0 a1_1 a1_2 a1_3)) else (impl_IsClue.j0 k a0 false a1_0 a1_1 a1_2 a1_3)) else (some false))) = some r := h
 clear h
 replace H := Option.bind_eq_some_iff.mp H
 obtain ⟨t162, A30, H⟩ := H
 replace H : (if t162 = true then (if (mn a1_1 a1_2) ≥ 0 then (if (mx a1_1 a1_2) < a0 then (impl_IsClue.j0 k a0 (a1_1 != a1_2) a1_0 a1_1 a1_2 a1_3) else (impl_IsClue.j0 k a0 false a1_0 a1_1 a1_2 a1_3)) else (impl_IsClue.j0 k a0 false a1_0 a1_1 a1_2 a1_3)) else (some false)) = some r := H
 have A3 := Aside0.mk A30
 clear A30
 by_cases c4 : t162 = true
 ·subst c4
  have H1 : (if (mn a1_1 a1_2) ≥ 0 then (if (mx a1_1 a1_2) < a0 then (impl_IsClue.j0 k a0 (a1_1 != a1_2) a1_0 a1_1 a1_2 a1_3) else (impl_IsClue.j0 k a0 false a1_0 a1_1 a1_2 a1_3)) else (impl_IsClue.j0 k a0 false a1_0 a1_1 a1_2 a1_3)) = some r := by rw [if_pos rfl] at H; exact H
  clear H
  have H := H1
  clear H1
  have HC5 := Aside0.mk H
  clear H
  go_enter Try.func17, Try.ntmps17
  go_upto_region 3 with (first | ((with_reducible refine gate_dst (N := 3) rfl ?_); (try (refine gate_guard (by rfl) ?_; dsimp only)); refine box_event ?hg (N := 3) ?hd (cs := #[.int .i64 a1_0, .int .i64 a1_1, .int .i64 a1_2, .int .i64 a1_3]) (t := 25) ?hr ?_; (case hd => rfl); (case hg => rfl); (case hr => first | (go_simp; done) | (go_simp; rfl)); intro gb161 hg w6 hbox hb; have n0_ := Aside0.mk (below_step (bb HB.out) hb); have n1_ := Aside0.mk (hbox); have n2_ := Aside0.mk ((by rw [hg]; exact (below_size (bb HB.out)) : w.heap.size ≤ gb161)); have n3_ := Aside0.mk ((by rw [hg]; exact (below_size (bb HB.out)) : w.heap.size ≤ gb161)); clear HB; have HB := n0_; have BK161 := n1_; have GW161 := n2_; have GE161 := n3_; clear n0_ n1_ n2_ n3_; clear hb hbox hg) | ((with_reducible refine gate_callee (f := 54) rfl ?_); refine goesL_ (some 8) rfl rfl Try.func54 (by kernel_rfl) rfl #[.int .i64 a0, .int .i64 2, .int .i64 4] rfl (by (try simp only [List.map_toArray, List.map_cons, List.map_nil]); first | done | rfl | (simp only [List.length_drop, List.length_take]; rfl)) ?_; (with_reducible refine (impl_within.calls a0 2 4 true _ A3.out).mono ?_); rintro e w' ⟨rfl, ⟨nd, rfl⟩⟩; refine ⟨_, rfl, ?_⟩))
  (try simp only [Act.put, List.setIfInBounds_toArray, List.set_cons_zero, List.set_cons_succ])
  go_cut [5] (fun v5 wc => ∃ (kq : Nat) (x5_4 : Bool), v5 = .bool x5_4 ∧ Aside0 (impl_IsClue.j0 kq a0 x5_4 a1_0 a1_1 a1_2 a1_3 = some r) ∧ Aside0 (kq ≤ k) ∧ Aside0 (wc.heap[gb161]? = some (.cells #[.int .i64 a1_0, .int .i64 a1_1, .int .i64 a1_2, .int .i64 a1_3] 25 (0, 0))) ∧ Aside0 (Below w.heap.size w wc))
  case first =>
   have H := HC5.out
   clear HC5
   obtain ⟨ji7, hji7⟩ : ∃ j_ : Int, (mn a1_1 a1_2) = j_ := ⟨_, rfl⟩
   replace H : (if (ji7) ≥ 0 then (if (mx a1_1 a1_2) < a0 then (impl_IsClue.j0 k a0 (a1_1 != a1_2) a1_0 a1_1 a1_2 a1_3) else (impl_IsClue.j0 k a0 false a1_0 a1_1 a1_2 a1_3)) else (impl_IsClue.j0 k a0 false a1_0 a1_1 a1_2 a1_3)) = some r := by first | (rw [hji7] at H; exact H) | (simp only [hji7] at H ⊢; exact H)
   have hji7_ : (if a1_2 < a1_1 then a1_2 else a1_1) = ji7 := hji7
   by_cases c8 : (ji7) ≥ 0
   ·rw [if_pos c8] at H
    have c8b0 : decide (0 ≤ (ji7)) = true := decide_eq_true c8
    clear c8
    (first | rw [c8b0] | (simp only [i64_w, i32_w]; rw [c8b0]) | skip)
    obtain ⟨ji9, hji9⟩ : ∃ j_ : Int, (mx a1_1 a1_2) = j_ := ⟨_, rfl⟩
    replace H : (if (ji9) < a0 then (impl_IsClue.j0 k a0 (a1_1 != a1_2) a1_0 a1_1 a1_2 a1_3) else (impl_IsClue.j0 k a0 false a1_0 a1_1 a1_2 a1_3)) = some r := by first | (rw [hji9] at H; exact H) | (simp only [hji9] at H ⊢; exact H)
    have hji9_ : (if a1_1 < a1_2 then a1_2 else a1_1) = ji9 := hji9
    by_cases c10 : (ji9) < a0
    ·rw [if_pos c10] at H
     have c10b0 : decide ((ji9) < a0) = true := decide_eq_true c10
     clear c10
     have H' := Aside0.mk H
     clear H
     have hcz11_0 : w6.cell? ⟨gb161, 0, none⟩ = some (.int .i64 a1_0) := (blk_cell BK161.out 0).trans rfl
     have hcz11_1 : w6.cell? ⟨gb161, 1, none⟩ = some (.int .i64 a1_1) := (blk_cell BK161.out 1).trans rfl
     have hcz11_2 : w6.cell? ⟨gb161, 2, none⟩ = some (.int .i64 a1_2) := (blk_cell BK161.out 2).trans rfl
     have hcz11_3 : w6.cell? ⟨gb161, 3, none⟩ = some (.int .i64 a1_3) := (blk_cell BK161.out 3).trans rfl
     have hfz11_0 := blk_frozen BK161.out 0
     have hfz11_1 := blk_frozen BK161.out 1
     have hfz11_2 := blk_frozen BK161.out 2
     have hfz11_3 := blk_frozen BK161.out 3
     go_wp2
     go_meet
     case rel => exact ⟨_, ((a1_1 != a1_2)), (by first | rfl | (simp; done) | (simp [*]; done)), H', ⟨by first | omega | exact Nat.le_refl _⟩, ⟨by (with_reducible repeat (first | apply blk_drewN | apply blk_drew | apply blk_alloc)); exact BK161.out⟩, ⟨by repeat (first | (with_reducible first | exact HB.out | apply below_alloc | apply pw_below_drewN | apply below_drew1 | refine below_set ?_ GE161.out) | exact HB.out)⟩⟩
    ·rw [if_neg c10] at H
     have c10b0 : decide ((ji9) < a0) = false := decide_eq_false c10
     clear c10
     have H' := Aside0.mk H
     clear H
     have hcz12_0 : w6.cell? ⟨gb161, 0, none⟩ = some (.int .i64 a1_0) := (blk_cell BK161.out 0).trans rfl
     have hcz12_1 : w6.cell? ⟨gb161, 1, none⟩ = some (.int .i64 a1_1) := (blk_cell BK161.out 1).trans rfl
     have hcz12_2 : w6.cell? ⟨gb161, 2, none⟩ = some (.int .i64 a1_2) := (blk_cell BK161.out 2).trans rfl
     have hcz12_3 : w6.cell? ⟨gb161, 3, none⟩ = some (.int .i64 a1_3) := (blk_cell BK161.out 3).trans rfl
     have hfz12_0 := blk_frozen BK161.out 0
     have hfz12_1 := blk_frozen BK161.out 1
     have hfz12_2 := blk_frozen BK161.out 2
     have hfz12_3 := blk_frozen BK161.out 3
     go_wp2
     go_meet
     case rel => exact ⟨_, (false), (by first | rfl | (simp; done) | (simp [*]; done)), H', ⟨by first | omega | exact Nat.le_refl _⟩, ⟨by (with_reducible repeat (first | apply blk_drewN | apply blk_drew | apply blk_alloc)); exact BK161.out⟩, ⟨by repeat (first | (with_reducible first | exact HB.out | apply below_alloc | apply pw_below_drewN | apply below_drew1 | refine below_set ?_ GE161.out) | exact HB.out)⟩⟩
   ·rw [if_neg c8] at H
    have c8b0 : decide (0 ≤ (ji7)) = false := decide_eq_false c8
    clear c8
    (first | rw [c8b0] | (simp only [i64_w, i32_w]; rw [c8b0]) | skip)
    have H' := Aside0.mk H
    clear H
    have hcz13_0 : w6.cell? ⟨gb161, 0, none⟩ = some (.int .i64 a1_0) := (blk_cell BK161.out 0).trans rfl
    have hcz13_1 : w6.cell? ⟨gb161, 1, none⟩ = some (.int .i64 a1_1) := (blk_cell BK161.out 1).trans rfl
    have hcz13_2 : w6.cell? ⟨gb161, 2, none⟩ = some (.int .i64 a1_2) := (blk_cell BK161.out 2).trans rfl
    have hcz13_3 : w6.cell? ⟨gb161, 3, none⟩ = some (.int .i64 a1_3) := (blk_cell BK161.out 3).trans rfl
    have hfz13_0 := blk_frozen BK161.out 0
    have hfz13_1 := blk_frozen BK161.out 1
    have hfz13_2 := blk_frozen BK161.out 2
    have hfz13_3 := blk_frozen BK161.out 3
    go_wp2
    go_meet
    case rel => exact ⟨_, (false), (by first | rfl | (simp; done) | (simp [*]; done)), H', ⟨by first | omega | exact Nat.le_refl _⟩, ⟨by (with_reducible repeat (first | apply blk_drewN | apply blk_drew | apply blk_alloc)); exact BK161.out⟩, ⟨by repeat (first | (with_reducible first | exact HB.out | apply below_alloc | apply pw_below_drewN | apply below_drew1 | refine below_set ?_ GE161.out) | exact HB.out)⟩⟩
  case rest =>
   clear HC5
   obtain ⟨kq, x5_4, rfl, HA, HJ4, BK161, HB⟩ := hcut
   cases kq with
   | zero => exact absurd HA.out (by simp [impl_IsClue.j0])
   | succ kj4 =>
    have H := HA.out
    clear HA
    simp only [impl_IsClue.j0] at H
    have HC14 := Aside0.mk H
    clear H
    go_upto_region 4 with (fail)
    go_cut [6] (fun v6 wc => ∃ (kq : Nat) (x6_13 : Bool), v6 = .bool x6_13 ∧ Aside0 (impl_IsClue.j1 kq a0 x5_4 x6_13 a1_0 a1_1 a1_2 a1_3 = some r) ∧ Aside0 (kq ≤ kj4) ∧ Aside0 (wc.heap[gb161]? = some (.cells #[.int .i64 a1_0, .int .i64 a1_1, .int .i64 a1_2, .int .i64 a1_3] 25 (0, 0))) ∧ Aside0 (Below w.heap.size w wc))
    case first =>
     have H := HC14.out
     clear HC14
     by_cases c15 : a1_1 = 0
     ·rw [if_pos c15] at H
      have c15b0 : (a1_1 == 0) = true := beq_iff_eq.mpr c15
      have c15b1 : (a1_1 != 0) = false := bne_eq_false_iff_eq.mpr c15
      clear c15
      (first | rw [c15b0] | (simp only [i64_w, i32_w]; rw [c15b0]) | skip)
      have H' := Aside0.mk H
      clear H
      have hcz16_0 : wc.cell? ⟨gb161, 0, none⟩ = some (.int .i64 a1_0) := (blk_cell BK161.out 0).trans rfl
      have hcz16_1 : wc.cell? ⟨gb161, 1, none⟩ = some (.int .i64 a1_1) := (blk_cell BK161.out 1).trans rfl
      have hcz16_2 : wc.cell? ⟨gb161, 2, none⟩ = some (.int .i64 a1_2) := (blk_cell BK161.out 2).trans rfl
      have hcz16_3 : wc.cell? ⟨gb161, 3, none⟩ = some (.int .i64 a1_3) := (blk_cell BK161.out 3).trans rfl
      have hfz16_0 := blk_frozen BK161.out 0
      have hfz16_1 := blk_frozen BK161.out 1
      have hfz16_2 := blk_frozen BK161.out 2
      have hfz16_3 := blk_frozen BK161.out 3
      go_wp2
      go_meet
      case rel => exact ⟨_, ((a1_2 == 0)), (by first | rfl | (simp; done) | (simp [*]; done)), H', ⟨by have := HJ4.out; first | omega | exact Nat.le_refl _⟩, ⟨by (with_reducible repeat (first | apply blk_drewN | apply blk_drew | apply blk_alloc)); exact BK161.out⟩, ⟨by repeat (first | (with_reducible first | exact HB.out | apply below_alloc | apply pw_below_drewN | apply below_drew1 | refine below_set ?_ GE161.out) | exact HB.out)⟩⟩
     ·rw [if_neg c15] at H
      have c15b0 : (a1_1 == 0) = false := beq_eq_false_iff_ne.mpr c15
      have c15b1 : (a1_1 != 0) = true := bne_iff_ne.mpr c15
      (first | rw [c15b0] | (simp only [i64_w, i32_w]; rw [c15b0]) | skip)
      have H' := Aside0.mk H
      clear H
      have hcz17_0 : wc.cell? ⟨gb161, 0, none⟩ = some (.int .i64 a1_0) := (blk_cell BK161.out 0).trans rfl
      have hcz17_1 : wc.cell? ⟨gb161, 1, none⟩ = some (.int .i64 a1_1) := (blk_cell BK161.out 1).trans rfl
      have hcz17_2 : wc.cell? ⟨gb161, 2, none⟩ = some (.int .i64 a1_2) := (blk_cell BK161.out 2).trans rfl
      have hcz17_3 : wc.cell? ⟨gb161, 3, none⟩ = some (.int .i64 a1_3) := (blk_cell BK161.out 3).trans rfl
      have hfz17_0 := blk_frozen BK161.out 0
      have hfz17_1 := blk_frozen BK161.out 1
      have hfz17_2 := blk_frozen BK161.out 2
      have hfz17_3 := blk_frozen BK161.out 3
      go_wp2
      go_meet
      case rel => exact ⟨_, (false), (by first | rfl | (simp; done) | (simp [*]; done)), H', ⟨by have := HJ4.out; first | omega | exact Nat.le_refl _⟩, ⟨by (with_reducible repeat (first | apply blk_drewN | apply blk_drew | apply blk_alloc)); exact BK161.out⟩, ⟨by repeat (first | (with_reducible first | exact HB.out | apply below_alloc | apply pw_below_drewN | apply below_drew1 | refine below_set ?_ GE161.out) | exact HB.out)⟩⟩
    case rest =>
     clear HC14
     obtain ⟨kq, x6_13, rfl, HA, HJ13, BK161, HB⟩ := hcut
     cases kq with
     | zero => exact absurd HA.out (by simp [impl_IsClue.j1])
     | succ kj13 =>
      have H := HA.out
      clear HA
      simp only [impl_IsClue.j1] at H
      have HC18 := Aside0.mk H
      clear H
      have hcz19_0 : wc.cell? ⟨gb161, 0, none⟩ = some (.int .i64 a1_0) := (blk_cell BK161.out 0).trans rfl
      have hcz19_1 : wc.cell? ⟨gb161, 1, none⟩ = some (.int .i64 a1_1) := (blk_cell BK161.out 1).trans rfl
      have hcz19_2 : wc.cell? ⟨gb161, 2, none⟩ = some (.int .i64 a1_2) := (blk_cell BK161.out 2).trans rfl
      have hcz19_3 : wc.cell? ⟨gb161, 3, none⟩ = some (.int .i64 a1_3) := (blk_cell BK161.out 3).trans rfl
      have hfz19_0 := blk_frozen BK161.out 0
      have hfz19_1 := blk_frozen BK161.out 1
      have hfz19_2 := blk_frozen BK161.out 2
      have hfz19_3 := blk_frozen BK161.out 3
      go_upto_if 42 with (fail)
      go_cut [42] (fun v42 wc => ∃ (kq : Nat) (x42_17 : Bool), v42 = .bool x42_17 ∧ Aside0 (impl_IsClue.j2 kq a0 x5_4 x6_13 a1_0 x42_17 a1_0 a1_1 a1_2 a1_3 = some r) ∧ Aside0 (kq ≤ kj13) ∧ Aside0 (wc.heap[gb161]? = some (.cells #[.int .i64 a1_0, .int .i64 a1_1, .int .i64 a1_2, .int .i64 a1_3] 25 (0, 0))) ∧ Aside0 (Below w.heap.size w wc))
      case first =>
       have H := HC18.out
       clear HC18
       by_cases c20 : a1_0 = 0
       ·rw [if_pos c20] at H
        have c20b0 : (a1_0 == 0) = true := beq_iff_eq.mpr c20
        have c20b1 : (a1_0 != 0) = false := bne_eq_false_iff_eq.mpr c20
        clear c20
        (first | rw [c20b0] | (simp only [i64_w, i32_w]; rw [c20b0]) | skip)
        have H' := Aside0.mk H
        clear H
        go_wp2
        go_meet
        case rel => exact ⟨_, ((a1_0 == 0)), (by first | rfl | (simp; done) | (simp [*]; done)), H', ⟨by have := HJ4.out; have := HJ13.out; first | omega | exact Nat.le_refl _⟩, ⟨by (with_reducible repeat (first | apply blk_drewN | apply blk_drew | apply blk_alloc)); exact BK161.out⟩, ⟨by repeat (first | (with_reducible first | exact HB.out | apply below_alloc | apply pw_below_drewN | apply below_drew1 | refine below_set ?_ GE161.out) | exact HB.out)⟩⟩
       ·rw [if_neg c20] at H
        have c20b0 : (a1_0 == 0) = false := beq_eq_false_iff_ne.mpr c20
        have c20b1 : (a1_0 != 0) = true := bne_iff_ne.mpr c20
        (first | rw [c20b0] | (simp only [i64_w, i32_w]; rw [c20b0]) | skip)
        have H' := Aside0.mk H
        clear H
        go_wp2
        go_meet
        case rel => exact ⟨_, ((a1_0 == 3)), (by first | rfl | (simp; done) | (simp [*]; done)), H', ⟨by have := HJ4.out; have := HJ13.out; first | omega | exact Nat.le_refl _⟩, ⟨by (with_reducible repeat (first | apply blk_drewN | apply blk_drew | apply blk_alloc)); exact BK161.out⟩, ⟨by repeat (first | (with_reducible first | exact HB.out | apply below_alloc | apply pw_below_drewN | apply below_drew1 | refine below_set ?_ GE161.out) | exact HB.out)⟩⟩
      case rest =>
       clear HC18
       try clear hcz19_0
       try clear hcz19_1
       try clear hcz19_2
       try clear hcz19_3
       try clear hfz19_0
       try clear hfz19_1
       try clear hfz19_2
       try clear hfz19_3
       obtain ⟨kq, x42_17, rfl, HA, HJ17, BK161, HB⟩ := hcut
       cases kq with
       | zero => exact absurd HA.out (by simp [impl_IsClue.j2])
       | succ kj17 =>
        have H := HA.out
        clear HA
        simp only [impl_IsClue.j2] at H
        by_cases c21 : x42_17 = true
        ·subst c21
         have H1 : (if x6_13 = true then ((impl_within.f a1_3 0 20).bind fun t163 => (some t163)) else (some false)) = some r := by rw [if_pos rfl] at H; exact H
         clear H
         have H := H1
         clear H1
         by_cases c22 : x6_13 = true
         ·subst c22
          have H1 : ((impl_within.f a1_3 0 20).bind fun t163 => (some t163)) = some r := by rw [if_pos rfl] at H; exact H
          clear H
          have H := H1
          clear H1
          replace H := Option.bind_eq_some_iff.mp H
          obtain ⟨t163, A230, H⟩ := H
          replace H : (some t163) = some r := H
          have A23 := Aside0.mk A230
          clear A230
          obtain rfl := Option.some.inj H
          have hcz24_0 : wc.cell? ⟨gb161, 0, none⟩ = some (.int .i64 a1_0) := (blk_cell BK161.out 0).trans rfl
          have hcz24_1 : wc.cell? ⟨gb161, 1, none⟩ = some (.int .i64 a1_1) := (blk_cell BK161.out 1).trans rfl
          have hcz24_2 : wc.cell? ⟨gb161, 2, none⟩ = some (.int .i64 a1_2) := (blk_cell BK161.out 2).trans rfl
          have hcz24_3 : wc.cell? ⟨gb161, 3, none⟩ = some (.int .i64 a1_3) := (blk_cell BK161.out 3).trans rfl
          have hfz24_0 := blk_frozen BK161.out 0
          have hfz24_1 := blk_frozen BK161.out 1
          have hfz24_2 := blk_frozen BK161.out 2
          have hfz24_3 := blk_frozen BK161.out 3
          go_wp2_with (first | (go_at_call 54; (with_reducible refine (impl_within.calls a1_3 0 20 t163 _ A23.out).mono ?_); rintro e w' ⟨rfl, ⟨nd, rfl⟩⟩))
          go_ret
          exact ⟨by first | rfl | (simp [errW_none, errW_some] <;> rfl) | (simp [*, errW_none, errW_some] <;> rfl), by repeat (first | (with_reducible first | exact HB.out | apply below_alloc | apply pw_below_drewN | apply below_drew1 | refine below_set ?_ GE161.out) | exact HB.out)⟩
         ·replace c22 := Bool.eq_false_iff.mpr c22
          subst c22
          have H1 : (some false) = some r := by rw [if_neg (show ¬ (false = true) by decide)] at H; exact H
          clear H
          have H := H1
          clear H1
          obtain rfl := Option.some.inj H
          go_wp2
          go_ret
          exact ⟨by first | rfl | (simp [errW_none, errW_some] <;> rfl) | (simp [*, errW_none, errW_some] <;> rfl), by repeat (first | (with_reducible first | exact HB.out | apply below_alloc | apply pw_below_drewN | apply below_drew1 | refine below_set ?_ GE161.out) | exact HB.out)⟩
        ·replace c21 := Bool.eq_false_iff.mpr c21
         subst c21
         have H1 : (if a1_0 = 1 then (if x5_4 = true then ((impl_within.f a1_3 0 1).bind fun t164 => (some t164)) else (some false)) else (if a1_0 = 2 then ((impl_within.f a1_1 0 5).bind fun t165 => (if t165 = true then (if a1_2 = 0 then ((impl_within.f a1_3 0 a0).bind fun t166 => (some t166)) else (some false)) else (some false))) else (if a1_0 = 4 then (if x5_4 = true then ((impl_within.f a1_3 0 10).bind fun t167 => (some t167)) else (some false)) else (if a1_0 = 5 then (if x6_13 = true then ((impl_within.f a1_3 0 5).bind fun t168 => (some t168)) else (some false)) else (some false))))) = some r := by rw [if_neg (show ¬ (false = true) by decide)] at H; exact H
         clear H
         have H := H1
         clear H1
         by_cases c25 : a1_0 = 1
         ·rw [if_pos c25] at H
          have c25b0 : (a1_0 == 1) = true := beq_iff_eq.mpr c25
          have c25b1 : (a1_0 != 1) = false := bne_eq_false_iff_eq.mpr c25
          clear c25
          by_cases c26 : x5_4 = true
          ·subst c26
           have H1 : ((impl_within.f a1_3 0 1).bind fun t164 => (some t164)) = some r := by rw [if_pos rfl] at H; exact H
           clear H
           have H := H1
           clear H1
           replace H := Option.bind_eq_some_iff.mp H
           obtain ⟨t164, A270, H⟩ := H
           replace H : (some t164) = some r := H
           have A27 := Aside0.mk A270
           clear A270
           obtain rfl := Option.some.inj H
           have hcz28_0 : wc.cell? ⟨gb161, 0, none⟩ = some (.int .i64 a1_0) := (blk_cell BK161.out 0).trans rfl
           have hcz28_1 : wc.cell? ⟨gb161, 1, none⟩ = some (.int .i64 a1_1) := (blk_cell BK161.out 1).trans rfl
           have hcz28_2 : wc.cell? ⟨gb161, 2, none⟩ = some (.int .i64 a1_2) := (blk_cell BK161.out 2).trans rfl
           have hcz28_3 : wc.cell? ⟨gb161, 3, none⟩ = some (.int .i64 a1_3) := (blk_cell BK161.out 3).trans rfl
           have hfz28_0 := blk_frozen BK161.out 0
           have hfz28_1 := blk_frozen BK161.out 1
           have hfz28_2 := blk_frozen BK161.out 2
           have hfz28_3 := blk_frozen BK161.out 3
           go_wp2_with (first | (go_at_call 54; (with_reducible refine (impl_within.calls a1_3 0 1 t164 _ A27.out).mono ?_); rintro e w' ⟨rfl, ⟨nd, rfl⟩⟩))
           go_ret
           exact ⟨by first | rfl | (simp [errW_none, errW_some] <;> rfl) | (simp [*, errW_none, errW_some] <;> rfl), by repeat (first | (with_reducible first | exact HB.out | apply below_alloc | apply pw_below_drewN | apply below_drew1 | refine below_set ?_ GE161.out) | exact HB.out)⟩
          ·replace c26 := Bool.eq_false_iff.mpr c26
           subst c26
           have H1 : (some false) = some r := by rw [if_neg (show ¬ (false = true) by decide)] at H; exact H
           clear H
           have H := H1
           clear H1
           obtain rfl := Option.some.inj H
           go_wp2
           go_ret
           exact ⟨by first | rfl | (simp [errW_none, errW_some] <;> rfl) | (simp [*, errW_none, errW_some] <;> rfl), by repeat (first | (with_reducible first | exact HB.out | apply below_alloc | apply pw_below_drewN | apply below_drew1 | refine below_set ?_ GE161.out) | exact HB.out)⟩
         ·rw [if_neg c25] at H
          have c25b0 : (a1_0 == 1) = false := beq_eq_false_iff_ne.mpr c25
          have c25b1 : (a1_0 != 1) = true := bne_iff_ne.mpr c25
          by_cases c29 : a1_0 = 2
          ·rw [if_pos c29] at H
           have c29b0 : (a1_0 == 2) = true := beq_iff_eq.mpr c29
           have c29b1 : (a1_0 != 2) = false := bne_eq_false_iff_eq.mpr c29
           clear c29
           replace H := Option.bind_eq_some_iff.mp H
           obtain ⟨t165, A300, H⟩ := H
           replace H : (if t165 = true then (if a1_2 = 0 then ((impl_within.f a1_3 0 a0).bind fun t166 => (some t166)) else (some false)) else (some false)) = some r := H
           have A30 := Aside0.mk A300
           clear A300
           by_cases c31 : t165 = true
           ·subst c31
            have H1 : (if a1_2 = 0 then ((impl_within.f a1_3 0 a0).bind fun t166 => (some t166)) else (some false)) = some r := by rw [if_pos rfl] at H; exact H
            clear H
            have H := H1
            clear H1
            by_cases c32 : a1_2 = 0
            ·rw [if_pos c32] at H
             have c32b0 : (a1_2 == 0) = true := beq_iff_eq.mpr c32
             have c32b1 : (a1_2 != 0) = false := bne_eq_false_iff_eq.mpr c32
             clear c32
             replace H := Option.bind_eq_some_iff.mp H
             obtain ⟨t166, A330, H⟩ := H
             replace H : (some t166) = some r := H
             have A33 := Aside0.mk A330
             clear A330
             obtain rfl := Option.some.inj H
             have hcz34_0 : wc.cell? ⟨gb161, 0, none⟩ = some (.int .i64 a1_0) := (blk_cell BK161.out 0).trans rfl
             have hcz34_1 : wc.cell? ⟨gb161, 1, none⟩ = some (.int .i64 a1_1) := (blk_cell BK161.out 1).trans rfl
             have hcz34_2 : wc.cell? ⟨gb161, 2, none⟩ = some (.int .i64 a1_2) := (blk_cell BK161.out 2).trans rfl
             have hcz34_3 : wc.cell? ⟨gb161, 3, none⟩ = some (.int .i64 a1_3) := (blk_cell BK161.out 3).trans rfl
             have hfz34_0 := blk_frozen BK161.out 0
             have hfz34_1 := blk_frozen BK161.out 1
             have hfz34_2 := blk_frozen BK161.out 2
             have hfz34_3 := blk_frozen BK161.out 3
             go_wp2_with (first | ((with_reducible refine gate_callee (f := 54) rfl ?_); refine goesL_ (some 63) rfl rfl Try.func54 (by kernel_rfl) rfl #[.int .i64 a1_1, .int .i64 0, .int .i64 5] rfl (by (try simp only [List.map_toArray, List.map_cons, List.map_nil]); first | done | rfl | (simp only [List.length_drop, List.length_take]; rfl)) ?_; (with_reducible refine (impl_within.calls a1_1 0 5 true _ A30.out).mono ?_); rintro e w' ⟨rfl, ⟨nd, rfl⟩⟩; refine ⟨_, rfl, ?_⟩) | (go_at_call 54; (with_reducible refine (impl_within.calls a1_3 0 a0 t166 _ A33.out).mono ?_); rintro e w' ⟨rfl, ⟨nd, rfl⟩⟩))
             go_ret
             exact ⟨by first | rfl | (simp [errW_none, errW_some] <;> rfl) | (simp [*, errW_none, errW_some] <;> rfl), by repeat (first | (with_reducible first | exact HB.out | apply below_alloc | apply pw_below_drewN | apply below_drew1 | refine below_set ?_ GE161.out) | exact HB.out)⟩
            ·rw [if_neg c32] at H
             have c32b0 : (a1_2 == 0) = false := beq_eq_false_iff_ne.mpr c32
             have c32b1 : (a1_2 != 0) = true := bne_iff_ne.mpr c32
             obtain rfl := Option.some.inj H
             have hcz35_0 : wc.cell? ⟨gb161, 0, none⟩ = some (.int .i64 a1_0) := (blk_cell BK161.out 0).trans rfl
             have hcz35_1 : wc.cell? ⟨gb161, 1, none⟩ = some (.int .i64 a1_1) := (blk_cell BK161.out 1).trans rfl
             have hcz35_2 : wc.cell? ⟨gb161, 2, none⟩ = some (.int .i64 a1_2) := (blk_cell BK161.out 2).trans rfl
             have hcz35_3 : wc.cell? ⟨gb161, 3, none⟩ = some (.int .i64 a1_3) := (blk_cell BK161.out 3).trans rfl
             have hfz35_0 := blk_frozen BK161.out 0
             have hfz35_1 := blk_frozen BK161.out 1
             have hfz35_2 := blk_frozen BK161.out 2
             have hfz35_3 := blk_frozen BK161.out 3
             go_wp2_with (first | ((with_reducible refine gate_callee (f := 54) rfl ?_); refine goesL_ (some 63) rfl rfl Try.func54 (by kernel_rfl) rfl #[.int .i64 a1_1, .int .i64 0, .int .i64 5] rfl (by (try simp only [List.map_toArray, List.map_cons, List.map_nil]); first | done | rfl | (simp only [List.length_drop, List.length_take]; rfl)) ?_; (with_reducible refine (impl_within.calls a1_1 0 5 true _ A30.out).mono ?_); rintro e w' ⟨rfl, ⟨nd, rfl⟩⟩; refine ⟨_, rfl, ?_⟩))
             go_ret
             exact ⟨by first | rfl | (simp [errW_none, errW_some] <;> rfl) | (simp [*, errW_none, errW_some] <;> rfl), by repeat (first | (with_reducible first | exact HB.out | apply below_alloc | apply pw_below_drewN | apply below_drew1 | refine below_set ?_ GE161.out) | exact HB.out)⟩
           ·replace c31 := Bool.eq_false_iff.mpr c31
            subst c31
            have H1 : (some false) = some r := by rw [if_neg (show ¬ (false = true) by decide)] at H; exact H
            clear H
            have H := H1
            clear H1
            obtain rfl := Option.some.inj H
            have hcz36_0 : wc.cell? ⟨gb161, 0, none⟩ = some (.int .i64 a1_0) := (blk_cell BK161.out 0).trans rfl
            have hcz36_1 : wc.cell? ⟨gb161, 1, none⟩ = some (.int .i64 a1_1) := (blk_cell BK161.out 1).trans rfl
            have hcz36_2 : wc.cell? ⟨gb161, 2, none⟩ = some (.int .i64 a1_2) := (blk_cell BK161.out 2).trans rfl
            have hcz36_3 : wc.cell? ⟨gb161, 3, none⟩ = some (.int .i64 a1_3) := (blk_cell BK161.out 3).trans rfl
            have hfz36_0 := blk_frozen BK161.out 0
            have hfz36_1 := blk_frozen BK161.out 1
            have hfz36_2 := blk_frozen BK161.out 2
            have hfz36_3 := blk_frozen BK161.out 3
            go_wp2_with (first | ((with_reducible refine gate_callee (f := 54) rfl ?_); refine goesL_ (some 63) rfl rfl Try.func54 (by kernel_rfl) rfl #[.int .i64 a1_1, .int .i64 0, .int .i64 5] rfl (by (try simp only [List.map_toArray, List.map_cons, List.map_nil]); first | done | rfl | (simp only [List.length_drop, List.length_take]; rfl)) ?_; (with_reducible refine (impl_within.calls a1_1 0 5 false _ A30.out).mono ?_); rintro e w' ⟨rfl, ⟨nd, rfl⟩⟩; refine ⟨_, rfl, ?_⟩))
            go_ret
            exact ⟨by first | rfl | (simp [errW_none, errW_some] <;> rfl) | (simp [*, errW_none, errW_some] <;> rfl), by repeat (first | (with_reducible first | exact HB.out | apply below_alloc | apply pw_below_drewN | apply below_drew1 | refine below_set ?_ GE161.out) | exact HB.out)⟩
          ·rw [if_neg c29] at H
           have c29b0 : (a1_0 == 2) = false := beq_eq_false_iff_ne.mpr c29
           have c29b1 : (a1_0 != 2) = true := bne_iff_ne.mpr c29
           by_cases c37 : a1_0 = 4
           ·rw [if_pos c37] at H
            have c37b0 : (a1_0 == 4) = true := beq_iff_eq.mpr c37
            have c37b1 : (a1_0 != 4) = false := bne_eq_false_iff_eq.mpr c37
            clear c37
            by_cases c38 : x5_4 = true
            ·subst c38
             have H1 : ((impl_within.f a1_3 0 10).bind fun t167 => (some t167)) = some r := by rw [if_pos rfl] at H; exact H
             clear H
             have H := H1
             clear H1
             replace H := Option.bind_eq_some_iff.mp H
             obtain ⟨t167, A390, H⟩ := H
             replace H : (some t167) = some r := H
             have A39 := Aside0.mk A390
             clear A390
             obtain rfl := Option.some.inj H
             have hcz40_0 : wc.cell? ⟨gb161, 0, none⟩ = some (.int .i64 a1_0) := (blk_cell BK161.out 0).trans rfl
             have hcz40_1 : wc.cell? ⟨gb161, 1, none⟩ = some (.int .i64 a1_1) := (blk_cell BK161.out 1).trans rfl
             have hcz40_2 : wc.cell? ⟨gb161, 2, none⟩ = some (.int .i64 a1_2) := (blk_cell BK161.out 2).trans rfl
             have hcz40_3 : wc.cell? ⟨gb161, 3, none⟩ = some (.int .i64 a1_3) := (blk_cell BK161.out 3).trans rfl
             have hfz40_0 := blk_frozen BK161.out 0
             have hfz40_1 := blk_frozen BK161.out 1
             have hfz40_2 := blk_frozen BK161.out 2
             have hfz40_3 := blk_frozen BK161.out 3
             go_wp2_with (first | (go_at_call 54; (with_reducible refine (impl_within.calls a1_3 0 10 t167 _ A39.out).mono ?_); rintro e w' ⟨rfl, ⟨nd, rfl⟩⟩))
             go_ret
             exact ⟨by first | rfl | (simp [errW_none, errW_some] <;> rfl) | (simp [*, errW_none, errW_some] <;> rfl), by repeat (first | (with_reducible first | exact HB.out | apply below_alloc | apply pw_below_drewN | apply below_drew1 | refine below_set ?_ GE161.out) | exact HB.out)⟩
            ·replace c38 := Bool.eq_false_iff.mpr c38
             subst c38
             have H1 : (some false) = some r := by rw [if_neg (show ¬ (false = true) by decide)] at H; exact H
             clear H
             have H := H1
             clear H1
             obtain rfl := Option.some.inj H
             go_wp2
             go_ret
             exact ⟨by first | rfl | (simp [errW_none, errW_some] <;> rfl) | (simp [*, errW_none, errW_some] <;> rfl), by repeat (first | (with_reducible first | exact HB.out | apply below_alloc | apply pw_below_drewN | apply below_drew1 | refine below_set ?_ GE161.out) | exact HB.out)⟩
           ·rw [if_neg c37] at H
            have c37b0 : (a1_0 == 4) = false := beq_eq_false_iff_ne.mpr c37
            have c37b1 : (a1_0 != 4) = true := bne_iff_ne.mpr c37
            by_cases c41 : a1_0 = 5
            ·rw [if_pos c41] at H
             have c41b0 : (a1_0 == 5) = true := beq_iff_eq.mpr c41
             have c41b1 : (a1_0 != 5) = false := bne_eq_false_iff_eq.mpr c41
             clear c41
             by_cases c42 : x6_13 = true
             ·subst c42
              have H1 : ((impl_within.f a1_3 0 5).bind fun t168 => (some t168)) = some r := by rw [if_pos rfl] at H; exact H
              clear H
              have H := H1
              clear H1
              replace H := Option.bind_eq_some_iff.mp H
              obtain ⟨t168, A430, H⟩ := H
              replace H : (some t168) = some r := H
              have A43 := Aside0.mk A430
              clear A430
              obtain rfl := Option.some.inj H
              have hcz44_0 : wc.cell? ⟨gb161, 0, none⟩ = some (.int .i64 a1_0) := (blk_cell BK161.out 0).trans rfl
              have hcz44_1 : wc.cell? ⟨gb161, 1, none⟩ = some (.int .i64 a1_1) := (blk_cell BK161.out 1).trans rfl
              have hcz44_2 : wc.cell? ⟨gb161, 2, none⟩ = some (.int .i64 a1_2) := (blk_cell BK161.out 2).trans rfl
              have hcz44_3 : wc.cell? ⟨gb161, 3, none⟩ = some (.int .i64 a1_3) := (blk_cell BK161.out 3).trans rfl
              have hfz44_0 := blk_frozen BK161.out 0
              have hfz44_1 := blk_frozen BK161.out 1
              have hfz44_2 := blk_frozen BK161.out 2
              have hfz44_3 := blk_frozen BK161.out 3
              go_wp2_with (first | (go_at_call 54; (with_reducible refine (impl_within.calls a1_3 0 5 t168 _ A43.out).mono ?_); rintro e w' ⟨rfl, ⟨nd, rfl⟩⟩))
              go_ret
              exact ⟨by first | rfl | (simp [errW_none, errW_some] <;> rfl) | (simp [*, errW_none, errW_some] <;> rfl), by repeat (first | (with_reducible first | exact HB.out | apply below_alloc | apply pw_below_drewN | apply below_drew1 | refine below_set ?_ GE161.out) | exact HB.out)⟩
             ·replace c42 := Bool.eq_false_iff.mpr c42
              subst c42
              have H1 : (some false) = some r := by rw [if_neg (show ¬ (false = true) by decide)] at H; exact H
              clear H
              have H := H1
              clear H1
              obtain rfl := Option.some.inj H
              go_wp2
              go_ret
              exact ⟨by first | rfl | (simp [errW_none, errW_some] <;> rfl) | (simp [*, errW_none, errW_some] <;> rfl), by repeat (first | (with_reducible first | exact HB.out | apply below_alloc | apply pw_below_drewN | apply below_drew1 | refine below_set ?_ GE161.out) | exact HB.out)⟩
            ·rw [if_neg c41] at H
             have c41b0 : (a1_0 == 5) = false := beq_eq_false_iff_ne.mpr c41
             have c41b1 : (a1_0 != 5) = true := bne_iff_ne.mpr c41
             obtain rfl := Option.some.inj H
             go_wp2
             go_ret
             exact ⟨by first | rfl | (simp [errW_none, errW_some] <;> rfl) | (simp [*, errW_none, errW_some] <;> rfl), by repeat (first | (with_reducible first | exact HB.out | apply below_alloc | apply pw_below_drewN | apply below_drew1 | refine below_set ?_ GE161.out) | exact HB.out)⟩
 ·replace c4 := Bool.eq_false_iff.mpr c4
  subst c4
  have H1 : (some false) = some r := by rw [if_neg (show ¬ (false = true) by decide)] at H; exact H
  clear H
  have H := H1
  clear H1
  obtain rfl := Option.some.inj H
  go_enter Try.func17, Try.ntmps17
  go_wp2_with (first | ((with_reducible refine gate_dst (N := 3) rfl ?_); (try (refine gate_guard (by rfl) ?_; dsimp only)); refine box_event ?hg (N := 3) ?hd (cs := #[.int .i64 a1_0, .int .i64 a1_1, .int .i64 a1_2, .int .i64 a1_3]) (t := 25) ?hr ?_; (case hd => rfl); (case hg => rfl); (case hr => first | (go_simp; done) | (go_simp; rfl)); intro gb161 hg w45 hbox hb; have n0_ := Aside0.mk (below_step (bb HB.out) hb); have n1_ := Aside0.mk (hbox); have n2_ := Aside0.mk ((by rw [hg]; exact (below_size (bb HB.out)) : w.heap.size ≤ gb161)); have n3_ := Aside0.mk ((by rw [hg]; exact (below_size (bb HB.out)) : w.heap.size ≤ gb161)); clear HB; have HB := n0_; have BK161 := n1_; have GW161 := n2_; have GE161 := n3_; clear n0_ n1_ n2_ n3_; clear hb hbox hg) | ((with_reducible refine gate_callee (f := 54) rfl ?_); refine goesL_ (some 8) rfl rfl Try.func54 (by kernel_rfl) rfl #[.int .i64 a0, .int .i64 2, .int .i64 4] rfl (by (try simp only [List.map_toArray, List.map_cons, List.map_nil]); first | done | rfl | (simp only [List.length_drop, List.length_take]; rfl)) ?_; (with_reducible refine (impl_within.calls a0 2 4 false _ A3.out).mono ?_); rintro e w' ⟨rfl, ⟨nd, rfl⟩⟩; refine ⟨_, rfl, ?_⟩))
  go_ret
  exact ⟨by first | rfl | (simp [errW_none, errW_some] <;> rfl) | (simp [*, errW_none, errW_some] <;> rfl), by repeat (first | (with_reducible first | exact HB.out | apply below_alloc | apply pw_below_drewN | apply below_drew1 | refine below_set ?_ GE161.out) | exact HB.out)⟩

/-! ### impl_Clue_81: function 81 -/
set_option maxHeartbeats 8000000 in
set_option maxRecDepth 100000 in
/-- slices.IndexFunc at []Clue, for every predicate that leaves alone what lay below a base. -/
theorem slices_IndexFunc_Clue.calls (g : Nat) (lb : Array Value) (p : S25 → Option Bool) (A0 : Option Addr) (c0 : Nat) (l0 : List S25) (r : Int) (n0 : Nat) (w0 w : World) (hb0 : Below n0 w0 w) (hn0 : n0 ≤ w.heap.size) (hr0 : Kd.C k25 w A0 l0.length l0) (hm0 : l0.length ≤ 9223372036854775807) (eg : ∀ args w, (callFunc g args).run Try.prog w = .ok (.enter g args) w)
  (hp : ∀ (x : S25) (b : Bool) (W : World), p x = some b → Below n0 w0 W → Calls Try.prog g (#[.agg #[.int .i64 x.f0, .int .i64 x.f1, .int .i64 x.f2, .int .i64 x.f3]] ++ lb) W fun e W' => e = .returned (.bool b) ∧ Below W.heap.size W W') (h : idxO p l0 0 = some r) :
  Calls Try.prog 81 #[.slice A0 l0.length c0, .func (.func g) #[] lb] w fun e w' => e = .returned (.int .i64 r) ∧ Below w.heap.size w w' := by
 have HR0 := Aside0.mk hr0
 have HP := Aside0.mk hp
 have HB0 := Aside0.mk hb0
 clear hr0 hp hb0
 have HB := Aside0.mk (Below.refl w.heap.size w)
 have HH := Aside0.mk h
 clear h
 go_enter Try.func81, Try.ntmps81
 go_wp2
 go_loopg [8] l0.length (fun gk v8 w' => ∃ x8 : Int, v8 = .int .i64 x8 ∧ Aside0 (0 ≤ x8 ∧ x8 ≤ l0.length) ∧ Aside0 (l0.length - x8.toNat ≤ gk) ∧ Aside0 (idxO p (l0.drop x8.toNat) x8 = some r) ∧ Aside0 (Below w.heap.size w w'))
 case atStart => exact ⟨0, rfl, ⟨by omega, by omega⟩, ⟨by omega⟩, ⟨by simpa using HH.out⟩, HB⟩
 case round =>
  clear HH HB
  obtain ⟨x8, rfl, HK, HG, HA, HB⟩ := hrel
  by_cases hlt : x8 < (l0.length : Int)
  ·have c4b0 : decide (x8 < (l0.length : Int)) = true := decide_eq_true hlt
   have H := HA.out
   have hk := HK.out
   clear HA
   have hl : x8.toNat < l0.length := by omega
   rw [idxO_drop p l0 x8.toNat hl] at H
   replace H := Option.bind_eq_some_iff.mp H
   obtain ⟨b, hb, H⟩ := H
   have e_ : l0[x8.toNat] = rd_T25 l0 x8 := by
    unfold rd_T25
    simp [hl]
   rw [e_] at hb
   have HPB := Aside0.mk hb
   have HW := Aside0.mk (show wrap64 (x8 + 1) = x8 + 1 by unfold wrap64; omega)
   have p110 : 0 ≤ x8 := hk.1
   obtain ⟨ad110, e110, hx110_0, hx110_1, hx110_2, hx110_3⟩ := at_T25 (Kd.C_below HR0.out HB.out) x8 p110 hlt
   cases e110
   have q110 := eq_true hlt
   replace p110 := eq_true p110
   have HBW := Aside0.mk (HB0.out.trans (HB.out.mono hn0))
   clear hlt hk hl e_
   cases b with
   | true =>
    have HE := Aside0.mk (show x8 = r by simpa using H)
    clear H hb
    go_wp2_with ((with_reducible refine (HP.out _ true _ HPB.out HBW.out).mono ?_); rintro e w' ⟨rfl, hbel⟩; have HB2 := Aside0.mk (below_step HB.out hbel); clear hbel)
    go_ret
    exact ⟨by rw [HE.out]; rfl, HB2.out⟩
   | false =>
    have HE := Aside0.mk (show idxO p (l0.drop (x8.toNat + 1)) (x8 + 1) = some r by simpa using H)
    clear H hb
    go_wp2_with ((with_reducible refine (HP.out _ false _ HPB.out HBW.out).mono ?_); rintro e w' ⟨rfl, hbel⟩; have HB2 := Aside0.mk (below_step HB.out hbel); clear hbel)
    go_roundg (l0.length - (x8.toNat + 1))
    case measure => have := HG.out; have := HK.out; have := of_eq_true q110; omega
    case rel => exact ⟨x8 + 1, by rw [HW.out], ⟨by have := HK.out; have := of_eq_true q110; omega⟩, ⟨by have := HK.out; omega⟩, ⟨by have := HK.out; rw [show (x8 + 1).toNat = x8.toNat + 1 by omega]; exact HE.out⟩, HB2⟩
  ·have c4b0 : decide (x8 < (l0.length : Int)) = false := decide_eq_false hlt
   have H := HA.out
   have hk := HK.out
   clear HA
   rw [List.drop_of_length_le (by omega)] at H
   have HE := Aside0.mk (show -1 = r by simpa [idxO] using H)
   clear H hk hlt
   go_wp2
   go_ret
   exact ⟨by rw [← HE.out]; rfl, HB.out⟩

/-! ### impl_Clue_58: function 58 -/
set_option maxHeartbeats 8000000 in
set_option maxRecDepth 100000 in
/-- slices.ContainsFunc at []Clue, for every predicate that leaves alone what lay below a base. -/
theorem slices_ContainsFunc_Clue.calls (g : Nat) (lb : Array Value) (p : S25 → Option Bool) (A0 : Option Addr) (c0 : Nat) (l0 : List S25) (r : Bool) (n0 : Nat) (w0 w : World) (hb0 : Below n0 w0 w) (hn0 : n0 ≤ w.heap.size) (hr0 : Kd.C k25 w A0 l0.length l0) (hm0 : l0.length ≤ 9223372036854775807) (eg : ∀ args w, (callFunc g args).run Try.prog w = .ok (.enter g args) w)
  (hp : ∀ (x : S25) (b : Bool) (W : World), p x = some b → Below n0 w0 W → Calls Try.prog g (#[.agg #[.int .i64 x.f0, .int .i64 x.f1, .int .i64 x.f2, .int .i64 x.f3]] ++ lb) W fun e W' => e = .returned (.bool b) ∧ Below W.heap.size W W') (h : anyO p l0 = some r) :
  Calls Try.prog 58 #[.slice A0 l0.length c0, .func (.func g) #[] lb] w fun e w' => e = .returned (.bool r) ∧ Below w.heap.size w w' := by
 obtain ⟨i, hi, hd⟩ := idxO_of_anyO p l0 0 r (Int.le_refl 0) h
 have HI := Aside0.mk hi
 have HD := Aside0.mk hd
 have HR0 := Aside0.mk hr0
 have HP := Aside0.mk hp
 have HB0 := Aside0.mk hb0
 clear hr0 hp h hi hd hb0
 go_enter Try.func58, Try.ntmps58
 go_wp2_with (go_at_call 81; refine (slices_IndexFunc_Clue.calls g lb p _ _ l0 i n0 w0 _ HB0.out hn0 HR0.out hm0 eg HP.out HI.out).mono ?_; rintro e w' ⟨rfl, hbel⟩; have HB2 := Aside0.mk hbel; clear hbel)
 go_ret
 exact ⟨by rw [← HD.out]; rfl, HB2.out⟩

/-! ### impl_IsPuzzle: function 21 -/
def impl_IsPuzzle_1.f (k : Nat) (h : Int) (c : S25) : Option Bool := (impl_IsClue.f k h c.f0 c.f1 c.f2 c.f3).bind fun b => some (!b)
set_option maxHeartbeats 8000000 in
set_option maxRecDepth 100000 in
theorem impl_IsPuzzle_1.calls (k : Nat) (h : Int) (x : S25) (b : Bool) (g1 : Nat) (w : World) (hx1 : w.cell? ⟨g1, 0, none⟩ = some (.int .i64 h)) (hf : impl_IsPuzzle_1.f k h x = some b) :
  Calls Try.prog 59 (#[.agg #[.int .i64 x.f0, .int .i64 x.f1, .int .i64 x.f2, .int .i64 x.f3]] ++ #[.pointer (some ⟨g1, 0, none⟩)]) w fun e w' => e = .returned (.bool b) ∧ Below w.heap.size w w' := by
 obtain ⟨c, hc, hf⟩ := Option.bind_eq_some_iff.mp hf
 have HC := Aside0.mk hc
 obtain rfl := Option.some.inj hf
 clear hf hc
 have HBa := Aside0.mk (below_alloc (Below.refl w.heap.size w) (.cells #[.int .i64 x.f0, .int .i64 x.f1, .int .i64 x.f2, .int .i64 x.f3] 25))
 have hy1 := Go.Lib.cell?_alloc_some (.cells #[.int .i64 x.f0, .int .i64 x.f1, .int .i64 x.f2, .int .i64 x.f3] 25) hx1
 show Calls Try.prog 59 #[.agg #[.int .i64 x.f0, .int .i64 x.f1, .int .i64 x.f2, .int .i64 x.f3], .pointer (some ⟨g1, 0, none⟩)] w _
 go_enter Try.func59, Try.ntmps59
 go_wp2_with (go_at_call 17; go_loud (refine (impl_IsClue.calls k h x.f0 x.f1 x.f2 x.f3 c _ HC.out).mono ?_; rintro e w' ⟨rfl, hb⟩; have HB := Aside0.mk (by first | exact below_step HBa.out hb | exact hb); clear hb))
 go_ret
 exact ⟨rfl, HB.out⟩
def impl_IsPuzzle.f (k : Nat) (h : Int) (cs : List S25) : Option Bool := (impl_within.f h 2 4).bind fun b => if b = true then (if (cs.length : Int) ≤ 6 then ((anyO (impl_IsPuzzle_1.f k h) cs).bind fun b => some (!b)) else some false) else some false
theorem impl_IsPuzzle.mono : ∀ a0 a1 k, LeO (impl_IsPuzzle.f k a0 a1) (impl_IsPuzzle.f (k + 1) a0 a1) := by
 intro a0 a1 k
 unfold impl_IsPuzzle.f
 exact LeO.bind (LeO.refl _) fun b => LeO.ite (LeO.ite (LeO.bind (anyO_le (fun x => LeO.bind (impl_IsClue.mono _ _ _ _ _ _) fun _ => LeO.refl _) _) fun _ => LeO.refl _) (LeO.refl _)) (LeO.refl _)
set_option maxHeartbeats 8000000 in
set_option maxRecDepth 100000 in
theorem impl_IsPuzzle.calls (k : Nat) (a0_0 : Int) (A0_1 : Option Addr) (c0_1 : Nat) (l0_1 : List (S25)) (r : Bool) (w : World) (hr0_1 : Kd.C k25 w A0_1 l0_1.length l0_1) (hc0_1 : l0_1.length ≤ c0_1) (h : impl_IsPuzzle.f k a0_0 l0_1 = some r) :
  Calls Try.prog 21 #[.agg #[.int .i64 a0_0, .slice A0_1 l0_1.length c0_1]] w fun e w' => e = .returned (.bool r) ∧ Below w.heap.size w w' := by
 have HR0 := Aside0.mk hr0_1
 have hl0 : l0_1.length ≤ 9223372036854775807 := HR0.out.2.1
 unfold impl_IsPuzzle.f at h
 obtain ⟨b, hb, h⟩ := Option.bind_eq_some_iff.mp h
 have HW := Aside0.mk hb
 clear hb hr0_1
 have HBa := Aside0.mk (below_alloc (Below.refl w.heap.size w) (.cells #[.int .i64 a0_0, .slice A0_1 l0_1.length c0_1] 35))
 have HRa := Aside0.mk (Kd.C_alloc HR0.out (.cells #[.int .i64 a0_0, .slice A0_1 l0_1.length c0_1] 35))
 have HYa := Aside0.mk (alloc_new w (.cells #[.int .i64 a0_0, .slice A0_1 l0_1.length c0_1] 35))
 have HYl := Aside0.mk (alloc_lt w (.cells #[.int .i64 a0_0, .slice A0_1 l0_1.length c0_1] 35))
 go_enter Try.func21, Try.ntmps21
 cases b with
 | false =>
  simp only [Bool.false_eq_true, if_false, Option.some.injEq] at h
  subst h
  go_wp2_with (go_at_call 54; refine (impl_within.calls _ _ _ false _ HW.out).mono ?_; rintro e w' ⟨rfl, ⟨nd, rfl⟩⟩)
  go_ret
  exact ⟨rfl, pw_below_drewN HBa.out _⟩
 | true =>
  simp only [if_true] at h
  by_cases c6 : (l0_1.length : Int) ≤ 6
  ·rw [if_pos c6] at h
   have c6b : decide ((l0_1.length : Int) ≤ 6) = true := decide_eq_true c6
   obtain ⟨c, hc, h⟩ := Option.bind_eq_some_iff.mp h
   obtain rfl := Option.some.inj h
   have HC := Aside0.mk hc
   clear hc h
   go_wp2_with (first | (go_at_call 54; refine (impl_within.calls _ _ _ true _ HW.out).mono ?_; rintro e w' ⟨rfl, ⟨nd, rfl⟩⟩) | (go_at_call 58; go_loud (refine (slices_ContainsFunc_Clue.calls 59 #[.pointer (some ⟨w.heap.size, 0, none⟩)] (impl_IsPuzzle_1.f k a0_0) _ _ l0_1 c _ _ _ (Below.refl _ _) (Nat.le_refl _) (Kd.C_drewN HRa.out nd) hl0 (enters_body Try.func59 rfl rfl) ?hp HC.out).mono ?_; (case hp => exact fun x b W hx hb => impl_IsPuzzle_1.calls k a0_0 x b w.heap.size W ((hb.cell (p := ⟨w.heap.size, 0, none⟩) (by simp)).trans (by simp)) hx); rintro e w' ⟨rfl, hbel⟩; have HB2 := Aside0.mk hbel; clear hbel)))
   go_ret
   exact ⟨rfl, below_step (pw_below_drewN HBa.out _) HB2.out⟩
  ·rw [if_neg c6] at h
   have c6b : decide ((l0_1.length : Int) ≤ 6) = false := decide_eq_false c6
   obtain rfl := Option.some.inj h
   go_wp2_with (go_at_call 54; refine (impl_within.calls _ _ _ true _ HW.out).mono ?_; rintro e w' ⟨rfl, ⟨nd, rfl⟩⟩)
   go_ret
   exact ⟨rfl, pw_below_drewN HBa.out _⟩

/-! ### impl_Clue_61: function 61 -/
def impl_Clue_61.f (l0 : List S25) : Option (List S25) := if l0.length < 4398046511104 then some l0 else none
set_option maxHeartbeats 8000000 in
set_option maxRecDepth 100000 in
theorem impl_Clue_61.calls (A0 : Option Addr) (c0 : Nat) (l0 : List S25) (r : List S25) (w : World) (hr0 : Kd.C k25 w A0 l0.length l0) (hc0 : l0.length ≤ c0) (h : impl_Clue_61.f l0 = some r) :
  Calls Try.prog 61 #[.slice A0 l0.length c0] w fun e w' => ∃ v0_ : Value, e = .returned (v0_) ∧ Kd.R k25 25 w' w.heap.size (fun _ => True) v0_ r ∧ Below w.heap.size w w' := by
 have HR0 := Aside0.mk hr0
 have HB := Aside0.mk (Below.refl w.heap.size w)
 unfold impl_Clue_61.f at h
 by_cases c2 : l0.length < 4398046511104
 ·rw [if_pos c2] at h
  obtain rfl := Option.some.inj h
  have LMc2 := Aside0.mk c2
  clear c2 h hr0
  have q22 : ∀ (w : World) (a : Option Addr) (n c n' c' : Nat), (binOp .eql 33 (.slice a n c) (.slice none n' c')).run Try.prog w = .ok (.bool a.isNone) w := fun w a n c n' c' => slice_is_nil w _ _ a n c n' c' Try.underlying33
  cases A0 with
  | none =>
   have hn : l0 = [] := by
    cases l0 with
    | nil => rfl
    | cons x xs =>
     obtain ⟨ad, e, _⟩ := HR0.out.2.2 (by simp)
     cases e
   subst hn
   go_enter Try.func61, Try.ntmps61
   go_wp2
   go_ret
   exact ⟨_, rfl, Kd.R_nil _ _ _ _ _, HB.out⟩
  | some ad =>
   have hy117 : ([] : List S25) ++ l0 = l0 := rfl
   have Ny := Aside0.mk hy117
   clear hy117
   go_enter Try.func61, Try.ntmps61
   go_wp2_with (first | ((with_reducible refine gate_dst (N := 5) rfl ?_); refine Kd.R_lit k25 _ 25 ?hg (N := 5) ?hd (xs := ([] : List S25)) (inner := []) (ok := fun _ => True) (okp := fun _ => True) ?hr ?hp (fun _ hk => hk) trivial (Below.refl _ _) (Nat.le_refl _) (by simp) ?_; (case hd => rfl); (case hg => rfl); (case hr => first | (go_simp; done) | (go_simp; rfl)); (case hp => exact (Reps.none _ _)); intro v118 w3 ho4 hb hg_ hnew_; clear hg_ hnew_; have n0_ := Aside0.mk (Kd.R_lower ho4 (below_size HB.out)); have n1_ := Aside0.mk (below_step HB.out hb); clear HB; have HO119 := n0_; have HB := n1_; clear n0_ n1_; clear hb ho4) | ((with_reducible refine gate_builtin (b := .append) (xs := #[.tmp 5, .tmp 6]) rfl ?_); at_builtin; refine Kd.R_append_rows k25 (w0 := w) w.heap.size rfl (.tmp 5) (.tmp 6) 33 25 (.agg #[(.int .i64 0), (.int .i64 0), (.int .i64 0), (.int .i64 0)]) 32 rfl Try.underlying33 info25 rfl (by decide) (by omega) v118 [] l0 _ _ _ (fun _ => True) (fun _ => False) rfl rfl ?aO ?aR (fun _ _ h => h) (fun _ h => h.elim) ?aF ?aB ?aS ?aL ?_; (case aR => repeat (first | exact (Kd.C_below HR0.out HB.out) | (with_reducible refine Kd.C_alloc ?_ _) | (with_reducible refine Kd.C_drewN ?_ _) | (with_reducible refine Kd.C_drew ?_))); (case aB => exact HB.out); (case aF => exact (fun _ _ => trivial)); (case aO => exact HO119.out); (case aS => exact below_size HB.out); (case aL => have := LMc2.out; simp only [List.length_nil]; omega); intro v121 w5 ho hb hg hat; rw [Ny.out] at ho; have n0_ := Aside0.mk (hb); have n1_ := Aside0.mk (ho); clear HB; clear HO119; have HB := n0_; have HO122 := n1_; clear n0_ n1_; clear ho hb hg hat))
   go_ret
   exact ⟨_, rfl, HO122.out, HB.out⟩
 ·rw [if_neg c2] at h
  exact absurd h (by simp)
theorem slices_Clone_Clue_eq (l0 : List S25) (hl : l0.length < 4398046511104) : impl_Clue_61.f l0 = some l0 := by
 unfold impl_Clue_61.f
 rw [if_pos hl]
theorem slices_Clone_Clue.calls (A0 : Option Addr) (c0 : Nat) (l0 : List S25) (w : World) (hr0 : Kd.C k25 w A0 l0.length l0) (hc0 : l0.length ≤ c0) (hl : l0.length < 4398046511104) :
  Calls Try.prog 61 #[.slice A0 l0.length c0] w fun e w' => ∃ v0_ : Value, e = .returned (v0_) ∧ Kd.R k25 25 w' w.heap.size (fun _ => True) v0_ l0 ∧ Below w.heap.size w w' := impl_Clue_61.calls A0 c0 l0 l0 w hr0 hc0 (slices_Clone_Clue_eq l0 hl)

end Go.Proofs.Ytchphfohembpcaa.PX
