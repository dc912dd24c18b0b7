/- Functions of the program and of the reference as Lean functions, each with a contract over the translated program. Conditions: the hypotheses of each theorem. Written by a program of this session, which drives the print of the kit and adds texts of its own. -/
import Derived.Test.YtbamooigfbbkaaaPVx0
import Derived.Test.YtbamooigfbbkaaaPVx1
namespace Go.Proofs.Ytbamooigfbbkaaa.PV
open Go.RowKit Go.Proofs.YtbamooigfbbkaaaW.PrintWords Go.Proofs.YtbamooigfbbkaaaW.PrintLast Go.Proofs.YtbamooigfbbkaaaW.PrintMore Go.Proofs.YtbamooigfbbkaaaB
attribute [local go_sem] max2_int min2_int max_two min_two max_three min_three max_four min_four   -- for this text's walks alone
set_option linter.unusedVariables false
set_option linter.unusedSimpArgs false

/-! ### impl_splitValues: function 65 -/
mutual
def impl_splitValues.l0 : Nat → Int → Int → List Int → Int → Option (List Int)
  | 0, _, _, _, _ => none
  | k + 1, x0, x1, x5, x6 => if x6 ≤ x1 then (impl_splitValues.l1 k x0 x1 x5 x6 [] 1) else (some x5)
def impl_splitValues.l1 : Nat → Int → Int → List Int → Int → List Int → Int → Option (List Int)
  | 0, _, _, _, _, _, _ => none
  | k + 1, x0, x1, x5, x6, x7, x8 => if (wrap64 (2 * x8)) ≤ x6 then ((impl_canSplit.f x0 x6 x8).bind fun t => (if t = true then (if 0 ≤ x8 ∧ x8 < (x5.length : Int) ∧ 0 ≤ (wrap64 (x6 - x8)) ∧ (wrap64 (x6 - x8)) < (x5.length : Int) ∧ x7.length < 1000000 then (impl_splitValues.l1 k x0 x1 x5 x6 (Go.bits .xor .i64 (rd x5 x8) (rd x5 (wrap64 (x6 - x8))) :: x7) (wrap64 (x8 + 1))) else (none)) else (impl_splitValues.l1 k x0 x1 x5 x6 x7 (wrap64 (x8 + 1))))) else (impl_splitValues.l2 k x0 x1 x5 x6 x7 0)
def impl_splitValues.l2 : Nat → Int → Int → List Int → Int → List Int → Int → Option (List Int)
  | 0, _, _, _, _, _, _ => none
  | k + 1, x0, x1, x5, x6, x7, x9 => if x7.contains x9 = true then (impl_splitValues.l2 k x0 x1 x5 x6 x7 (wrap64 (x9 + 1))) else (if x5.length < 17592186044416 then (impl_splitValues.l0 k x0 x1 (x5 ++ [x9]) (wrap64 (x6 + 1))) else (none))
end
def impl_splitValues.f (k : Nat) (a0 : Int) (a1 : Int) : Option (List Int) := impl_splitValues.l0 k a0 a1 ([0] : List Int) 1
theorem impl_splitValues.mono_l : ∀ k, (∀ y0 y1 y2 y3, LeO (impl_splitValues.l0 k y0 y1 y2 y3) (impl_splitValues.l0 (k + 1) y0 y1 y2 y3)) ∧ (∀ y0 y1 y2 y3 y4 y5, LeO (impl_splitValues.l1 k y0 y1 y2 y3 y4 y5) (impl_splitValues.l1 (k + 1) y0 y1 y2 y3 y4 y5)) ∧ (∀ y0 y1 y2 y3 y4 y5, LeO (impl_splitValues.l2 k y0 y1 y2 y3 y4 y5) (impl_splitValues.l2 (k + 1) y0 y1 y2 y3 y4 y5))
  | 0 => ⟨fun _ _ _ _ r h => by simp [impl_splitValues.l0] at h, fun _ _ _ _ _ _ r h => by simp [impl_splitValues.l1] at h, fun _ _ _ _ _ _ r h => by simp [impl_splitValues.l2] at h⟩
  | k + 1 => by
    obtain ⟨ih0, ih1, ih2⟩ := impl_splitValues.mono_l k
    refine ⟨?_, ?_, ?_⟩
    · intro y0 y1 y2 y3
      unfold impl_splitValues.l0
      exact LeO.ite (ih1 _ _ _ _ _ _) (LeO.refl _)
    · intro y0 y1 y2 y3 y4 y5
      unfold impl_splitValues.l1
      exact LeO.ite (LeO.bind (LeO.refl _) fun _ => LeO.ite (LeO.ite (ih1 _ _ _ _ _ _) (LeO.refl _)) (ih1 _ _ _ _ _ _)) (ih2 _ _ _ _ _ _)
    · intro y0 y1 y2 y3 y4 y5
      unfold impl_splitValues.l2
      exact LeO.ite (ih2 _ _ _ _ _ _) (LeO.ite (ih0 _ _ _ _) (LeO.refl _))
theorem impl_splitValues.mono : ∀ a0 a1 k, LeO (impl_splitValues.f k a0 a1) (impl_splitValues.f (k + 1) a0 a1) := fun a0 a1 k => (impl_splitValues.mono_l k).1 _ _ _ _
set_option maxHeartbeats 8000000 in
set_option maxRecDepth 100000 in
theorem impl_splitValues.calls (k : Nat) (a0 : Int) (a1 : Int) (r : List Int) (w : World) (h : impl_splitValues.f k a0 a1 = some r) :
    Calls Try.prog 65 #[.int .i64 a0, .int .i64 a1] w fun e w' => ∃ v0_ : Value, e = .returned (v0_) ∧ Kd.R (Kd.int .i64) 3 w' w.heap.size (fun _ => True) v0_ r ∧ Below w.heap.size w w' := by
  have HB := Aside0.mk (Below.refl w.heap.size w)
  have H : impl_splitValues.l0 k a0 a1 ([0] : List Int) 1 = some r := h
  have H' := Aside0.mk H
  clear h H
  go_enter Try.func65, Try.ntmps65
  go_wp2_with (first | ((with_reducible refine gate_dst (N := 10) rfl ?_); refine Kd.R_lit (Kd.int .i64) _ 3 ?hg (N := 10) ?hd (xs := ([0] : List Int)) (inner := [.int .i64 0]) (ok := fun _ => True) (okp := fun _ => True) ?hr ?hp (fun _ hk => hk) trivial (Below.refl _ _) (Nat.le_refl _) (by simp) ?_; (case hd => rfl); (case hg => rfl); (case hr => first | (go_simp; done) | (go_simp; rfl)); (case hp => exact (Reps.one (show Kd.M (Kd.int .i64) _ _ _ 0 [.int .i64 0] from rfl) (Reps.none _ _))); intro v104 w3 ho4 hb hg_ hnew_; clear hg_ hnew_; have n0_ := Aside0.mk (Kd.R_lower ho4 (below_size HB.out)); have n1_ := Aside0.mk (below_step HB.out hb); clear HB; have HO105 := n0_; have HB := n1_; clear n0_ n1_; clear hb ho4))
  go_loopg [5, 6] k (fun kq v5 v6 w' => ∃ (x5_1 : List Int) (x6_1 : Int), v6 = .int .i64 x6_1 ∧ Aside0 (impl_splitValues.l0 kq a0 a1 x5_1 x6_1 = some r) ∧ Aside0 (kq ≤ k) ∧ Aside0 (Kd.R (Kd.int .i64) 3 w' w.heap.size (fun _ => True) v5 x5_1) ∧ Aside0 (Below w.heap.size w w'))
  case atStart => exact ⟨[0], 1, rfl, H', ⟨Nat.le_refl _⟩, HO105, HB⟩
  case round =>
    clear H' HO105 HB
    obtain ⟨x5_1, x6_1, rfl, HA, HK1, HO_5, HB⟩ := hrel
    cases gk with
    | zero => exact absurd HA.out (by simp [impl_splitValues.l0])
    | succ k1 =>
      have H := HA.out
      clear HA
      simp only [impl_splitValues.l0] at H
      by_cases c5 : x6_1 ≤ a1
      · rw [if_pos c5] at H
        have c5b0 : decide (x6_1 ≤ a1) = true := decide_eq_true c5
        clear c5
        have H' := Aside0.mk H
        clear H
        have hmm := @run_makeMap Try.prog
        go_wp2
        have HM0 := Aside0.mk (MapIB.made wr Try.prog 3 4)
        have HB0 := Aside0.mk (below_alloc HB.out (.map #[] 0))
        have HO0 := Aside0.mk (Kd.R_alloc HO_5.out (.map #[] 0))
        have HG := Aside0.mk (show w.heap.size ≤ wr.heap.size from below_size HB.out)
        clear HB HO_5
        generalize wr.alloc (.map #[] 0) = wm at HM0 HB0 HO0 ⊢
        generalize wr.heap.size = gb at HM0 HG ⊢
        go_loopg [8] k1 (fun kq v8 w' => ∃ (x7_2 : List Int) (x8_2 : Int), v8 = .int .i64 x8_2 ∧ Aside0 (impl_splitValues.l1 kq a0 a1 x5_1 x6_1 x7_2 x8_2 = some r) ∧ Aside0 (kq ≤ k1) ∧ Aside0 (MapIB Try.prog 3 4 w' gb x7_2.length (fun i => x7_2.contains i)) ∧ Aside0 (Kd.R (Kd.int .i64) 3 w' w.heap.size (fun _ => True) u5 x5_1) ∧ Aside0 (Below w.heap.size w w'))
        case atStart => exact ⟨[], 1, rfl, H', ⟨Nat.le_refl _⟩, HM0, HO0, HB0⟩
        case round =>
          clear H' HM0 HB0 HO0 c5b0
          obtain ⟨x7_2, x8_2, rfl, HA, HK2, HM, HO_5, HB⟩ := hrel
          cases gk with
          | zero => exact absurd HA.out (by simp [impl_splitValues.l1])
          | succ k2 =>
            have H := HA.out
            clear HA
            simp only [impl_splitValues.l1] at H
            by_cases c6 : (wrap64 (2 * x8_2)) ≤ x6_1
            · rw [if_pos c6] at H
              have c6b0 : decide ((wrap64 (2 * x8_2)) ≤ x6_1) = true := decide_eq_true c6
              clear c6
              replace H := Option.bind_eq_some_iff.mp H
              obtain ⟨t106, A70, H⟩ := H
              have A7 := Aside0.mk A70
              clear A70
              cases t106 with
              | true =>
                simp only [if_true] at H
                obtain ⟨j11, hj11⟩ : ∃ j_ : Int, (wrap64 (x6_1 - x8_2)) = j_ := ⟨_, rfl⟩
                rw [hj11] at H
                have hj11w : (IntKind.i64.wrap (x6_1 - x8_2)) = j11 := (i64_w _).trans hj11
                by_cases c9 : 0 ≤ x8_2 ∧ x8_2 < (x5_1.length : Int) ∧ 0 ≤ j11 ∧ j11 < (x5_1.length : Int) ∧ x7_2.length < 1000000
                · rw [if_pos c9] at H
                  have H' := Aside0.mk H
                  clear H
                  obtain ⟨d1, d2, d3, d4, d5⟩ := c9
                  obtain ⟨A5, c5, e5⟩ := Kd.R_slice HO_5.out
                  subst e5
                  obtain ⟨ad1, e1, hx1⟩ := Kd.at_int (Kd.R_reads' HO_5.out).2.2 x8_2 d1 d2
                  cases e1
                  obtain ⟨ad2, e2, hx2⟩ := Kd.at_int (Kd.R_reads' HO_5.out).2.2 j11 d3 d4
                  cases e2
                  have D5 := Aside0.mk d5
                  have b1 : decide (0 ≤ x8_2) = true := decide_eq_true d1
                  have b2 : decide (x8_2 < (x5_1.length : Int)) = true := decide_eq_true d2
                  have b3 : decide (0 ≤ j11) = true := decide_eq_true d3
                  have b4 : decide (j11 < (x5_1.length : Int)) = true := decide_eq_true d4
                  replace d1 := eq_true d1
                  replace d2 := eq_true d2
                  replace d3 := eq_true d3
                  replace d4 := eq_true d4
                  clear d5
                  go_wp2_with (go_at_call 78; (with_reducible refine (impl_canSplit.calls a0 x6_1 x8_2 true _ A7.out).mono ?_); rintro e w' ⟨rfl, ⟨nd, rfl⟩⟩)
                  refine wp_region_still_tail 12 (by kernel_rfl) (by kernel_rfl) ?_
                  simp only [List.take_succ_cons, List.take_zero, List.drop_succ_cons, List.drop_zero]
                  change wpStill _ _ (World.drew _) (fun a' => wpList _ _ _ _ a' (World.drew _)) _ _
                  have hy1 : ((wr.drewN nd).drew).cell? (ad1.add x8_2.toNat) = some (.int .i64 (rd x5_1 x8_2)) := hx1
                  have hy2 : ((wr.drewN nd).drew).cell? (ad1.add j11.toNat) = some (.int .i64 (rd x5_1 j11)) := hx2
                  have HMq := Aside0.mk ((HM.out.below (Drawn0.mk ⟨nd, rfl⟩ : Drawn0 wr _).below).below (below_drew1 (Below.refl _ (wr.drewN nd))))
                  have HOq := Aside0.mk (Kd.R_drew (Kd.R_drewN HO_5.out nd))
                  have HBq := Aside0.mk (below_drew1 (pw_below_drewN HB.out nd))
                  clear HM HO_5 HB hx1 hx2
                  generalize (wr.drewN nd).drew = wq at hy1 hy2 HMq HOq HBq ⊢
                  repeat still_step
                  refine wpStill_nil ?_
                  refine MapIB.update_step rfl (.tmp 27) (.tmp 38) (.const (.bool true)) 69 rfl Try.underlying69 Try.underlying3 Try.underlying4 HMq.out (by have := D5.out; unfold maxLen; omega) (Go.bits .xor .i64 (rd x5_1 x8_2) (rd x5_1 j11)) (bits_wf _ _ _) rfl rfl rfl ?_
                  intro w2 hm2 hg2
                  have HM2 := Aside0.mk hm2
                  have HO2 := Aside0.mk (HMq.out.row HOq.out hg2)
                  have HB2 := Aside0.mk (pw_below_grown HBq.out _ (below_size HBq.out) hg2 (fun k_ e_ => by cases e_; exact HG.out))
                  clear hm2 hg2 HMq HOq HBq
                  go_wp2
                  go_roundg k2
                  case measure => have := HK1.out; have := HK2.out; omega
                  case rel => exact ⟨_, wrap64 (x8_2 + 1), rfl, H', ⟨by have := HK1.out; have := HK2.out; omega⟩, ⟨by simpa [List.contains_cons, eq_comm] using HM2.out⟩, HO2, HB2⟩
                · rw [if_neg c9] at H
                  exact absurd H (by simp)
              | false =>
                simp only [Bool.false_eq_true, if_false] at H
                have H' := Aside0.mk H
                clear H
                go_wp2_with (go_at_call 78; (with_reducible refine (impl_canSplit.calls a0 x6_1 x8_2 false _ A7.out).mono ?_); rintro e w' ⟨rfl, ⟨nd, rfl⟩⟩)
                go_roundg k2
                case measure => have := HK1.out; have := HK2.out; omega
                case rel => exact ⟨x7_2, wrap64 (x8_2 + 1), rfl, H', ⟨by have := HK1.out; have := HK2.out; omega⟩, ⟨HM.out.below (Drawn0.mk ⟨nd, rfl⟩ : Drawn0 wr _).below⟩, ⟨Kd.R_drewN HO_5.out _⟩, ⟨pw_below_drewN HB.out _⟩⟩
            · rw [if_neg c6] at H
              have c6b0 : decide ((wrap64 (2 * x8_2)) ≤ x6_1) = false := decide_eq_false c6
              clear c6
              have H' := Aside0.mk H
              clear H
              go_wp2
              go_loopg [9] k2 (fun kq v9 w' => ∃ (x9_3 : Int), v9 = .int .i64 x9_3 ∧ Aside0 (impl_splitValues.l2 kq a0 a1 x5_1 x6_1 x7_2 x9_3 = some r) ∧ Aside0 (kq ≤ k2) ∧ Aside0 ((Lit.int .i64 x9_3).wf = true) ∧ Aside0 (MapIB Try.prog 3 4 w' gb x7_2.length (fun i => x7_2.contains i)) ∧ Aside0 (Kd.R (Kd.int .i64) 3 w' w.heap.size (fun _ => True) u5 x5_1) ∧ Aside0 (Below w.heap.size w w'))
              case atStart => exact ⟨0, rfl, H', ⟨Nat.le_refl _⟩, ⟨by decide⟩, HM, HO_5, HB⟩
              case round =>
                clear H' HM HB HO_5 c6b0
                obtain ⟨x9_3, rfl, HA, HK3, HW9, HM, HO_5, HB⟩ := hrel
                cases gk with
                | zero => exact absurd HA.out (by simp [impl_splitValues.l2])
                | succ k3 =>
                  have H := HA.out
                  clear HA
                  simp only [impl_splitValues.l2] at H
                  have hlk := fun (u : World) (hu : u = wr) => (hu ▸ HM.out : MapIB Try.prog 3 4 u gb x7_2.length (fun i => x7_2.contains i)).lookup Try.underlying69 Try.underlying3 Try.underlying4 (by kernel_rfl) x9_3 HW9.out
                  have hlk1 := hlk wr rfl
                  clear hlk
                  cases hc : x7_2.contains x9_3 with
                  | true =>
                    rw [hc] at H hlk1
                    have H' := Aside0.mk (show impl_splitValues.l2 k3 a0 a1 x5_1 x6_1 x7_2 (wrap64 (x9_3 + 1)) = some r by simpa using H)
                    clear H hc
                    go_wp2
                    go_roundg k3
                    case measure => have := HK1.out; have := HK2.out; have := HK3.out; omega
                    case rel => exact ⟨wrap64 (x9_3 + 1), rfl, H', ⟨by have := HK1.out; have := HK2.out; have := HK3.out; omega⟩, ⟨wrap64_wf _⟩, HM, HO_5, HB⟩
                  | false =>
                    rw [hc] at H hlk1
                    simp only [Bool.false_eq_true, if_false] at H
                    clear hc
                    by_cases c21 : x5_1.length < 17592186044416
                    · rw [if_pos c21] at H
                      have H' := Aside0.mk H
                      have LMc21 := Aside0.mk c21
                      clear H c21
                      go_wp2_with ((with_reducible refine gate_builtin (b := .append) (xs := #[.tmp 44, .tmp 46]) rfl ?_); at_builtin; refine Kd.R_append (Kd.int .i64) (w0 := w) w.heap.size rfl (.tmp 44) (.tmp 46) 25 3 (.int .i64 0) 8 rfl Try.underlying25 info3 rfl (by decide) (by omega) u5 x5_1 x9_3 [.int .i64 x9_3] (fun _ => True) (fun _ => False) rfl rfl ?aP (fun _ hk => hk.elim) ?aF ?aO ?aB ?aS ?aL ?_; (case aP => exact rfl); (case aB => exact (by repeat (first | exact HB.out | apply below_alloc | apply pw_below_drewN))); (case aF => exact (fun _ _ => trivial)); (case aO => exact (by (with_reducible repeat (first | apply Kd.R_alloc | apply Kd.R_drewN | apply Kd.R_drew)); exact HO_5.out)); (case aS => exact (below_size (by repeat (first | exact HB.out | apply below_alloc | apply pw_below_drewN)))); (case aL => have := LMc21.out; omega); intro v114 w23 ho hb hg hat; have n1_ := Aside0.mk (hb); have n2_ := Aside0.mk (ho); clear HB; clear HO_5; have HB := n1_; have HO115 := n2_; clear n1_ n2_; clear ho hb hg hat)
                      go_roundg k3
                      case measure => have := HK1.out; have := HK2.out; have := HK3.out; omega
                      case rel => exact ⟨x5_1 ++ [x9_3], wrap64 (x6_1 + 1), rfl, H', ⟨by have := HK1.out; have := HK2.out; have := HK3.out; omega⟩, HO115, HB⟩
                    · rw [if_neg c21] at H
                      exact absurd H (by simp)
      · rw [if_neg c5] at H
        have c5b0 : decide (x6_1 ≤ a1) = false := decide_eq_false c5
        clear c5
        obtain rfl := Option.some.inj H
        go_wp2
        go_ret
        exact ⟨_, rfl, HO_5.out, HB.out⟩

end Go.Proofs.Ytbamooigfbbkaaa.PV
