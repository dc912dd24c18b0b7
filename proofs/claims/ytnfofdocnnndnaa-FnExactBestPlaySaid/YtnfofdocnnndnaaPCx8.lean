/- Functions of the program and of the reference as Lean functions, each with a contract over the translated program. Conditions: the hypotheses of each theorem. Written by a program of this session, which drives the print of the kit and adds texts of its own. -/
import Derived.Test.YtnfofdocnnndnaaPCx0
import Derived.Test.YtnfofdocnnndnaaPCx6
import Derived.Test.YtnfofdocnnndnaaPCx7
namespace Go.Proofs.Ytnfofdocnnndnaa.PC
open Go.RowKit Go.Proofs.YtnfofdocnnndnaaW.PrintWords Go.Proofs.YtnfofdocnnndnaaW.PrintLast Go.Proofs.YtnfofdocnnndnaaW.PrintMore Go.Proofs.YtnfofdocnnndnaaB
attribute [local go_sem] max2_int min2_int max_two min_two max_three min_three max_four min_four   -- for this text's walks alone
set_option linter.unusedVariables false
set_option linter.unusedSimpArgs false

/-! ### impl_splitsOf: function 67 -/
mutual
def impl_splitsOf.l0 : Nat → Int → List (S49) → List Int → Int → Int → Option ((List (S49)))
  | 0, _, _, _, _, _ => none
  | k + 1, x0, x5, x10, x11, x12 => if x12 < x11 then (if 0 ≤ x12 then (if x12 < (x10.length : Int) then (impl_splitsOf.l1 k x0 x5 x12 (rd x10 x12) 1 x10 x11 x12) else (none)) else (none)) else (some x5)
def impl_splitsOf.l1 : Nat → Int → List (S49) → Int → Int → Int → List Int → Int → Int → Option ((List (S49)))
  | 0, _, _, _, _, _, _, _, _ => none
  | k + 1, x0, x5, x6, x7, x8, x10, x11, x12 => if (wrap64 (2 * x8)) ≤ x7 then ((impl_canSplit.f x0 x7 x8).bind fun t212 => (if t212 = true then (if x5.length < 8796093022208 then (impl_splitsOf.l1 k x0 (x5 ++ [(⟨x6, x8⟩ : S49)]) x6 x7 (wrap64 (x8 + 1)) x10 x11 x12) else (none)) else (impl_splitsOf.l1 k x0 x5 x6 x7 (wrap64 (x8 + 1)) x10 x11 x12))) else (impl_splitsOf.l0 k x0 x5 x10 x11 (wrap64 (x12 + 1)))
end
def impl_splitsOf.f (k : Nat) (a0 : Int) (l1 : List Int) : Option ((List (S49))) := impl_splitsOf.l0 k a0 (([] : List (S49))) l1 (l1.length : Int) 0
theorem impl_splitsOf.mono_l : ∀ k, (∀ y0 y1 y2 y3 y4, LeO (impl_splitsOf.l0 k y0 y1 y2 y3 y4) (impl_splitsOf.l0 (k + 1) y0 y1 y2 y3 y4)) ∧ (∀ y0 y1 y2 y3 y4 y5 y6 y7, LeO (impl_splitsOf.l1 k y0 y1 y2 y3 y4 y5 y6 y7) (impl_splitsOf.l1 (k + 1) y0 y1 y2 y3 y4 y5 y6 y7))
  | 0 => ⟨fun _ _ _ _ _ r h => by simp [impl_splitsOf.l0] at h, fun _ _ _ _ _ _ _ _ r h => by simp [impl_splitsOf.l1] at h⟩
  | k + 1 => by
    obtain ⟨ih0, ih1⟩ := impl_splitsOf.mono_l k
    refine ⟨?_, ?_⟩
    · intro y0 y1 y2 y3 y4
      unfold impl_splitsOf.l0
      repeat' first
      | (with_reducible exact ih0 _ _ _ _ _)
      | (with_reducible exact ih1 _ _ _ _ _ _ _ _)
      | (with_reducible exact LeO.refl _)
      | (with_reducible exact LeO.none _)
      | (with_reducible refine LeO.ite ?_ ?_)
      | (with_reducible refine LeO.bind ?_ (fun _ => ?_))
      | exact ih0 _ _ _ _ _
      | exact ih1 _ _ _ _ _ _ _ _
      | exact LeO.none _
      | refine LeO.ite ?_ ?_
      | refine LeO.bind ?_ (fun _ => ?_)
    · intro y0 y1 y2 y3 y4 y5 y6 y7
      unfold impl_splitsOf.l1
      repeat' first
      | (with_reducible exact ih0 _ _ _ _ _)
      | (with_reducible exact ih1 _ _ _ _ _ _ _ _)
      | (with_reducible exact LeO.refl _)
      | (with_reducible exact LeO.none _)
      | (with_reducible refine LeO.ite ?_ ?_)
      | (with_reducible refine LeO.bind ?_ (fun _ => ?_))
      | exact ih0 _ _ _ _ _
      | exact ih1 _ _ _ _ _ _ _ _
      | exact LeO.none _
      | refine LeO.ite ?_ ?_
      | refine LeO.bind ?_ (fun _ => ?_)
theorem impl_splitsOf.mono : ∀ a0 a1 k, LeO (impl_splitsOf.f k a0 a1) (impl_splitsOf.f (k + 1) a0 a1) := by
  intro a0 a1 k
  obtain ⟨ih0, ih1⟩ := impl_splitsOf.mono_l k
  unfold impl_splitsOf.f
  repeat' first
      | (with_reducible exact ih0 _ _ _ _ _)
      | (with_reducible exact ih1 _ _ _ _ _ _ _ _)
      | (with_reducible exact LeO.refl _)
      | (with_reducible exact LeO.none _)
      | (with_reducible refine LeO.ite ?_ ?_)
      | (with_reducible refine LeO.bind ?_ (fun _ => ?_))
      | exact ih0 _ _ _ _ _
      | exact ih1 _ _ _ _ _ _ _ _
      | exact LeO.none _
      | refine LeO.ite ?_ ?_
      | refine LeO.bind ?_ (fun _ => ?_)
set_option maxHeartbeats 8000000 in
set_option maxRecDepth 100000 in
theorem impl_splitsOf.calls (k : Nat) (a0 : Int) (A1 : Option Addr) (c1 : Nat) (l1 : List Int) (r : List (S49)) (w : World) (hr1 : Kd.C (Kd.int .i64) w A1 l1.length l1) (hc1 : l1.length ≤ c1) (h : impl_splitsOf.f k a0 l1 = some r) :
    Calls Try.prog 67 #[.int .i64 a0, .slice A1 l1.length c1] w fun e w' => ∃ v0_ : Value, e = .returned (v0_) ∧ Kd.R k49 49 w' w.heap.size (fun _ => True) v0_ r ∧ Below w.heap.size w w' := by
  have hu49 := Try.underlying49
  have HR1 := Aside0.mk hr1
  have HC1 := Aside0.mk hc1
  clear hr1 hc1
  have HB := Aside0.mk (Below.refl w.heap.size w)
  have H : (impl_splitsOf.l0 k a0 (([] : List (S49))) l1 (l1.length : Int) 0) = some r := h
  clear h
  obtain ⟨y208, hy208⟩ : ∃ y_ : List (S49), y_ = (([] : List (S49))) := ⟨_, rfl⟩
  replace H : (impl_splitsOf.l0 k a0 y208 l1 (l1.length : Int) 0) = some r := by first | (rw [hy208]; with_reducible exact H) | (have H2_ := (Option.bind_some _ _).symm.trans H; rw [hy208]; with_reducible exact H2_) | (have H2_ := (Option.bind_some _ _).symm.trans H; with_reducible exact H2_) | with_reducible exact H | (rw [hy208]; exact H) | exact H
  have Ny208 := Aside0.mk hy208
  clear hy208
  have H' := Aside0.mk H
  clear H
  go_enter Try.func67, Try.ntmps67
  go_wp2_with (first | ((with_reducible refine gate_dst (N := 9) rfl ?_); refine Kd.R_lit k49 _ 49 ?hg (N := 9) ?hd (xs := ([] : List (S49))) (inner := []) (ok := fun _ => True) (okp := fun _ => True) ?hr ?hp (fun _ hk => hk) trivial (Below.refl _ _) (Nat.le_refl _) (by simp) ?_; (case hd => rfl); (case hg => rfl); (case hr => first | (go_simp; done) | (go_simp; rfl)); (case hp => exact (Reps.none _ _)); intro v209 w3 ho4 hb hg_ hnew_; clear hg_ hnew_; (first | rw [← Ny208.out] at ho4 | (simp only [Int.reduceToNat] at ho4; rw [← Ny208.out] at ho4)); have n0_ := Aside0.mk (Kd.R_lower ho4 (below_size (by repeat (first | (with_reducible first | exact HB.out | apply below_alloc | apply pw_below_drewN | apply below_drew1) | exact HB.out)))); have n1_ := Aside0.mk (below_step (by repeat (first | (with_reducible first | exact HB.out | apply below_alloc | apply pw_below_drewN | apply below_drew1) | exact HB.out)) hb); clear HB; have HO210 := n0_; have HB := n1_; clear n0_ n1_; clear hb ho4))
  go_loopg [5, 12] k (fun kq v5 v12 w' => ∃ (x5_1 : List (S49)) (x12_1 : Int), v12 = .int .i64 x12_1 ∧ Aside0 (impl_splitsOf.l0 kq a0 x5_1 l1 (l1.length : Int) x12_1 = some r) ∧ Aside0 (kq ≤ k) ∧ Aside0 (Kd.R k49 49 w' w.heap.size (fun _ => True) v5 x5_1) ∧ Aside0 (Below w.heap.size w w'))
  case atStart => exact ⟨(y208), (0), (by first | rfl | (simp; done) | (simp [*]; done)), H', ⟨Nat.le_refl _⟩, ⟨by (with_reducible repeat (first | apply Kd.R_alloc | apply Kd.R_drewN | apply Kd.R_drew)); exact HO210.out⟩, ⟨by repeat (first | (with_reducible first | exact HB.out | apply below_alloc | apply pw_below_drewN | apply below_drew1) | exact HB.out)⟩⟩
  case round =>
    clear H'
    try clear c1
    try clear p2
    obtain ⟨x5_1, x12_1, rfl, HA, HK1, HO_5, HB⟩ := hrel
    cases gk with
    | zero => exact absurd HA.out (by simp [impl_splitsOf.l0])
    | succ k1 =>
      have H := HA.out
      clear HA
      simp only [impl_splitsOf.l0] at H
      by_cases c5 : x12_1 < (l1.length : Int)
      · rw [if_pos c5] at H
        have c5b0 : decide (x12_1 < (l1.length : Int)) = true := decide_eq_true c5
        clear c5
        by_cases c6 : 0 ≤ x12_1
        · rw [if_pos c6] at H
          have c6b0 : decide (0 ≤ x12_1) = true := decide_eq_true c6
          clear c6
          by_cases c7 : x12_1 < (l1.length : Int)
          · rw [if_pos c7] at H
            have c7b0 : decide (x12_1 < (l1.length : Int)) = true := decide_eq_true c7
            clear c7
            have H' := Aside0.mk H
            clear H
            have p211 : 0 ≤ (x12_1 : Int) := of_decide_eq_true (by first | (with_reducible assumption) | assumption)
            have q211 : x12_1 < (l1.length : Int) := of_decide_eq_true (by first | (with_reducible assumption) | assumption)
            obtain ⟨ad211, e211, hx211_0⟩ := Kd.at_int HR1.out x12_1 p211 q211
            cases e211
            replace hx211_0 := (HB.out.cell (World.block_lt_of_cell? w _ hx211_0)).trans hx211_0
            replace p211 := eq_true p211
            replace q211 := eq_true q211
            go_wp2
            go_loopg [5, 8] k1 (fun kq v5 v8 w' => ∃ (x5_2 : List (S49)) (x8_2 : Int), v8 = .int .i64 x8_2 ∧ Aside0 (impl_splitsOf.l1 kq a0 x5_2 x12_1 (rd l1 x12_1) x8_2 l1 (l1.length : Int) x12_1 = some r) ∧ Aside0 (kq ≤ k1) ∧ Aside0 (Kd.R k49 49 w' w.heap.size (fun _ => True) v5 x5_2) ∧ Aside0 (Below w.heap.size w w'))
            case atStart => exact ⟨(x5_1), (1), (by first | rfl | (simp; done) | (simp [*]; done)), H', ⟨Nat.le_refl _⟩, ⟨by (with_reducible repeat (first | apply Kd.R_alloc | apply Kd.R_drewN | apply Kd.R_drew)); exact HO_5.out⟩, ⟨by repeat (first | (with_reducible first | exact HB.out | apply below_alloc | apply pw_below_drewN | apply below_drew1) | exact HB.out)⟩⟩
            case round =>
              clear H'
              try clear c1
              try clear p2
              try clear q2
              try clear hx2
              try clear c5
              try clear c5b0
              try clear c6
              try clear c6b0
              try clear c7
              try clear c7b0
              try clear hx211_0
              try clear p2
              try clear p211
              try clear q211
              obtain ⟨x5_2, x8_2, rfl, HA, HK2, HO_5, HB⟩ := hrel
              cases gk with
              | zero => exact absurd HA.out (by simp [impl_splitsOf.l1])
              | succ k2 =>
                have H := HA.out
                clear HA
                simp only [impl_splitsOf.l1] at H
                by_cases c8 : (wrap64 (2 * x8_2)) ≤ (rd l1 x12_1)
                · rw [if_pos c8] at H
                  have c8b0 : decide ((wrap64 (2 * x8_2)) ≤ (rd l1 x12_1)) = true := decide_eq_true c8
                  clear c8
                  replace H := Option.bind_eq_some_iff.mp H
                  obtain ⟨t212, A90, H⟩ := H
                  replace H : (if t212 = true then (if x5_2.length < 8796093022208 then (impl_splitsOf.l1 k2 a0 (x5_2 ++ [(⟨x12_1, x8_2⟩ : S49)]) x12_1 (rd l1 x12_1) (wrap64 (x8_2 + 1)) l1 (l1.length : Int) x12_1) else (none)) else (impl_splitsOf.l1 k2 a0 x5_2 x12_1 (rd l1 x12_1) (wrap64 (x8_2 + 1)) l1 (l1.length : Int) x12_1)) = some r := H
                  have A9 := Aside0.mk A90
                  clear A90
                  by_cases c10 : t212 = true
                  · subst c10
                    have H1 : (if x5_2.length < 8796093022208 then (impl_splitsOf.l1 k2 a0 (x5_2 ++ [(⟨x12_1, x8_2⟩ : S49)]) x12_1 (rd l1 x12_1) (wrap64 (x8_2 + 1)) l1 (l1.length : Int) x12_1) else (none)) = some r := by rw [if_pos rfl] at H; exact H
                    clear H
                    have H := H1
                    clear H1
                    by_cases c11 : x5_2.length < 8796093022208
                    · rw [if_pos c11] at H
                      have LMc11 := Aside0.mk c11
                      clear c11
                      obtain ⟨y213, hy213⟩ : ∃ y_ : List (S49), y_ = (x5_2 ++ [(⟨x12_1, x8_2⟩ : S49)]) := ⟨_, rfl⟩
                      replace H : (impl_splitsOf.l1 k2 a0 y213 x12_1 (rd l1 x12_1) (wrap64 (x8_2 + 1)) l1 (l1.length : Int) x12_1) = some r := by first | (rw [hy213]; with_reducible exact H) | (have H2_ := (Option.bind_some _ _).symm.trans H; rw [hy213]; with_reducible exact H2_) | (have H2_ := (Option.bind_some _ _).symm.trans H; with_reducible exact H2_) | with_reducible exact H | (rw [hy213]; exact H) | exact H
                      have Ny213 := Aside0.mk hy213
                      clear hy213
                      have H' := Aside0.mk H
                      clear H
                      go_wp2_with (first | ((with_reducible refine gate_callee (f := 82) rfl ?_); refine goesL_ (some 26) rfl rfl Try.func82 (by kernel_rfl) rfl #[.int .i64 a0, .int .i64 (rd l1 x12_1), .int .i64 x8_2] rfl (by (try simp only [List.map_toArray, List.map_cons, List.map_nil]); first | done | rfl | (simp only [List.length_drop, List.length_take]; rfl)) ?_; (with_reducible refine (impl_canSplit.calls a0 (rd l1 x12_1) x8_2 true _ A9.out).mono ?_); rintro e w' ⟨rfl, ⟨nd, rfl⟩⟩; refine ⟨_, rfl, ?_⟩) | ((with_reducible refine gate_builtin (b := .append) (xs := #[.tmp 27, .tmp 31]) rfl ?_); at_builtin; refine Kd.R_append k49 (w0 := w) w.heap.size rfl (.tmp 27) (.tmp 31) 28 49 (.agg #[(.int .i64 0), (.int .i64 0)]) 16 rfl Try.underlying28 info49 rfl (by decide) (by omega) u5 x5_2 (⟨x12_1, x8_2⟩ : S49) [.int .i64 x12_1, .int .i64 x8_2] (fun _ => True) (fun _ => False) rfl rfl ?aP (fun _ hk => hk.elim) ?aF ?aO ?aB ?aS ?aL ?_; (case aP => exact k49_mkM _ _ _ (⟨x12_1, x8_2⟩ : S49)); (case aB => exact (by repeat (first | (with_reducible first | exact HB.out | apply below_alloc | apply pw_below_drewN | apply below_drew1) | exact HB.out))); (case aF => exact (fun _ _ => trivial)); (case aO => exact (by (with_reducible repeat (first | apply Kd.R_alloc | apply Kd.R_drewN | apply Kd.R_drew)); exact HO_5.out)); (case aS => exact (below_size (by repeat (first | (with_reducible first | exact HB.out | apply below_alloc | apply pw_below_drewN | apply below_drew1) | exact HB.out)))); (case aL => have := LMc11.out; omega); intro v214 w12 ho hb hg hat; rw [← Ny213.out] at ho; have n0_ := Aside0.mk (hb); have n1_ := Aside0.mk (ho); clear HB; clear HO_5; have HB := n0_; have HO215 := n1_; clear n0_ n1_; clear ho hb hg hat))
                      go_roundg k2
                      case measure => have := HK1.out; have := HK2.out; omega
                      case rel => exact ⟨(y213), (wrap64 (x8_2 + 1)), (by first | rfl | (simp; done) | (simp [*]; done)), H', ⟨by have := HK1.out; have := HK2.out; omega⟩, ⟨by (with_reducible repeat (first | apply Kd.R_alloc | apply Kd.R_drewN | apply Kd.R_drew)); exact HO215.out⟩, ⟨by repeat (first | (with_reducible first | exact HB.out | apply below_alloc | apply pw_below_drewN | apply below_drew1) | exact HB.out)⟩⟩
                    · rw [if_neg c11] at H
                      exact absurd H (by simp)
                  · replace c10 := Bool.eq_false_iff.mpr c10
                    subst c10
                    have H1 : (impl_splitsOf.l1 k2 a0 x5_2 x12_1 (rd l1 x12_1) (wrap64 (x8_2 + 1)) l1 (l1.length : Int) x12_1) = some r := by rw [if_neg (show ¬ (false = true) by decide)] at H; exact H
                    clear H
                    have H := H1
                    clear H1
                    have H' := Aside0.mk H
                    clear H
                    go_wp2_with (first | ((with_reducible refine gate_callee (f := 82) rfl ?_); refine goesL_ (some 26) rfl rfl Try.func82 (by kernel_rfl) rfl #[.int .i64 a0, .int .i64 (rd l1 x12_1), .int .i64 x8_2] rfl (by (try simp only [List.map_toArray, List.map_cons, List.map_nil]); first | done | rfl | (simp only [List.length_drop, List.length_take]; rfl)) ?_; (with_reducible refine (impl_canSplit.calls a0 (rd l1 x12_1) x8_2 false _ A9.out).mono ?_); rintro e w' ⟨rfl, ⟨nd, rfl⟩⟩; refine ⟨_, rfl, ?_⟩))
                    go_roundg k2
                    case measure => have := HK1.out; have := HK2.out; omega
                    case rel => exact ⟨(x5_2), (wrap64 (x8_2 + 1)), (by first | rfl | (simp; done) | (simp [*]; done)), H', ⟨by have := HK1.out; have := HK2.out; omega⟩, ⟨by (with_reducible repeat (first | apply Kd.R_alloc | apply Kd.R_drewN | apply Kd.R_drew)); exact HO_5.out⟩, ⟨by repeat (first | (with_reducible first | exact HB.out | apply below_alloc | apply pw_below_drewN | apply below_drew1) | exact HB.out)⟩⟩
                · rw [if_neg c8] at H
                  have c8b0 : decide ((wrap64 (2 * x8_2)) ≤ (rd l1 x12_1)) = false := decide_eq_false c8
                  clear c8
                  have H' := Aside0.mk H
                  clear H
                  go_wp2
                  go_roundg k2
                  case measure => have := HK1.out; have := HK2.out; omega
                  case rel => exact ⟨(x5_2), (wrap64 (x12_1 + 1)), (by first | rfl | (simp; done) | (simp [*]; done)), H', ⟨by have := HK1.out; have := HK2.out; omega⟩, ⟨by (with_reducible repeat (first | apply Kd.R_alloc | apply Kd.R_drewN | apply Kd.R_drew)); exact HO_5.out⟩, ⟨by repeat (first | (with_reducible first | exact HB.out | apply below_alloc | apply pw_below_drewN | apply below_drew1) | exact HB.out)⟩⟩
          · rw [if_neg c7] at H
            exact absurd H (by simp)
        · rw [if_neg c6] at H
          exact absurd H (by simp)
      · rw [if_neg c5] at H
        have c5b0 : decide (x12_1 < (l1.length : Int)) = false := decide_eq_false c5
        clear c5
        obtain rfl := Option.some.inj H
        go_wp2
        go_ret
        exact ⟨_, by first | rfl | (simp [errW_none, errW_some] <;> rfl) | (simp [*, errW_none, errW_some] <;> rfl), by (with_reducible repeat (first | apply Kd.R_alloc | apply Kd.R_drewN | apply Kd.R_drew)); exact HO_5.out, by repeat (first | (with_reducible first | exact HB.out | apply below_alloc | apply pw_below_drewN | apply below_drew1) | exact HB.out)⟩

/-! ### impl_valueOf: function 69 -/
def impl_valueOf.l0 : Nat → List Int → Int → List Int → Int → Int → Option (Int)
  | 0, _, _, _, _, _ => none
  | k + 1, x0, x5, x8, x9, x10 => if x10 < x9 then (if 0 ≤ x10 then (if x10 < (x8.length : Int) then (if 0 ≤ (rd x8 x10) then (if (rd x8 x10) < (x0.length : Int) then (impl_valueOf.l0 k x0 (Go.bits .xor .i64 x5 (rd x0 (rd x8 x10))) x8 x9 (wrap64 (x10 + 1))) else (none)) else (none)) else (none)) else (none)) else (some x5)
def impl_valueOf.f (k : Nat) (l0 : List Int) (l1 : List Int) : Option (Int) := impl_valueOf.l0 k l0 0 l1 (l1.length : Int) 0
theorem impl_valueOf.mono_l : ∀ k, (∀ y0 y1 y2 y3 y4, LeO (impl_valueOf.l0 k y0 y1 y2 y3 y4) (impl_valueOf.l0 (k + 1) y0 y1 y2 y3 y4))
  | 0 => fun _ _ _ _ _ r h => by simp [impl_valueOf.l0] at h
  | k + 1 => by
    have ih0 := impl_valueOf.mono_l k
    · intro y0 y1 y2 y3 y4
      unfold impl_valueOf.l0
      repeat' first
      | (with_reducible exact ih0 _ _ _ _ _)
      | (with_reducible exact LeO.refl _)
      | (with_reducible exact LeO.none _)
      | (with_reducible refine LeO.ite ?_ ?_)
      | (with_reducible refine LeO.bind ?_ (fun _ => ?_))
      | exact ih0 _ _ _ _ _
      | exact LeO.none _
      | refine LeO.ite ?_ ?_
      | refine LeO.bind ?_ (fun _ => ?_)
theorem impl_valueOf.mono : ∀ a0 a1 k, LeO (impl_valueOf.f k a0 a1) (impl_valueOf.f (k + 1) a0 a1) := by
  intro a0 a1 k
  have ih0 := impl_valueOf.mono_l k
  unfold impl_valueOf.f
  repeat' first
      | (with_reducible exact ih0 _ _ _ _ _)
      | (with_reducible exact LeO.refl _)
      | (with_reducible exact LeO.none _)
      | (with_reducible refine LeO.ite ?_ ?_)
      | (with_reducible refine LeO.bind ?_ (fun _ => ?_))
      | exact ih0 _ _ _ _ _
      | exact LeO.none _
      | refine LeO.ite ?_ ?_
      | refine LeO.bind ?_ (fun _ => ?_)
set_option maxHeartbeats 8000000 in
set_option maxRecDepth 100000 in
theorem impl_valueOf.calls (k : Nat) (A0 : Option Addr) (c0 : Nat) (l0 : List Int) (A1 : Option Addr) (c1 : Nat) (l1 : List Int) (r : Int) (w : World) (hr0 : Kd.C (Kd.int .i64) w A0 l0.length l0) (hc0 : l0.length ≤ c0) (hr1 : Kd.C (Kd.int .i64) w A1 l1.length l1) (hc1 : l1.length ≤ c1) (h : impl_valueOf.f k l0 l1 = some r) :
    Calls Try.prog 69 #[.slice A0 l0.length c0, .slice A1 l1.length c1] w fun e w' => e = .returned (.int .i64 r) ∧ Drawn0 w w' := by
  have HR0 := Aside0.mk hr0
  have HC0 := Aside0.mk hc0
  clear hr0 hc0
  have HR1 := Aside0.mk hr1
  have HC1 := Aside0.mk hc1
  clear hr1 hc1
  have H : (impl_valueOf.l0 k l0 0 l1 (l1.length : Int) 0) = some r := h
  clear h
  have H' := Aside0.mk H
  clear H
  go_enter Try.func69, Try.ntmps69
  go_wp2
  go_loopg [5, 10] k (fun kq v5 v10 w' => ∃ (x5_1 : Int) (x10_1 : Int), v5 = .int .i64 x5_1 ∧ v10 = .int .i64 x10_1 ∧ Aside0 (impl_valueOf.l0 kq l0 x5_1 l1 (l1.length : Int) x10_1 = some r) ∧ Aside0 (kq ≤ k) ∧ Drawn0 w w')
  case atStart => exact ⟨(0), (0), (by first | rfl | (simp; done) | (simp [*]; done)), (by first | rfl | (simp; done) | (simp [*]; done)), H', ⟨Nat.le_refl _⟩, by repeat (first | exact Drawn0.refl _ | apply Drawn0.step)⟩
  case round =>
    clear H'
    try clear c1
    try clear p2
    obtain ⟨x5_1, x10_1, rfl, rfl, HA, HK1, ⟨m1, rfl⟩⟩ := hrel
    cases gk with
    | zero => exact absurd HA.out (by simp [impl_valueOf.l0])
    | succ k1 =>
      have H := HA.out
      clear HA
      simp only [impl_valueOf.l0] at H
      by_cases c3 : x10_1 < (l1.length : Int)
      · rw [if_pos c3] at H
        have c3b0 : decide (x10_1 < (l1.length : Int)) = true := decide_eq_true c3
        clear c3
        by_cases c4 : 0 ≤ x10_1
        · rw [if_pos c4] at H
          have c4b0 : decide (0 ≤ x10_1) = true := decide_eq_true c4
          clear c4
          by_cases c5 : x10_1 < (l1.length : Int)
          · rw [if_pos c5] at H
            have c5b0 : decide (x10_1 < (l1.length : Int)) = true := decide_eq_true c5
            clear c5
            by_cases c6 : 0 ≤ (rd l1 x10_1)
            · rw [if_pos c6] at H
              have c6b0 : decide (0 ≤ (rd l1 x10_1)) = true := decide_eq_true c6
              clear c6
              by_cases c7 : (rd l1 x10_1) < (l0.length : Int)
              · rw [if_pos c7] at H
                have c7b0 : decide ((rd l1 x10_1) < (l0.length : Int)) = true := decide_eq_true c7
                clear c7
                have H' := Aside0.mk H
                clear H
                have p216 : 0 ≤ (x10_1 : Int) := of_decide_eq_true (by first | (with_reducible assumption) | assumption)
                have q216 : x10_1 < (l1.length : Int) := of_decide_eq_true (by first | (with_reducible assumption) | assumption)
                obtain ⟨ad216, e216, hx216_0⟩ := Kd.at_int HR1.out x10_1 p216 q216
                cases e216
                replace p216 := eq_true p216
                replace q216 := eq_true q216
                have p217 : 0 ≤ ((rd l1 x10_1) : Int) := of_decide_eq_true (by first | (with_reducible assumption) | assumption)
                have q217 : (rd l1 x10_1) < (l0.length : Int) := of_decide_eq_true (by first | (with_reducible assumption) | assumption)
                obtain ⟨ad217, e217, hx217_0⟩ := Kd.at_int HR0.out (rd l1 x10_1) p217 q217
                cases e217
                replace p217 := eq_true p217
                replace q217 := eq_true q217
                go_wp2
                go_roundg k1
                case measure => have := HK1.out; omega
                case rel => exact ⟨(Go.bits .xor .i64 x5_1 (rd l0 (rd l1 x10_1))), (wrap64 (x10_1 + 1)), (by first | rfl | (simp; done) | (simp [*]; done)), (by first | rfl | (simp; done) | (simp [*]; done)), H', ⟨by have := HK1.out; omega⟩, by repeat (first | exact Drawn0.refl _ | apply Drawn0.step)⟩
              · rw [if_neg c7] at H
                exact absurd H (by simp)
            · rw [if_neg c6] at H
              exact absurd H (by simp)
          · rw [if_neg c5] at H
            exact absurd H (by simp)
        · rw [if_neg c4] at H
          exact absurd H (by simp)
      · rw [if_neg c3] at H
        have c3b0 : decide (x10_1 < (l1.length : Int)) = false := decide_eq_false c3
        clear c3
        obtain rfl := Option.some.inj H
        go_wp2
        go_ret
        exact ⟨by first | rfl | (simp; done) | (simp [*]; done), by repeat (first | exact Drawn0.refl _ | apply Drawn0.step)⟩

/-! ### impl_Split_104: function 104 -/
set_option maxHeartbeats 8000000 in
set_option maxRecDepth 100000 in
/-- slices.IndexFunc at []Split, for every predicate that leaves alone what lay below a base. -/
theorem slices_IndexFunc_Split.calls (g : Nat) (lb : Array Value) (p : S49 → Option Bool) (A0 : Option Addr) (c0 : Nat) (l0 : List S49) (r : Int) (n0 : Nat) (w0 w : World) (hb0 : Below n0 w0 w) (hn0 : n0 ≤ w.heap.size) (hr0 : Kd.C k49 w A0 l0.length l0) (hm0 : l0.length ≤ 9223372036854775807) (eg : ∀ args w, (callFunc g args).run Try.prog w = .ok (.enter g args) w)
    (hp : ∀ (x : S49) (b : Bool) (W : World), p x = some b → Below n0 w0 W → Calls Try.prog g (#[.agg #[.int .i64 x.f0, .int .i64 x.f1]] ++ lb) W fun e W' => e = .returned (.bool b) ∧ Below W.heap.size W W') (h : idxO p l0 0 = some r) :
    Calls Try.prog 104 #[.slice A0 l0.length c0, .func (.func g) #[] lb] w fun e w' => e = .returned (.int .i64 r) ∧ Below w.heap.size w w' := by
  have HR0 := Aside0.mk hr0
  have HP := Aside0.mk hp
  have HB0 := Aside0.mk hb0
  clear hr0 hp hb0
  have HB := Aside0.mk (Below.refl w.heap.size w)
  have HH := Aside0.mk h
  clear h
  go_enter Try.func104, Try.ntmps104
  go_wp2
  go_loopg [8] l0.length (fun gk v8 w' => ∃ x8 : Int, v8 = .int .i64 x8 ∧ Aside0 (0 ≤ x8 ∧ x8 ≤ l0.length) ∧ Aside0 (l0.length - x8.toNat ≤ gk) ∧ Aside0 (idxO p (l0.drop x8.toNat) x8 = some r) ∧ Aside0 (Below w.heap.size w w'))
  case atStart => exact ⟨0, rfl, ⟨by omega, by omega⟩, ⟨by omega⟩, ⟨by simpa using HH.out⟩, HB⟩
  case round =>
    clear HH HB
    obtain ⟨x8, rfl, HK, HG, HA, HB⟩ := hrel
    by_cases hlt : x8 < (l0.length : Int)
    · have c4b0 : decide (x8 < (l0.length : Int)) = true := decide_eq_true hlt
      have H := HA.out
      have hk := HK.out
      clear HA
      have hl : x8.toNat < l0.length := by omega
      rw [idxO_drop p l0 x8.toNat hl] at H
      replace H := Option.bind_eq_some_iff.mp H
      obtain ⟨b, hb, H⟩ := H
      have e_ : l0[x8.toNat] = rd_T49 l0 x8 := by
        unfold rd_T49
        simp [hl]
      rw [e_] at hb
      have HPB := Aside0.mk hb
      have HW := Aside0.mk (show wrap64 (x8 + 1) = x8 + 1 by unfold wrap64; omega)
      have p110 : 0 ≤ x8 := hk.1
      obtain ⟨ad110, e110, hx110_0, hx110_1⟩ := at_T49 (Kd.C_below HR0.out HB.out) x8 p110 hlt
      cases e110
      have q110 := eq_true hlt
      replace p110 := eq_true p110
      have HBW := Aside0.mk (HB0.out.trans (HB.out.mono hn0))
      clear hlt hk hl e_
      cases b with
      | true =>
        have HE := Aside0.mk (show x8 = r by simpa using H)
        clear H hb
        go_wp2_with ((with_reducible refine (HP.out _ true _ HPB.out HBW.out).mono ?_); rintro e w' ⟨rfl, hbel⟩; have HB2 := Aside0.mk (below_step HB.out hbel); clear hbel)
        go_ret
        exact ⟨by rw [HE.out]; rfl, HB2.out⟩
      | false =>
        have HE := Aside0.mk (show idxO p (l0.drop (x8.toNat + 1)) (x8 + 1) = some r by simpa using H)
        clear H hb
        go_wp2_with ((with_reducible refine (HP.out _ false _ HPB.out HBW.out).mono ?_); rintro e w' ⟨rfl, hbel⟩; have HB2 := Aside0.mk (below_step HB.out hbel); clear hbel)
        go_roundg (l0.length - (x8.toNat + 1))
        case measure => have := HG.out; have := HK.out; have := of_eq_true q110; omega
        case rel => exact ⟨x8 + 1, by rw [HW.out], ⟨by have := HK.out; have := of_eq_true q110; omega⟩, ⟨by have := HK.out; omega⟩, ⟨by have := HK.out; rw [show (x8 + 1).toNat = x8.toNat + 1 by omega]; exact HE.out⟩, HB2⟩
    · have c4b0 : decide (x8 < (l0.length : Int)) = false := decide_eq_false hlt
      have H := HA.out
      have hk := HK.out
      clear HA
      rw [List.drop_of_length_le (by omega)] at H
      have HE := Aside0.mk (show -1 = r by simpa [idxO] using H)
      clear H hk hlt
      go_wp2
      go_ret
      exact ⟨by rw [← HE.out]; rfl, HB.out⟩

/-! ### impl_Split_86: function 86 -/
theorem one_zz : ∀ u ∈ (Value.agg #[.int .i64 0, .int .i64 0]).cells.toList, u.oneCell' = true := by
  intro u hu
  simp [Value.cells] at hu
  rw [hu]
  rfl
set_option maxHeartbeats 8000000 in
set_option maxRecDepth 100000 in
/-- slices.DeleteFunc at []Split, for every predicate that leaves alone what lay below a base. -/
theorem slices_DeleteFunc_Split.calls (g : Nat) (lb : Array Value) (p : S49 → Option Bool) (v0 : Value) (l0 r : List S49) (n0 : Nat) (w0 w : World) (hb0 : Below n0 w0 w) (hn0 : n0 ≤ w.heap.size) (hr0 : Kd.R k49 49 w n0 (fun _ => True) v0 l0) (eg : ∀ args w, (callFunc g args).run Try.prog w = .ok (.enter g args) w)
    (hp : ∀ (x : S49) (b : Bool) (W : World), p x = some b → Below n0 w0 W → Calls Try.prog g (#[.agg #[.int .i64 x.f0, .int .i64 x.f1]] ++ lb) W fun e W' => e = .returned (.bool b) ∧ Below W.heap.size W W') (h : keepO p l0 = some r) :
    Calls Try.prog 86 #[v0, .func (.func g) #[] lb] w fun e w' => ∃ v : Value, e = .returned v ∧ Kd.R k49 49 w' n0 (fun _ => True) v r ∧ Below n0 w0 w' := by
  obtain ⟨A0, c0, e0⟩ := Kd.R_slice hr0
  subst e0
  obtain ⟨_, hi0⟩ := keepO_idxO p l0 r h
  obtain ⟨i0, hi, hh⟩ := hi0 0 (by omega)
  clear hi0
  have hl0 : l0.length ≤ 9223372036854775807 := (Kd.R_reads' hr0).2.2.2.1
  have HI := Aside0.mk hi
  have HR0 := Aside0.mk hr0
  have HP := Aside0.mk hp
  have HB := Aside0.mk hb0
  clear hr0 hp hi h hb0
  go_enter Try.func86, Try.ntmps86
  rcases hh with ⟨rfl, rfl⟩ | ⟨n, rfl, hn, r', hk, rfl⟩
  · go_wp2_with (go_at_call 104; refine (slices_IndexFunc_Split.calls g lb p _ _ r (-1) n0 w0 _ HB.out hn0 (Kd.R_reads' HR0.out).2.2 hl0 eg HP.out HI.out).mono ?_; rintro e w' ⟨rfl, hbel⟩; have HB2 := Aside0.mk (HB.out.trans (hbel.mono hn0)); have HR2 := Aside0.mk (Kd.R_below HR0.out hbel); clear hbel)
    go_ret
    exact ⟨_, rfl, HR2.out, HB2.out⟩
  · obtain ⟨g0, cap0, e0, gb0, gl0, _⟩ := Kd.R_form HR0.out (by omega)
    cases e0
    have GB := Aside0.mk gb0
    clear gb0 gl0
    have cm : ((0 + (n : Int)) == -1) = false := beq_eq_false_iff_ne.mpr (by omega)
    have HK := Aside0.mk hk
    have HN := Aside0.mk hn
    have HW := Aside0.mk (show wrap64 (0 + (n : Int) + 1) = ((n + 1 : Nat) : Int) by unfold wrap64; omega)
    clear hk hn
    go_wp2_with (go_at_call 104; go_loud (refine (slices_IndexFunc_Split.calls g lb p _ _ l0 (0 + (n : Int)) n0 w0 _ HB.out hn0 (Kd.R_reads' HR0.out).2.2 hl0 eg HP.out HI.out).mono ?_; rintro e w' ⟨rfl, hbel⟩; have HB2 := Aside0.mk (HB.out.trans (hbel.mono hn0)); have HR2 := Aside0.mk (Kd.R_below HR0.out hbel); have HS2 := Aside0.mk (Nat.le_trans hn0 hbel.size); clear hbel))
    have HH := Aside0.mk (⟨r', HK.out, rfl⟩ : ∃ rest, keepO p (l0.drop (n + 1)) = some rest ∧ l0.take n ++ r' = l0.take n ++ rest)
    clear HI HR0 HB
    go_loopg [5, 6] l0.length (fun gk v5 v6 w' => ∃ (m j : Nat) (x : List S49), v5 = .int .i64 (m : Int) ∧ v6 = .int .i64 (j : Int) ∧ Aside0 (m < j ∧ j ≤ l0.length ∧ x.length = l0.length) ∧ Aside0 (x.drop j = l0.drop j) ∧ Aside0 (l0.length - j ≤ gk) ∧ Aside0 (∃ rest, keepO p (l0.drop j) = some rest ∧ l0.take n ++ r' = x.take m ++ rest) ∧ Aside0 (Kd.R k49 49 w' n0 (fun _ => True) (.slice (some ⟨g0, 0, none⟩) l0.length c0) x) ∧ Aside0 (Below n0 w0 w') ∧ Aside0 (n0 ≤ w'.heap.size))
    case atStart => exact ⟨n, n + 1, l0, by first | rfl | simp, by rw [show (n : Int) + 1 = 0 + (n : Int) + 1 by omega, HW.out], ⟨by have := HN.out; omega⟩, ⟨rfl⟩, ⟨by omega⟩, HH, HR2, HB2, HS2⟩
    case round =>
      clear HH HR2 HB2 HS2 HW cm
      clear ‹((n : Int) == -1) = false›
      obtain ⟨m, j, x, rfl, rfl, HJ, HD, HG, HA, HR, HB, HS⟩ := hrel
      by_cases hlt : (j : Int) < (l0.length : Int)
      · have c4b0 : decide ((j : Int) < (l0.length : Int)) = true := decide_eq_true hlt
        obtain ⟨h1, h2, h3⟩ := HJ.out
        obtain ⟨rest, hk, he⟩ := HA.out
        clear HA
        have hl : j < l0.length := by omega
        rw [keepO_drop p l0 j hl] at hk
        replace hk := Option.bind_eq_some_iff.mp hk
        obtain ⟨b, hb, hk⟩ := hk
        replace hk := Option.bind_eq_some_iff.mp hk
        obtain ⟨rest', hk', hk⟩ := hk
        have hxj : x[j]'(by omega) = l0[j] := by
          have := congrArg (fun l => l[0]?) HD.out
          simpa [List.getElem?_drop, h3, hl, List.getElem?_eq_getElem (show j < x.length by omega)] using this
        have e_ : l0[j] = rd_T49 x (j : Int) := by
          unfold rd_T49
          simp [← hxj, show j < x.length by omega]
        rw [e_] at hb
        have HPB := Aside0.mk hb
        have HDn := Aside0.mk (show x.drop (j + 1) = l0.drop (j + 1) by have := congrArg (List.drop 1) HD.out; simpa [List.drop_drop] using this)
        have HWj := Aside0.mk (show wrap64 ((j : Int) + 1) = ((j + 1 : Nat) : Int) by unfold wrap64; omega)
        have HWm := Aside0.mk (show wrap64 ((m : Int) + 1) = ((m + 1 : Nat) : Int) by unfold wrap64; omega)
        have p110 : 0 ≤ (j : Int) := by omega
        have hltx : (j : Int) < (x.length : Int) := by omega
        obtain ⟨ce10, hcl10, hM10, hcc10, hfr10⟩ := Kd.R_elem HR.out z49 (j : Int) p110 hlt
        obtain rfl := k49_openM hM10
        have hx110_0 : wr.cell? ⟨g0, (j : Int).toNat * 2, none⟩ = some (.int .i64 ((rd_T49 x (j : Int)).f0)) := hcc10 0 _ rfl
        have hx110_1 : wr.cell? ⟨g0, (j : Int).toNat * 2 + 1, none⟩ = some (.int .i64 ((rd_T49 x (j : Int)).f1)) := hcc10 1 _ rfl
        simp only [Int.toNat_natCast] at hx110_0 hx110_1
        clear hcl10 hM10 hcc10 hfr10
        have q110 := eq_true hlt
        replace p110 := eq_true p110
        clear hb hxj h1 h2 h3 hltx hlt
        cases b with
        | true =>
          have HE := Aside0.mk (show ∃ rest, keepO p (l0.drop (j + 1)) = some rest ∧ l0.take n ++ r' = x.take m ++ rest from ⟨rest', hk', by rw [he]; congr 1; simpa using hk.symm⟩)
          clear hk hk' he hl e_
          have HBa := Aside0.mk (HB.out.alloc HS.out (.cells #[.int .i64 (rd_T49 x (j : Int)).f0, .int .i64 (rd_T49 x (j : Int)).f1] 49))
          have HSa := Aside0.mk (Nat.le_trans HS.out (Nat.le_of_lt (alloc_lt wr (.cells #[.int .i64 (rd_T49 x (j : Int)).f0, .int .i64 (rd_T49 x (j : Int)).f1] 49))))
          have HRa := Aside0.mk (Kd.R_alloc HR.out (.cells #[.int .i64 (rd_T49 x (j : Int)).f0, .int .i64 (rd_T49 x (j : Int)).f1] 49))
          go_wp2_with ((with_reducible refine (HP.out _ true _ HPB.out HBa.out).mono ?_); rintro e w' ⟨rfl, hbel⟩; have HB2 := Aside0.mk (HBa.out.trans (hbel.mono HSa.out)); have HR2 := Aside0.mk (Kd.R_below HRa.out hbel); have HS2 := Aside0.mk (Nat.le_trans HSa.out hbel.size); clear hbel)
          go_roundg (l0.length - (j + 1))
          case measure => have := HG.out; have := HJ.out; have := of_eq_true q110; omega
          case rel => exact ⟨m, j + 1, x, rfl, by rw [HWj.out], ⟨by have := HJ.out; have := of_eq_true q110; omega⟩, HDn, ⟨by omega⟩, HE, HR2, HB2, HS2⟩
        | false =>
          have HE := Aside0.mk (show ∃ rest, keepO p (l0.drop (j + 1)) = some rest ∧ l0.take n ++ r' = x.take m ++ rd_T49 x (j : Int) :: rest from ⟨rest', hk', by rw [he]; congr 1; rw [← e_]; simpa using hk.symm⟩)
          clear hk hk' he hl e_
          have HBa := Aside0.mk (HB.out.alloc HS.out (.cells #[.int .i64 (rd_T49 x (j : Int)).f0, .int .i64 (rd_T49 x (j : Int)).f1] 49))
          have HSa := Aside0.mk (Nat.le_trans HS.out (Nat.le_of_lt (alloc_lt wr (.cells #[.int .i64 (rd_T49 x (j : Int)).f0, .int .i64 (rd_T49 x (j : Int)).f1] 49))))
          have HRa := Aside0.mk (Kd.R_alloc HR.out (.cells #[.int .i64 (rd_T49 x (j : Int)).f0, .int .i64 (rd_T49 x (j : Int)).f1] 49))
          have HX := Aside0.mk (alloc_new wr (.cells #[.int .i64 (rd_T49 x (j : Int)).f0, .int .i64 (rd_T49 x (j : Int)).f1] 49))
          have HXl := Aside0.mk (alloc_lt wr (.cells #[.int .i64 (rd_T49 x (j : Int)).f0, .int .i64 (rd_T49 x (j : Int)).f1] 49))
          have p12 : 0 ≤ (m : Int) := by omega
          have q12 : (m : Int) < (l0.length : Int) := by have := HJ.out; omega
          have q12x : (m : Int) < (x.length : Int) := by have := HJ.out; omega
          go_wp2_with (first | ((with_reducible refine (HP.out _ false _ HPB.out HBa.out).mono ?_); rintro e w' ⟨rfl, hbel⟩; have HB2 := Aside0.mk (HBa.out.trans (hbel.mono HSa.out)); have HR2 := Aside0.mk (Kd.R_below HRa.out hbel); have HS2 := Aside0.mk (Nat.le_trans HSa.out hbel.size); have HX2 := Aside0.mk ((hbel.block _ HXl.out).trans HX.out); have hcx0 : w'.cell? ⟨wr.heap.size, 0, none⟩ = some (.int .i64 (rd_T49 x (j : Int)).f0) := (blk_cell HX2.out 0).trans rfl; have hcx1 : w'.cell? ⟨wr.heap.size, 1, none⟩ = some (.int .i64 (rd_T49 x (j : Int)).f1) := (blk_cell HX2.out 1).trans rfl; obtain ⟨ce12, hcl12, hM12, hcc12, hfr12⟩ := Kd.R_elem HR2.out z49 (m : Int) p12 q12; obtain rfl := k49_openM hM12; have HP12 := Kd.R_seg HR2.out (m : Int) p12 q12 (seg := [.int .i64 (rd_T49 x (j : Int)).f0, .int .i64 (rd_T49 x (j : Int)).f1]) (j := 0) hcl12 hcc12 (show 2 ≤ 2 from by decide) (x' := rd_T49 x (j : Int)) (k49_mkM _ _ _ _) (fun _ hk => hk); have hx12_0 := hcc12 0 _ rfl; have hx12_1 := hcc12 1 _ rfl; have hf12_0 := hfr12 0; have hf12_1 := hfr12 1; simp only [show (k49).sz = 2 from rfl, Nat.add_zero, Int.toNat_natCast] at hx12_0 hx12_1 hf12_0 hf12_1; clear hcl12 hcc12 hfr12 hM12 hbel))
          go_roundg (l0.length - (j + 1))
          case measure => have := HG.out; have := HJ.out; have := of_eq_true q110; omega
          case rel =>
            have hJ := HJ.out
            refine ⟨m + 1, j + 1, x.set m (rd_T49 x (j : Int)), by first | (rw [HWm.out]; done) | rfl, by first | (rw [HWj.out]; done) | rfl, ⟨by have := of_eq_true q110; simp; omega⟩, ⟨?_⟩, ⟨by omega⟩, ⟨?_⟩, ?_, ?_, ?_⟩
            · rw [List.drop_set_of_lt (by omega)]
              exact HDn.out
            · obtain ⟨rest, hk, he⟩ := HE.out
              refine ⟨rest, hk, ?_⟩
              rw [he, List.take_succ_eq_append_getElem (by simp; omega), List.take_set_of_le (by omega)]
              simp
            · exact ⟨by simpa [World.setCells, show (k49).sz = 2 from rfl] using HP12.1⟩
            · exact ⟨Below.setCell (Below.setCell HB2.out GB.out _) GB.out _⟩
            · exact ⟨by simpa [World.setCell] using HS2.out⟩
      · have c4b0 : decide ((j : Int) < (l0.length : Int)) = false := decide_eq_false hlt
        obtain ⟨h1, h2, h3⟩ := HJ.out
        obtain ⟨rest, hk, he⟩ := HA.out
        rw [List.drop_of_length_le (by omega)] at hk
        obtain rfl : rest = [] := by simpa [keepO] using hk.symm
        have HE := Aside0.mk (show l0.take n ++ r' = x.take m by simpa using he)
        have hm0 : 0 ≤ (m : Int) := by omega
        have hml : (m : Int) ≤ (l0.length : Int) := by omega
        have hmn : m < l0.length := by omega
        have HMN := Aside0.mk hmn
        have c4d : ¬ j < l0.length := by omega
        have hmc : m ≤ c0 := by have := (Kd.R_reads' HR.out).2.1; omega
        have hmne : ¬ c0 = m := by have := (Kd.R_reads' HR.out).2.1; omega
        have hmci : (m : Int) ≤ (c0 : Int) := by omega
        clear hk he HA h1 h2 h3 hlt
        go_wp2_with (first | ((with_reducible refine gate_ (.call { callee := .builtin .clear, args := #[.tmp 38], argTypes := #[28] }) rfl ?_); (refine R_clear (m := m) (g := g0) (n := l0.length) (c := c0) k49 n0 rfl (.tmp 38) 28 49 (.agg #[.int .i64 0, .int .i64 0]) rfl Try.underlying28 info49 rfl ?h1 rfl ?hA HR.out HMN.out HB.out HS.out ?_; (case h1 => exact one_zz); (case hA => rfl); intro w2 hr2 hb2 hg2; have HR2 := Aside0.mk hr2; have HB2 := Aside0.mk hb2; clear hr2 hb2 hg2)))
        go_ret
        exact ⟨_, rfl, by rw [HE.out]; exact HR2.out, HB2.out⟩

/-! ### impl_winningSplits: function 60 -/
/-- 'The value behind a split isn't nought.' -/
def impl_winningSplits_1.f (k : Nat) (rule : Int) (heaps values : List Int) (x : S49) : Option Bool := (impl_makeSplit.f rule heaps x.f0 x.f1).bind fun m => (impl_valueOf.f k values m.1).bind fun z => some (z != 0)
set_option maxHeartbeats 8000000 in
set_option maxRecDepth 100000 in
theorem impl_winningSplits_1.calls (k : Nat) (rule : Int) (A1 : Option Addr) (c1 : Nat) (l1 : List Int) (A2 : Option Addr) (c2 : Nat) (l2 : List Int) (x : S49) (b : Bool) (g1 g2 g3 : Nat) (w : World) (hx1 : w.cell? ⟨g1, 0, none⟩ = some (.int .i64 rule)) (hx2 : w.cell? ⟨g2, 0, none⟩ = some (.slice A1 l1.length c1)) (hx3 : w.cell? ⟨g3, 0, none⟩ = some (.slice A2 l2.length c2)) (hr1 : Kd.C (Kd.int .i64) w A1 l1.length l1) (hc1 : l1.length ≤ c1) (hr2 : Kd.C (Kd.int .i64) w A2 l2.length l2) (hc2 : l2.length ≤ c2) (h : impl_winningSplits_1.f k rule l1 l2 x = some b) :
    Calls Try.prog 87 (#[.agg #[.int .i64 x.f0, .int .i64 x.f1]] ++ #[.pointer (some ⟨g1, 0, none⟩), .pointer (some ⟨g2, 0, none⟩), .pointer (some ⟨g3, 0, none⟩)]) w fun e w' => e = .returned (.bool b) ∧ Below w.heap.size w w' := by
  have H : (impl_makeSplit.f rule l1 x.f0 x.f1).bind (fun m => (impl_valueOf.f k l2 m.1).bind fun z => some (z != 0)) = some b := h
  clear h
  obtain ⟨⟨m1, m2⟩, hm, H⟩ := Option.bind_eq_some_iff.mp H
  obtain ⟨z, hz, H⟩ := Option.bind_eq_some_iff.mp H
  have hz : impl_valueOf.f k l2 m1 = some z := hz
  have HE := Aside0.mk (Option.some.inj H)
  have HM := Aside0.mk hm
  have HZ := Aside0.mk hz
  have HR1 := Aside0.mk hr1
  have HR2 := Aside0.mk hr2
  clear H hm hz hr1 hr2
  show Calls Try.prog 87 #[.agg #[.int .i64 x.f0, .int .i64 x.f1], .pointer (some ⟨g1, 0, none⟩), .pointer (some ⟨g2, 0, none⟩), .pointer (some ⟨g3, 0, none⟩)] w _
  have hy1 := Go.Lib.cell?_alloc_some (.cells #[.int .i64 x.f0, .int .i64 x.f1] 49) hx1
  have hy2 := Go.Lib.cell?_alloc_some (.cells #[.int .i64 x.f0, .int .i64 x.f1] 49) hx2
  have hy3 := Go.Lib.cell?_alloc_some (.cells #[.int .i64 x.f0, .int .i64 x.f1] 49) hx3
  have HBa := Aside0.mk (below_alloc (Below.refl w.heap.size w) (.cells #[.int .i64 x.f0, .int .i64 x.f1] 49))
  have HRa := Aside0.mk (Kd.C_alloc HR1.out (.cells #[.int .i64 x.f0, .int .i64 x.f1] 49))
  have HRb := Aside0.mk (Kd.C_alloc HR2.out (.cells #[.int .i64 x.f0, .int .i64 x.f1] 49))
  go_enter Try.func87, Try.ntmps87
  go_wp2_with (first | (go_at_call 57; refine (impl_makeSplit.calls rule _ _ l1 x.f0 x.f1 m1 m2 _ HRa.out hc1 HM.out).mono ?_; rintro e w' ⟨v, rfl, ho, hb⟩; have HO := Aside0.mk ho; have HB := Aside0.mk (below_step HBa.out hb); have HC := Aside0.mk (Kd.C_below HRb.out hb); have hz3 := (hb.cell (p := ⟨g3, 0, none⟩) (World.block_lt_of_cell? _ _ hy3)).trans hy3; obtain ⟨Ao, co, eo⟩ := Kd.R_slice ho; subst eo; clear ho hb) | (go_at_call 69; go_loud (refine (impl_valueOf.calls k _ _ l2 _ _ m1 z _ HC.out hc2 (Kd.R_reads' HO.out).2.2 (Kd.R_reads' HO.out).2.1 HZ.out).mono ?_; rintro e w' ⟨rfl, ⟨nd, rfl⟩⟩)))
  go_ret
  exact ⟨by rw [← HE.out]; rfl, by first | exact pw_below_drewN HB.out _ | (trace_state; sorry)⟩
/-- The splits behind which the value is nought. -/
def impl_winningSplits.f (k : Nat) (rule : Int) (heaps values : List Int) : Option (List S49) := (impl_splitsOf.f k rule heaps).bind fun l => keepO (impl_winningSplits_1.f k rule heaps values) l
theorem impl_winningSplits.mono : ∀ a0 a1 a2 k, LeO (impl_winningSplits.f k a0 a1 a2) (impl_winningSplits.f (k + 1) a0 a1 a2) := by
  intro a0 a1 a2 k
  unfold impl_winningSplits.f
  refine LeO.bind (impl_splitsOf.mono _ _ _) fun l => keepO_le (fun x => ?_) l
  unfold impl_winningSplits_1.f
  exact LeO.bind (LeO.refl _) fun m => LeO.bind (impl_valueOf.mono _ _ _) fun z => LeO.refl _
set_option maxHeartbeats 8000000 in
set_option maxRecDepth 100000 in
theorem impl_winningSplits.calls (k : Nat) (a0 : Int) (A1 : Option Addr) (c1 : Nat) (l1 : List Int) (A2 : Option Addr) (c2 : Nat) (l2 : List Int) (r : List S49) (w : World) (hr1 : Kd.C (Kd.int .i64) w A1 l1.length l1) (hc1 : l1.length ≤ c1) (hr2 : Kd.C (Kd.int .i64) w A2 l2.length l2) (hc2 : l2.length ≤ c2) (h : impl_winningSplits.f k a0 l1 l2 = some r) :
    Calls Try.prog 60 #[.int .i64 a0, .slice A1 l1.length c1, .slice A2 l2.length c2] w fun e w' => ∃ v0_ : Value, e = .returned v0_ ∧ Kd.R k49 49 w' w.heap.size (fun _ => True) v0_ r ∧ Below w.heap.size w w' := by
  have H : (impl_splitsOf.f k a0 l1).bind (fun l => keepO (impl_winningSplits_1.f k a0 l1 l2) l) = some r := h
  clear h
  obtain ⟨l, hl, H⟩ := Option.bind_eq_some_iff.mp H
  have HL := Aside0.mk hl
  have HK := Aside0.mk H
  have HR1 := Aside0.mk hr1
  have HR2 := Aside0.mk hr2
  clear H hl hr1 hr2
  go_enter Try.func60, Try.ntmps60
  have HRa := Aside0.mk (Kd.C_alloc (Kd.C_alloc (Kd.C_alloc HR1.out (.cells #[.int .i64 a0] 3)) (.cells #[.slice A1 l1.length c1] 22)) (.cells #[.slice A2 l2.length c2] 22))
  have HRb := Aside0.mk (Kd.C_alloc (Kd.C_alloc (Kd.C_alloc HR2.out (.cells #[.int .i64 a0] 3)) (.cells #[.slice A1 l1.length c1] 22)) (.cells #[.slice A2 l2.length c2] 22))
  have HB3 := Aside0.mk (below_alloc (below_alloc (below_alloc (Below.refl w.heap.size w) (.cells #[.int .i64 a0] 3)) (.cells #[.slice A1 l1.length c1] 22)) (.cells #[.slice A2 l2.length c2] 22))
  have hy1 : (((w.alloc (.cells #[.int .i64 a0] 3)).alloc (.cells #[.slice A1 l1.length c1] 22)).alloc (.cells #[.slice A2 l2.length c2] 22)).cell? ⟨w.heap.size, 0, none⟩ = some (.int .i64 a0) := Go.Lib.cell?_alloc_some _ (Go.Lib.cell?_alloc_some _ (alloc_cell _ _ _ _ rfl))
  have hy2 : (((w.alloc (.cells #[.int .i64 a0] 3)).alloc (.cells #[.slice A1 l1.length c1] 22)).alloc (.cells #[.slice A2 l2.length c2] 22)).cell? ⟨w.heap.size + 1, 0, none⟩ = some (.slice A1 l1.length c1) := Go.Lib.cell?_alloc_some _ (alloc_cell _ _ _ _ (by simp only [alloc_size]))
  have hy3 : (((w.alloc (.cells #[.int .i64 a0] 3)).alloc (.cells #[.slice A1 l1.length c1] 22)).alloc (.cells #[.slice A2 l2.length c2] 22)).cell? ⟨w.heap.size + 1 + 1, 0, none⟩ = some (.slice A2 l2.length c2) := alloc_cell _ _ _ _ (by simp only [alloc_size])
  have HY1 := Aside0.mk hy1
  have HY2 := Aside0.mk hy2
  have HY3 := Aside0.mk hy3
  clear hy1 hy2 hy3
  go_wp2_with (first | (go_at_call 67; refine (impl_splitsOf.calls k a0 _ _ l1 l _ HRa.out hc1 HL.out).mono ?_; rintro e w' ⟨v, rfl, ho, hb⟩; have HO := Aside0.mk ho; have HB := Aside0.mk hb; obtain ⟨Ao, co, eo⟩ := Kd.R_slice ho; subst eo; clear ho hb) | (go_at_call 86; go_loud (refine (slices_DeleteFunc_Split.calls 87 #[.pointer (some ⟨w.heap.size, 0, none⟩), .pointer (some ⟨w.heap.size + 1, 0, none⟩), .pointer (some ⟨w.heap.size + 1 + 1, 0, none⟩)] (impl_winningSplits_1.f k a0 l1 l2) _ l r _ _ _ HB.out HB.out.size HO.out (enters_body Try.func87 rfl rfl) ?hp HK.out).mono ?_; (case hp => exact fun x b W hx hb => impl_winningSplits_1.calls k a0 _ _ l1 _ _ l2 x b _ _ _ W ((hb.cell (World.block_lt_of_cell? _ _ HY1.out)).trans HY1.out) ((hb.cell (World.block_lt_of_cell? _ _ HY2.out)).trans HY2.out) ((hb.cell (World.block_lt_of_cell? _ _ HY3.out)).trans HY3.out) (Kd.C_below HRa.out hb) hc1 (Kd.C_below HRb.out hb) hc2 hx); rintro e w' ⟨v, rfl, ho, hb⟩; have HO2 := Aside0.mk ho; have HB2 := Aside0.mk hb; obtain ⟨Ao2, co2, eo2⟩ := Kd.R_slice ho; subst eo2; clear ho hb)))
  go_ret
  exact ⟨_, rfl, Kd.R_lower HO2.out HB3.out.size, below_step HB3.out HB2.out⟩

/-! ### impl_splitValues: function 61 -/
mutual
def impl_splitValues.l0 : Nat → Int → Int → List Int → Int → Option (List Int)
  | 0, _, _, _, _ => none
  | k + 1, x0, x1, x5, x6 => if x6 ≤ x1 then (impl_splitValues.l1 k x0 x1 x5 x6 [] 1) else (some x5)
def impl_splitValues.l1 : Nat → Int → Int → List Int → Int → List Int → Int → Option (List Int)
  | 0, _, _, _, _, _, _ => none
  | k + 1, x0, x1, x5, x6, x7, x8 => if (wrap64 (2 * x8)) ≤ x6 then ((impl_canSplit.f x0 x6 x8).bind fun t => (if t = true then (if 0 ≤ x8 ∧ x8 < (x5.length : Int) ∧ 0 ≤ (wrap64 (x6 - x8)) ∧ (wrap64 (x6 - x8)) < (x5.length : Int) ∧ x7.length < 1000000 then (impl_splitValues.l1 k x0 x1 x5 x6 (Go.bits .xor .i64 (rd x5 x8) (rd x5 (wrap64 (x6 - x8))) :: x7) (wrap64 (x8 + 1))) else (none)) else (impl_splitValues.l1 k x0 x1 x5 x6 x7 (wrap64 (x8 + 1))))) else (impl_splitValues.l2 k x0 x1 x5 x6 x7 0)
def impl_splitValues.l2 : Nat → Int → Int → List Int → Int → List Int → Int → Option (List Int)
  | 0, _, _, _, _, _, _ => none
  | k + 1, x0, x1, x5, x6, x7, x9 => if x7.contains x9 = true then (impl_splitValues.l2 k x0 x1 x5 x6 x7 (wrap64 (x9 + 1))) else (if x5.length < 17592186044416 then (impl_splitValues.l0 k x0 x1 (x5 ++ [x9]) (wrap64 (x6 + 1))) else (none))
end
def impl_splitValues.f (k : Nat) (a0 : Int) (a1 : Int) : Option (List Int) := impl_splitValues.l0 k a0 a1 ([0] : List Int) 1
theorem impl_splitValues.mono_l : ∀ k, (∀ y0 y1 y2 y3, LeO (impl_splitValues.l0 k y0 y1 y2 y3) (impl_splitValues.l0 (k + 1) y0 y1 y2 y3)) ∧ (∀ y0 y1 y2 y3 y4 y5, LeO (impl_splitValues.l1 k y0 y1 y2 y3 y4 y5) (impl_splitValues.l1 (k + 1) y0 y1 y2 y3 y4 y5)) ∧ (∀ y0 y1 y2 y3 y4 y5, LeO (impl_splitValues.l2 k y0 y1 y2 y3 y4 y5) (impl_splitValues.l2 (k + 1) y0 y1 y2 y3 y4 y5))
  | 0 => ⟨fun _ _ _ _ r h => by simp [impl_splitValues.l0] at h, fun _ _ _ _ _ _ r h => by simp [impl_splitValues.l1] at h, fun _ _ _ _ _ _ r h => by simp [impl_splitValues.l2] at h⟩
  | k + 1 => by
    obtain ⟨ih0, ih1, ih2⟩ := impl_splitValues.mono_l k
    refine ⟨?_, ?_, ?_⟩
    · intro y0 y1 y2 y3
      unfold impl_splitValues.l0
      exact LeO.ite (ih1 _ _ _ _ _ _) (LeO.refl _)
    · intro y0 y1 y2 y3 y4 y5
      unfold impl_splitValues.l1
      exact LeO.ite (LeO.bind (LeO.refl _) fun _ => LeO.ite (LeO.ite (ih1 _ _ _ _ _ _) (LeO.refl _)) (ih1 _ _ _ _ _ _)) (ih2 _ _ _ _ _ _)
    · intro y0 y1 y2 y3 y4 y5
      unfold impl_splitValues.l2
      exact LeO.ite (ih2 _ _ _ _ _ _) (LeO.ite (ih0 _ _ _ _) (LeO.refl _))
theorem impl_splitValues.mono : ∀ a0 a1 k, LeO (impl_splitValues.f k a0 a1) (impl_splitValues.f (k + 1) a0 a1) := fun a0 a1 k => (impl_splitValues.mono_l k).1 _ _ _ _
set_option maxHeartbeats 8000000 in
set_option maxRecDepth 100000 in
theorem impl_splitValues.calls (k : Nat) (a0 : Int) (a1 : Int) (r : List Int) (w : World) (h : impl_splitValues.f k a0 a1 = some r) :
    Calls Try.prog 61 #[.int .i64 a0, .int .i64 a1] w fun e w' => ∃ v0_ : Value, e = .returned (v0_) ∧ Kd.R (Kd.int .i64) 3 w' w.heap.size (fun _ => True) v0_ r ∧ Below w.heap.size w w' := by
  have HB := Aside0.mk (Below.refl w.heap.size w)
  have H : impl_splitValues.l0 k a0 a1 ([0] : List Int) 1 = some r := h
  have H' := Aside0.mk H
  clear h H
  go_enter Try.func61, Try.ntmps61
  go_wp2_with (first | ((with_reducible refine gate_dst (N := 10) rfl ?_); refine Kd.R_lit (Kd.int .i64) _ 3 ?hg (N := 10) ?hd (xs := ([0] : List Int)) (inner := [.int .i64 0]) (ok := fun _ => True) (okp := fun _ => True) ?hr ?hp (fun _ hk => hk) trivial (Below.refl _ _) (Nat.le_refl _) (by simp) ?_; (case hd => rfl); (case hg => rfl); (case hr => first | (go_simp; done) | (go_simp; rfl)); (case hp => exact (Reps.one (show Kd.M (Kd.int .i64) _ _ _ 0 [.int .i64 0] from rfl) (Reps.none _ _))); intro v104 w3 ho4 hb hg_ hnew_; clear hg_ hnew_; have n0_ := Aside0.mk (Kd.R_lower ho4 (below_size HB.out)); have n1_ := Aside0.mk (below_step HB.out hb); clear HB; have HO105 := n0_; have HB := n1_; clear n0_ n1_; clear hb ho4))
  go_loopg [5, 6] k (fun kq v5 v6 w' => ∃ (x5_1 : List Int) (x6_1 : Int), v6 = .int .i64 x6_1 ∧ Aside0 (impl_splitValues.l0 kq a0 a1 x5_1 x6_1 = some r) ∧ Aside0 (kq ≤ k) ∧ Aside0 (Kd.R (Kd.int .i64) 3 w' w.heap.size (fun _ => True) v5 x5_1) ∧ Aside0 (Below w.heap.size w w'))
  case atStart => exact ⟨[0], 1, rfl, H', ⟨Nat.le_refl _⟩, HO105, HB⟩
  case round =>
    clear H' HO105 HB
    obtain ⟨x5_1, x6_1, rfl, HA, HK1, HO_5, HB⟩ := hrel
    cases gk with
    | zero => exact absurd HA.out (by simp [impl_splitValues.l0])
    | succ k1 =>
      have H := HA.out
      clear HA
      simp only [impl_splitValues.l0] at H
      by_cases c5 : x6_1 ≤ a1
      · rw [if_pos c5] at H
        have c5b0 : decide (x6_1 ≤ a1) = true := decide_eq_true c5
        clear c5
        have H' := Aside0.mk H
        clear H
        have hmm := @run_makeMap Try.prog
        go_wp2
        have HM0 := Aside0.mk (MapIB.made wr Try.prog 3 4)
        have HB0 := Aside0.mk (below_alloc HB.out (.map #[] 0))
        have HO0 := Aside0.mk (Kd.R_alloc HO_5.out (.map #[] 0))
        have HG := Aside0.mk (show w.heap.size ≤ wr.heap.size from below_size HB.out)
        clear HB HO_5
        generalize wr.alloc (.map #[] 0) = wm at HM0 HB0 HO0 ⊢
        generalize wr.heap.size = gb at HM0 HG ⊢
        go_loopg [8] k1 (fun kq v8 w' => ∃ (x7_2 : List Int) (x8_2 : Int), v8 = .int .i64 x8_2 ∧ Aside0 (impl_splitValues.l1 kq a0 a1 x5_1 x6_1 x7_2 x8_2 = some r) ∧ Aside0 (kq ≤ k1) ∧ Aside0 (MapIB Try.prog 3 4 w' gb x7_2.length (fun i => x7_2.contains i)) ∧ Aside0 (Kd.R (Kd.int .i64) 3 w' w.heap.size (fun _ => True) u5 x5_1) ∧ Aside0 (Below w.heap.size w w'))
        case atStart => exact ⟨[], 1, rfl, H', ⟨Nat.le_refl _⟩, HM0, HO0, HB0⟩
        case round =>
          clear H' HM0 HB0 HO0 c5b0
          obtain ⟨x7_2, x8_2, rfl, HA, HK2, HM, HO_5, HB⟩ := hrel
          cases gk with
          | zero => exact absurd HA.out (by simp [impl_splitValues.l1])
          | succ k2 =>
            have H := HA.out
            clear HA
            simp only [impl_splitValues.l1] at H
            by_cases c6 : (wrap64 (2 * x8_2)) ≤ x6_1
            · rw [if_pos c6] at H
              have c6b0 : decide ((wrap64 (2 * x8_2)) ≤ x6_1) = true := decide_eq_true c6
              clear c6
              replace H := Option.bind_eq_some_iff.mp H
              obtain ⟨t106, A70, H⟩ := H
              have A7 := Aside0.mk A70
              clear A70
              cases t106 with
              | true =>
                simp only [if_true] at H
                obtain ⟨j11, hj11⟩ : ∃ j_ : Int, (wrap64 (x6_1 - x8_2)) = j_ := ⟨_, rfl⟩
                rw [hj11] at H
                have hj11w : (IntKind.i64.wrap (x6_1 - x8_2)) = j11 := (i64_w _).trans hj11
                by_cases c9 : 0 ≤ x8_2 ∧ x8_2 < (x5_1.length : Int) ∧ 0 ≤ j11 ∧ j11 < (x5_1.length : Int) ∧ x7_2.length < 1000000
                · rw [if_pos c9] at H
                  have H' := Aside0.mk H
                  clear H
                  obtain ⟨d1, d2, d3, d4, d5⟩ := c9
                  obtain ⟨A5, c5, e5⟩ := Kd.R_slice HO_5.out
                  subst e5
                  obtain ⟨ad1, e1, hx1⟩ := Kd.at_int (Kd.R_reads' HO_5.out).2.2 x8_2 d1 d2
                  cases e1
                  obtain ⟨ad2, e2, hx2⟩ := Kd.at_int (Kd.R_reads' HO_5.out).2.2 j11 d3 d4
                  cases e2
                  have D5 := Aside0.mk d5
                  have b1 : decide (0 ≤ x8_2) = true := decide_eq_true d1
                  have b2 : decide (x8_2 < (x5_1.length : Int)) = true := decide_eq_true d2
                  have b3 : decide (0 ≤ j11) = true := decide_eq_true d3
                  have b4 : decide (j11 < (x5_1.length : Int)) = true := decide_eq_true d4
                  replace d1 := eq_true d1
                  replace d2 := eq_true d2
                  replace d3 := eq_true d3
                  replace d4 := eq_true d4
                  clear d5
                  go_wp2_with (go_at_call 82; (with_reducible refine (impl_canSplit.calls a0 x6_1 x8_2 true _ A7.out).mono ?_); rintro e w' ⟨rfl, ⟨nd, rfl⟩⟩)
                  refine wp_region_still_tail 12 (by kernel_rfl) (by kernel_rfl) ?_
                  simp only [List.take_succ_cons, List.take_zero, List.drop_succ_cons, List.drop_zero]
                  change wpStill _ _ (World.drew _) (fun a' => wpList _ _ _ _ a' (World.drew _)) _ _
                  have hy1 : ((wr.drewN nd).drew).cell? (ad1.add x8_2.toNat) = some (.int .i64 (rd x5_1 x8_2)) := hx1
                  have hy2 : ((wr.drewN nd).drew).cell? (ad1.add j11.toNat) = some (.int .i64 (rd x5_1 j11)) := hx2
                  have HMq := Aside0.mk ((HM.out.below (Drawn0.mk ⟨nd, rfl⟩ : Drawn0 wr _).below).below (below_drew1 (Below.refl _ (wr.drewN nd))))
                  have HOq := Aside0.mk (Kd.R_drew (Kd.R_drewN HO_5.out nd))
                  have HBq := Aside0.mk (below_drew1 (pw_below_drewN HB.out nd))
                  clear HM HO_5 HB hx1 hx2
                  generalize (wr.drewN nd).drew = wq at hy1 hy2 HMq HOq HBq ⊢
                  repeat still_step
                  refine wpStill_nil ?_
                  refine MapIB.update_step rfl (.tmp 27) (.tmp 38) (.const (.bool true)) 87 rfl Try.underlying87 Try.underlying3 Try.underlying4 HMq.out (by have := D5.out; unfold maxLen; omega) (Go.bits .xor .i64 (rd x5_1 x8_2) (rd x5_1 j11)) (bits_wf _ _ _) rfl rfl rfl ?_
                  intro w2 hm2 hg2
                  have HM2 := Aside0.mk hm2
                  have HO2 := Aside0.mk (HMq.out.row HOq.out hg2)
                  have HB2 := Aside0.mk (pw_below_grown HBq.out _ (below_size HBq.out) hg2 (fun k_ e_ => by cases e_; exact HG.out))
                  clear hm2 hg2 HMq HOq HBq
                  go_wp2
                  go_roundg k2
                  case measure => have := HK1.out; have := HK2.out; omega
                  case rel => exact ⟨_, wrap64 (x8_2 + 1), rfl, H', ⟨by have := HK1.out; have := HK2.out; omega⟩, ⟨by simpa [List.contains_cons, eq_comm] using HM2.out⟩, HO2, HB2⟩
                · rw [if_neg c9] at H
                  exact absurd H (by simp)
              | false =>
                simp only [Bool.false_eq_true, if_false] at H
                have H' := Aside0.mk H
                clear H
                go_wp2_with (go_at_call 82; (with_reducible refine (impl_canSplit.calls a0 x6_1 x8_2 false _ A7.out).mono ?_); rintro e w' ⟨rfl, ⟨nd, rfl⟩⟩)
                go_roundg k2
                case measure => have := HK1.out; have := HK2.out; omega
                case rel => exact ⟨x7_2, wrap64 (x8_2 + 1), rfl, H', ⟨by have := HK1.out; have := HK2.out; omega⟩, ⟨HM.out.below (Drawn0.mk ⟨nd, rfl⟩ : Drawn0 wr _).below⟩, ⟨Kd.R_drewN HO_5.out _⟩, ⟨pw_below_drewN HB.out _⟩⟩
            · rw [if_neg c6] at H
              have c6b0 : decide ((wrap64 (2 * x8_2)) ≤ x6_1) = false := decide_eq_false c6
              clear c6
              have H' := Aside0.mk H
              clear H
              go_wp2
              go_loopg [9] k2 (fun kq v9 w' => ∃ (x9_3 : Int), v9 = .int .i64 x9_3 ∧ Aside0 (impl_splitValues.l2 kq a0 a1 x5_1 x6_1 x7_2 x9_3 = some r) ∧ Aside0 (kq ≤ k2) ∧ Aside0 ((Lit.int .i64 x9_3).wf = true) ∧ Aside0 (MapIB Try.prog 3 4 w' gb x7_2.length (fun i => x7_2.contains i)) ∧ Aside0 (Kd.R (Kd.int .i64) 3 w' w.heap.size (fun _ => True) u5 x5_1) ∧ Aside0 (Below w.heap.size w w'))
              case atStart => exact ⟨0, rfl, H', ⟨Nat.le_refl _⟩, ⟨by decide⟩, HM, HO_5, HB⟩
              case round =>
                clear H' HM HB HO_5 c6b0
                obtain ⟨x9_3, rfl, HA, HK3, HW9, HM, HO_5, HB⟩ := hrel
                cases gk with
                | zero => exact absurd HA.out (by simp [impl_splitValues.l2])
                | succ k3 =>
                  have H := HA.out
                  clear HA
                  simp only [impl_splitValues.l2] at H
                  have hlk := fun (u : World) (hu : u = wr) => (hu ▸ HM.out : MapIB Try.prog 3 4 u gb x7_2.length (fun i => x7_2.contains i)).lookup Try.underlying87 Try.underlying3 Try.underlying4 (by kernel_rfl) x9_3 HW9.out
                  have hlk1 := hlk wr rfl
                  clear hlk
                  cases hc : x7_2.contains x9_3 with
                  | true =>
                    rw [hc] at H hlk1
                    have H' := Aside0.mk (show impl_splitValues.l2 k3 a0 a1 x5_1 x6_1 x7_2 (wrap64 (x9_3 + 1)) = some r by simpa using H)
                    clear H hc
                    go_wp2
                    go_roundg k3
                    case measure => have := HK1.out; have := HK2.out; have := HK3.out; omega
                    case rel => exact ⟨wrap64 (x9_3 + 1), rfl, H', ⟨by have := HK1.out; have := HK2.out; have := HK3.out; omega⟩, ⟨wrap64_wf _⟩, HM, HO_5, HB⟩
                  | false =>
                    rw [hc] at H hlk1
                    simp only [Bool.false_eq_true, if_false] at H
                    clear hc
                    by_cases c21 : x5_1.length < 17592186044416
                    · rw [if_pos c21] at H
                      have H' := Aside0.mk H
                      have LMc21 := Aside0.mk c21
                      clear H c21
                      go_wp2_with ((with_reducible refine gate_builtin (b := .append) (xs := #[.tmp 44, .tmp 46]) rfl ?_); at_builtin; refine Kd.R_append (Kd.int .i64) (w0 := w) w.heap.size rfl (.tmp 44) (.tmp 46) 22 3 (.int .i64 0) 8 rfl Try.underlying22 info3 rfl (by decide) (by omega) u5 x5_1 x9_3 [.int .i64 x9_3] (fun _ => True) (fun _ => False) rfl rfl ?aP (fun _ hk => hk.elim) ?aF ?aO ?aB ?aS ?aL ?_; (case aP => exact rfl); (case aB => exact (by repeat (first | exact HB.out | apply below_alloc | apply pw_below_drewN))); (case aF => exact (fun _ _ => trivial)); (case aO => exact (by (with_reducible repeat (first | apply Kd.R_alloc | apply Kd.R_drewN | apply Kd.R_drew)); exact HO_5.out)); (case aS => exact (below_size (by repeat (first | exact HB.out | apply below_alloc | apply pw_below_drewN)))); (case aL => have := LMc21.out; omega); intro v114 w23 ho hb hg hat; have n1_ := Aside0.mk (hb); have n2_ := Aside0.mk (ho); clear HB; clear HO_5; have HB := n1_; have HO115 := n2_; clear n1_ n2_; clear ho hb hg hat)
                      go_roundg k3
                      case measure => have := HK1.out; have := HK2.out; have := HK3.out; omega
                      case rel => exact ⟨x5_1 ++ [x9_3], wrap64 (x6_1 + 1), rfl, H', ⟨by have := HK1.out; have := HK2.out; have := HK3.out; omega⟩, HO115, HB⟩
                    · rw [if_neg c21] at H
                      exact absurd H (by simp)
      · rw [if_neg c5] at H
        have c5b0 : decide (x6_1 ≤ a1) = false := decide_eq_false c5
        clear c5
        obtain rfl := Option.some.inj H
        go_wp2
        go_ret
        exact ⟨_, rfl, HO_5.out, HB.out⟩

end Go.Proofs.Ytnfofdocnnndnaa.PC
