/- Functions of the program and of the reference as Lean functions, each with a contract over the translated program. Conditions: the hypotheses of each theorem. Written by a program of this session, which drives the print of the kit and adds texts of its own. -/
import Derived.Test.YtnfofdocnnndnaaDoorPPx0
import Derived.Test.YtnfofdocnnndnaaDoorPPx1
import Derived.Test.YtnfofdocnnndnaaDoorPPx2
import Derived.Test.YtnfofdocnnndnaaDoorPPx3
namespace Go.Proofs.YtnfofdocnnndnaaDoor.PP
open Go.RowKit Go.Proofs.YtnfofdocnnndnaaDoorW.PrintWords Go.Proofs.YtnfofdocnnndnaaDoorW.PrintLast Go.Proofs.YtnfofdocnnndnaaDoorW.PrintMore Go.Proofs.YtnfofdocnnndnaaDoorB
attribute [local go_sem] max2_int min2_int max_two min_two max_three min_three max_four min_four   -- for this text's walks alone
set_option linter.unusedVariables false
set_option linter.unusedSimpArgs false

/-! ### spec_ParseSplits: function 13 -/
mutual
def spec_ParseSplits.j1 : Nat → ByteArray → List (S40) → Option ((List (S40)) × Bool)
 | 0, _, _ => none
 | k + 1, x0, x4 => (spec_slList.f k x4).bind fun t144 => (if t144 = true then ((spec_slText.f k x4).bind fun t145 => (if t145.toList = x0.toList then (some (x4, true)) else (some (([] : List (S40)), false)))) else (some (([] : List (S40)), false)))
def spec_ParseSplits.l0 : Nat → ByteArray → List (S40) → List ByteArray → Int → Int → Option ((List (S40)) × Bool)
 | 0, _, _, _, _, _ => none
 | k + 1, x0, x4, x15, x16, x17 => if x17 < x16 then (if 0 ≤ x17 then (if x17 < (x15.length : Int) then ((spec_l1Split.f k (rdOf ByteArray.empty x15 x17) 58).bind fun t134 => (if (t134.length : Int) = 2 then (if 0 < (t134.length : Int) then ((spec_l1Read.f k (rdOf ByteArray.empty t134 0)).bind fun t138 => (if 1 < (t134.length : Int) then ((spec_l1Read.f k (rdOf ByteArray.empty t134 1)).bind fun t140 => (if x4.length < 8796093022208 then (spec_ParseSplits.l0 k x0 (x4 ++ [(⟨t138, t140⟩ : S40)]) x15 x16 (wrap64 (x17 + 1))) else (none))) else (none))) else (none)) else (some (([] : List (S40)), false)))) else (none)) else (none)) else (spec_ParseSplits.j1 k x0 x4)
end
def spec_ParseSplits.f (k : Nat) (a0 : ByteArray) : Option ((List (S40)) × Bool) := if (a0.size : Int) > 360 then (some (([] : List (S40)), false)) else (if (a0.size : Int) > 0 then ((spec_l1Split.f k a0 44).bind fun t130 => (spec_ParseSplits.l0 k a0 ([] : List (S40)) t130 (t130.length : Int) 0)) else (spec_ParseSplits.j1 k a0 ([] : List (S40))))
theorem spec_ParseSplits.mono_l : ∀ k, (∀ y0 y1, LeO (spec_ParseSplits.j1 k y0 y1) (spec_ParseSplits.j1 (k + 1) y0 y1)) ∧ (∀ y0 y1 y2 y3 y4, LeO (spec_ParseSplits.l0 k y0 y1 y2 y3 y4) (spec_ParseSplits.l0 (k + 1) y0 y1 y2 y3 y4))
 | 0 => ⟨fun _ _ r h => by simp [spec_ParseSplits.j1] at h, fun _ _ _ _ _ r h => by simp [spec_ParseSplits.l0] at h⟩
 | k + 1 => by
  obtain ⟨ih0, ih1⟩ := spec_ParseSplits.mono_l k
  refine ⟨?_, ?_⟩
  ·intro y0 y1
   unfold spec_ParseSplits.j1
   repeat' first
   | (with_reducible exact ih0 _ _)
   | (with_reducible exact ih1 _ _ _ _ _)
   | (with_reducible exact spec_l1Read.mono _ _)
   | (with_reducible exact spec_l1Split.mono _ _ _)
   | (with_reducible exact spec_slList.mono _ _)
   | (with_reducible exact spec_slText.mono _ _)
   | (with_reducible exact LeO.refl _)
   | (with_reducible exact LeO.none _)
   | (with_reducible refine LeO.ite ?_ ?_)
   | (with_reducible refine LeO.bind ?_ (fun _ => ?_))
   | exact ih0 _ _
   | exact ih1 _ _ _ _ _
   | exact spec_l1Read.mono _ _
   | exact spec_l1Split.mono _ _ _
   | exact spec_slList.mono _ _
   | exact spec_slText.mono _ _
   | exact LeO.none _
   | refine LeO.ite ?_ ?_
   | refine LeO.bind ?_ (fun _ => ?_)
  ·intro y0 y1 y2 y3 y4
   unfold spec_ParseSplits.l0
   repeat' first
   | (with_reducible exact ih0 _ _)
   | (with_reducible exact ih1 _ _ _ _ _)
   | (with_reducible exact spec_l1Read.mono _ _)
   | (with_reducible exact spec_l1Split.mono _ _ _)
   | (with_reducible exact spec_slList.mono _ _)
   | (with_reducible exact spec_slText.mono _ _)
   | (with_reducible exact LeO.refl _)
   | (with_reducible exact LeO.none _)
   | (with_reducible refine LeO.ite ?_ ?_)
   | (with_reducible refine LeO.bind ?_ (fun _ => ?_))
   | exact ih0 _ _
   | exact ih1 _ _ _ _ _
   | exact spec_l1Read.mono _ _
   | exact spec_l1Split.mono _ _ _
   | exact spec_slList.mono _ _
   | exact spec_slText.mono _ _
   | exact LeO.none _
   | refine LeO.ite ?_ ?_
   | refine LeO.bind ?_ (fun _ => ?_)
theorem spec_ParseSplits.mono : ∀ a0 k, LeO (spec_ParseSplits.f k a0) (spec_ParseSplits.f (k + 1) a0) := by
 intro a0 k
 obtain ⟨ih0, ih1⟩ := spec_ParseSplits.mono_l k
 unfold spec_ParseSplits.f
 repeat' first
   | (with_reducible exact ih0 _ _)
   | (with_reducible exact ih1 _ _ _ _ _)
   | (with_reducible exact spec_l1Read.mono _ _)
   | (with_reducible exact spec_l1Split.mono _ _ _)
   | (with_reducible exact spec_slList.mono _ _)
   | (with_reducible exact spec_slText.mono _ _)
   | (with_reducible exact LeO.refl _)
   | (with_reducible exact LeO.none _)
   | (with_reducible refine LeO.ite ?_ ?_)
   | (with_reducible refine LeO.bind ?_ (fun _ => ?_))
   | exact ih0 _ _
   | exact ih1 _ _ _ _ _
   | exact spec_l1Read.mono _ _
   | exact spec_l1Split.mono _ _ _
   | exact spec_slList.mono _ _
   | exact spec_slText.mono _ _
   | exact LeO.none _
   | refine LeO.ite ?_ ?_
   | refine LeO.bind ?_ (fun _ => ?_)
def spec_ParseSplits.T11 : Bool × List (List Nat × List Nat) := (true, [([], []), ([], []), ([1], [1]), ([2], [2]), ([3], [3]), ([], []), ([5], [5]), ([6], [6]), ([7, 4], [7]), ([4, 8], [4, 8]), ([9], [9]), ([0, 10, 8], [0, 10]), ([11, 11, 0, 1, 2, 3, 4, 5, 6, 7, 8, 9, 10, 11], [0, 11])])
def spec_ParseSplits.B11 : List Nat := [0, 0, 2, 6, 14, 0, 32, 96, 254, 510, 1022, 2047, 4095]
theorem spec_ParseSplits.tab11 : rtab .any (opsOf Tryd.f13 11) = spec_ParseSplits.T11 := by kernel_rfl
theorem spec_ParseSplits.bits11 : waitsOk spec_ParseSplits.T11.2 spec_ParseSplits.B11 = true := by kernel_rfl
set_option maxHeartbeats 8000000 in
set_option maxRecDepth 100000 in
theorem spec_ParseSplits.calls (k : Nat) (a0 : ByteArray) (r1 : List (S40)) (r2 : Bool) (w : World) (h : spec_ParseSplits.f k a0 = some (r1, r2)) :
  Calls Tryd.prog 13 #[.string a0] w fun e w' => ∃ v0_ : Value, e = .returned (.tuple #[v0_, .bool r2]) ∧ Kd.R k40 40 w' w.heap.size (fun _ => True) v0_ r1 ∧ Below w.heap.size w w' := by
 have hu40 := Tryd.underlying40
 have HB := Aside0.mk (Below.refl w.heap.size w)
 have H : (if (a0.size : Int) > 360 then (some (([] : List (S40)), false)) else (if (a0.size : Int) > 0 then ((spec_l1Split.f k a0 44).bind fun t130 => (spec_ParseSplits.l0 k a0 ([] : List (S40)) t130 (t130.length : Int) 0)) else (spec_ParseSplits.j1 k a0 ([] : List (S40))))) = some (r1, r2) := h
 clear h
 by_cases c2 : (a0.size : Int) > 360
 ·rw [if_pos c2] at H
  have c2b0 : decide (360 < (a0.size : Int)) = true := decide_eq_true c2
  have c2b1 : decide (360 < a0.size) = true := decide_eq_true (by omega)
  clear c2
  simp only [Option.some.injEq, Prod.mk.injEq] at H
  obtain ⟨rfl, rfl⟩ := H
  go_enter Tryd.func13, Tryd.ntmps13
  go_wp2
  go_ret2
  exact ⟨_, by first | rfl | (simp [errW_none, errW_some] <;> rfl) | (simp [*, errW_none, errW_some] <;> rfl), by first | exact Kd.R_nil _ _ _ _ _ | exact Kd.N_nil _ _ _ _ _ | exact Kd.V_nil _ _ _ _ _ | exact Kd.Q_nil _ _ _ _ _ | exact Kd.S_nil _ _ _ _ _, by repeat (first | (with_reducible first | exact HB.out | apply below_alloc | apply pw_below_drewN | apply below_drew1) | exact HB.out)⟩
 ·rw [if_neg c2] at H
  have c2b0 : decide (360 < (a0.size : Int)) = false := decide_eq_false c2
  have c2b1 : decide (360 < a0.size) = false := decide_eq_false (by omega)
  clear c2
  have HC3 := Aside0.mk H
  clear H
  go_enter Tryd.func13, Tryd.ntmps13
  go_upto_if 13 with (fail)
  go_cut [4] (fun v4 wc => ∃ (kq : Nat) (x4_2 : List (S40)), Aside0 (spec_ParseSplits.j1 kq a0 x4_2 = some (r1, r2)) ∧ Aside0 (kq ≤ k) ∧ Aside0 (Kd.R k40 40 wc w.heap.size (fun _ => True) v4 x4_2) ∧ Aside0 (Below w.heap.size w wc))
  case first =>
   have H := HC3.out
   clear HC3
   by_cases c4 : (a0.size : Int) > 0
   ·rw [if_pos c4] at H
    have c4b0 : decide (0 < (a0.size : Int)) = true := decide_eq_true c4
    have c4b1 : decide (0 < a0.size) = true := decide_eq_true (by omega)
    clear c4
    (first | rw [c4b0] | rw [c4b1] | (simp only [i64_w, i32_w]; rw [c4b0]) | skip)
    replace H := Option.bind_eq_some_iff.mp H
    obtain ⟨t130, A50, H⟩ := H
    replace H : (spec_ParseSplits.l0 k a0 ([] : List (S40)) t130 (t130.length : Int) 0) = some (r1, r2) := H
    have A5 := Aside0.mk A50
    clear A50
    have H' := Aside0.mk H
    clear H
    go_wp2_with (first | ((with_reducible refine gate_callee (f := 29) rfl ?_); refine goesL_ (some 15) rfl rfl Tryd.func29 (by kernel_rfl) rfl #[.string a0, .int .u8 44] rfl (by (try simp only [List.map_toArray, List.map_cons, List.map_nil]); first | done | rfl | (simp only [List.length_drop, List.length_take]; rfl)) ?_; (with_reducible refine (spec_l1Split.calls k a0 44 t130 _ A5.out).mono ?_); rintro e w6 ⟨v131, rfl, ho0, hb⟩; refine ⟨_, rfl, ?_⟩; have n0_ := Aside0.mk (Kd.R_lower ho0 (below_size (by repeat (first | (with_reducible first | exact HB.out | apply below_alloc | apply pw_below_drewN | apply below_drew1) | exact HB.out)))); have n1_ := Aside0.mk (below_step (by repeat (first | (with_reducible first | exact HB.out | apply below_alloc | apply pw_below_drewN | apply below_drew1) | exact HB.out)) hb); clear HB; have HO132 := n0_; have HB := n1_; clear n0_ n1_; (try clear hb); (try clear hb2); (try clear hk); (try clear hi); (try clear ho0); obtain ⟨Ao7, co7, eo7⟩ := Kd.R_slice HO132.out; subst eo7))
    go_loopg [4, 17] k (fun kq v4 v17 w' => ∃ (x4_1 : List (S40)) (x17_1 : Int), v17 = .int .i64 x17_1 ∧ Aside0 (spec_ParseSplits.l0 kq a0 x4_1 t130 (t130.length : Int) x17_1 = some (r1, r2)) ∧ Aside0 (kq ≤ k) ∧ Aside0 (Kd.R k40 40 w' w.heap.size (fun _ => True) v4 x4_1) ∧ Aside0 (Kd.R Kd.string 9 w' w.heap.size (fun _ => True) (.slice Ao7 t130.length co7) t130) ∧ Aside0 (Below w.heap.size w w'))
    case atStart => exact ⟨(([] : List (S40))), (0), (by first | rfl | (simp; done) | (simp [*]; done)), H', ⟨Nat.le_refl _⟩, ⟨by first | exact Kd.R_nil _ _ _ _ _ | exact Kd.N_nil _ _ _ _ _ | exact Kd.V_nil _ _ _ _ _ | exact Kd.Q_nil _ _ _ _ _ | exact Kd.S_nil _ _ _ _ _⟩, ⟨by (with_reducible repeat (first | apply Kd.R_alloc | apply Kd.R_drewN | apply Kd.R_drew)); exact HO132.out⟩, ⟨by repeat (first | (with_reducible first | exact HB.out | apply below_alloc | apply pw_below_drewN | apply below_drew1) | exact HB.out)⟩⟩
    case round =>
     clear H'
     try clear c2
     try clear c2b0
     try clear c2b1
     try clear c4
     try clear c4b0
     try clear c4b1
     obtain ⟨x4_1, x17_1, rfl, HA, HK1, HO_4, HO_15, HB⟩ := hrel
     cases gk with
     | zero => exact absurd HA.out (by simp [spec_ParseSplits.l0])
     | succ k1 =>
      have H := HA.out
      clear HA
      simp only [spec_ParseSplits.l0] at H
      by_cases c8 : x17_1 < (t130.length : Int)
      ·rw [if_pos c8] at H
       have c8b0 : decide (x17_1 < (t130.length : Int)) = true := decide_eq_true c8
       clear c8
       by_cases c9 : 0 ≤ x17_1
       ·rw [if_pos c9] at H
        have c9b0 : decide (0 ≤ x17_1) = true := decide_eq_true c9
        clear c9
        by_cases c10 : x17_1 < (t130.length : Int)
        ·rw [if_pos c10] at H
         have c10b0 : decide (x17_1 < (t130.length : Int)) = true := decide_eq_true c10
         clear c10
         replace H := Option.bind_eq_some_iff.mp H
         obtain ⟨t134, A110, H⟩ := H
         replace H : (if (t134.length : Int) = 2 then (if 0 < (t134.length : Int) then ((spec_l1Read.f k1 (rdOf ByteArray.empty t134 0)).bind fun t138 => (if 1 < (t134.length : Int) then ((spec_l1Read.f k1 (rdOf ByteArray.empty t134 1)).bind fun t140 => (if x4_1.length < 8796093022208 then (spec_ParseSplits.l0 k1 a0 (x4_1 ++ [(⟨t138, t140⟩ : S40)]) t130 (t130.length : Int) (wrap64 (x17_1 + 1))) else (none))) else (none))) else (none)) else (some (([] : List (S40)), false))) = some (r1, r2) := H
         have A11 := Aside0.mk A110
         clear A110
         by_cases c12 : (t134.length : Int) = 2
         ·rw [if_pos c12] at H
          have c12b0 : ((t134.length : Int) == 2) = true := beq_iff_eq.mpr c12
          have c12b1 : ((t134.length : Int) != 2) = false := bne_eq_false_iff_eq.mpr c12
          clear c12
          by_cases c13 : 0 < (t134.length : Int)
          ·rw [if_pos c13] at H
           have c13b0 : decide (0 < (t134.length : Int)) = true := decide_eq_true c13
           have c13b1 : decide (0 < t134.length) = true := decide_eq_true (by omega)
           clear c13
           replace H := Option.bind_eq_some_iff.mp H
           obtain ⟨t138, A140, H⟩ := H
           replace H : (if 1 < (t134.length : Int) then ((spec_l1Read.f k1 (rdOf ByteArray.empty t134 1)).bind fun t140 => (if x4_1.length < 8796093022208 then (spec_ParseSplits.l0 k1 a0 (x4_1 ++ [(⟨t138, t140⟩ : S40)]) t130 (t130.length : Int) (wrap64 (x17_1 + 1))) else (none))) else (none)) = some (r1, r2) := H
           have A14 := Aside0.mk A140
           clear A140
           by_cases c15 : 1 < (t134.length : Int)
           ·rw [if_pos c15] at H
            have c15b0 : decide (1 < (t134.length : Int)) = true := decide_eq_true c15
            have c15b1 : decide (1 < t134.length) = true := decide_eq_true (by omega)
            clear c15
            replace H := Option.bind_eq_some_iff.mp H
            obtain ⟨t140, A160, H⟩ := H
            replace H : (if x4_1.length < 8796093022208 then (spec_ParseSplits.l0 k1 a0 (x4_1 ++ [(⟨t138, t140⟩ : S40)]) t130 (t130.length : Int) (wrap64 (x17_1 + 1))) else (none)) = some (r1, r2) := H
            have A16 := Aside0.mk A160
            clear A160
            by_cases c17 : x4_1.length < 8796093022208
            ·rw [if_pos c17] at H
             have LMc17 := Aside0.mk c17
             clear c17
             obtain ⟨y141, hy141⟩ : ∃ y_ : List (S40), y_ = (x4_1 ++ [(⟨t138, t140⟩ : S40)]) := ⟨_, rfl⟩
             replace H : (spec_ParseSplits.l0 k1 a0 y141 t130 (t130.length : Int) (wrap64 (x17_1 + 1))) = some (r1, r2) := by first | (rw [hy141]; with_reducible exact H) | (have H2_ := (Option.bind_some _ _).symm.trans H; rw [hy141]; with_reducible exact H2_) | (have H2_ := (Option.bind_some _ _).symm.trans H; with_reducible exact H2_) | with_reducible exact H | (rw [hy141]; exact H) | exact H
             have Ny141 := Aside0.mk hy141
             clear hy141
             have H' := Aside0.mk H
             clear H
             have p133 : 0 ≤ (x17_1 : Int) := of_decide_eq_true (by first | (with_reducible assumption) | assumption)
             have q133 : x17_1 < (t130.length : Int) := of_decide_eq_true (by first | (with_reducible assumption) | assumption)
             obtain ⟨ad133, e133, hx133_0⟩ := Kd.at_string (Kd.R_reads' HO_15.out).2.2 x17_1 p133 q133
             cases e133
             replace p133 := eq_true p133
             replace q133 := eq_true q133
             try go_wp2_with (first | ((with_reducible refine gate_callee (f := 29) rfl ?_); refine goesL_ (some 22) rfl rfl Tryd.func29 (by kernel_rfl) rfl #[.string (rdOf ByteArray.empty t130 x17_1), .int .u8 58] rfl (by (try simp only [List.map_toArray, List.map_cons, List.map_nil]); first | done | rfl | (simp only [List.length_drop, List.length_take]; rfl)) ?_; (with_reducible refine (spec_l1Split.calls k1 (rdOf ByteArray.empty t130 x17_1) 58 t134 _ A11.out).mono ?_); rintro e w18 ⟨v135, rfl, ho0, hb⟩; refine ⟨_, rfl, ?_⟩; have n0_ := Aside0.mk (Kd.R_below (by (with_reducible repeat (first | apply Kd.R_alloc | apply Kd.R_drewN | apply Kd.R_drew)); exact HO_4.out) hb); have n1_ := Aside0.mk (Kd.R_elder' (by (with_reducible repeat (first | apply Kd.R_alloc | apply Kd.R_drewN | apply Kd.R_drew)); exact HO_15.out) (Kd.R_base ho0) hb); have n2_ := Aside0.mk (Kd.R_lower (Kd.R_new' ho0 (Kd.R_lt (by (with_reducible repeat (first | apply Kd.R_alloc | apply Kd.R_drewN | apply Kd.R_drew)); exact HO_15.out))) (below_size (by repeat (first | (with_reducible first | exact HB.out | apply below_alloc | apply pw_below_drewN | apply below_drew1) | exact HB.out)))); have n3_ := Aside0.mk (below_step (by repeat (first | (with_reducible first | exact HB.out | apply below_alloc | apply pw_below_drewN | apply below_drew1) | exact HB.out)) hb); clear HO_4; clear HO_15; clear HB; have HO_4 := n0_; have HO_15 := n1_; have HO136 := n2_; have HB := n3_; clear n0_ n1_ n2_ n3_; (try clear hb); (try clear hb2); (try clear hk); (try clear hi); (try clear ho0); obtain ⟨Ao19, co19, eo19⟩ := Kd.R_slice HO136.out; subst eo19))
             have n0_ := Aside0.mk (Kd.R_drew HO_4.out)
             have n1_ := Aside0.mk (Kd.R_drew HO_15.out)
             have n2_ := Aside0.mk (Kd.R_drew HO136.out)
             have n3_ := Aside0.mk (below_drew1 HB.out)
             clear HO_4
             clear HO_15
             clear HO136
             clear HB
             have HO_4 := n0_
             have HO_15 := n1_
             have HO136 := n2_
             have HB := n3_
             clear n0_ n1_ n2_ n3_
             have p137 : 0 ≤ (0 : Int) := (by omega)
             have q137 : 0 < (t134.length : Int) := of_decide_eq_true (by first | (with_reducible assumption) | assumption)
             obtain ⟨ad137, e137, hx137_0⟩ := Kd.at_string (Kd.R_reads' HO136.out).2.2 0 p137 q137
             cases e137
             have qi137 : (0 < t134.length) = True := eq_true (by omega)
             (try rw [show ((0 : Int)).toNat = 0 from rfl] at hx137_0)
             (try rw [Addr.add_zero'] at hx137_0)
             replace p137 := eq_true p137
             replace q137 := eq_true q137
             have p139 : 0 ≤ (1 : Int) := (by omega)
             have q139 : 1 < (t134.length : Int) := of_decide_eq_true (by first | (with_reducible assumption) | assumption)
             obtain ⟨ad139, e139, hx139_0⟩ := Kd.at_string (Kd.R_reads' HO136.out).2.2 1 p139 q139
             obtain rfl : ad137 = ad139 := (by injection e139)
             (try simp only [show (1 : Int).toNat = 1 from rfl, Nat.reduceMul, Nat.reduceEqDiff, Go.Addr.add, ↓reduceIte] at hx139_0)
             have qi139 : (1 < t134.length) = True := eq_true (by omega)
             (try rw [show ((1 : Int)).toNat = 1 from rfl] at hx139_0)
             replace p139 := eq_true p139
             replace q139 := eq_true q139
             refine start_ (n := 13) (S := fun w' => w'.cell? ad137 = some (.string (rdOf ByteArray.empty t134 0)) ∧ w'.cell? ⟨ad137.block, ad137.off + 1, none⟩ = some (.string (rdOf ByteArray.empty t134 1))) (ds := [10, 11]) #[false, false, false, false, false, false, false, false, false, false, false, false, false] (by kernel_rfl) rfl rfl ⟨hx137_0, hx139_0⟩ (fun hHeld => ?_); refine with_tabW spec_ParseSplits.tab11 spec_ParseSplits.bits11 (fun HT_ HW_ => ?_)
             generalize w18.drew = w20 at HO_4 HO_15 HO136 HB hx137_0 hx139_0 hHeld ⊢
             refine pure_ (i := 0) (N := some 26) (v := ?_) (a' := ?_) #[true, false, false, false, false, false, false, false, false, false, false, false, false] rfl rfl (any_of HT_.out (by kernel_rfl)) (fun _ _ _ h => h) (Or.inl ⟨by rfl, ?_⟩) ?_ ?_
             rotate_left
             ·intro w'
              go_simp
              with_reducible rfl
             rotate_left
             ·simp only [Act.put, List.setIfInBounds_toArray, List.set_cons_zero, List.set_cons_succ, i64_w, i32_w]
              rfl
             refine pure_ (i := 1) (N := some 27) (v := ?_) (a' := ?_) #[true, true, false, false, false, false, false, false, false, false, false, false, false] rfl rfl (any_of HT_.out (by kernel_rfl)) (fun _ _ _ h => h) (Or.inl ⟨by rfl, ?_⟩) ?_ ?_
             rotate_left
             ·intro w'
              go_simp
              with_reducible rfl
             rotate_left
             ·simp only [Act.put, List.setIfInBounds_toArray, List.set_cons_zero, List.set_cons_succ, i64_w, i32_w]
              rfl
             refine pure_ (i := 2) (N := some 28) (v := ?_) (a' := ?_) #[true, true, true, false, false, false, false, false, false, false, false, false, false] rfl rfl (any_of HT_.out (by kernel_rfl)) (fun _ _ _ h => h) (Or.inl ⟨by rfl, ?_⟩) ?_ ?_
             rotate_left
             ·intro w'
              go_simp
              with_reducible rfl
             rotate_left
             ·simp only [Act.put, List.setIfInBounds_toArray, List.set_cons_zero, List.set_cons_succ, i64_w, i32_w]
              rfl
             refine pure_ (i := 5) (N := some 31) (v := ?_) (a' := ?_) #[true, true, true, false, false, true, false, false, false, false, false, false, false] rfl rfl (any_of HT_.out (by kernel_rfl)) (fun _ _ _ h => h) (Or.inl ⟨by rfl, ?_⟩) ?_ ?_
             rotate_left
             ·intro w'
              go_simp
              with_reducible rfl
             rotate_left
             ·simp only [Act.put, List.setIfInBounds_toArray, List.set_cons_zero, List.set_cons_succ, i64_w, i32_w]
              rfl
             refine pure_ (i := 6) (N := some 32) (v := ?_) (a' := ?_) #[true, true, true, false, false, true, true, false, false, false, false, false, false] rfl rfl (any_of HT_.out (by kernel_rfl)) (fun _ _ _ h => h) (Or.inl ⟨by rfl, ?_⟩) ?_ ?_
             rotate_left
             ·intro w'
              go_simp
              with_reducible rfl
             rotate_left
             ·simp only [Act.put, List.setIfInBounds_toArray, List.set_cons_zero, List.set_cons_succ, i64_w, i32_w]
              rfl
             refine take_ (i := 3) (N := some 29) (v := ?_) (a' := ?_) #[true, true, true, true, false, true, true, false, false, false, false, false, false] rfl rfl (take_ofW HT_.out HW_.out (by kernel_rfl)) (fun _ _ _ h => h) (Or.inl ⟨by rfl, ?_⟩) hHeld ?_ ?_
             rotate_left
             ·rintro w' ⟨s0, s1⟩
              go_simp
              with_reducible rfl
             rotate_left
             ·simp only [Act.put, List.setIfInBounds_toArray, List.set_cons_zero, List.set_cons_succ, i64_w, i32_w]
              rfl
             refine take_ (i := 7) (N := some 33) (v := ?_) (a' := ?_) #[true, true, true, true, false, true, true, true, false, false, false, false, false] rfl rfl (take_ofW HT_.out HW_.out (by kernel_rfl)) (fun _ _ _ h => h) (Or.inl ⟨by rfl, ?_⟩) hHeld ?_ ?_
             rotate_left
             ·rintro w' ⟨s0, s1⟩
              go_simp
              with_reducible rfl
             rotate_left
             ·simp only [Act.put, List.setIfInBounds_toArray, List.set_cons_zero, List.set_cons_succ, i64_w, i32_w]
              rfl
             refine one_ (i := 4) (N := some 30) #[true, true, true, true, true, true, true, true, false, false, false, false, false] rfl rfl (one_of HT_.out (by kernel_rfl)) (by decide) (fun K hK => ?_)
             refine goes_ Tryd.func30 (by kernel_rfl) rfl #[.string (rdOf ByteArray.empty t134 0)] (by rfl) rfl rfl (by (try simp only [List.map_toArray, List.map_cons, List.map_nil]); first | done | rfl | (simp only [List.length_drop, List.length_take]; rfl)) ?_
             with_reducible refine (spec_l1Read.calls k1 (rdOf ByteArray.empty t134 0) t138 _ A14.out).mono ?_
             rintro e w' ⟨rfl, ⟨nd, rfl⟩⟩
             refine ⟨_, rfl, ?_⟩
             refine hK.out _ _ ⟨hHeld.1, hHeld.2⟩ (fun hHeld => ?_)
             clear hK K
             refine norm_ (a' := ?_) ?_ ?_
             rotate_left
             ·show Act.put _ (some 30) _ = _
              simp only [Act.put, List.setIfInBounds_toArray, List.set_cons_zero, List.set_cons_succ, i64_w, i32_w]
              rfl
             refine one_ (i := 8) (N := some 34) #[true, true, true, true, true, true, true, true, true, false, false, false, false] rfl rfl (one_of HT_.out (by kernel_rfl)) (by decide) (fun K hK => ?_)
             refine goes_ Tryd.func30 (by kernel_rfl) rfl #[.string (rdOf ByteArray.empty t134 1)] (by rfl) rfl rfl (by (try simp only [List.map_toArray, List.map_cons, List.map_nil]); first | done | rfl | (simp only [List.length_drop, List.length_take]; rfl)) ?_
             with_reducible refine (spec_l1Read.calls k1 (rdOf ByteArray.empty t134 1) t140 _ A16.out).mono ?_
             rintro e w' ⟨rfl, ⟨nd, rfl⟩⟩
             refine ⟨_, rfl, ?_⟩
             refine hK.out _ _ ⟨hHeld.1, hHeld.2⟩ (fun hHeld => ?_)
             clear hK K
             refine norm_ (a' := ?_) ?_ ?_
             rotate_left
             ·show Act.put _ (some 34) _ = _
              simp only [Act.put, List.setIfInBounds_toArray, List.set_cons_zero, List.set_cons_succ, i64_w, i32_w]
              rfl
             refine pure_ (i := 9) (N := some 35) (v := ?_) (a' := ?_) #[true, true, true, true, true, true, true, true, true, true, false, false, false] rfl rfl (any_of HT_.out (by kernel_rfl)) (fun _ _ _ h => h) (Or.inl ⟨by rfl, ?_⟩) ?_ ?_
             rotate_left
             ·intro w'
              go_simp
              with_reducible rfl
             rotate_left
             ·simp only [Act.put, List.setIfInBounds_toArray, List.set_cons_zero, List.set_cons_succ, i64_w, i32_w]
              rfl
             refine last_ (i := 10) (N := some 36) #[true, true, true, true, true, true, true, true, true, true, true, false, false] rfl rfl (one_of HT_.out (by kernel_rfl)) (by decide) (fun K hK => ?_)
             refine value_ (w1 := ?_) (v := ?_) (by rfl) rfl ?_ ?_
             rotate_left 2
             ·go_simp
              constructor
              ·rfl
              ·rfl
             refine hK.out _ _ ?_
             clear hK K
             refine norm_ (a' := ?_) ?_ ?_
             rotate_left
             ·show Act.put _ (some 36) _ = _
              simp only [Act.put, List.setIfInBounds_toArray, List.set_cons_zero, List.set_cons_succ, i64_w, i32_w]
              rfl
             refine last_ (i := 11) (N := some 37) #[true, true, true, true, true, true, true, true, true, true, true, true, false] rfl rfl (one_of HT_.out (by kernel_rfl)) (by decide) (fun K hK => ?_)
             refine Kd.R_append_step k40 (w0 := w) w.heap.size (by rfl) (.tmp 26) (.tmp 36) 26 40 (.agg #[(.int .i64 0), (.int .i64 0)]) 16 rfl Tryd.underlying26 info40 rfl (by decide) (by omega) u4 x4_1 (⟨t138, t140⟩ : S40) [.int .i64 t138, .int .i64 t140] (fun _ => True) (fun _ => False) rfl rfl ?aP (fun _ hk => hk.elim) ?aF ?aO ?aB ?aS ?aL ?_
             (case aP => exact k40_mkM _ _ _ (⟨t138, t140⟩ : S40))
             (case aB => exact (by repeat (first | (with_reducible first | exact HB.out | apply below_alloc | apply pw_below_drewN | apply below_drew1) | exact HB.out)))
             (case aF => exact (fun _ _ => trivial))
             (case aO => exact (by (with_reducible repeat (first | apply Kd.R_alloc | apply Kd.R_drewN | apply Kd.R_drew)); exact HO_4.out))
             (case aS => exact (below_size (by repeat (first | (with_reducible first | exact HB.out | apply below_alloc | apply pw_below_drewN | apply below_drew1) | exact HB.out))))
             (case aL => have := LMc17.out; omega)
             intro v142 w21 ho hb hg hat
             rw [← Ny141.out] at ho
             have n0_ := Aside0.mk (Kd.R_over' (by (with_reducible repeat (first | apply Kd.R_alloc | apply Kd.R_drewN | apply Kd.R_drew)); exact HO_15.out) (Kd.R_typed (by (with_reducible repeat (first | apply Kd.R_alloc | apply Kd.R_drewN | apply Kd.R_drew)); exact HO_4.out)) (by decide) hg)
             have n1_ := Aside0.mk (Kd.R_over' (by (with_reducible repeat (first | apply Kd.R_alloc | apply Kd.R_drewN | apply Kd.R_drew)); exact HO136.out) (Kd.R_typed (by (with_reducible repeat (first | apply Kd.R_alloc | apply Kd.R_drewN | apply Kd.R_drew)); exact HO_4.out)) (by decide) hg)
             have n2_ := Aside0.mk (hb)
             have n3_ := Aside0.mk (ho)
             clear HO_15
             clear HO136
             clear HB
             clear HO_4
             have HO_15 := n0_
             have HO136 := n1_
             have HB := n2_
             have HO143 := n3_
             clear n0_ n1_ n2_ n3_
             clear ho hb hg hat
             refine hK.out _ _ ?_
             clear hK K
             refine norm_ (a' := ?_) ?_ ?_
             rotate_left
             ·show Act.put _ (some 37) _ = _
              simp only [Act.put, List.setIfInBounds_toArray, List.set_cons_zero, List.set_cons_succ, i64_w, i32_w]
              rfl
             refine pure_ (i := 12) (N := some 4) (v := ?_) (a' := ?_) #[true, true, true, true, true, true, true, true, true, true, true, true, true] rfl rfl (any_of HT_.out (by kernel_rfl)) (fun _ _ _ h => h) (Or.inl ⟨by rfl, ?_⟩) ?_ ?_
             rotate_left
             ·intro w'
              go_simp
              with_reducible rfl
             rotate_left
             ·simp only [Act.put, List.setIfInBounds_toArray, List.set_cons_zero, List.set_cons_succ, i64_w, i32_w]
              rfl
             refine done_ (done_of HT_.out (by kernel_rfl)) ?_
             try go_wp2
             go_roundg k1
             case measure => have := HK1.out; omega
             case rel => exact ⟨(y141), (wrap64 (x17_1 + 1)), (by first | rfl | (simp; done) | (simp [*]; done)), H', ⟨by have := HK1.out; omega⟩, ⟨by (with_reducible repeat (first | apply Kd.R_alloc | apply Kd.R_drewN | apply Kd.R_drew)); exact HO143.out⟩, ⟨by (with_reducible repeat (first | apply Kd.R_alloc | apply Kd.R_drewN | apply Kd.R_drew)); exact Kd.R_mono HO_15.out (fun _ hk => trivial)⟩, ⟨by repeat (first | (with_reducible first | exact HB.out | apply below_alloc | apply pw_below_drewN | apply below_drew1) | exact HB.out)⟩⟩
            ·rw [if_neg c17] at H
             exact absurd H (by simp)
           ·rw [if_neg c15] at H
            exact absurd H (by simp)
          ·rw [if_neg c13] at H
           exact absurd H (by simp)
         ·rw [if_neg c12] at H
          have c12b0 : ((t134.length : Int) == 2) = false := beq_eq_false_iff_ne.mpr c12
          have c12b1 : ((t134.length : Int) != 2) = true := bne_iff_ne.mpr c12
          simp only [Option.some.injEq, Prod.mk.injEq] at H
          obtain ⟨rfl, rfl⟩ := H
          have p133 : 0 ≤ (x17_1 : Int) := of_decide_eq_true (by first | (with_reducible assumption) | assumption)
          have q133 : x17_1 < (t130.length : Int) := of_decide_eq_true (by first | (with_reducible assumption) | assumption)
          obtain ⟨ad133, e133, hx133_0⟩ := Kd.at_string (Kd.R_reads' HO_15.out).2.2 x17_1 p133 q133
          cases e133
          replace p133 := eq_true p133
          replace q133 := eq_true q133
          go_wp2_with (first | ((with_reducible refine gate_callee (f := 29) rfl ?_); refine goesL_ (some 22) rfl rfl Tryd.func29 (by kernel_rfl) rfl #[.string (rdOf ByteArray.empty t130 x17_1), .int .u8 58] rfl (by (try simp only [List.map_toArray, List.map_cons, List.map_nil]); first | done | rfl | (simp only [List.length_drop, List.length_take]; rfl)) ?_; (with_reducible refine (spec_l1Split.calls k1 (rdOf ByteArray.empty t130 x17_1) 58 t134 _ A11.out).mono ?_); rintro e w22 ⟨v135, rfl, ho0, hb⟩; refine ⟨_, rfl, ?_⟩; have n0_ := Aside0.mk (Kd.R_below (by (with_reducible repeat (first | apply Kd.R_alloc | apply Kd.R_drewN | apply Kd.R_drew)); exact HO_4.out) hb); have n1_ := Aside0.mk (Kd.R_elder' (by (with_reducible repeat (first | apply Kd.R_alloc | apply Kd.R_drewN | apply Kd.R_drew)); exact HO_15.out) (Kd.R_base ho0) hb); have n2_ := Aside0.mk (Kd.R_lower (Kd.R_new' ho0 (Kd.R_lt (by (with_reducible repeat (first | apply Kd.R_alloc | apply Kd.R_drewN | apply Kd.R_drew)); exact HO_15.out))) (below_size (by repeat (first | (with_reducible first | exact HB.out | apply below_alloc | apply pw_below_drewN | apply below_drew1) | exact HB.out)))); have n3_ := Aside0.mk (below_step (by repeat (first | (with_reducible first | exact HB.out | apply below_alloc | apply pw_below_drewN | apply below_drew1) | exact HB.out)) hb); clear HO_4; clear HO_15; clear HB; have HO_4 := n0_; have HO_15 := n1_; have HO136 := n2_; have HB := n3_; clear n0_ n1_ n2_ n3_; (try clear hb); (try clear hb2); (try clear hk); (try clear hi); (try clear ho0); obtain ⟨Ao23, co23, eo23⟩ := Kd.R_slice HO136.out; subst eo23))
          go_ret2
          exact ⟨_, by first | rfl | (simp [errW_none, errW_some] <;> rfl) | (simp [*, errW_none, errW_some] <;> rfl), by first | exact Kd.R_nil _ _ _ _ _ | exact Kd.N_nil _ _ _ _ _ | exact Kd.V_nil _ _ _ _ _ | exact Kd.Q_nil _ _ _ _ _ | exact Kd.S_nil _ _ _ _ _, by repeat (first | (with_reducible first | exact HB.out | apply below_alloc | apply pw_below_drewN | apply below_drew1) | exact HB.out)⟩
        ·rw [if_neg c10] at H
         exact absurd H (by simp)
       ·rw [if_neg c9] at H
        exact absurd H (by simp)
      ·rw [if_neg c8] at H
       have c8b0 : decide (x17_1 < (t130.length : Int)) = false := decide_eq_false c8
       clear c8
       have H' := Aside0.mk H
       clear H
       go_wp2
       go_meet
       case rel => exact ⟨_, (x4_1), H', ⟨by have := HK1.out; first | omega | exact Nat.le_refl _⟩, ⟨by (with_reducible repeat (first | apply Kd.R_alloc | apply Kd.R_drewN | apply Kd.R_drew)); exact HO_4.out⟩, ⟨by repeat (first | (with_reducible first | exact HB.out | apply below_alloc | apply pw_below_drewN | apply below_drew1) | exact HB.out)⟩⟩
   ·rw [if_neg c4] at H
    have c4b0 : decide (0 < (a0.size : Int)) = false := decide_eq_false c4
    have c4b1 : decide (0 < a0.size) = false := decide_eq_false (by omega)
    clear c4
    (first | rw [c4b0] | rw [c4b1] | (simp only [i64_w, i32_w]; rw [c4b0]) | skip)
    have H' := Aside0.mk H
    clear H
    go_wp2
    go_meet
    case rel => exact ⟨_, (([] : List (S40))), H', ⟨by first | omega | exact Nat.le_refl _⟩, ⟨by first | exact Kd.R_nil _ _ _ _ _ | exact Kd.N_nil _ _ _ _ _ | exact Kd.V_nil _ _ _ _ _ | exact Kd.Q_nil _ _ _ _ _ | exact Kd.S_nil _ _ _ _ _⟩, ⟨by repeat (first | (with_reducible first | exact HB.out | apply below_alloc | apply pw_below_drewN | apply below_drew1) | exact HB.out)⟩⟩
  case rest =>
   clear HC3
   try clear c2
   try clear c2b0
   try clear c2b1
   obtain ⟨kq, x4_2, HA, HJ2, HO_4, HB⟩ := hcut
   cases kq with
   | zero => exact absurd HA.out (by simp [spec_ParseSplits.j1])
   | succ kj2 =>
    have H := HA.out
    clear HA
    simp only [spec_ParseSplits.j1] at H
    replace H := Option.bind_eq_some_iff.mp H
    obtain ⟨t144, A240, H⟩ := H
    replace H : (if t144 = true then ((spec_slText.f kj2 x4_2).bind fun t145 => (if t145.toList = a0.toList then (some (x4_2, true)) else (some (([] : List (S40)), false)))) else (some (([] : List (S40)), false))) = some (r1, r2) := H
    have A24 := Aside0.mk A240
    clear A240
    by_cases c25 : t144 = true
    ·subst c25
     have H1 : ((spec_slText.f kj2 x4_2).bind fun t145 => (if t145.toList = a0.toList then (some (x4_2, true)) else (some (([] : List (S40)), false)))) = some (r1, r2) := by rw [if_pos rfl] at H; exact H
     clear H
     have H := H1
     clear H1
     replace H := Option.bind_eq_some_iff.mp H
     obtain ⟨t145, A260, H⟩ := H
     replace H : (if t145.toList = a0.toList then (some (x4_2, true)) else (some (([] : List (S40)), false))) = some (r1, r2) := H
     have A26 := Aside0.mk A260
     clear A260
     by_cases c27 : t145.toList = a0.toList
     ·rw [if_pos c27] at H
      have c27b0 : (t145.toList == a0.toList) = true := beq_iff_eq.mpr c27
      have c27b1 : (t145.toList != a0.toList) = false := bne_eq_false_iff_eq.mpr c27
      clear c27
      simp only [Option.some.injEq, Prod.mk.injEq] at H
      obtain ⟨rfl, rfl⟩ := H
      obtain ⟨Ao28, co28, eo28⟩ := Kd.R_slice HO_4.out
      subst eo28
      go_wp2_with (first | ((with_reducible refine gate_callee (f := 17) rfl ?_); refine goesL_ (some 40) rfl rfl Tryd.func17 (by kernel_rfl) rfl #[.slice Ao28 x4_2.length co28] rfl (by (try simp only [List.map_toArray, List.map_cons, List.map_nil]); first | done | rfl | (simp only [List.length_drop, List.length_take]; rfl)) ?_; (with_reducible refine (spec_slList.calls kj2 _ _ x4_2 true _ ?side1 ?side2 A24.out).mono ?_); (case side1 => repeat (first | exact (Kd.R_reads' HO_4.out).2.2 | (with_reducible refine Kd.C_alloc ?_ _) | (with_reducible refine Kd.C_drewN ?_ _) | (with_reducible refine Kd.C_drew ?_))); (case side2 => exact (Kd.R_reads' HO_4.out).2.1); rintro e w29 ⟨rfl, hb⟩; refine ⟨_, rfl, ?_⟩; have n0_ := Aside0.mk (Kd.R_below (by (with_reducible repeat (first | apply Kd.R_alloc | apply Kd.R_drewN | apply Kd.R_drew)); exact HO_4.out) hb); have n1_ := Aside0.mk (below_step (by repeat (first | (with_reducible first | exact HB.out | apply below_alloc | apply pw_below_drewN | apply below_drew1) | exact HB.out)) hb); clear HO_4; clear HB; have HO_4 := n0_; have HB := n1_; clear n0_ n1_; (try clear hb); (try clear hb2); (try clear hk); (try clear hi)) | (go_at_call 18; (with_reducible refine (spec_slText.calls kj2 _ _ x4_2 t145 _ ?side1 ?side2 A26.out).mono ?_); (case side1 => repeat (first | exact (Kd.R_reads' HO_4.out).2.2 | (with_reducible refine Kd.C_alloc ?_ _) | (with_reducible refine Kd.C_drewN ?_ _) | (with_reducible refine Kd.C_drew ?_))); (case side2 => exact (Kd.R_reads' HO_4.out).2.1); rintro e w30 ⟨rfl, hb⟩; have n0_ := Aside0.mk (Kd.R_below (by (with_reducible repeat (first | apply Kd.R_alloc | apply Kd.R_drewN | apply Kd.R_drew)); exact HO_4.out) hb); have n1_ := Aside0.mk (below_step (by repeat (first | (with_reducible first | exact HB.out | apply below_alloc | apply pw_below_drewN | apply below_drew1) | exact HB.out)) hb); clear HO_4; clear HB; have HO_4 := n0_; have HB := n1_; clear n0_ n1_; (try clear hb); (try clear hb2); (try clear hk); (try clear hi)))
      go_ret2
      exact ⟨_, by first | rfl | (simp [errW_none, errW_some] <;> rfl) | (simp [*, errW_none, errW_some] <;> rfl), by (with_reducible repeat (first | apply Kd.R_alloc | apply Kd.R_drewN | apply Kd.R_drew)); exact HO_4.out, by repeat (first | (with_reducible first | exact HB.out | apply below_alloc | apply pw_below_drewN | apply below_drew1) | exact HB.out)⟩
     ·rw [if_neg c27] at H
      have c27b0 : (t145.toList == a0.toList) = false := beq_eq_false_iff_ne.mpr c27
      have c27b1 : (t145.toList != a0.toList) = true := bne_iff_ne.mpr c27
      simp only [Option.some.injEq, Prod.mk.injEq] at H
      obtain ⟨rfl, rfl⟩ := H
      obtain ⟨Ao31, co31, eo31⟩ := Kd.R_slice HO_4.out
      subst eo31
      go_wp2_with (first | ((with_reducible refine gate_callee (f := 17) rfl ?_); refine goesL_ (some 40) rfl rfl Tryd.func17 (by kernel_rfl) rfl #[.slice Ao31 x4_2.length co31] rfl (by (try simp only [List.map_toArray, List.map_cons, List.map_nil]); first | done | rfl | (simp only [List.length_drop, List.length_take]; rfl)) ?_; (with_reducible refine (spec_slList.calls kj2 _ _ x4_2 true _ ?side1 ?side2 A24.out).mono ?_); (case side1 => repeat (first | exact (Kd.R_reads' HO_4.out).2.2 | (with_reducible refine Kd.C_alloc ?_ _) | (with_reducible refine Kd.C_drewN ?_ _) | (with_reducible refine Kd.C_drew ?_))); (case side2 => exact (Kd.R_reads' HO_4.out).2.1); rintro e w32 ⟨rfl, hb⟩; refine ⟨_, rfl, ?_⟩; have n0_ := Aside0.mk (Kd.R_below (by (with_reducible repeat (first | apply Kd.R_alloc | apply Kd.R_drewN | apply Kd.R_drew)); exact HO_4.out) hb); have n1_ := Aside0.mk (below_step (by repeat (first | (with_reducible first | exact HB.out | apply below_alloc | apply pw_below_drewN | apply below_drew1) | exact HB.out)) hb); clear HO_4; clear HB; have HO_4 := n0_; have HB := n1_; clear n0_ n1_; (try clear hb); (try clear hb2); (try clear hk); (try clear hi)) | (go_at_call 18; (with_reducible refine (spec_slText.calls kj2 _ _ x4_2 t145 _ ?side1 ?side2 A26.out).mono ?_); (case side1 => repeat (first | exact (Kd.R_reads' HO_4.out).2.2 | (with_reducible refine Kd.C_alloc ?_ _) | (with_reducible refine Kd.C_drewN ?_ _) | (with_reducible refine Kd.C_drew ?_))); (case side2 => exact (Kd.R_reads' HO_4.out).2.1); rintro e w33 ⟨rfl, hb⟩; have n0_ := Aside0.mk (Kd.R_below (by (with_reducible repeat (first | apply Kd.R_alloc | apply Kd.R_drewN | apply Kd.R_drew)); exact HO_4.out) hb); have n1_ := Aside0.mk (below_step (by repeat (first | (with_reducible first | exact HB.out | apply below_alloc | apply pw_below_drewN | apply below_drew1) | exact HB.out)) hb); clear HO_4; clear HB; have HO_4 := n0_; have HB := n1_; clear n0_ n1_; (try clear hb); (try clear hb2); (try clear hk); (try clear hi)))
      go_ret2
      exact ⟨_, by first | rfl | (simp [errW_none, errW_some] <;> rfl) | (simp [*, errW_none, errW_some] <;> rfl), by first | exact Kd.R_nil _ _ _ _ _ | exact Kd.N_nil _ _ _ _ _ | exact Kd.V_nil _ _ _ _ _ | exact Kd.Q_nil _ _ _ _ _ | exact Kd.S_nil _ _ _ _ _, by repeat (first | (with_reducible first | exact HB.out | apply below_alloc | apply pw_below_drewN | apply below_drew1) | exact HB.out)⟩
    ·replace c25 := Bool.eq_false_iff.mpr c25
     subst c25
     have H1 : (some (([] : List (S40)), false)) = some (r1, r2) := by rw [if_neg (show ¬ (false = true) by decide)] at H; exact H
     clear H
     have H := H1
     clear H1
     simp only [Option.some.injEq, Prod.mk.injEq] at H
     obtain ⟨rfl, rfl⟩ := H
     obtain ⟨Ao34, co34, eo34⟩ := Kd.R_slice HO_4.out
     subst eo34
     go_wp2_with (first | ((with_reducible refine gate_callee (f := 17) rfl ?_); refine goesL_ (some 40) rfl rfl Tryd.func17 (by kernel_rfl) rfl #[.slice Ao34 x4_2.length co34] rfl (by (try simp only [List.map_toArray, List.map_cons, List.map_nil]); first | done | rfl | (simp only [List.length_drop, List.length_take]; rfl)) ?_; (with_reducible refine (spec_slList.calls kj2 _ _ x4_2 false _ ?side1 ?side2 A24.out).mono ?_); (case side1 => repeat (first | exact (Kd.R_reads' HO_4.out).2.2 | (with_reducible refine Kd.C_alloc ?_ _) | (with_reducible refine Kd.C_drewN ?_ _) | (with_reducible refine Kd.C_drew ?_))); (case side2 => exact (Kd.R_reads' HO_4.out).2.1); rintro e w35 ⟨rfl, hb⟩; refine ⟨_, rfl, ?_⟩; have n0_ := Aside0.mk (Kd.R_below (by (with_reducible repeat (first | apply Kd.R_alloc | apply Kd.R_drewN | apply Kd.R_drew)); exact HO_4.out) hb); have n1_ := Aside0.mk (below_step (by repeat (first | (with_reducible first | exact HB.out | apply below_alloc | apply pw_below_drewN | apply below_drew1) | exact HB.out)) hb); clear HO_4; clear HB; have HO_4 := n0_; have HB := n1_; clear n0_ n1_; (try clear hb); (try clear hb2); (try clear hk); (try clear hi)))
     go_ret2
     exact ⟨_, by first | rfl | (simp [errW_none, errW_some] <;> rfl) | (simp [*, errW_none, errW_some] <;> rfl), by first | exact Kd.R_nil _ _ _ _ _ | exact Kd.N_nil _ _ _ _ _ | exact Kd.V_nil _ _ _ _ _ | exact Kd.Q_nil _ _ _ _ _ | exact Kd.S_nil _ _ _ _ _, by repeat (first | (with_reducible first | exact HB.out | apply below_alloc | apply pw_below_drewN | apply below_drew1) | exact HB.out)⟩

/-! ### impl_Split_56: function 56 -/
set_option maxHeartbeats 8000000 in
set_option maxRecDepth 100000 in
/-- slices.IndexFunc at []Split, for every predicate that leaves alone what lay below a base. -/
theorem slices_IndexFunc_Split.calls (g : Nat) (lb : Array Value) (p : S40 → Option Bool) (A0 : Option Addr) (c0 : Nat) (l0 : List S40) (r : Int) (n0 : Nat) (w0 w : World) (hb0 : Below n0 w0 w) (hn0 : n0 ≤ w.heap.size) (hr0 : Kd.C k40 w A0 l0.length l0) (hm0 : l0.length ≤ 9223372036854775807) (eg : ∀ args w, (callFunc g args).run Tryd.prog w = .ok (.enter g args) w)
  (hp : ∀ (x : S40) (b : Bool) (W : World), p x = some b → Below n0 w0 W → Calls Tryd.prog g (#[.agg #[.int .i64 x.f0, .int .i64 x.f1]] ++ lb) W fun e W' => e = .returned (.bool b) ∧ Below W.heap.size W W') (h : idxO p l0 0 = some r) :
  Calls Tryd.prog 56 #[.slice A0 l0.length c0, .func (.func g) #[] lb] w fun e w' => e = .returned (.int .i64 r) ∧ Below w.heap.size w w' := by
 have HR0 := Aside0.mk hr0
 have HP := Aside0.mk hp
 have HB0 := Aside0.mk hb0
 clear hr0 hp hb0
 have HB := Aside0.mk (Below.refl w.heap.size w)
 have HH := Aside0.mk h
 clear h
 go_enter Tryd.func56, Tryd.ntmps56
 go_wp2
 go_loopg [8] l0.length (fun gk v8 w' => ∃ x8 : Int, v8 = .int .i64 x8 ∧ Aside0 (0 ≤ x8 ∧ x8 ≤ l0.length) ∧ Aside0 (l0.length - x8.toNat ≤ gk) ∧ Aside0 (idxO p (l0.drop x8.toNat) x8 = some r) ∧ Aside0 (Below w.heap.size w w'))
 case atStart => exact ⟨0, rfl, ⟨by omega, by omega⟩, ⟨by omega⟩, ⟨by simpa using HH.out⟩, HB⟩
 case round =>
  clear HH HB
  obtain ⟨x8, rfl, HK, HG, HA, HB⟩ := hrel
  by_cases hlt : x8 < (l0.length : Int)
  ·have c4b0 : decide (x8 < (l0.length : Int)) = true := decide_eq_true hlt
   have H := HA.out
   have hk := HK.out
   clear HA
   have hl : x8.toNat < l0.length := by omega
   rw [idxO_drop p l0 x8.toNat hl] at H
   replace H := Option.bind_eq_some_iff.mp H
   obtain ⟨b, hb, H⟩ := H
   have e_ : l0[x8.toNat] = rd_T40 l0 x8 := by
    unfold rd_T40
    simp [hl]
   rw [e_] at hb
   have HPB := Aside0.mk hb
   have HW := Aside0.mk (show wrap64 (x8 + 1) = x8 + 1 by unfold wrap64; omega)
   have p110 : 0 ≤ x8 := hk.1
   obtain ⟨ad110, e110, hx110_0, hx110_1⟩ := at_T40 (Kd.C_below HR0.out HB.out) x8 p110 hlt
   cases e110
   have q110 := eq_true hlt
   replace p110 := eq_true p110
   have HBW := Aside0.mk (HB0.out.trans (HB.out.mono hn0))
   clear hlt hk hl e_
   cases b with
   | true =>
    have HE := Aside0.mk (show x8 = r by simpa using H)
    clear H hb
    go_wp2_with ((with_reducible refine (HP.out _ true _ HPB.out HBW.out).mono ?_); rintro e w' ⟨rfl, hbel⟩; have HB2 := Aside0.mk (below_step HB.out hbel); clear hbel)
    go_ret
    exact ⟨by rw [HE.out]; rfl, HB2.out⟩
   | false =>
    have HE := Aside0.mk (show idxO p (l0.drop (x8.toNat + 1)) (x8 + 1) = some r by simpa using H)
    clear H hb
    go_wp2_with ((with_reducible refine (HP.out _ false _ HPB.out HBW.out).mono ?_); rintro e w' ⟨rfl, hbel⟩; have HB2 := Aside0.mk (below_step HB.out hbel); clear hbel)
    go_roundg (l0.length - (x8.toNat + 1))
    case measure => have := HG.out; have := HK.out; have := of_eq_true q110; omega
    case rel => exact ⟨x8 + 1, by rw [HW.out], ⟨by have := HK.out; have := of_eq_true q110; omega⟩, ⟨by have := HK.out; omega⟩, ⟨by have := HK.out; rw [show (x8 + 1).toNat = x8.toNat + 1 by omega]; exact HE.out⟩, HB2⟩
  ·have c4b0 : decide (x8 < (l0.length : Int)) = false := decide_eq_false hlt
   have H := HA.out
   have hk := HK.out
   clear HA
   rw [List.drop_of_length_le (by omega)] at H
   have HE := Aside0.mk (show -1 = r by simpa [idxO] using H)
   clear H hk hlt
   go_wp2
   go_ret
   exact ⟨by rw [← HE.out]; rfl, HB.out⟩

/-! ### impl_Split_36: function 36 -/
set_option maxHeartbeats 8000000 in
set_option maxRecDepth 100000 in
/-- slices.ContainsFunc at []Split, for every predicate that leaves alone what lay below a base. -/
theorem slices_ContainsFunc_Split.calls (g : Nat) (lb : Array Value) (p : S40 → Option Bool) (A0 : Option Addr) (c0 : Nat) (l0 : List S40) (r : Bool) (n0 : Nat) (w0 w : World) (hb0 : Below n0 w0 w) (hn0 : n0 ≤ w.heap.size) (hr0 : Kd.C k40 w A0 l0.length l0) (hm0 : l0.length ≤ 9223372036854775807) (eg : ∀ args w, (callFunc g args).run Tryd.prog w = .ok (.enter g args) w)
  (hp : ∀ (x : S40) (b : Bool) (W : World), p x = some b → Below n0 w0 W → Calls Tryd.prog g (#[.agg #[.int .i64 x.f0, .int .i64 x.f1]] ++ lb) W fun e W' => e = .returned (.bool b) ∧ Below W.heap.size W W') (h : anyO p l0 = some r) :
  Calls Tryd.prog 36 #[.slice A0 l0.length c0, .func (.func g) #[] lb] w fun e w' => e = .returned (.bool r) ∧ Below w.heap.size w w' := by
 obtain ⟨i, hi, hd⟩ := idxO_of_anyO p l0 0 r (Int.le_refl 0) h
 have HI := Aside0.mk hi
 have HD := Aside0.mk hd
 have HR0 := Aside0.mk hr0
 have HP := Aside0.mk hp
 have HB0 := Aside0.mk hb0
 clear hr0 hp h hi hd hb0
 go_enter Tryd.func36, Tryd.ntmps36
 go_wp2_with (go_at_call 56; refine (slices_IndexFunc_Split.calls g lb p _ _ l0 i n0 w0 _ HB0.out hn0 HR0.out hm0 eg HP.out HI.out).mono ?_; rintro e w' ⟨rfl, hbel⟩; have HB2 := Aside0.mk hbel; clear hbel)
 go_ret
 exact ⟨by rw [← HD.out]; rfl, HB2.out⟩

/-! ### impl_within: function 38 -/
def impl_within.f (a0 : Int) (a1 : Int) (a2 : Int) : Option (Bool) := if a0 ≥ a1 then (some (decide (a0 ≤ a2))) else (some false)
set_option maxHeartbeats 8000000 in
set_option maxRecDepth 100000 in
theorem impl_within.calls (a0 : Int) (a1 : Int) (a2 : Int) (r : Bool) (w : World) (h : impl_within.f a0 a1 a2 = some r) :
  Calls Tryd.prog 38 #[.int .i64 a0, .int .i64 a1, .int .i64 a2] w fun e w' => e = .returned (.bool r) ∧ Drawn0 w w' := by
 have H : (if a0 ≥ a1 then (some (decide (a0 ≤ a2))) else (some false)) = some r := h
 clear h
 by_cases c4 : a0 ≥ a1
 ·rw [if_pos c4] at H
  have c4b0 : decide (a1 ≤ a0) = true := decide_eq_true c4
  clear c4
  obtain rfl := Option.some.inj H
  go_enter Tryd.func38, Tryd.ntmps38
  go_wp2
  go_ret
  exact ⟨by first | rfl | (simp; done) | (simp [*]; done), by repeat (first | exact Drawn0.refl _ | apply Drawn0.step)⟩
 ·rw [if_neg c4] at H
  have c4b0 : decide (a1 ≤ a0) = false := decide_eq_false c4
  clear c4
  obtain rfl := Option.some.inj H
  go_enter Tryd.func38, Tryd.ntmps38
  go_wp2
  go_ret
  exact ⟨by first | rfl | (simp; done) | (simp [*]; done), by repeat (first | exact Drawn0.refl _ | apply Drawn0.step)⟩

/-! ### impl_areSplits: function 20 -/
def impl_areSplits_1.f (x : S40) : Option Bool := (impl_within.f x.f0 0 99).bind fun b => if b = true then ((impl_within.f x.f1 1 60).bind fun c => some (!c)) else some true
set_option maxHeartbeats 8000000 in
set_option maxRecDepth 100000 in
theorem impl_areSplits_1.calls (x : S40) (b : Bool) (w : World) (hf : impl_areSplits_1.f x = some b) :
  Calls Tryd.prog 37 (#[.agg #[.int .i64 x.f0, .int .i64 x.f1]] ++ #[]) w fun e w' => e = .returned (.bool b) ∧ Below w.heap.size w w' := by
 obtain ⟨c, hc, hf⟩ := Option.bind_eq_some_iff.mp hf
 have HC := Aside0.mk hc
 clear hc
 have HBa := Aside0.mk (below_alloc (Below.refl w.heap.size w) (.cells #[.int .i64 x.f0, .int .i64 x.f1] 40))
 show Calls Tryd.prog 37 #[.agg #[.int .i64 x.f0, .int .i64 x.f1]] w _
 cases c with
 | true =>
  simp only [if_true] at hf
  obtain ⟨d, hd, hf⟩ := Option.bind_eq_some_iff.mp hf
  have HD := Aside0.mk hd
  obtain rfl := Option.some.inj hf
  clear hd hf
  go_enter Tryd.func37, Tryd.ntmps37
  go_wp2_with (go_at_call 38; first | ((with_reducible refine (impl_within.calls x.f0 0 99 true _ HC.out).mono ?_); rintro e w' ⟨rfl, ⟨nd, rfl⟩⟩) | ((with_reducible refine (impl_within.calls x.f1 1 60 d _ HD.out).mono ?_); rintro e w' ⟨rfl, ⟨nd2, rfl⟩⟩))
  go_ret
  exact ⟨rfl, by repeat (first | exact HBa.out | apply pw_below_drewN)⟩
 | false =>
  simp only [Bool.false_eq_true, if_false] at hf
  obtain rfl := Option.some.inj hf
  clear hf
  go_enter Tryd.func37, Tryd.ntmps37
  go_wp2_with (go_at_call 38; ((with_reducible refine (impl_within.calls x.f0 0 99 false _ HC.out).mono ?_); rintro e w' ⟨rfl, ⟨nd, rfl⟩⟩))
  go_ret
  exact ⟨rfl, by repeat (first | exact HBa.out | apply pw_below_drewN)⟩
def impl_areSplits.f (l : List S40) : Option Bool := if (l.length : Int) ≤ 60 then ((anyO impl_areSplits_1.f l).bind fun b => some (!b)) else some false
set_option maxHeartbeats 8000000 in
set_option maxRecDepth 100000 in
theorem impl_areSplits.calls (A0 : Option Addr) (c0 : Nat) (l0 : List S40) (r : Bool) (w : World) (hr0 : Kd.C k40 w A0 l0.length l0) (hc0 : l0.length ≤ c0) (h : impl_areSplits.f l0 = some r) :
  Calls Tryd.prog 20 #[.slice A0 l0.length c0] w fun e w' => e = .returned (.bool r) ∧ Below w.heap.size w w' := by
 have HR0 := Aside0.mk hr0
 have hl0 : l0.length ≤ 9223372036854775807 := HR0.out.2.1
 unfold impl_areSplits.f at h
 clear hr0
 go_enter Tryd.func20, Tryd.ntmps20
 by_cases c6 : (l0.length : Int) ≤ 60
 ·rw [if_pos c6] at h
  have c6b : decide ((l0.length : Int) ≤ 60) = true := decide_eq_true c6
  obtain ⟨c, hc, h⟩ := Option.bind_eq_some_iff.mp h
  obtain rfl := Option.some.inj h
  have HC := Aside0.mk hc
  clear hc h
  go_wp2_with (go_at_call 36; go_loud (refine (slices_ContainsFunc_Split.calls 37 #[] impl_areSplits_1.f _ _ l0 c _ _ _ (Below.refl _ _) (Nat.le_refl _) HR0.out hl0 (enters_body Tryd.func37 rfl rfl) ?hp HC.out).mono ?_; (case hp => exact fun x b W hx _ => impl_areSplits_1.calls x b W hx); rintro e w' ⟨rfl, hbel⟩; have HB2 := Aside0.mk hbel; clear hbel))
  go_ret
  exact ⟨rfl, HB2.out⟩
 ·rw [if_neg c6] at h
  have c6b : decide ((l0.length : Int) ≤ 60) = false := decide_eq_false c6
  obtain rfl := Option.some.inj h
  go_wp2
  go_ret
  exact ⟨rfl, Below.refl _ _⟩

/-! ### strings_Split: function 31 -/
def strings_Split.f (s sep : ByteArray) : Option (List ByteArray) := if s.size ≤ 1048576 ∧ 1 ≤ sep.size then some (piecesF s sep) else none
theorem strings_Split.calls (a0 a1 : ByteArray) (r : List ByteArray) (w : World) (h : strings_Split.f a0 a1 = some r) (hM : Mild w := by exact Mild.below hM (by repeat (first | (with_reducible first | exact HB.out | apply below_alloc | apply pw_below_drewN | apply below_drew1) | (refine below_set ?_ (Aside0.out (by assumption))) | exact HB.out))) :
  Calls Tryd.prog 31 #[.string a0, .string a1] w fun e w' => ∃ v0_ : Value, e = .returned (v0_) ∧ Kd.R Kd.string 9 w' w.heap.size (fun _ => True) v0_ r ∧ Below w.heap.size w w' := by
 unfold strings_Split.f at h
 by_cases c : a0.size ≤ 1048576 ∧ 1 ≤ a1.size
 ·rw [if_pos c] at h
  obtain rfl := Option.some.inj h
  exact split_calls a0 a1 c.1 c.2 w hM
 ·rw [if_neg c] at h
  cases h

/-! ### strings_Cut: function 32 -/
def strings_Cut.f (s sep : ByteArray) : Option (ByteArray × ByteArray × Bool) := if s.size ≤ 1048576 then some (cutF s sep) else none
theorem strings_Cut.calls (a0 a1 : ByteArray) (r1 : ByteArray) (r2 : ByteArray) (r3 : Bool) (w : World) (h : strings_Cut.f a0 a1 = some (r1, r2, r3)) (hM : Mild w := by exact Mild.below hM (by repeat (first | (with_reducible first | exact HB.out | apply below_alloc | apply pw_below_drewN | apply below_drew1) | (refine below_set ?_ (Aside0.out (by assumption))) | exact HB.out))) :
  Calls Tryd.prog 32 #[.string a0, .string a1] w fun e w' => e = .returned (.tuple #[.string r1, .string r2, .bool r3]) ∧ Below w.heap.size w w' := by
 unfold strings_Cut.f at h
 by_cases c : a0.size ≤ 1048576
 ·rw [if_pos c] at h
  refine (cut_calls a0 a1 c w hM).mono ?_
  rintro e w' ⟨rfl, hb⟩
  have h := Option.some.inj h
  rw [h]
  exact ⟨rfl, hb⟩
 ·rw [if_neg c] at h
  cases h

/-! ### impl_number: function 33 -/
def impl_number.f (s : ByteArray) : Option Int := if s.size ≤ 1048576 then some (numF s.data.toList) else none
theorem impl_number.calls (a0 : ByteArray) (r : Int) (w : World) (h : impl_number.f a0 = some r) (hM : Mild w := by exact Mild.below hM (by repeat (first | (with_reducible first | exact HB.out | apply below_alloc | apply pw_below_drewN | apply below_drew1) | (refine below_set ?_ (Aside0.out (by assumption))) | exact HB.out))) :
  Calls Tryd.prog 33 #[.string a0] w fun e w' => e = .returned (.int .i64 r) ∧ Below w.heap.size w w' := by
 unfold impl_number.f at h
 by_cases c : a0.size ≤ 1048576
 ·rw [if_pos c] at h
  obtain rfl := Option.some.inj h
  exact number_calls a0 c w hM
 ·rw [if_neg c] at h
  cases h

end Go.Proofs.YtnfofdocnnndnaaDoor.PP
