/- Functions of the program and of the reference as Lean functions, each with a contract over the translated program. Conditions: the hypotheses of each theorem. Written by a program of this session, which drives the print of the kit and adds texts of its own. -/
import Derived.Test.YtnijlmfamdhjmaaPSx0
import Derived.Test.YtnijlmfamdhjmaaPSx9
namespace Go.Proofs.Ytnijlmfamdhjmaa.PS
open Go.RowKit Go.Proofs.YtnijlmfamdhjmaaW.PrintWords Go.Proofs.YtnijlmfamdhjmaaW.PrintLast Go.Proofs.YtnijlmfamdhjmaaW.PrintMore Go.Proofs.YtnijlmfamdhjmaaB
attribute [local go_sem] max2_int min2_int max_two min_two max_three min_three max_four min_four   -- for this text's walks alone
set_option linter.unusedVariables false
set_option linter.unusedSimpArgs false

/-! ### impl_Clue_89: function 89 -/
theorem one_z4 : ∀ u ∈ (Value.agg #[.int .i64 0, .int .i64 0, .int .i64 0, .int .i64 0]).cells.toList, u.oneCell' = true := by
 intro u hu
 simp [Value.cells] at hu
 rw [hu]
 rfl
set_option maxHeartbeats 8000000 in
set_option maxRecDepth 100000 in
/-- slices.Delete at []Clue, of one element, at a row of one's own. -/
theorem slices_Delete_Clue.calls (v0 : Value) (l0 : List S50) (i : Nat) (hi : i < l0.length) (n0 : Nat) (w0 w : World) (hb0 : Below n0 w0 w) (hn0 : n0 ≤ w.heap.size) (hr0 : Kd.R k50 50 w n0 (fun _ => True) v0 l0) (hl : l0.length ≤ 1000000) :
  Calls Try.prog 89 #[v0, .int .i64 (i : Int), .int .i64 ((i + 1 : Nat) : Int)] w fun e w' => ∃ v : Value, e = .returned v ∧ Kd.R k50 50 w' n0 (fun _ => True) v (l0.eraseIdx i) ∧ Below n0 w0 w' := by
 obtain ⟨g0, c0, e0, gb0, gl0, _⟩ := Kd.R_form hr0 (by omega)
 subst e0
 have HR0 := Aside0.mk hr0
 have HB := Aside0.mk hb0
 have hnc := (Kd.R_reads' hr0).2.1
 have p1 : 0 ≤ (i : Int) := by omega
 have p2 : (i : Int) ≤ ((i + 1 : Nat) : Int) := by omega
 have p3 : ((i + 1 : Nat) : Int) ≤ (l0.length : Int) := by omega
 have p4 : (l0.length : Int) ≤ (c0 : Int) := by omega
 have p5 : ((i : Int) == ((i + 1 : Nat) : Int)) = false := beq_eq_false_iff_ne.mpr (by omega)
 have p6 : ((i : Int) == (i : Int) + 1) = false := beq_eq_false_iff_ne.mpr (by omega)
 have p7 : (0 : Int) ≤ (i : Int) + 1 := by omega
 have p8 : ((i : Int) + 1).toNat = i + 1 := by omega
 have p9 : (i : Int) + 1 ≤ (l0.length : Int) := by omega
 have q1 : i ≤ c0 := by omega
 have q2 : (i : Int) ≤ (c0 : Int) := by omega
 have q3 : i + 1 ≤ l0.length := hi
 have q4 : i + 1 ≤ c0 := by omega
 have q5 : (i : Int) + 1 ≤ (c0 : Int) := by omega
 clear hr0 hb0
 go_enter Try.func89, Try.ntmps89
 go_wp2
 refine wp_region_still_tail 6 (by kernel_rfl) (by kernel_rfl) ?_
 simp only [List.take_succ_cons, List.take_zero, List.drop_succ_cons, List.drop_zero]
 change wpStill _ _ (World.drew _) (fun a' => wpList _ _ _ _ a' (World.drew _)) _ _
 repeat still_step
 refine wpStill_nil ?_
 generalize hA25 : (if c0 = i + 1 then some (⟨g0, 0, none⟩ : Addr) else some (⟨g0, (i + 1) * 4, none⟩ : Addr)) = A25
 have HBd := Aside0.mk (below_drew1 HB.out)
 have HRd := Aside0.mk (Kd.R_drew HR0.out)
 go_loud (refine Kd.R_delete k50 (w0 := w0) n0 rfl (.tmp 22) (.tmp 25) 29 50 rfl Try.underlying29 (by rw [show (Try.prog.info? 50).map (·.size) = ((Try.prog.info? 50).map (fun i => (i.zero, i.size, i.bytes))).map (·.2.1) from by rw [Option.map_map]; rfl, info50]; rfl) (n := l0.length) (k := i) rfl rfl ?hA rfl HRd.out hi HBd.out hn0 ?_)
 case hA => rw [← hA25]; simp [show (k50).sz = 4 from rfl, add_at]
 intro w1 hr1 hb1 hg1
 have HR1 := Aside0.mk hr1
 have HB1 := Aside0.mk hb1
 have HS1 := Aside0.mk (show n0 ≤ w1.heap.size from Nat.le_trans hn0 (Nat.le_trans (show w.heap.size ≤ (w.drew).heap.size from Nat.le_refl _) hg1.size))
 have n1 : ((l0.length - 1 : Nat) : Int) ≤ (l0.length : Int) := by omega
 have n2 : l0.length - 1 ≤ l0.length := by omega
 have n3 : ¬ c0 = l0.length - 1 := by omega
 have n4 : l0.length - (l0.length - 1) = 1 := by omega
 have n5 : l0.length ≤ c0 := hnc
 clear hr1 hb1 hg1 hA25
 go_wp2_with (first | ((with_reducible refine gate_ (.call { callee := .builtin .clear, args := #[.tmp 31], argTypes := #[29] }) rfl ?_); go_loud (refine R_wipe (m := l0.length - 1) (g := g0) (c := c0) (q := 1) k50 n0 rfl (.tmp 31) 29 50 (.agg #[.int .i64 0, .int .i64 0, .int .i64 0, .int .i64 0]) rfl Try.underlying29 info50 rfl one_z4 rfl rfl HR1.out (by omega) (by omega) HB1.out HS1.out ?_; intro w2 hr2 hb2 hg2; have HR2 := Aside0.mk hr2; have HB2 := Aside0.mk hb2; clear hr2 hb2 hg2)))
 go_ret
 exact ⟨_, rfl, HR2.out, HB2.out⟩
theorem slices_Delete_Clue.calls' (v0 : Value) (l0 : List S50) (i : Nat) (hi : i < l0.length) (n0 : Nat) (w0 w : World) (hb0 : Below n0 w0 w) (hn0 : n0 ≤ w.heap.size) (hr0 : Kd.R k50 50 w n0 (fun _ => True) v0 l0) (hl : l0.length ≤ 1000000) :
  Calls Try.prog 89 #[v0, .int .i64 (i : Int), .int .i64 ((i : Int) + 1)] w fun e w' => ∃ v : Value, e = .returned v ∧ Kd.R k50 50 w' n0 (fun _ => True) v (l0.eraseIdx i) ∧ Below n0 w0 w' := by
 have h := slices_Delete_Clue.calls v0 l0 i hi n0 w0 w hb0 hn0 hr0 hl
 rwa [show ((i + 1 : Nat) : Int) = (i : Int) + 1 by omega] at h

/-! ### impl_lessOne: function 57 -/
def impl_lessOne.f (l0 : List S50) (a1 : Int) : Option (List S50) := if 0 ≤ a1 ∧ a1 < (l0.length : Int) ∧ l0.length ≤ 1000000 then some (l0.eraseIdx a1.toNat) else none
set_option maxHeartbeats 8000000 in
set_option maxRecDepth 100000 in
theorem impl_lessOne.calls (A0 : Option Addr) (c0 : Nat) (l0 : List S50) (a1 : Int) (r : List S50) (w : World) (hr0 : Kd.C k50 w A0 l0.length l0) (hc0 : l0.length ≤ c0) (h : impl_lessOne.f l0 a1 = some r) :
  Calls Try.prog 57 #[.slice A0 l0.length c0, .int .i64 a1] w fun e w' => ∃ v0_ : Value, e = .returned (v0_) ∧ Kd.R k50 50 w' w.heap.size (fun _ => True) v0_ r ∧ Below w.heap.size w w' := by
 unfold impl_lessOne.f at h
 by_cases c : 0 ≤ a1 ∧ a1 < (l0.length : Int) ∧ l0.length ≤ 1000000
 ·rw [if_pos c] at h
  obtain rfl := Option.some.inj h
  obtain ⟨i, rfl⟩ := Int.eq_ofNat_of_zero_le c.1
  have hi : i < l0.length := by omega
  have hl := c.2.2
  have hw : wrap64 ((i : Int) + 1) = (i : Int) + 1 := by unfold wrap64; omega
  have HR0 := Aside0.mk hr0
  have HW := Aside0.mk hw
  clear h hr0 c
  go_enter Try.func57, Try.ntmps57
  go_wp2_with (first | (go_at_call 56; refine (slices_Clone_Clue.calls _ _ l0 _ HR0.out hc0 (by omega)).mono ?_; rintro e w' ⟨v, rfl, ho, hb⟩; have HO := Aside0.mk ho; have HB := Aside0.mk hb; obtain ⟨Ao, co, eo⟩ := Kd.R_slice ho; subst eo; clear ho hb) | (go_at_call 89; go_loud (refine (slices_Delete_Clue.calls' _ l0 i hi _ _ _ HB.out HB.out.size HO.out hl).mono ?_; rintro e w' ⟨v, rfl, ho, hb⟩; have HO2 := Aside0.mk ho; have HB2 := Aside0.mk hb; obtain ⟨Ao2, co2, eo2⟩ := Kd.R_slice ho; subst eo2; clear ho hb)))
  go_ret
  exact ⟨_, rfl, by simpa using HO2.out, HB2.out⟩
 ·rw [if_neg c] at h
  exact absurd h (by simp)

end Go.Proofs.Ytnijlmfamdhjmaa.PS
