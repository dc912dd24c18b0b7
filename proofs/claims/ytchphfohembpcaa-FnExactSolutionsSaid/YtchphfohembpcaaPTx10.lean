/- Functions of the program and of the reference as Lean functions, each with a contract over the translated program. Conditions: the hypotheses of each theorem. Written by a program of this session, which drives the print of the kit and adds texts of its own. -/
import Derived.Test.YtchphfohembpcaaPTx0
import Derived.Test.YtchphfohembpcaaPTx1
import Derived.Test.YtchphfohembpcaaPTx2
import Derived.Test.YtchphfohembpcaaPTx5
import Derived.Test.YtchphfohembpcaaPTx9
namespace Go.Proofs.Ytchphfohembpcaa.PT
open Go.RowKit Go.Proofs.YtchphfohembpcaaW.PrintWords Go.Proofs.YtchphfohembpcaaW.PrintLast Go.Proofs.YtchphfohembpcaaW.PrintMore Go.Proofs.YtchphfohembpcaaB
attribute [local go_sem] max2_int min2_int max_two min_two max_three min_three max_four min_four   -- for this text's walks alone
set_option linter.unusedVariables false
set_option linter.unusedSimpArgs false

/-! ### laws_FnExactSolutions: function 14 -/
def laws_FnExactSolutions.f (k : Nat) (a0_0 : Int) (l0_1 : List S23) : Option Bool := (laws_szPuzzle.f a0_0 l0_1 1048576).bind fun t => if t < 0 then some true else (laws_toPuzzle.f k a0_0 l0_1).bind fun p => (spec_Solutions.f k p.1 p.2).bind fun v => (impl_Solutions.f k p.1 p.2).bind fun u => if u = v then ((laws_eqIntSS.f k v.1 v.1).bind fun e1 => if e1 = true then ((laws_eqPuzzle.f k p.1 p.2 p.1 p.2).bind fun e2 => if e2 = true then ((laws_markPuzzle.f k p.1 p.2 1).bind fun m1 => if 0 ≤ m1.1 then ((laws_markIntSS.f k v.1 1).bind fun m2 => (laws_heldIntSS.f k m2.2 1).bind fun q => if q = m2.1 ∧ 0 ≤ q then some true else none) else none) else none) else none) else none
theorem drawn_below {w w' : World} (h : Drawn0 w w') : Below w.heap.size w w' := by
  obtain ⟨nd, rfl⟩ := h
  exact pw_below_drewN (Below.refl _ _) nd
theorem if_none {c : Prop} [Decidable c] {α : Type} {x : Option α} {r : α} (h : (if c then x else none) = some r) : c ∧ x = some r := by
  by_cases hc : c
  · rw [if_pos hc] at h; exact ⟨hc, h⟩
  · rw [if_neg hc] at h; cases h
set_option maxHeartbeats 16000000 in
set_option maxRecDepth 100000 in
theorem laws_FnExactSolutions.calls (k : Nat) (a0_0 : Int) (A0_1 : Option Addr) (c0_1 : Nat) (l0_1 : List (S23)) (r : Bool) (w : World) (hr0_1 : Kd.C k23 w A0_1 l0_1.length l0_1) (hc0_1 : l0_1.length ≤ c0_1) (h : laws_FnExactSolutions.f k a0_0 l0_1 = some r) :
    Calls Try.prog 14 #[.agg #[.int .i64 a0_0, .slice A0_1 l0_1.length c0_1]] w fun e w' => e = .returned (.bool r) ∧ Below w.heap.size w w' := by
  have HR0 := Aside0.mk hr0_1
  have HC0 := Aside0.mk hc0_1
  unfold laws_FnExactSolutions.f at h
  obtain ⟨t, hz, h⟩ := Option.bind_eq_some_iff.mp h
  have HZ := Aside0.mk hz
  have HB := Aside0.mk (below_alloc (Below.refl w.heap.size w) (.cells #[.int .i64 a0_0, .slice A0_1 l0_1.length c0_1] 30))
  have BK := Aside0.mk (alloc_new w (.cells #[.int .i64 a0_0, .slice A0_1 l0_1.length c0_1] 30))
  clear hz hr0_1 hc0_1
  by_cases c0 : t < 0
  · rw [if_pos c0] at h
    obtain rfl := Option.some.inj h
    have c0b : decide (t < 0) = true := decide_eq_true c0
    clear c0 h
    go_enter Try.func14, Try.ntmps14
    go_wp2_with (go_at_call 18; go_loud (refine (laws_szPuzzle.calls a0_0 _ _ l0_1 1048576 t _ (Kd.C_below HR0.out HB.out) HC0.out HZ.out).mono ?_; rintro e w2 ⟨rfl, hb⟩; have n0_ := Aside0.mk (below_step HB.out hb); have n1_ := Aside0.mk (blk_below BK.out hb); clear HB BK; have HB := n0_; have BK := n1_; clear n0_ n1_ hb))
    go_ret
    exact ⟨rfl, HB.out⟩
  · rw [if_neg c0] at h
    have c0b : decide (t < 0) = false := decide_eq_false c0
    obtain ⟨⟨p1, p2⟩, hp, h1⟩ := Option.bind_eq_some_iff.mp h
    obtain ⟨⟨v1, v2⟩, hs, h2⟩ := Option.bind_eq_some_iff.mp h1
    obtain ⟨⟨u1, u2⟩, hi, h3⟩ := Option.bind_eq_some_iff.mp h2
    obtain ⟨hu, h4⟩ := if_none h3
    clear h h1 h2 h3
    obtain ⟨h1_, h2_⟩ := Prod.mk.inj hu.symm
    subst h1_
    subst h2_
    obtain ⟨e1, he1, h5⟩ := Option.bind_eq_some_iff.mp h4
    obtain ⟨hx1, h6⟩ := if_none h5
    subst hx1
    obtain ⟨e2, he2, h7⟩ := Option.bind_eq_some_iff.mp h6
    obtain ⟨hx2, h8⟩ := if_none h7
    subst hx2
    obtain ⟨⟨m1, pm⟩, hm1, h9⟩ := Option.bind_eq_some_iff.mp h8
    obtain ⟨hm1n, h10⟩ := if_none h9
    obtain ⟨⟨m2, vm⟩, hm2, h11⟩ := Option.bind_eq_some_iff.mp h10
    obtain ⟨q, hq, h12⟩ := Option.bind_eq_some_iff.mp h11
    obtain ⟨hqq, hr⟩ := if_none h12
    have hq1 : q = m2 := hqq.1
    have hq0 := hqq.2
    clear h4 h5 h6 h7 h8 h9 h10 h11 h12 hqq
    subst hq1
    obtain rfl := Option.some.inj hr
    clear hr
    have HP := Aside0.mk hp
    have HS := Aside0.mk hs
    have HI := Aside0.mk hi
    have HE1 := Aside0.mk he1
    have HE2 := Aside0.mk he2
    have HM1 := Aside0.mk hm1
    have HM2 := Aside0.mk hm2
    have HQ := Aside0.mk hq
    have c1b : decide (m1 < 0) = false := decide_eq_false (by simp only at hm1n; omega)
    have c2b : decide (q < 0) = false := decide_eq_false (by omega)
    clear c0 hp hs hi he1 he2 hm1 hm2 hq hm1n hq0
    go_enter Try.func14, Try.ntmps14
    go_upto_region 5 with (go_at_call 18; go_loud (refine (laws_szPuzzle.calls a0_0 _ _ l0_1 1048576 t _ (Kd.C_below HR0.out HB.out) HC0.out HZ.out).mono ?_; rintro e w2 ⟨rfl, hb⟩; have n0_ := Aside0.mk (below_step HB.out hb); have n1_ := Aside0.mk (blk_below BK.out hb); clear HB BK; have HB := n0_; have BK := n1_; clear n0_ n1_ hb))
    have hcz_0 := (blk_cell BK.out 0).trans rfl
    have hcz_1 := (blk_cell BK.out 1).trans rfl
    go_upto_region 6 with (first | (go_at_call 20; go_loud (refine (laws_toPuzzle.calls k a0_0 _ _ l0_1 p1 p2 _ (Kd.C_below HR0.out HB.out) HC0.out HP.out).mono ?_; rintro e w3 ⟨vt, rfl, ho, hb⟩; have n0_ := Aside0.mk (below_step HB.out hb); have n1_ := Aside0.mk (blk_below BK.out hb); clear HB BK; have HB := n0_; have BK := n1_; clear n0_ n1_; obtain ⟨AT, cT, eT⟩ := Kd.R_slice ho; subst eT; have HT := Aside0.mk ho; clear ho hb)) | (go_at_call 47; go_loud (refine (spec_Solutions.calls k p1 _ _ p2 v1 v2 _ (Kd.R_reads' HT.out).2.2 (Kd.R_reads' HT.out).2.1 HS.out).mono ?_; rintro e w4 ⟨vV, rfl, ho, hb⟩; have HB0 := HB; have n0_ := Aside0.mk (below_step HB.out hb); have n1_ := Aside0.mk (blk_below BK.out hb); clear HB BK; have HB := n0_; have BK := n1_; clear n0_ n1_; have HV := Aside0.mk (Kd.S_mono (Kd.S_bound (Kd.S_lower ho (below_size HB0.out))) (fun q hq => hq.2.2.1)); obtain ⟨AV, cV, eV⟩ := Kd.S_slice ho; subst eV; clear HT HB0 ho hb)))
    have GN1 := Aside0.mk (blk_lt BK.out)
    clear hcz_0 hcz_1
    have hcz_0 := (blk_cell BK.out 0).trans rfl
    have hcz_1 := (blk_cell BK.out 1).trans rfl
    go_upto_region 7 with (first | (go_at_call 20; go_loud (refine (laws_toPuzzle.calls k a0_0 _ _ l0_1 p1 p2 _ (Kd.C_below HR0.out HB.out) HC0.out HP.out).mono ?_; rintro e w5 ⟨vt, rfl, ho, hb⟩; have HB0 := HB; have n0_ := Aside0.mk (below_step HB.out hb); have n1_ := Aside0.mk (blk_below BK.out hb); have n2_ := Aside0.mk (Kd.S_below HV.out hb); clear HB BK HV; have HB := n0_; have BK := n1_; have HV := n2_; clear n0_ n1_ n2_; have HX := Aside0.mk (Kd.R_lower (Kd.R_mono (Kd.R_bound ho) (fun q hq => (⟨hq.2.1, hq.2.2.1⟩ : w4.heap.size ≤ q ∧ q < w5.heap.size))) (below_size HB0.out)); have G45 := Aside0.mk hb.size; obtain ⟨AX, cX, eX⟩ := Kd.R_slice ho; subst eX; clear HB0 ho hb)) | ((with_reducible refine gate_dst (N := 6) rfl ?_); (try (refine gate_guard (by rfl) ?_; dsimp only)); go_loud (refine box_event ?hg (N := 6) ?hd (cs := #[.int .i64 0, .slice none 0 0]) (t := 35) ?hr ?_; (case hd => rfl); (case hg => rfl); (case hr => first | (go_simp; done) | (go_simp; rfl)); intro gx hg w6a hbox hb; have GX := Aside0.mk hg; have BX0 := Aside0.mk hbox; have HQ := Aside0.mk hb; have hcx0 : w6a.cell? ⟨gx, 0, none⟩ = some (.int .i64 0) := (blk_cell BX0.out 0).trans rfl; have hcx1 : w6a.cell? ⟨gx, 1, none⟩ = some (.slice none 0 0) := (blk_cell BX0.out 1).trans rfl; have hfx0 := blk_frozen BX0.out 0; have hfx1 := blk_frozen BX0.out 1; clear hg hbox hb)))
    have BX := Aside0.mk (show ((w6a.setCell ⟨gx, 0, none⟩ (.int .i64 p1)).setCell ⟨gx, 1, none⟩ (.slice AX p2.length cX)).heap[gx]? = some (.cells #[.int .i64 p1, .slice AX p2.length cX] 35 (0, 0)) from blk_put (cs := #[.int .i64 p1, .slice none 0 0]) (blk_put (cs := #[.int .i64 0, .slice none 0 0]) BX0.out 0 _ rfl) 1 _ rfl)
    have hb := below_set (below_set HQ.out (Nat.le_of_eq GX.out.symm) (v := .int .i64 p1) (j := 0)) (Nat.le_of_eq GX.out.symm) (v := .slice AX p2.length cX) (j := 1)
    clear hcz_0 hcz_1 hcx0 hcx1 hfx0 hfx1 BX0 HQ
    generalize hW : (w6a.setCell ⟨gx, 0, none⟩ (.int .i64 p1)).setCell ⟨gx, 1, none⟩ (.slice AX p2.length cX) = w6 at BX hb ⊢
    clear hW
    have n0_ := Aside0.mk (below_step HB.out hb)
    have n1_ := Aside0.mk (blk_below BK.out hb)
    have n2_ := Aside0.mk (Kd.S_below HV.out hb)
    have n3_ := Aside0.mk (Kd.R_below HX.out hb)
    clear HB BK HV HX
    have HB := n0_
    have BK := n1_
    have HV := n2_
    have HX := n3_
    clear n0_ n1_ n2_ n3_
    have G46 := Aside0.mk (Nat.le_trans G45.out hb.size)
    have G6 := Aside0.mk (show w5.heap.size ≤ w6.heap.size from hb.size)
    clear hb
    have hcx0 := (blk_cell BX.out 0).trans rfl
    have hcx1 := (blk_cell BX.out 1).trans rfl
    go_upto_region 8 with (go_at_call 48; go_loud (refine (impl_Solutions.calls k p1 _ _ p2 v1 v2 _ (Kd.R_reads' HX.out).2.2 (Kd.R_reads' HX.out).2.1 HI.out).mono ?_; rintro e w7 ⟨vG, rfl, ho, hb⟩; have HB0 := HB; have n0_ := Aside0.mk (below_step HB.out hb); have n1_ := Aside0.mk (blk_below BK.out hb); have n2_ := Aside0.mk (Kd.S_below HV.out hb); have n3_ := Aside0.mk (Kd.R_below HX.out hb); have n4_ := Aside0.mk (blk_below BX.out hb); clear HB BK HV HX BX; have HB := n0_; have BK := n1_; have HV := n2_; have HX := n3_; have BX := n4_; clear n0_ n1_ n2_ n3_ n4_; have HG := Aside0.mk (Kd.S_lower (Kd.S_mono (Kd.S_bound ho) (fun q hq => (hq.2.1 : w6.heap.size ≤ q))) (below_size HB0.out)); obtain ⟨AG, cG, eG⟩ := Kd.S_slice ho; subst eG; clear HB0 ho hb))
    clear hcx0 hcx1
    have hv2 : (v2 != v2) = false := by simp
    go_upto_region 10 with (go_at_call 49; go_loud (refine (laws_eqIntSS.calls k _ _ v1 _ _ v1 true _ (Kd.S_reads' HG.out).2.2 (Kd.S_reads' HG.out).2.1 (Kd.S_reads' HV.out).2.2 (Kd.S_reads' HV.out).2.1 HE1.out).mono ?_; rintro e w8 ⟨rfl, hd⟩; have hb := drawn_below hd; clear hd; have n0_ := Aside0.mk (below_step HB.out hb); have n1_ := Aside0.mk (blk_below BK.out hb); have n2_ := Aside0.mk (Kd.S_below HV.out hb); have n3_ := Aside0.mk (Kd.R_below HX.out hb); have n4_ := Aside0.mk (blk_below BX.out hb); have n5_ := Aside0.mk (Kd.S_below HG.out hb); clear HB BK HV HX BX HG; have HB := n0_; have BK := n1_; have HV := n2_; have HX := n3_; have BX := n4_; have HG := n5_; clear n0_ n1_ n2_ n3_ n4_ n5_; clear hb))
    try go_wp2
    have n0_ := Aside0.mk (below_drew1 HB.out)
    have n1_ := Aside0.mk (blk_drew BK.out)
    have n2_ := Aside0.mk (Kd.S_drew HV.out)
    have n3_ := Aside0.mk (Kd.R_drew HX.out)
    have n4_ := Aside0.mk (blk_drew BX.out)
    have n5_ := Aside0.mk (Kd.S_drew HG.out)
    clear HB BK HV HX BX HG
    have HB := n0_
    have BK := n1_
    have HV := n2_
    have HX := n3_
    have BX := n4_
    have HG := n5_
    clear n0_ n1_ n2_ n3_ n4_ n5_
    refine start_ (n := 5) (S := fun w' => w'.cell? ⟨gx, 0, none⟩ = some (.int .i64 p1) ∧ w'.cell? ⟨gx, 1, none⟩ = some (.slice AX p2.length cX) ∧ w'.cell? ⟨w.heap.size, 0, none⟩ = some (.int .i64 a0_0) ∧ w'.cell? ⟨w.heap.size, 1, none⟩ = some (.slice A0_1 l0_1.length c0_1)) (ds := []) #[false, false, false, false, false] (by kernel_rfl) rfl rfl ⟨(blk_cell BX.out 0).trans rfl, (blk_cell BX.out 1).trans rfl, (blk_cell BK.out 0).trans rfl, (blk_cell BK.out 1).trans rfl⟩ (fun hHeld => ?_)
    generalize w8.drew = w9 at HB BK HV HX BX HG hHeld ⊢
    refine take_ (i := 0) (N := some 41) (v := ?_) (a' := ?_) #[true, false, false, false, false] rfl rfl (by kernel_rfl) (fun _ _ _ h => h) (Or.inl ⟨by rfl, ?_⟩) hHeld ?_ ?_
    rotate_left
    · rintro w' ⟨s0, s1, s2, s3⟩
      go_simp
      with_reducible rfl
    rotate_left
    · simp only [Act.put, List.setIfInBounds_toArray, List.set_cons_zero, List.set_cons_succ, i64_w, i32_w]
      rfl
    refine take_ (i := 1) (N := some 42) (v := ?_) (a' := ?_) #[true, true, false, false, false] rfl rfl (by kernel_rfl) (fun _ _ _ h => h) (Or.inl ⟨by rfl, ?_⟩) hHeld ?_ ?_
    rotate_left
    · rintro w' ⟨s0, s1, s2, s3⟩
      go_simp
      with_reducible rfl
    rotate_left
    · simp only [Act.put, List.setIfInBounds_toArray, List.set_cons_zero, List.set_cons_succ, i64_w, i32_w]
      rfl
    refine one_ (i := 2) (N := some 43) #[true, true, true, false, false] rfl rfl (by kernel_rfl) (by decide) (fun K hK => ?_)
    refine goes_ Try.func20 (by kernel_rfl) rfl #[.agg #[.int .i64 a0_0, .slice A0_1 l0_1.length c0_1]] (by rfl) rfl rfl (by (try simp only [List.map_toArray, List.map_cons, List.map_nil]); first | done | rfl) ?_
    with_reducible refine (laws_toPuzzle.calls k a0_0 _ _ l0_1 p1 p2 _ (Kd.C_below HR0.out HB.out) HC0.out HP.out).mono ?_
    rintro e w10 ⟨vt, rfl, ho, hb⟩
    refine ⟨_, rfl, ?_⟩
    have n0_ := Aside0.mk (below_step HB.out hb)
    have n1_ := Aside0.mk (blk_below BK.out hb)
    have n2_ := Aside0.mk (Kd.S_below HV.out hb)
    have n3_ := Aside0.mk (Kd.R_below HX.out hb)
    have n4_ := Aside0.mk (blk_below BX.out hb)
    have n5_ := Aside0.mk (Kd.S_below HG.out hb)
    clear HB BK HV HX BX HG
    have HB := n0_
    have BK := n1_
    have HV := n2_
    have HX := n3_
    have BX := n4_
    have HG := n5_
    clear n0_ n1_ n2_ n3_ n4_ n5_
    obtain ⟨AT, cT, eT⟩ := Kd.R_slice ho
    subst eT
    have HT := Aside0.mk ho
    clear ho hb
    refine hK.out _ _ ⟨(blk_cell BX.out 0).trans rfl, (blk_cell BX.out 1).trans rfl, (blk_cell BK.out 0).trans rfl, (blk_cell BK.out 1).trans rfl⟩ (fun hHeld => ?_)
    clear hK K
    refine norm_ (a' := ?_) ?_ ?_
    rotate_left
    · show Act.put _ (some 43) _ = _
      simp only [Act.put, List.setIfInBounds_toArray, List.set_cons_zero, List.set_cons_succ, i64_w, i32_w]
      rfl
    refine one_ (i := 3) (N := some 44) #[true, true, true, true, false] rfl rfl (by kernel_rfl) (by decide) (fun K hK => ?_)
    refine goes_ Try.func22 (by kernel_rfl) rfl #[.agg #[.int .i64 p1, .slice AX p2.length cX], .agg #[.int .i64 p1, .slice AT p2.length cT]] (by rfl) rfl rfl (by (try simp only [List.map_toArray, List.map_cons, List.map_nil]); first | done | rfl) ?_
    with_reducible refine (laws_eqPuzzle.calls k p1 _ _ p2 p1 _ _ p2 true _ (Kd.R_reads' HX.out).2.2 (Kd.R_reads' HX.out).2.1 (Kd.R_reads' HT.out).2.2 (Kd.R_reads' HT.out).2.1 HE2.out).mono ?_
    rintro e w11 ⟨rfl, hb⟩
    refine ⟨_, rfl, ?_⟩
    have n0_ := Aside0.mk (below_step HB.out hb)
    have n1_ := Aside0.mk (blk_below BK.out hb)
    have n2_ := Aside0.mk (Kd.S_below HV.out hb)
    have n3_ := Aside0.mk (Kd.R_below HX.out hb)
    have n4_ := Aside0.mk (blk_below BX.out hb)
    have n5_ := Aside0.mk (Kd.S_below HG.out hb)
    clear HB BK HV HX BX HG
    have HB := n0_
    have BK := n1_
    have HV := n2_
    have HX := n3_
    have BX := n4_
    have HG := n5_
    clear n0_ n1_ n2_ n3_ n4_ n5_
    clear hb HT
    refine hK.out _ _ ⟨(blk_cell BX.out 0).trans rfl, (blk_cell BX.out 1).trans rfl, (blk_cell BK.out 0).trans rfl, (blk_cell BK.out 1).trans rfl⟩ (fun hHeld => ?_)
    clear hK K
    refine norm_ (a' := ?_) ?_ ?_
    rotate_left
    · show Act.put _ (some 44) _ = _
      simp only [Act.put, List.setIfInBounds_toArray, List.set_cons_zero, List.set_cons_succ, i64_w, i32_w]
      rfl
    refine pure_ (i := 4) (N := some 45) (v := ?_) (a' := ?_) #[true, true, true, true, true] rfl rfl (by kernel_rfl) (fun _ _ _ h => h) (Or.inl ⟨by rfl, ?_⟩) ?_ ?_
    rotate_left
    · intro w'
      go_simp
      with_reducible rfl
    rotate_left
    · simp only [Act.put, List.setIfInBounds_toArray, List.set_cons_zero, List.set_cons_succ, i64_w, i32_w]
      rfl
    refine done_ (by kernel_rfl) ?_
    have hcx0 := (blk_cell BX.out 0).trans rfl
    have hcx1 := (blk_cell BX.out 1).trans rfl
    clear hHeld
    have HCM := laws_markPuzzle.calls k p1 (fun q => w4.heap.size ≤ q ∧ q < w5.heap.size) (.slice AX p2.length cX) p2 1 m1 pm w w11 HB.out HX.out HM1.out
    have HCM1 := Aside0.mk HCM
    clear HCM
    go_upto_region 14 with (go_at_call 25; go_loud (refine HCM1.out.mono ?_; rintro e w12 ⟨rfl, _, hb, hkp⟩; clear HX BX; have n0_ := Aside0.mk (hb); have n1_ := Aside0.mk (Kd.S_kept HV.out hkp (fun q hq hp => by have := hp.1; have hq : q < w4.heap.size := hq; omega)); have n2_ := Aside0.mk (Kd.S_kept HG.out hkp (fun q hq hp => by have := hp.2; have := G6.out; have hq : w6.heap.size ≤ q := hq; omega)); have n3_ := Aside0.mk (blk_kept BK.out hkp (fun hp => by have := hp.1; have := GN1.out; omega)); clear HB HV HG BK; have HB := n0_; have HV := n1_; have HG := n2_; have BK := n3_; clear n0_ n1_ n2_ n3_; clear hb hkp))
    clear hcx0 hcx1 HCM1
    go_upto_region 17 with (go_at_call 49; go_loud (refine (laws_eqIntSS.calls k _ _ v1 _ _ v1 true _ (Kd.S_reads' HG.out).2.2 (Kd.S_reads' HG.out).2.1 (Kd.S_reads' HV.out).2.2 (Kd.S_reads' HV.out).2.1 HE1.out).mono ?_; rintro e w13 ⟨rfl, hd⟩; have hb := drawn_below hd; clear hd; have n0_ := Aside0.mk (below_step HB.out hb); have n1_ := Aside0.mk (blk_below BK.out hb); have n2_ := Aside0.mk (Kd.S_below HV.out hb); have n3_ := Aside0.mk (Kd.S_below HG.out hb); clear HB BK HV HG; have HB := n0_; have BK := n1_; have HV := n2_; have HG := n3_; clear n0_ n1_ n2_ n3_; clear hb))
    have HCM := laws_markIntSS.calls k (fun q => w6.heap.size ≤ q) AG v1.length cG v1 1 q vm w w13 HB.out HG.out HM2.out
    have HCM1 := Aside0.mk HCM
    clear HCM
    go_upto_region 19 with (go_at_call 50; go_loud (refine HCM1.out.mono ?_; rintro e w14 ⟨rfl, hg, hb, hkp⟩; clear HG; have HG := Aside0.mk hg; have n0_ := Aside0.mk (hb); have n1_ := Aside0.mk (Kd.S_kept HV.out hkp (fun q hq hp => by have := G46.out; have hq : q < w4.heap.size := hq; have hp : w6.heap.size ≤ q := hp; omega)); have n2_ := Aside0.mk (blk_kept BK.out hkp (fun hp => by have := GN1.out; have := G46.out; have hp : w6.heap.size ≤ w.heap.size := hp; omega)); clear HB HV BK; have HB := n0_; have HV := n1_; have BK := n2_; clear n0_ n1_ n2_; clear hg hb hkp))
    clear HCM1
    have HCH := laws_heldIntSS.calls k AG cG vm 1 q w14 (Kd.S_reads' HG.out).2.2 (by rw [← (Kd.S_reads' HG.out).1]; exact (Kd.S_reads' HG.out).2.1) HQ.out
    rw [← (Kd.S_reads' HG.out).1] at HCH
    have HCH1 := Aside0.mk HCH
    clear HCH
    have hqq : (q != q) = false := by simp
    go_upto_region 24 with (go_at_call 51; go_loud (refine HCH1.out.mono ?_; rintro e w15 ⟨rfl, hd⟩; have hb := drawn_below hd; clear hd; have n0_ := Aside0.mk (below_step HB.out hb); have n1_ := Aside0.mk (blk_below BK.out hb); have n2_ := Aside0.mk (Kd.S_below HV.out hb); have n3_ := Aside0.mk (Kd.S_below HG.out hb); clear HB BK HV HG; have HB := n0_; have BK := n1_; have HV := n2_; have HG := n3_; clear n0_ n1_ n2_ n3_; clear hb))
    clear HCH1
    have hcz_0 := (blk_cell BK.out 0).trans rfl
    have hcz_1 := (blk_cell BK.out 1).trans rfl
    go_upto_region 25 with (first | (go_at_call 20; go_loud (refine (laws_toPuzzle.calls k a0_0 _ _ l0_1 p1 p2 _ (Kd.C_below HR0.out HB.out) HC0.out HP.out).mono ?_; rintro e w16 ⟨vt, rfl, ho, hb⟩; have n0_ := Aside0.mk (below_step HB.out hb); have n1_ := Aside0.mk (blk_below BK.out hb); have n2_ := Aside0.mk (Kd.S_below HV.out hb); have n3_ := Aside0.mk (Kd.S_below HG.out hb); clear HB BK HV HG; have HB := n0_; have BK := n1_; have HV := n2_; have HG := n3_; clear n0_ n1_ n2_ n3_; obtain ⟨AT, cT, eT⟩ := Kd.R_slice ho; subst eT; have HT := Aside0.mk ho; clear ho hb)) | (go_at_call 48; go_loud (refine (impl_Solutions.calls k p1 _ _ p2 v1 v2 _ (Kd.R_reads' HT.out).2.2 (Kd.R_reads' HT.out).2.1 HI.out).mono ?_; rintro e w17 ⟨vH, rfl, ho, hb⟩; have n0_ := Aside0.mk (below_step HB.out hb); have n1_ := Aside0.mk (blk_below BK.out hb); have n2_ := Aside0.mk (Kd.S_below HV.out hb); have n3_ := Aside0.mk (Kd.S_below HG.out hb); clear HB BK HV HG; have HB := n0_; have BK := n1_; have HV := n2_; have HG := n3_; clear n0_ n1_ n2_ n3_; have HH := Aside0.mk ho; obtain ⟨AH, cH, eH⟩ := Kd.S_slice ho; subst eH; clear HT ho hb)))
    clear hcz_0 hcz_1
    go_upto_region 27 with (go_at_call 49; go_loud (refine (laws_eqIntSS.calls k _ _ v1 _ _ v1 true _ (Kd.S_reads' HH.out).2.2 (Kd.S_reads' HH.out).2.1 (Kd.S_reads' HV.out).2.2 (Kd.S_reads' HV.out).2.1 HE1.out).mono ?_; rintro e w18 ⟨rfl, hd⟩; have hb := drawn_below hd; clear hd; have n0_ := Aside0.mk (below_step HB.out hb); have n1_ := Aside0.mk (blk_below BK.out hb); have n2_ := Aside0.mk (Kd.S_below HV.out hb); have n3_ := Aside0.mk (Kd.S_below HG.out hb); clear HB BK HV HG; have HB := n0_; have BK := n1_; have HV := n2_; have HG := n3_; clear n0_ n1_ n2_ n3_; clear hb))
    clear HH HV
    have HCH := laws_heldIntSS.calls k AG cG vm 1 q w18 (Kd.S_reads' HG.out).2.2 (by rw [← (Kd.S_reads' HG.out).1]; exact (Kd.S_reads' HG.out).2.1) HQ.out
    rw [← (Kd.S_reads' HG.out).1] at HCH
    have HCH1 := Aside0.mk HCH
    clear HCH
    go_wp2_with (go_at_call 51; go_loud (refine HCH1.out.mono ?_; rintro e w19 ⟨rfl, hd⟩; have hb := drawn_below hd; clear hd; have n0_ := Aside0.mk (below_step HB.out hb); have n1_ := Aside0.mk (blk_below BK.out hb); have n2_ := Aside0.mk (Kd.S_below HG.out hb); clear HB BK HG; have HB := n0_; have BK := n1_; have HG := n2_; clear n0_ n1_ n2_; clear hb))
    go_ret
    exact ⟨rfl, HB.out⟩

/-- The one pure statement of laws_FnExactSolutions. -/
def laws_FnExactSolutions.Pure : Prop := ∀ (a0_0 : Int) (l0_1 : List (S23)), ((Lit.int .i64 a0_0).wf = true ∧ (l0_1.length ≤ maxLen ∧ ∀ z0 ∈ l0_1, ((Lit.int .i64 z0.f0).wf = true ∧ (Lit.int .i64 z0.f1).wf = true ∧ (Lit.int .i64 z0.f2).wf = true ∧ (Lit.int .i64 z0.f3).wf = true))) → ∃ k, laws_FnExactSolutions.f k a0_0 l0_1 = some true

end Go.Proofs.Ytchphfohembpcaa.PT
