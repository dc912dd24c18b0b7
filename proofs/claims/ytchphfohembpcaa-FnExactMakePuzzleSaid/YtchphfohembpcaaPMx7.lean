/- Functions of the program and of the reference as Lean functions, each with a contract over the translated program. Conditions: the hypotheses of each theorem. Written by a program of this session, which drives the print of the kit and adds texts of its own. -/
import Derived.Test.YtchphfohembpcaaPMx0
import Derived.Test.YtchphfohembpcaaPMx5
import Derived.Test.YtchphfohembpcaaPMx6
namespace Go.Proofs.Ytchphfohembpcaa.PM
open Go.RowKit Go.Proofs.YtchphfohembpcaaW.PrintWords Go.Proofs.YtchphfohembpcaaW.PrintLast Go.Proofs.YtchphfohembpcaaW.PrintMore Go.Proofs.YtchphfohembpcaaB
attribute [local go_sem] max2_int min2_int max_two min_two max_three min_three max_four min_four   -- for this text's walks alone
set_option linter.unusedVariables false
set_option linter.unusedSimpArgs false

/-! ### impl_MakePuzzle: function 34 -/
theorem drawn_belowM {w w' : World} (h : Drawn0 w w') : Below w.heap.size w w' := by
 obtain ⟨nd, rfl⟩ := h
 exact pw_below_drewN (Below.refl _ _) nd
/-- The next number, as the machine reckons. -/
def nxtZ (z : Int) : Int := Int.tmod (wrap64 ((wrap64 (z * 229)) + 1951)) 10007
set_option maxHeartbeats 8000000 in
set_option maxRecDepth 100000 in
theorem impl_MakePuzzle_1.calls (g : Nat) (z : Int) (w : World) (hg : w.heap[g]? = some (.cells #[.int .i64 z] 3 (0, 0))) :
  Calls Try.prog 73 #[.pointer (some ⟨g, 0, none⟩)] w fun e w' => e = .returned (.int .i64 (nxtZ z)) ∧ w' = w.setCell ⟨g, 0, none⟩ (.int .i64 (nxtZ z)) := by
 have HG := Aside0.mk hg
 have hc : w.cell? ⟨g, 0, none⟩ = some (.int .i64 z) := (blk_cell hg 0).trans rfl
 have hf := blk_frozen hg 0
 clear hg
 obtain ⟨y, hy⟩ : ∃ y, y = nxtZ z := ⟨_, rfl⟩
 have hy2 : Int.tmod (wrap64 ((wrap64 (z * 229)) + 1951)) 10007 = y := hy.symm
 rw [← hy]
 clear hy
 go_enter Try.func73, Try.ntmps73
 go_wp2
 try simp only [hy2]
 go_ret
 exact ⟨rfl, rfl⟩
/-- The first heap and the second of which a clue of a kind tells. -/
def clA (n K y : Int) : Int := if K = 1 ∨ K = 4 then Int.tmod y n else if K = 2 then Int.tmod y 6 else 0
def clB (n K y : Int) : Int := if K = 1 ∨ K = 4 then Int.tmod (wrap64 (Int.tmod y n + 1)) n else 0
/-- So many clues more, from a number on. -/
def makeL (k : Nat) (l : List Int) : Nat → Int → List S25 → Option (List S25)
 | 0, _, acc => some acc
 | d + 1, z, acc => (impl_told.f k (Int.tmod (nxtZ z) 6) (clA (l.length : Int) (Int.tmod (nxtZ z) 6) (nxtZ (nxtZ z))) (clB (l.length : Int) (Int.tmod (nxtZ z) 6) (nxtZ (nxtZ z))) 0 l).bind fun t => makeL k l d (nxtZ (nxtZ z)) (acc ++ [⟨Int.tmod (nxtZ z) 6, clA (l.length : Int) (Int.tmod (nxtZ z) 6) (nxtZ (nxtZ z)), clB (l.length : Int) (Int.tmod (nxtZ z) 6) (nxtZ (nxtZ z)), t⟩])
def impl_MakePuzzle.f (k : Nat) (l : List Int) (n s : Int) : Option (Int × List S25 × Bool) := (impl_areHidden.f l).bind fun a => if a = true then ((impl_within.f n 0 6).bind fun b => if b = true then ((impl_within.f s 0 9999).bind fun c => if c = true then (if 0 < l.length ∧ 0 ≤ n ∧ n ≤ 1000 then (makeL k l n.toNat s []).bind fun cs => some ((l.length : Int), cs, true) else none) else some (0, [], false)) else some (0, [], false)) else some (0, [], false)
theorem makeL_le (k : Nat) (l : List Int) : ∀ (d : Nat) (z : Int) (acc : List S25), LeO (makeL k l d z acc) (makeL (k + 1) l d z acc)
 | 0, _, _ => LeO.refl _
 | d + 1, z, acc => by
  simp only [makeL]
  exact LeO.bind (impl_told.mono _ _ _ _ _ _) fun _ => makeL_le k l d _ _
theorem impl_MakePuzzle.mono : ∀ a0 a1 a2 k, LeO (impl_MakePuzzle.f k a0 a1 a2) (impl_MakePuzzle.f (k + 1) a0 a1 a2) := by
 intro a0 a1 a2 k
 unfold impl_MakePuzzle.f
 exact LeO.bind (LeO.refl _) fun _ => LeO.ite (LeO.bind (LeO.refl _) fun _ => LeO.ite (LeO.bind (LeO.refl _) fun _ => LeO.ite (LeO.ite (LeO.bind (makeL_le _ _ _ _ _) fun _ => LeO.refl _) (LeO.refl _)) (LeO.refl _)) (LeO.refl _)) (LeO.refl _)
set_option maxHeartbeats 8000000 in
set_option maxRecDepth 100000 in
theorem impl_MakePuzzle.calls (k : Nat) (A0 : Option Addr) (c0 : Nat) (l0 : List Int) (a1 a2 : Int) (r1 : Int) (r2 : List (S25)) (r3 : Bool) (w : World) (hr0 : Kd.C (Kd.int .i64) w A0 l0.length l0) (hc0 : l0.length ≤ c0) (h : impl_MakePuzzle.f k l0 a1 a2 = some (r1, r2, r3)) :
  Calls Try.prog 34 #[.slice A0 l0.length c0, .int .i64 a1, .int .i64 a2] w fun e w' => ∃ v1_ : Value, e = .returned (.tuple #[.agg #[.int .i64 r1, v1_], .bool r3]) ∧ Kd.R k25 25 w' w.heap.size (fun _ => True) v1_ r2 ∧ Below w.heap.size w w' := by
 unfold impl_MakePuzzle.f at h
 obtain ⟨a, ha, h⟩ := Option.bind_eq_some_iff.mp h
 have HR0 := Aside0.mk hr0
 have HA := Aside0.mk ha
 clear ha hr0
 cases a with
 | false =>
  simp only [Bool.false_eq_true, if_false, Option.some.injEq, Prod.mk.injEq] at h
  obtain ⟨rfl, rfl, rfl⟩ := h
  go_enter Try.func34, Try.ntmps34
  go_wp2_with (first | ((with_reducible refine gate_dst (N := 6) rfl ?_); refine box_event ?hg (N := 6) ?hd (cs := #[.int .i64 0, .slice none 0 0]) (t := 35) ?hr ?_; (case hd => rfl); (case hg => rfl); (case hr => first | (go_simp; done) | (go_simp; rfl)); intro gR hgR w1 hbox hb; have HB := Aside0.mk hb; have BR := Aside0.mk hbox; have GR := Aside0.mk (show w.heap.size ≤ gR from Nat.le_of_eq hgR.symm); have hcr0 := (blk_cell BR.out 0).trans rfl; have hcr1 := (blk_cell BR.out 1).trans rfl; have hfr0 := blk_frozen BR.out 0; have hfr1 := blk_frozen BR.out 1; clear hgR hbox hb) | (go_at_call 69; go_loud (refine (impl_areHidden.calls A0 c0 l0 false _ (Kd.C_below HR0.out HB.out) hc0 HA.out).mono ?_; rintro e w2 ⟨rfl, hb⟩; have n0_ := Aside0.mk (below_step HB.out hb); have n1_ := Aside0.mk (blk_below BR.out hb); clear HB BR hcr0 hcr1 hfr0 hfr1; have HB := n0_; have BR := n1_; have hcr0 := (blk_cell BR.out 0).trans rfl; have hcr1 := (blk_cell BR.out 1).trans rfl; have hfr0 := blk_frozen BR.out 0; have hfr1 := blk_frozen BR.out 1; clear n0_ n1_ hb)))
  refine bodyPost_ret (results_ct rfl _ _ gR 35 #[.int .i64 0, .slice none 0 0] (0, 0) _ rfl (blk_put (cs := #[.int .i64 0, .slice none 0 0]) (blk_put (cs := #[.int .i64 0, .slice none 0 0]) BR.out 0 _ rfl) 1 _ rfl) Try.underlying35 rfl (by kernel_rfl)) rfl ?_
  exact ⟨_, rfl, Kd.R_nil _ _ _ _ _, below_set (below_set HB.out GR.out) GR.out⟩
 | true =>
  simp only [if_true] at h
  obtain ⟨b, hb, h1⟩ := Option.bind_eq_some_iff.mp h
  have HBn := Aside0.mk hb
  clear hb h
  cases b with
  | false =>
   simp only [Bool.false_eq_true, if_false, Option.some.injEq, Prod.mk.injEq] at h1
   obtain ⟨rfl, rfl, rfl⟩ := h1
   go_enter Try.func34, Try.ntmps34
   go_wp2_with (first | ((with_reducible refine gate_dst (N := 6) rfl ?_); refine box_event ?hg (N := 6) ?hd (cs := #[.int .i64 0, .slice none 0 0]) (t := 35) ?hr ?_; (case hd => rfl); (case hg => rfl); (case hr => first | (go_simp; done) | (go_simp; rfl)); intro gR hgR w1 hbox hb; have HB := Aside0.mk hb; have BR := Aside0.mk hbox; have GR := Aside0.mk (show w.heap.size ≤ gR from Nat.le_of_eq hgR.symm); have hcr0 := (blk_cell BR.out 0).trans rfl; have hcr1 := (blk_cell BR.out 1).trans rfl; have hfr0 := blk_frozen BR.out 0; have hfr1 := blk_frozen BR.out 1; clear hgR hbox hb) | (go_at_call 69; go_loud (refine (impl_areHidden.calls A0 c0 l0 true _ (Kd.C_below HR0.out HB.out) hc0 HA.out).mono ?_; rintro e w2 ⟨rfl, hb⟩; have n0_ := Aside0.mk (below_step HB.out hb); have n1_ := Aside0.mk (blk_below BR.out hb); clear HB BR hcr0 hcr1 hfr0 hfr1; have HB := n0_; have BR := n1_; have hcr0 := (blk_cell BR.out 0).trans rfl; have hcr1 := (blk_cell BR.out 1).trans rfl; have hfr0 := blk_frozen BR.out 0; have hfr1 := blk_frozen BR.out 1; clear n0_ n1_ hb)) | (go_at_call 54; go_loud ((with_reducible refine (impl_within.calls a1 0 6 false _ HBn.out).mono ?_); rintro e w3 ⟨rfl, hd⟩; have hb := drawn_belowM hd; clear hd; have n0_ := Aside0.mk (below_step HB.out hb); have n1_ := Aside0.mk (blk_below BR.out hb); clear HB BR hcr0 hcr1 hfr0 hfr1; have HB := n0_; have BR := n1_; have hcr0 := (blk_cell BR.out 0).trans rfl; have hcr1 := (blk_cell BR.out 1).trans rfl; have hfr0 := blk_frozen BR.out 0; have hfr1 := blk_frozen BR.out 1; clear n0_ n1_ hb)))
   refine bodyPost_ret (results_ct rfl _ _ gR 35 #[.int .i64 0, .slice none 0 0] (0, 0) _ rfl (blk_put (cs := #[.int .i64 0, .slice none 0 0]) (blk_put (cs := #[.int .i64 0, .slice none 0 0]) BR.out 0 _ rfl) 1 _ rfl) Try.underlying35 rfl (by kernel_rfl)) rfl ?_
   exact ⟨_, rfl, Kd.R_nil _ _ _ _ _, below_set (below_set HB.out GR.out) GR.out⟩
  | true =>
   simp only [if_true] at h1
   obtain ⟨c, hc, h2⟩ := Option.bind_eq_some_iff.mp h1
   have HCn := Aside0.mk hc
   clear hc h1
   cases c with
   | false =>
    simp only [Bool.false_eq_true, if_false, Option.some.injEq, Prod.mk.injEq] at h2
    obtain ⟨rfl, rfl, rfl⟩ := h2
    go_enter Try.func34, Try.ntmps34
    go_wp2_with (first | ((with_reducible refine gate_dst (N := 6) rfl ?_); refine box_event ?hg (N := 6) ?hd (cs := #[.int .i64 0, .slice none 0 0]) (t := 35) ?hr ?_; (case hd => rfl); (case hg => rfl); (case hr => first | (go_simp; done) | (go_simp; rfl)); intro gR hgR w1 hbox hb; have HB := Aside0.mk hb; have BR := Aside0.mk hbox; have GR := Aside0.mk (show w.heap.size ≤ gR from Nat.le_of_eq hgR.symm); have hcr0 := (blk_cell BR.out 0).trans rfl; have hcr1 := (blk_cell BR.out 1).trans rfl; have hfr0 := blk_frozen BR.out 0; have hfr1 := blk_frozen BR.out 1; clear hgR hbox hb) | (go_at_call 69; go_loud (refine (impl_areHidden.calls A0 c0 l0 true _ (Kd.C_below HR0.out HB.out) hc0 HA.out).mono ?_; rintro e w2 ⟨rfl, hb⟩; have n0_ := Aside0.mk (below_step HB.out hb); have n1_ := Aside0.mk (blk_below BR.out hb); clear HB BR hcr0 hcr1 hfr0 hfr1; have HB := n0_; have BR := n1_; have hcr0 := (blk_cell BR.out 0).trans rfl; have hcr1 := (blk_cell BR.out 1).trans rfl; have hfr0 := blk_frozen BR.out 0; have hfr1 := blk_frozen BR.out 1; clear n0_ n1_ hb)) | (go_at_call 54; go_loud ((with_reducible refine (impl_within.calls a1 0 6 true _ HBn.out).mono ?_); rintro e w3 ⟨rfl, hd⟩; have hb := drawn_belowM hd; clear hd; have n0_ := Aside0.mk (below_step HB.out hb); have n1_ := Aside0.mk (blk_below BR.out hb); clear HB BR hcr0 hcr1 hfr0 hfr1; have HB := n0_; have BR := n1_; have hcr0 := (blk_cell BR.out 0).trans rfl; have hcr1 := (blk_cell BR.out 1).trans rfl; have hfr0 := blk_frozen BR.out 0; have hfr1 := blk_frozen BR.out 1; clear n0_ n1_ hb)) | (go_at_call 54; go_loud ((with_reducible refine (impl_within.calls a2 0 9999 false _ HCn.out).mono ?_); rintro e w3 ⟨rfl, hd⟩; have hb := drawn_belowM hd; clear hd; have n0_ := Aside0.mk (below_step HB.out hb); have n1_ := Aside0.mk (blk_below BR.out hb); clear HB BR hcr0 hcr1 hfr0 hfr1; have HB := n0_; have BR := n1_; have hcr0 := (blk_cell BR.out 0).trans rfl; have hcr1 := (blk_cell BR.out 1).trans rfl; have hfr0 := blk_frozen BR.out 0; have hfr1 := blk_frozen BR.out 1; clear n0_ n1_ hb)))
    refine bodyPost_ret (results_ct rfl _ _ gR 35 #[.int .i64 0, .slice none 0 0] (0, 0) _ rfl (blk_put (cs := #[.int .i64 0, .slice none 0 0]) (blk_put (cs := #[.int .i64 0, .slice none 0 0]) BR.out 0 _ rfl) 1 _ rfl) Try.underlying35 rfl (by kernel_rfl)) rfl ?_
    exact ⟨_, rfl, Kd.R_nil _ _ _ _ _, below_set (below_set HB.out GR.out) GR.out⟩
   | true =>
    simp only [if_true] at h2
    by_cases hg : 0 < l0.length ∧ 0 ≤ a1 ∧ a1 ≤ 1000
    ·rw [if_pos hg] at h2
     obtain ⟨cs, hm, h3⟩ := Option.bind_eq_some_iff.mp h2
     simp only [Option.some.injEq, Prod.mk.injEq] at h3
     obtain ⟨e1, e2, e3⟩ := h3
     subst e1
     subst e2
     subst e3
     obtain ⟨N, hN⟩ := Int.eq_ofNat_of_zero_le hg.2.1
     subst hN
     rw [Int.toNat_natCast] at hm
     have HM := Aside0.mk hm
     have HG := Aside0.mk hg
     clear hm h2 hg
     go_enter Try.func34, Try.ntmps34
     go_upto_region 4 with (first | ((with_reducible refine gate_dst (N := 6) rfl ?_); refine box_event ?hg (N := 6) ?hd (cs := #[.int .i64 0, .slice none 0 0]) (t := 35) ?hr ?_; (case hd => rfl); (case hg => rfl); (case hr => first | (go_simp; done) | (go_simp; rfl)); intro gR hgR w1 hbox hb; have HB := Aside0.mk hb; have BR := Aside0.mk hbox; have GR := Aside0.mk (show w.heap.size ≤ gR from Nat.le_of_eq hgR.symm); have hcr0 := (blk_cell BR.out 0).trans rfl; have hcr1 := (blk_cell BR.out 1).trans rfl; have hfr0 := blk_frozen BR.out 0; have hfr1 := blk_frozen BR.out 1; clear hgR hbox hb) | (go_at_call 69; go_loud (refine (impl_areHidden.calls A0 c0 l0 true _ (Kd.C_below HR0.out HB.out) hc0 HA.out).mono ?_; rintro e w2 ⟨rfl, hb⟩; have n0_ := Aside0.mk (below_step HB.out hb); have n1_ := Aside0.mk (blk_below BR.out hb); clear HB BR hcr0 hcr1 hfr0 hfr1; have HB := n0_; have BR := n1_; have hcr0 := (blk_cell BR.out 0).trans rfl; have hcr1 := (blk_cell BR.out 1).trans rfl; have hfr0 := blk_frozen BR.out 0; have hfr1 := blk_frozen BR.out 1; clear n0_ n1_ hb)) | (go_at_call 54; go_loud ((with_reducible refine (impl_within.calls (N : Int) 0 6 true _ HBn.out).mono ?_); rintro e w3 ⟨rfl, hd⟩; have hb := drawn_belowM hd; clear hd; have n0_ := Aside0.mk (below_step HB.out hb); have n1_ := Aside0.mk (blk_below BR.out hb); clear HB BR hcr0 hcr1 hfr0 hfr1; have HB := n0_; have BR := n1_; have hcr0 := (blk_cell BR.out 0).trans rfl; have hcr1 := (blk_cell BR.out 1).trans rfl; have hfr0 := blk_frozen BR.out 0; have hfr1 := blk_frozen BR.out 1; clear n0_ n1_ hb)) | (go_at_call 54; go_loud ((with_reducible refine (impl_within.calls a2 0 9999 true _ HCn.out).mono ?_); rintro e w3 ⟨rfl, hd⟩; have hb := drawn_belowM hd; clear hd; have n0_ := Aside0.mk (below_step HB.out hb); have n1_ := Aside0.mk (blk_below BR.out hb); clear HB BR hcr0 hcr1 hfr0 hfr1; have HB := n0_; have BR := n1_; have hcr0 := (blk_cell BR.out 0).trans rfl; have hcr1 := (blk_cell BR.out 1).trans rfl; have hfr0 := blk_frozen BR.out 0; have hfr1 := blk_frozen BR.out 1; clear n0_ n1_ hb)))
     clear hcr0 hcr1 hfr0 hfr1
     have hb0 : Below w.heap.size w w3 := HB.out
     go_upto_region 5 with ((with_reducible refine gate_dst (N := 9) rfl ?_); go_loud (refine box_event ?hg (N := 9) ?hd (cs := #[.int .i64 0]) (t := 3) ?hr ?_; (case hd => rfl); (case hg => rfl); (case hr => first | (go_simp; done) | (go_simp; rfl)); intro gz hgz w4 hbox hb; have GZ := Aside0.mk hgz; have BZ0 := Aside0.mk hbox; have HQ := Aside0.mk hb; have hcz0 := (blk_cell BZ0.out 0).trans rfl; have hfz0 := blk_frozen BZ0.out 0; clear hgz hbox hb))
     have BZ := Aside0.mk (show (w4.setCell ⟨gz, 0, none⟩ (.int .i64 a2)).heap[gz]? = some (.cells #[.int .i64 a2] 3 (0, 0)) from blk_put (cs := #[.int .i64 0]) BZ0.out 0 _ rfl)
     have HQ2 := Aside0.mk (below_set HQ.out (Nat.le_of_eq GZ.out.symm) (v := .int .i64 a2) (j := 0))
     clear hcz0 hfz0 BZ0 HQ hb0
     generalize hW : w4.setCell ⟨gz, 0, none⟩ (.int .i64 a2) = w5 at BZ HQ2 ⊢
     clear hW
     have HB5 := Aside0.mk (below_step HB.out HQ2.out)
     have BR5 := Aside0.mk (blk_below BR.out HQ2.out)
     have NRZ := Aside0.mk (show gR ≠ gz from fun e_ => by have h1 := blk_lt BR.out; have h2 := GZ.out; omega)
     have GZB := Aside0.mk (show w.heap.size ≤ gz by rw [GZ.out]; exact HB.out.size)
     clear HB BR HQ2
     go_upto_region 7 with ((with_reducible refine gate_dst (N := 11) rfl ?_); go_loud (refine box_event ?hg (N := 11) ?hd (cs := #[.int .i64 0, .slice none 0 0]) (t := 35) ?hr ?_; (case hd => rfl); (case hg => rfl); (case hr => first | (go_simp; done) | (go_simp; rfl)); intro gO hgO w6a hbox hb; have GO := Aside0.mk hgO; have BO0 := Aside0.mk hbox; have HQ := Aside0.mk hb; have hcx0 := (blk_cell BO0.out 0).trans rfl; have hcx1 := (blk_cell BO0.out 1).trans rfl; have hfx0 := blk_frozen BO0.out 0; have hfx1 := blk_frozen BO0.out 1; clear hgO hbox hb))
     have BO := Aside0.mk (show ((w6a.setCell ⟨gO, 0, none⟩ (.int .i64 (l0.length : Int))).setCell ⟨gO, 1, none⟩ (.slice none 0 0)).heap[gO]? = some (.cells #[.int .i64 (l0.length : Int), .slice none 0 0] 35 (0, 0)) from blk_put (cs := #[.int .i64 (l0.length : Int), .slice none 0 0]) (blk_put (cs := #[.int .i64 0, .slice none 0 0]) BO0.out 0 _ rfl) 1 _ rfl)
     have HQ2 := Aside0.mk (below_set (below_set HQ.out (Nat.le_of_eq GO.out.symm) (v := .int .i64 (l0.length : Int)) (j := 0)) (Nat.le_of_eq GO.out.symm) (v := .slice none 0 0) (j := 1))
     clear hcx0 hcx1 hfx0 hfx1 BO0 HQ
     generalize hW : (w6a.setCell ⟨gO, 0, none⟩ (.int .i64 (l0.length : Int))).setCell ⟨gO, 1, none⟩ (.slice none 0 0) = w7 at BO HQ2 ⊢
     clear hW
     have HB7 := Aside0.mk (below_step HB5.out HQ2.out)
     have BR7 := Aside0.mk (blk_below BR5.out HQ2.out)
     have BZ7 := Aside0.mk (blk_below BZ.out HQ2.out)
     have NRO := Aside0.mk (show gR ≠ gO from fun e_ => by have h1 := blk_lt BR5.out; have h2 := GO.out; omega)
     have NZO := Aside0.mk (show gz ≠ gO from fun e_ => by have h1 := blk_lt BZ.out; have h2 := GO.out; omega)
     have GOB := Aside0.mk (show w.heap.size ≤ gO by rw [GO.out]; exact HB5.out.size)
     have GZL := Aside0.mk (blk_lt BZ7.out)
     have GOL := Aside0.mk (blk_lt BO.out)
     have GRL := Aside0.mk (blk_lt BR7.out)
     clear HB5 BR5 BZ HQ2
     obtain ⟨n, hn⟩ : ∃ q, q = l0.length := ⟨_, rfl⟩
     have HN := Aside0.mk hn
     go_upto_region 8 with (fail)
     go_loopg [35] N (fun kq v35 w' => ∃ (i : Nat) (xi z : Int) (acc : List S25) (vC : Value), v35 = .int .i64 xi ∧ Aside0 (xi = (i : Int)) ∧ Aside0 (i + kq = N) ∧ Aside0 (acc.length = i) ∧ Aside0 (makeL k l0 kq z acc = some cs) ∧ Aside0 (w'.heap[gz]? = some (.cells #[.int .i64 z] 3 (0, 0))) ∧ Aside0 (w'.heap[gO]? = some (.cells #[.int .i64 (l0.length : Int), vC] 35 (0, 0))) ∧ Aside0 (w'.heap[gR]? = some (.cells #[.int .i64 0, .slice none 0 0] 35 (0, 0))) ∧ Aside0 (Kd.R k25 25 w' w.heap.size (fun q => w7.heap.size ≤ q) vC acc) ∧ Aside0 (w7.heap.size ≤ w'.heap.size) ∧ Aside0 (Below w.heap.size w w'))
     case atStart => exact ⟨0, 0, a2, [], .slice none 0 0, rfl, ⟨rfl⟩, ⟨by omega⟩, ⟨rfl⟩, HM, BZ7, BO, BR7, ⟨Kd.R_nil _ _ _ _ _⟩, ⟨Nat.le_refl _⟩, HB7⟩
     case round =>
      clear HM BZ7 BO BR7 HB7
      obtain ⟨i, xi, z, acc, vC, rfl, HXI, HIK, HAL, HM, BZ, BO, BR, HRC, HSZ, HB⟩ := hrel
      have hxi := HXI.out
      have hik := HIK.out
      cases gk with
      | zero =>
       have cb : decide (xi < (N : Int)) = false := decide_eq_false (by omega)
       have HCS := Aside0.mk (show acc = cs by
        have := HM.out
        simpa [makeL] using this)
       obtain ⟨AC, cC, eC⟩ := Kd.R_slice HRC.out
       subst eC
       have hco0 := (blk_cell BO.out 0).trans rfl
       have hco1 := (blk_cell BO.out 1).trans rfl
       have hcr0 := (blk_cell BR.out 0).trans rfl
       have hcr1 := (blk_cell BR.out 1).trans rfl
       have hfr0 := blk_frozen BR.out 0
       have hfr1 := blk_frozen BR.out 1
       go_wp2
       refine bodyPost_ret (results_ct rfl _ _ gR 35 #[.int .i64 (l0.length : Int), .slice AC acc.length cC] (0, 0) _ rfl (blk_put (cs := #[.int .i64 (l0.length : Int), .slice none 0 0]) (blk_put (cs := #[.int .i64 0, .slice none 0 0]) BR.out 0 _ rfl) 1 _ rfl) Try.underlying35 rfl (by kernel_rfl)) rfl ?_
       exact ⟨_, rfl, HCS.out ▸ Kd.R_mono (Kd.R_far (Kd.R_far HRC.out (fun q hq e_ => by have h1 := GRL.out; have h2 : q = gR := e_; have h3 : w7.heap.size ≤ q := hq; omega) _) (fun q hq e_ => by have h1 := GRL.out; have h2 : q = gR := e_; have h3 : w7.heap.size ≤ q := hq; omega) _) (fun _ _ => trivial), below_set (below_set HB.out GR.out) GR.out⟩
      | succ d =>
       have cb : decide (xi < (N : Int)) = true := decide_eq_true (by omega)
       have hm := HM.out
       simp only [makeL] at hm
       obtain ⟨t, ht, hm⟩ := Option.bind_eq_some_iff.mp hm
       obtain ⟨z1, hz1⟩ : ∃ q, q = nxtZ z := ⟨_, rfl⟩
       obtain ⟨z2, hz2⟩ : ∃ q, q = nxtZ z1 := ⟨_, rfl⟩
       rw [← hz1, ← hz2] at ht hm
       obtain ⟨K, hK⟩ : ∃ q, q = Int.tmod z1 6 := ⟨_, rfl⟩
       rw [← hK] at ht hm
       obtain ⟨A, hA⟩ : ∃ q, q = clA (l0.length : Int) K z2 := ⟨_, rfl⟩
       obtain ⟨B, hB⟩ : ∃ q, q = clB (l0.length : Int) K z2 := ⟨_, rfl⟩
       rw [← hA, ← hB] at ht hm
       have HT := Aside0.mk ht
       have HM2 := Aside0.mk hm
       have HA2 := Aside0.mk hA
       have HB2 := Aside0.mk hB
       have hc1 := impl_MakePuzzle_1.calls gz z wr BZ.out
       rw [← hz1] at hc1
       have HC1 := Aside0.mk hc1
       have hc2 := fun w_ => impl_MakePuzzle_1.calls gz z1 w_
       rw [← hz2] at hc2
       have HC2 := Aside0.mk hc2
       have hK2 : Int.tmod z1 6 = K := hK.symm
       clear HM hm ht hz1 hz2 hK hA hB hc1 hc2
       go_upto_region 10 with (first
        | (go_at_call 73; go_loud (refine HC1.out.mono ?_; rintro e w' ⟨rfl, rfl⟩; have HQQ := Aside0.mk (show ∀ q, w7.heap.size ≤ q → w7.heap.size ≤ q from fun _ h_ => h_); have BZ1 := Aside0.mk (show (wr.setCell ⟨gz, 0, none⟩ (.int .i64 z1)).heap[gz]? = some (.cells #[.int .i64 z1] 3 (0, 0)) from blk_put (cs := #[.int .i64 z]) BZ.out 0 _ rfl); have BO1 := Aside0.mk (blk_far (p := ⟨gz, 0, none⟩) BO.out NZO.out.symm (.int .i64 z1)); have BR1 := Aside0.mk (blk_far (p := ⟨gz, 0, none⟩) BR.out NRZ.out (.int .i64 z1)); have HRC1 := Aside0.mk (Kd.R_far (p := ⟨gz, 0, none⟩) HRC.out (fun q hq e_ => by have h1 := GZL.out; have h2 : q = gz := e_; have h3 : w7.heap.size ≤ q := HQQ.out q hq; omega) (.int .i64 z1)); have HB1 := Aside0.mk (below_set HB.out GZB.out (v := .int .i64 z1) (j := 0)); have HSZ1 := Aside0.mk (show w7.heap.size ≤ (wr.setCell ⟨gz, 0, none⟩ (.int .i64 z1)).heap.size by simpa [World.setCell] using HSZ.out); generalize wr.setCell ⟨gz, 0, none⟩ (.int .i64 z1) = w8 at BZ1 BO1 BR1 HRC1 HB1 HSZ1 ⊢; clear BZ BO BR HRC HB HSZ HQQ))
        | ((with_reducible refine gate_dst (N := 12) rfl ?_); go_loud (refine box_event ?hg (N := 12) ?hd (cs := #[.int .i64 0, .int .i64 0, .int .i64 0, .int .i64 0]) (t := 25) ?hr ?_; (case hd => rfl); (case hg => rfl); (case hr => first | (go_simp; done) | (go_simp; rfl)); intro gc hgc w9a hbox hb; have GC := Aside0.mk hgc; have BC0 := Aside0.mk hbox; have HQ := Aside0.mk hb; have hcx0 := (blk_cell BC0.out 0).trans rfl; have hcx1 := (blk_cell BC0.out 1).trans rfl; have hcx2 := (blk_cell BC0.out 2).trans rfl; have hcx3 := (blk_cell BC0.out 3).trans rfl; have hfx0 := blk_frozen BC0.out 0; have hfx1 := blk_frozen BC0.out 1; have hfx2 := blk_frozen BC0.out 2; have hfx3 := blk_frozen BC0.out 3; clear hgc hbox hb)))
       have BC2 := Aside0.mk (show ((((w9a.setCell ⟨gc, 0, none⟩ (.int .i64 K)).setCell ⟨gc, 1, none⟩ (.int .i64 0)).setCell ⟨gc, 2, none⟩ (.int .i64 0)).setCell ⟨gc, 3, none⟩ (.int .i64 0)).heap[gc]? = some (.cells #[.int .i64 K, .int .i64 0, .int .i64 0, .int .i64 0] 25 (0, 0)) from blk_put (cs := #[.int .i64 K, .int .i64 0, .int .i64 0, .int .i64 0]) (blk_put (cs := #[.int .i64 K, .int .i64 0, .int .i64 0, .int .i64 0]) (blk_put (cs := #[.int .i64 K, .int .i64 0, .int .i64 0, .int .i64 0]) (blk_put (cs := #[.int .i64 0, .int .i64 0, .int .i64 0, .int .i64 0]) BC0.out 0 _ rfl) 1 _ rfl) 2 _ rfl) 3 _ rfl)
       have HQ2 := Aside0.mk (below_set (below_set (below_set (below_set HQ.out (Nat.le_of_eq GC.out.symm) (v := .int .i64 K) (j := 0)) (Nat.le_of_eq GC.out.symm) (v := .int .i64 0) (j := 1)) (Nat.le_of_eq GC.out.symm) (v := .int .i64 0) (j := 2)) (Nat.le_of_eq GC.out.symm) (v := .int .i64 0) (j := 3))
       clear hcx0 hcx1 hcx2 hcx3 hfx0 hfx1 hfx2 hfx3 BC0 HQ
       generalize hW : (((w9a.setCell ⟨gc, 0, none⟩ (.int .i64 K)).setCell ⟨gc, 1, none⟩ (.int .i64 0)).setCell ⟨gc, 2, none⟩ (.int .i64 0)).setCell ⟨gc, 3, none⟩ (.int .i64 0) = w10 at BC2 HQ2 ⊢
       clear hW
       have BZ2 := Aside0.mk (blk_below BZ1.out HQ2.out)
       have BO2 := Aside0.mk (blk_below BO1.out HQ2.out)
       have BR2 := Aside0.mk (blk_below BR1.out HQ2.out)
       have HRC2 := Aside0.mk (Kd.R_below (Kd.R_mono (Kd.R_bound HRC1.out) (fun q hq => (⟨hq.1, by have h1 := hq.2.2.1; have h2 := GC.out; omega⟩ : w7.heap.size ≤ q ∧ q < gc))) HQ2.out)
       have HB2_ := Aside0.mk (below_step HB1.out HQ2.out)
       have HSZ2 := Aside0.mk (Nat.le_trans HSZ1.out HQ2.out.size)
       have NCZ := Aside0.mk (show gc ≠ gz from fun e_ => by have h1 := GZL.out; have h2 := HSZ1.out; have h3 := GC.out; omega)
       have NCO := Aside0.mk (show gc ≠ gO from fun e_ => by have h1 := GOL.out; have h2 := HSZ1.out; have h3 := GC.out; omega)
       have NCR := Aside0.mk (show gc ≠ gR from fun e_ => by have h1 := GRL.out; have h2 := HSZ1.out; have h3 := GC.out; omega)
       have GCB := Aside0.mk (show w.heap.size ≤ gc by rw [GC.out]; exact HB1.out.size)
       clear BZ1 BO1 BR1 HRC1 HB1 HSZ1 HQ2
       go_upto_region 11 with (go_at_call 73; go_loud (refine (HC2.out w10 BZ2.out).mono ?_; rintro e w' ⟨rfl, rfl⟩; have BZ3 := Aside0.mk (show (w10.setCell ⟨gz, 0, none⟩ (.int .i64 z2)).heap[gz]? = some (.cells #[.int .i64 z2] 3 (0, 0)) from blk_put (cs := #[.int .i64 z1]) BZ2.out 0 _ rfl); have BO3 := Aside0.mk (blk_far (p := ⟨gz, 0, none⟩) BO2.out NZO.out.symm (.int .i64 z2)); have BR3 := Aside0.mk (blk_far (p := ⟨gz, 0, none⟩) BR2.out NRZ.out (.int .i64 z2)); have BC3 := Aside0.mk (blk_far (p := ⟨gz, 0, none⟩) BC2.out NCZ.out (.int .i64 z2)); have HRC3 := Aside0.mk (Kd.R_far (p := ⟨gz, 0, none⟩) HRC2.out (fun q hq e_ => by have h1 := GZL.out; have h2 : q = gz := e_; have h3 := hq.1; omega) (.int .i64 z2)); have HB3_ := Aside0.mk (below_set HB2_.out GZB.out (v := .int .i64 z2) (j := 0)); have HSZ3 := Aside0.mk (show w7.heap.size ≤ (w10.setCell ⟨gz, 0, none⟩ (.int .i64 z2)).heap.size by simpa [World.setCell] using HSZ2.out); generalize w10.setCell ⟨gz, 0, none⟩ (.int .i64 z2) = w11 at BZ3 BO3 BR3 BC3 HRC3 HB3_ HSZ3 ⊢; clear BZ2 BO2 BR2 BC2 HRC2 HB2_ HSZ2))
       have hcc0 := (blk_cell BC3.out 0).trans rfl
       have hcc1 := (blk_cell BC3.out 1).trans rfl
       have hcc2 := (blk_cell BC3.out 2).trans rfl
       have hcc3 := (blk_cell BC3.out 3).trans rfl
       have hfc1 := blk_frozen BC3.out 1
       have hfc2 := blk_frozen BC3.out 2
       have hfc3 := blk_frozen BC3.out 3
       have hn0 : ((l0.length : Int) == 0) = false := beq_eq_false_iff_ne.mpr (by have := HG.out.1; omega)
       have hn1 : ¬ (l0.length : Int) = 0 := by have := HG.out.1; omega
       have hn2 : ¬ l0 = [] := fun e_ => by have h1 := HG.out.1; rw [e_] at h1; simp at h1
       by_cases hk14 : K = 1 ∨ K = 4
       ·have hAA : Int.tmod z2 (l0.length : Int) = A := by have := HA2.out; unfold clA at this; rw [if_pos hk14] at this; exact this.symm
        have hBB : Int.tmod (wrap64 (A + 1)) (l0.length : Int) = B := by have := HB2.out; unfold clB at this; rw [if_pos hk14, hAA] at this; exact this.symm
        rcases hk14 with hk1 | hk4
        ·have hk1b : (K == 1) = true := beq_iff_eq.mpr hk1
         go_upto_region 14 with (fail)
         clear hk1 hk1b
         have hAe : Int.tmod z2 (l0.length : Int) = A := hAA
         have hBe : Int.tmod (wrap64 (A + 1)) (l0.length : Int) = B := hBB
         try go_wp2
         have BZ4 := Aside0.mk (blk_drew BZ3.out)
         have BO4 := Aside0.mk (blk_drew BO3.out)
         have BR4 := Aside0.mk (blk_drew BR3.out)
         have BC4 := Aside0.mk (blk_drew BC3.out)
         have HRC4 := Aside0.mk (Kd.R_drew HRC3.out)
         have HB4_ := Aside0.mk (below_drew1 HB3_.out)
         have HSZ4 := Aside0.mk (show w7.heap.size ≤ w11.drew.heap.size from HSZ3.out)
         clear BZ3 BO3 BR3 BC3 HRC3 HB3_ HSZ3
         clear hcc0 hcc1 hcc2 hcc3 hfc1 hfc2 hfc3
         refine start_ (n := 13) (S := fun _ => True) (ds := [10, 12]) #[false, false, false, false, false, false, false, false, false, false, false, false, false] (by kernel_rfl) rfl rfl trivial (fun _ => ?_)
         generalize w11.drew = w12 at BZ4 BO4 BR4 BC4 HRC4 HB4_ HSZ4 ⊢
         have hcc0 := (blk_cell BC4.out 0).trans rfl
         have hcc1 := (blk_cell BC4.out 1).trans rfl
         have hcc2 := (blk_cell BC4.out 2).trans rfl
         have hcc3 := (blk_cell BC4.out 3).trans rfl
         have hfc1 := blk_frozen BC4.out 1
         have hfc2 := blk_frozen BC4.out 2
         have hfc3 := blk_frozen BC4.out 3
         refine pure_ (i := 0) (N := some 48) (v := ?_) (a' := ?_) #[true, false, false, false, false, false, false, false, false, false, false, false, false] rfl rfl (by kernel_rfl) (fun _ _ _ h => h) (Or.inl ⟨by rfl, ?_⟩) ?_ ?_
         rotate_left
         ·intro w'
          go_simp
          with_reducible rfl
         rotate_left
         ·simp only [Act.put, List.setIfInBounds_toArray, List.set_cons_zero, List.set_cons_succ, i64_w, i32_w]
          rfl
         refine pure_ (i := 1) (N := some 49) (v := ?_) (a' := ?_) #[true, true, false, false, false, false, false, false, false, false, false, false, false] rfl rfl (by kernel_rfl) (fun _ _ _ h => h) (Or.inl ⟨by rfl, ?_⟩) ?_ ?_
         rotate_left
         ·intro w'
          go_simp
          with_reducible rfl
         rotate_left
         ·simp only [Act.put, List.setIfInBounds_toArray, List.set_cons_zero, List.set_cons_succ, i64_w, i32_w]
          rfl
         refine pure_ (i := 2) (N := some 50) (v := ?_) (a' := ?_) #[true, true, true, false, false, false, false, false, false, false, false, false, false] rfl rfl (by kernel_rfl) (fun _ _ _ h => h) (Or.inl ⟨by rfl, ?_⟩) ?_ ?_
         rotate_left
         ·intro w'
          go_simp
          with_reducible rfl
         rotate_left
         ·simp only [Act.put, List.setIfInBounds_toArray, List.set_cons_zero, List.set_cons_succ, i64_w, i32_w]
          rfl
         refine pure_ (i := 3) (N := some 51) (v := ?_) (a' := ?_) #[true, true, true, true, false, false, false, false, false, false, false, false, false] rfl rfl (by kernel_rfl) (fun _ _ _ h => h) (Or.inl ⟨by rfl, ?_⟩) ?_ ?_
         rotate_left
         ·intro w'
          go_simp
          with_reducible rfl
         rotate_left
         ·simp only [Act.put, List.setIfInBounds_toArray, List.set_cons_zero, List.set_cons_succ, i64_w, i32_w]
          rfl
         refine pure_ (i := 4) (N := some 52) (v := ?_) (a' := ?_) #[true, true, true, true, true, false, false, false, false, false, false, false, false] rfl rfl (by kernel_rfl) (fun _ _ _ h => h) (Or.inl ⟨by rfl, ?_⟩) ?_ ?_
         rotate_left
         ·intro w'
          go_simp
          with_reducible rfl
         rotate_left
         ·simp only [Act.put, List.setIfInBounds_toArray, List.set_cons_zero, List.set_cons_succ, i64_w, i32_w]
          rfl
         refine pure_ (i := 5) (N := some 53) (v := ?_) (a' := ?_) #[true, true, true, true, true, true, false, false, false, false, false, false, false] rfl rfl (by kernel_rfl) (fun _ _ _ h => h) (Or.inl ⟨by rfl, ?_⟩) ?_ ?_
         rotate_left
         ·intro w'
          go_simp
          with_reducible rfl
         rotate_left
         ·simp only [Act.put, List.setIfInBounds_toArray, List.set_cons_zero, List.set_cons_succ, i64_w, i32_w]
          rfl
         refine pure_ (i := 6) (N := some 54) (v := ?_) (a' := ?_) #[true, true, true, true, true, true, true, false, false, false, false, false, false] rfl rfl (by kernel_rfl) (fun _ _ _ h => h) (Or.inl ⟨by rfl, ?_⟩) ?_ ?_
         rotate_left
         ·intro w'
          go_simp
          with_reducible rfl
         rotate_left
         ·simp only [Act.put, List.setIfInBounds_toArray, List.set_cons_zero, List.set_cons_succ, i64_w, i32_w]
          rfl
         refine pure_ (i := 7) (N := some 55) (v := ?_) (a' := ?_) #[true, true, true, true, true, true, true, true, false, false, false, false, false] rfl rfl (by kernel_rfl) (fun _ _ _ h => h) (Or.inl ⟨by rfl, ?_⟩) ?_ ?_
         rotate_left
         ·intro w'
          go_simp
          with_reducible rfl
         rotate_left
         ·simp only [Act.put, List.setIfInBounds_toArray, List.set_cons_zero, List.set_cons_succ, i64_w, i32_w]
          rfl
         refine pure_ (i := 8) (N := some 56) (v := ?_) (a' := ?_) #[true, true, true, true, true, true, true, true, true, false, false, false, false] rfl rfl (by kernel_rfl) (fun _ _ _ h => h) (Or.inl ⟨by rfl, ?_⟩) ?_ ?_
         rotate_left
         ·intro w'
          go_simp
          with_reducible rfl
         rotate_left
         ·simp only [Act.put, List.setIfInBounds_toArray, List.set_cons_zero, List.set_cons_succ, i64_w, i32_w]
          rfl
         refine pure_ (i := 9) (N := some 57) (v := ?_) (a' := ?_) #[true, true, true, true, true, true, true, true, true, true, false, false, false] rfl rfl (by kernel_rfl) (fun _ _ _ h => h) (Or.inl ⟨by rfl, ?_⟩) ?_ ?_
         rotate_left
         ·intro w'
          go_simp
          with_reducible rfl
         rotate_left
         ·simp only [Act.put, List.setIfInBounds_toArray, List.set_cons_zero, List.set_cons_succ, i64_w, i32_w]
          rfl
         refine last_ (i := 10) (N := none) #[true, true, true, true, true, true, true, true, true, true, true, false, false] rfl rfl (by kernel_rfl) (by decide) (fun K_ hK => ?_)
         refine skip_ (w1 := ?_) (by rfl) rfl ?_ ?_
         rotate_left
         ·go_simp
          rfl
         refine hK.out _ _ ?_
         clear hK K_
         have BC5 := Aside0.mk (show (w12.setCell ⟨gc, 1, none⟩ (.int .i64 A)).heap[gc]? = some (.cells #[.int .i64 K, .int .i64 A, .int .i64 0, .int .i64 0] 25 (0, 0)) from blk_put (cs := #[.int .i64 K, .int .i64 0, .int .i64 0, .int .i64 0]) BC4.out 1 _ rfl)
         have BZ5 := Aside0.mk (blk_far (p := ⟨gc, 1, none⟩) BZ4.out NCZ.out.symm (.int .i64 A))
         have BO5 := Aside0.mk (blk_far (p := ⟨gc, 1, none⟩) BO4.out NCO.out.symm (.int .i64 A))
         have BR5 := Aside0.mk (blk_far (p := ⟨gc, 1, none⟩) BR4.out NCR.out.symm (.int .i64 A))
         have HRC5 := Aside0.mk (Kd.R_far (p := ⟨gc, 1, none⟩) HRC4.out (fun q hq e_ => by have h2 : q = gc := e_; have h3 := hq.2; omega) (.int .i64 A))
         have HB5_ := Aside0.mk (below_set HB4_.out GCB.out (v := .int .i64 A) (j := 1))
         have HSZ5 := Aside0.mk (show w7.heap.size ≤ (w12.setCell ⟨gc, 1, none⟩ (.int .i64 A)).heap.size by simpa [World.setCell] using HSZ4.out)
         clear BZ4 BO4 BR4 BC4 HRC4 HB4_ HSZ4
         clear hcc0 hcc1 hcc2 hcc3 hfc1 hfc2 hfc3
         generalize hW : w12.setCell ⟨gc, 1, none⟩ (.int .i64 A) = w13 at BZ5 BO5 BR5 BC5 HRC5 HB5_ HSZ5 ⊢
         clear hW
         have hcc0 := (blk_cell BC5.out 0).trans rfl
         have hcc1 := (blk_cell BC5.out 1).trans rfl
         have hcc2 := (blk_cell BC5.out 2).trans rfl
         have hcc3 := (blk_cell BC5.out 3).trans rfl
         have hfc1 := blk_frozen BC5.out 1
         have hfc2 := blk_frozen BC5.out 2
         have hfc3 := blk_frozen BC5.out 3
         refine pure_ (i := 11) (N := some 58) (v := ?_) (a' := ?_) #[true, true, true, true, true, true, true, true, true, true, true, true, false] rfl rfl (by kernel_rfl) (fun _ _ _ h => h) (Or.inl ⟨by rfl, ?_⟩) ?_ ?_
         rotate_left
         ·intro w'
          go_simp
          with_reducible rfl
         rotate_left
         ·simp only [Act.put, List.setIfInBounds_toArray, List.set_cons_zero, List.set_cons_succ, i64_w, i32_w]
          rfl
         refine last_ (i := 12) (N := none) #[true, true, true, true, true, true, true, true, true, true, true, true, true] rfl rfl (by kernel_rfl) (by decide) (fun K_ hK => ?_)
         refine skip_ (w1 := ?_) (by rfl) rfl ?_ ?_
         rotate_left
         ·go_simp
          rfl
         refine hK.out _ _ ?_
         clear hK K_
         have BC6 := Aside0.mk (show (w13.setCell ⟨gc, 2, none⟩ (.int .i64 B)).heap[gc]? = some (.cells #[.int .i64 K, .int .i64 A, .int .i64 B, .int .i64 0] 25 (0, 0)) from blk_put (cs := #[.int .i64 K, .int .i64 A, .int .i64 0, .int .i64 0]) BC5.out 2 _ rfl)
         have BZ6 := Aside0.mk (blk_far (p := ⟨gc, 2, none⟩) BZ5.out NCZ.out.symm (.int .i64 B))
         have BO6 := Aside0.mk (blk_far (p := ⟨gc, 2, none⟩) BO5.out NCO.out.symm (.int .i64 B))
         have BR6 := Aside0.mk (blk_far (p := ⟨gc, 2, none⟩) BR5.out NCR.out.symm (.int .i64 B))
         have HRC6 := Aside0.mk (Kd.R_far (p := ⟨gc, 2, none⟩) HRC5.out (fun q hq e_ => by have h2 : q = gc := e_; have h3 := hq.2; omega) (.int .i64 B))
         have HB6_ := Aside0.mk (below_set HB5_.out GCB.out (v := .int .i64 B) (j := 2))
         have HSZ6 := Aside0.mk (show w7.heap.size ≤ (w13.setCell ⟨gc, 2, none⟩ (.int .i64 B)).heap.size by simpa [World.setCell] using HSZ5.out)
         clear BZ5 BO5 BR5 BC5 HRC5 HB5_ HSZ5
         clear hcc0 hcc1 hcc2 hcc3 hfc1 hfc2 hfc3
         generalize hW : w13.setCell ⟨gc, 2, none⟩ (.int .i64 B) = w14 at BZ6 BO6 BR6 BC6 HRC6 HB6_ HSZ6 ⊢
         clear hW
         refine done_ (by kernel_rfl) ?_
         have hcc0 := (blk_cell BC6.out 0).trans rfl
         have hcc1 := (blk_cell BC6.out 1).trans rfl
         have hcc2 := (blk_cell BC6.out 2).trans rfl
         have hcc3 := (blk_cell BC6.out 3).trans rfl
         have hfc1 := blk_frozen BC6.out 1
         have hfc2 := blk_frozen BC6.out 2
         have hfc3 := blk_frozen BC6.out 3
         go_upto_region 18 with (go_at_call 74; go_loud ((with_reducible refine (impl_told.calls k K A B 0 A0 c0 l0 t w14 (Kd.C_below HR0.out HB6_.out) hc0 HT.out).mono ?_); rintro e w15 ⟨rfl, hb⟩; have BZ7 := Aside0.mk (blk_below BZ6.out hb); have BO7 := Aside0.mk (blk_below BO6.out hb); have BR7 := Aside0.mk (blk_below BR6.out hb); have BC7 := Aside0.mk (blk_below BC6.out hb); have HRC7 := Aside0.mk (Kd.R_below HRC6.out hb); have HB7_ := Aside0.mk (below_step HB6_.out hb); have HSZ7 := Aside0.mk (Nat.le_trans HSZ6.out hb.size); clear hb hcc0 hcc1 hcc2 hcc3 hfc1 hfc2 hfc3 BZ6 BO6 BR6 BC6 HRC6 HB6_ HSZ6; have hcc0 := (blk_cell BC7.out 0).trans rfl; have hcc1 := (blk_cell BC7.out 1).trans rfl; have hcc2 := (blk_cell BC7.out 2).trans rfl; have hcc3 := (blk_cell BC7.out 3).trans rfl; have hfc3 := blk_frozen BC7.out 3))
         have BC8 := Aside0.mk (show (w15.setCell ⟨gc, 3, none⟩ (.int .i64 t)).heap[gc]? = some (.cells #[.int .i64 K, .int .i64 A, .int .i64 B, .int .i64 t] 25 (0, 0)) from blk_put (cs := #[.int .i64 K, .int .i64 A, .int .i64 B, .int .i64 0]) BC7.out 3 _ rfl)
         have BZ8 := Aside0.mk (blk_far (p := ⟨gc, 3, none⟩) BZ7.out NCZ.out.symm (.int .i64 t))
         have BO8 := Aside0.mk (blk_far (p := ⟨gc, 3, none⟩) BO7.out NCO.out.symm (.int .i64 t))
         have BR8 := Aside0.mk (blk_far (p := ⟨gc, 3, none⟩) BR7.out NCR.out.symm (.int .i64 t))
         have HRC8 := Aside0.mk (Kd.R_far (p := ⟨gc, 3, none⟩) HRC7.out (fun q hq e_ => by have h2 : q = gc := e_; have h3 := hq.2; omega) (.int .i64 t))
         have HB8_ := Aside0.mk (below_set HB7_.out GCB.out (v := .int .i64 t) (j := 3))
         have HSZ8 := Aside0.mk (show w7.heap.size ≤ (w15.setCell ⟨gc, 3, none⟩ (.int .i64 t)).heap.size by simpa [World.setCell] using HSZ7.out)
         clear BZ7 BO7 BR7 BC7 HRC7 HB7_ HSZ7
         clear hcc0 hcc1 hcc2 hcc3 hfc3
         generalize hW : w15.setCell ⟨gc, 3, none⟩ (.int .i64 t) = w16 at BZ8 BO8 BR8 BC8 HRC8 HB8_ HSZ8 ⊢
         clear hW
         have hcc0 := (blk_cell BC8.out 0).trans rfl
         have hcc1 := (blk_cell BC8.out 1).trans rfl
         have hcc2 := (blk_cell BC8.out 2).trans rfl
         have hcc3 := (blk_cell BC8.out 3).trans rfl
         have hco0 := (blk_cell BO8.out 0).trans rfl
         have hco1 := (blk_cell BO8.out 1).trans rfl
         have hfo1 := blk_frozen BO8.out 1
         have HLEN := Aside0.mk (show acc.length < 1000000 by have h1 := HAL.out; have h2 := HIK.out; have h3 := HG.out.2.2; omega)
         go_wp2_with ((with_reducible refine gate_builtin (b := .append) (xs := #[.tmp 69, .tmp 71]) rfl ?_); at_builtin; go_loud (refine Kd.R_append k25 (w0 := w) w.heap.size rfl (.tmp 69) (.tmp 71) 33 25 (.agg #[(.int .i64 0), (.int .i64 0), (.int .i64 0), (.int .i64 0)]) 32 rfl Try.underlying33 info25 rfl (by decide) (by omega) vC acc (⟨K, A, B, t⟩ : S25) [.int .i64 K, .int .i64 A, .int .i64 B, .int .i64 t] (fun q => w7.heap.size ≤ q) (fun _ => False) rfl rfl ?aP (fun _ hk => hk.elim) ?aF ?aO ?aB ?aS ?aL ?_; (case aP => exact k25_mkM _ _ _ _); (case aF => exact fun q hq => Nat.le_trans HSZ8.out hq); (case aO => exact Kd.R_mono HRC8.out (fun q hq => hq.1)); (case aB => exact HB8_.out); (case aS => exact HB8_.out.size); (case aL => have := HLEN.out; omega); intro v9 w17 ho hb hg hat; have hO : some gO ≠ vC.ownBlock := (fun e_ => by have h1 := HRC8.out.1 gO e_.symm; have h2 := GOL.out; have h3 := h1.1; omega); have hZ : some gz ≠ vC.ownBlock := (fun e_ => by have h1 := HRC8.out.1 gz e_.symm; have h2 := GZL.out; have h3 := h1.1; omega); have hR : some gR ≠ vC.ownBlock := (fun e_ => by have h1 := HRC8.out.1 gR e_.symm; have h2 := GRL.out; have h3 := h1.1; omega); have BO9 := Aside0.mk (blk_grown BO8.out hg hO); have BZ9 := Aside0.mk (blk_grown BZ8.out hg hZ); have BR9 := Aside0.mk (blk_grown BR8.out hg hR); have HRC9 := Aside0.mk ho; have HB9_ := Aside0.mk hb; have HSZ9 := Aside0.mk (Nat.le_trans HSZ8.out hg.size); clear hco0 hco1 hfo1; have hco1 := (blk_cell BO9.out 1).trans rfl; have hfo1 := blk_frozen BO9.out 1; obtain ⟨A9, c9, e9⟩ := Kd.R_slice ho; obtain ⟨n9, hn9⟩ : ∃ q, q = (acc ++ [(⟨K, A, B, t⟩ : S25)]).length := ⟨_, rfl⟩; rw [← hn9] at e9; subst e9; clear hn9 ho hb hg hat hO hZ hR))
         go_roundg d
         case measure => have := HIK.out; omega
         case rel => exact ⟨i + 1, _, z2, acc ++ [(⟨K, A, B, t⟩ : S25)], .slice A9 n9 c9, rfl, ⟨by have h1 := HIK.out; have h2 := HG.out.2.2; unfold wrap64; omega⟩, ⟨by have := HIK.out; omega⟩, ⟨by simp; exact HAL.out⟩, HM2, ⟨blk_far (p := ⟨gO, 1, none⟩) BZ9.out NZO.out _⟩, ⟨blk_put (cs := #[.int .i64 (l0.length : Int), vC]) BO9.out 1 _ rfl⟩, ⟨blk_far (p := ⟨gO, 1, none⟩) BR9.out NRO.out _⟩, ⟨Kd.R_far (p := ⟨gO, 1, none⟩) HRC9.out (fun q hq e_ => by have h1 := GOL.out; have h2 : q = gO := e_; have h3 : w7.heap.size ≤ q := hq; omega) _⟩, ⟨by simpa [World.setCell] using HSZ9.out⟩, ⟨below_set HB9_.out GOB.out⟩⟩
        ·have hk1b : (K == 1) = false := beq_eq_false_iff_ne.mpr (by omega)
         have hk4b : (K == 4) = true := beq_iff_eq.mpr hk4
         go_upto_region 14 with (fail)
         clear hk4 hk1b hk4b
         have hAe : Int.tmod z2 (l0.length : Int) = A := hAA
         have hBe : Int.tmod (wrap64 (A + 1)) (l0.length : Int) = B := hBB
         try go_wp2
         have BZ4 := Aside0.mk (blk_drew BZ3.out)
         have BO4 := Aside0.mk (blk_drew BO3.out)
         have BR4 := Aside0.mk (blk_drew BR3.out)
         have BC4 := Aside0.mk (blk_drew BC3.out)
         have HRC4 := Aside0.mk (Kd.R_drew HRC3.out)
         have HB4_ := Aside0.mk (below_drew1 HB3_.out)
         have HSZ4 := Aside0.mk (show w7.heap.size ≤ w11.drew.heap.size from HSZ3.out)
         clear BZ3 BO3 BR3 BC3 HRC3 HB3_ HSZ3
         clear hcc0 hcc1 hcc2 hcc3 hfc1 hfc2 hfc3
         refine start_ (n := 13) (S := fun _ => True) (ds := [10, 12]) #[false, false, false, false, false, false, false, false, false, false, false, false, false] (by kernel_rfl) rfl rfl trivial (fun _ => ?_)
         generalize w11.drew = w12 at BZ4 BO4 BR4 BC4 HRC4 HB4_ HSZ4 ⊢
         have hcc0 := (blk_cell BC4.out 0).trans rfl
         have hcc1 := (blk_cell BC4.out 1).trans rfl
         have hcc2 := (blk_cell BC4.out 2).trans rfl
         have hcc3 := (blk_cell BC4.out 3).trans rfl
         have hfc1 := blk_frozen BC4.out 1
         have hfc2 := blk_frozen BC4.out 2
         have hfc3 := blk_frozen BC4.out 3
         refine pure_ (i := 0) (N := some 48) (v := ?_) (a' := ?_) #[true, false, false, false, false, false, false, false, false, false, false, false, false] rfl rfl (by kernel_rfl) (fun _ _ _ h => h) (Or.inl ⟨by rfl, ?_⟩) ?_ ?_
         rotate_left
         ·intro w'
          go_simp
          with_reducible rfl
         rotate_left
         ·simp only [Act.put, List.setIfInBounds_toArray, List.set_cons_zero, List.set_cons_succ, i64_w, i32_w]
          rfl
         refine pure_ (i := 1) (N := some 49) (v := ?_) (a' := ?_) #[true, true, false, false, false, false, false, false, false, false, false, false, false] rfl rfl (by kernel_rfl) (fun _ _ _ h => h) (Or.inl ⟨by rfl, ?_⟩) ?_ ?_
         rotate_left
         ·intro w'
          go_simp
          with_reducible rfl
         rotate_left
         ·simp only [Act.put, List.setIfInBounds_toArray, List.set_cons_zero, List.set_cons_succ, i64_w, i32_w]
          rfl
         refine pure_ (i := 2) (N := some 50) (v := ?_) (a' := ?_) #[true, true, true, false, false, false, false, false, false, false, false, false, false] rfl rfl (by kernel_rfl) (fun _ _ _ h => h) (Or.inl ⟨by rfl, ?_⟩) ?_ ?_
         rotate_left
         ·intro w'
          go_simp
          with_reducible rfl
         rotate_left
         ·simp only [Act.put, List.setIfInBounds_toArray, List.set_cons_zero, List.set_cons_succ, i64_w, i32_w]
          rfl
         refine pure_ (i := 3) (N := some 51) (v := ?_) (a' := ?_) #[true, true, true, true, false, false, false, false, false, false, false, false, false] rfl rfl (by kernel_rfl) (fun _ _ _ h => h) (Or.inl ⟨by rfl, ?_⟩) ?_ ?_
         rotate_left
         ·intro w'
          go_simp
          with_reducible rfl
         rotate_left
         ·simp only [Act.put, List.setIfInBounds_toArray, List.set_cons_zero, List.set_cons_succ, i64_w, i32_w]
          rfl
         refine pure_ (i := 4) (N := some 52) (v := ?_) (a' := ?_) #[true, true, true, true, true, false, false, false, false, false, false, false, false] rfl rfl (by kernel_rfl) (fun _ _ _ h => h) (Or.inl ⟨by rfl, ?_⟩) ?_ ?_
         rotate_left
         ·intro w'
          go_simp
          with_reducible rfl
         rotate_left
         ·simp only [Act.put, List.setIfInBounds_toArray, List.set_cons_zero, List.set_cons_succ, i64_w, i32_w]
          rfl
         refine pure_ (i := 5) (N := some 53) (v := ?_) (a' := ?_) #[true, true, true, true, true, true, false, false, false, false, false, false, false] rfl rfl (by kernel_rfl) (fun _ _ _ h => h) (Or.inl ⟨by rfl, ?_⟩) ?_ ?_
         rotate_left
         ·intro w'
          go_simp
          with_reducible rfl
         rotate_left
         ·simp only [Act.put, List.setIfInBounds_toArray, List.set_cons_zero, List.set_cons_succ, i64_w, i32_w]
          rfl
         refine pure_ (i := 6) (N := some 54) (v := ?_) (a' := ?_) #[true, true, true, true, true, true, true, false, false, false, false, false, false] rfl rfl (by kernel_rfl) (fun _ _ _ h => h) (Or.inl ⟨by rfl, ?_⟩) ?_ ?_
         rotate_left
         ·intro w'
          go_simp
          with_reducible rfl
         rotate_left
         ·simp only [Act.put, List.setIfInBounds_toArray, List.set_cons_zero, List.set_cons_succ, i64_w, i32_w]
          rfl
         refine pure_ (i := 7) (N := some 55) (v := ?_) (a' := ?_) #[true, true, true, true, true, true, true, true, false, false, false, false, false] rfl rfl (by kernel_rfl) (fun _ _ _ h => h) (Or.inl ⟨by rfl, ?_⟩) ?_ ?_
         rotate_left
         ·intro w'
          go_simp
          with_reducible rfl
         rotate_left
         ·simp only [Act.put, List.setIfInBounds_toArray, List.set_cons_zero, List.set_cons_succ, i64_w, i32_w]
          rfl
         refine pure_ (i := 8) (N := some 56) (v := ?_) (a' := ?_) #[true, true, true, true, true, true, true, true, true, false, false, false, false] rfl rfl (by kernel_rfl) (fun _ _ _ h => h) (Or.inl ⟨by rfl, ?_⟩) ?_ ?_
         rotate_left
         ·intro w'
          go_simp
          with_reducible rfl
         rotate_left
         ·simp only [Act.put, List.setIfInBounds_toArray, List.set_cons_zero, List.set_cons_succ, i64_w, i32_w]
          rfl
         refine pure_ (i := 9) (N := some 57) (v := ?_) (a' := ?_) #[true, true, true, true, true, true, true, true, true, true, false, false, false] rfl rfl (by kernel_rfl) (fun _ _ _ h => h) (Or.inl ⟨by rfl, ?_⟩) ?_ ?_
         rotate_left
         ·intro w'
          go_simp
          with_reducible rfl
         rotate_left
         ·simp only [Act.put, List.setIfInBounds_toArray, List.set_cons_zero, List.set_cons_succ, i64_w, i32_w]
          rfl
         refine last_ (i := 10) (N := none) #[true, true, true, true, true, true, true, true, true, true, true, false, false] rfl rfl (by kernel_rfl) (by decide) (fun K_ hK => ?_)
         refine skip_ (w1 := ?_) (by rfl) rfl ?_ ?_
         rotate_left
         ·go_simp
          rfl
         refine hK.out _ _ ?_
         clear hK K_
         have BC5 := Aside0.mk (show (w12.setCell ⟨gc, 1, none⟩ (.int .i64 A)).heap[gc]? = some (.cells #[.int .i64 K, .int .i64 A, .int .i64 0, .int .i64 0] 25 (0, 0)) from blk_put (cs := #[.int .i64 K, .int .i64 0, .int .i64 0, .int .i64 0]) BC4.out 1 _ rfl)
         have BZ5 := Aside0.mk (blk_far (p := ⟨gc, 1, none⟩) BZ4.out NCZ.out.symm (.int .i64 A))
         have BO5 := Aside0.mk (blk_far (p := ⟨gc, 1, none⟩) BO4.out NCO.out.symm (.int .i64 A))
         have BR5 := Aside0.mk (blk_far (p := ⟨gc, 1, none⟩) BR4.out NCR.out.symm (.int .i64 A))
         have HRC5 := Aside0.mk (Kd.R_far (p := ⟨gc, 1, none⟩) HRC4.out (fun q hq e_ => by have h2 : q = gc := e_; have h3 := hq.2; omega) (.int .i64 A))
         have HB5_ := Aside0.mk (below_set HB4_.out GCB.out (v := .int .i64 A) (j := 1))
         have HSZ5 := Aside0.mk (show w7.heap.size ≤ (w12.setCell ⟨gc, 1, none⟩ (.int .i64 A)).heap.size by simpa [World.setCell] using HSZ4.out)
         clear BZ4 BO4 BR4 BC4 HRC4 HB4_ HSZ4
         clear hcc0 hcc1 hcc2 hcc3 hfc1 hfc2 hfc3
         generalize hW : w12.setCell ⟨gc, 1, none⟩ (.int .i64 A) = w13 at BZ5 BO5 BR5 BC5 HRC5 HB5_ HSZ5 ⊢
         clear hW
         have hcc0 := (blk_cell BC5.out 0).trans rfl
         have hcc1 := (blk_cell BC5.out 1).trans rfl
         have hcc2 := (blk_cell BC5.out 2).trans rfl
         have hcc3 := (blk_cell BC5.out 3).trans rfl
         have hfc1 := blk_frozen BC5.out 1
         have hfc2 := blk_frozen BC5.out 2
         have hfc3 := blk_frozen BC5.out 3
         refine pure_ (i := 11) (N := some 58) (v := ?_) (a' := ?_) #[true, true, true, true, true, true, true, true, true, true, true, true, false] rfl rfl (by kernel_rfl) (fun _ _ _ h => h) (Or.inl ⟨by rfl, ?_⟩) ?_ ?_
         rotate_left
         ·intro w'
          go_simp
          with_reducible rfl
         rotate_left
         ·simp only [Act.put, List.setIfInBounds_toArray, List.set_cons_zero, List.set_cons_succ, i64_w, i32_w]
          rfl
         refine last_ (i := 12) (N := none) #[true, true, true, true, true, true, true, true, true, true, true, true, true] rfl rfl (by kernel_rfl) (by decide) (fun K_ hK => ?_)
         refine skip_ (w1 := ?_) (by rfl) rfl ?_ ?_
         rotate_left
         ·go_simp
          rfl
         refine hK.out _ _ ?_
         clear hK K_
         have BC6 := Aside0.mk (show (w13.setCell ⟨gc, 2, none⟩ (.int .i64 B)).heap[gc]? = some (.cells #[.int .i64 K, .int .i64 A, .int .i64 B, .int .i64 0] 25 (0, 0)) from blk_put (cs := #[.int .i64 K, .int .i64 A, .int .i64 0, .int .i64 0]) BC5.out 2 _ rfl)
         have BZ6 := Aside0.mk (blk_far (p := ⟨gc, 2, none⟩) BZ5.out NCZ.out.symm (.int .i64 B))
         have BO6 := Aside0.mk (blk_far (p := ⟨gc, 2, none⟩) BO5.out NCO.out.symm (.int .i64 B))
         have BR6 := Aside0.mk (blk_far (p := ⟨gc, 2, none⟩) BR5.out NCR.out.symm (.int .i64 B))
         have HRC6 := Aside0.mk (Kd.R_far (p := ⟨gc, 2, none⟩) HRC5.out (fun q hq e_ => by have h2 : q = gc := e_; have h3 := hq.2; omega) (.int .i64 B))
         have HB6_ := Aside0.mk (below_set HB5_.out GCB.out (v := .int .i64 B) (j := 2))
         have HSZ6 := Aside0.mk (show w7.heap.size ≤ (w13.setCell ⟨gc, 2, none⟩ (.int .i64 B)).heap.size by simpa [World.setCell] using HSZ5.out)
         clear BZ5 BO5 BR5 BC5 HRC5 HB5_ HSZ5
         clear hcc0 hcc1 hcc2 hcc3 hfc1 hfc2 hfc3
         generalize hW : w13.setCell ⟨gc, 2, none⟩ (.int .i64 B) = w14 at BZ6 BO6 BR6 BC6 HRC6 HB6_ HSZ6 ⊢
         clear hW
         refine done_ (by kernel_rfl) ?_
         have hcc0 := (blk_cell BC6.out 0).trans rfl
         have hcc1 := (blk_cell BC6.out 1).trans rfl
         have hcc2 := (blk_cell BC6.out 2).trans rfl
         have hcc3 := (blk_cell BC6.out 3).trans rfl
         have hfc1 := blk_frozen BC6.out 1
         have hfc2 := blk_frozen BC6.out 2
         have hfc3 := blk_frozen BC6.out 3
         go_upto_region 18 with (go_at_call 74; go_loud ((with_reducible refine (impl_told.calls k K A B 0 A0 c0 l0 t w14 (Kd.C_below HR0.out HB6_.out) hc0 HT.out).mono ?_); rintro e w15 ⟨rfl, hb⟩; have BZ7 := Aside0.mk (blk_below BZ6.out hb); have BO7 := Aside0.mk (blk_below BO6.out hb); have BR7 := Aside0.mk (blk_below BR6.out hb); have BC7 := Aside0.mk (blk_below BC6.out hb); have HRC7 := Aside0.mk (Kd.R_below HRC6.out hb); have HB7_ := Aside0.mk (below_step HB6_.out hb); have HSZ7 := Aside0.mk (Nat.le_trans HSZ6.out hb.size); clear hb hcc0 hcc1 hcc2 hcc3 hfc1 hfc2 hfc3 BZ6 BO6 BR6 BC6 HRC6 HB6_ HSZ6; have hcc0 := (blk_cell BC7.out 0).trans rfl; have hcc1 := (blk_cell BC7.out 1).trans rfl; have hcc2 := (blk_cell BC7.out 2).trans rfl; have hcc3 := (blk_cell BC7.out 3).trans rfl; have hfc3 := blk_frozen BC7.out 3))
         have BC8 := Aside0.mk (show (w15.setCell ⟨gc, 3, none⟩ (.int .i64 t)).heap[gc]? = some (.cells #[.int .i64 K, .int .i64 A, .int .i64 B, .int .i64 t] 25 (0, 0)) from blk_put (cs := #[.int .i64 K, .int .i64 A, .int .i64 B, .int .i64 0]) BC7.out 3 _ rfl)
         have BZ8 := Aside0.mk (blk_far (p := ⟨gc, 3, none⟩) BZ7.out NCZ.out.symm (.int .i64 t))
         have BO8 := Aside0.mk (blk_far (p := ⟨gc, 3, none⟩) BO7.out NCO.out.symm (.int .i64 t))
         have BR8 := Aside0.mk (blk_far (p := ⟨gc, 3, none⟩) BR7.out NCR.out.symm (.int .i64 t))
         have HRC8 := Aside0.mk (Kd.R_far (p := ⟨gc, 3, none⟩) HRC7.out (fun q hq e_ => by have h2 : q = gc := e_; have h3 := hq.2; omega) (.int .i64 t))
         have HB8_ := Aside0.mk (below_set HB7_.out GCB.out (v := .int .i64 t) (j := 3))
         have HSZ8 := Aside0.mk (show w7.heap.size ≤ (w15.setCell ⟨gc, 3, none⟩ (.int .i64 t)).heap.size by simpa [World.setCell] using HSZ7.out)
         clear BZ7 BO7 BR7 BC7 HRC7 HB7_ HSZ7
         clear hcc0 hcc1 hcc2 hcc3 hfc3
         generalize hW : w15.setCell ⟨gc, 3, none⟩ (.int .i64 t) = w16 at BZ8 BO8 BR8 BC8 HRC8 HB8_ HSZ8 ⊢
         clear hW
         have hcc0 := (blk_cell BC8.out 0).trans rfl
         have hcc1 := (blk_cell BC8.out 1).trans rfl
         have hcc2 := (blk_cell BC8.out 2).trans rfl
         have hcc3 := (blk_cell BC8.out 3).trans rfl
         have hco0 := (blk_cell BO8.out 0).trans rfl
         have hco1 := (blk_cell BO8.out 1).trans rfl
         have hfo1 := blk_frozen BO8.out 1
         have HLEN := Aside0.mk (show acc.length < 1000000 by have h1 := HAL.out; have h2 := HIK.out; have h3 := HG.out.2.2; omega)
         go_wp2_with ((with_reducible refine gate_builtin (b := .append) (xs := #[.tmp 69, .tmp 71]) rfl ?_); at_builtin; go_loud (refine Kd.R_append k25 (w0 := w) w.heap.size rfl (.tmp 69) (.tmp 71) 33 25 (.agg #[(.int .i64 0), (.int .i64 0), (.int .i64 0), (.int .i64 0)]) 32 rfl Try.underlying33 info25 rfl (by decide) (by omega) vC acc (⟨K, A, B, t⟩ : S25) [.int .i64 K, .int .i64 A, .int .i64 B, .int .i64 t] (fun q => w7.heap.size ≤ q) (fun _ => False) rfl rfl ?aP (fun _ hk => hk.elim) ?aF ?aO ?aB ?aS ?aL ?_; (case aP => exact k25_mkM _ _ _ _); (case aF => exact fun q hq => Nat.le_trans HSZ8.out hq); (case aO => exact Kd.R_mono HRC8.out (fun q hq => hq.1)); (case aB => exact HB8_.out); (case aS => exact HB8_.out.size); (case aL => have := HLEN.out; omega); intro v9 w17 ho hb hg hat; have hO : some gO ≠ vC.ownBlock := (fun e_ => by have h1 := HRC8.out.1 gO e_.symm; have h2 := GOL.out; have h3 := h1.1; omega); have hZ : some gz ≠ vC.ownBlock := (fun e_ => by have h1 := HRC8.out.1 gz e_.symm; have h2 := GZL.out; have h3 := h1.1; omega); have hR : some gR ≠ vC.ownBlock := (fun e_ => by have h1 := HRC8.out.1 gR e_.symm; have h2 := GRL.out; have h3 := h1.1; omega); have BO9 := Aside0.mk (blk_grown BO8.out hg hO); have BZ9 := Aside0.mk (blk_grown BZ8.out hg hZ); have BR9 := Aside0.mk (blk_grown BR8.out hg hR); have HRC9 := Aside0.mk ho; have HB9_ := Aside0.mk hb; have HSZ9 := Aside0.mk (Nat.le_trans HSZ8.out hg.size); clear hco0 hco1 hfo1; have hco1 := (blk_cell BO9.out 1).trans rfl; have hfo1 := blk_frozen BO9.out 1; obtain ⟨A9, c9, e9⟩ := Kd.R_slice ho; obtain ⟨n9, hn9⟩ : ∃ q, q = (acc ++ [(⟨K, A, B, t⟩ : S25)]).length := ⟨_, rfl⟩; rw [← hn9] at e9; subst e9; clear hn9 ho hb hg hat hO hZ hR))
         go_roundg d
         case measure => have := HIK.out; omega
         case rel => exact ⟨i + 1, _, z2, acc ++ [(⟨K, A, B, t⟩ : S25)], .slice A9 n9 c9, rfl, ⟨by have h1 := HIK.out; have h2 := HG.out.2.2; unfold wrap64; omega⟩, ⟨by have := HIK.out; omega⟩, ⟨by simp; exact HAL.out⟩, HM2, ⟨blk_far (p := ⟨gO, 1, none⟩) BZ9.out NZO.out _⟩, ⟨blk_put (cs := #[.int .i64 (l0.length : Int), vC]) BO9.out 1 _ rfl⟩, ⟨blk_far (p := ⟨gO, 1, none⟩) BR9.out NRO.out _⟩, ⟨Kd.R_far (p := ⟨gO, 1, none⟩) HRC9.out (fun q hq e_ => by have h1 := GOL.out; have h2 : q = gO := e_; have h3 : w7.heap.size ≤ q := hq; omega) _⟩, ⟨by simpa [World.setCell] using HSZ9.out⟩, ⟨below_set HB9_.out GOB.out⟩⟩
       ·have hk1b : (K == 1) = false := beq_eq_false_iff_ne.mpr (fun e_ => hk14 (.inl e_))
        have hk4b : (K == 4) = false := beq_eq_false_iff_ne.mpr (fun e_ => hk14 (.inr e_))
        have hB0 : B = 0 := by have := HB2.out; unfold clB at this; rw [if_neg hk14] at this; exact this
        by_cases hk2 : K = 2
        ·have hk2b : (K == 2) = true := beq_iff_eq.mpr hk2
         have hAA : Int.tmod z2 6 = A := by have := HA2.out; unfold clA at this; rw [if_neg hk14, if_pos hk2] at this; exact this.symm
         subst hB0
         go_upto_region 17 with (fail)
         clear hk14 hk1b hk4b hk2 hk2b hAA
         have BC6 := Aside0.mk (show (w11.setCell ⟨gc, 1, none⟩ (.int .i64 A)).heap[gc]? = some (.cells #[.int .i64 K, .int .i64 A, .int .i64 0, .int .i64 0] 25 (0, 0)) from blk_put (cs := #[.int .i64 K, .int .i64 0, .int .i64 0, .int .i64 0]) BC3.out 1 _ rfl)
         have BZ6 := Aside0.mk (blk_far (p := ⟨gc, 1, none⟩) BZ3.out NCZ.out.symm (.int .i64 A))
         have BO6 := Aside0.mk (blk_far (p := ⟨gc, 1, none⟩) BO3.out NCO.out.symm (.int .i64 A))
         have BR6 := Aside0.mk (blk_far (p := ⟨gc, 1, none⟩) BR3.out NCR.out.symm (.int .i64 A))
         have HRC6 := Aside0.mk (Kd.R_far (p := ⟨gc, 1, none⟩) HRC3.out (fun q hq e_ => by have h2 : q = gc := e_; have h3 := hq.2; omega) (.int .i64 A))
         have HB6_ := Aside0.mk (below_set HB3_.out GCB.out (v := .int .i64 A) (j := 1))
         have HSZ6 := Aside0.mk (show w7.heap.size ≤ (w11.setCell ⟨gc, 1, none⟩ (.int .i64 A)).heap.size by simpa [World.setCell] using HSZ3.out)
         clear BZ3 BO3 BR3 BC3 HRC3 HB3_ HSZ3
         clear hcc0 hcc1 hcc2 hcc3 hfc1 hfc2 hfc3
         generalize hW : w11.setCell ⟨gc, 1, none⟩ (.int .i64 A) = w14 at BZ6 BO6 BR6 BC6 HRC6 HB6_ HSZ6 ⊢
         clear hW
         have hcc0 := (blk_cell BC6.out 0).trans rfl
         have hcc1 := (blk_cell BC6.out 1).trans rfl
         have hcc2 := (blk_cell BC6.out 2).trans rfl
         have hcc3 := (blk_cell BC6.out 3).trans rfl
         have hfc1 := blk_frozen BC6.out 1
         have hfc2 := blk_frozen BC6.out 2
         have hfc3 := blk_frozen BC6.out 3
         go_upto_region 18 with (go_at_call 74; go_loud ((with_reducible refine (impl_told.calls k K A 0 0 A0 c0 l0 t w14 (Kd.C_below HR0.out HB6_.out) hc0 HT.out).mono ?_); rintro e w15 ⟨rfl, hb⟩; have BZ7 := Aside0.mk (blk_below BZ6.out hb); have BO7 := Aside0.mk (blk_below BO6.out hb); have BR7 := Aside0.mk (blk_below BR6.out hb); have BC7 := Aside0.mk (blk_below BC6.out hb); have HRC7 := Aside0.mk (Kd.R_below HRC6.out hb); have HB7_ := Aside0.mk (below_step HB6_.out hb); have HSZ7 := Aside0.mk (Nat.le_trans HSZ6.out hb.size); clear hb hcc0 hcc1 hcc2 hcc3 hfc1 hfc2 hfc3 BZ6 BO6 BR6 BC6 HRC6 HB6_ HSZ6; have hcc0 := (blk_cell BC7.out 0).trans rfl; have hcc1 := (blk_cell BC7.out 1).trans rfl; have hcc2 := (blk_cell BC7.out 2).trans rfl; have hcc3 := (blk_cell BC7.out 3).trans rfl; have hfc3 := blk_frozen BC7.out 3))
         have BC8 := Aside0.mk (show (w15.setCell ⟨gc, 3, none⟩ (.int .i64 t)).heap[gc]? = some (.cells #[.int .i64 K, .int .i64 A, .int .i64 0, .int .i64 t] 25 (0, 0)) from blk_put (cs := #[.int .i64 K, .int .i64 A, .int .i64 0, .int .i64 0]) BC7.out 3 _ rfl)
         have BZ8 := Aside0.mk (blk_far (p := ⟨gc, 3, none⟩) BZ7.out NCZ.out.symm (.int .i64 t))
         have BO8 := Aside0.mk (blk_far (p := ⟨gc, 3, none⟩) BO7.out NCO.out.symm (.int .i64 t))
         have BR8 := Aside0.mk (blk_far (p := ⟨gc, 3, none⟩) BR7.out NCR.out.symm (.int .i64 t))
         have HRC8 := Aside0.mk (Kd.R_far (p := ⟨gc, 3, none⟩) HRC7.out (fun q hq e_ => by have h2 : q = gc := e_; have h3 := hq.2; omega) (.int .i64 t))
         have HB8_ := Aside0.mk (below_set HB7_.out GCB.out (v := .int .i64 t) (j := 3))
         have HSZ8 := Aside0.mk (show w7.heap.size ≤ (w15.setCell ⟨gc, 3, none⟩ (.int .i64 t)).heap.size by simpa [World.setCell] using HSZ7.out)
         clear BZ7 BO7 BR7 BC7 HRC7 HB7_ HSZ7
         clear hcc0 hcc1 hcc2 hcc3 hfc3
         generalize hW : w15.setCell ⟨gc, 3, none⟩ (.int .i64 t) = w16 at BZ8 BO8 BR8 BC8 HRC8 HB8_ HSZ8 ⊢
         clear hW
         have hcc0 := (blk_cell BC8.out 0).trans rfl
         have hcc1 := (blk_cell BC8.out 1).trans rfl
         have hcc2 := (blk_cell BC8.out 2).trans rfl
         have hcc3 := (blk_cell BC8.out 3).trans rfl
         have hco0 := (blk_cell BO8.out 0).trans rfl
         have hco1 := (blk_cell BO8.out 1).trans rfl
         have hfo1 := blk_frozen BO8.out 1
         have HLEN := Aside0.mk (show acc.length < 1000000 by have h1 := HAL.out; have h2 := HIK.out; have h3 := HG.out.2.2; omega)
         go_wp2_with ((with_reducible refine gate_builtin (b := .append) (xs := #[.tmp 69, .tmp 71]) rfl ?_); at_builtin; go_loud (refine Kd.R_append k25 (w0 := w) w.heap.size rfl (.tmp 69) (.tmp 71) 33 25 (.agg #[(.int .i64 0), (.int .i64 0), (.int .i64 0), (.int .i64 0)]) 32 rfl Try.underlying33 info25 rfl (by decide) (by omega) vC acc (⟨K, A, 0, t⟩ : S25) [.int .i64 K, .int .i64 A, .int .i64 0, .int .i64 t] (fun q => w7.heap.size ≤ q) (fun _ => False) rfl rfl ?aP (fun _ hk => hk.elim) ?aF ?aO ?aB ?aS ?aL ?_; (case aP => exact k25_mkM _ _ _ _); (case aF => exact fun q hq => Nat.le_trans HSZ8.out hq); (case aO => exact Kd.R_mono HRC8.out (fun q hq => hq.1)); (case aB => exact HB8_.out); (case aS => exact HB8_.out.size); (case aL => have := HLEN.out; omega); intro v9 w17 ho hb hg hat; have hO : some gO ≠ vC.ownBlock := (fun e_ => by have h1 := HRC8.out.1 gO e_.symm; have h2 := GOL.out; have h3 := h1.1; omega); have hZ : some gz ≠ vC.ownBlock := (fun e_ => by have h1 := HRC8.out.1 gz e_.symm; have h2 := GZL.out; have h3 := h1.1; omega); have hR : some gR ≠ vC.ownBlock := (fun e_ => by have h1 := HRC8.out.1 gR e_.symm; have h2 := GRL.out; have h3 := h1.1; omega); have BO9 := Aside0.mk (blk_grown BO8.out hg hO); have BZ9 := Aside0.mk (blk_grown BZ8.out hg hZ); have BR9 := Aside0.mk (blk_grown BR8.out hg hR); have HRC9 := Aside0.mk ho; have HB9_ := Aside0.mk hb; have HSZ9 := Aside0.mk (Nat.le_trans HSZ8.out hg.size); clear hco0 hco1 hfo1; have hco1 := (blk_cell BO9.out 1).trans rfl; have hfo1 := blk_frozen BO9.out 1; obtain ⟨A9, c9, e9⟩ := Kd.R_slice ho; obtain ⟨n9, hn9⟩ : ∃ q, q = (acc ++ [(⟨K, A, 0, t⟩ : S25)]).length := ⟨_, rfl⟩; rw [← hn9] at e9; subst e9; clear hn9 ho hb hg hat hO hZ hR))
         go_roundg d
         case measure => have := HIK.out; omega
         case rel => exact ⟨i + 1, _, z2, acc ++ [(⟨K, A, 0, t⟩ : S25)], .slice A9 n9 c9, rfl, ⟨by have h1 := HIK.out; have h2 := HG.out.2.2; unfold wrap64; omega⟩, ⟨by have := HIK.out; omega⟩, ⟨by simp; exact HAL.out⟩, HM2, ⟨blk_far (p := ⟨gO, 1, none⟩) BZ9.out NZO.out _⟩, ⟨blk_put (cs := #[.int .i64 (l0.length : Int), vC]) BO9.out 1 _ rfl⟩, ⟨blk_far (p := ⟨gO, 1, none⟩) BR9.out NRO.out _⟩, ⟨Kd.R_far (p := ⟨gO, 1, none⟩) HRC9.out (fun q hq e_ => by have h1 := GOL.out; have h2 : q = gO := e_; have h3 : w7.heap.size ≤ q := hq; omega) _⟩, ⟨by simpa [World.setCell] using HSZ9.out⟩, ⟨below_set HB9_.out GOB.out⟩⟩
        ·have hk2b : (K == 2) = false := beq_eq_false_iff_ne.mpr hk2
         have hA0 : A = 0 := by have := HA2.out; unfold clA at this; rw [if_neg hk14, if_neg hk2] at this; exact this
         subst hB0
         subst hA0
         go_upto_region 17 with (fail)
         clear hk14 hk1b hk4b hk2 hk2b hcc0 hcc1 hcc2 hcc3 hfc1 hfc2 hfc3
         have hcc0 := (blk_cell BC3.out 0).trans rfl
         have hcc1 := (blk_cell BC3.out 1).trans rfl
         have hcc2 := (blk_cell BC3.out 2).trans rfl
         have hcc3 := (blk_cell BC3.out 3).trans rfl
         have hfc1 := blk_frozen BC3.out 1
         have hfc2 := blk_frozen BC3.out 2
         have hfc3 := blk_frozen BC3.out 3
         go_upto_region 18 with (go_at_call 74; go_loud ((with_reducible refine (impl_told.calls k K 0 0 0 A0 c0 l0 t w11 (Kd.C_below HR0.out HB3_.out) hc0 HT.out).mono ?_); rintro e w15 ⟨rfl, hb⟩; have BZ7 := Aside0.mk (blk_below BZ3.out hb); have BO7 := Aside0.mk (blk_below BO3.out hb); have BR7 := Aside0.mk (blk_below BR3.out hb); have BC7 := Aside0.mk (blk_below BC3.out hb); have HRC7 := Aside0.mk (Kd.R_below HRC3.out hb); have HB7_ := Aside0.mk (below_step HB3_.out hb); have HSZ7 := Aside0.mk (Nat.le_trans HSZ3.out hb.size); clear hb hcc0 hcc1 hcc2 hcc3 hfc1 hfc2 hfc3 BZ3 BO3 BR3 BC3 HRC3 HB3_ HSZ3; have hcc0 := (blk_cell BC7.out 0).trans rfl; have hcc1 := (blk_cell BC7.out 1).trans rfl; have hcc2 := (blk_cell BC7.out 2).trans rfl; have hcc3 := (blk_cell BC7.out 3).trans rfl; have hfc3 := blk_frozen BC7.out 3))
         have BC8 := Aside0.mk (show (w15.setCell ⟨gc, 3, none⟩ (.int .i64 t)).heap[gc]? = some (.cells #[.int .i64 K, .int .i64 0, .int .i64 0, .int .i64 t] 25 (0, 0)) from blk_put (cs := #[.int .i64 K, .int .i64 0, .int .i64 0, .int .i64 0]) BC7.out 3 _ rfl)
         have BZ8 := Aside0.mk (blk_far (p := ⟨gc, 3, none⟩) BZ7.out NCZ.out.symm (.int .i64 t))
         have BO8 := Aside0.mk (blk_far (p := ⟨gc, 3, none⟩) BO7.out NCO.out.symm (.int .i64 t))
         have BR8 := Aside0.mk (blk_far (p := ⟨gc, 3, none⟩) BR7.out NCR.out.symm (.int .i64 t))
         have HRC8 := Aside0.mk (Kd.R_far (p := ⟨gc, 3, none⟩) HRC7.out (fun q hq e_ => by have h2 : q = gc := e_; have h3 := hq.2; omega) (.int .i64 t))
         have HB8_ := Aside0.mk (below_set HB7_.out GCB.out (v := .int .i64 t) (j := 3))
         have HSZ8 := Aside0.mk (show w7.heap.size ≤ (w15.setCell ⟨gc, 3, none⟩ (.int .i64 t)).heap.size by simpa [World.setCell] using HSZ7.out)
         clear BZ7 BO7 BR7 BC7 HRC7 HB7_ HSZ7
         clear hcc0 hcc1 hcc2 hcc3 hfc3
         generalize hW : w15.setCell ⟨gc, 3, none⟩ (.int .i64 t) = w16 at BZ8 BO8 BR8 BC8 HRC8 HB8_ HSZ8 ⊢
         clear hW
         have hcc0 := (blk_cell BC8.out 0).trans rfl
         have hcc1 := (blk_cell BC8.out 1).trans rfl
         have hcc2 := (blk_cell BC8.out 2).trans rfl
         have hcc3 := (blk_cell BC8.out 3).trans rfl
         have hco0 := (blk_cell BO8.out 0).trans rfl
         have hco1 := (blk_cell BO8.out 1).trans rfl
         have hfo1 := blk_frozen BO8.out 1
         have HLEN := Aside0.mk (show acc.length < 1000000 by have h1 := HAL.out; have h2 := HIK.out; have h3 := HG.out.2.2; omega)
         go_wp2_with ((with_reducible refine gate_builtin (b := .append) (xs := #[.tmp 69, .tmp 71]) rfl ?_); at_builtin; go_loud (refine Kd.R_append k25 (w0 := w) w.heap.size rfl (.tmp 69) (.tmp 71) 33 25 (.agg #[(.int .i64 0), (.int .i64 0), (.int .i64 0), (.int .i64 0)]) 32 rfl Try.underlying33 info25 rfl (by decide) (by omega) vC acc (⟨K, 0, 0, t⟩ : S25) [.int .i64 K, .int .i64 0, .int .i64 0, .int .i64 t] (fun q => w7.heap.size ≤ q) (fun _ => False) rfl rfl ?aP (fun _ hk => hk.elim) ?aF ?aO ?aB ?aS ?aL ?_; (case aP => exact k25_mkM _ _ _ _); (case aF => exact fun q hq => Nat.le_trans HSZ8.out hq); (case aO => exact Kd.R_mono HRC8.out (fun q hq => hq.1)); (case aB => exact HB8_.out); (case aS => exact HB8_.out.size); (case aL => have := HLEN.out; omega); intro v9 w17 ho hb hg hat; have hO : some gO ≠ vC.ownBlock := (fun e_ => by have h1 := HRC8.out.1 gO e_.symm; have h2 := GOL.out; have h3 := h1.1; omega); have hZ : some gz ≠ vC.ownBlock := (fun e_ => by have h1 := HRC8.out.1 gz e_.symm; have h2 := GZL.out; have h3 := h1.1; omega); have hR : some gR ≠ vC.ownBlock := (fun e_ => by have h1 := HRC8.out.1 gR e_.symm; have h2 := GRL.out; have h3 := h1.1; omega); have BO9 := Aside0.mk (blk_grown BO8.out hg hO); have BZ9 := Aside0.mk (blk_grown BZ8.out hg hZ); have BR9 := Aside0.mk (blk_grown BR8.out hg hR); have HRC9 := Aside0.mk ho; have HB9_ := Aside0.mk hb; have HSZ9 := Aside0.mk (Nat.le_trans HSZ8.out hg.size); clear hco0 hco1 hfo1; have hco1 := (blk_cell BO9.out 1).trans rfl; have hfo1 := blk_frozen BO9.out 1; obtain ⟨A9, c9, e9⟩ := Kd.R_slice ho; obtain ⟨n9, hn9⟩ : ∃ q, q = (acc ++ [(⟨K, 0, 0, t⟩ : S25)]).length := ⟨_, rfl⟩; rw [← hn9] at e9; subst e9; clear hn9 ho hb hg hat hO hZ hR))
         go_roundg d
         case measure => have := HIK.out; omega
         case rel => exact ⟨i + 1, _, z2, acc ++ [(⟨K, 0, 0, t⟩ : S25)], .slice A9 n9 c9, rfl, ⟨by have h1 := HIK.out; have h2 := HG.out.2.2; unfold wrap64; omega⟩, ⟨by have := HIK.out; omega⟩, ⟨by simp; exact HAL.out⟩, HM2, ⟨blk_far (p := ⟨gO, 1, none⟩) BZ9.out NZO.out _⟩, ⟨blk_put (cs := #[.int .i64 (l0.length : Int), vC]) BO9.out 1 _ rfl⟩, ⟨blk_far (p := ⟨gO, 1, none⟩) BR9.out NRO.out _⟩, ⟨Kd.R_far (p := ⟨gO, 1, none⟩) HRC9.out (fun q hq e_ => by have h1 := GOL.out; have h2 : q = gO := e_; have h3 : w7.heap.size ≤ q := hq; omega) _⟩, ⟨by simpa [World.setCell] using HSZ9.out⟩, ⟨below_set HB9_.out GOB.out⟩⟩
    ·rw [if_neg hg] at h2
     cases h2

/-! ### laws_markIntS: function 35 -/
def laws_markIntS.l0 : Nat → List Int → Int → Int → Option (Int × List Int)
 | 0, _, _, _ => none
 | k + 1, x0, x1, x5 => if x5 < (x0.length : Int) then (if 0 ≤ x5 then (laws_markIntS.l0 k (x0.set (x5 : Int).toNat x1) (wrap64 (x1 + 1)) (wrap64 (x5 + 1))) else (none)) else (some (x1, x0))
def laws_markIntS.f (k : Nat) (l0 : List Int) (a1 : Int) : Option (Int × List Int) := laws_markIntS.l0 k l0 a1 0
theorem laws_markIntS.mono_l : ∀ k, (∀ y0 y1 y2, LeO (laws_markIntS.l0 k y0 y1 y2) (laws_markIntS.l0 (k + 1) y0 y1 y2))
 | 0 => fun _ _ _ r h => by simp [laws_markIntS.l0] at h
 | k + 1 => by
  have ih0 := laws_markIntS.mono_l k
  ·intro y0 y1 y2
   unfold laws_markIntS.l0
   repeat' first
   | (with_reducible exact ih0 _ _ _)
   | (with_reducible exact LeO.refl _)
   | (with_reducible exact LeO.none _)
   | (with_reducible refine LeO.ite ?_ ?_)
   | (with_reducible refine LeO.bind ?_ (fun _ => ?_))
   | exact ih0 _ _ _
   | exact LeO.none _
   | refine LeO.ite ?_ ?_
   | refine LeO.bind ?_ (fun _ => ?_)
theorem laws_markIntS.mono : ∀ a0 a1 k, LeO (laws_markIntS.f k a0 a1) (laws_markIntS.f (k + 1) a0 a1) := by
 intro a0 a1 k
 have ih0 := laws_markIntS.mono_l k
 unfold laws_markIntS.f
 repeat' first
   | (with_reducible exact ih0 _ _ _)
   | (with_reducible exact LeO.refl _)
   | (with_reducible exact LeO.none _)
   | (with_reducible refine LeO.ite ?_ ?_)
   | (with_reducible refine LeO.bind ?_ (fun _ => ?_))
   | exact ih0 _ _ _
   | exact LeO.none _
   | refine LeO.ite ?_ ?_
   | refine LeO.bind ?_ (fun _ => ?_)
set_option maxHeartbeats 8000000 in
set_option maxRecDepth 100000 in
theorem laws_markIntS.calls (k : Nat) (P0_ : Nat → Prop) (u9000_ : Value) (l0 : List Int) (a1 : Int) (r1 : Int) (r2 : List Int) (w0 w : World) (hB : Below w0.heap.size w0 w) (ho0 : Kd.R (Kd.int .i64) 3 w w0.heap.size P0_ u9000_ l0) (h : laws_markIntS.f k l0 a1 = some (r1, r2)) :
  Calls Try.prog 35 #[u9000_, .int .i64 a1] w fun e w' => e = .returned (.int .i64 r1) ∧ Kd.R (Kd.int .i64) 3 w' w0.heap.size (fun k_ => (P0_ k_ ∨ w.heap.size ≤ k_)) u9000_ r2 ∧ Below w0.heap.size w0 w' ∧ Kept w w' (fun k_ => P0_ k_) := by
 have HO0 := Aside0.mk (show Kd.R (Kd.int .i64) 3 w w0.heap.size (fun k_ => (P0_ k_ ∨ w.heap.size ≤ k_)) u9000_ l0 from Kd.R_mono ho0 (fun k_ hk => (.inl hk)))
 have HK := Aside0.mk (Kept.refl w (fun k_ => P0_ k_))
 have HW0 := Aside0.mk hB.size
 have HB := Aside0.mk hB
 clear hB
 have H : (laws_markIntS.l0 k l0 a1 0) = some (r1, r2) := h
 clear h
 have H' := Aside0.mk H
 clear H
 go_enter Try.func35, Try.ntmps35
 go_wp2
 go_loopg [1, 5] k (fun kq v1 v5 w' => ∃ (x0_1 : List Int) (x1_1 : Int) (x5_1 : Int), v1 = .int .i64 x1_1 ∧ v5 = .int .i64 x5_1 ∧ Aside0 (laws_markIntS.l0 kq x0_1 x1_1 x5_1 = some (r1, r2)) ∧ Aside0 (kq ≤ k) ∧ Aside0 (Kd.R (Kd.int .i64) 3 w' w0.heap.size (fun k_ => (P0_ k_ ∨ w.heap.size ≤ k_)) u9000_ x0_1) ∧ Aside0 (Kept w w' (fun k_ => P0_ k_)) ∧ Aside0 (Below w0.heap.size w0 w'))
 case atStart => exact ⟨(l0), (a1), (0), (by first | rfl | (simp; done) | (simp [*]; done)), (by first | rfl | (simp; done) | (simp [*]; done)), H', ⟨Nat.le_refl _⟩, ⟨by (with_reducible repeat (first | apply Kd.R_alloc | apply Kd.R_drewN | apply Kd.R_drew)); exact HO0.out⟩, ⟨by repeat (first | (with_reducible first | exact HK.out | apply Kept.alloc | apply Kept.drewN | apply Kept.drew) | exact HK.out)⟩, ⟨by repeat (first | (with_reducible first | exact HB.out | apply below_alloc | apply pw_below_drewN | apply below_drew1) | exact HB.out)⟩⟩
 case round =>
  clear H'
  obtain ⟨x0_1, x1_1, x5_1, rfl, rfl, HA, HK1, HO_0, HK, HB⟩ := hrel
  cases gk with
  | zero => exact absurd HA.out (by simp [laws_markIntS.l0])
  | succ k1 =>
   have H := HA.out
   clear HA
   simp only [laws_markIntS.l0] at H
   by_cases c3 : x5_1 < (x0_1.length : Int)
   ·rw [if_pos c3] at H
    have c3b0 : decide (x5_1 < (x0_1.length : Int)) = true := decide_eq_true c3
    clear c3
    by_cases c4 : 0 ≤ x5_1
    ·rw [if_pos c4] at H
     have c4b0 : decide (0 ≤ x5_1) = true := decide_eq_true c4
     clear c4
     obtain ⟨y209, hy209⟩ : ∃ y_ : List Int, y_ = (x0_1.set (x5_1 : Int).toNat x1_1) := ⟨_, rfl⟩
     replace H : (laws_markIntS.l0 k1 y209 (wrap64 (x1_1 + 1)) (wrap64 (x5_1 + 1))) = some (r1, r2) := by first | (rw [hy209]; with_reducible exact H) | (have H2_ := (Option.bind_some _ _).symm.trans H; rw [hy209]; with_reducible exact H2_) | (have H2_ := (Option.bind_some _ _).symm.trans H; with_reducible exact H2_) | with_reducible exact H | (rw [hy209]; exact H) | exact H
     have Ny209 := Aside0.mk hy209
     clear hy209
     have H' := Aside0.mk H
     clear H
     obtain ⟨Ao6, co6, eo6⟩ := Kd.R_slice HO_0.out
     subst eo6
     have p5 : 0 ≤ (x5_1 : Int) := of_decide_eq_true (by first | (with_reducible assumption) | assumption)
     have q5 : (x5_1 : Int) < ((x0_1.length : Int) : Int) := of_decide_eq_true (by first | (with_reducible assumption) | assumption)
     obtain ⟨go5, co5, eo5, gb5, gl5, cl5, HG5⟩ := Kd.R_form HO_0.out (by omega)
     (first | cases eo5 | (injection eo5 with ea_ en_ ec_; (first | subst ea_ | (injection ea_ with ea_; subst ea_)); subst ec_; clear en_))
     have GB5 := Aside0.mk gb5
     have GG5 := Aside0.mk HG5
     clear gb5 gl5 HG5
     have HMgo5 := Aside0.mk (show (P0_ go5 ∨ w.heap.size ≤ go5) from (HO_0.out.1 _ rfl))
     obtain ⟨hx5_0, hf5_0⟩ := Kd.R_celln 0 HO_0.out (x5_1 : Int) p5 q5
     replace p5 := eq_true p5
     replace q5 := eq_true q5
     have HP7 := Kd.R_putg HO_0.out (x5_1 : Int) x1_1
     go_wp2_with (first | ((with_reducible refine gate_store (t := 3) (p := 15) rfl ?_); refine store_event (t := 3) (p := 15) (v := ?vo_w8) (w1 := (wr.setCell ⟨go5, (x5_1 : Int).toNat, none⟩ (.int .i64 x1_1))) ?hg ?ho ?hn ?hr ?_; (case ho => rfl); (case hg => rfl); (case hn => rfl); (case hr => first | (go_simp; done) | (go_simp; rfl)); intro w8 hw; have hg : wr.grownBy w8 (some go5) := (by rw [hw]; exact HP7.2); have hp_ : Kd.R (Kd.int .i64) 3 w8 w0.heap.size (fun k_ => (P0_ k_ ∨ w.heap.size ≤ k_)) (.slice (some ⟨go5, 0, none⟩) x0_1.length co6) y209 := (by rw [hw, Ny209.out]; exact HP7.1); clear HP7; have n0_ := Aside0.mk (hp_); have n1_ := Aside0.mk ((by rw [hw]; exact below_set (HB.out) GB5.out : Below w0.heap.size w0 w8)); have n2_ := Aside0.mk (Kept.of_grown (S := (fun k_ => P0_ k_)) hg (by repeat (first | (with_reducible first | exact HK.out | apply Kept.alloc | apply Kept.drewN | apply Kept.drew) | exact HK.out)) (fun k_ e_ => (HO_0.out.1 k_ e_))); clear HO_0; clear HB; clear HK; have HO_0 := n0_; have HB := n1_; have HK := n2_; clear n0_ n1_ n2_; clear hg hw hp_))
     go_roundg k1
     case measure => have := HK1.out; omega
     case rel => exact ⟨(y209), (wrap64 (x1_1 + 1)), (wrap64 (x5_1 + 1)), (by first | rfl | (simp; done) | (simp [*]; done)), (by first | rfl | (simp; done) | (simp [*]; done)), H', ⟨by have := HK1.out; omega⟩, ⟨by (with_reducible repeat (first | apply Kd.R_alloc | apply Kd.R_drewN | apply Kd.R_drew)); exact HO_0.out⟩, ⟨by repeat (first | (with_reducible first | exact HK.out | apply Kept.alloc | apply Kept.drewN | apply Kept.drew) | exact HK.out)⟩, ⟨by repeat (first | (with_reducible first | exact HB.out | apply below_alloc | apply pw_below_drewN | apply below_drew1) | exact HB.out)⟩⟩
    ·rw [if_neg c4] at H
     exact absurd H (by simp)
   ·rw [if_neg c3] at H
    have c3b0 : decide (x5_1 < (x0_1.length : Int)) = false := decide_eq_false c3
    clear c3
    simp only [Option.some.injEq, Prod.mk.injEq] at H
    obtain ⟨rfl, rfl⟩ := H
    obtain ⟨Ao9, co9, eo9⟩ := Kd.R_slice HO_0.out
    subst eo9
    go_wp2
    go_ret
    exact ⟨by first | rfl | (simp [errW_none, errW_some] <;> rfl) | (simp [*, errW_none, errW_some] <;> rfl), by (with_reducible repeat (first | apply Kd.R_alloc | apply Kd.R_drewN | apply Kd.R_drew)); exact HO_0.out, by repeat (first | (with_reducible first | exact HB.out | apply below_alloc | apply pw_below_drewN | apply below_drew1) | exact HB.out), by repeat (first | (with_reducible first | exact HK.out | apply Kept.alloc | apply Kept.drewN | apply Kept.drew) | exact HK.out)⟩

end Go.Proofs.Ytchphfohembpcaa.PM
