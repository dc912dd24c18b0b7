/- Functions of the program and of the reference as Lean functions, each with a contract over the translated program. Conditions: the hypotheses of each theorem. Written by a program of this session, which drives the print of the kit and adds texts of its own. -/
import Derived.Test.YtnijlmfamdhjmaaPHx0
import Derived.Test.YtnijlmfamdhjmaaPHx3
import Derived.Test.YtnijlmfamdhjmaaPHx4
namespace Go.Proofs.Ytnijlmfamdhjmaa.PH
open Go.RowKit Go.Proofs.YtnijlmfamdhjmaaW.PrintWords Go.Proofs.YtnijlmfamdhjmaaW.PrintLast Go.Proofs.YtnijlmfamdhjmaaW.PrintMore Go.Proofs.YtnijlmfamdhjmaaB
attribute [local go_sem] max2_int min2_int max_two min_two max_three min_three max_four min_four   -- for this text's walks alone
set_option linter.unusedVariables false
set_option linter.unusedSimpArgs false

/-! ### spec_pzLook: function 86 -/
/-- All clues are asked, up to the first one that isn't fitted. -/
def allO {α : Type} (p : α → Option Bool) : List α → Option Bool
 | [] => some true
 | x :: t => (p x).bind fun b => if b = true then allO p t else some false
/-- One after the other, so many numbers from n on. -/
def lookS (f : List Int → List (List Int) → Option (List (List Int))) (b : List Int) : Nat → Int → List (List Int) → Option (List (List Int))
 | 0, _, out => some out
 | d + 1, n, out => (f (b ++ [n]) out).bind fun o => lookS f b d (n + 1) o
/-- The lists that begin so and have so many numbers more. -/
def lookP (k : Nat) (cs : List S50) : Nat → List Int → List (List Int) → Option (List (List Int))
 | 0, b, out => (allO (fun c => spec_pzFits.f k c.f0 c.f1 c.f2 c.f3 b) cs).bind fun ok => if out.length < 1000000 then some (if ok = true then out ++ [b] else out) else none
 | m + 1, b, out => if b.length < 1000 then lookS (lookP k cs m) b 6 0 out else none
set_option maxHeartbeats 8000000 in
set_option maxRecDepth 100000 in
theorem spec_pzLook.calls (k : Nat) (Ac : Option Addr) (cc : Nat) (cs : List S50) (hcc : cs.length ≤ cc) (gO base : Nat) (w0 : World) (hw0 : base = w0.heap.size) (hrc : Kd.C k50 w0 Ac cs.length cs) (hgO : base ≤ gO) :
  ∀ (m : Nat), m ≤ 100 → ∀ (Bb : Option Addr) (cb : Nat) (b : List Int) (v : Value) (out r : List (List Int)) (okR okb : Nat → Prop) (w : World), Below base w0 w → base ≤ w.heap.size → (∀ q, okb q → okR q ∧ q < w.heap.size) → (∀ q, w.heap.size ≤ q → okR q) → ¬ okR gO → Kd.R (Kd.int .i64) 3 w base okb (.slice Bb b.length cb) b →
   w.heap[gO]? = some (.cells #[v] 55 (0, 0)) → Kd.S (Kd.slice 3 (Kd.int .i64)) 26 w base (fun q => okR q ∧ ¬ okb q) v out → lookP k cs m b out = some r →
   Calls Try.prog 86 #[.int .i64 (m : Int), .slice Ac cs.length cc, .slice Bb b.length cb, .pointer (some ⟨gO, 0, none⟩)] w fun e w' => e = .returned (.tuple #[]) ∧ ∃ v', w'.heap[gO]? = some (.cells #[v'] 55 (0, 0)) ∧ Kd.S (Kd.slice 3 (Kd.int .i64)) 26 w' base okR v' r ∧ Below base w0 w' ∧ w.heap.size ≤ w'.heap.size ∧ (∀ q, q < w.heap.size → q ≠ gO → some q ≠ v.ownBlock → w'.heap[q]? = w.heap[q]?) ∧ (∀ q, v'.ownBlock = some q → q < w.heap.size → v.ownBlock = some q) := by
 intro m
 induction m with
 | zero =>
  intro _ Bb cb b v out r okR okb w hB hbs hbb hfr hgR hb hO hR h
  have HB := Aside0.mk hB
  have HBS := Aside0.mk hbs
  have HRC := Aside0.mk hrc
  have HBB0 := Aside0.mk hbb
  have HFR := Aside0.mk hfr
  have HGR := Aside0.mk hgR
  have HBR := Aside0.mk hb
  have HO := Aside0.mk hO
  have HR := Aside0.mk hR
  simp only [lookP] at h
  obtain ⟨okk, hok, h⟩ := Option.bind_eq_some_iff.mp h
  have HOK := Aside0.mk hok
  have HH := Aside0.mk h
  have c0 : decide ((0 : Int) < ((0 : Nat) : Int)) = false := by decide
  have HQ := Aside0.mk (Below.refl w.heap.size w)
  have HCL := Aside0.mk (Kd.C_below hrc (hw0 ▸ hB))
  clear hB hbs hb hO hR h hok hrc hw0 hbb hfr hgR
  go_enter Try.func86, Try.ntmps86
  go_wp2
  have HBC := Aside0.mk (Kd.R_reads' HBR.out).2.2
  have HCB := Aside0.mk (Kd.R_reads' HBR.out).2.1
  go_loopg [29] cs.length (fun kq v29 w' => ∃ (i : Nat) (x : Int), v29 = .int .i64 x ∧ Aside0 (x = (i : Int)) ∧ Aside0 (i + kq = cs.length) ∧ Aside0 (allO (fun c => spec_pzFits.f k c.f0 c.f1 c.f2 c.f3 b) (cs.drop i) = some okk) ∧ Aside0 (Below w.heap.size w w'))
  case atStart => exact ⟨0, 0, rfl, ⟨rfl⟩, ⟨by omega⟩, HOK, HQ⟩
  case round =>
   clear HOK HQ
   obtain ⟨i, x, rfl, HX, HN, HA, HQ⟩ := hrel
   have hn := HN.out
   have hx := HX.out
   have HA1 := HA.out
   clear HA
   have hl9 : cs.length ≤ 9223372036854775807 := HCL.out.2.1
   cases gk with
   | zero =>
    have c5b : decide (x < (cs.length : Int)) = false := decide_eq_false (by omega)
    rw [List.drop_of_length_le (by omega)] at HA1
    simp only [allO, Option.some.injEq] at HA1
    subst HA1
    clear hn hx
    have hgl := blk_lt HO.out
    have HOw := Aside0.mk ((HQ.out.block gO hgl).trans HO.out)
    have HRw := Aside0.mk (Kd.S_below HR.out HQ.out)
    have HBw := Aside0.mk (Kd.R_below HBR.out HQ.out)
    have HBB := Aside0.mk (HB.out.trans (HQ.out.mono HBS.out))
    have hcO : wr.cell? ⟨gO, 0, none⟩ = some v := (blk_cell HOw.out 0).trans rfl
    have hfO := blk_frozen HOw.out 0
    have HGl := Aside0.mk hgl
    have hlen : out.length < 1000000 := by
     have h2 := HH.out
     split at h2
     ·assumption
     ·simp at h2
    have HE := Aside0.mk (show out ++ [b] = r by have h2 := HH.out; rw [if_pos hlen] at h2; simpa using h2)
    clear hgl
    go_wp2_with (first
     | ((with_reducible refine gate_builtin (b := .append) (xs := #[.tmp 41, .tmp 43]) rfl ?_); at_builtin; go_loud (refine Kd.S_append (Kd.slice 3 (Kd.int .i64)) (w0 := w0) base rfl (.tmp 41) (.tmp 43) 55 26 (.slice none 0 0) 24 rfl Try.underlying55 info26 rfl (by decide) (by omega) v out b [.slice Bb b.length cb] okR okb rfl rfl ?aP (fun q hk => ⟨(HBB0.out q hk).1, fun e_ => ((Kd.S_R HR.out).1 q e_.symm).2 hk⟩) ?aF ?aO ?aB ?aS ?aL ?_; (case aP => exact ⟨_, rfl, HBw.out⟩); (case aF => exact fun q hq => HFR.out q (Nat.le_trans HQ.out.size hq)); (case aO => exact HRw.out); (case aB => exact HBB.out); (case aS => exact Nat.le_trans HBS.out HQ.out.size); (case aL => omega); intro v1 w1 ho hb hg hat; have hne : some gO ≠ v.ownBlock := (fun e_ => HGR.out ((Kd.S_R HR.out).1 gO e_.symm).1); have HO1 := Aside0.mk ((hg.block gO (blk_lt HOw.out) hne).trans HOw.out); have HF1 := Aside0.mk (fun q (hq : q < w.heap.size) (hv : some q ≠ v.ownBlock) => (hg.block q (Nat.lt_of_lt_of_le hq HQ.out.size) hv).trans (HQ.out.block q hq)); have HR1 := Aside0.mk ho; have HB1 := Aside0.mk hb; have HS1 := Aside0.mk (Nat.le_trans HQ.out.size hg.size); have HV1 := Aside0.mk (fun q (hv : v1.ownBlock = some q) (hq : q < w.heap.size) => show v.ownBlock = some q by rcases hat with hat | ⟨b_, hb_, hle⟩; exact hat ▸ hv; (rw [hb_] at hv; injection hv with hv; have := HQ.out.size; omega)); have hcP : w1.cell? ⟨gO, 0, none⟩ = some v := (blk_cell HO1.out 0).trans rfl; have hfP := blk_frozen HO1.out 0; obtain ⟨Ap, cp, ep⟩ := Kd.S_slice ho; obtain ⟨nL, hnL⟩ : ∃ q, q = (out ++ [b]).length := ⟨_, rfl⟩; rw [← hnL] at ep; subst ep; clear hnL ho hb hg hat hne hcO hfO)))
    refine bodyPost_end (v := .tuple #[]) (results_none rfl _ _ _) rfl ?_
    have HO8 := blk_set HO1.out 0 (.slice Ap nL cp)
    refine ⟨rfl, .slice Ap nL cp, HO8.trans rfl, ?_, Below.setCell HB1.out hgO _, ?_, ?_, HV1.out⟩
    ·rw [← HE.out]
     exact Kd.S_far HR1.out (fun q hq => by rintro rfl; exact HGR.out hq) _
    ·simpa [World.setCell] using HS1.out
    ·intro q hq hn hv
     exact (Below.heap_setCell w1 ⟨gO, 0, none⟩ (.slice Ap nL cp) q hn).trans (HF1.out q hq hv)
   | succ d =>
    have c5b : decide (x < (cs.length : Int)) = true := decide_eq_true (by omega)
    have hil : i < cs.length := by omega
    have HD : cs.drop i = rd_T50 cs x :: cs.drop (i + 1) := by
     rw [List.drop_eq_getElem_cons hil, hx]
     congr 1
     unfold rd_T50
     simp [hil]
    rw [HD] at HA1
    simp only [allO] at HA1
    obtain ⟨bb, hbb, HA1⟩ := Option.bind_eq_some_iff.mp HA1
    have HFB := Aside0.mk hbb
    have HA2 := Aside0.mk HA1
    have HI := Aside0.mk hil
    have HX1 := Aside0.mk (show ((i + 1 : Nat) : Int) = wrap64 (x + 1) by unfold wrap64; omega)
    have p1 : 0 ≤ x := by omega
    have q1 : x < (cs.length : Int) := by omega
    obtain ⟨ad, e1, hx0, hx1, hx2, hx3⟩ := at_T50 HCL.out x p1 q1
    cases e1
    replace hx0 := (HQ.out.cell (World.block_lt_of_cell? w _ hx0)).trans hx0
    replace hx1 := (HQ.out.cell (World.block_lt_of_cell? w _ hx1)).trans hx1
    replace hx2 := (HQ.out.cell (World.block_lt_of_cell? w _ hx2)).trans hx2
    replace hx3 := (HQ.out.cell (World.block_lt_of_cell? w _ hx3)).trans hx3
    replace p1 := eq_true p1
    replace q1 := eq_true q1
    clear hn hx HA1 hbb hil HD hl9
    cases bb with
    | true =>
     simp only [if_true] at HA2
     go_wp2_with (first
      | ((with_reducible refine gate_dst (N := 10) rfl ?_); (try (refine gate_guard (by rfl) ?_; dsimp only)); refine box_event ?hg (N := 10) ?hd (cs := #[.int .i64 0, .int .i64 0, .int .i64 0, .int .i64 0]) (t := 50) ?hr ?_; (case hd => rfl); (case hg => rfl); (case hr => first | (go_simp; done) | (go_simp; rfl)); intro gb hg w15 hbox hb; have GW := Aside0.mk (show w.heap.size ≤ gb by rw [hg]; exact HQ.out.size); have HQ2 := Aside0.mk (below_step HQ.out hb); have BK := Aside0.mk hbox; have hcz0 : w15.cell? ⟨gb, 0, none⟩ = some (.int .i64 0) := (blk_cell BK.out 0).trans rfl; have hcz1 : w15.cell? ⟨gb, 1, none⟩ = some (.int .i64 0) := (blk_cell BK.out 1).trans rfl; have hcz2 : w15.cell? ⟨gb, 2, none⟩ = some (.int .i64 0) := (blk_cell BK.out 2).trans rfl; have hcz3 : w15.cell? ⟨gb, 3, none⟩ = some (.int .i64 0) := (blk_cell BK.out 3).trans rfl; have hfz0 := blk_frozen BK.out 0; have hfz1 := blk_frozen BK.out 1; have hfz2 := blk_frozen BK.out 2; have hfz3 := blk_frozen BK.out 3; clear hb hbox hg)
      | ((with_reducible refine gate_callee (f := 84) rfl ?_); go_loud (refine goesL_ (some 35) rfl rfl Try.func84 (by kernel_rfl) rfl #[.agg #[.int .i64 ((rd_T50 cs x).f0), .int .i64 ((rd_T50 cs x).f1), .int .i64 ((rd_T50 cs x).f2), .int .i64 ((rd_T50 cs x).f3)], .slice Bb b.length cb] rfl (by (try simp only [List.map_toArray, List.map_cons, List.map_nil]); first | done | rfl) ?_; (with_reducible refine (spec_pzFits.calls k _ _ _ _ Bb cb b true _ (Kd.C_below HBC.out (by repeat (first | exact HQ2.out | apply below_alloc | apply pw_below_drewN | apply below_drew1 | refine below_set ?_ GW.out))) HCB.out HFB.out).mono ?_); rintro e w19 ⟨rfl, hb⟩; refine ⟨_, rfl, ?_⟩; have HQ3 := Aside0.mk (below_step (by repeat (first | exact HQ2.out | apply below_alloc | apply pw_below_drewN | apply below_drew1 | refine below_set ?_ GW.out)) hb); clear hb)))
     go_roundg d
     case measure => omega
     case rel => exact ⟨i + 1, _, rfl, ⟨HX1.out.symm⟩, ⟨by have := HN.out; omega⟩, HA2, HQ3⟩
    | false =>
     have HE := Aside0.mk (show r = out by have h1 := HA2.out; have h2 := HH.out; simp only [Bool.false_eq_true, if_false, Option.some.injEq] at h1; subst h1; split at h2 <;> simp at h2; exact h2.symm)
     go_wp2_with (first
      | ((with_reducible refine gate_dst (N := 10) rfl ?_); (try (refine gate_guard (by rfl) ?_; dsimp only)); refine box_event ?hg (N := 10) ?hd (cs := #[.int .i64 0, .int .i64 0, .int .i64 0, .int .i64 0]) (t := 50) ?hr ?_; (case hd => rfl); (case hg => rfl); (case hr => first | (go_simp; done) | (go_simp; rfl)); intro gb hg w15 hbox hb; have GW := Aside0.mk (show w.heap.size ≤ gb by rw [hg]; exact HQ.out.size); have HQ2 := Aside0.mk (below_step HQ.out hb); have BK := Aside0.mk hbox; have hcz0 : w15.cell? ⟨gb, 0, none⟩ = some (.int .i64 0) := (blk_cell BK.out 0).trans rfl; have hcz1 : w15.cell? ⟨gb, 1, none⟩ = some (.int .i64 0) := (blk_cell BK.out 1).trans rfl; have hcz2 : w15.cell? ⟨gb, 2, none⟩ = some (.int .i64 0) := (blk_cell BK.out 2).trans rfl; have hcz3 : w15.cell? ⟨gb, 3, none⟩ = some (.int .i64 0) := (blk_cell BK.out 3).trans rfl; have hfz0 := blk_frozen BK.out 0; have hfz1 := blk_frozen BK.out 1; have hfz2 := blk_frozen BK.out 2; have hfz3 := blk_frozen BK.out 3; clear hb hbox hg)
      | ((with_reducible refine gate_callee (f := 84) rfl ?_); go_loud (refine goesL_ (some 35) rfl rfl Try.func84 (by kernel_rfl) rfl #[.agg #[.int .i64 ((rd_T50 cs x).f0), .int .i64 ((rd_T50 cs x).f1), .int .i64 ((rd_T50 cs x).f2), .int .i64 ((rd_T50 cs x).f3)], .slice Bb b.length cb] rfl (by (try simp only [List.map_toArray, List.map_cons, List.map_nil]); first | done | rfl) ?_; (with_reducible refine (spec_pzFits.calls k _ _ _ _ Bb cb b false _ (Kd.C_below HBC.out (by repeat (first | exact HQ2.out | apply below_alloc | apply pw_below_drewN | apply below_drew1 | refine below_set ?_ GW.out))) HCB.out HFB.out).mono ?_); rintro e w19 ⟨rfl, hb⟩; refine ⟨_, rfl, ?_⟩; have HQ3 := Aside0.mk (below_step (by repeat (first | exact HQ2.out | apply below_alloc | apply pw_below_drewN | apply below_drew1 | refine below_set ?_ GW.out)) hb); clear hb)))
     refine bodyPost_ret (v := .tuple #[]) (results_none rfl _ _ _) rfl ?_
     exact ⟨rfl, v, (HQ3.out.block gO (blk_lt HO.out)).trans HO.out, HE.out ▸ Kd.S_mono (Kd.S_below HR.out HQ3.out) (fun _ hq => hq.1), HB.out.trans (HQ3.out.mono HBS.out), HQ3.out.size, fun q hq _ _ => HQ3.out.block q hq, fun q hv _ => hv⟩
 | succ m ih =>
  intro hm Bb cb b v out r okR okb w hB hbs hbb hfr hgR hb hO hR h
  have HB := Aside0.mk hB
  have HBS := Aside0.mk hbs
  have HRC := Aside0.mk hrc
  have HBB0 := Aside0.mk hbb
  have HFR := Aside0.mk hfr
  have HGR := Aside0.mk hgR
  have HBR := Aside0.mk hb
  have HO := Aside0.mk hO
  have HR := Aside0.mk hR
  simp only [lookP] at h
  by_cases hbl : b.length < 1000
  ·rw [if_pos hbl] at h
   have HH := Aside0.mk h
   clear hB hbs hb hO hR h hrc hbb hfr hgR
   go_enter Try.func86, Try.ntmps86
   go_wp2
   go_loopg [8] 6 (fun kq v8 w' => ∃ (n : Nat) (o : List (List Int)) (vo : Value), v8 = .int .i64 (n : Int) ∧ Aside0 (n + kq = 6) ∧ Aside0 (lookS (lookP k cs m) b kq (n : Int) o = some r) ∧ Aside0 (Below base w0 w') ∧ Aside0 (w.heap.size ≤ w'.heap.size) ∧ Aside0 (w'.heap[gO]? = some (.cells #[vo] 55 (0, 0))) ∧ Aside0 (Kd.S (Kd.slice 3 (Kd.int .i64)) 26 w' base (fun q => okR q ∧ ¬ okb q) vo o) ∧ Aside0 (∀ q, q < w.heap.size → q ≠ gO → some q ≠ v.ownBlock → w'.heap[q]? = w.heap[q]?) ∧ Aside0 (∀ q, vo.ownBlock = some q → q < w.heap.size → v.ownBlock = some q))
   case atStart => exact ⟨0, out, v, rfl, ⟨rfl⟩, HH, HB, ⟨Nat.le_refl _⟩, HO, HR, ⟨fun _ _ _ _ => rfl⟩, ⟨fun _ h_ _ => h_⟩⟩
   case round =>
    clear HH
    obtain ⟨n, o, vo, rfl, HN, HA, HBt, HSt, HOt, HRt, HFt, HVt⟩ := hrel
    have hn6 := HN.out
    have HA1 := HA.out
    clear HA
    cases gk with
    | zero =>
     simp only [lookS, Option.some.injEq] at HA1
     have c5b : decide ((n : Int) ≤ 5) = false := decide_eq_false (by omega)
     go_wp2
     refine bodyPost_ret (v := .tuple #[]) (results_none rfl _ _ _) rfl ?_
     exact ⟨rfl, vo, HOt.out, HA1 ▸ Kd.S_mono HRt.out (fun _ hq => hq.1), HBt.out, HSt.out, HFt.out, HVt.out⟩
    | succ d =>
     simp only [lookS] at HA1
     obtain ⟨o1, ho1, HA1⟩ := Option.bind_eq_some_iff.mp HA1
     have HA2 := Aside0.mk HA1
     have HL := Aside0.mk ho1
     clear HA1 ho1
     have c5b : decide ((n : Int) ≤ 5) = true := decide_eq_true (by omega)
     have HBb := Aside0.mk (Kd.R_step HBR.out (fun q hq hlt => HFt.out q hlt (fun e_ => HGR.out (e_ ▸ (HBB0.out q hq).1)) (fun e_ => ((Kd.S_R HR.out).1 q e_.symm).2 hq)))
     have HBw := Aside0.mk (Nat.le_trans HBS.out HSt.out)
     have HOl := Aside0.mk (blk_lt HOt.out)
     have e1 : wrap64 (((m + 1 : Nat) : Int) - 1) = (m : Int) := by unfold wrap64; omega
     go_wp2_with (first
      | (go_at_call 49; go_loud (refine (spec_l1Own.calls Bb cb b b wr (Kd.R_reads' HBb.out).2.2 (Kd.R_reads' HBb.out).2.1 (by unfold spec_l1Own.f; simp only [Option.bind_some, List.length_nil, Nat.zero_add, List.nil_append]; rw [if_pos (by omega)])).mono ?_; rintro e w' ⟨v21, rfl, hr_, hb_⟩; have H21 := Aside0.mk hr_; have HK1 := Aside0.mk hb_; clear hr_ hb_))
      | ((with_reducible refine gate_builtin (b := .append) (xs := #[.tmp 21, .tmp 23]) rfl ?_); at_builtin; go_loud (refine Kd.R_append (Kd.int .i64) (w0 := w0) base rfl (.tmp 21) (.tmp 23) 26 3 (.int .i64 0) 8 rfl Try.underlying26 info3 rfl (by decide) (by omega) v21 b (n : Int) [.int .i64 (n : Int)] (fun q => wr.heap.size ≤ q) (fun _ => False) rfl rfl ?aP (fun _ hk => hk.elim) ?aF ?aO ?aB ?aS ?aL ?_; (case aP => exact rfl); (case aF => exact fun q hq => Nat.le_trans HK1.out.size hq); (case aO => exact Kd.R_lower (Kd.R_mono (Kd.R_bound H21.out) (fun q hq => hq.2.1)) HBw.out); (case aB => exact HBt.out.trans (HK1.out.mono HBw.out)); (case aS => exact Nat.le_trans HBw.out HK1.out.size); (case aL => omega); intro v24 w5 ho hb hg hat; have HK5 := Aside0.mk (fun q (hq : q < wr.heap.size) => (hg.block q (Nat.lt_of_lt_of_le hq HK1.out.size) (fun e_ => by have := Kd.R_base H21.out q e_.symm; omega)).trans (HK1.out.block q hq)); have HS5 := Aside0.mk (Nat.le_trans HK1.out.size hg.size); have H24 := Aside0.mk ho; have HB5 := Aside0.mk hb; obtain ⟨A24, c24, e24⟩ := Kd.R_slice ho; have HIH := ih (by omega) A24 c24 (b ++ [(n : Int)]) vo o o1 (fun q => okR q ∧ ¬ okb q) (fun q => wr.heap.size ≤ q ∧ q < w5.heap.size) w5 HB5.out (Nat.le_trans HBw.out HS5.out) (fun q hq => ⟨⟨HFR.out q (Nat.le_trans HSt.out hq.1), fun h_ => by have := (HBB0.out q h_).2; have := HSt.out; omega⟩, hq.2⟩) (fun q hq => ⟨HFR.out q (Nat.le_trans HSt.out (Nat.le_trans HS5.out hq)), fun h_ => by have := (HBB0.out q h_).2; have := HSt.out; have := HS5.out; omega⟩) (fun h_ => HGR.out h_.1) (Kd.R_mono (Kd.R_bound (e24 ▸ H24.out)) (fun q hq => ⟨hq.1, hq.2.2.1⟩)) ((HK5.out gO HOl.out).trans HOt.out) (Kd.S_step (Kd.S_mono (Kd.S_bound HRt.out) (fun q hq => (⟨hq.1, fun h_ => by have := h_.1; have := hq.2.2.1; omega⟩ : (okR q ∧ ¬ okb q) ∧ ¬ (wr.heap.size ≤ q ∧ q < w5.heap.size)))) (fun q _ hlt => HK5.out q hlt)) HL.out; obtain ⟨nL, hnL⟩ : ∃ q, q = (b ++ [(n : Int)]).length := ⟨_, rfl⟩; rw [← hnL] at HIH e24; have HIH2 := Aside0.mk HIH; clear HIH hnL H24; subst e24; clear ho hb hg hat))
      | (go_at_call 86; go_loud (refine HIH2.out.mono ?_; rintro e w' ⟨rfl, v', hO', hR', hB', hS', hF', hV'⟩; have HO2 := Aside0.mk hO'; have HR2 := Aside0.mk hR'; have HB2 := Aside0.mk hB'; have HS2 := Aside0.mk (Nat.le_trans HSt.out (Nat.le_trans HS5.out hS')); have HF2 := Aside0.mk (fun q (hq : q < w.heap.size) (hn : q ≠ gO) (hv : some q ≠ v.ownBlock) => ((hF' q (Nat.lt_of_lt_of_le hq (Nat.le_trans HSt.out HS5.out)) hn (fun e_ => hv (HVt.out q e_.symm hq).symm)).trans (HK5.out q (Nat.lt_of_lt_of_le hq HSt.out))).trans (HFt.out q hq hn hv)); have HV2 := Aside0.mk (fun q (hv : v'.ownBlock = some q) (hq : q < w.heap.size) => HVt.out q (hV' q hv (Nat.lt_of_lt_of_le hq (Nat.le_trans HSt.out HS5.out))) hq); clear hO' hR' hB' hS' hF' hV')))
     go_roundg d
     case measure => omega
     case rel => exact ⟨n + 1, o1, v', congrArg (Value.int .i64) (by omega), ⟨by omega⟩, ⟨by rw [show ((n + 1 : Nat) : Int) = (n : Int) + 1 by omega]; exact HA2.out⟩, HB2, HS2, HO2, HR2, HF2, HV2⟩
  ·rw [if_neg hbl] at h
   exact absurd h (by simp)

/-! ### spec_pzAll: function 48 -/
theorem allO_le {α : Type} {p q : α → Option Bool} (h : ∀ x, LeO (p x) (q x)) : ∀ l : List α, LeO (allO p l) (allO q l)
 | [] => LeO.refl _
 | x :: t => by
  simp only [allO]
  exact LeO.bind (h x) fun _ => LeO.ite (allO_le h t) (LeO.refl _)
theorem lookS_le {f g : List Int → List (List Int) → Option (List (List Int))} (h : ∀ x y, LeO (f x y) (g x y)) (b : List Int) : ∀ (d : Nat) (n : Int) (out : List (List Int)), LeO (lookS f b d n out) (lookS g b d n out)
 | 0, _, _ => LeO.refl _
 | d + 1, n, out => by
  simp only [lookS]
  exact LeO.bind (h _ _) fun _ => lookS_le h b d _ _
theorem lookP_le (k : Nat) (cs : List S50) : ∀ (m : Nat) (b : List Int) (out : List (List Int)), LeO (lookP k cs m b out) (lookP (k + 1) cs m b out)
 | 0, b, out => by
  simp only [lookP]
  exact LeO.bind (allO_le (fun x => spec_pzFits.mono _ _ _ _ _ _) _) fun _ => LeO.refl _
 | m + 1, b, out => by
  simp only [lookP]
  exact LeO.ite (lookS_le (lookP_le k cs m) b 6 0 out) (LeO.refl _)
def spec_pzAll.f (k : Nat) (a0 : Int) (l1 : List S50) : Option (List (List Int)) := if 0 ≤ a0 ∧ a0 ≤ 100 then lookP k l1 a0.toNat [] [] else none
theorem spec_pzAll.mono : ∀ a0 a1 k, LeO (spec_pzAll.f k a0 a1) (spec_pzAll.f (k + 1) a0 a1) := by
 intro a0 a1 k
 unfold spec_pzAll.f
 exact LeO.ite (lookP_le _ _ _ _ _) (LeO.refl _)
set_option maxHeartbeats 8000000 in
set_option maxRecDepth 100000 in
theorem spec_pzAll.calls (k : Nat) (a0 : Int) (A1 : Option Addr) (c1 : Nat) (l1 : List (S50)) (r : List (List Int)) (w : World) (hr1 : Kd.C k50 w A1 l1.length l1) (hc1 : l1.length ≤ c1) (h : spec_pzAll.f k a0 l1 = some r) :
  Calls Try.prog 48 #[.int .i64 a0, .slice A1 l1.length c1] w fun e w' => ∃ v0_ : Value, e = .returned (v0_) ∧ Kd.S (Kd.slice 3 (Kd.int .i64)) 26 w' w.heap.size (fun _ => True) v0_ r ∧ Below w.heap.size w w' := by
 unfold spec_pzAll.f at h
 by_cases c : 0 ≤ a0 ∧ a0 ≤ 100
 ·rw [if_pos c] at h
  obtain ⟨n, rfl⟩ := Int.eq_ofNat_of_zero_le c.1
  rw [Int.toNat_natCast] at h
  have HH := Aside0.mk h
  have HR1 := Aside0.mk hr1
  clear h hr1
  go_enter Try.func48, Try.ntmps48
  have HB0 := Aside0.mk (below_alloc (Below.refl w.heap.size w) (.cells #[.slice none 0 0] 55))
  go_wp2_with (go_at_call 86; go_loud (refine (spec_pzLook.calls k A1 c1 l1 hc1 w.heap.size w.heap.size w rfl HR1.out (Nat.le_refl _) n (by omega) none 0 [] (.slice none 0 0) [] r (fun q => q ≠ w.heap.size) (fun _ => False) (w.alloc (.cells #[.slice none 0 0] 55)) HB0.out HB0.out.size (fun _ h_ => h_.elim) (fun q hq => by have := alloc_size w (.cells #[.slice none 0 0] 55); omega) (fun h_ => h_ rfl) (Kd.R_nil _ _ _ _ _) (alloc_new _ _) (Kd.S_nil _ _ _ _ _) HH.out).mono ?_; rintro e w' ⟨rfl, v', hO', hR', hB', _, _, _⟩; have HO3 := (blk_cell hO' 0).trans rfl; have HR3 := Aside0.mk hR'; have HB3 := Aside0.mk hB'; obtain ⟨Ap, cp, ep⟩ := Kd.S_slice hR'; subst ep; clear hO' hR' hB'))
  go_ret
  exact ⟨_, rfl, Kd.S_mono HR3.out (fun _ _ => trivial), HB3.out⟩
 ·rw [if_neg c] at h
  exact absurd h (by simp)

/-! ### spec_pzSolved: function 53 -/
def spec_pzSolved.f (k : Nat) (a0 : Int) (l1 : List (S50)) : Option (Bool) := (spec_pzAll.f k a0 l1).bind fun t185 => (some ((t185.length : Int) == 1))
theorem spec_pzSolved.mono : ∀ a0 a1 k, LeO (spec_pzSolved.f k a0 a1) (spec_pzSolved.f (k + 1) a0 a1) := by
 intro a0 a1 k
 unfold spec_pzSolved.f
 repeat' first
   | (with_reducible exact spec_pzAll.mono _ _ _)
   | (with_reducible exact LeO.refl _)
   | (with_reducible exact LeO.none _)
   | (with_reducible refine LeO.ite ?_ ?_)
   | (with_reducible refine LeO.bind ?_ (fun _ => ?_))
   | exact spec_pzAll.mono _ _ _
   | exact LeO.none _
   | refine LeO.ite ?_ ?_
   | refine LeO.bind ?_ (fun _ => ?_)
set_option maxHeartbeats 8000000 in
set_option maxRecDepth 100000 in
theorem spec_pzSolved.calls (k : Nat) (a0 : Int) (A1 : Option Addr) (c1 : Nat) (l1 : List (S50)) (r : Bool) (w : World) (hr1 : Kd.C k50 w A1 l1.length l1) (hc1 : l1.length ≤ c1) (h : spec_pzSolved.f k a0 l1 = some r) :
  Calls Try.prog 53 #[.int .i64 a0, .slice A1 l1.length c1] w fun e w' => e = .returned (.bool r) ∧ Below w.heap.size w w' := by
 have HR1 := Aside0.mk hr1
 have HC1 := Aside0.mk hc1
 clear hr1 hc1
 have HB := Aside0.mk (Below.refl w.heap.size w)
 have H : ((spec_pzAll.f k a0 l1).bind fun t185 => (some ((t185.length : Int) == 1))) = some r := h
 clear h
 replace H := Option.bind_eq_some_iff.mp H
 obtain ⟨t185, A30, H⟩ := H
 replace H : (some ((t185.length : Int) == 1)) = some r := H
 have A3 := Aside0.mk A30
 clear A30
 obtain rfl := Option.some.inj H
 go_enter Try.func53, Try.ntmps53
 go_wp2_with (first | ((with_reducible refine gate_callee (f := 48) rfl ?_); refine goesL_ (some 7) rfl rfl Try.func48 (by kernel_rfl) rfl #[.int .i64 a0, .slice A1 l1.length c1] rfl (by (try simp only [List.map_toArray, List.map_cons, List.map_nil]); first | done | rfl | (simp only [List.length_drop, List.length_take]; rfl)) ?_; (with_reducible refine (spec_pzAll.calls k a0 _ _ l1 t185 _ ?side1 ?side2 A3.out).mono ?_); (case side1 => repeat (first | exact HR1.out | (with_reducible refine Kd.C_alloc ?_ _) | (with_reducible refine Kd.C_drewN ?_ _) | (with_reducible refine Kd.C_drew ?_))); (case side2 => exact HC1.out); rintro e w4 ⟨v186, rfl, ho0, hb⟩; refine ⟨_, rfl, ?_⟩; have n0_ := Aside0.mk (Kd.S_lower ho0 (below_size (by repeat (first | (with_reducible first | exact HB.out | apply below_alloc | apply pw_below_drewN | apply below_drew1) | exact HB.out)))); have n1_ := Aside0.mk (below_step (by repeat (first | (with_reducible first | exact HB.out | apply below_alloc | apply pw_below_drewN | apply below_drew1) | exact HB.out)) hb); clear HB; have HO187 := n0_; have HB := n1_; clear n0_ n1_; (try clear hb); (try clear hb2); (try clear hk); (try clear hi); (try clear ho0); obtain ⟨Ao5, co5, eo5⟩ := Kd.S_slice HO187.out; subst eo5))
 go_ret
 exact ⟨by first | rfl | (simp [errW_none, errW_some] <;> rfl) | (simp [*, errW_none, errW_some] <;> rfl), by repeat (first | (with_reducible first | exact HB.out | apply below_alloc | apply pw_below_drewN | apply below_drew1) | exact HB.out)⟩

/-! ### spec_pzWithout: function 54 -/
def spec_pzWithout.f (l0 : List (S50)) (a1 : Int) : Option ((List (S50))) := (some (([] : List (S50)) : List (S50))).bind fun y188 => (if 0 ≤ a1 then (if a1 ≤ (l0.length : Int) then ((some (l0.take (a1 : Int).toNat : List (S50))).bind fun y191 => (if y188.length + y191.length < 4398046511104 then ((some (y188 ++ y191 : List (S50))).bind fun y195 => (if 0 ≤ (wrap64 (a1 + 1)) then (if (wrap64 (a1 + 1)) ≤ (l0.length : Int) then ((some (l0.drop ((wrap64 (a1 + 1)) : Int).toNat : List (S50))).bind fun y198 => (if y195.length + y198.length < 4398046511104 then (some (y195 ++ y198)) else (none))) else (none)) else (none))) else (none))) else (none)) else (none))
def spec_pzWithout.T1 : Bool × List (List Nat × List Nat) := (true, [([], []), ([], []), ([], []), ([1, 2], [1, 2]), ([0, 3], [0, 3]), ([], []), ([], []), ([6], [6]), ([5, 7], [5, 7]), ([4, 8, 4], [4, 8]), ([9, 9, 0, 1, 2, 3, 4, 5, 6, 7, 8, 9], [9])])
def spec_pzWithout.B1 : List Nat := [0, 0, 0, 6, 15, 0, 0, 64, 224, 511, 1023]
theorem spec_pzWithout.tab1 : rtab .any (opsOf Try.f54 1) = spec_pzWithout.T1 := by kernel_rfl
theorem spec_pzWithout.bits1 : waitsOk spec_pzWithout.T1.2 spec_pzWithout.B1 = true := by kernel_rfl
set_option maxHeartbeats 8000000 in
set_option maxRecDepth 100000 in
theorem spec_pzWithout.calls (A0 : Option Addr) (c0 : Nat) (l0 : List (S50)) (a1 : Int) (r : List (S50)) (w : World) (hr0 : Kd.C k50 w A0 l0.length l0) (hc0 : l0.length ≤ c0) (h : spec_pzWithout.f l0 a1 = some r) :
  Calls Try.prog 54 #[.slice A0 l0.length c0, .int .i64 a1] w fun e w' => ∃ v0_ : Value, e = .returned (v0_) ∧ Kd.R k50 50 w' w.heap.size (fun _ => True) v0_ r ∧ Below w.heap.size w w' := by
 have HR0 := Aside0.mk hr0
 have HC0 := Aside0.mk hc0
 clear hr0 hc0
 have HB := Aside0.mk (Below.refl w.heap.size w)
 have H : ((some (([] : List (S50)) : List (S50))).bind fun y188 => (if 0 ≤ a1 then (if a1 ≤ (l0.length : Int) then ((some (l0.take (a1 : Int).toNat : List (S50))).bind fun y191 => (if y188.length + y191.length < 4398046511104 then ((some (y188 ++ y191 : List (S50))).bind fun y195 => (if 0 ≤ (wrap64 (a1 + 1)) then (if (wrap64 (a1 + 1)) ≤ (l0.length : Int) then ((some (l0.drop ((wrap64 (a1 + 1)) : Int).toNat : List (S50))).bind fun y198 => (if y195.length + y198.length < 4398046511104 then (some (y195 ++ y198)) else (none))) else (none)) else (none))) else (none))) else (none)) else (none))) = some r := h
 clear h
 obtain ⟨y188, hy188⟩ : ∃ y_ : List (S50), y_ = (([] : List (S50))) := ⟨_, rfl⟩
 replace H : (if 0 ≤ a1 then (if a1 ≤ (l0.length : Int) then ((some (l0.take (a1 : Int).toNat : List (S50))).bind fun y191 => (if y188.length + y191.length < 4398046511104 then ((some (y188 ++ y191 : List (S50))).bind fun y195 => (if 0 ≤ (wrap64 (a1 + 1)) then (if (wrap64 (a1 + 1)) ≤ (l0.length : Int) then ((some (l0.drop ((wrap64 (a1 + 1)) : Int).toNat : List (S50))).bind fun y198 => (if y195.length + y198.length < 4398046511104 then (some (y195 ++ y198)) else (none))) else (none)) else (none))) else (none))) else (none)) else (none)) = some r := by first | (rw [hy188]; with_reducible exact H) | (have H2_ := (Option.bind_some _ _).symm.trans H; rw [hy188]; with_reducible exact H2_) | (have H2_ := (Option.bind_some _ _).symm.trans H; with_reducible exact H2_) | with_reducible exact H | (rw [hy188]; exact H) | exact H
 have Ny188 := Aside0.mk hy188
 clear hy188
 by_cases c3 : 0 ≤ a1
 ·rw [if_pos c3] at H
  have c3b0 := eq_true c3
  have c3b1 : decide (0 ≤ a1) = true := decide_eq_true c3
  clear c3
  by_cases c4 : a1 ≤ (l0.length : Int)
  ·rw [if_pos c4] at H
   have c4b0 := eq_true c4
   have c4b1 : decide (a1 ≤ (l0.length : Int)) = true := decide_eq_true c4
   clear c4
   obtain ⟨y191, hy191⟩ : ∃ y_ : List (S50), y_ = (l0.take (a1 : Int).toNat) := ⟨_, rfl⟩
   replace H : (if y188.length + y191.length < 4398046511104 then ((some (y188 ++ y191 : List (S50))).bind fun y195 => (if 0 ≤ (wrap64 (a1 + 1)) then (if (wrap64 (a1 + 1)) ≤ (l0.length : Int) then ((some (l0.drop ((wrap64 (a1 + 1)) : Int).toNat : List (S50))).bind fun y198 => (if y195.length + y198.length < 4398046511104 then (some (y195 ++ y198)) else (none))) else (none)) else (none))) else (none)) = some r := by first | (rw [hy191]; with_reducible exact H) | (have H2_ := (Option.bind_some _ _).symm.trans H; rw [hy191]; with_reducible exact H2_) | (have H2_ := (Option.bind_some _ _).symm.trans H; with_reducible exact H2_) | with_reducible exact H | (rw [hy191]; exact H) | exact H
   have Ny191 := Aside0.mk hy191
   clear hy191
   by_cases c5 : y188.length + y191.length < 4398046511104
   ·rw [if_pos c5] at H
    have LMc5 := Aside0.mk c5
    clear c5
    obtain ⟨y195, hy195⟩ : ∃ y_ : List (S50), y_ = (y188 ++ y191) := ⟨_, rfl⟩
    replace H : (if 0 ≤ (wrap64 (a1 + 1)) then (if (wrap64 (a1 + 1)) ≤ (l0.length : Int) then ((some (l0.drop ((wrap64 (a1 + 1)) : Int).toNat : List (S50))).bind fun y198 => (if y195.length + y198.length < 4398046511104 then (some (y195 ++ y198)) else (none))) else (none)) else (none)) = some r := by first | (rw [hy195]; with_reducible exact H) | (have H2_ := (Option.bind_some _ _).symm.trans H; rw [hy195]; with_reducible exact H2_) | (have H2_ := (Option.bind_some _ _).symm.trans H; with_reducible exact H2_) | with_reducible exact H | (rw [hy195]; exact H) | exact H
    have Ny195 := Aside0.mk hy195
    clear hy195
    obtain ⟨ji6, hji6⟩ : ∃ j_ : Int, (wrap64 (a1 + 1)) = j_ := ⟨_, rfl⟩
    replace H : (if 0 ≤ (ji6) then (if (ji6) ≤ (l0.length : Int) then ((some (l0.drop ((ji6) : Int).toNat : List (S50))).bind fun y198 => (if y195.length + y198.length < 4398046511104 then (some (y195 ++ y198)) else (none))) else (none)) else (none)) = some r := by first | (rw [hji6] at H; exact H) | (simp only [hji6] at H ⊢; exact H)
    have hji6w : (IntKind.i64.wrap (a1 + 1)) = ji6 := (i64_w _).trans hji6
    by_cases c7 : 0 ≤ (ji6)
    ·rw [if_pos c7] at H
     have c7b0 := eq_true c7
     have c7b1 : decide (0 ≤ (ji6)) = true := decide_eq_true c7
     clear c7
     by_cases c8 : (ji6) ≤ (l0.length : Int)
     ·rw [if_pos c8] at H
      have c8b0 := eq_true c8
      have c8b1 : decide ((ji6) ≤ (l0.length : Int)) = true := decide_eq_true c8
      clear c8
      obtain ⟨y198, hy198⟩ : ∃ y_ : List (S50), y_ = (l0.drop ((ji6) : Int).toNat) := ⟨_, rfl⟩
      replace H : (if y195.length + y198.length < 4398046511104 then (some (y195 ++ y198)) else (none)) = some r := by first | (rw [hy198]; with_reducible exact H) | (have H2_ := (Option.bind_some _ _).symm.trans H; rw [hy198]; with_reducible exact H2_) | (have H2_ := (Option.bind_some _ _).symm.trans H; with_reducible exact H2_) | with_reducible exact H | (rw [hy198]; exact H) | exact H
      have Ny198 := Aside0.mk hy198
      clear hy198
      by_cases c9 : y195.length + y198.length < 4398046511104
      ·rw [if_pos c9] at H
       have LMc9 := Aside0.mk c9
       clear c9
       obtain ⟨y202, hy202⟩ : ∃ y_ : List (S50), y_ = (y195 ++ y198) := ⟨_, rfl⟩
       replace H : (some y202) = some r := by first | (rw [hy202]; with_reducible exact H) | (have H2_ := (Option.bind_some _ _).symm.trans H; rw [hy202]; with_reducible exact H2_) | (have H2_ := (Option.bind_some _ _).symm.trans H; with_reducible exact H2_) | with_reducible exact H | (rw [hy202]; exact H) | exact H
       have Ny202 := Aside0.mk hy202
       clear hy202
       obtain rfl := Option.some.inj H
       go_enter Try.func54, Try.ntmps54
       try go_wp2
       have n0_ := Aside0.mk (below_drew1 HB.out)
       clear HB
       have HB := n0_
       clear n0_
       have q11 : (a1 : Int) ≤ ((l0.length : Int) : Int) := of_decide_eq_true (by first | (with_reducible assumption) | assumption)
       obtain ⟨i011, hi011, _, hsz11, _⟩ := info_parts info50
       have hroom11 : l0.length ≤ c0 := HC0.out
       have hC11 : Kd.C k50 _ A0 l0.length l0 := HR0.out
       have hcut11 := cut_to (P := Try.prog) 29 50 .i64 Try.underlying29 hi011 A0 l0.length c0 a1 (of_decide_eq_true (by first | (with_reducible assumption) | assumption)) q11 hroom11
       have hr11 := Kd.C_take (m := (a1 : Int).toNat) hC11 (by omega)
       have hy11 : y191.length = (a1 : Int).toNat := (by rw [Ny191.out, List.length_take]; omega)
       rw [← Ny191.out] at hr11
       rw [← hy11] at hcut11
       have HR194 := Aside0.mk hr11
       have HC194 := Aside0.mk (show y191.length ≤ c0 from by omega)
       clear hr11 hC11 hroom11 hi011 hsz11
       have KY11 := Aside0.mk hy11
       clear hy11
       replace q11 := eq_true q11
       have q12 : ((ji6) : Int) ≤ ((l0.length : Int) : Int) := of_decide_eq_true (by first | (with_reducible assumption) | assumption)
       obtain ⟨i012, hi012, _, hsz12, _⟩ := info_parts info50
       have hroom12 : l0.length ≤ c0 := HC0.out
       have hC12 : Kd.C k50 _ A0 l0.length l0 := HR0.out
       have q012 : (0 : Int) ≤ ((ji6) : Int) := of_decide_eq_true (by first | (with_reducible assumption) | assumption)
       have hcut12 := cut_from (P := Try.prog) 29 50 .i64 Try.underlying29 hi012 4 hsz12 A0 l0.length c0 (ji6) q012 q12
       have hr12 := Kd.C_drop (m := ((ji6) : Int).toNat) (c := c0) hC12 (by omega) hroom12
       obtain ⟨A12, hA12⟩ : ∃ A1, A1 = (if c0 = ((ji6) : Int).toNat then A0 else (A0 : Option Addr).map (·.add (((ji6) : Int).toNat * 4))) := ⟨_, rfl⟩
       obtain ⟨c12, hc12⟩ : ∃ c1, c1 = c0 - ((ji6) : Int).toNat := ⟨_, rfl⟩
       have hy12 : y198.length = l0.length - ((ji6) : Int).toNat := (by rw [Ny198.out, List.length_drop] <;> omega)
       rw [show (l0).drop ((ji6) : Int).toNat = y198 from Ny198.out.symm] at hr12
       replace hr12 : Kd.C k50 _ A12 y198.length y198 := (by rw [hA12]; exact hr12)
       rw [← hy12, ← hA12, ← hc12] at hcut12
       have HR201 := Aside0.mk hr12
       have HC201 := Aside0.mk (show y198.length ≤ c12 from by rw [hy12, hc12]; exact Nat.sub_le_sub_right hroom12 _)
       clear hr12 hC12 hroom12 hi012 hsz12 hc12
       have KY12 := Aside0.mk hy12
       have KA12 := Aside0.mk hA12
       clear hy12 hA12
       replace q12 := eq_true q12
       refine start_ (n := 11) (S := fun w' => True) (ds := []) #[false, false, false, false, false, false, false, false, false, false, false] (by kernel_rfl) rfl rfl trivial (fun hHeld => ?_); refine with_tabW spec_pzWithout.tab1 spec_pzWithout.bits1 (fun HT_ HW_ => ?_)
       generalize w.drew = w10 at HB HR194 HR201 hHeld ⊢
       refine pure_ (i := 1) (N := some 6) (v := ?_) (a' := ?_) #[false, true, false, false, false, false, false, false, false, false, false] rfl rfl (any_of HT_.out (by kernel_rfl)) (fun _ _ _ h => h) (Or.inl ⟨by rfl, ?_⟩) ?_ ?_
       rotate_left
       ·intro w'
        go_simp
        with_reducible rfl
       rotate_left
       ·simp only [Act.put, List.setIfInBounds_toArray, List.set_cons_zero, List.set_cons_succ, i64_w, i32_w]
        rfl
       refine pure_ (i := 2) (N := some 7) (v := ?_) (a' := ?_) #[false, true, true, false, false, false, false, false, false, false, false] rfl rfl (any_of HT_.out (by kernel_rfl)) (fun _ _ _ h => h) (Or.inl ⟨by rfl, ?_⟩) ?_ ?_
       rotate_left
       ·intro w'
        go_simp
        with_reducible rfl
       rotate_left
       ·simp only [Act.put, List.setIfInBounds_toArray, List.set_cons_zero, List.set_cons_succ, i64_w, i32_w]
        rfl
       refine pure_ (i := 3) (N := some 8) (v := ?_) (a' := ?_) #[false, true, true, true, false, false, false, false, false, false, false] rfl rfl (any_of HT_.out (by kernel_rfl)) (fun _ _ _ h => h) (Or.inl ⟨by rfl, ?_⟩) ?_ ?_
       rotate_left
       ·intro w'
        go_simp
        with_reducible rfl
       rotate_left
       ·simp only [Act.put, List.setIfInBounds_toArray, List.set_cons_zero, List.set_cons_succ, i64_w, i32_w]
        rfl
       refine pure_ (i := 5) (N := some 10) (v := ?_) (a' := ?_) #[false, true, true, true, false, true, false, false, false, false, false] rfl rfl (any_of HT_.out (by kernel_rfl)) (fun _ _ _ h => h) (Or.inl ⟨by rfl, ?_⟩) ?_ ?_
       rotate_left
       ·intro w'
        go_simp
        with_reducible rfl
       rotate_left
       ·simp only [Act.put, List.setIfInBounds_toArray, List.set_cons_zero, List.set_cons_succ, i64_w, i32_w]
        rfl
       refine pure_ (i := 6) (N := some 11) (v := ?_) (a' := ?_) #[false, true, true, true, false, true, true, false, false, false, false] rfl rfl (any_of HT_.out (by kernel_rfl)) (fun _ _ _ h => h) (Or.inl ⟨by rfl, ?_⟩) ?_ ?_
       rotate_left
       ·intro w'
        go_simp
        with_reducible rfl
       rotate_left
       ·simp only [Act.put, List.setIfInBounds_toArray, List.set_cons_zero, List.set_cons_succ, i64_w, i32_w]
        rfl
       refine pure_ (i := 7) (N := some 12) (v := ?_) (a' := ?_) #[false, true, true, true, false, true, true, true, false, false, false] rfl rfl (any_of HT_.out (by kernel_rfl)) (fun _ _ _ h => h) (Or.inl ⟨by rfl, ?_⟩) ?_ ?_
       rotate_left
       ·intro w'
        go_simp
        with_reducible rfl
       rotate_left
       ·simp only [Act.put, List.setIfInBounds_toArray, List.set_cons_zero, List.set_cons_succ, i64_w, i32_w]
        rfl
       refine pure_ (i := 8) (N := some 13) (v := ?_) (a' := ?_) #[false, true, true, true, false, true, true, true, true, false, false] rfl rfl (any_of HT_.out (by kernel_rfl)) (fun _ _ _ h => h) (Or.inl ⟨by rfl, ?_⟩) ?_ ?_
       rotate_left
       ·intro w'
        go_simp
        with_reducible rfl
       rotate_left
       ·simp only [Act.put, List.setIfInBounds_toArray, List.set_cons_zero, List.set_cons_succ, i64_w, i32_w]
        rfl
       refine one_ (i := 0) (N := some 5) #[true, true, true, true, false, true, true, true, true, false, false] rfl rfl (one_of HT_.out (by kernel_rfl)) (by decide) (fun K hK => ?_)
       refine Kd.R_lit_step k50 _ 50 ?hg (N := 5) ?hd (xs := ([] : List (S50))) (inner := []) (ok := fun _ => True) (okp := fun _ => True) ?hr ?hp (fun _ hk => hk) trivial (Below.refl _ _) (Nat.le_refl _) (by simp) ?_; (case hd => rfl); (case hg => rfl); (case hr => first | (go_simp; done) | (go_simp; rfl)); (case hp => exact (Reps.none _ _))
       intro v189 w13 ho14 hb hg_ hnew_
       clear hg_ hnew_
       (first | rw [← Ny188.out] at ho14 | (simp only [Int.reduceToNat] at ho14; rw [← Ny188.out] at ho14))
       have n0_ := Aside0.mk (Kd.R_lower ho14 (below_size (by repeat (first | (with_reducible first | exact HB.out | apply below_alloc | apply pw_below_drewN | apply below_drew1) | exact HB.out))))
       have n1_ := Aside0.mk (below_step (by repeat (first | (with_reducible first | exact HB.out | apply below_alloc | apply pw_below_drewN | apply below_drew1) | exact HB.out)) hb)
       clear HB
       have HO190 := n0_
       have HB := n1_
       clear n0_ n1_
       clear hb ho14
       refine hK.out _ _ trivial (fun hHeld => ?_)
       clear hK K
       refine norm_ (a' := ?_) ?_ ?_
       rotate_left
       ·show Act.put _ (some 5) _ = _
        simp only [Act.put, List.setIfInBounds_toArray, List.set_cons_zero, List.set_cons_succ, i64_w, i32_w]
        rfl
       refine one_ (i := 4) (N := some 9) #[true, true, true, true, true, true, true, true, true, false, false] rfl rfl (one_of HT_.out (by kernel_rfl)) (by decide) (fun K hK => ?_)
       refine Kd.R_append_rows_step k50 (w0 := w) w.heap.size (by rfl) (.tmp 5) (.tmp 8) 29 50 (.agg #[(.int .i64 0), (.int .i64 0), (.int .i64 0), (.int .i64 0)]) 32 rfl Try.underlying29 info50 rfl (by decide) (by omega) v189 y188 y191 _ _ _ (fun _ => True) (fun _ => False) rfl rfl ?aO ?aR (fun _ _ h => h) (fun _ h => h.elim) ?aF ?aB ?aS ?aL ?_
       (case aR => repeat (first | exact (Kd.C_below HR194.out HB.out) | (with_reducible refine Kd.C_alloc ?_ _) | (with_reducible refine Kd.C_drewN ?_ _) | (with_reducible refine Kd.C_drew ?_)))
       (case aB => exact (by repeat (first | (with_reducible first | exact HB.out | apply below_alloc | apply pw_below_drewN | apply below_drew1) | exact HB.out)))
       (case aF => exact (fun _ _ => trivial))
       (case aO => exact (by (with_reducible repeat (first | apply Kd.R_alloc | apply Kd.R_drewN | apply Kd.R_drew)); exact HO190.out))
       (case aS => exact (below_size (by repeat (first | (with_reducible first | exact HB.out | apply below_alloc | apply pw_below_drewN | apply below_drew1) | exact HB.out))))
       (case aL => have := LMc5.out; omega)
       intro v196 w15 ho hb hg hat
       rw [← Ny195.out] at ho
       have n0_ := Aside0.mk (hb)
       have n1_ := Aside0.mk (ho)
       clear HB
       clear HO190
       have HB := n0_
       have HO197 := n1_
       clear n0_ n1_
       clear ho hb hg hat
       refine hK.out _ _ trivial (fun hHeld => ?_)
       clear hK K
       refine norm_ (a' := ?_) ?_ ?_
       rotate_left
       ·show Act.put _ (some 9) _ = _
        simp only [Act.put, List.setIfInBounds_toArray, List.set_cons_zero, List.set_cons_succ, i64_w, i32_w]
        rfl
       refine one_ (i := 9) (N := some 14) #[true, true, true, true, true, true, true, true, true, true, false] rfl rfl (one_of HT_.out (by kernel_rfl)) (by decide) (fun K hK => ?_)
       refine Kd.R_append_rows_step k50 (w0 := w) w.heap.size (by rfl) (.tmp 9) (.tmp 13) 29 50 (.agg #[(.int .i64 0), (.int .i64 0), (.int .i64 0), (.int .i64 0)]) 32 rfl Try.underlying29 info50 rfl (by decide) (by omega) v196 y195 y198 _ _ _ (fun _ => True) (fun _ => False) rfl rfl ?aO ?aR (fun _ _ h => h) (fun _ h => h.elim) ?aF ?aB ?aS ?aL ?_
       (case aR => repeat (first | exact (Kd.C_below HR201.out HB.out) | (with_reducible refine Kd.C_alloc ?_ _) | (with_reducible refine Kd.C_drewN ?_ _) | (with_reducible refine Kd.C_drew ?_)))
       (case aB => exact (by repeat (first | (with_reducible first | exact HB.out | apply below_alloc | apply pw_below_drewN | apply below_drew1) | exact HB.out)))
       (case aF => exact (fun _ _ => trivial))
       (case aO => exact (by (with_reducible repeat (first | apply Kd.R_alloc | apply Kd.R_drewN | apply Kd.R_drew)); exact HO197.out))
       (case aS => exact (below_size (by repeat (first | (with_reducible first | exact HB.out | apply below_alloc | apply pw_below_drewN | apply below_drew1) | exact HB.out))))
       (case aL => have := LMc9.out; omega)
       intro v203 w16 ho hb hg hat
       rw [← Ny202.out] at ho
       have n0_ := Aside0.mk (hb)
       have n1_ := Aside0.mk (ho)
       clear HB
       clear HO197
       have HB := n0_
       have HO204 := n1_
       clear n0_ n1_
       clear ho hb hg hat
       refine hK.out _ _ trivial (fun hHeld => ?_)
       clear hK K
       refine norm_ (a' := ?_) ?_ ?_
       rotate_left
       ·show Act.put _ (some 14) _ = _
        simp only [Act.put, List.setIfInBounds_toArray, List.set_cons_zero, List.set_cons_succ, i64_w, i32_w]
        rfl
       refine pure_ (i := 10) (N := some 4) (v := ?_) (a' := ?_) #[true, true, true, true, true, true, true, true, true, true, true] rfl rfl (any_of HT_.out (by kernel_rfl)) (fun _ _ _ h => h) (Or.inl ⟨by rfl, ?_⟩) ?_ ?_
       rotate_left
       ·intro w'
        go_simp
        with_reducible rfl
       rotate_left
       ·simp only [Act.put, List.setIfInBounds_toArray, List.set_cons_zero, List.set_cons_succ, i64_w, i32_w]
        rfl
       refine done_ (done_of HT_.out (by kernel_rfl)) ?_
       try go_wp2
       go_ret
       exact ⟨_, by first | rfl | (simp [errW_none, errW_some] <;> rfl) | (simp only [← hji6]; first | rfl | (simp [errW_none, errW_some] <;> rfl)) | (simp [*, errW_none, errW_some] <;> rfl), by (with_reducible repeat (first | apply Kd.R_alloc | apply Kd.R_drewN | apply Kd.R_drew)); exact HO204.out, by repeat (first | (with_reducible first | exact HB.out | apply below_alloc | apply pw_below_drewN | apply below_drew1) | exact HB.out)⟩
      ·rw [if_neg c9] at H
       exact absurd H (by simp)
     ·rw [if_neg c8] at H
      exact absurd H (by simp)
    ·rw [if_neg c7] at H
     exact absurd H (by simp)
   ·rw [if_neg c5] at H
    exact absurd H (by simp)
  ·rw [if_neg c4] at H
   exact absurd H (by simp)
 ·rw [if_neg c3] at H
  exact absurd H (by simp)

/-! ### spec_HarderPuzzle: function 16 -/
mutual
def spec_HarderPuzzle.j0 : Nat → Bool → Int → List (S50) → Option (Int × (List (S50)) × Bool)
 | 0, _, _, _ => none
 | k + 1, x17, x206000, x206001 => if x17 = true then (some (0, ([] : List (S50)), false)) else ((some (([] : List (S50)) : List (S50))).bind fun y209 => (if y209.length + x206001.length < 4398046511104 then (spec_HarderPuzzle.l0 k (y209 ++ x206001) 0 x206000 x206001) else (none)))
def spec_HarderPuzzle.l0 : Nat → List (S50) → Int → Int → List (S50) → Option (Int × (List (S50)) × Bool)
 | 0, _, _, _, _ => none
 | k + 1, x4, x5, x206000, x206001 => if x5 < (x4.length : Int) then ((spec_pzWithout.f x4 x5).bind fun t215 => ((spec_pzSolved.f k x206000 t215).bind fun t218 => (if t218 = true then (spec_HarderPuzzle.l0 k t215 x5 x206000 x206001) else (spec_HarderPuzzle.l0 k x4 (wrap64 (x5 + 1)) x206000 x206001)))) else (some (x206000, x4, true))
end
def spec_HarderPuzzle.f (k : Nat) (a0_0 : Int) (l0_1 : List (S50)) : Option (Int × (List (S50)) × Bool) := (spec_pzGood.f k a0_0 l0_1).bind fun t207 => (if t207 = true then ((spec_pzSolved.f k a0_0 l0_1).bind fun t208 => (spec_HarderPuzzle.j0 k (!t208) a0_0 l0_1)) else (spec_HarderPuzzle.j0 k true a0_0 l0_1))
theorem spec_HarderPuzzle.mono_l : ∀ k, (∀ y0 y1 y2, LeO (spec_HarderPuzzle.j0 k y0 y1 y2) (spec_HarderPuzzle.j0 (k + 1) y0 y1 y2)) ∧ (∀ y0 y1 y2 y3, LeO (spec_HarderPuzzle.l0 k y0 y1 y2 y3) (spec_HarderPuzzle.l0 (k + 1) y0 y1 y2 y3))
 | 0 => ⟨fun _ _ _ r h => by simp [spec_HarderPuzzle.j0] at h, fun _ _ _ _ r h => by simp [spec_HarderPuzzle.l0] at h⟩
 | k + 1 => by
  obtain ⟨ih0, ih1⟩ := spec_HarderPuzzle.mono_l k
  refine ⟨?_, ?_⟩
  ·intro y0 y1 y2
   unfold spec_HarderPuzzle.j0
   repeat' first
   | (with_reducible exact ih0 _ _ _)
   | (with_reducible exact ih1 _ _ _ _)
   | (with_reducible exact spec_pzGood.mono _ _ _)
   | (with_reducible exact spec_pzSolved.mono _ _ _)
   | (with_reducible exact LeO.refl _)
   | (with_reducible exact LeO.none _)
   | (with_reducible refine LeO.ite ?_ ?_)
   | (with_reducible refine LeO.bind ?_ (fun _ => ?_))
   | exact ih0 _ _ _
   | exact ih1 _ _ _ _
   | exact spec_pzGood.mono _ _ _
   | exact spec_pzSolved.mono _ _ _
   | exact LeO.none _
   | refine LeO.ite ?_ ?_
   | refine LeO.bind ?_ (fun _ => ?_)
  ·intro y0 y1 y2 y3
   unfold spec_HarderPuzzle.l0
   repeat' first
   | (with_reducible exact ih0 _ _ _)
   | (with_reducible exact ih1 _ _ _ _)
   | (with_reducible exact spec_pzGood.mono _ _ _)
   | (with_reducible exact spec_pzSolved.mono _ _ _)
   | (with_reducible exact LeO.refl _)
   | (with_reducible exact LeO.none _)
   | (with_reducible refine LeO.ite ?_ ?_)
   | (with_reducible refine LeO.bind ?_ (fun _ => ?_))
   | exact ih0 _ _ _
   | exact ih1 _ _ _ _
   | exact spec_pzGood.mono _ _ _
   | exact spec_pzSolved.mono _ _ _
   | exact LeO.none _
   | refine LeO.ite ?_ ?_
   | refine LeO.bind ?_ (fun _ => ?_)
theorem spec_HarderPuzzle.mono : ∀ a0 a1 k, LeO (spec_HarderPuzzle.f k a0 a1) (spec_HarderPuzzle.f (k + 1) a0 a1) := by
 intro a0 a1 k
 obtain ⟨ih0, ih1⟩ := spec_HarderPuzzle.mono_l k
 unfold spec_HarderPuzzle.f
 repeat' first
   | (with_reducible exact ih0 _ _ _)
   | (with_reducible exact ih1 _ _ _ _)
   | (with_reducible exact spec_pzGood.mono _ _ _)
   | (with_reducible exact spec_pzSolved.mono _ _ _)
   | (with_reducible exact LeO.refl _)
   | (with_reducible exact LeO.none _)
   | (with_reducible refine LeO.ite ?_ ?_)
   | (with_reducible refine LeO.bind ?_ (fun _ => ?_))
   | exact ih0 _ _ _
   | exact ih1 _ _ _ _
   | exact spec_pzGood.mono _ _ _
   | exact spec_pzSolved.mono _ _ _
   | exact LeO.none _
   | refine LeO.ite ?_ ?_
   | refine LeO.bind ?_ (fun _ => ?_)
set_option maxHeartbeats 8000000 in
set_option maxRecDepth 100000 in
theorem spec_HarderPuzzle.calls (k : Nat) (a0_0 : Int) (A0_1 : Option Addr) (c0_1 : Nat) (l0_1 : List (S50)) (r1 : Int) (r2 : List (S50)) (r3 : Bool) (w : World) (hr0_1 : Kd.C k50 w A0_1 l0_1.length l0_1) (hc0_1 : l0_1.length ≤ c0_1) (h : spec_HarderPuzzle.f k a0_0 l0_1 = some (r1, r2, r3)) :
  Calls Try.prog 16 #[.agg #[.int .i64 a0_0, .slice A0_1 l0_1.length c0_1]] w fun e w' => ∃ v1_ : Value, e = .returned (.tuple #[.agg #[.int .i64 r1, v1_], .bool r3]) ∧ Kd.R k50 50 w' w.heap.size (fun _ => True) v1_ r2 ∧ Below w.heap.size w w' := by
 have hu31 := Try.underlying31
 have HR0_1 := Aside0.mk hr0_1
 have HC0_1 := Aside0.mk hc0_1
 clear hr0_1 hc0_1
 have HB := Aside0.mk (Below.refl w.heap.size w)
 have H : ((spec_pzGood.f k a0_0 l0_1).bind fun t207 => (if t207 = true then ((spec_pzSolved.f k a0_0 l0_1).bind fun t208 => (spec_HarderPuzzle.j0 k (!t208) a0_0 l0_1)) else (spec_HarderPuzzle.j0 k true a0_0 l0_1))) = some (r1, r2, r3) := h
 clear h
 have HC2 := Aside0.mk H
 clear H
 go_enter Try.func16, Try.ntmps16
 go_upto_region 1 with (first | ((with_reducible refine gate_dst (N := 1) rfl ?_); refine box_event ?hg (N := 1) ?hd (cs := #[.int .i64 a0_0, .slice A0_1 l0_1.length c0_1]) (t := 31) ?hr ?_; (case hd => rfl); (case hg => rfl); (case hr => first | (go_simp; done) | (go_simp; rfl)); intro gb205 hg w3 hbox hb; have n0_ := Aside0.mk (below_step (by repeat (first | (with_reducible first | exact HB.out | apply below_alloc | apply pw_below_drewN | apply below_drew1) | exact HB.out)) hb); have n1_ := Aside0.mk (hbox); have n2_ := Aside0.mk ((by rw [hg]; exact (below_size (by repeat (first | (with_reducible first | exact HB.out | apply below_alloc | apply pw_below_drewN | apply below_drew1) | exact HB.out))) : w.heap.size ≤ gb205)); have n3_ := Aside0.mk ((by rw [hg]; exact (below_size (by repeat (first | (with_reducible first | exact HB.out | apply below_alloc | apply pw_below_drewN | apply below_drew1) | exact HB.out))) : w.heap.size ≤ gb205)); clear HB; have HB := n0_; have BK205 := n1_; have GW205 := n2_; have GE205 := n3_; clear n0_ n1_ n2_ n3_; clear hb hbox hg) | ((with_reducible refine gate_dst (N := 2) rfl ?_); refine box_event ?hg (N := 2) ?hd (cs := #[.int .i64 0, .slice none 0 0]) (t := 31) ?hr ?_; (case hd => rfl); (case hg => rfl); (case hr => first | (go_simp; done) | (go_simp; rfl)); intro gb206 hg w4 hbox hb; have n0_ := Aside0.mk (blk_below (g := gb205) (o := .cells #[.int .i64 a0_0, .slice A0_1 l0_1.length c0_1] 31 (0, 0)) (by (with_reducible repeat (first | refine blk_drewN ?_ _ | refine blk_drew ?_ | refine blk_alloc ?_ _)); exact BK205.out) hb); have n1_ := Aside0.mk (below_step (by repeat (first | (with_reducible first | exact HB.out | apply below_alloc | apply pw_below_drewN | apply below_drew1 | refine below_set ?_ GE205.out) | exact HB.out)) hb); have n2_ := Aside0.mk (hbox); have n3_ := Aside0.mk ((by rw [hg]; exact (below_size (by repeat (first | (with_reducible first | exact HB.out | apply below_alloc | apply pw_below_drewN | apply below_drew1 | refine below_set ?_ GE205.out) | exact HB.out))) : w.heap.size ≤ gb206)); have n4_ := Aside0.mk ((by rw [hg]; exact (below_size (by repeat (first | (with_reducible first | exact HB.out | apply below_alloc | apply pw_below_drewN | apply below_drew1 | refine below_set ?_ GE205.out) | exact HB.out))) : w.heap.size ≤ gb206)); have n5_ := Aside0.mk ((by rw [hg]; exact Nat.ne_of_lt (blk_lt (g := gb205) (o := .cells #[.int .i64 a0_0, .slice A0_1 l0_1.length c0_1] 31 (0, 0)) (by (with_reducible repeat (first | refine blk_drewN ?_ _ | refine blk_drew ?_ | refine blk_alloc ?_ _)); exact BK205.out)) : gb205 ≠ gb206)); have n6_ := Aside0.mk ((by rw [hg]; exact Nat.ne_of_gt (blk_lt (g := gb205) (o := .cells #[.int .i64 a0_0, .slice A0_1 l0_1.length c0_1] 31 (0, 0)) (by (with_reducible repeat (first | refine blk_drewN ?_ _ | refine blk_drew ?_ | refine blk_alloc ?_ _)); exact BK205.out)) : gb206 ≠ gb205)); clear BK205; clear HB; have BK205 := n0_; have HB := n1_; have BK206 := n2_; have GW206 := n3_; have GE206 := n4_; have NB205_206 := n5_; have NB206_205 := n6_; clear n0_ n1_ n2_ n3_ n4_ n5_ n6_; clear hb hbox hg))
 (try simp only [Act.put, List.setIfInBounds_toArray, List.set_cons_zero, List.set_cons_succ])
 go_cut [17] (fun v17 wc => ∃ (kq : Nat) (x17_1 : Bool), v17 = .bool x17_1 ∧ Aside0 (spec_HarderPuzzle.j0 kq x17_1 a0_0 l0_1 = some (r1, r2, r3)) ∧ Aside0 (kq ≤ k) ∧ Aside0 (wc.heap[gb205]? = some (.cells #[.int .i64 a0_0, (.slice A0_1 l0_1.length c0_1)] 31 (0, 0))) ∧ Aside0 (wc.heap[gb206]? = some (.cells #[.int .i64 0, (.slice none 0 0)] 31 (0, 0))) ∧ Aside0 (Below w.heap.size w wc))
 case first =>
  have H := HC2.out
  clear HC2
  replace H := Option.bind_eq_some_iff.mp H
  obtain ⟨t207, A50, H⟩ := H
  replace H : (if t207 = true then ((spec_pzSolved.f k a0_0 l0_1).bind fun t208 => (spec_HarderPuzzle.j0 k (!t208) a0_0 l0_1)) else (spec_HarderPuzzle.j0 k true a0_0 l0_1)) = some (r1, r2, r3) := H
  have A5 := Aside0.mk A50
  clear A50
  by_cases c6 : t207 = true
  ·subst c6
   have H1 : ((spec_pzSolved.f k a0_0 l0_1).bind fun t208 => (spec_HarderPuzzle.j0 k (!t208) a0_0 l0_1)) = some (r1, r2, r3) := by rw [if_pos rfl] at H; exact H
   clear H
   have H := H1
   clear H1
   replace H := Option.bind_eq_some_iff.mp H
   obtain ⟨t208, A70, H⟩ := H
   replace H : (spec_HarderPuzzle.j0 k (!t208) a0_0 l0_1) = some (r1, r2, r3) := H
   have A7 := Aside0.mk A70
   clear A70
   have H' := Aside0.mk H
   clear H
   have hnb8 := NB205_206.out
   have hnc8 := NB206_205.out
   have hcz9_0 : w4.cell? ⟨gb205, 0, none⟩ = some (.int .i64 a0_0) := (blk_cell BK205.out 0).trans rfl
   have hcz9_1 : w4.cell? ⟨gb205, 1, none⟩ = some (.slice A0_1 l0_1.length c0_1) := (blk_cell BK205.out 1).trans rfl
   have hfz9_0 := blk_frozen BK205.out 0
   have hfz9_1 := blk_frozen BK205.out 1
   go_wp2_with (first | ((with_reducible refine gate_callee (f := 47) rfl ?_); refine goesL_ (some 8) rfl rfl Try.func47 (by kernel_rfl) rfl #[.agg #[.int .i64 a0_0, .slice A0_1 l0_1.length c0_1]] rfl (by (try simp only [List.map_toArray, List.map_cons, List.map_nil]); first | done | rfl | (simp only [List.length_drop, List.length_take]; rfl)) ?_; (with_reducible refine (spec_pzGood.calls k a0_0 _ _ l0_1 true _ ?side1 ?side2 A5.out).mono ?_); (case side1 => repeat (first | exact (Kd.C_below HR0_1.out HB.out) | (with_reducible refine Kd.C_alloc ?_ _) | (with_reducible refine Kd.C_drewN ?_ _) | (with_reducible refine Kd.C_drew ?_))); (case side2 => exact HC0_1.out); rintro e w10 ⟨rfl, hb⟩; refine ⟨_, rfl, ?_⟩; have n0_ := Aside0.mk (blk_below (g := gb205) (o := .cells #[.int .i64 a0_0, .slice A0_1 l0_1.length c0_1] 31 (0, 0)) (by (with_reducible repeat (first | refine blk_drewN ?_ _ | refine blk_drew ?_ | refine blk_alloc ?_ _)); exact BK205.out) hb); have n1_ := Aside0.mk (blk_below (g := gb206) (o := .cells #[.int .i64 0, .slice none 0 0] 31 (0, 0)) (by (with_reducible repeat (first | refine blk_drewN ?_ _ | refine blk_drew ?_ | refine blk_alloc ?_ _)); exact BK206.out) hb); have n2_ := Aside0.mk (below_step (by repeat (first | (with_reducible first | exact HB.out | apply below_alloc | apply pw_below_drewN | apply below_drew1 | refine below_set ?_ GE205.out | refine below_set ?_ GE206.out) | exact HB.out)) hb); clear BK205; clear BK206; clear HB; have BK205 := n0_; have BK206 := n1_; have HB := n2_; clear n0_ n1_ n2_; (try clear hb); (try clear hb2); (try clear hk); (try clear hi); have hcz11_0 : w10.cell? ⟨gb205, 0, none⟩ = some (.int .i64 a0_0) := (blk_cell BK205.out 0).trans rfl; have hcz11_1 : w10.cell? ⟨gb205, 1, none⟩ = some (.slice A0_1 l0_1.length c0_1) := (blk_cell BK205.out 1).trans rfl; have hfz11_0 := blk_frozen BK205.out 0; have hfz11_1 := blk_frozen BK205.out 1) | (go_at_call 53; (with_reducible refine (spec_pzSolved.calls k a0_0 _ _ l0_1 t208 _ ?side1 ?side2 A7.out).mono ?_); (case side1 => repeat (first | exact (Kd.C_below HR0_1.out HB.out) | (with_reducible refine Kd.C_alloc ?_ _) | (with_reducible refine Kd.C_drewN ?_ _) | (with_reducible refine Kd.C_drew ?_))); (case side2 => exact HC0_1.out); rintro e w12 ⟨rfl, hb⟩; have n0_ := Aside0.mk (blk_below (g := gb205) (o := .cells #[.int .i64 a0_0, .slice A0_1 l0_1.length c0_1] 31 (0, 0)) (by (with_reducible repeat (first | refine blk_drewN ?_ _ | refine blk_drew ?_ | refine blk_alloc ?_ _)); exact BK205.out) hb); have n1_ := Aside0.mk (blk_below (g := gb206) (o := .cells #[.int .i64 0, .slice none 0 0] 31 (0, 0)) (by (with_reducible repeat (first | refine blk_drewN ?_ _ | refine blk_drew ?_ | refine blk_alloc ?_ _)); exact BK206.out) hb); have n2_ := Aside0.mk (below_step (by repeat (first | (with_reducible first | exact HB.out | apply below_alloc | apply pw_below_drewN | apply below_drew1 | refine below_set ?_ GE205.out | refine below_set ?_ GE206.out) | exact HB.out)) hb); clear BK205; clear BK206; clear HB; have BK205 := n0_; have BK206 := n1_; have HB := n2_; clear n0_ n1_ n2_; (try clear hb); (try clear hb2); (try clear hk); (try clear hi)))
   go_meet
   case rel => exact ⟨_, (!t208), (by first | rfl | (simp; done) | (simp [*]; done)), H', ⟨by first | omega | exact Nat.le_refl _⟩, ⟨by (with_reducible repeat (first | refine blk_drewN ?_ _ | refine blk_drew ?_ | refine blk_alloc ?_ _)); exact BK205.out⟩, ⟨by (with_reducible repeat (first | refine blk_drewN ?_ _ | refine blk_drew ?_ | refine blk_alloc ?_ _)); exact BK206.out⟩, ⟨by repeat (first | (with_reducible first | exact HB.out | apply below_alloc | apply pw_below_drewN | apply below_drew1 | refine below_set ?_ GE205.out | refine below_set ?_ GE206.out) | exact HB.out)⟩⟩
  ·replace c6 := Bool.eq_false_iff.mpr c6
   subst c6
   have H1 : (spec_HarderPuzzle.j0 k true a0_0 l0_1) = some (r1, r2, r3) := by rw [if_neg (show ¬ (false = true) by decide)] at H; exact H
   clear H
   have H := H1
   clear H1
   have H' := Aside0.mk H
   clear H
   have hnb13 := NB205_206.out
   have hnc13 := NB206_205.out
   have hcz14_0 : w4.cell? ⟨gb205, 0, none⟩ = some (.int .i64 a0_0) := (blk_cell BK205.out 0).trans rfl
   have hcz14_1 : w4.cell? ⟨gb205, 1, none⟩ = some (.slice A0_1 l0_1.length c0_1) := (blk_cell BK205.out 1).trans rfl
   have hfz14_0 := blk_frozen BK205.out 0
   have hfz14_1 := blk_frozen BK205.out 1
   go_wp2_with (first | ((with_reducible refine gate_callee (f := 47) rfl ?_); refine goesL_ (some 8) rfl rfl Try.func47 (by kernel_rfl) rfl #[.agg #[.int .i64 a0_0, .slice A0_1 l0_1.length c0_1]] rfl (by (try simp only [List.map_toArray, List.map_cons, List.map_nil]); first | done | rfl | (simp only [List.length_drop, List.length_take]; rfl)) ?_; (with_reducible refine (spec_pzGood.calls k a0_0 _ _ l0_1 false _ ?side1 ?side2 A5.out).mono ?_); (case side1 => repeat (first | exact (Kd.C_below HR0_1.out HB.out) | (with_reducible refine Kd.C_alloc ?_ _) | (with_reducible refine Kd.C_drewN ?_ _) | (with_reducible refine Kd.C_drew ?_))); (case side2 => exact HC0_1.out); rintro e w15 ⟨rfl, hb⟩; refine ⟨_, rfl, ?_⟩; have n0_ := Aside0.mk (blk_below (g := gb205) (o := .cells #[.int .i64 a0_0, .slice A0_1 l0_1.length c0_1] 31 (0, 0)) (by (with_reducible repeat (first | refine blk_drewN ?_ _ | refine blk_drew ?_ | refine blk_alloc ?_ _)); exact BK205.out) hb); have n1_ := Aside0.mk (blk_below (g := gb206) (o := .cells #[.int .i64 0, .slice none 0 0] 31 (0, 0)) (by (with_reducible repeat (first | refine blk_drewN ?_ _ | refine blk_drew ?_ | refine blk_alloc ?_ _)); exact BK206.out) hb); have n2_ := Aside0.mk (below_step (by repeat (first | (with_reducible first | exact HB.out | apply below_alloc | apply pw_below_drewN | apply below_drew1 | refine below_set ?_ GE205.out | refine below_set ?_ GE206.out) | exact HB.out)) hb); clear BK205; clear BK206; clear HB; have BK205 := n0_; have BK206 := n1_; have HB := n2_; clear n0_ n1_ n2_; (try clear hb); (try clear hb2); (try clear hk); (try clear hi)))
   go_meet
   case rel => exact ⟨_, (true), (by first | rfl | (simp; done) | (simp [*]; done)), H', ⟨by first | omega | exact Nat.le_refl _⟩, ⟨by (with_reducible repeat (first | refine blk_drewN ?_ _ | refine blk_drew ?_ | refine blk_alloc ?_ _)); exact BK205.out⟩, ⟨by (with_reducible repeat (first | refine blk_drewN ?_ _ | refine blk_drew ?_ | refine blk_alloc ?_ _)); exact BK206.out⟩, ⟨by repeat (first | (with_reducible first | exact HB.out | apply below_alloc | apply pw_below_drewN | apply below_drew1 | refine below_set ?_ GE205.out | refine below_set ?_ GE206.out) | exact HB.out)⟩⟩
 case rest =>
  clear HC2
  obtain ⟨kq, x17_1, rfl, HA, HJ1, BK205, BK206, HB⟩ := hcut
  cases kq with
  | zero => exact absurd HA.out (by simp [spec_HarderPuzzle.j0])
  | succ kj1 =>
   have H := HA.out
   clear HA
   simp only [spec_HarderPuzzle.j0] at H
   by_cases c16 : x17_1 = true
   ·subst c16
    have H1 : (some (0, ([] : List (S50)), false)) = some (r1, r2, r3) := by rw [if_pos rfl] at H; exact H
    clear H
    have H := H1
    clear H1
    simp only [Option.some.injEq, Prod.mk.injEq] at H
    obtain ⟨rfl, rfl, rfl⟩ := H
    have hnb17 := NB206_205.out
    have hnc17 := NB205_206.out
    have hcz18_0 : wc.cell? ⟨gb206, 0, none⟩ = some (.int .i64 0) := (blk_cell BK206.out 0).trans rfl
    have hcz18_1 : wc.cell? ⟨gb206, 1, none⟩ = some (.slice none 0 0) := (blk_cell BK206.out 1).trans rfl
    have hfz18_0 := blk_frozen BK206.out 0
    have hfz18_1 := blk_frozen BK206.out 1
    go_wp2
    refine bodyPost_ret (results_ct rfl _ _ gb206 31 #[.int .i64 0, .slice none 0 0] (0, 0) _ rfl (by (with_reducible repeat (first | refine blk_drewN ?_ _ | refine blk_drew ?_ | refine blk_alloc ?_ _)); refine blk_put (cs := #[.int .i64 0, .slice none 0 0]) ?_ 1 _ rfl; (with_reducible repeat (first | refine blk_drewN ?_ _ | refine blk_drew ?_ | refine blk_alloc ?_ _)); refine blk_put (cs := #[.int .i64 0, .slice none 0 0]) ?_ 0 _ rfl; (with_reducible repeat (first | refine blk_drewN ?_ _ | refine blk_drew ?_ | refine blk_alloc ?_ _)); exact BK206.out) Try.underlying31 rfl (by kernel_rfl)) rfl ?_
    exact ⟨_, by first | rfl | (simp [errW_none, errW_some] <;> rfl) | (simp [*, errW_none, errW_some] <;> rfl), by first | exact Kd.R_nil _ _ _ _ _ | exact Kd.N_nil _ _ _ _ _ | exact Kd.V_nil _ _ _ _ _ | exact Kd.Q_nil _ _ _ _ _ | exact Kd.S_nil _ _ _ _ _, by repeat (first | (with_reducible first | exact HB.out | apply below_alloc | apply pw_below_drewN | apply below_drew1 | refine below_set ?_ GE205.out | refine below_set ?_ GE206.out) | exact HB.out)⟩
   ·replace c16 := Bool.eq_false_iff.mpr c16
    subst c16
    have H1 : ((some (([] : List (S50)) : List (S50))).bind fun y209 => (if y209.length + l0_1.length < 4398046511104 then (spec_HarderPuzzle.l0 kj1 (y209 ++ l0_1) 0 a0_0 l0_1) else (none))) = some (r1, r2, r3) := by rw [if_neg (show ¬ (false = true) by decide)] at H; exact H
    clear H
    have H := H1
    clear H1
    obtain ⟨y209, hy209⟩ : ∃ y_ : List (S50), y_ = (([] : List (S50))) := ⟨_, rfl⟩
    replace H : (if y209.length + l0_1.length < 4398046511104 then (spec_HarderPuzzle.l0 kj1 (y209 ++ l0_1) 0 a0_0 l0_1) else (none)) = some (r1, r2, r3) := by first | (rw [hy209]; with_reducible exact H) | (have H2_ := (Option.bind_some _ _).symm.trans H; rw [hy209]; with_reducible exact H2_) | (have H2_ := (Option.bind_some _ _).symm.trans H; with_reducible exact H2_) | with_reducible exact H | (rw [hy209]; exact H) | exact H
    have Ny209 := Aside0.mk hy209
    clear hy209
    by_cases c19 : y209.length + l0_1.length < 4398046511104
    ·rw [if_pos c19] at H
     have LMc19 := Aside0.mk c19
     clear c19
     obtain ⟨y212, hy212⟩ : ∃ y_ : List (S50), y_ = (y209 ++ l0_1) := ⟨_, rfl⟩
     replace H : (spec_HarderPuzzle.l0 kj1 y212 0 a0_0 l0_1) = some (r1, r2, r3) := by first | (rw [hy212]; with_reducible exact H) | (have H2_ := (Option.bind_some _ _).symm.trans H; rw [hy212]; with_reducible exact H2_) | (have H2_ := (Option.bind_some _ _).symm.trans H; with_reducible exact H2_) | with_reducible exact H | (rw [hy212]; exact H) | exact H
     have Ny212 := Aside0.mk hy212
     clear hy212
     have H' := Aside0.mk H
     clear H
     go_wp2_with (first | ((with_reducible refine gate_dst (N := 19) rfl ?_); refine Kd.R_lit k50 _ 50 ?hg (N := 19) ?hd (xs := ([] : List (S50))) (inner := []) (ok := fun _ => True) (okp := fun _ => True) ?hr ?hp (fun _ hk => hk) trivial (Below.refl _ _) (Nat.le_refl _) (by simp) ?_; (case hd => rfl); (case hg => rfl); (case hr => first | (go_simp; done) | (go_simp; rfl)); (case hp => exact (Reps.none _ _)); intro v210 w20 ho21 hb hg_ hnew_; clear hg_ hnew_; (first | rw [← Ny209.out] at ho21 | (simp only [Int.reduceToNat] at ho21; rw [← Ny209.out] at ho21)); have n0_ := Aside0.mk (Kd.R_lower ho21 (below_size (by repeat (first | (with_reducible first | exact HB.out | apply below_alloc | apply pw_below_drewN | apply below_drew1 | refine below_set ?_ GE205.out | refine below_set ?_ GE206.out) | exact HB.out)))); have n1_ := Aside0.mk (blk_below (g := gb205) (o := .cells #[.int .i64 a0_0, .slice A0_1 l0_1.length c0_1] 31 (0, 0)) (by (with_reducible repeat (first | refine blk_drewN ?_ _ | refine blk_drew ?_ | refine blk_alloc ?_ _)); exact BK205.out) hb); have n2_ := Aside0.mk (blk_below (g := gb206) (o := .cells #[.int .i64 0, .slice none 0 0] 31 (0, 0)) (by (with_reducible repeat (first | refine blk_drewN ?_ _ | refine blk_drew ?_ | refine blk_alloc ?_ _)); exact BK206.out) hb); have n3_ := Aside0.mk (below_step (by repeat (first | (with_reducible first | exact HB.out | apply below_alloc | apply pw_below_drewN | apply below_drew1 | refine below_set ?_ GE205.out | refine below_set ?_ GE206.out) | exact HB.out)) hb); clear BK205; clear BK206; clear HB; have HO211 := n0_; have BK205 := n1_; have BK206 := n2_; have HB := n3_; clear n0_ n1_ n2_ n3_; clear hb ho21; have hnb22 := NB205_206.out; have hnc22 := NB206_205.out; have hcz23_0 : w20.cell? ⟨gb205, 0, none⟩ = some (.int .i64 a0_0) := (blk_cell BK205.out 0).trans rfl; have hcz23_1 : w20.cell? ⟨gb205, 1, none⟩ = some (.slice A0_1 l0_1.length c0_1) := (blk_cell BK205.out 1).trans rfl; have hfz23_0 := blk_frozen BK205.out 0; have hfz23_1 := blk_frozen BK205.out 1) | ((with_reducible refine gate_builtin (b := .append) (xs := #[.tmp 19, .tmp 21]) rfl ?_); at_builtin; refine Kd.R_append_rows k50 (w0 := w) w.heap.size rfl (.tmp 19) (.tmp 21) 29 50 (.agg #[(.int .i64 0), (.int .i64 0), (.int .i64 0), (.int .i64 0)]) 32 rfl Try.underlying29 info50 rfl (by decide) (by omega) v210 y209 l0_1 _ _ _ (fun _ => True) (fun _ => False) rfl rfl ?aO ?aR (fun _ _ h => h) (fun _ h => h.elim) ?aF ?aB ?aS ?aL ?_; (case aR => repeat (first | exact (Kd.C_below HR0_1.out HB.out) | (with_reducible refine Kd.C_alloc ?_ _) | (with_reducible refine Kd.C_drewN ?_ _) | (with_reducible refine Kd.C_drew ?_))); (case aB => exact (by repeat (first | (with_reducible first | exact HB.out | apply below_alloc | apply pw_below_drewN | apply below_drew1 | refine below_set ?_ GE205.out | refine below_set ?_ GE206.out) | exact HB.out))); (case aF => exact (fun _ _ => trivial)); (case aO => exact (by (with_reducible repeat (first | apply Kd.R_alloc | apply Kd.R_drewN | apply Kd.R_drew)); exact HO211.out)); (case aS => exact (below_size (by repeat (first | (with_reducible first | exact HB.out | apply below_alloc | apply pw_below_drewN | apply below_drew1 | refine below_set ?_ GE205.out | refine below_set ?_ GE206.out) | exact HB.out)))); (case aL => have := LMc19.out; omega); intro v213 w24 ho hb hg hat; rw [← Ny212.out] at ho; have n0_ := Aside0.mk (blk_grown (g := gb205) (o := .cells #[.int .i64 a0_0, .slice A0_1 l0_1.length c0_1] 31 (0, 0)) (by (with_reducible repeat (first | refine blk_drewN ?_ _ | refine blk_drew ?_ | refine blk_alloc ?_ _)); exact BK205.out) hg (Kd.R_ne HO211.out BK205.out (by decide))); have n1_ := Aside0.mk (blk_grown (g := gb206) (o := .cells #[.int .i64 0, .slice none 0 0] 31 (0, 0)) (by (with_reducible repeat (first | refine blk_drewN ?_ _ | refine blk_drew ?_ | refine blk_alloc ?_ _)); exact BK206.out) hg (Kd.R_ne HO211.out BK206.out (by decide))); have n2_ := Aside0.mk (hb); have n3_ := Aside0.mk (ho); clear BK205; clear BK206; clear HB; clear HO211; have BK205 := n0_; have BK206 := n1_; have HB := n2_; have HO214 := n3_; clear n0_ n1_ n2_ n3_; clear ho hb hg hat))
     go_loopg [4, 5] kj1 (fun kq v4 v5 w' => ∃ (x4_2 : List (S50)) (x5_2 : Int), v5 = .int .i64 x5_2 ∧ Aside0 (spec_HarderPuzzle.l0 kq x4_2 x5_2 a0_0 l0_1 = some (r1, r2, r3)) ∧ Aside0 (kq ≤ kj1) ∧ Aside0 (Kd.R k50 50 w' w.heap.size (fun _ => True) v4 x4_2) ∧ Aside0 (w'.heap[gb205]? = some (.cells #[.int .i64 a0_0, (.slice A0_1 l0_1.length c0_1)] 31 (0, 0))) ∧ Aside0 (w'.heap[gb206]? = some (.cells #[.int .i64 0, (.slice none 0 0)] 31 (0, 0))) ∧ Aside0 (Below w.heap.size w w'))
     case atStart => exact ⟨(y212), (0), (by first | rfl | (simp; done) | (simp [*]; done)), H', ⟨Nat.le_refl _⟩, ⟨by (with_reducible repeat (first | apply Kd.R_alloc | apply Kd.R_drewN | apply Kd.R_drew)); exact HO214.out⟩, ⟨by (with_reducible repeat (first | refine blk_drewN ?_ _ | refine blk_drew ?_ | refine blk_alloc ?_ _)); exact BK205.out⟩, ⟨by (with_reducible repeat (first | refine blk_drewN ?_ _ | refine blk_drew ?_ | refine blk_alloc ?_ _)); exact BK206.out⟩, ⟨by repeat (first | (with_reducible first | exact HB.out | apply below_alloc | apply pw_below_drewN | apply below_drew1 | refine below_set ?_ GE205.out | refine below_set ?_ GE206.out) | exact HB.out)⟩⟩
     case round =>
      clear H'
      try clear c16
      try clear c19
      try clear hcz23_0
      try clear hcz23_1
      try clear hfz23_0
      try clear hfz23_1
      obtain ⟨x4_2, x5_2, rfl, HA, HK2, HO_4, BK205, BK206, HB⟩ := hrel
      cases gk with
      | zero => exact absurd HA.out (by simp [spec_HarderPuzzle.l0])
      | succ k2 =>
       have H := HA.out
       clear HA
       simp only [spec_HarderPuzzle.l0] at H
       by_cases c25 : x5_2 < (x4_2.length : Int)
       ·rw [if_pos c25] at H
        have c25b0 : decide (x5_2 < (x4_2.length : Int)) = true := decide_eq_true c25
        clear c25
        replace H := Option.bind_eq_some_iff.mp H
        obtain ⟨t215, A260, H⟩ := H
        replace H : ((spec_pzSolved.f k2 a0_0 t215).bind fun t218 => (if t218 = true then (spec_HarderPuzzle.l0 k2 t215 x5_2 a0_0 l0_1) else (spec_HarderPuzzle.l0 k2 x4_2 (wrap64 (x5_2 + 1)) a0_0 l0_1))) = some (r1, r2, r3) := H
        have A26 := Aside0.mk A260
        clear A260
        replace H := Option.bind_eq_some_iff.mp H
        obtain ⟨t218, A270, H⟩ := H
        replace H : (if t218 = true then (spec_HarderPuzzle.l0 k2 t215 x5_2 a0_0 l0_1) else (spec_HarderPuzzle.l0 k2 x4_2 (wrap64 (x5_2 + 1)) a0_0 l0_1)) = some (r1, r2, r3) := H
        have A27 := Aside0.mk A270
        clear A270
        by_cases c28 : t218 = true
        ·subst c28
         have H1 : (spec_HarderPuzzle.l0 k2 t215 x5_2 a0_0 l0_1) = some (r1, r2, r3) := by rw [if_pos rfl] at H; exact H
         clear H
         have H := H1
         clear H1
         have H' := Aside0.mk H
         clear H
         obtain ⟨Ao29, co29, eo29⟩ := Kd.R_slice HO_4.out
         subst eo29
         go_wp2_with (first | ((with_reducible refine gate_callee (f := 54) rfl ?_); refine goesL_ (some 29) rfl rfl Try.func54 (by kernel_rfl) rfl #[.slice Ao29 x4_2.length co29, .int .i64 x5_2] rfl (by (try simp only [List.map_toArray, List.map_cons, List.map_nil]); first | done | rfl | (simp only [List.length_drop, List.length_take]; rfl)) ?_; (with_reducible refine (spec_pzWithout.calls _ _ x4_2 x5_2 t215 _ ?side1 ?side2 A26.out).mono ?_); (case side1 => repeat (first | exact (Kd.R_reads' HO_4.out).2.2 | (with_reducible refine Kd.C_alloc ?_ _) | (with_reducible refine Kd.C_drewN ?_ _) | (with_reducible refine Kd.C_drew ?_))); (case side2 => exact (Kd.R_reads' HO_4.out).2.1); rintro e w30 ⟨v216, rfl, ho0, hb⟩; refine ⟨_, rfl, ?_⟩; have n0_ := Aside0.mk (Kd.R_elder' (by (with_reducible repeat (first | apply Kd.R_alloc | apply Kd.R_drewN | apply Kd.R_drew)); exact HO_4.out) (Kd.R_base ho0) hb); have n1_ := Aside0.mk (Kd.R_lower (Kd.R_new' ho0 (Kd.R_lt (by (with_reducible repeat (first | apply Kd.R_alloc | apply Kd.R_drewN | apply Kd.R_drew)); exact HO_4.out))) (below_size (by repeat (first | (with_reducible first | exact HB.out | apply below_alloc | apply pw_below_drewN | apply below_drew1 | refine below_set ?_ GE205.out | refine below_set ?_ GE206.out) | exact HB.out)))); have n2_ := Aside0.mk (blk_below (g := gb205) (o := .cells #[.int .i64 a0_0, .slice A0_1 l0_1.length c0_1] 31 (0, 0)) (by (with_reducible repeat (first | refine blk_drewN ?_ _ | refine blk_drew ?_ | refine blk_alloc ?_ _)); exact BK205.out) hb); have n3_ := Aside0.mk (blk_below (g := gb206) (o := .cells #[.int .i64 0, .slice none 0 0] 31 (0, 0)) (by (with_reducible repeat (first | refine blk_drewN ?_ _ | refine blk_drew ?_ | refine blk_alloc ?_ _)); exact BK206.out) hb); have n4_ := Aside0.mk (below_step (by repeat (first | (with_reducible first | exact HB.out | apply below_alloc | apply pw_below_drewN | apply below_drew1 | refine below_set ?_ GE205.out | refine below_set ?_ GE206.out) | exact HB.out)) hb); clear HO_4; clear BK205; clear BK206; clear HB; have HO_4 := n0_; have HO217 := n1_; have BK205 := n2_; have BK206 := n3_; have HB := n4_; clear n0_ n1_ n2_ n3_ n4_; (try clear hb); (try clear hb2); (try clear hk); (try clear hi); (try clear ho0); have hnb31 := NB205_206.out; have hnc31 := NB206_205.out; have hcz32_0 : w30.cell? ⟨gb205, 0, none⟩ = some (.int .i64 a0_0) := (blk_cell BK205.out 0).trans rfl; have hcz32_1 : w30.cell? ⟨gb205, 1, none⟩ = some (.slice A0_1 l0_1.length c0_1) := (blk_cell BK205.out 1).trans rfl; have hfz32_0 := blk_frozen BK205.out 0; have hfz32_1 := blk_frozen BK205.out 1; obtain ⟨Ao33, co33, eo33⟩ := Kd.R_slice HO217.out; subst eo33) | ((with_reducible refine gate_callee (f := 53) rfl ?_); refine goesL_ (some 33) rfl rfl Try.func53 (by kernel_rfl) rfl #[.int .i64 a0_0, .slice Ao33 t215.length co33] rfl (by (try simp only [List.map_toArray, List.map_cons, List.map_nil]); first | done | rfl | (simp only [List.length_drop, List.length_take]; rfl)) ?_; (with_reducible refine (spec_pzSolved.calls k2 a0_0 _ _ t215 true _ ?side1 ?side2 A27.out).mono ?_); (case side1 => repeat (first | exact (Kd.R_reads' HO217.out).2.2 | (with_reducible refine Kd.C_alloc ?_ _) | (with_reducible refine Kd.C_drewN ?_ _) | (with_reducible refine Kd.C_drew ?_))); (case side2 => exact (Kd.R_reads' HO217.out).2.1); rintro e w34 ⟨rfl, hb⟩; refine ⟨_, rfl, ?_⟩; have n0_ := Aside0.mk (Kd.R_below (by (with_reducible repeat (first | apply Kd.R_alloc | apply Kd.R_drewN | apply Kd.R_drew)); exact HO_4.out) hb); have n1_ := Aside0.mk (Kd.R_below (by (with_reducible repeat (first | apply Kd.R_alloc | apply Kd.R_drewN | apply Kd.R_drew)); exact HO217.out) hb); have n2_ := Aside0.mk (blk_below (g := gb205) (o := .cells #[.int .i64 a0_0, .slice A0_1 l0_1.length c0_1] 31 (0, 0)) (by (with_reducible repeat (first | refine blk_drewN ?_ _ | refine blk_drew ?_ | refine blk_alloc ?_ _)); exact BK205.out) hb); have n3_ := Aside0.mk (blk_below (g := gb206) (o := .cells #[.int .i64 0, .slice none 0 0] 31 (0, 0)) (by (with_reducible repeat (first | refine blk_drewN ?_ _ | refine blk_drew ?_ | refine blk_alloc ?_ _)); exact BK206.out) hb); have n4_ := Aside0.mk (below_step (by repeat (first | (with_reducible first | exact HB.out | apply below_alloc | apply pw_below_drewN | apply below_drew1 | refine below_set ?_ GE205.out | refine below_set ?_ GE206.out) | exact HB.out)) hb); clear HO_4; clear HO217; clear BK205; clear BK206; clear HB; have HO_4 := n0_; have HO217 := n1_; have BK205 := n2_; have BK206 := n3_; have HB := n4_; clear n0_ n1_ n2_ n3_ n4_; (try clear hb); (try clear hb2); (try clear hk); (try clear hi)))
         go_roundg k2
         case measure => have := HJ1.out; have := HK2.out; omega
         case rel => exact ⟨(t215), (x5_2), (by first | rfl | (simp; done) | (simp [*]; done)), H', ⟨by have := HJ1.out; have := HK2.out; omega⟩, ⟨by (with_reducible repeat (first | apply Kd.R_alloc | apply Kd.R_drewN | apply Kd.R_drew)); exact Kd.R_mono HO217.out (fun _ hk => trivial)⟩, ⟨by (with_reducible repeat (first | refine blk_drewN ?_ _ | refine blk_drew ?_ | refine blk_alloc ?_ _)); exact BK205.out⟩, ⟨by (with_reducible repeat (first | refine blk_drewN ?_ _ | refine blk_drew ?_ | refine blk_alloc ?_ _)); exact BK206.out⟩, ⟨by repeat (first | (with_reducible first | exact HB.out | apply below_alloc | apply pw_below_drewN | apply below_drew1 | refine below_set ?_ GE205.out | refine below_set ?_ GE206.out) | exact HB.out)⟩⟩
        ·replace c28 := Bool.eq_false_iff.mpr c28
         subst c28
         have H1 : (spec_HarderPuzzle.l0 k2 x4_2 (wrap64 (x5_2 + 1)) a0_0 l0_1) = some (r1, r2, r3) := by rw [if_neg (show ¬ (false = true) by decide)] at H; exact H
         clear H
         have H := H1
         clear H1
         have H' := Aside0.mk H
         clear H
         obtain ⟨Ao35, co35, eo35⟩ := Kd.R_slice HO_4.out
         subst eo35
         go_wp2_with (first | ((with_reducible refine gate_callee (f := 54) rfl ?_); refine goesL_ (some 29) rfl rfl Try.func54 (by kernel_rfl) rfl #[.slice Ao35 x4_2.length co35, .int .i64 x5_2] rfl (by (try simp only [List.map_toArray, List.map_cons, List.map_nil]); first | done | rfl | (simp only [List.length_drop, List.length_take]; rfl)) ?_; (with_reducible refine (spec_pzWithout.calls _ _ x4_2 x5_2 t215 _ ?side1 ?side2 A26.out).mono ?_); (case side1 => repeat (first | exact (Kd.R_reads' HO_4.out).2.2 | (with_reducible refine Kd.C_alloc ?_ _) | (with_reducible refine Kd.C_drewN ?_ _) | (with_reducible refine Kd.C_drew ?_))); (case side2 => exact (Kd.R_reads' HO_4.out).2.1); rintro e w36 ⟨v216, rfl, ho0, hb⟩; refine ⟨_, rfl, ?_⟩; have n0_ := Aside0.mk (Kd.R_elder' (by (with_reducible repeat (first | apply Kd.R_alloc | apply Kd.R_drewN | apply Kd.R_drew)); exact HO_4.out) (Kd.R_base ho0) hb); have n1_ := Aside0.mk (Kd.R_lower (Kd.R_new' ho0 (Kd.R_lt (by (with_reducible repeat (first | apply Kd.R_alloc | apply Kd.R_drewN | apply Kd.R_drew)); exact HO_4.out))) (below_size (by repeat (first | (with_reducible first | exact HB.out | apply below_alloc | apply pw_below_drewN | apply below_drew1 | refine below_set ?_ GE205.out | refine below_set ?_ GE206.out) | exact HB.out)))); have n2_ := Aside0.mk (blk_below (g := gb205) (o := .cells #[.int .i64 a0_0, .slice A0_1 l0_1.length c0_1] 31 (0, 0)) (by (with_reducible repeat (first | refine blk_drewN ?_ _ | refine blk_drew ?_ | refine blk_alloc ?_ _)); exact BK205.out) hb); have n3_ := Aside0.mk (blk_below (g := gb206) (o := .cells #[.int .i64 0, .slice none 0 0] 31 (0, 0)) (by (with_reducible repeat (first | refine blk_drewN ?_ _ | refine blk_drew ?_ | refine blk_alloc ?_ _)); exact BK206.out) hb); have n4_ := Aside0.mk (below_step (by repeat (first | (with_reducible first | exact HB.out | apply below_alloc | apply pw_below_drewN | apply below_drew1 | refine below_set ?_ GE205.out | refine below_set ?_ GE206.out) | exact HB.out)) hb); clear HO_4; clear BK205; clear BK206; clear HB; have HO_4 := n0_; have HO217 := n1_; have BK205 := n2_; have BK206 := n3_; have HB := n4_; clear n0_ n1_ n2_ n3_ n4_; (try clear hb); (try clear hb2); (try clear hk); (try clear hi); (try clear ho0); have hnb37 := NB205_206.out; have hnc37 := NB206_205.out; have hcz38_0 : w36.cell? ⟨gb205, 0, none⟩ = some (.int .i64 a0_0) := (blk_cell BK205.out 0).trans rfl; have hcz38_1 : w36.cell? ⟨gb205, 1, none⟩ = some (.slice A0_1 l0_1.length c0_1) := (blk_cell BK205.out 1).trans rfl; have hfz38_0 := blk_frozen BK205.out 0; have hfz38_1 := blk_frozen BK205.out 1; obtain ⟨Ao39, co39, eo39⟩ := Kd.R_slice HO217.out; subst eo39) | ((with_reducible refine gate_callee (f := 53) rfl ?_); refine goesL_ (some 33) rfl rfl Try.func53 (by kernel_rfl) rfl #[.int .i64 a0_0, .slice Ao39 t215.length co39] rfl (by (try simp only [List.map_toArray, List.map_cons, List.map_nil]); first | done | rfl | (simp only [List.length_drop, List.length_take]; rfl)) ?_; (with_reducible refine (spec_pzSolved.calls k2 a0_0 _ _ t215 false _ ?side1 ?side2 A27.out).mono ?_); (case side1 => repeat (first | exact (Kd.R_reads' HO217.out).2.2 | (with_reducible refine Kd.C_alloc ?_ _) | (with_reducible refine Kd.C_drewN ?_ _) | (with_reducible refine Kd.C_drew ?_))); (case side2 => exact (Kd.R_reads' HO217.out).2.1); rintro e w40 ⟨rfl, hb⟩; refine ⟨_, rfl, ?_⟩; have n0_ := Aside0.mk (Kd.R_below (by (with_reducible repeat (first | apply Kd.R_alloc | apply Kd.R_drewN | apply Kd.R_drew)); exact HO_4.out) hb); have n1_ := Aside0.mk (Kd.R_below (by (with_reducible repeat (first | apply Kd.R_alloc | apply Kd.R_drewN | apply Kd.R_drew)); exact HO217.out) hb); have n2_ := Aside0.mk (blk_below (g := gb205) (o := .cells #[.int .i64 a0_0, .slice A0_1 l0_1.length c0_1] 31 (0, 0)) (by (with_reducible repeat (first | refine blk_drewN ?_ _ | refine blk_drew ?_ | refine blk_alloc ?_ _)); exact BK205.out) hb); have n3_ := Aside0.mk (blk_below (g := gb206) (o := .cells #[.int .i64 0, .slice none 0 0] 31 (0, 0)) (by (with_reducible repeat (first | refine blk_drewN ?_ _ | refine blk_drew ?_ | refine blk_alloc ?_ _)); exact BK206.out) hb); have n4_ := Aside0.mk (below_step (by repeat (first | (with_reducible first | exact HB.out | apply below_alloc | apply pw_below_drewN | apply below_drew1 | refine below_set ?_ GE205.out | refine below_set ?_ GE206.out) | exact HB.out)) hb); clear HO_4; clear HO217; clear BK205; clear BK206; clear HB; have HO_4 := n0_; have HO217 := n1_; have BK205 := n2_; have BK206 := n3_; have HB := n4_; clear n0_ n1_ n2_ n3_ n4_; (try clear hb); (try clear hb2); (try clear hk); (try clear hi)))
         go_roundg k2
         case measure => have := HJ1.out; have := HK2.out; omega
         case rel => exact ⟨(x4_2), (wrap64 (x5_2 + 1)), (by first | rfl | (simp; done) | (simp [*]; done)), H', ⟨by have := HJ1.out; have := HK2.out; omega⟩, ⟨by (with_reducible repeat (first | apply Kd.R_alloc | apply Kd.R_drewN | apply Kd.R_drew)); exact Kd.R_mono HO_4.out (fun _ hk => trivial)⟩, ⟨by (with_reducible repeat (first | refine blk_drewN ?_ _ | refine blk_drew ?_ | refine blk_alloc ?_ _)); exact BK205.out⟩, ⟨by (with_reducible repeat (first | refine blk_drewN ?_ _ | refine blk_drew ?_ | refine blk_alloc ?_ _)); exact BK206.out⟩, ⟨by repeat (first | (with_reducible first | exact HB.out | apply below_alloc | apply pw_below_drewN | apply below_drew1 | refine below_set ?_ GE205.out | refine below_set ?_ GE206.out) | exact HB.out)⟩⟩
       ·rw [if_neg c25] at H
        have c25b0 : decide (x5_2 < (x4_2.length : Int)) = false := decide_eq_false c25
        clear c25
        simp only [Option.some.injEq, Prod.mk.injEq] at H
        obtain ⟨rfl, rfl, rfl⟩ := H
        obtain ⟨Ao41, co41, eo41⟩ := Kd.R_slice HO_4.out
        subst eo41
        have hnb42 := NB205_206.out
        have hnc42 := NB206_205.out
        have hcz43_0 : wr.cell? ⟨gb205, 0, none⟩ = some (.int .i64 a0_0) := (blk_cell BK205.out 0).trans rfl
        have hcz43_1 : wr.cell? ⟨gb205, 1, none⟩ = some (.slice A0_1 l0_1.length c0_1) := (blk_cell BK205.out 1).trans rfl
        have hfz43_0 := blk_frozen BK205.out 0
        have hfz43_1 := blk_frozen BK205.out 1
        have hcz44_0 : wr.cell? ⟨gb206, 0, none⟩ = some (.int .i64 0) := (blk_cell BK206.out 0).trans rfl
        have hcz44_1 : wr.cell? ⟨gb206, 1, none⟩ = some (.slice none 0 0) := (blk_cell BK206.out 1).trans rfl
        have hfz44_0 := blk_frozen BK206.out 0
        have hfz44_1 := blk_frozen BK206.out 1
        go_wp2
        refine bodyPost_ret (results_ct rfl _ _ gb206 31 #[.int .i64 a0_0, .slice Ao41 x4_2.length co41] (0, 0) _ rfl (by (with_reducible repeat (first | refine blk_drewN ?_ _ | refine blk_drew ?_ | refine blk_alloc ?_ _)); refine blk_put (cs := #[.int .i64 a0_0, .slice none 0 0]) ?_ 1 _ rfl; (with_reducible repeat (first | refine blk_drewN ?_ _ | refine blk_drew ?_ | refine blk_alloc ?_ _)); refine blk_put (cs := #[.int .i64 0, .slice none 0 0]) ?_ 0 _ rfl; (with_reducible repeat (first | refine blk_drewN ?_ _ | refine blk_drew ?_ | refine blk_alloc ?_ _)); exact BK206.out) Try.underlying31 rfl (by kernel_rfl)) rfl ?_
        exact ⟨_, by first | rfl | (simp [errW_none, errW_some] <;> rfl) | (simp [*, errW_none, errW_some] <;> rfl), by (with_reducible repeat (first | apply Kd.R_alloc | apply Kd.R_drewN | apply Kd.R_drew)); exact Kd.R_mono (Kd.R_far (p := ⟨gb206, 1, none⟩) (Kd.R_far (p := ⟨gb206, 0, none⟩) (Kd.R_types HO_4.out BK206.out (by decide)) (fun _ hk => hk.2) (.int .i64 a0_0)) (fun _ hk => hk.2) (.slice Ao41 x4_2.length co41)) (fun _ hk => trivial), by repeat (first | (with_reducible first | exact HB.out | apply below_alloc | apply pw_below_drewN | apply below_drew1 | refine below_set ?_ GE205.out | refine below_set ?_ GE206.out) | exact HB.out)⟩
    ·rw [if_neg c19] at H
     exact absurd H (by simp)

/-! ### impl_within: function 67 -/
def impl_within.f (a0 : Int) (a1 : Int) (a2 : Int) : Option (Bool) := if a0 ≥ a1 then (some (decide (a0 ≤ a2))) else (some false)
set_option maxHeartbeats 8000000 in
set_option maxRecDepth 100000 in
theorem impl_within.calls (a0 : Int) (a1 : Int) (a2 : Int) (r : Bool) (w : World) (h : impl_within.f a0 a1 a2 = some r) :
  Calls Try.prog 67 #[.int .i64 a0, .int .i64 a1, .int .i64 a2] w fun e w' => e = .returned (.bool r) ∧ Drawn0 w w' := by
 have H : (if a0 ≥ a1 then (some (decide (a0 ≤ a2))) else (some false)) = some r := h
 clear h
 by_cases c4 : a0 ≥ a1
 ·rw [if_pos c4] at H
  have c4b0 : decide (a1 ≤ a0) = true := decide_eq_true c4
  clear c4
  obtain rfl := Option.some.inj H
  go_enter Try.func67, Try.ntmps67
  go_wp2
  go_ret
  exact ⟨by first | rfl | (simp; done) | (simp [*]; done), by repeat (first | exact Drawn0.refl _ | apply Drawn0.step)⟩
 ·rw [if_neg c4] at H
  have c4b0 : decide (a1 ≤ a0) = false := decide_eq_false c4
  clear c4
  obtain rfl := Option.some.inj H
  go_enter Try.func67, Try.ntmps67
  go_wp2
  go_ret
  exact ⟨by first | rfl | (simp; done) | (simp [*]; done), by repeat (first | exact Drawn0.refl _ | apply Drawn0.step)⟩

end Go.Proofs.Ytnijlmfamdhjmaa.PH
