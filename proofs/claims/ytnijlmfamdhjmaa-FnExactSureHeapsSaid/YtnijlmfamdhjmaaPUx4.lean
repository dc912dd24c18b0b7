/- Functions of the program and of the reference as Lean functions, each with a contract over the translated program. Conditions: the hypotheses of each theorem. Written by a program of this session, which drives the print of the kit and adds texts of its own. -/
import Derived.Test.YtnijlmfamdhjmaaPUx0
import Derived.Test.YtnijlmfamdhjmaaPUx2
import Derived.Test.YtnijlmfamdhjmaaPUx3
namespace Go.Proofs.Ytnijlmfamdhjmaa.PU
open Go.RowKit Go.Proofs.YtnijlmfamdhjmaaW.PrintWords Go.Proofs.YtnijlmfamdhjmaaW.PrintLast Go.Proofs.YtnijlmfamdhjmaaW.PrintMore Go.Proofs.YtnijlmfamdhjmaaB
attribute [local go_sem] max2_int min2_int max_two min_two max_three min_three max_four min_four   -- for this text's walks alone
set_option linter.unusedVariables false
set_option linter.unusedSimpArgs false

/-! ### spec_pzLook: function 86 -/
/-- All clues are asked, up to the first one that isn't fitted. -/
def allO {α : Type} (p : α → Option Bool) : List α → Option Bool
 | [] => some true
 | x :: t => (p x).bind fun b => if b = true then allO p t else some false
/-- One after the other, so many numbers from n on. -/
def lookS (f : List Int → List (List Int) → Option (List (List Int))) (b : List Int) : Nat → Int → List (List Int) → Option (List (List Int))
 | 0, _, out => some out
 | d + 1, n, out => (f (b ++ [n]) out).bind fun o => lookS f b d (n + 1) o
/-- The lists that begin so and have so many numbers more. -/
def lookP (k : Nat) (cs : List S50) : Nat → List Int → List (List Int) → Option (List (List Int))
 | 0, b, out => (allO (fun c => spec_pzFits.f k c.f0 c.f1 c.f2 c.f3 b) cs).bind fun ok => if out.length < 1000000 then some (if ok = true then out ++ [b] else out) else none
 | m + 1, b, out => if b.length < 1000 then lookS (lookP k cs m) b 6 0 out else none
set_option maxHeartbeats 8000000 in
set_option maxRecDepth 100000 in
theorem spec_pzLook.calls (k : Nat) (Ac : Option Addr) (cc : Nat) (cs : List S50) (hcc : cs.length ≤ cc) (gO base : Nat) (w0 : World) (hw0 : base = w0.heap.size) (hrc : Kd.C k50 w0 Ac cs.length cs) (hgO : base ≤ gO) :
  ∀ (m : Nat), m ≤ 100 → ∀ (Bb : Option Addr) (cb : Nat) (b : List Int) (v : Value) (out r : List (List Int)) (okR okb : Nat → Prop) (w : World), Below base w0 w → base ≤ w.heap.size → (∀ q, okb q → okR q ∧ q < w.heap.size) → (∀ q, w.heap.size ≤ q → okR q) → ¬ okR gO → Kd.R (Kd.int .i64) 3 w base okb (.slice Bb b.length cb) b →
   w.heap[gO]? = some (.cells #[v] 55 (0, 0)) → Kd.S (Kd.slice 3 (Kd.int .i64)) 26 w base (fun q => okR q ∧ ¬ okb q) v out → lookP k cs m b out = some r →
   Calls Try.prog 86 #[.int .i64 (m : Int), .slice Ac cs.length cc, .slice Bb b.length cb, .pointer (some ⟨gO, 0, none⟩)] w fun e w' => e = .returned (.tuple #[]) ∧ ∃ v', w'.heap[gO]? = some (.cells #[v'] 55 (0, 0)) ∧ Kd.S (Kd.slice 3 (Kd.int .i64)) 26 w' base okR v' r ∧ Below base w0 w' ∧ w.heap.size ≤ w'.heap.size ∧ (∀ q, q < w.heap.size → q ≠ gO → some q ≠ v.ownBlock → w'.heap[q]? = w.heap[q]?) ∧ (∀ q, v'.ownBlock = some q → q < w.heap.size → v.ownBlock = some q) := by
 intro m
 induction m with
 | zero =>
  intro _ Bb cb b v out r okR okb w hB hbs hbb hfr hgR hb hO hR h
  have HB := Aside0.mk hB
  have HBS := Aside0.mk hbs
  have HRC := Aside0.mk hrc
  have HBB0 := Aside0.mk hbb
  have HFR := Aside0.mk hfr
  have HGR := Aside0.mk hgR
  have HBR := Aside0.mk hb
  have HO := Aside0.mk hO
  have HR := Aside0.mk hR
  simp only [lookP] at h
  obtain ⟨okk, hok, h⟩ := Option.bind_eq_some_iff.mp h
  have HOK := Aside0.mk hok
  have HH := Aside0.mk h
  have c0 : decide ((0 : Int) < ((0 : Nat) : Int)) = false := by decide
  have HQ := Aside0.mk (Below.refl w.heap.size w)
  have HCL := Aside0.mk (Kd.C_below hrc (hw0 ▸ hB))
  clear hB hbs hb hO hR h hok hrc hw0 hbb hfr hgR
  go_enter Try.func86, Try.ntmps86
  go_wp2
  have HBC := Aside0.mk (Kd.R_reads' HBR.out).2.2
  have HCB := Aside0.mk (Kd.R_reads' HBR.out).2.1
  go_loopg [29] cs.length (fun kq v29 w' => ∃ (i : Nat) (x : Int), v29 = .int .i64 x ∧ Aside0 (x = (i : Int)) ∧ Aside0 (i + kq = cs.length) ∧ Aside0 (allO (fun c => spec_pzFits.f k c.f0 c.f1 c.f2 c.f3 b) (cs.drop i) = some okk) ∧ Aside0 (Below w.heap.size w w'))
  case atStart => exact ⟨0, 0, rfl, ⟨rfl⟩, ⟨by omega⟩, HOK, HQ⟩
  case round =>
   clear HOK HQ
   obtain ⟨i, x, rfl, HX, HN, HA, HQ⟩ := hrel
   have hn := HN.out
   have hx := HX.out
   have HA1 := HA.out
   clear HA
   have hl9 : cs.length ≤ 9223372036854775807 := HCL.out.2.1
   cases gk with
   | zero =>
    have c5b : decide (x < (cs.length : Int)) = false := decide_eq_false (by omega)
    rw [List.drop_of_length_le (by omega)] at HA1
    simp only [allO, Option.some.injEq] at HA1
    subst HA1
    clear hn hx
    have hgl := blk_lt HO.out
    have HOw := Aside0.mk ((HQ.out.block gO hgl).trans HO.out)
    have HRw := Aside0.mk (Kd.S_below HR.out HQ.out)
    have HBw := Aside0.mk (Kd.R_below HBR.out HQ.out)
    have HBB := Aside0.mk (HB.out.trans (HQ.out.mono HBS.out))
    have hcO : wr.cell? ⟨gO, 0, none⟩ = some v := (blk_cell HOw.out 0).trans rfl
    have hfO := blk_frozen HOw.out 0
    have HGl := Aside0.mk hgl
    have hlen : out.length < 1000000 := by
     have h2 := HH.out
     split at h2
     ·assumption
     ·simp at h2
    have HE := Aside0.mk (show out ++ [b] = r by have h2 := HH.out; rw [if_pos hlen] at h2; simpa using h2)
    clear hgl
    go_wp2_with (first
     | ((with_reducible refine gate_builtin (b := .append) (xs := #[.tmp 41, .tmp 43]) rfl ?_); at_builtin; go_loud (refine Kd.S_append (Kd.slice 3 (Kd.int .i64)) (w0 := w0) base rfl (.tmp 41) (.tmp 43) 55 26 (.slice none 0 0) 24 rfl Try.underlying55 info26 rfl (by decide) (by omega) v out b [.slice Bb b.length cb] okR okb rfl rfl ?aP (fun q hk => ⟨(HBB0.out q hk).1, fun e_ => ((Kd.S_R HR.out).1 q e_.symm).2 hk⟩) ?aF ?aO ?aB ?aS ?aL ?_; (case aP => exact ⟨_, rfl, HBw.out⟩); (case aF => exact fun q hq => HFR.out q (Nat.le_trans HQ.out.size hq)); (case aO => exact HRw.out); (case aB => exact HBB.out); (case aS => exact Nat.le_trans HBS.out HQ.out.size); (case aL => omega); intro v1 w1 ho hb hg hat; have hne : some gO ≠ v.ownBlock := (fun e_ => HGR.out ((Kd.S_R HR.out).1 gO e_.symm).1); have HO1 := Aside0.mk ((hg.block gO (blk_lt HOw.out) hne).trans HOw.out); have HF1 := Aside0.mk (fun q (hq : q < w.heap.size) (hv : some q ≠ v.ownBlock) => (hg.block q (Nat.lt_of_lt_of_le hq HQ.out.size) hv).trans (HQ.out.block q hq)); have HR1 := Aside0.mk ho; have HB1 := Aside0.mk hb; have HS1 := Aside0.mk (Nat.le_trans HQ.out.size hg.size); have HV1 := Aside0.mk (fun q (hv : v1.ownBlock = some q) (hq : q < w.heap.size) => show v.ownBlock = some q by rcases hat with hat | ⟨b_, hb_, hle⟩; exact hat ▸ hv; (rw [hb_] at hv; injection hv with hv; have := HQ.out.size; omega)); have hcP : w1.cell? ⟨gO, 0, none⟩ = some v := (blk_cell HO1.out 0).trans rfl; have hfP := blk_frozen HO1.out 0; obtain ⟨Ap, cp, ep⟩ := Kd.S_slice ho; obtain ⟨nL, hnL⟩ : ∃ q, q = (out ++ [b]).length := ⟨_, rfl⟩; rw [← hnL] at ep; subst ep; clear hnL ho hb hg hat hne hcO hfO)))
    refine bodyPost_end (v := .tuple #[]) (results_none rfl _ _ _) rfl ?_
    have HO8 := blk_set HO1.out 0 (.slice Ap nL cp)
    refine ⟨rfl, .slice Ap nL cp, HO8.trans rfl, ?_, Below.setCell HB1.out hgO _, ?_, ?_, HV1.out⟩
    ·rw [← HE.out]
     exact Kd.S_far HR1.out (fun q hq => by rintro rfl; exact HGR.out hq) _
    ·simpa [World.setCell] using HS1.out
    ·intro q hq hn hv
     exact (Below.heap_setCell w1 ⟨gO, 0, none⟩ (.slice Ap nL cp) q hn).trans (HF1.out q hq hv)
   | succ d =>
    have c5b : decide (x < (cs.length : Int)) = true := decide_eq_true (by omega)
    have hil : i < cs.length := by omega
    have HD : cs.drop i = rd_T50 cs x :: cs.drop (i + 1) := by
     rw [List.drop_eq_getElem_cons hil, hx]
     congr 1
     unfold rd_T50
     simp [hil]
    rw [HD] at HA1
    simp only [allO] at HA1
    obtain ⟨bb, hbb, HA1⟩ := Option.bind_eq_some_iff.mp HA1
    have HFB := Aside0.mk hbb
    have HA2 := Aside0.mk HA1
    have HI := Aside0.mk hil
    have HX1 := Aside0.mk (show ((i + 1 : Nat) : Int) = wrap64 (x + 1) by unfold wrap64; omega)
    have p1 : 0 ≤ x := by omega
    have q1 : x < (cs.length : Int) := by omega
    obtain ⟨ad, e1, hx0, hx1, hx2, hx3⟩ := at_T50 HCL.out x p1 q1
    cases e1
    replace hx0 := (HQ.out.cell (World.block_lt_of_cell? w _ hx0)).trans hx0
    replace hx1 := (HQ.out.cell (World.block_lt_of_cell? w _ hx1)).trans hx1
    replace hx2 := (HQ.out.cell (World.block_lt_of_cell? w _ hx2)).trans hx2
    replace hx3 := (HQ.out.cell (World.block_lt_of_cell? w _ hx3)).trans hx3
    replace p1 := eq_true p1
    replace q1 := eq_true q1
    clear hn hx HA1 hbb hil HD hl9
    cases bb with
    | true =>
     simp only [if_true] at HA2
     go_wp2_with (first
      | ((with_reducible refine gate_dst (N := 10) rfl ?_); (try (refine gate_guard (by rfl) ?_; dsimp only)); refine box_event ?hg (N := 10) ?hd (cs := #[.int .i64 0, .int .i64 0, .int .i64 0, .int .i64 0]) (t := 50) ?hr ?_; (case hd => rfl); (case hg => rfl); (case hr => first | (go_simp; done) | (go_simp; rfl)); intro gb hg w15 hbox hb; have GW := Aside0.mk (show w.heap.size ≤ gb by rw [hg]; exact HQ.out.size); have HQ2 := Aside0.mk (below_step HQ.out hb); have BK := Aside0.mk hbox; have hcz0 : w15.cell? ⟨gb, 0, none⟩ = some (.int .i64 0) := (blk_cell BK.out 0).trans rfl; have hcz1 : w15.cell? ⟨gb, 1, none⟩ = some (.int .i64 0) := (blk_cell BK.out 1).trans rfl; have hcz2 : w15.cell? ⟨gb, 2, none⟩ = some (.int .i64 0) := (blk_cell BK.out 2).trans rfl; have hcz3 : w15.cell? ⟨gb, 3, none⟩ = some (.int .i64 0) := (blk_cell BK.out 3).trans rfl; have hfz0 := blk_frozen BK.out 0; have hfz1 := blk_frozen BK.out 1; have hfz2 := blk_frozen BK.out 2; have hfz3 := blk_frozen BK.out 3; clear hb hbox hg)
      | ((with_reducible refine gate_callee (f := 84) rfl ?_); go_loud (refine goesL_ (some 35) rfl rfl Try.func84 (by kernel_rfl) rfl #[.agg #[.int .i64 ((rd_T50 cs x).f0), .int .i64 ((rd_T50 cs x).f1), .int .i64 ((rd_T50 cs x).f2), .int .i64 ((rd_T50 cs x).f3)], .slice Bb b.length cb] rfl (by (try simp only [List.map_toArray, List.map_cons, List.map_nil]); first | done | rfl) ?_; (with_reducible refine (spec_pzFits.calls k _ _ _ _ Bb cb b true _ (Kd.C_below HBC.out (by repeat (first | exact HQ2.out | apply below_alloc | apply pw_below_drewN | apply below_drew1 | refine below_set ?_ GW.out))) HCB.out HFB.out).mono ?_); rintro e w19 ⟨rfl, hb⟩; refine ⟨_, rfl, ?_⟩; have HQ3 := Aside0.mk (below_step (by repeat (first | exact HQ2.out | apply below_alloc | apply pw_below_drewN | apply below_drew1 | refine below_set ?_ GW.out)) hb); clear hb)))
     go_roundg d
     case measure => omega
     case rel => exact ⟨i + 1, _, rfl, ⟨HX1.out.symm⟩, ⟨by have := HN.out; omega⟩, HA2, HQ3⟩
    | false =>
     have HE := Aside0.mk (show r = out by have h1 := HA2.out; have h2 := HH.out; simp only [Bool.false_eq_true, if_false, Option.some.injEq] at h1; subst h1; split at h2 <;> simp at h2; exact h2.symm)
     go_wp2_with (first
      | ((with_reducible refine gate_dst (N := 10) rfl ?_); (try (refine gate_guard (by rfl) ?_; dsimp only)); refine box_event ?hg (N := 10) ?hd (cs := #[.int .i64 0, .int .i64 0, .int .i64 0, .int .i64 0]) (t := 50) ?hr ?_; (case hd => rfl); (case hg => rfl); (case hr => first | (go_simp; done) | (go_simp; rfl)); intro gb hg w15 hbox hb; have GW := Aside0.mk (show w.heap.size ≤ gb by rw [hg]; exact HQ.out.size); have HQ2 := Aside0.mk (below_step HQ.out hb); have BK := Aside0.mk hbox; have hcz0 : w15.cell? ⟨gb, 0, none⟩ = some (.int .i64 0) := (blk_cell BK.out 0).trans rfl; have hcz1 : w15.cell? ⟨gb, 1, none⟩ = some (.int .i64 0) := (blk_cell BK.out 1).trans rfl; have hcz2 : w15.cell? ⟨gb, 2, none⟩ = some (.int .i64 0) := (blk_cell BK.out 2).trans rfl; have hcz3 : w15.cell? ⟨gb, 3, none⟩ = some (.int .i64 0) := (blk_cell BK.out 3).trans rfl; have hfz0 := blk_frozen BK.out 0; have hfz1 := blk_frozen BK.out 1; have hfz2 := blk_frozen BK.out 2; have hfz3 := blk_frozen BK.out 3; clear hb hbox hg)
      | ((with_reducible refine gate_callee (f := 84) rfl ?_); go_loud (refine goesL_ (some 35) rfl rfl Try.func84 (by kernel_rfl) rfl #[.agg #[.int .i64 ((rd_T50 cs x).f0), .int .i64 ((rd_T50 cs x).f1), .int .i64 ((rd_T50 cs x).f2), .int .i64 ((rd_T50 cs x).f3)], .slice Bb b.length cb] rfl (by (try simp only [List.map_toArray, List.map_cons, List.map_nil]); first | done | rfl) ?_; (with_reducible refine (spec_pzFits.calls k _ _ _ _ Bb cb b false _ (Kd.C_below HBC.out (by repeat (first | exact HQ2.out | apply below_alloc | apply pw_below_drewN | apply below_drew1 | refine below_set ?_ GW.out))) HCB.out HFB.out).mono ?_); rintro e w19 ⟨rfl, hb⟩; refine ⟨_, rfl, ?_⟩; have HQ3 := Aside0.mk (below_step (by repeat (first | exact HQ2.out | apply below_alloc | apply pw_below_drewN | apply below_drew1 | refine below_set ?_ GW.out)) hb); clear hb)))
     refine bodyPost_ret (v := .tuple #[]) (results_none rfl _ _ _) rfl ?_
     exact ⟨rfl, v, (HQ3.out.block gO (blk_lt HO.out)).trans HO.out, HE.out ▸ Kd.S_mono (Kd.S_below HR.out HQ3.out) (fun _ hq => hq.1), HB.out.trans (HQ3.out.mono HBS.out), HQ3.out.size, fun q hq _ _ => HQ3.out.block q hq, fun q hv _ => hv⟩
 | succ m ih =>
  intro hm Bb cb b v out r okR okb w hB hbs hbb hfr hgR hb hO hR h
  have HB := Aside0.mk hB
  have HBS := Aside0.mk hbs
  have HRC := Aside0.mk hrc
  have HBB0 := Aside0.mk hbb
  have HFR := Aside0.mk hfr
  have HGR := Aside0.mk hgR
  have HBR := Aside0.mk hb
  have HO := Aside0.mk hO
  have HR := Aside0.mk hR
  simp only [lookP] at h
  by_cases hbl : b.length < 1000
  ·rw [if_pos hbl] at h
   have HH := Aside0.mk h
   clear hB hbs hb hO hR h hrc hbb hfr hgR
   go_enter Try.func86, Try.ntmps86
   go_wp2
   go_loopg [8] 6 (fun kq v8 w' => ∃ (n : Nat) (o : List (List Int)) (vo : Value), v8 = .int .i64 (n : Int) ∧ Aside0 (n + kq = 6) ∧ Aside0 (lookS (lookP k cs m) b kq (n : Int) o = some r) ∧ Aside0 (Below base w0 w') ∧ Aside0 (w.heap.size ≤ w'.heap.size) ∧ Aside0 (w'.heap[gO]? = some (.cells #[vo] 55 (0, 0))) ∧ Aside0 (Kd.S (Kd.slice 3 (Kd.int .i64)) 26 w' base (fun q => okR q ∧ ¬ okb q) vo o) ∧ Aside0 (∀ q, q < w.heap.size → q ≠ gO → some q ≠ v.ownBlock → w'.heap[q]? = w.heap[q]?) ∧ Aside0 (∀ q, vo.ownBlock = some q → q < w.heap.size → v.ownBlock = some q))
   case atStart => exact ⟨0, out, v, rfl, ⟨rfl⟩, HH, HB, ⟨Nat.le_refl _⟩, HO, HR, ⟨fun _ _ _ _ => rfl⟩, ⟨fun _ h_ _ => h_⟩⟩
   case round =>
    clear HH
    obtain ⟨n, o, vo, rfl, HN, HA, HBt, HSt, HOt, HRt, HFt, HVt⟩ := hrel
    have hn6 := HN.out
    have HA1 := HA.out
    clear HA
    cases gk with
    | zero =>
     simp only [lookS, Option.some.injEq] at HA1
     have c5b : decide ((n : Int) ≤ 5) = false := decide_eq_false (by omega)
     go_wp2
     refine bodyPost_ret (v := .tuple #[]) (results_none rfl _ _ _) rfl ?_
     exact ⟨rfl, vo, HOt.out, HA1 ▸ Kd.S_mono HRt.out (fun _ hq => hq.1), HBt.out, HSt.out, HFt.out, HVt.out⟩
    | succ d =>
     simp only [lookS] at HA1
     obtain ⟨o1, ho1, HA1⟩ := Option.bind_eq_some_iff.mp HA1
     have HA2 := Aside0.mk HA1
     have HL := Aside0.mk ho1
     clear HA1 ho1
     have c5b : decide ((n : Int) ≤ 5) = true := decide_eq_true (by omega)
     have HBb := Aside0.mk (Kd.R_step HBR.out (fun q hq hlt => HFt.out q hlt (fun e_ => HGR.out (e_ ▸ (HBB0.out q hq).1)) (fun e_ => ((Kd.S_R HR.out).1 q e_.symm).2 hq)))
     have HBw := Aside0.mk (Nat.le_trans HBS.out HSt.out)
     have HOl := Aside0.mk (blk_lt HOt.out)
     have e1 : wrap64 (((m + 1 : Nat) : Int) - 1) = (m : Int) := by unfold wrap64; omega
     go_wp2_with (first
      | (go_at_call 49; go_loud (refine (spec_l1Own.calls Bb cb b b wr (Kd.R_reads' HBb.out).2.2 (Kd.R_reads' HBb.out).2.1 (by unfold spec_l1Own.f; simp only [Option.bind_some, List.length_nil, Nat.zero_add, List.nil_append]; rw [if_pos (by omega)])).mono ?_; rintro e w' ⟨v21, rfl, hr_, hb_⟩; have H21 := Aside0.mk hr_; have HK1 := Aside0.mk hb_; clear hr_ hb_))
      | ((with_reducible refine gate_builtin (b := .append) (xs := #[.tmp 21, .tmp 23]) rfl ?_); at_builtin; go_loud (refine Kd.R_append (Kd.int .i64) (w0 := w0) base rfl (.tmp 21) (.tmp 23) 26 3 (.int .i64 0) 8 rfl Try.underlying26 info3 rfl (by decide) (by omega) v21 b (n : Int) [.int .i64 (n : Int)] (fun q => wr.heap.size ≤ q) (fun _ => False) rfl rfl ?aP (fun _ hk => hk.elim) ?aF ?aO ?aB ?aS ?aL ?_; (case aP => exact rfl); (case aF => exact fun q hq => Nat.le_trans HK1.out.size hq); (case aO => exact Kd.R_lower (Kd.R_mono (Kd.R_bound H21.out) (fun q hq => hq.2.1)) HBw.out); (case aB => exact HBt.out.trans (HK1.out.mono HBw.out)); (case aS => exact Nat.le_trans HBw.out HK1.out.size); (case aL => omega); intro v24 w5 ho hb hg hat; have HK5 := Aside0.mk (fun q (hq : q < wr.heap.size) => (hg.block q (Nat.lt_of_lt_of_le hq HK1.out.size) (fun e_ => by have := Kd.R_base H21.out q e_.symm; omega)).trans (HK1.out.block q hq)); have HS5 := Aside0.mk (Nat.le_trans HK1.out.size hg.size); have H24 := Aside0.mk ho; have HB5 := Aside0.mk hb; obtain ⟨A24, c24, e24⟩ := Kd.R_slice ho; have HIH := ih (by omega) A24 c24 (b ++ [(n : Int)]) vo o o1 (fun q => okR q ∧ ¬ okb q) (fun q => wr.heap.size ≤ q ∧ q < w5.heap.size) w5 HB5.out (Nat.le_trans HBw.out HS5.out) (fun q hq => ⟨⟨HFR.out q (Nat.le_trans HSt.out hq.1), fun h_ => by have := (HBB0.out q h_).2; have := HSt.out; omega⟩, hq.2⟩) (fun q hq => ⟨HFR.out q (Nat.le_trans HSt.out (Nat.le_trans HS5.out hq)), fun h_ => by have := (HBB0.out q h_).2; have := HSt.out; have := HS5.out; omega⟩) (fun h_ => HGR.out h_.1) (Kd.R_mono (Kd.R_bound (e24 ▸ H24.out)) (fun q hq => ⟨hq.1, hq.2.2.1⟩)) ((HK5.out gO HOl.out).trans HOt.out) (Kd.S_step (Kd.S_mono (Kd.S_bound HRt.out) (fun q hq => (⟨hq.1, fun h_ => by have := h_.1; have := hq.2.2.1; omega⟩ : (okR q ∧ ¬ okb q) ∧ ¬ (wr.heap.size ≤ q ∧ q < w5.heap.size)))) (fun q _ hlt => HK5.out q hlt)) HL.out; obtain ⟨nL, hnL⟩ : ∃ q, q = (b ++ [(n : Int)]).length := ⟨_, rfl⟩; rw [← hnL] at HIH e24; have HIH2 := Aside0.mk HIH; clear HIH hnL H24; subst e24; clear ho hb hg hat))
      | (go_at_call 86; go_loud (refine HIH2.out.mono ?_; rintro e w' ⟨rfl, v', hO', hR', hB', hS', hF', hV'⟩; have HO2 := Aside0.mk hO'; have HR2 := Aside0.mk hR'; have HB2 := Aside0.mk hB'; have HS2 := Aside0.mk (Nat.le_trans HSt.out (Nat.le_trans HS5.out hS')); have HF2 := Aside0.mk (fun q (hq : q < w.heap.size) (hn : q ≠ gO) (hv : some q ≠ v.ownBlock) => ((hF' q (Nat.lt_of_lt_of_le hq (Nat.le_trans HSt.out HS5.out)) hn (fun e_ => hv (HVt.out q e_.symm hq).symm)).trans (HK5.out q (Nat.lt_of_lt_of_le hq HSt.out))).trans (HFt.out q hq hn hv)); have HV2 := Aside0.mk (fun q (hv : v'.ownBlock = some q) (hq : q < w.heap.size) => HVt.out q (hV' q hv (Nat.lt_of_lt_of_le hq (Nat.le_trans HSt.out HS5.out))) hq); clear hO' hR' hB' hS' hF' hV')))
     go_roundg d
     case measure => omega
     case rel => exact ⟨n + 1, o1, v', congrArg (Value.int .i64) (by omega), ⟨by omega⟩, ⟨by rw [show ((n + 1 : Nat) : Int) = (n : Int) + 1 by omega]; exact HA2.out⟩, HB2, HS2, HO2, HR2, HF2, HV2⟩
  ·rw [if_neg hbl] at h
   exact absurd h (by simp)

/-! ### spec_pzAll: function 48 -/
theorem allO_le {α : Type} {p q : α → Option Bool} (h : ∀ x, LeO (p x) (q x)) : ∀ l : List α, LeO (allO p l) (allO q l)
 | [] => LeO.refl _
 | x :: t => by
  simp only [allO]
  exact LeO.bind (h x) fun _ => LeO.ite (allO_le h t) (LeO.refl _)
theorem lookS_le {f g : List Int → List (List Int) → Option (List (List Int))} (h : ∀ x y, LeO (f x y) (g x y)) (b : List Int) : ∀ (d : Nat) (n : Int) (out : List (List Int)), LeO (lookS f b d n out) (lookS g b d n out)
 | 0, _, _ => LeO.refl _
 | d + 1, n, out => by
  simp only [lookS]
  exact LeO.bind (h _ _) fun _ => lookS_le h b d _ _
theorem lookP_le (k : Nat) (cs : List S50) : ∀ (m : Nat) (b : List Int) (out : List (List Int)), LeO (lookP k cs m b out) (lookP (k + 1) cs m b out)
 | 0, b, out => by
  simp only [lookP]
  exact LeO.bind (allO_le (fun x => spec_pzFits.mono _ _ _ _ _ _) _) fun _ => LeO.refl _
 | m + 1, b, out => by
  simp only [lookP]
  exact LeO.ite (lookS_le (lookP_le k cs m) b 6 0 out) (LeO.refl _)
def spec_pzAll.f (k : Nat) (a0 : Int) (l1 : List S50) : Option (List (List Int)) := if 0 ≤ a0 ∧ a0 ≤ 100 then lookP k l1 a0.toNat [] [] else none
theorem spec_pzAll.mono : ∀ a0 a1 k, LeO (spec_pzAll.f k a0 a1) (spec_pzAll.f (k + 1) a0 a1) := by
 intro a0 a1 k
 unfold spec_pzAll.f
 exact LeO.ite (lookP_le _ _ _ _ _) (LeO.refl _)
set_option maxHeartbeats 8000000 in
set_option maxRecDepth 100000 in
theorem spec_pzAll.calls (k : Nat) (a0 : Int) (A1 : Option Addr) (c1 : Nat) (l1 : List (S50)) (r : List (List Int)) (w : World) (hr1 : Kd.C k50 w A1 l1.length l1) (hc1 : l1.length ≤ c1) (h : spec_pzAll.f k a0 l1 = some r) :
  Calls Try.prog 48 #[.int .i64 a0, .slice A1 l1.length c1] w fun e w' => ∃ v0_ : Value, e = .returned (v0_) ∧ Kd.S (Kd.slice 3 (Kd.int .i64)) 26 w' w.heap.size (fun _ => True) v0_ r ∧ Below w.heap.size w w' := by
 unfold spec_pzAll.f at h
 by_cases c : 0 ≤ a0 ∧ a0 ≤ 100
 ·rw [if_pos c] at h
  obtain ⟨n, rfl⟩ := Int.eq_ofNat_of_zero_le c.1
  rw [Int.toNat_natCast] at h
  have HH := Aside0.mk h
  have HR1 := Aside0.mk hr1
  clear h hr1
  go_enter Try.func48, Try.ntmps48
  have HB0 := Aside0.mk (below_alloc (Below.refl w.heap.size w) (.cells #[.slice none 0 0] 55))
  go_wp2_with (go_at_call 86; go_loud (refine (spec_pzLook.calls k A1 c1 l1 hc1 w.heap.size w.heap.size w rfl HR1.out (Nat.le_refl _) n (by omega) none 0 [] (.slice none 0 0) [] r (fun q => q ≠ w.heap.size) (fun _ => False) (w.alloc (.cells #[.slice none 0 0] 55)) HB0.out HB0.out.size (fun _ h_ => h_.elim) (fun q hq => by have := alloc_size w (.cells #[.slice none 0 0] 55); omega) (fun h_ => h_ rfl) (Kd.R_nil _ _ _ _ _) (alloc_new _ _) (Kd.S_nil _ _ _ _ _) HH.out).mono ?_; rintro e w' ⟨rfl, v', hO', hR', hB', _, _, _⟩; have HO3 := (blk_cell hO' 0).trans rfl; have HR3 := Aside0.mk hR'; have HB3 := Aside0.mk hB'; obtain ⟨Ap, cp, ep⟩ := Kd.S_slice hR'; subst ep; clear hO' hR' hB'))
  go_ret
  exact ⟨_, rfl, Kd.S_mono HR3.out (fun _ _ => trivial), HB3.out⟩
 ·rw [if_neg c] at h
  exact absurd h (by simp)

/-! ### spec_SureHeaps: function 8 -/
def mrgR (o r : List Int) : List Int := List.zipWith (fun a b => if b = a then a else -1) o r
/-- The first i places are merged. -/
def mrgP (o r : List Int) (i : Nat) : List Int := mrgR (o.take i) (r.take i) ++ o.drop i
theorem mrgP_zero (o r : List Int) : mrgP o r 0 = o := by simp [mrgP, mrgR]
theorem mrgP_all (o r : List Int) (n : Nat) (ho : o.length = n) (hr : r.length = n) : mrgP o r n = mrgR o r := by
 unfold mrgP
 rw [List.take_of_length_le (by omega), List.take_of_length_le (by omega), List.drop_of_length_le (by omega), List.append_nil]
theorem mrgR_len (o r : List Int) (h : r.length = o.length) : (mrgR o r).length = o.length := by
 unfold mrgR
 rw [List.length_zipWith]
 omega
theorem mrgP_len (o r : List Int) (i : Nat) (h : r.length = o.length) (hi : i ≤ o.length) : (mrgP o r i).length = o.length := by
 unfold mrgP
 rw [List.length_append, mrgR_len _ _ (by rw [List.length_take, List.length_take]; omega), List.length_take, List.length_drop]
 omega
theorem mrgP_get (o r : List Int) (i : Nat) (h : r.length = o.length) (hi : i < o.length) : (mrgP o r i)[i]? = some o[i] := by
 unfold mrgP
 have hl : (mrgR (o.take i) (r.take i)).length = i := by rw [mrgR_len _ _ (by rw [List.length_take, List.length_take]; omega), List.length_take]; omega
 rw [List.getElem?_append_right (by omega), hl, Nat.sub_self, List.getElem?_drop]
 simp [hi]
theorem mrgP_succ (o r : List Int) (i : Nat) (h : r.length = o.length) (hi : i < o.length) : mrgP o r (i + 1) = (mrgP o r i).set i (if r[i]'(by omega) = o[i] then o[i] else -1) := by
 have hl : (mrgR (o.take i) (r.take i)).length = i := by rw [mrgR_len _ _ (by rw [List.length_take, List.length_take]; omega), List.length_take]; omega
 unfold mrgP
 rw [List.set_append_right _ _ (by omega), hl, Nat.sub_self, List.drop_eq_getElem_cons hi, List.set_cons_zero, List.take_succ_eq_append_getElem hi, List.take_succ_eq_append_getElem (by omega)]
 unfold mrgR
 rw [List.zipWith_append (by rw [List.length_take, List.length_take]; omega), List.append_assoc]
 rfl
/-- An element of a row of rows: its cell, and its row. -/
theorem R_read {W : World} {e base n cap g : Nat} {ok : Nat → Prop} {L : List (List Int)} {te : Nat} (h : Kd.R (Kd.slice te (Kd.int .i64)) e W base ok (.slice (some ⟨g, 0, none⟩) n cap) L) (j : Nat) (hj : j < L.length) :
  ∃ v, W.cell? ⟨g, j, none⟩ = some v ∧ Kd.R (Kd.int .i64) te W base ok v L[j] := by
 obtain ⟨hok0, inner, ho, hr⟩ := h
 have hM := hr.2 j _ (List.getElem?_eq_getElem hj)
 obtain ⟨v, hv, hv2⟩ := hM
 refine ⟨v, ?_, Kd.R_mono hv2 (fun q hq => hq.1)⟩
 have hgo : (Value.slice (some ⟨g, 0, none⟩) n cap).ownBlock = some g := by simp [Value.ownBlock]
 have hu : inner[j]? = some v := by
  have h0 : ((inner.drop (j * 1)).take 1)[0]? = some v := by
   have hv0 : (inner.drop (j * 1)).take 1 = [v] := hv
   rw [hv0]; rfl
  rw [List.getElem?_take] at h0
  simp only [Nat.lt_one_iff, if_true, List.getElem?_drop, Nat.mul_one, Nat.add_zero] at h0
  exact h0
 have h9 := ho.cells (g := g) hgo _ v hu
 rwa [add_plain] at h9
def spec_SureHeaps.f (k : Nat) (h : Int) (cs : List S50) : Option (List Int × Bool) := (spec_pzGood.f k h cs).bind fun b => if b = true then ((spec_pzAll.f k h cs).bind fun L => match L with
 | [] => some ([], false)
 | x :: t => if (∀ r ∈ t, r.length = x.length) ∧ t.length < 1000000 ∧ x.length < 1000000 then some ((x :: t).foldl mrgR x, true) else none) else some ([], false)
theorem spec_SureHeaps.mono : ∀ a0 a1 k, LeO (spec_SureHeaps.f k a0 a1) (spec_SureHeaps.f (k + 1) a0 a1) := by
 intro a0 a1 k
 unfold spec_SureHeaps.f
 exact LeO.bind (spec_pzGood.mono _ _ _) fun _ => LeO.ite (LeO.bind (spec_pzAll.mono _ _ _) fun _ => LeO.refl _) (LeO.refl _)
set_option maxHeartbeats 8000000 in
set_option maxRecDepth 100000 in
theorem spec_SureHeaps.calls (k : Nat) (a0_0 : Int) (A0_1 : Option Addr) (c0_1 : Nat) (l0_1 : List (S50)) (r1 : List Int) (r2 : Bool) (w : World) (hr0_1 : Kd.C k50 w A0_1 l0_1.length l0_1) (hc0_1 : l0_1.length ≤ c0_1) (h : spec_SureHeaps.f k a0_0 l0_1 = some (r1, r2)) :
  Calls Try.prog 8 #[.agg #[.int .i64 a0_0, .slice A0_1 l0_1.length c0_1]] w fun e w' => ∃ v0_ : Value, e = .returned (.tuple #[v0_, .bool r2]) ∧ Kd.R (Kd.int .i64) 3 w' w.heap.size (fun _ => True) v0_ r1 ∧ Below w.heap.size w w' := by
 unfold spec_SureHeaps.f at h
 obtain ⟨b, hG, h⟩ := Option.bind_eq_some_iff.mp h
 have HR0 := Aside0.mk hr0_1
 have HG := Aside0.mk hG
 have HB := Aside0.mk (below_alloc (Below.refl w.heap.size w) (.cells #[.int .i64 a0_0, .slice A0_1 l0_1.length c0_1] 31))
 have HRa := Aside0.mk (Kd.C_alloc HR0.out (.cells #[.int .i64 a0_0, .slice A0_1 l0_1.length c0_1] 31))
 have BKa := Aside0.mk (alloc_new w (.cells #[.int .i64 a0_0, .slice A0_1 l0_1.length c0_1] 31))
 clear hG hr0_1
 cases b with
 | false =>
  simp only [Bool.false_eq_true, if_false, Option.some.injEq, Prod.mk.injEq] at h
  obtain ⟨rfl, rfl⟩ := h
  go_enter Try.func8, Try.ntmps8
  go_wp2_with (go_at_call 47; go_loud (refine (spec_pzGood.calls k a0_0 _ _ l0_1 false _ HRa.out hc0_1 HG.out).mono ?_; rintro e w2 ⟨rfl, hb⟩; have HB2 := Aside0.mk (below_step HB.out hb); clear hb))
  go_ret2
  exact ⟨_, rfl, Kd.R_nil _ _ _ _ _, HB2.out⟩
 | true =>
  simp only [if_true] at h
  obtain ⟨L, hS, h⟩ := Option.bind_eq_some_iff.mp h
  have HS := Aside0.mk hS
  clear hS
  cases L with
  | nil =>
   simp only [Option.some.injEq, Prod.mk.injEq] at h
   obtain ⟨rfl, rfl⟩ := h
   go_enter Try.func8, Try.ntmps8
   go_wp2_with (first | (go_at_call 47; go_loud (refine (spec_pzGood.calls k a0_0 _ _ l0_1 true _ HRa.out hc0_1 HG.out).mono ?_; rintro e w2 ⟨rfl, hb⟩; have HB2 := Aside0.mk (below_step HB.out hb); have HR2 := Aside0.mk (Kd.C_below HRa.out hb); have BK2 := Aside0.mk (blk_below BKa.out hb); have hcz0 := (blk_cell BK2.out 0).trans rfl; have hcz1 := (blk_cell BK2.out 1).trans rfl; clear hb)) | (go_at_call 48; go_loud (refine (spec_pzAll.calls k a0_0 _ _ l0_1 [] _ HR2.out hc0_1 HS.out).mono ?_; rintro e w3 ⟨vS, rfl, ho, hb⟩; have HB3 := Aside0.mk (below_step HB2.out hb); obtain ⟨AS, cS, eS⟩ := Kd.S_slice ho; subst eS; clear ho hb)))
   go_ret2
   exact ⟨_, rfl, Kd.R_nil _ _ _ _ _, HB3.out⟩
  | cons x t =>
   by_cases hc : (∀ r ∈ t, r.length = x.length) ∧ t.length < 1000000 ∧ x.length < 1000000
   ·simp only [if_pos hc, Option.some.injEq, Prod.mk.injEq] at h
    obtain ⟨hr1, rfl⟩ := h
    obtain ⟨hall, ht, hx⟩ := hc
    have HR1 := Aside0.mk hr1
    have HT := Aside0.mk ht
    have HX := Aside0.mk hx
    obtain ⟨L, hL⟩ : ∃ L, L = x :: t := ⟨_, rfl⟩
    obtain ⟨nL, hnL⟩ : ∃ q, q = L.length := ⟨_, rfl⟩
    have HLL := Aside0.mk hL
    have HNL := Aside0.mk hnL
    have HNT := Aside0.mk (show nL = t.length + 1 by rw [hnL, hL]; rfl)
    have HALL := Aside0.mk (show ∀ r ∈ L, r.length = x.length by
     rw [hL]
     intro r hr
     rcases List.mem_cons.1 hr with rfl | hr
     ·rfl
     ·exact hall r hr)
    have d1 : decide ((nL : Int) = 0) = false := decide_eq_false (by have := HNT.out; omega)
    have d2 : ((nL : Int) == 0) = false := beq_eq_false_iff_ne.mpr (by have := HNT.out; omega)
    rw [← hL] at HS HR1
    clear hall ht hx hr1 hL hnL
    go_enter Try.func8, Try.ntmps8
    go_upto_region 6 with (first | (go_at_call 47; go_loud (refine (spec_pzGood.calls k a0_0 _ _ l0_1 true _ HRa.out hc0_1 HG.out).mono ?_; rintro e w2 ⟨rfl, hb⟩; have HB2 := Aside0.mk (below_step HB.out hb); have HR2 := Aside0.mk (Kd.C_below HRa.out hb); have BK2 := Aside0.mk (blk_below BKa.out hb); have hcz0 := (blk_cell BK2.out 0).trans rfl; have hcz1 := (blk_cell BK2.out 1).trans rfl; clear hb)) | (go_at_call 48; go_loud (refine (spec_pzAll.calls k a0_0 _ _ l0_1 L _ HR2.out hc0_1 HS.out).mono ?_; rintro e w3 ⟨vS, rfl, ho, hb⟩; have HB3 := Aside0.mk (below_step HB2.out hb); have HSS := Aside0.mk (Kd.R_mono (Kd.R_bound (Kd.R_lower (Kd.S_R ho) (below_size HB2.out))) (fun q hq => hq.2.2.1)); obtain ⟨AS, cS, eS⟩ := Kd.S_slice ho; rw [← HNL.out] at eS; subst eS; clear hcz0 hcz1 ho hb)))
    have hp : 0 < L.length := by rw [← HNL.out]; have := HNT.out; omega
    obtain ⟨g, capS, eS, gb, gl, _⟩ := Kd.R_form HSS.out hp
    injection eS with ea en ec
    subst ea
    clear en ec
    obtain ⟨v0, hv0, hR0⟩ := R_read HSS.out 0 hp
    have e0 : L[0] = x := by
     have : ∀ (M : List (List Int)) (hM : M = x :: t) (hm : 0 < M.length), M[0] = x := by
      intro M hM hm
      subst hM
      rfl
     exact this L HLL.out hp
    rw [e0] at hR0
    obtain ⟨A0x, c0x, ex⟩ := Kd.R_slice hR0
    subst ex
    have HX0 := Aside0.mk hR0
    obtain ⟨n, hn⟩ : ∃ q, q = x.length := ⟨_, rfl⟩
    have HN := Aside0.mk hn
    have HOWN := Aside0.mk (spec_l1Own.calls A0x c0x x x w3 (Kd.R_reads' hR0).2.2 (Kd.R_reads' hR0).2.1 (by unfold spec_l1Own.f; simp only [Option.bind_some, List.length_nil, Nat.zero_add, List.nil_append]; rw [if_pos (by have := HX.out; omega)]))
    have p2 : (0 : Int) < (nL : Int) := by have := HNT.out; omega
    clear hn hp gb gl e0 hR0
    go_upto_region 8 with (go_at_call 49; go_loud (refine HOWN.out.mono ?_; rintro e w4 ⟨vO, rfl, ho, hb⟩; have HB4 := Aside0.mk (below_step HB3.out hb); have HSS4 := Aside0.mk (Kd.R_below HSS.out hb); have HOO := Aside0.mk (Kd.R_lower (Kd.R_mono (Kd.R_bound ho) (fun q hq => (hq.2.1 : w3.heap.size ≤ q))) (below_size HB3.out)); obtain ⟨Ao, co, eo⟩ := Kd.R_slice ho; rw [← HN.out] at eo; subst eo; clear ho hb))
    have HF0 := Aside0.mk (show L.foldl mrgR x = r1 by have := HR1.out; exact this)
    go_loopg [26] nL (fun kq v26 w' => ∃ (i : Nat) (xi : Int) (o : List Int), v26 = .int .i64 xi ∧ Aside0 (xi = (i : Int)) ∧ Aside0 (i + kq = nL) ∧ Aside0 (o.length = n) ∧ Aside0 ((L.drop i).foldl mrgR o = r1) ∧ Aside0 (Kd.R (Kd.slice 3 (Kd.int .i64)) 26 w' w.heap.size (fun q => q < w3.heap.size) (.slice (some ⟨g, 0, none⟩) nL cS) L) ∧ Aside0 (Kd.R (Kd.int .i64) 3 w' w.heap.size (fun q => w3.heap.size ≤ q) (.slice Ao n co) o) ∧ Aside0 (Below w.heap.size w w'))
    case atStart => exact ⟨0, 0, x, rfl, ⟨rfl⟩, ⟨by omega⟩, ⟨HN.out.symm⟩, HF0, HSS4, HOO, HB4⟩
    case round =>
     clear HF0 HSS4 HOO HB4 HSS HB3 hv0
     obtain ⟨i, xi, o, rfl, HXI, HIK, HON, HFO, HSS, HROW, HB2⟩ := hrel
     have hxi := HXI.out
     have hik := HIK.out
     cases gk with
     | zero =>
      have cb : decide (xi < (nL : Int)) = false := decide_eq_false (by omega)
      have hr : o = r1 := by
       have := HFO.out
       rw [List.drop_of_length_le (by have := HNL.out; omega)] at this
       exact this
      go_wp2
      go_ret2
      exact ⟨_, rfl, hr ▸ Kd.R_mono HROW.out (fun _ _ => trivial), HB2.out⟩
     | succ d =>
      have hit : i < L.length := by have := HNL.out; omega
      have cb : decide (xi < (nL : Int)) = true := decide_eq_true (by omega)
      obtain ⟨vh, hvh, hRh⟩ := R_read HSS.out i hit
      obtain ⟨y, hy⟩ : ∃ y, y = L[i] := ⟨_, rfl⟩
      rw [← hy] at hRh
      have hyn : y.length = n := by rw [hy, HN.out]; exact HALL.out _ (List.getElem_mem hit)
      obtain ⟨Ah, ch, eh⟩ := Kd.R_slice hRh
      rw [hyn] at eh
      subst eh
      have HRH := Aside0.mk hRh
      have HYN := Aside0.mk hyn
      have HFO2 := Aside0.mk (show (L.drop (i + 1)).foldl mrgR (mrgR o y) = r1 by
       have := HFO.out
       rw [List.drop_eq_getElem_cons hit, List.foldl_cons, ← hy] at this
       exact this)
      have hx1 : wr.cell? ⟨g, xi.toNat, none⟩ = some (.slice Ah n ch) := by
       rw [hxi, Int.toNat_natCast]
       exact hvh
      have p3 : (0 ≤ xi) = True := eq_true (by omega)
      have q3 : (xi < (nL : Int)) = True := eq_true (by omega)
      clear hvh hRh hy hyn hit hxi hik HFO
      go_wp2
      go_loopg [32] n (fun kq v32 w' => ∃ (j : Nat) (xj : Int), v32 = .int .i64 xj ∧ Aside0 (xj = (j : Int)) ∧ Aside0 (j + kq = n) ∧ Aside0 (Kd.R (Kd.int .i64) 3 w' w.heap.size (fun q => w3.heap.size ≤ q) (.slice Ao n co) (mrgP o y j)) ∧ Aside0 (Kd.R (Kd.int .i64) 3 w' w.heap.size (fun q => q < w3.heap.size) (.slice Ah n ch) y) ∧ Aside0 (Kd.R (Kd.slice 3 (Kd.int .i64)) 26 w' w.heap.size (fun q => q < w3.heap.size) (.slice (some ⟨g, 0, none⟩) nL cS) L) ∧ Aside0 (Below w.heap.size w w'))
      case atStart => exact ⟨0, 0, rfl, ⟨rfl⟩, ⟨by omega⟩, ⟨by rw [mrgP_zero]; exact HROW.out⟩, HRH, HSS, HB2⟩
      case round =>
       clear HROW HRH HSS HB2 hx1 p3 q3 cb
       obtain ⟨j, xj, rfl, HXJ, HJK, HO, HRH, HSS, HB2⟩ := hrel
       have hxj := HXJ.out
       have hjk := HJK.out
       cases gk with
       | zero =>
        have cb : decide (xj < (n : Int)) = false := decide_eq_false (by omega)
        have HO2 := Aside0.mk (show Kd.R (Kd.int .i64) 3 wr w.heap.size (fun q => w3.heap.size ≤ q) (.slice Ao n co) (mrgR o y) from by
         rw [← mrgP_all o y n HON.out HYN.out]
         have : j = n := by omega
         exact this ▸ HO.out)
        have HW := Aside0.mk (show wrap64 (xi + 1) = ((i + 1 : Nat) : Int) by have := HXI.out; have := HIK.out; have := HNT.out; have := HT.out; unfold wrap64; omega)
        clear hxj hjk
        go_wp2
        go_roundg d
        case measure => have := HIK.out; omega
        case rel => exact ⟨i + 1, _, mrgR o y, rfl, ⟨by first | exact HW.out | (have := HXI.out; omega)⟩, ⟨by have := HIK.out; omega⟩, ⟨by rw [mrgR_len o y (by rw [HON.out, HYN.out])]; exact HON.out⟩, HFO2, HSS, HO2, HB2⟩
       | succ e =>
        have hjn : j < n := by omega
        have cb : decide (xj < (n : Int)) = true := decide_eq_true (by omega)
        have hjo : j < o.length := by rw [HON.out]; exact hjn
        have hjy : j < y.length := by rw [HYN.out]; exact hjn
        have hyo : y.length = o.length := by rw [HYN.out, HON.out]
        obtain ⟨go, co1, eo, gbo, glo, _⟩ := Kd.R_form HO.out (by have := mrgP_len o y j hyo (Nat.le_of_lt hjo); omega)
        injection eo with ea2 en2 ec2
        obtain ⟨gh, ch1, eh, gbh, glh, _⟩ := Kd.R_form HRH.out (by omega)
        injection eh with ea3 en3 ec3
        subst ea2
        subst ea3
        obtain ⟨hxo, hfo⟩ := Kd.R_celln (0 : Int) HO.out xj (by omega) (by omega)
        obtain ⟨hxy, hfy⟩ := Kd.R_celln (0 : Int) HRH.out xj (by omega) (by omega)
        have eo1 : rdOf (0 : Int) (mrgP o y j) xj = o[j] := by
         show (mrgP o y j).getD xj.toNat 0 = _
         rw [hxj, Int.toNat_natCast, List.getD_eq_getElem?_getD, mrgP_get o y j hyo hjo]
         rfl
        have ey1 : rdOf (0 : Int) y xj = y[j] := by
         show y.getD xj.toNat 0 = _
         rw [hxj, Int.toNat_natCast, List.getD_eq_getElem?_getD, List.getElem?_eq_getElem hjy]
         rfl
        rw [eo1] at hxo
        rw [ey1] at hxy
        have HS1 := Aside0.mk (mrgP_succ o y j hyo hjo)
        have HGO := Aside0.mk (HO.out.1 go (by simp [Value.ownBlock]))
        have HGB := Aside0.mk gbo
        have HTN := Aside0.mk (show xj.toNat = j by rw [hxj, Int.toNat_natCast])
        have p4 : (0 ≤ xj) = True := eq_true (by omega)
        have q4 : (xj < (n : Int)) = True := eq_true (by omega)
        have HW := Aside0.mk (show wrap64 (xj + 1) = ((j + 1 : Nat) : Int) by have := HN.out; have := HX.out; unfold wrap64; omega)
        obtain ⟨a, ha⟩ : ∃ a, a = o[j] := ⟨_, rfl⟩
        obtain ⟨b, hb⟩ : ∃ b, b = y[j] := ⟨_, rfl⟩
        rw [← ha] at hxo HS1
        rw [← hb] at hxy HS1
        by_cases hab : b = a
        ·have hbb : (b != a) = false := bne_eq_false_iff_eq.mpr hab
         have HO2 := Aside0.mk (show Kd.R (Kd.int .i64) 3 wr w.heap.size (fun q => w3.heap.size ≤ q) (.slice (some ⟨go, 0, none⟩) n co) (mrgP o y (j + 1)) from by
          have e9 : mrgP o y (j + 1) = mrgP o y j := by
           rw [HS1.out, if_pos hab]
           have hg := mrgP_get o y j hyo hjo
           rw [← ha] at hg
           obtain ⟨h1, h2⟩ := List.getElem?_eq_some_iff.1 hg
           rw [← h2]
           exact List.set_getElem_self h1
          rw [e9]
          exact HO.out)
         clear HO hab ha hb eo1 ey1 hyo hjy hjo hjn hxj hjk en2 ec2 en3 ec3 gbo glo gbh glh
         go_wp2
         repeat (go_quiet (fail); try go_wp2)
         go_roundg e
         case measure => have := HJK.out; omega
         case rel => exact ⟨j + 1, _, rfl, ⟨by first | exact HW.out | (have := HXJ.out; omega)⟩, ⟨by have := HJK.out; omega⟩, ⟨by (with_reducible repeat (first | apply Kd.R_drewN | apply Kd.R_drew)); exact HO2.out⟩, ⟨by (with_reducible repeat (first | apply Kd.R_drewN | apply Kd.R_drew)); exact HRH.out⟩, ⟨by (with_reducible repeat (first | apply Kd.R_drewN | apply Kd.R_drew)); exact HSS.out⟩, ⟨by repeat (first | exact HB2.out | apply pw_below_drewN | apply below_drew1)⟩⟩
        ·have hbb : (b != a) = true := bne_iff_ne.mpr hab
         have E8 := Aside0.mk (show (mrgP o y j).set xj.toNat (-1) = mrgP o y (j + 1) by rw [HTN.out, HS1.out, if_neg hab])
         have hnk : ∀ q, q < w3.heap.size → some q ≠ some go := fun q hq e_ => by injection e_ with e_; have := HGO.out; have h2 : w3.heap.size ≤ go := this; omega
         have HNK := Aside0.mk hnk
         clear hnk hab ha hb eo1 ey1 hyo hjy hjo hjn hxj hjk en2 ec2 en3 ec3 gbo glo gbh glh
         go_wp2
         repeat (go_quiet (fail); try go_wp2)
         go_roundg e
         case measure => have := HJK.out; omega
         case rel => exact ⟨j + 1, _, rfl, ⟨by first | exact HW.out | (have := HXJ.out; omega)⟩, ⟨by have := HJK.out; omega⟩, ⟨by rw [← E8.out]; first | exact (Kd.R_putg HO.out xj (-1)).1 | exact (Kd.R_putg (Kd.R_drewN HO.out _) xj (-1)).1 | exact (Kd.R_putg (Kd.R_drew HO.out) xj (-1)).1⟩, ⟨by first | exact Kd.R_grown HRH.out (Kd.R_putg HO.out xj (-1)).2 HNK.out | exact Kd.R_grown (Kd.R_drewN HRH.out _) (Kd.R_putg (Kd.R_drewN HO.out _) xj (-1)).2 HNK.out | exact Kd.R_grown (Kd.R_drew HRH.out) (Kd.R_putg (Kd.R_drew HO.out) xj (-1)).2 HNK.out⟩, ⟨by first | exact Kd.R_grown HSS.out (Kd.R_putg HO.out xj (-1)).2 HNK.out | exact Kd.R_grown (Kd.R_drewN HSS.out _) (Kd.R_putg (Kd.R_drewN HO.out _) xj (-1)).2 HNK.out | exact Kd.R_grown (Kd.R_drew HSS.out) (Kd.R_putg (Kd.R_drew HO.out) xj (-1)).2 HNK.out⟩, ⟨by refine below_set ?_ HGB.out; repeat (first | exact HB2.out | apply pw_below_drewN | apply below_drew1)⟩⟩
   ·simp only [if_neg hc] at h
    cases h

/-! ### laws_toClue: function 87 -/
def laws_toClue.f (a0_0 : Int) (a0_1 : Int) (a0_2 : Int) (a0_3 : Int) : Option (Int × Int × Int × Int) := some (a0_0, a0_1, a0_2, a0_3)
set_option maxHeartbeats 8000000 in
set_option maxRecDepth 100000 in
theorem laws_toClue.calls (a0_0 : Int) (a0_1 : Int) (a0_2 : Int) (a0_3 : Int) (r1 : Int) (r2 : Int) (r3 : Int) (r4 : Int) (w : World) (h : laws_toClue.f a0_0 a0_1 a0_2 a0_3 = some (r1, r2, r3, r4)) :
  Calls Try.prog 87 #[.agg #[.int .i64 a0_0, .int .i64 a0_1, .int .i64 a0_2, .int .i64 a0_3]] w fun e w' => e = .returned (.agg #[.int .i64 r1, .int .i64 r2, .int .i64 r3, .int .i64 r4]) ∧ Below w.heap.size w w' := by
 have hu102 := Try.underlying102
 have hu50 := Try.underlying50
 have HB := Aside0.mk (Below.refl w.heap.size w)
 have H : (some (a0_0, a0_1, a0_2, a0_3)) = some (r1, r2, r3, r4) := h
 clear h
 simp only [Option.some.injEq, Prod.mk.injEq] at H
 obtain ⟨rfl, rfl, rfl, rfl⟩ := H
 go_enter Try.func87, Try.ntmps87
 go_wp2_with (first | ((with_reducible refine gate_dst (N := 1) rfl ?_); refine box_event ?hg (N := 1) ?hd (cs := #[.int .i64 a0_0, .int .i64 a0_1, .int .i64 a0_2, .int .i64 a0_3]) (t := 102) ?hr ?_; (case hd => rfl); (case hg => rfl); (case hr => first | (go_simp; done) | (go_simp; rfl)); intro gb152 hg w2 hbox hb; have n0_ := Aside0.mk (below_step (by repeat (first | (with_reducible first | exact HB.out | apply below_alloc | apply pw_below_drewN | apply below_drew1) | exact HB.out)) hb); have n1_ := Aside0.mk (hbox); have n2_ := Aside0.mk ((by rw [hg]; exact (below_size (by repeat (first | (with_reducible first | exact HB.out | apply below_alloc | apply pw_below_drewN | apply below_drew1) | exact HB.out))) : w.heap.size ≤ gb152)); have n3_ := Aside0.mk ((by rw [hg]; exact (below_size (by repeat (first | (with_reducible first | exact HB.out | apply below_alloc | apply pw_below_drewN | apply below_drew1) | exact HB.out))) : w.heap.size ≤ gb152)); clear HB; have HB := n0_; have BK152 := n1_; have GW152 := n2_; have GE152 := n3_; clear n0_ n1_ n2_ n3_; clear hb hbox hg) | ((with_reducible refine gate_dst (N := 2) rfl ?_); refine box_event ?hg (N := 2) ?hd (cs := #[.int .i64 0, .int .i64 0, .int .i64 0, .int .i64 0]) (t := 50) ?hr ?_; (case hd => rfl); (case hg => rfl); (case hr => first | (go_simp; done) | (go_simp; rfl)); intro gb153 hg w3 hbox hb; have n0_ := Aside0.mk (blk_below (g := gb152) (o := .cells #[.int .i64 a0_0, .int .i64 a0_1, .int .i64 a0_2, .int .i64 a0_3] 102 (0, 0)) (by (with_reducible repeat (first | refine blk_drewN ?_ _ | refine blk_drew ?_ | refine blk_alloc ?_ _)); exact BK152.out) hb); have n1_ := Aside0.mk (below_step (by repeat (first | (with_reducible first | exact HB.out | apply below_alloc | apply pw_below_drewN | apply below_drew1 | refine below_set ?_ GE152.out) | exact HB.out)) hb); have n2_ := Aside0.mk (hbox); have n3_ := Aside0.mk ((by rw [hg]; exact (below_size (by repeat (first | (with_reducible first | exact HB.out | apply below_alloc | apply pw_below_drewN | apply below_drew1 | refine below_set ?_ GE152.out) | exact HB.out))) : w.heap.size ≤ gb153)); have n4_ := Aside0.mk ((by rw [hg]; exact (below_size (by repeat (first | (with_reducible first | exact HB.out | apply below_alloc | apply pw_below_drewN | apply below_drew1 | refine below_set ?_ GE152.out) | exact HB.out))) : w.heap.size ≤ gb153)); have n5_ := Aside0.mk ((by rw [hg]; exact Nat.ne_of_lt (blk_lt (g := gb152) (o := .cells #[.int .i64 a0_0, .int .i64 a0_1, .int .i64 a0_2, .int .i64 a0_3] 102 (0, 0)) (by (with_reducible repeat (first | refine blk_drewN ?_ _ | refine blk_drew ?_ | refine blk_alloc ?_ _)); exact BK152.out)) : gb152 ≠ gb153)); have n6_ := Aside0.mk ((by rw [hg]; exact Nat.ne_of_gt (blk_lt (g := gb152) (o := .cells #[.int .i64 a0_0, .int .i64 a0_1, .int .i64 a0_2, .int .i64 a0_3] 102 (0, 0)) (by (with_reducible repeat (first | refine blk_drewN ?_ _ | refine blk_drew ?_ | refine blk_alloc ?_ _)); exact BK152.out)) : gb153 ≠ gb152)); clear BK152; clear HB; have BK152 := n0_; have HB := n1_; have BK153 := n2_; have GW153 := n3_; have GE153 := n4_; have NB152_153 := n5_; have NB153_152 := n6_; clear n0_ n1_ n2_ n3_ n4_ n5_ n6_; clear hb hbox hg) | ((with_reducible refine gate_dst (N := 3) rfl ?_); refine box_event ?hg (N := 3) ?hd (cs := #[.int .i64 0, .int .i64 0, .int .i64 0, .int .i64 0]) (t := 50) ?hr ?_; (case hd => rfl); (case hg => rfl); (case hr => first | (go_simp; done) | (go_simp; rfl)); intro gb154 hg w4 hbox hb; have n0_ := Aside0.mk (blk_below (g := gb152) (o := .cells #[.int .i64 a0_0, .int .i64 a0_1, .int .i64 a0_2, .int .i64 a0_3] 102 (0, 0)) (by (with_reducible repeat (first | refine blk_drewN ?_ _ | refine blk_drew ?_ | refine blk_alloc ?_ _)); exact BK152.out) hb); have n1_ := Aside0.mk (blk_below (g := gb153) (o := .cells #[.int .i64 0, .int .i64 0, .int .i64 0, .int .i64 0] 50 (0, 0)) (by (with_reducible repeat (first | refine blk_drewN ?_ _ | refine blk_drew ?_ | refine blk_alloc ?_ _)); exact BK153.out) hb); have n2_ := Aside0.mk (below_step (by repeat (first | (with_reducible first | exact HB.out | apply below_alloc | apply pw_below_drewN | apply below_drew1 | refine below_set ?_ GE152.out | refine below_set ?_ GE153.out) | exact HB.out)) hb); have n3_ := Aside0.mk (hbox); have n4_ := Aside0.mk ((by rw [hg]; exact (below_size (by repeat (first | (with_reducible first | exact HB.out | apply below_alloc | apply pw_below_drewN | apply below_drew1 | refine below_set ?_ GE152.out | refine below_set ?_ GE153.out) | exact HB.out))) : w.heap.size ≤ gb154)); have n5_ := Aside0.mk ((by rw [hg]; exact (below_size (by repeat (first | (with_reducible first | exact HB.out | apply below_alloc | apply pw_below_drewN | apply below_drew1 | refine below_set ?_ GE152.out | refine below_set ?_ GE153.out) | exact HB.out))) : w.heap.size ≤ gb154)); have n6_ := Aside0.mk ((by rw [hg]; exact Nat.ne_of_lt (blk_lt (g := gb152) (o := .cells #[.int .i64 a0_0, .int .i64 a0_1, .int .i64 a0_2, .int .i64 a0_3] 102 (0, 0)) (by (with_reducible repeat (first | refine blk_drewN ?_ _ | refine blk_drew ?_ | refine blk_alloc ?_ _)); exact BK152.out)) : gb152 ≠ gb154)); have n7_ := Aside0.mk ((by rw [hg]; exact Nat.ne_of_gt (blk_lt (g := gb152) (o := .cells #[.int .i64 a0_0, .int .i64 a0_1, .int .i64 a0_2, .int .i64 a0_3] 102 (0, 0)) (by (with_reducible repeat (first | refine blk_drewN ?_ _ | refine blk_drew ?_ | refine blk_alloc ?_ _)); exact BK152.out)) : gb154 ≠ gb152)); have n8_ := Aside0.mk ((by rw [hg]; exact Nat.ne_of_lt (blk_lt (g := gb153) (o := .cells #[.int .i64 0, .int .i64 0, .int .i64 0, .int .i64 0] 50 (0, 0)) (by (with_reducible repeat (first | refine blk_drewN ?_ _ | refine blk_drew ?_ | refine blk_alloc ?_ _)); exact BK153.out)) : gb153 ≠ gb154)); have n9_ := Aside0.mk ((by rw [hg]; exact Nat.ne_of_gt (blk_lt (g := gb153) (o := .cells #[.int .i64 0, .int .i64 0, .int .i64 0, .int .i64 0] 50 (0, 0)) (by (with_reducible repeat (first | refine blk_drewN ?_ _ | refine blk_drew ?_ | refine blk_alloc ?_ _)); exact BK153.out)) : gb154 ≠ gb153)); clear BK152; clear BK153; clear HB; have BK152 := n0_; have BK153 := n1_; have HB := n2_; have BK154 := n3_; have GW154 := n4_; have GE154 := n5_; have NB152_154 := n6_; have NB154_152 := n7_; have NB153_154 := n8_; have NB154_153 := n9_; clear n0_ n1_ n2_ n3_ n4_ n5_ n6_ n7_ n8_ n9_; clear hb hbox hg; have hnb5 := NB152_153.out; have hnc5 := NB153_152.out; have hnb6 := NB152_154.out; have hnc6 := NB154_152.out; have hcz7_0 : w4.cell? ⟨gb152, 0, none⟩ = some (.int .i64 a0_0) := (blk_cell BK152.out 0).trans rfl; have hcz7_1 : w4.cell? ⟨gb152, 1, none⟩ = some (.int .i64 a0_1) := (blk_cell BK152.out 1).trans rfl; have hcz7_2 : w4.cell? ⟨gb152, 2, none⟩ = some (.int .i64 a0_2) := (blk_cell BK152.out 2).trans rfl; have hcz7_3 : w4.cell? ⟨gb152, 3, none⟩ = some (.int .i64 a0_3) := (blk_cell BK152.out 3).trans rfl; have hfz7_0 := blk_frozen BK152.out 0; have hfz7_1 := blk_frozen BK152.out 1; have hfz7_2 := blk_frozen BK152.out 2; have hfz7_3 := blk_frozen BK152.out 3; have hnb8 := NB154_153.out; have hnc8 := NB153_154.out; have hcz9_0 : w4.cell? ⟨gb154, 0, none⟩ = some (.int .i64 0) := (blk_cell BK154.out 0).trans rfl; have hcz9_1 : w4.cell? ⟨gb154, 1, none⟩ = some (.int .i64 0) := (blk_cell BK154.out 1).trans rfl; have hcz9_2 : w4.cell? ⟨gb154, 2, none⟩ = some (.int .i64 0) := (blk_cell BK154.out 2).trans rfl; have hcz9_3 : w4.cell? ⟨gb154, 3, none⟩ = some (.int .i64 0) := (blk_cell BK154.out 3).trans rfl; have hfz9_0 := blk_frozen BK154.out 0; have hfz9_1 := blk_frozen BK154.out 1; have hfz9_2 := blk_frozen BK154.out 2; have hfz9_3 := blk_frozen BK154.out 3; have hcz10_0 : w4.cell? ⟨gb153, 0, none⟩ = some (.int .i64 0) := (blk_cell BK153.out 0).trans rfl; have hcz10_1 : w4.cell? ⟨gb153, 1, none⟩ = some (.int .i64 0) := (blk_cell BK153.out 1).trans rfl; have hcz10_2 : w4.cell? ⟨gb153, 2, none⟩ = some (.int .i64 0) := (blk_cell BK153.out 2).trans rfl; have hcz10_3 : w4.cell? ⟨gb153, 3, none⟩ = some (.int .i64 0) := (blk_cell BK153.out 3).trans rfl; have hfz10_0 := blk_frozen BK153.out 0; have hfz10_1 := blk_frozen BK153.out 1; have hfz10_2 := blk_frozen BK153.out 2; have hfz10_3 := blk_frozen BK153.out 3))
 refine bodyPost_ret (results_cell_row rfl _ _ gb153 50 #[.int .i64 a0_0, .int .i64 a0_1, .int .i64 a0_2, .int .i64 a0_3] (0, 0) _ rfl (by (with_reducible repeat (first | refine blk_drewN ?_ _ | refine blk_drew ?_ | refine blk_alloc ?_ _)); refine blk_put (cs := #[.int .i64 a0_0, .int .i64 a0_1, .int .i64 a0_2, .int .i64 0]) ?_ 3 _ rfl; (with_reducible repeat (first | refine blk_drewN ?_ _ | refine blk_drew ?_ | refine blk_alloc ?_ _)); refine blk_put (cs := #[.int .i64 a0_0, .int .i64 a0_1, .int .i64 0, .int .i64 0]) ?_ 2 _ rfl; (with_reducible repeat (first | refine blk_drewN ?_ _ | refine blk_drew ?_ | refine blk_alloc ?_ _)); refine blk_put (cs := #[.int .i64 a0_0, .int .i64 0, .int .i64 0, .int .i64 0]) ?_ 1 _ rfl; (with_reducible repeat (first | refine blk_drewN ?_ _ | refine blk_drew ?_ | refine blk_alloc ?_ _)); refine blk_put (cs := #[.int .i64 0, .int .i64 0, .int .i64 0, .int .i64 0]) ?_ 0 _ rfl; (with_reducible repeat (first | refine blk_drewN ?_ _ | refine blk_drew ?_ | refine blk_alloc ?_ _)); refine blk_far ?_ NB153_154.out _; (with_reducible repeat (first | refine blk_drewN ?_ _ | refine blk_drew ?_ | refine blk_alloc ?_ _)); refine blk_far ?_ NB153_154.out _; (with_reducible repeat (first | refine blk_drewN ?_ _ | refine blk_drew ?_ | refine blk_alloc ?_ _)); refine blk_far ?_ NB153_154.out _; (with_reducible repeat (first | refine blk_drewN ?_ _ | refine blk_drew ?_ | refine blk_alloc ?_ _)); refine blk_far ?_ NB153_154.out _; (with_reducible repeat (first | refine blk_drewN ?_ _ | refine blk_drew ?_ | refine blk_alloc ?_ _)); exact BK153.out) Try.underlying50 rfl (by kernel_rfl)) rfl ?_
 exact ⟨by first | rfl | (simp [errW_none, errW_some] <;> rfl) | (simp [*, errW_none, errW_some] <;> rfl), by repeat (first | (with_reducible first | exact HB.out | apply below_alloc | apply pw_below_drewN | apply below_drew1 | refine below_set ?_ GE152.out | refine below_set ?_ GE153.out | refine below_set ?_ GE154.out) | exact HB.out)⟩

/-! ### laws_toClueS: function 50 -/
def laws_toClueS.l0 : Nat → List (S102) → List (S50) → Int → Option ((List (S50)))
 | 0, _, _, _ => none
 | k + 1, x0, x3, x4 => if x4 < (x0.length : Int) then (if 0 ≤ x4 then ((laws_toClue.f ((rd_T102 x0 x4).f0) ((rd_T102 x0 x4).f1) ((rd_T102 x0 x4).f2) ((rd_T102 x0 x4).f3)).bind fun bt159 => (if x4 < (x3.length : Int) then (laws_toClueS.l0 k x0 (x3.set (x4 : Int).toNat (⟨bt159.1, bt159.2.1, bt159.2.2.1, bt159.2.2.2⟩ : S50)) (wrap64 (x4 + 1))) else (none))) else (none)) else (some x3)
def laws_toClueS.f (k : Nat) (l0 : List (S102)) : Option ((List (S50))) := if 0 ≤ (l0.length : Int) then (if ((l0.length : Int) : Int).toNat ≤ 8796093022208 then (laws_toClueS.l0 k l0 (List.replicate ((l0.length : Int) : Int).toNat z50) 0) else (none)) else (none)
theorem laws_toClueS.mono_l : ∀ k, (∀ y0 y1 y2, LeO (laws_toClueS.l0 k y0 y1 y2) (laws_toClueS.l0 (k + 1) y0 y1 y2))
 | 0 => fun _ _ _ r h => by simp [laws_toClueS.l0] at h
 | k + 1 => by
  have ih0 := laws_toClueS.mono_l k
  ·intro y0 y1 y2
   unfold laws_toClueS.l0
   repeat' first
   | (with_reducible exact ih0 _ _ _)
   | (with_reducible exact LeO.refl _)
   | (with_reducible exact LeO.none _)
   | (with_reducible refine LeO.ite ?_ ?_)
   | (with_reducible refine LeO.bind ?_ (fun _ => ?_))
   | exact ih0 _ _ _
   | exact LeO.none _
   | refine LeO.ite ?_ ?_
   | refine LeO.bind ?_ (fun _ => ?_)
theorem laws_toClueS.mono : ∀ a0 k, LeO (laws_toClueS.f k a0) (laws_toClueS.f (k + 1) a0) := by
 intro a0 k
 have ih0 := laws_toClueS.mono_l k
 unfold laws_toClueS.f
 repeat' first
   | (with_reducible exact ih0 _ _ _)
   | (with_reducible exact LeO.refl _)
   | (with_reducible exact LeO.none _)
   | (with_reducible refine LeO.ite ?_ ?_)
   | (with_reducible refine LeO.bind ?_ (fun _ => ?_))
   | exact ih0 _ _ _
   | exact LeO.none _
   | refine LeO.ite ?_ ?_
   | refine LeO.bind ?_ (fun _ => ?_)
set_option maxHeartbeats 8000000 in
set_option maxRecDepth 100000 in
theorem laws_toClueS.calls (k : Nat) (A0 : Option Addr) (c0 : Nat) (l0 : List (S102)) (r : List (S50)) (w : World) (hr0 : Kd.C k102 w A0 l0.length l0) (hc0 : l0.length ≤ c0) (h : laws_toClueS.f k l0 = some r) :
  Calls Try.prog 50 #[.slice A0 l0.length c0] w fun e w' => ∃ v0_ : Value, e = .returned (v0_) ∧ Kd.R k50 50 w' w.heap.size (fun _ => True) v0_ r ∧ Below w.heap.size w w' := by
 have hu102 := Try.underlying102
 have hu50 := Try.underlying50
 have HR0 := Aside0.mk hr0
 have HC0 := Aside0.mk hc0
 clear hr0 hc0
 have HB := Aside0.mk (Below.refl w.heap.size w)
 have H : (if 0 ≤ (l0.length : Int) then (if ((l0.length : Int) : Int).toNat ≤ 8796093022208 then (laws_toClueS.l0 k l0 (List.replicate ((l0.length : Int) : Int).toNat z50) 0) else (none)) else (none)) = some r := h
 clear h
 by_cases c2 : 0 ≤ (l0.length : Int)
 ·rw [if_pos c2] at H
  have c2b0 := eq_true c2
  have c2b1 : decide (0 ≤ (l0.length : Int)) = true := decide_eq_true c2
  clear c2
  by_cases c3 : ((l0.length : Int) : Int).toNat ≤ 8796093022208
  ·rw [if_pos c3] at H
   have c3b0 := eq_true c3
   have c3b1 : decide (((l0.length : Int) : Int).toNat ≤ 8796093022208) = true := decide_eq_true c3
   clear c3
   obtain ⟨y155, hy155⟩ : ∃ y_ : List (S50), y_ = (List.replicate ((l0.length : Int) : Int).toNat z50) := ⟨_, rfl⟩
   replace H : (laws_toClueS.l0 k l0 y155 0) = some r := by first | (rw [hy155]; with_reducible exact H) | (have H2_ := (Option.bind_some _ _).symm.trans H; rw [hy155]; with_reducible exact H2_) | (have H2_ := (Option.bind_some _ _).symm.trans H; with_reducible exact H2_) | with_reducible exact H | (rw [hy155]; exact H) | exact H
   have Ny155 := Aside0.mk hy155
   clear hy155
   have H' := Aside0.mk H
   clear H
   go_enter Try.func50, Try.ntmps50
   go_wp2_with (first | ((with_reducible refine gate_dst (N := 7) rfl ?_); refine Kd.R_make k50 _ 50 rfl (N := 7) rfl 29 _ _ rfl (l0.length : Int) rfl rfl Try.underlying29 (.agg #[(.int .i64 0), (.int .i64 0), (.int .i64 0), (.int .i64 0)]) 32 info50 rfl (by decide) (by omega) z50 (ok := fun _ => True) (okp := fun _ => True) (k50_mkM _ _ _ z50 ) (fun _ hk => hk) trivial (of_decide_eq_true (by first | (with_reducible assumption) | assumption)) (Nat.le_trans (Nat.mul_le_mul_right _ (of_decide_eq_true (by first | (with_reducible assumption) | assumption) : (l0.length : Int).toNat ≤ 8796093022208)) (by omega)) (Below.refl _ _) (Nat.le_refl _) ?_; intro v156 w4 ho5 hb hg_ hnew_; clear hg_ hnew_; (first | rw [← Ny155.out] at ho5 | (simp only [Int.reduceToNat] at ho5; rw [← Ny155.out] at ho5)); have n0_ := Aside0.mk (Kd.R_lower ho5 (below_size (by repeat (first | (with_reducible first | exact HB.out | apply below_alloc | apply pw_below_drewN | apply below_drew1) | exact HB.out)))); have n1_ := Aside0.mk (below_step (by repeat (first | (with_reducible first | exact HB.out | apply below_alloc | apply pw_below_drewN | apply below_drew1) | exact HB.out)) hb); clear HB; have HO157 := n0_; have HB := n1_; clear n0_ n1_; clear hb ho5))
   go_loopg [4] k (fun kq v4 w' => ∃ (x3_1 : List (S50)) (x4_1 : Int), v4 = .int .i64 x4_1 ∧ Aside0 (laws_toClueS.l0 kq l0 x3_1 x4_1 = some r) ∧ Aside0 (kq ≤ k) ∧ Aside0 (Kd.R k50 50 w' w.heap.size (fun _ => True) v156 x3_1) ∧ Aside0 (Below w.heap.size w w'))
   case atStart => exact ⟨(y155), (0), (by first | rfl | (simp; done) | (simp [*]; done)), H', ⟨Nat.le_refl _⟩, ⟨by (with_reducible repeat (first | apply Kd.R_alloc | apply Kd.R_drewN | apply Kd.R_drew)); exact HO157.out⟩, ⟨by repeat (first | (with_reducible first | exact HB.out | apply below_alloc | apply pw_below_drewN | apply below_drew1) | exact HB.out)⟩⟩
   case round =>
    clear H'
    try clear c2
    try clear c2b0
    try clear c2b1
    try clear c3
    try clear c3b0
    try clear c3b1
    obtain ⟨x3_1, x4_1, rfl, HA, HK1, HO_3, HB⟩ := hrel
    cases gk with
    | zero => exact absurd HA.out (by simp [laws_toClueS.l0])
    | succ k1 =>
     have H := HA.out
     clear HA
     simp only [laws_toClueS.l0] at H
     by_cases c6 : x4_1 < (l0.length : Int)
     ·rw [if_pos c6] at H
      have c6b0 : decide (x4_1 < (l0.length : Int)) = true := decide_eq_true c6
      clear c6
      by_cases c7 : 0 ≤ x4_1
      ·rw [if_pos c7] at H
       have c7b0 : decide (0 ≤ x4_1) = true := decide_eq_true c7
       clear c7
       replace H := Option.bind_eq_some_iff.mp H
       obtain ⟨⟨t159, t160, t161, t162⟩, A80, H⟩ := H
       replace H : (if x4_1 < (x3_1.length : Int) then (laws_toClueS.l0 k1 l0 (x3_1.set (x4_1 : Int).toNat (⟨t159, t160, t161, t162⟩ : S50)) (wrap64 (x4_1 + 1))) else (none)) = some r := H
       have A8 := Aside0.mk A80
       clear A80
       by_cases c9 : x4_1 < (x3_1.length : Int)
       ·rw [if_pos c9] at H
        have c9b0 : decide (x4_1 < (x3_1.length : Int)) = true := decide_eq_true c9
        clear c9
        obtain ⟨y163, hy163⟩ : ∃ y_ : List (S50), y_ = (x3_1.set (x4_1 : Int).toNat (⟨t159, t160, t161, t162⟩ : S50)) := ⟨_, rfl⟩
        replace H : (laws_toClueS.l0 k1 l0 y163 (wrap64 (x4_1 + 1))) = some r := by first | (rw [hy163]; with_reducible exact H) | (have H2_ := (Option.bind_some _ _).symm.trans H; rw [hy163]; with_reducible exact H2_) | (have H2_ := (Option.bind_some _ _).symm.trans H; with_reducible exact H2_) | with_reducible exact H | (rw [hy163]; exact H) | exact H
        have Ny163 := Aside0.mk hy163
        clear hy163
        have H' := Aside0.mk H
        clear H
        have p158 : 0 ≤ (x4_1 : Int) := of_decide_eq_true (by first | (with_reducible assumption) | assumption)
        have q158 : x4_1 < (l0.length : Int) := of_decide_eq_true (by first | (with_reducible assumption) | assumption)
        obtain ⟨ad158, e158, hx158_0, hx158_1, hx158_2, hx158_3⟩ := at_T102 HR0.out x4_1 p158 q158
        cases e158
        replace hx158_0 := (HB.out.cell (World.block_lt_of_cell? w _ hx158_0)).trans hx158_0
        replace hx158_1 := (HB.out.cell (World.block_lt_of_cell? w _ hx158_1)).trans hx158_1
        replace hx158_2 := (HB.out.cell (World.block_lt_of_cell? w _ hx158_2)).trans hx158_2
        replace hx158_3 := (HB.out.cell (World.block_lt_of_cell? w _ hx158_3)).trans hx158_3
        replace p158 := eq_true p158
        replace q158 := eq_true q158
        go_wp2_with (first | ((with_reducible refine gate_callee (f := 87) rfl ?_); refine goesL_ (some 20) rfl rfl Try.func87 (by kernel_rfl) rfl #[.agg #[.int .i64 ((rd_T102 l0 x4_1).f0), .int .i64 ((rd_T102 l0 x4_1).f1), .int .i64 ((rd_T102 l0 x4_1).f2), .int .i64 ((rd_T102 l0 x4_1).f3)]] rfl (by (try simp only [List.map_toArray, List.map_cons, List.map_nil]); first | done | rfl | (simp only [List.length_drop, List.length_take]; rfl)) ?_; (with_reducible refine (laws_toClue.calls ((rd_T102 l0 x4_1).f0) ((rd_T102 l0 x4_1).f1) ((rd_T102 l0 x4_1).f2) ((rd_T102 l0 x4_1).f3) t159 t160 t161 t162 _ A8.out).mono ?_); rintro e w11 ⟨rfl, hb⟩; refine ⟨_, rfl, ?_⟩; have n0_ := Aside0.mk (Kd.R_below (by (with_reducible repeat (first | apply Kd.R_alloc | apply Kd.R_drewN | apply Kd.R_drew)); exact HO_3.out) hb); have n1_ := Aside0.mk (below_step (by repeat (first | (with_reducible first | exact HB.out | apply below_alloc | apply pw_below_drewN | apply below_drew1) | exact HB.out)) hb); clear HO_3; clear HB; have HO_3 := n0_; have HB := n1_; clear n0_ n1_; (try clear hb); (try clear hb2); (try clear hk); (try clear hi); have p10 : 0 ≤ (x4_1 : Int) := of_decide_eq_true (by first | (with_reducible assumption) | assumption); have q10 : (x4_1 : Int) < ((x3_1.length : Int) : Int) := of_decide_eq_true (by first | (with_reducible assumption) | assumption); obtain ⟨go10, co10, eo10, gb10, gl10, cl10, HG10⟩ := Kd.R_form HO_3.out (by omega); (first | cases eo10 | (injection eo10 with ea_ en_ ec_; (first | subst ea_ | (injection ea_ with ea_; subst ea_)); subst ec_; clear en_)); have GB10 := Aside0.mk gb10; have GG10 := Aside0.mk HG10; clear gb10 gl10 HG10; obtain ⟨ce10, hcl10, hM10, hcc10, hfr10⟩ := Kd.R_elem HO_3.out z50 (x4_1 : Int) p10 q10; obtain rfl := k50_openM hM10; have hx10_0 : w11.cell? ⟨go10, (x4_1 : Int).toNat * 4, none⟩ = some (.int .i64 ((rd_T50 x3_1 x4_1).f0)) := hcc10 0 _ rfl; have hx10_1 : w11.cell? ⟨go10, (x4_1 : Int).toNat * 4 + 1, none⟩ = some (.int .i64 ((rd_T50 x3_1 x4_1).f1)) := hcc10 1 _ rfl; have hx10_2 : w11.cell? ⟨go10, (x4_1 : Int).toNat * 4 + 2, none⟩ = some (.int .i64 ((rd_T50 x3_1 x4_1).f2)) := hcc10 2 _ rfl; have hx10_3 : w11.cell? ⟨go10, (x4_1 : Int).toNat * 4 + 3, none⟩ = some (.int .i64 ((rd_T50 x3_1 x4_1).f3)) := hcc10 3 _ rfl; have hf10_0 : w11.frozen? ⟨go10, (x4_1 : Int).toNat * 4, none⟩ = false := hfr10 0; have hf10_1 : w11.frozen? ⟨go10, (x4_1 : Int).toNat * 4 + 1, none⟩ = false := hfr10 1; have hf10_2 : w11.frozen? ⟨go10, (x4_1 : Int).toNat * 4 + 2, none⟩ = false := hfr10 2; have hf10_3 : w11.frozen? ⟨go10, (x4_1 : Int).toNat * 4 + 3, none⟩ = false := hfr10 3; clear hcl10 hcc10 hfr10 hM10; replace p10 := eq_true p10; replace q10 := eq_true q10; have HX12 := Aside0.mk (show Kd.R k50 50 w11 w.heap.size (fun _ => True) (.slice (some ⟨go10, 0, none⟩) x3_1.length co10) x3_1 from (by (with_reducible repeat (first | apply Kd.R_alloc | apply Kd.R_drewN | apply Kd.R_drew)); exact HO_3.out)); obtain ⟨ce12, hcl12, hM12, hcc12, hfr12⟩ := Kd.R_elem HX12.out z50 (x4_1 : Int) (of_decide_eq_true (by first | (with_reducible assumption) | assumption)) (by have h_ : (x4_1 : Int) < ((x3_1.length : Int) : Int) := of_decide_eq_true (by first | (with_reducible assumption) | assumption); first | exact h_ | (have e_ := (Kd.R_reads' HO_3.out).1; omega) | simpa using h_); obtain rfl := k50_openM hM12; have HP12 := Kd.R_seg HX12.out (x4_1 : Int) (of_decide_eq_true (by first | (with_reducible assumption) | assumption)) (by have h_ : (x4_1 : Int) < ((x3_1.length : Int) : Int) := of_decide_eq_true (by first | (with_reducible assumption) | assumption); first | exact h_ | (have e_ := (Kd.R_reads' HO_3.out).1; omega) | simpa using h_) (seg := [.int .i64 t159, .int .i64 t160, .int .i64 t161, .int .i64 t162]) (j := 0) hcl12 hcc12 (show 4 ≤ 4 from by decide) (x' := (⟨t159, t160, t161, t162⟩ : S50)) (k50_mkM _ _ _ (⟨t159, t160, t161, t162⟩ : S50) ) (fun _ hk => hk); have hx12_0 := hcc12 0 _ rfl; (try simp only [show (k50).sz = 4 from rfl, Nat.mul_one, Nat.add_zero] at hx12_0); have hf12_0 := hfr12 0; (try simp only [show (k50).sz = 4 from rfl, Nat.mul_one, Nat.add_zero] at hf12_0); have hx12_1 := hcc12 1 _ rfl; (try simp only [show (k50).sz = 4 from rfl, Nat.mul_one, Nat.add_zero] at hx12_1); have hf12_1 := hfr12 1; (try simp only [show (k50).sz = 4 from rfl, Nat.mul_one, Nat.add_zero] at hf12_1); have hx12_2 := hcc12 2 _ rfl; (try simp only [show (k50).sz = 4 from rfl, Nat.mul_one, Nat.add_zero] at hx12_2); have hf12_2 := hfr12 2; (try simp only [show (k50).sz = 4 from rfl, Nat.mul_one, Nat.add_zero] at hf12_2); have hx12_3 := hcc12 3 _ rfl; (try simp only [show (k50).sz = 4 from rfl, Nat.mul_one, Nat.add_zero] at hx12_3); have hf12_3 := hfr12 3; (try simp only [show (k50).sz = 4 from rfl, Nat.mul_one, Nat.add_zero] at hf12_3); clear hcl12 hcc12 hfr12 hM12) | ((with_reducible refine gate_store (t := 50) (p := 21) rfl ?_); refine store_event (t := 50) (p := 21) (v := ?vo_w13) (w1 := ((((w11.setCell ⟨go10, (x4_1 : Int).toNat * 4, none⟩ (.int .i64 t159)).setCell ⟨go10, (x4_1 : Int).toNat * 4 + 1, none⟩ (.int .i64 t160)).setCell ⟨go10, (x4_1 : Int).toNat * 4 + 2, none⟩ (.int .i64 t161)).setCell ⟨go10, (x4_1 : Int).toNat * 4 + 3, none⟩ (.int .i64 t162))) ?hg ?ho ?hn ?hr ?_; (case ho => rfl); (case hg => rfl); (case hn => rfl); (case hr => first | (go_simp; done) | (go_simp; rfl)); intro w13 hw; have hg : w11.grownBy w13 (some go10) := (by rw [hw]; exact HP12.2); have hp_ : Kd.R k50 50 w13 w.heap.size (fun _ => True) (.slice (some ⟨go10, 0, none⟩) x3_1.length co10) y163 := (by rw [hw, Ny163.out]; exact HP12.1); clear HP12; have n0_ := Aside0.mk (hp_); have n1_ := Aside0.mk ((by rw [hw]; exact below_set (below_set (below_set (below_set (HB.out) GB10.out) GB10.out) GB10.out) GB10.out : Below w.heap.size w w13)); clear HO_3; clear HB; have HO_3 := n0_; have HB := n1_; clear n0_ n1_; clear hg hw hp_))
        go_roundg k1
        case measure => have := HK1.out; omega
        case rel => exact ⟨(y163), (wrap64 (x4_1 + 1)), (by first | rfl | (simp; done) | (simp [*]; done)), H', ⟨by have := HK1.out; omega⟩, ⟨by (with_reducible repeat (first | apply Kd.R_alloc | apply Kd.R_drewN | apply Kd.R_drew)); exact HO_3.out⟩, ⟨by repeat (first | (with_reducible first | exact HB.out | apply below_alloc | apply pw_below_drewN | apply below_drew1) | exact HB.out)⟩⟩
       ·rw [if_neg c9] at H
        exact absurd H (by simp)
      ·rw [if_neg c7] at H
       exact absurd H (by simp)
     ·rw [if_neg c6] at H
      have c6b0 : decide (x4_1 < (l0.length : Int)) = false := decide_eq_false c6
      clear c6
      obtain rfl := Option.some.inj H
      go_wp2
      go_ret
      exact ⟨_, by first | rfl | (simp [errW_none, errW_some] <;> rfl) | (simp [*, errW_none, errW_some] <;> rfl), by (with_reducible repeat (first | apply Kd.R_alloc | apply Kd.R_drewN | apply Kd.R_drew)); exact HO_3.out, by repeat (first | (with_reducible first | exact HB.out | apply below_alloc | apply pw_below_drewN | apply below_drew1) | exact HB.out)⟩
  ·rw [if_neg c3] at H
   exact absurd H (by simp)
 ·rw [if_neg c2] at H
  exact absurd H (by simp)

/-! ### laws_toPuzzle: function 9 -/
def laws_toPuzzle.f (k : Nat) (a0_0 : Int) (l0_1 : List (S102)) : Option (Int × (List (S50))) := (laws_toClueS.f k l0_1).bind fun t167 => (some (a0_0, t167))
theorem laws_toPuzzle.mono : ∀ a0 a1 k, LeO (laws_toPuzzle.f k a0 a1) (laws_toPuzzle.f (k + 1) a0 a1) := by
 intro a0 a1 k
 unfold laws_toPuzzle.f
 repeat' first
   | (with_reducible exact laws_toClueS.mono _ _)
   | (with_reducible exact LeO.refl _)
   | (with_reducible exact LeO.none _)
   | (with_reducible refine LeO.ite ?_ ?_)
   | (with_reducible refine LeO.bind ?_ (fun _ => ?_))
   | exact laws_toClueS.mono _ _
   | exact LeO.none _
   | refine LeO.ite ?_ ?_
   | refine LeO.bind ?_ (fun _ => ?_)
set_option maxHeartbeats 8000000 in
set_option maxRecDepth 100000 in
theorem laws_toPuzzle.calls (k : Nat) (a0_0 : Int) (A0_1 : Option Addr) (c0_1 : Nat) (l0_1 : List (S102)) (r1 : Int) (r2 : List (S50)) (w : World) (hr0_1 : Kd.C k102 w A0_1 l0_1.length l0_1) (hc0_1 : l0_1.length ≤ c0_1) (h : laws_toPuzzle.f k a0_0 l0_1 = some (r1, r2)) :
  Calls Try.prog 9 #[.agg #[.int .i64 a0_0, .slice A0_1 l0_1.length c0_1]] w fun e w' => ∃ v1_ : Value, e = .returned (.agg #[.int .i64 r1, v1_]) ∧ Kd.R k50 50 w' w.heap.size (fun _ => True) v1_ r2 ∧ Below w.heap.size w w' := by
 have hu24 := Try.underlying24
 have hu31 := Try.underlying31
 have HR0_1 := Aside0.mk hr0_1
 have HC0_1 := Aside0.mk hc0_1
 clear hr0_1 hc0_1
 have HB := Aside0.mk (Below.refl w.heap.size w)
 have H : ((laws_toClueS.f k l0_1).bind fun t167 => (some (a0_0, t167))) = some (r1, r2) := h
 clear h
 replace H := Option.bind_eq_some_iff.mp H
 obtain ⟨t167, A20, H⟩ := H
 replace H : (some (a0_0, t167)) = some (r1, r2) := H
 have A2 := Aside0.mk A20
 clear A20
 simp only [Option.some.injEq, Prod.mk.injEq] at H
 obtain ⟨rfl, rfl⟩ := H
 go_enter Try.func9, Try.ntmps9
 go_wp2_with (first | ((with_reducible refine gate_dst (N := 1) rfl ?_); refine box_event ?hg (N := 1) ?hd (cs := #[.int .i64 a0_0, .slice A0_1 l0_1.length c0_1]) (t := 24) ?hr ?_; (case hd => rfl); (case hg => rfl); (case hr => first | (go_simp; done) | (go_simp; rfl)); intro gb164 hg w3 hbox hb; have n0_ := Aside0.mk (below_step (by repeat (first | (with_reducible first | exact HB.out | apply below_alloc | apply pw_below_drewN | apply below_drew1) | exact HB.out)) hb); have n1_ := Aside0.mk (hbox); have n2_ := Aside0.mk ((by rw [hg]; exact (below_size (by repeat (first | (with_reducible first | exact HB.out | apply below_alloc | apply pw_below_drewN | apply below_drew1) | exact HB.out))) : w.heap.size ≤ gb164)); have n3_ := Aside0.mk ((by rw [hg]; exact (below_size (by repeat (first | (with_reducible first | exact HB.out | apply below_alloc | apply pw_below_drewN | apply below_drew1) | exact HB.out))) : w.heap.size ≤ gb164)); clear HB; have HB := n0_; have BK164 := n1_; have GW164 := n2_; have GE164 := n3_; clear n0_ n1_ n2_ n3_; clear hb hbox hg) | ((with_reducible refine gate_dst (N := 2) rfl ?_); refine box_event ?hg (N := 2) ?hd (cs := #[.int .i64 0, .slice none 0 0]) (t := 31) ?hr ?_; (case hd => rfl); (case hg => rfl); (case hr => first | (go_simp; done) | (go_simp; rfl)); intro gb165 hg w4 hbox hb; have n0_ := Aside0.mk (blk_below (g := gb164) (o := .cells #[.int .i64 a0_0, .slice A0_1 l0_1.length c0_1] 24 (0, 0)) (by (with_reducible repeat (first | refine blk_drewN ?_ _ | refine blk_drew ?_ | refine blk_alloc ?_ _)); exact BK164.out) hb); have n1_ := Aside0.mk (below_step (by repeat (first | (with_reducible first | exact HB.out | apply below_alloc | apply pw_below_drewN | apply below_drew1 | refine below_set ?_ GE164.out) | exact HB.out)) hb); have n2_ := Aside0.mk (hbox); have n3_ := Aside0.mk ((by rw [hg]; exact (below_size (by repeat (first | (with_reducible first | exact HB.out | apply below_alloc | apply pw_below_drewN | apply below_drew1 | refine below_set ?_ GE164.out) | exact HB.out))) : w.heap.size ≤ gb165)); have n4_ := Aside0.mk ((by rw [hg]; exact (below_size (by repeat (first | (with_reducible first | exact HB.out | apply below_alloc | apply pw_below_drewN | apply below_drew1 | refine below_set ?_ GE164.out) | exact HB.out))) : w.heap.size ≤ gb165)); have n5_ := Aside0.mk ((by rw [hg]; exact Nat.ne_of_lt (blk_lt (g := gb164) (o := .cells #[.int .i64 a0_0, .slice A0_1 l0_1.length c0_1] 24 (0, 0)) (by (with_reducible repeat (first | refine blk_drewN ?_ _ | refine blk_drew ?_ | refine blk_alloc ?_ _)); exact BK164.out)) : gb164 ≠ gb165)); have n6_ := Aside0.mk ((by rw [hg]; exact Nat.ne_of_gt (blk_lt (g := gb164) (o := .cells #[.int .i64 a0_0, .slice A0_1 l0_1.length c0_1] 24 (0, 0)) (by (with_reducible repeat (first | refine blk_drewN ?_ _ | refine blk_drew ?_ | refine blk_alloc ?_ _)); exact BK164.out)) : gb165 ≠ gb164)); clear BK164; clear HB; have BK164 := n0_; have HB := n1_; have BK165 := n2_; have GW165 := n3_; have GE165 := n4_; have NB164_165 := n5_; have NB165_164 := n6_; clear n0_ n1_ n2_ n3_ n4_ n5_ n6_; clear hb hbox hg) | ((with_reducible refine gate_dst (N := 3) rfl ?_); refine box_event ?hg (N := 3) ?hd (cs := #[.int .i64 0, .slice none 0 0]) (t := 31) ?hr ?_; (case hd => rfl); (case hg => rfl); (case hr => first | (go_simp; done) | (go_simp; rfl)); intro gb166 hg w5 hbox hb; have n0_ := Aside0.mk (blk_below (g := gb164) (o := .cells #[.int .i64 a0_0, .slice A0_1 l0_1.length c0_1] 24 (0, 0)) (by (with_reducible repeat (first | refine blk_drewN ?_ _ | refine blk_drew ?_ | refine blk_alloc ?_ _)); exact BK164.out) hb); have n1_ := Aside0.mk (blk_below (g := gb165) (o := .cells #[.int .i64 0, .slice none 0 0] 31 (0, 0)) (by (with_reducible repeat (first | refine blk_drewN ?_ _ | refine blk_drew ?_ | refine blk_alloc ?_ _)); exact BK165.out) hb); have n2_ := Aside0.mk (below_step (by repeat (first | (with_reducible first | exact HB.out | apply below_alloc | apply pw_below_drewN | apply below_drew1 | refine below_set ?_ GE164.out | refine below_set ?_ GE165.out) | exact HB.out)) hb); have n3_ := Aside0.mk (hbox); have n4_ := Aside0.mk ((by rw [hg]; exact (below_size (by repeat (first | (with_reducible first | exact HB.out | apply below_alloc | apply pw_below_drewN | apply below_drew1 | refine below_set ?_ GE164.out | refine below_set ?_ GE165.out) | exact HB.out))) : w.heap.size ≤ gb166)); have n5_ := Aside0.mk ((by rw [hg]; exact (below_size (by repeat (first | (with_reducible first | exact HB.out | apply below_alloc | apply pw_below_drewN | apply below_drew1 | refine below_set ?_ GE164.out | refine below_set ?_ GE165.out) | exact HB.out))) : w.heap.size ≤ gb166)); have n6_ := Aside0.mk ((by rw [hg]; exact Nat.ne_of_lt (blk_lt (g := gb164) (o := .cells #[.int .i64 a0_0, .slice A0_1 l0_1.length c0_1] 24 (0, 0)) (by (with_reducible repeat (first | refine blk_drewN ?_ _ | refine blk_drew ?_ | refine blk_alloc ?_ _)); exact BK164.out)) : gb164 ≠ gb166)); have n7_ := Aside0.mk ((by rw [hg]; exact Nat.ne_of_gt (blk_lt (g := gb164) (o := .cells #[.int .i64 a0_0, .slice A0_1 l0_1.length c0_1] 24 (0, 0)) (by (with_reducible repeat (first | refine blk_drewN ?_ _ | refine blk_drew ?_ | refine blk_alloc ?_ _)); exact BK164.out)) : gb166 ≠ gb164)); have n8_ := Aside0.mk ((by rw [hg]; exact Nat.ne_of_lt (blk_lt (g := gb165) (o := .cells #[.int .i64 0, .slice none 0 0] 31 (0, 0)) (by (with_reducible repeat (first | refine blk_drewN ?_ _ | refine blk_drew ?_ | refine blk_alloc ?_ _)); exact BK165.out)) : gb165 ≠ gb166)); have n9_ := Aside0.mk ((by rw [hg]; exact Nat.ne_of_gt (blk_lt (g := gb165) (o := .cells #[.int .i64 0, .slice none 0 0] 31 (0, 0)) (by (with_reducible repeat (first | refine blk_drewN ?_ _ | refine blk_drew ?_ | refine blk_alloc ?_ _)); exact BK165.out)) : gb166 ≠ gb165)); clear BK164; clear BK165; clear HB; have BK164 := n0_; have BK165 := n1_; have HB := n2_; have BK166 := n3_; have GW166 := n4_; have GE166 := n5_; have NB164_166 := n6_; have NB166_164 := n7_; have NB165_166 := n8_; have NB166_165 := n9_; clear n0_ n1_ n2_ n3_ n4_ n5_ n6_ n7_ n8_ n9_; clear hb hbox hg; have hnb6 := NB164_165.out; have hnc6 := NB165_164.out; have hnb7 := NB164_166.out; have hnc7 := NB166_164.out; have hcz8_0 : w5.cell? ⟨gb164, 0, none⟩ = some (.int .i64 a0_0) := (blk_cell BK164.out 0).trans rfl; have hcz8_1 : w5.cell? ⟨gb164, 1, none⟩ = some (.slice A0_1 l0_1.length c0_1) := (blk_cell BK164.out 1).trans rfl; have hfz8_0 := blk_frozen BK164.out 0; have hfz8_1 := blk_frozen BK164.out 1; have hnb9 := NB166_165.out; have hnc9 := NB165_166.out; have hcz10_0 : w5.cell? ⟨gb166, 0, none⟩ = some (.int .i64 0) := (blk_cell BK166.out 0).trans rfl; have hcz10_1 : w5.cell? ⟨gb166, 1, none⟩ = some (.slice none 0 0) := (blk_cell BK166.out 1).trans rfl; have hfz10_0 := blk_frozen BK166.out 0; have hfz10_1 := blk_frozen BK166.out 1) | ((with_reducible refine gate_callee (f := 50) rfl ?_); refine goesL_ (some 9) rfl rfl Try.func50 (by kernel_rfl) rfl #[.slice A0_1 l0_1.length c0_1] rfl (by (try simp only [List.map_toArray, List.map_cons, List.map_nil]); first | done | rfl | (simp only [List.length_drop, List.length_take]; rfl)) ?_; (with_reducible refine (laws_toClueS.calls k _ _ l0_1 t167 _ ?side1 ?side2 A2.out).mono ?_); (case side1 => exact Kd.C_below HR0_1.out (by repeat (first | (with_reducible first | exact HB.out | apply below_alloc | apply pw_below_drewN | apply below_drew1 | refine below_set ?_ GE164.out | refine below_set ?_ GE165.out | refine below_set ?_ GE166.out) | exact HB.out))); (case side2 => exact HC0_1.out); rintro e w11 ⟨v168, rfl, ho0, hb⟩; refine ⟨_, rfl, ?_⟩; have n0_ := Aside0.mk (Kd.R_lower ho0 (below_size (by repeat (first | (with_reducible first | exact HB.out | apply below_alloc | apply pw_below_drewN | apply below_drew1 | refine below_set ?_ GE164.out | refine below_set ?_ GE165.out | refine below_set ?_ GE166.out) | exact HB.out)))); have n1_ := Aside0.mk (blk_below (g := gb164) (o := .cells #[.int .i64 a0_0, .slice A0_1 l0_1.length c0_1] 24 (0, 0)) (by (with_reducible repeat (first | refine blk_drewN ?_ _ | refine blk_drew ?_ | refine blk_alloc ?_ _)); refine blk_far ?_ NB164_166.out _; (with_reducible repeat (first | refine blk_drewN ?_ _ | refine blk_drew ?_ | refine blk_alloc ?_ _)); exact BK164.out) hb); have n2_ := Aside0.mk (blk_below (g := gb165) (o := .cells #[.int .i64 0, .slice none 0 0] 31 (0, 0)) (by (with_reducible repeat (first | refine blk_drewN ?_ _ | refine blk_drew ?_ | refine blk_alloc ?_ _)); refine blk_far ?_ NB165_166.out _; (with_reducible repeat (first | refine blk_drewN ?_ _ | refine blk_drew ?_ | refine blk_alloc ?_ _)); exact BK165.out) hb); have n3_ := Aside0.mk (blk_below (g := gb166) (o := .cells #[.int .i64 a0_0, .slice none 0 0] 31 (0, 0)) (by (with_reducible repeat (first | refine blk_drewN ?_ _ | refine blk_drew ?_ | refine blk_alloc ?_ _)); refine blk_put (cs := #[.int .i64 0, .slice none 0 0]) ?_ 0 _ rfl; (with_reducible repeat (first | refine blk_drewN ?_ _ | refine blk_drew ?_ | refine blk_alloc ?_ _)); exact BK166.out) hb); have n4_ := Aside0.mk (below_step (by repeat (first | (with_reducible first | exact HB.out | apply below_alloc | apply pw_below_drewN | apply below_drew1 | refine below_set ?_ GE164.out | refine below_set ?_ GE165.out | refine below_set ?_ GE166.out) | exact HB.out)) hb); clear BK164; clear BK165; clear BK166; clear HB; have HO169 := n0_; have BK164 := n1_; have BK165 := n2_; have BK166 := n3_; have HB := n4_; clear n0_ n1_ n2_ n3_ n4_; (try clear hb); (try clear hb2); (try clear hk); (try clear hi); (try clear ho0); obtain ⟨Ao12, co12, eo12⟩ := Kd.R_slice HO169.out; subst eo12; have hcz13_0 : w11.cell? ⟨gb166, 0, none⟩ = some (.int .i64 a0_0) := (blk_cell BK166.out 0).trans rfl; have hcz13_1 : w11.cell? ⟨gb166, 1, none⟩ = some (.slice none 0 0) := (blk_cell BK166.out 1).trans rfl; have hfz13_0 := blk_frozen BK166.out 0; have hfz13_1 := blk_frozen BK166.out 1; have hcz14_0 : w11.cell? ⟨gb165, 0, none⟩ = some (.int .i64 0) := (blk_cell BK165.out 0).trans rfl; have hcz14_1 : w11.cell? ⟨gb165, 1, none⟩ = some (.slice none 0 0) := (blk_cell BK165.out 1).trans rfl; have hfz14_0 := blk_frozen BK165.out 0; have hfz14_1 := blk_frozen BK165.out 1))
 refine bodyPost_ret (results_cell_row rfl _ _ gb165 31 #[.int .i64 a0_0, .slice Ao12 t167.length co12] (0, 0) _ rfl (by (with_reducible repeat (first | refine blk_drewN ?_ _ | refine blk_drew ?_ | refine blk_alloc ?_ _)); refine blk_put (cs := #[.int .i64 a0_0, .slice none 0 0]) ?_ 1 _ rfl; (with_reducible repeat (first | refine blk_drewN ?_ _ | refine blk_drew ?_ | refine blk_alloc ?_ _)); refine blk_put (cs := #[.int .i64 0, .slice none 0 0]) ?_ 0 _ rfl; (with_reducible repeat (first | refine blk_drewN ?_ _ | refine blk_drew ?_ | refine blk_alloc ?_ _)); refine blk_far ?_ NB165_166.out _; (with_reducible repeat (first | refine blk_drewN ?_ _ | refine blk_drew ?_ | refine blk_alloc ?_ _)); exact BK165.out) Try.underlying31 rfl (by kernel_rfl)) rfl ?_
 exact ⟨_, by first | rfl | (simp [errW_none, errW_some] <;> rfl) | (simp [*, errW_none, errW_some] <;> rfl), by (with_reducible repeat (first | apply Kd.R_alloc | apply Kd.R_drewN | apply Kd.R_drew)); exact Kd.R_mono (Kd.R_far (p := ⟨gb165, 1, none⟩) (Kd.R_far (p := ⟨gb165, 0, none⟩) (Kd.R_far (p := ⟨gb166, 1, none⟩) (Kd.R_types (Kd.R_types HO169.out BK166.out (by decide)) BK165.out (by decide)) (fun _ hk => hk.1.2) (.slice Ao12 t167.length co12)) (fun _ hk => hk.2) (.int .i64 a0_0)) (fun _ hk => hk.2) (.slice Ao12 t167.length co12)) (fun _ hk => trivial), by repeat (first | (with_reducible first | exact HB.out | apply below_alloc | apply pw_below_drewN | apply below_drew1 | refine below_set ?_ GE164.out | refine below_set ?_ GE165.out | refine below_set ?_ GE166.out) | exact HB.out)⟩

/-! ### impl_within: function 67 -/
def impl_within.f (a0 : Int) (a1 : Int) (a2 : Int) : Option (Bool) := if a0 ≥ a1 then (some (decide (a0 ≤ a2))) else (some false)
set_option maxHeartbeats 8000000 in
set_option maxRecDepth 100000 in
theorem impl_within.calls (a0 : Int) (a1 : Int) (a2 : Int) (r : Bool) (w : World) (h : impl_within.f a0 a1 a2 = some r) :
  Calls Try.prog 67 #[.int .i64 a0, .int .i64 a1, .int .i64 a2] w fun e w' => e = .returned (.bool r) ∧ Drawn0 w w' := by
 have H : (if a0 ≥ a1 then (some (decide (a0 ≤ a2))) else (some false)) = some r := h
 clear h
 by_cases c4 : a0 ≥ a1
 ·rw [if_pos c4] at H
  have c4b0 : decide (a1 ≤ a0) = true := decide_eq_true c4
  clear c4
  obtain rfl := Option.some.inj H
  go_enter Try.func67, Try.ntmps67
  go_wp2
  go_ret
  exact ⟨by first | rfl | (simp; done) | (simp [*]; done), by repeat (first | exact Drawn0.refl _ | apply Drawn0.step)⟩
 ·rw [if_neg c4] at H
  have c4b0 : decide (a1 ≤ a0) = false := decide_eq_false c4
  clear c4
  obtain rfl := Option.some.inj H
  go_enter Try.func67, Try.ntmps67
  go_wp2
  go_ret
  exact ⟨by first | rfl | (simp; done) | (simp [*]; done), by repeat (first | exact Drawn0.refl _ | apply Drawn0.step)⟩

end Go.Proofs.Ytnijlmfamdhjmaa.PU
