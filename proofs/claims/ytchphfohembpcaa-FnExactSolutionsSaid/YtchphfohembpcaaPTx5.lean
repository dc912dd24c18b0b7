/- Functions of the program and of the reference as Lean functions, each with a contract over the translated program. Conditions: the hypotheses of each theorem. Written by a program of this session, which drives the print of the kit and adds texts of its own. -/
import Derived.Test.YtchphfohembpcaaPTx0
import Derived.Test.YtchphfohembpcaaPTx3
import Derived.Test.YtchphfohembpcaaPTx4
namespace Go.Proofs.Ytchphfohembpcaa.PT
open Go.RowKit Go.Proofs.YtchphfohembpcaaW.PrintWords Go.Proofs.YtchphfohembpcaaW.PrintLast Go.Proofs.YtchphfohembpcaaW.PrintMore Go.Proofs.YtchphfohembpcaaB
attribute [local go_sem] max2_int min2_int max_two min_two max_three min_three max_four min_four   -- for this text's walks alone
set_option linter.unusedVariables false
set_option linter.unusedSimpArgs false

/-! ### spec_pzLook: function 91 -/
/-- All clues are asked, up to the first one that isn't fitted. -/
def allO {α : Type} (p : α → Option Bool) : List α → Option Bool
  | [] => some true
  | x :: t => (p x).bind fun b => if b = true then allO p t else some false
/-- One after the other, so many numbers from n on. -/
def lookS (f : List Int → List (List Int) → Option (List (List Int))) (b : List Int) : Nat → Int → List (List Int) → Option (List (List Int))
  | 0, _, out => some out
  | d + 1, n, out => (f (b ++ [n]) out).bind fun o => lookS f b d (n + 1) o
/-- The lists that begin so and have so many numbers more. -/
def lookP (k : Nat) (cs : List S25) : Nat → List Int → List (List Int) → Option (List (List Int))
  | 0, b, out => (allO (fun c => spec_pzFits.f k c.f0 c.f1 c.f2 c.f3 b) cs).bind fun ok => if out.length < 1000000 then some (if ok = true then out ++ [b] else out) else none
  | m + 1, b, out => if b.length < 1000 then lookS (lookP k cs m) b 6 0 out else none
set_option maxHeartbeats 8000000 in
set_option maxRecDepth 100000 in
theorem spec_pzLook.calls (k : Nat) (Ac : Option Addr) (cc : Nat) (cs : List S25) (hcc : cs.length ≤ cc) (gO base : Nat) (w0 : World) (hw0 : base = w0.heap.size) (hrc : Kd.C k25 w0 Ac cs.length cs) (hgO : base ≤ gO) :
    ∀ (m : Nat), m ≤ 100 → ∀ (Bb : Option Addr) (cb : Nat) (b : List Int) (v : Value) (out r : List (List Int)) (okR okb : Nat → Prop) (w : World), Below base w0 w → base ≤ w.heap.size → (∀ q, okb q → okR q ∧ q < w.heap.size) → (∀ q, w.heap.size ≤ q → okR q) → ¬ okR gO → Kd.R (Kd.int .i64) 3 w base okb (.slice Bb b.length cb) b →
      w.heap[gO]? = some (.cells #[v] 59 (0, 0)) → Kd.S (Kd.slice 3 (Kd.int .i64)) 45 w base (fun q => okR q ∧ ¬ okb q) v out → lookP k cs m b out = some r →
      Calls Try.prog 91 #[.int .i64 (m : Int), .slice Ac cs.length cc, .slice Bb b.length cb, .pointer (some ⟨gO, 0, none⟩)] w fun e w' => e = .returned (.tuple #[]) ∧ ∃ v', w'.heap[gO]? = some (.cells #[v'] 59 (0, 0)) ∧ Kd.S (Kd.slice 3 (Kd.int .i64)) 45 w' base okR v' r ∧ Below base w0 w' ∧ w.heap.size ≤ w'.heap.size ∧ (∀ q, q < w.heap.size → q ≠ gO → some q ≠ v.ownBlock → w'.heap[q]? = w.heap[q]?) ∧ (∀ q, v'.ownBlock = some q → q < w.heap.size → v.ownBlock = some q) := by
  intro m
  induction m with
  | zero =>
    intro _ Bb cb b v out r okR okb w hB hbs hbb hfr hgR hb hO hR h
    have HB := Aside0.mk hB
    have HBS := Aside0.mk hbs
    have HRC := Aside0.mk hrc
    have HBB0 := Aside0.mk hbb
    have HFR := Aside0.mk hfr
    have HGR := Aside0.mk hgR
    have HBR := Aside0.mk hb
    have HO := Aside0.mk hO
    have HR := Aside0.mk hR
    simp only [lookP] at h
    obtain ⟨okk, hok, h⟩ := Option.bind_eq_some_iff.mp h
    have HOK := Aside0.mk hok
    have HH := Aside0.mk h
    have c0 : decide ((0 : Int) < ((0 : Nat) : Int)) = false := by decide
    have HQ := Aside0.mk (Below.refl w.heap.size w)
    have HCL := Aside0.mk (Kd.C_below hrc (hw0 ▸ hB))
    clear hB hbs hb hO hR h hok hrc hw0 hbb hfr hgR
    go_enter Try.func91, Try.ntmps91
    go_wp2
    have HBC := Aside0.mk (Kd.R_reads' HBR.out).2.2
    have HCB := Aside0.mk (Kd.R_reads' HBR.out).2.1
    go_loopg [29] cs.length (fun kq v29 w' => ∃ (i : Nat) (x : Int), v29 = .int .i64 x ∧ Aside0 (x = (i : Int)) ∧ Aside0 (i + kq = cs.length) ∧ Aside0 (allO (fun c => spec_pzFits.f k c.f0 c.f1 c.f2 c.f3 b) (cs.drop i) = some okk) ∧ Aside0 (Below w.heap.size w w'))
    case atStart => exact ⟨0, 0, rfl, ⟨rfl⟩, ⟨by omega⟩, HOK, HQ⟩
    case round =>
      clear HOK HQ
      obtain ⟨i, x, rfl, HX, HN, HA, HQ⟩ := hrel
      have hn := HN.out
      have hx := HX.out
      have HA1 := HA.out
      clear HA
      have hl9 : cs.length ≤ 9223372036854775807 := HCL.out.2.1
      cases gk with
      | zero =>
        have c5b : decide (x < (cs.length : Int)) = false := decide_eq_false (by omega)
        rw [List.drop_of_length_le (by omega)] at HA1
        simp only [allO, Option.some.injEq] at HA1
        subst HA1
        clear hn hx
        have hgl := blk_lt HO.out
        have HOw := Aside0.mk ((HQ.out.block gO hgl).trans HO.out)
        have HRw := Aside0.mk (Kd.S_below HR.out HQ.out)
        have HBw := Aside0.mk (Kd.R_below HBR.out HQ.out)
        have HBB := Aside0.mk (HB.out.trans (HQ.out.mono HBS.out))
        have hcO : wr.cell? ⟨gO, 0, none⟩ = some v := (blk_cell HOw.out 0).trans rfl
        have hfO := blk_frozen HOw.out 0
        have HGl := Aside0.mk hgl
        have hlen : out.length < 1000000 := by
          have h2 := HH.out
          split at h2
          · assumption
          · simp at h2
        have HE := Aside0.mk (show out ++ [b] = r by have h2 := HH.out; rw [if_pos hlen] at h2; simpa using h2)
        clear hgl
        go_wp2_with (first
          | ((with_reducible refine gate_builtin (b := .append) (xs := #[.tmp 41, .tmp 43]) rfl ?_); at_builtin; go_loud (refine Kd.S_append (Kd.slice 3 (Kd.int .i64)) (w0 := w0) base rfl (.tmp 41) (.tmp 43) 59 45 (.slice none 0 0) 24 rfl Try.underlying59 info45 rfl (by decide) (by omega) v out b [.slice Bb b.length cb] okR okb rfl rfl ?aP (fun q hk => ⟨(HBB0.out q hk).1, fun e_ => ((Kd.S_R HR.out).1 q e_.symm).2 hk⟩) ?aF ?aO ?aB ?aS ?aL ?_; (case aP => exact ⟨_, rfl, HBw.out⟩); (case aF => exact fun q hq => HFR.out q (Nat.le_trans HQ.out.size hq)); (case aO => exact HRw.out); (case aB => exact HBB.out); (case aS => exact Nat.le_trans HBS.out HQ.out.size); (case aL => omega); intro v1 w1 ho hb hg hat; have hne : some gO ≠ v.ownBlock := (fun e_ => HGR.out ((Kd.S_R HR.out).1 gO e_.symm).1); have HO1 := Aside0.mk ((hg.block gO (blk_lt HOw.out) hne).trans HOw.out); have HF1 := Aside0.mk (fun q (hq : q < w.heap.size) (hv : some q ≠ v.ownBlock) => (hg.block q (Nat.lt_of_lt_of_le hq HQ.out.size) hv).trans (HQ.out.block q hq)); have HR1 := Aside0.mk ho; have HB1 := Aside0.mk hb; have HS1 := Aside0.mk (Nat.le_trans HQ.out.size hg.size); have HV1 := Aside0.mk (fun q (hv : v1.ownBlock = some q) (hq : q < w.heap.size) => show v.ownBlock = some q by rcases hat with hat | ⟨b_, hb_, hle⟩; exact hat ▸ hv; (rw [hb_] at hv; injection hv with hv; have := HQ.out.size; omega)); have hcP : w1.cell? ⟨gO, 0, none⟩ = some v := (blk_cell HO1.out 0).trans rfl; have hfP := blk_frozen HO1.out 0; obtain ⟨Ap, cp, ep⟩ := Kd.S_slice ho; obtain ⟨nL, hnL⟩ : ∃ q, q = (out ++ [b]).length := ⟨_, rfl⟩; rw [← hnL] at ep; subst ep; clear hnL ho hb hg hat hne hcO hfO)))
        refine bodyPost_end (v := .tuple #[]) (results_none rfl _ _ _) rfl ?_
        have HO8 := blk_set HO1.out 0 (.slice Ap nL cp)
        refine ⟨rfl, .slice Ap nL cp, HO8.trans rfl, ?_, Below.setCell HB1.out hgO _, ?_, ?_, HV1.out⟩
        · rw [← HE.out]
          exact Kd.S_far HR1.out (fun q hq => by rintro rfl; exact HGR.out hq) _
        · simpa [World.setCell] using HS1.out
        · intro q hq hn hv
          exact (Below.heap_setCell w1 ⟨gO, 0, none⟩ (.slice Ap nL cp) q hn).trans (HF1.out q hq hv)
      | succ d =>
        have c5b : decide (x < (cs.length : Int)) = true := decide_eq_true (by omega)
        have hil : i < cs.length := by omega
        have HD : cs.drop i = rd_T25 cs x :: cs.drop (i + 1) := by
          rw [List.drop_eq_getElem_cons hil, hx]
          congr 1
          unfold rd_T25
          simp [hil]
        rw [HD] at HA1
        simp only [allO] at HA1
        obtain ⟨bb, hbb, HA1⟩ := Option.bind_eq_some_iff.mp HA1
        have HFB := Aside0.mk hbb
        have HA2 := Aside0.mk HA1
        have HI := Aside0.mk hil
        have HX1 := Aside0.mk (show ((i + 1 : Nat) : Int) = wrap64 (x + 1) by unfold wrap64; omega)
        have p1 : 0 ≤ x := by omega
        have q1 : x < (cs.length : Int) := by omega
        obtain ⟨ad, e1, hx0, hx1, hx2, hx3⟩ := at_T25 HCL.out x p1 q1
        cases e1
        replace hx0 := (HQ.out.cell (World.block_lt_of_cell? w _ hx0)).trans hx0
        replace hx1 := (HQ.out.cell (World.block_lt_of_cell? w _ hx1)).trans hx1
        replace hx2 := (HQ.out.cell (World.block_lt_of_cell? w _ hx2)).trans hx2
        replace hx3 := (HQ.out.cell (World.block_lt_of_cell? w _ hx3)).trans hx3
        replace p1 := eq_true p1
        replace q1 := eq_true q1
        clear hn hx HA1 hbb hil HD hl9
        cases bb with
        | true =>
          simp only [if_true] at HA2
          go_wp2_with (first
            | ((with_reducible refine gate_dst (N := 10) rfl ?_); (try (refine gate_guard (by rfl) ?_; dsimp only)); refine box_event ?hg (N := 10) ?hd (cs := #[.int .i64 0, .int .i64 0, .int .i64 0, .int .i64 0]) (t := 25) ?hr ?_; (case hd => rfl); (case hg => rfl); (case hr => first | (go_simp; done) | (go_simp; rfl)); intro gb hg w15 hbox hb; have GW := Aside0.mk (show w.heap.size ≤ gb by rw [hg]; exact HQ.out.size); have HQ2 := Aside0.mk (below_step HQ.out hb); have BK := Aside0.mk hbox; have hcz0 : w15.cell? ⟨gb, 0, none⟩ = some (.int .i64 0) := (blk_cell BK.out 0).trans rfl; have hcz1 : w15.cell? ⟨gb, 1, none⟩ = some (.int .i64 0) := (blk_cell BK.out 1).trans rfl; have hcz2 : w15.cell? ⟨gb, 2, none⟩ = some (.int .i64 0) := (blk_cell BK.out 2).trans rfl; have hcz3 : w15.cell? ⟨gb, 3, none⟩ = some (.int .i64 0) := (blk_cell BK.out 3).trans rfl; have hfz0 := blk_frozen BK.out 0; have hfz1 := blk_frozen BK.out 1; have hfz2 := blk_frozen BK.out 2; have hfz3 := blk_frozen BK.out 3; clear hb hbox hg)
            | ((with_reducible refine gate_callee (f := 68) rfl ?_); go_loud (refine goesL_ (some 35) rfl rfl Try.func68 (by kernel_rfl) rfl #[.agg #[.int .i64 ((rd_T25 cs x).f0), .int .i64 ((rd_T25 cs x).f1), .int .i64 ((rd_T25 cs x).f2), .int .i64 ((rd_T25 cs x).f3)], .slice Bb b.length cb] rfl (by (try simp only [List.map_toArray, List.map_cons, List.map_nil]); first | done | rfl) ?_; (with_reducible refine (spec_pzFits.calls k _ _ _ _ Bb cb b true _ (Kd.C_below HBC.out (by repeat (first | exact HQ2.out | apply below_alloc | apply pw_below_drewN | apply below_drew1 | refine below_set ?_ GW.out))) HCB.out HFB.out).mono ?_); rintro e w19 ⟨rfl, hb⟩; refine ⟨_, rfl, ?_⟩; have HQ3 := Aside0.mk (below_step (by repeat (first | exact HQ2.out | apply below_alloc | apply pw_below_drewN | apply below_drew1 | refine below_set ?_ GW.out)) hb); clear hb)))
          go_roundg d
          case measure => omega
          case rel => exact ⟨i + 1, _, rfl, ⟨HX1.out.symm⟩, ⟨by have := HN.out; omega⟩, HA2, HQ3⟩
        | false =>
          have HE := Aside0.mk (show r = out by have h1 := HA2.out; have h2 := HH.out; simp only [Bool.false_eq_true, if_false, Option.some.injEq] at h1; subst h1; split at h2 <;> simp at h2; exact h2.symm)
          go_wp2_with (first
            | ((with_reducible refine gate_dst (N := 10) rfl ?_); (try (refine gate_guard (by rfl) ?_; dsimp only)); refine box_event ?hg (N := 10) ?hd (cs := #[.int .i64 0, .int .i64 0, .int .i64 0, .int .i64 0]) (t := 25) ?hr ?_; (case hd => rfl); (case hg => rfl); (case hr => first | (go_simp; done) | (go_simp; rfl)); intro gb hg w15 hbox hb; have GW := Aside0.mk (show w.heap.size ≤ gb by rw [hg]; exact HQ.out.size); have HQ2 := Aside0.mk (below_step HQ.out hb); have BK := Aside0.mk hbox; have hcz0 : w15.cell? ⟨gb, 0, none⟩ = some (.int .i64 0) := (blk_cell BK.out 0).trans rfl; have hcz1 : w15.cell? ⟨gb, 1, none⟩ = some (.int .i64 0) := (blk_cell BK.out 1).trans rfl; have hcz2 : w15.cell? ⟨gb, 2, none⟩ = some (.int .i64 0) := (blk_cell BK.out 2).trans rfl; have hcz3 : w15.cell? ⟨gb, 3, none⟩ = some (.int .i64 0) := (blk_cell BK.out 3).trans rfl; have hfz0 := blk_frozen BK.out 0; have hfz1 := blk_frozen BK.out 1; have hfz2 := blk_frozen BK.out 2; have hfz3 := blk_frozen BK.out 3; clear hb hbox hg)
            | ((with_reducible refine gate_callee (f := 68) rfl ?_); go_loud (refine goesL_ (some 35) rfl rfl Try.func68 (by kernel_rfl) rfl #[.agg #[.int .i64 ((rd_T25 cs x).f0), .int .i64 ((rd_T25 cs x).f1), .int .i64 ((rd_T25 cs x).f2), .int .i64 ((rd_T25 cs x).f3)], .slice Bb b.length cb] rfl (by (try simp only [List.map_toArray, List.map_cons, List.map_nil]); first | done | rfl) ?_; (with_reducible refine (spec_pzFits.calls k _ _ _ _ Bb cb b false _ (Kd.C_below HBC.out (by repeat (first | exact HQ2.out | apply below_alloc | apply pw_below_drewN | apply below_drew1 | refine below_set ?_ GW.out))) HCB.out HFB.out).mono ?_); rintro e w19 ⟨rfl, hb⟩; refine ⟨_, rfl, ?_⟩; have HQ3 := Aside0.mk (below_step (by repeat (first | exact HQ2.out | apply below_alloc | apply pw_below_drewN | apply below_drew1 | refine below_set ?_ GW.out)) hb); clear hb)))
          refine bodyPost_ret (v := .tuple #[]) (results_none rfl _ _ _) rfl ?_
          exact ⟨rfl, v, (HQ3.out.block gO (blk_lt HO.out)).trans HO.out, HE.out ▸ Kd.S_mono (Kd.S_below HR.out HQ3.out) (fun _ hq => hq.1), HB.out.trans (HQ3.out.mono HBS.out), HQ3.out.size, fun q hq _ _ => HQ3.out.block q hq, fun q hv _ => hv⟩
  | succ m ih =>
    intro hm Bb cb b v out r okR okb w hB hbs hbb hfr hgR hb hO hR h
    have HB := Aside0.mk hB
    have HBS := Aside0.mk hbs
    have HRC := Aside0.mk hrc
    have HBB0 := Aside0.mk hbb
    have HFR := Aside0.mk hfr
    have HGR := Aside0.mk hgR
    have HBR := Aside0.mk hb
    have HO := Aside0.mk hO
    have HR := Aside0.mk hR
    simp only [lookP] at h
    by_cases hbl : b.length < 1000
    · rw [if_pos hbl] at h
      have HH := Aside0.mk h
      clear hB hbs hb hO hR h hrc hbb hfr hgR
      go_enter Try.func91, Try.ntmps91
      go_wp2
      go_loopg [8] 6 (fun kq v8 w' => ∃ (n : Nat) (o : List (List Int)) (vo : Value), v8 = .int .i64 (n : Int) ∧ Aside0 (n + kq = 6) ∧ Aside0 (lookS (lookP k cs m) b kq (n : Int) o = some r) ∧ Aside0 (Below base w0 w') ∧ Aside0 (w.heap.size ≤ w'.heap.size) ∧ Aside0 (w'.heap[gO]? = some (.cells #[vo] 59 (0, 0))) ∧ Aside0 (Kd.S (Kd.slice 3 (Kd.int .i64)) 45 w' base (fun q => okR q ∧ ¬ okb q) vo o) ∧ Aside0 (∀ q, q < w.heap.size → q ≠ gO → some q ≠ v.ownBlock → w'.heap[q]? = w.heap[q]?) ∧ Aside0 (∀ q, vo.ownBlock = some q → q < w.heap.size → v.ownBlock = some q))
      case atStart => exact ⟨0, out, v, rfl, ⟨rfl⟩, HH, HB, ⟨Nat.le_refl _⟩, HO, HR, ⟨fun _ _ _ _ => rfl⟩, ⟨fun _ h_ _ => h_⟩⟩
      case round =>
        clear HH
        obtain ⟨n, o, vo, rfl, HN, HA, HBt, HSt, HOt, HRt, HFt, HVt⟩ := hrel
        have hn6 := HN.out
        have HA1 := HA.out
        clear HA
        cases gk with
        | zero =>
          simp only [lookS, Option.some.injEq] at HA1
          have c5b : decide ((n : Int) ≤ 5) = false := decide_eq_false (by omega)
          go_wp2
          refine bodyPost_ret (v := .tuple #[]) (results_none rfl _ _ _) rfl ?_
          exact ⟨rfl, vo, HOt.out, HA1 ▸ Kd.S_mono HRt.out (fun _ hq => hq.1), HBt.out, HSt.out, HFt.out, HVt.out⟩
        | succ d =>
          simp only [lookS] at HA1
          obtain ⟨o1, ho1, HA1⟩ := Option.bind_eq_some_iff.mp HA1
          have HA2 := Aside0.mk HA1
          have HL := Aside0.mk ho1
          clear HA1 ho1
          have c5b : decide ((n : Int) ≤ 5) = true := decide_eq_true (by omega)
          have HBb := Aside0.mk (Kd.R_step HBR.out (fun q hq hlt => HFt.out q hlt (fun e_ => HGR.out (e_ ▸ (HBB0.out q hq).1)) (fun e_ => ((Kd.S_R HR.out).1 q e_.symm).2 hq)))
          have HBw := Aside0.mk (Nat.le_trans HBS.out HSt.out)
          have HOl := Aside0.mk (blk_lt HOt.out)
          have e1 : wrap64 (((m + 1 : Nat) : Int) - 1) = (m : Int) := by unfold wrap64; omega
          go_wp2_with (first
            | (go_at_call 102; go_loud (refine (spec_l1Own.calls Bb cb b b wr (Kd.R_reads' HBb.out).2.2 (Kd.R_reads' HBb.out).2.1 (by unfold spec_l1Own.f; simp only [Option.bind_some, List.length_nil, Nat.zero_add, List.nil_append]; rw [if_pos (by omega)])).mono ?_; rintro e w' ⟨v21, rfl, hr_, hb_⟩; have H21 := Aside0.mk hr_; have HK1 := Aside0.mk hb_; clear hr_ hb_))
            | ((with_reducible refine gate_builtin (b := .append) (xs := #[.tmp 21, .tmp 23]) rfl ?_); at_builtin; go_loud (refine Kd.R_append (Kd.int .i64) (w0 := w0) base rfl (.tmp 21) (.tmp 23) 45 3 (.int .i64 0) 8 rfl Try.underlying45 info3 rfl (by decide) (by omega) v21 b (n : Int) [.int .i64 (n : Int)] (fun q => wr.heap.size ≤ q) (fun _ => False) rfl rfl ?aP (fun _ hk => hk.elim) ?aF ?aO ?aB ?aS ?aL ?_; (case aP => exact rfl); (case aF => exact fun q hq => Nat.le_trans HK1.out.size hq); (case aO => exact Kd.R_lower (Kd.R_mono (Kd.R_bound H21.out) (fun q hq => hq.2.1)) HBw.out); (case aB => exact HBt.out.trans (HK1.out.mono HBw.out)); (case aS => exact Nat.le_trans HBw.out HK1.out.size); (case aL => omega); intro v24 w5 ho hb hg hat; have HK5 := Aside0.mk (fun q (hq : q < wr.heap.size) => (hg.block q (Nat.lt_of_lt_of_le hq HK1.out.size) (fun e_ => by have := Kd.R_base H21.out q e_.symm; omega)).trans (HK1.out.block q hq)); have HS5 := Aside0.mk (Nat.le_trans HK1.out.size hg.size); have H24 := Aside0.mk ho; have HB5 := Aside0.mk hb; obtain ⟨A24, c24, e24⟩ := Kd.R_slice ho; have HIH := ih (by omega) A24 c24 (b ++ [(n : Int)]) vo o o1 (fun q => okR q ∧ ¬ okb q) (fun q => wr.heap.size ≤ q ∧ q < w5.heap.size) w5 HB5.out (Nat.le_trans HBw.out HS5.out) (fun q hq => ⟨⟨HFR.out q (Nat.le_trans HSt.out hq.1), fun h_ => by have := (HBB0.out q h_).2; have := HSt.out; omega⟩, hq.2⟩) (fun q hq => ⟨HFR.out q (Nat.le_trans HSt.out (Nat.le_trans HS5.out hq)), fun h_ => by have := (HBB0.out q h_).2; have := HSt.out; have := HS5.out; omega⟩) (fun h_ => HGR.out h_.1) (Kd.R_mono (Kd.R_bound (e24 ▸ H24.out)) (fun q hq => ⟨hq.1, hq.2.2.1⟩)) ((HK5.out gO HOl.out).trans HOt.out) (Kd.S_step (Kd.S_mono (Kd.S_bound HRt.out) (fun q hq => (⟨hq.1, fun h_ => by have := h_.1; have := hq.2.2.1; omega⟩ : (okR q ∧ ¬ okb q) ∧ ¬ (wr.heap.size ≤ q ∧ q < w5.heap.size)))) (fun q _ hlt => HK5.out q hlt)) HL.out; obtain ⟨nL, hnL⟩ : ∃ q, q = (b ++ [(n : Int)]).length := ⟨_, rfl⟩; rw [← hnL] at HIH e24; have HIH2 := Aside0.mk HIH; clear HIH hnL H24; subst e24; clear ho hb hg hat))
            | (go_at_call 91; go_loud (refine HIH2.out.mono ?_; rintro e w' ⟨rfl, v', hO', hR', hB', hS', hF', hV'⟩; have HO2 := Aside0.mk hO'; have HR2 := Aside0.mk hR'; have HB2 := Aside0.mk hB'; have HS2 := Aside0.mk (Nat.le_trans HSt.out (Nat.le_trans HS5.out hS')); have HF2 := Aside0.mk (fun q (hq : q < w.heap.size) (hn : q ≠ gO) (hv : some q ≠ v.ownBlock) => ((hF' q (Nat.lt_of_lt_of_le hq (Nat.le_trans HSt.out HS5.out)) hn (fun e_ => hv (HVt.out q e_.symm hq).symm)).trans (HK5.out q (Nat.lt_of_lt_of_le hq HSt.out))).trans (HFt.out q hq hn hv)); have HV2 := Aside0.mk (fun q (hv : v'.ownBlock = some q) (hq : q < w.heap.size) => HVt.out q (hV' q hv (Nat.lt_of_lt_of_le hq (Nat.le_trans HSt.out HS5.out))) hq); clear hO' hR' hB' hS' hF' hV')))
          go_roundg d
          case measure => omega
          case rel => exact ⟨n + 1, o1, v', congrArg (Value.int .i64) (by omega), ⟨by omega⟩, ⟨by rw [show ((n + 1 : Nat) : Int) = (n : Int) + 1 by omega]; exact HA2.out⟩, HB2, HS2, HO2, HR2, HF2, HV2⟩
    · rw [if_neg hbl] at h
      exact absurd h (by simp)

/-! ### spec_pzAll: function 77 -/
theorem allO_le {α : Type} {p q : α → Option Bool} (h : ∀ x, LeO (p x) (q x)) : ∀ l : List α, LeO (allO p l) (allO q l)
  | [] => LeO.refl _
  | x :: t => by
    simp only [allO]
    exact LeO.bind (h x) fun _ => LeO.ite (allO_le h t) (LeO.refl _)
theorem lookS_le {f g : List Int → List (List Int) → Option (List (List Int))} (h : ∀ x y, LeO (f x y) (g x y)) (b : List Int) : ∀ (d : Nat) (n : Int) (out : List (List Int)), LeO (lookS f b d n out) (lookS g b d n out)
  | 0, _, _ => LeO.refl _
  | d + 1, n, out => by
    simp only [lookS]
    exact LeO.bind (h _ _) fun _ => lookS_le h b d _ _
theorem lookP_le (k : Nat) (cs : List S25) : ∀ (m : Nat) (b : List Int) (out : List (List Int)), LeO (lookP k cs m b out) (lookP (k + 1) cs m b out)
  | 0, b, out => by
    simp only [lookP]
    exact LeO.bind (allO_le (fun x => spec_pzFits.mono _ _ _ _ _ _) _) fun _ => LeO.refl _
  | m + 1, b, out => by
    simp only [lookP]
    exact LeO.ite (lookS_le (lookP_le k cs m) b 6 0 out) (LeO.refl _)
def spec_pzAll.f (k : Nat) (a0 : Int) (l1 : List S25) : Option (List (List Int)) := if 0 ≤ a0 ∧ a0 ≤ 100 then lookP k l1 a0.toNat [] [] else none
theorem spec_pzAll.mono : ∀ a0 a1 k, LeO (spec_pzAll.f k a0 a1) (spec_pzAll.f (k + 1) a0 a1) := by
  intro a0 a1 k
  unfold spec_pzAll.f
  exact LeO.ite (lookP_le _ _ _ _ _) (LeO.refl _)
set_option maxHeartbeats 8000000 in
set_option maxRecDepth 100000 in
theorem spec_pzAll.calls (k : Nat) (a0 : Int) (A1 : Option Addr) (c1 : Nat) (l1 : List (S25)) (r : List (List Int)) (w : World) (hr1 : Kd.C k25 w A1 l1.length l1) (hc1 : l1.length ≤ c1) (h : spec_pzAll.f k a0 l1 = some r) :
    Calls Try.prog 77 #[.int .i64 a0, .slice A1 l1.length c1] w fun e w' => ∃ v0_ : Value, e = .returned (v0_) ∧ Kd.S (Kd.slice 3 (Kd.int .i64)) 45 w' w.heap.size (fun _ => True) v0_ r ∧ Below w.heap.size w w' := by
  unfold spec_pzAll.f at h
  by_cases c : 0 ≤ a0 ∧ a0 ≤ 100
  · rw [if_pos c] at h
    obtain ⟨n, rfl⟩ := Int.eq_ofNat_of_zero_le c.1
    rw [Int.toNat_natCast] at h
    have HH := Aside0.mk h
    have HR1 := Aside0.mk hr1
    clear h hr1
    go_enter Try.func77, Try.ntmps77
    have HB0 := Aside0.mk (below_alloc (Below.refl w.heap.size w) (.cells #[.slice none 0 0] 59))
    go_wp2_with (go_at_call 91; go_loud (refine (spec_pzLook.calls k A1 c1 l1 hc1 w.heap.size w.heap.size w rfl HR1.out (Nat.le_refl _) n (by omega) none 0 [] (.slice none 0 0) [] r (fun q => q ≠ w.heap.size) (fun _ => False) (w.alloc (.cells #[.slice none 0 0] 59)) HB0.out HB0.out.size (fun _ h_ => h_.elim) (fun q hq => by have := alloc_size w (.cells #[.slice none 0 0] 59); omega) (fun h_ => h_ rfl) (Kd.R_nil _ _ _ _ _) (alloc_new _ _) (Kd.S_nil _ _ _ _ _) HH.out).mono ?_; rintro e w' ⟨rfl, v', hO', hR', hB', _, _, _⟩; have HO3 := (blk_cell hO' 0).trans rfl; have HR3 := Aside0.mk hR'; have HB3 := Aside0.mk hB'; obtain ⟨Ap, cp, ep⟩ := Kd.S_slice hR'; subst ep; clear hO' hR' hB'))
    go_ret
    exact ⟨_, rfl, Kd.S_mono HR3.out (fun _ _ => trivial), HB3.out⟩
  · rw [if_neg c] at h
    exact absurd h (by simp)

/-! ### spec_Solutions: function 47 -/
def spec_Solutions.f (k : Nat) (a0_0 : Int) (l0_1 : List (S25)) : Option ((List (List Int)) × Bool) := (spec_pzGood.f k a0_0 l0_1).bind fun t186 => (if t186 = true then ((spec_pzAll.f k a0_0 l0_1).bind fun t187 => (some (t187, true))) else (some (([] : List (List Int)), false)))
theorem spec_Solutions.mono : ∀ a0 a1 k, LeO (spec_Solutions.f k a0 a1) (spec_Solutions.f (k + 1) a0 a1) := by
  intro a0 a1 k
  unfold spec_Solutions.f
  repeat' first
      | (with_reducible exact spec_pzAll.mono _ _ _)
      | (with_reducible exact spec_pzGood.mono _ _ _)
      | (with_reducible exact LeO.refl _)
      | (with_reducible exact LeO.none _)
      | (with_reducible refine LeO.ite ?_ ?_)
      | (with_reducible refine LeO.bind ?_ (fun _ => ?_))
      | exact spec_pzAll.mono _ _ _
      | exact spec_pzGood.mono _ _ _
      | exact LeO.none _
      | refine LeO.ite ?_ ?_
      | refine LeO.bind ?_ (fun _ => ?_)
set_option maxHeartbeats 8000000 in
set_option maxRecDepth 100000 in
theorem spec_Solutions.calls (k : Nat) (a0_0 : Int) (A0_1 : Option Addr) (c0_1 : Nat) (l0_1 : List (S25)) (r1 : List (List Int)) (r2 : Bool) (w : World) (hr0_1 : Kd.C k25 w A0_1 l0_1.length l0_1) (hc0_1 : l0_1.length ≤ c0_1) (h : spec_Solutions.f k a0_0 l0_1 = some (r1, r2)) :
    Calls Try.prog 47 #[.agg #[.int .i64 a0_0, .slice A0_1 l0_1.length c0_1]] w fun e w' => ∃ v0_ : Value, e = .returned (.tuple #[v0_, .bool r2]) ∧ Kd.S (Kd.slice 3 (Kd.int .i64)) 45 w' w.heap.size (fun _ => True) v0_ r1 ∧ Below w.heap.size w w' := by
  have hu35 := Try.underlying35
  have HR0_1 := Aside0.mk hr0_1
  have HC0_1 := Aside0.mk hc0_1
  clear hr0_1 hc0_1
  have HB := Aside0.mk (Below.refl w.heap.size w)
  have H : ((spec_pzGood.f k a0_0 l0_1).bind fun t186 => (if t186 = true then ((spec_pzAll.f k a0_0 l0_1).bind fun t187 => (some (t187, true))) else (some (([] : List (List Int)), false)))) = some (r1, r2) := h
  clear h
  replace H := Option.bind_eq_some_iff.mp H
  obtain ⟨t186, A20, H⟩ := H
  replace H : (if t186 = true then ((spec_pzAll.f k a0_0 l0_1).bind fun t187 => (some (t187, true))) else (some (([] : List (List Int)), false))) = some (r1, r2) := H
  have A2 := Aside0.mk A20
  clear A20
  by_cases c3 : t186 = true
  · subst c3
    have H1 : ((spec_pzAll.f k a0_0 l0_1).bind fun t187 => (some (t187, true))) = some (r1, r2) := by rw [if_pos rfl] at H; exact H
    clear H
    have H := H1
    clear H1
    replace H := Option.bind_eq_some_iff.mp H
    obtain ⟨t187, A40, H⟩ := H
    replace H : (some (t187, true)) = some (r1, r2) := H
    have A4 := Aside0.mk A40
    clear A40
    simp only [Option.some.injEq, Prod.mk.injEq] at H
    obtain ⟨rfl, rfl⟩ := H
    go_enter Try.func47, Try.ntmps47
    go_wp2_with (first | ((with_reducible refine gate_dst (N := 1) rfl ?_); refine box_event ?hg (N := 1) ?hd (cs := #[.int .i64 a0_0, .slice A0_1 l0_1.length c0_1]) (t := 35) ?hr ?_; (case hd => rfl); (case hg => rfl); (case hr => first | (go_simp; done) | (go_simp; rfl)); intro gb185 hg w5 hbox hb; have n0_ := Aside0.mk (below_step (by repeat (first | (with_reducible first | exact HB.out | apply below_alloc | apply pw_below_drewN | apply below_drew1) | exact HB.out)) hb); have n1_ := Aside0.mk (hbox); have n2_ := Aside0.mk ((by rw [hg]; exact (below_size (by repeat (first | (with_reducible first | exact HB.out | apply below_alloc | apply pw_below_drewN | apply below_drew1) | exact HB.out))) : w.heap.size ≤ gb185)); have n3_ := Aside0.mk ((by rw [hg]; exact (below_size (by repeat (first | (with_reducible first | exact HB.out | apply below_alloc | apply pw_below_drewN | apply below_drew1) | exact HB.out))) : w.heap.size ≤ gb185)); clear HB; have HB := n0_; have BK185 := n1_; have GW185 := n2_; have GE185 := n3_; clear n0_ n1_ n2_ n3_; clear hb hbox hg; have hcz6_0 : w5.cell? ⟨gb185, 0, none⟩ = some (.int .i64 a0_0) := (blk_cell BK185.out 0).trans rfl; have hcz6_1 : w5.cell? ⟨gb185, 1, none⟩ = some (.slice A0_1 l0_1.length c0_1) := (blk_cell BK185.out 1).trans rfl; have hfz6_0 := blk_frozen BK185.out 0; have hfz6_1 := blk_frozen BK185.out 1) | ((with_reducible refine gate_callee (f := 56) rfl ?_); refine goesL_ (some 5) rfl rfl Try.func56 (by kernel_rfl) rfl #[.agg #[.int .i64 a0_0, .slice A0_1 l0_1.length c0_1]] rfl (by (try simp only [List.map_toArray, List.map_cons, List.map_nil]); first | done | rfl | (simp only [List.length_drop, List.length_take]; rfl)) ?_; (with_reducible refine (spec_pzGood.calls k a0_0 _ _ l0_1 true _ ?side1 ?side2 A2.out).mono ?_); (case side1 => repeat (first | exact (Kd.C_below HR0_1.out HB.out) | (with_reducible refine Kd.C_alloc ?_ _) | (with_reducible refine Kd.C_drewN ?_ _) | (with_reducible refine Kd.C_drew ?_))); (case side2 => exact HC0_1.out); rintro e w7 ⟨rfl, hb⟩; refine ⟨_, rfl, ?_⟩; have n0_ := Aside0.mk (blk_below (g := gb185) (o := .cells #[.int .i64 a0_0, .slice A0_1 l0_1.length c0_1] 35 (0, 0)) (by (with_reducible repeat (first | refine blk_drewN ?_ _ | refine blk_drew ?_ | refine blk_alloc ?_ _)); exact BK185.out) hb); have n1_ := Aside0.mk (below_step (by repeat (first | (with_reducible first | exact HB.out | apply below_alloc | apply pw_below_drewN | apply below_drew1 | refine below_set ?_ GE185.out) | exact HB.out)) hb); clear BK185; clear HB; have BK185 := n0_; have HB := n1_; clear n0_ n1_; (try clear hb); (try clear hb2); (try clear hk); (try clear hi); have hcz8_0 : w7.cell? ⟨gb185, 0, none⟩ = some (.int .i64 a0_0) := (blk_cell BK185.out 0).trans rfl; have hcz8_1 : w7.cell? ⟨gb185, 1, none⟩ = some (.slice A0_1 l0_1.length c0_1) := (blk_cell BK185.out 1).trans rfl; have hfz8_0 := blk_frozen BK185.out 0; have hfz8_1 := blk_frozen BK185.out 1) | ((with_reducible refine gate_callee (f := 77) rfl ?_); refine goesL_ (some 11) rfl rfl Try.func77 (by kernel_rfl) rfl #[.int .i64 a0_0, .slice A0_1 l0_1.length c0_1] rfl (by (try simp only [List.map_toArray, List.map_cons, List.map_nil]); first | done | rfl | (simp only [List.length_drop, List.length_take]; rfl)) ?_; (with_reducible refine (spec_pzAll.calls k a0_0 _ _ l0_1 t187 _ ?side1 ?side2 A4.out).mono ?_); (case side1 => repeat (first | exact (Kd.C_below HR0_1.out HB.out) | (with_reducible refine Kd.C_alloc ?_ _) | (with_reducible refine Kd.C_drewN ?_ _) | (with_reducible refine Kd.C_drew ?_))); (case side2 => exact HC0_1.out); rintro e w9 ⟨v188, rfl, ho0, hb⟩; refine ⟨_, rfl, ?_⟩; have n0_ := Aside0.mk (Kd.S_lower ho0 (below_size (by repeat (first | (with_reducible first | exact HB.out | apply below_alloc | apply pw_below_drewN | apply below_drew1 | refine below_set ?_ GE185.out) | exact HB.out)))); have n1_ := Aside0.mk (blk_below (g := gb185) (o := .cells #[.int .i64 a0_0, .slice A0_1 l0_1.length c0_1] 35 (0, 0)) (by (with_reducible repeat (first | refine blk_drewN ?_ _ | refine blk_drew ?_ | refine blk_alloc ?_ _)); exact BK185.out) hb); have n2_ := Aside0.mk (below_step (by repeat (first | (with_reducible first | exact HB.out | apply below_alloc | apply pw_below_drewN | apply below_drew1 | refine below_set ?_ GE185.out) | exact HB.out)) hb); clear BK185; clear HB; have HO189 := n0_; have BK185 := n1_; have HB := n2_; clear n0_ n1_ n2_; (try clear hb); (try clear hb2); (try clear hk); (try clear hi); (try clear ho0)))
    go_ret2
    exact ⟨_, by first | rfl | (simp [errW_none, errW_some] <;> rfl) | (simp [*, errW_none, errW_some] <;> rfl), by (with_reducible repeat (first | apply Kd.S_alloc | apply Kd.S_drewN | apply Kd.S_drew)); exact HO189.out, by repeat (first | (with_reducible first | exact HB.out | apply below_alloc | apply pw_below_drewN | apply below_drew1 | refine below_set ?_ GE185.out) | exact HB.out)⟩
  · replace c3 := Bool.eq_false_iff.mpr c3
    subst c3
    have H1 : (some (([] : List (List Int)), false)) = some (r1, r2) := by rw [if_neg (show ¬ (false = true) by decide)] at H; exact H
    clear H
    have H := H1
    clear H1
    simp only [Option.some.injEq, Prod.mk.injEq] at H
    obtain ⟨rfl, rfl⟩ := H
    go_enter Try.func47, Try.ntmps47
    go_wp2_with (first | ((with_reducible refine gate_dst (N := 1) rfl ?_); refine box_event ?hg (N := 1) ?hd (cs := #[.int .i64 a0_0, .slice A0_1 l0_1.length c0_1]) (t := 35) ?hr ?_; (case hd => rfl); (case hg => rfl); (case hr => first | (go_simp; done) | (go_simp; rfl)); intro gb185 hg w10 hbox hb; have n0_ := Aside0.mk (below_step (by repeat (first | (with_reducible first | exact HB.out | apply below_alloc | apply pw_below_drewN | apply below_drew1) | exact HB.out)) hb); have n1_ := Aside0.mk (hbox); have n2_ := Aside0.mk ((by rw [hg]; exact (below_size (by repeat (first | (with_reducible first | exact HB.out | apply below_alloc | apply pw_below_drewN | apply below_drew1) | exact HB.out))) : w.heap.size ≤ gb185)); have n3_ := Aside0.mk ((by rw [hg]; exact (below_size (by repeat (first | (with_reducible first | exact HB.out | apply below_alloc | apply pw_below_drewN | apply below_drew1) | exact HB.out))) : w.heap.size ≤ gb185)); clear HB; have HB := n0_; have BK185 := n1_; have GW185 := n2_; have GE185 := n3_; clear n0_ n1_ n2_ n3_; clear hb hbox hg; have hcz11_0 : w10.cell? ⟨gb185, 0, none⟩ = some (.int .i64 a0_0) := (blk_cell BK185.out 0).trans rfl; have hcz11_1 : w10.cell? ⟨gb185, 1, none⟩ = some (.slice A0_1 l0_1.length c0_1) := (blk_cell BK185.out 1).trans rfl; have hfz11_0 := blk_frozen BK185.out 0; have hfz11_1 := blk_frozen BK185.out 1) | ((with_reducible refine gate_callee (f := 56) rfl ?_); refine goesL_ (some 5) rfl rfl Try.func56 (by kernel_rfl) rfl #[.agg #[.int .i64 a0_0, .slice A0_1 l0_1.length c0_1]] rfl (by (try simp only [List.map_toArray, List.map_cons, List.map_nil]); first | done | rfl | (simp only [List.length_drop, List.length_take]; rfl)) ?_; (with_reducible refine (spec_pzGood.calls k a0_0 _ _ l0_1 false _ ?side1 ?side2 A2.out).mono ?_); (case side1 => repeat (first | exact (Kd.C_below HR0_1.out HB.out) | (with_reducible refine Kd.C_alloc ?_ _) | (with_reducible refine Kd.C_drewN ?_ _) | (with_reducible refine Kd.C_drew ?_))); (case side2 => exact HC0_1.out); rintro e w12 ⟨rfl, hb⟩; refine ⟨_, rfl, ?_⟩; have n0_ := Aside0.mk (blk_below (g := gb185) (o := .cells #[.int .i64 a0_0, .slice A0_1 l0_1.length c0_1] 35 (0, 0)) (by (with_reducible repeat (first | refine blk_drewN ?_ _ | refine blk_drew ?_ | refine blk_alloc ?_ _)); exact BK185.out) hb); have n1_ := Aside0.mk (below_step (by repeat (first | (with_reducible first | exact HB.out | apply below_alloc | apply pw_below_drewN | apply below_drew1 | refine below_set ?_ GE185.out) | exact HB.out)) hb); clear BK185; clear HB; have BK185 := n0_; have HB := n1_; clear n0_ n1_; (try clear hb); (try clear hb2); (try clear hk); (try clear hi)))
    go_ret2
    exact ⟨_, by first | rfl | (simp [errW_none, errW_some] <;> rfl) | (simp [*, errW_none, errW_some] <;> rfl), by first | exact Kd.S_nil _ _ _ _ _ | exact Kd.N_nil _ _ _ _ _ | exact Kd.V_nil _ _ _ _ _ | exact Kd.Q_nil _ _ _ _ _ | exact Kd.R_nil _ _ _ _ _, by repeat (first | (with_reducible first | exact HB.out | apply below_alloc | apply pw_below_drewN | apply below_drew1 | refine below_set ?_ GE185.out) | exact HB.out)⟩

/-! ### impl_within: function 54 -/
def impl_within.f (a0 : Int) (a1 : Int) (a2 : Int) : Option (Bool) := if a0 ≥ a1 then (some (decide (a0 ≤ a2))) else (some false)
set_option maxHeartbeats 8000000 in
set_option maxRecDepth 100000 in
theorem impl_within.calls (a0 : Int) (a1 : Int) (a2 : Int) (r : Bool) (w : World) (h : impl_within.f a0 a1 a2 = some r) :
    Calls Try.prog 54 #[.int .i64 a0, .int .i64 a1, .int .i64 a2] w fun e w' => e = .returned (.bool r) ∧ Drawn0 w w' := by
  have H : (if a0 ≥ a1 then (some (decide (a0 ≤ a2))) else (some false)) = some r := h
  clear h
  by_cases c4 : a0 ≥ a1
  · rw [if_pos c4] at H
    have c4b0 : decide (a1 ≤ a0) = true := decide_eq_true c4
    clear c4
    obtain rfl := Option.some.inj H
    go_enter Try.func54, Try.ntmps54
    go_wp2
    go_ret
    exact ⟨by first | rfl | (simp; done) | (simp [*]; done), by repeat (first | exact Drawn0.refl _ | apply Drawn0.step)⟩
  · rw [if_neg c4] at H
    have c4b0 : decide (a1 ≤ a0) = false := decide_eq_false c4
    clear c4
    obtain rfl := Option.some.inj H
    go_enter Try.func54, Try.ntmps54
    go_wp2
    go_ret
    exact ⟨by first | rfl | (simp; done) | (simp [*]; done), by repeat (first | exact Drawn0.refl _ | apply Drawn0.step)⟩

end Go.Proofs.Ytchphfohembpcaa.PT
