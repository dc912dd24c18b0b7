/-
  The program's ShortestSplit returns what the reference's returns, for all arguments: the plain half, about the printed functions alone.
  Conditions: those of the statement's own row; none is added.
-/
import Derived.Test.YtbamooigfbbkaaaPAx12
namespace Go.Proofs.Ytbamooigfbbkaaa.Pure
set_option linter.unusedVariables false
set_option linter.unusedSimpArgs false
open Go.RowKit Go.Proofs.Ytbamooigfbbkaaa.PA Go.Proofs.YtbamooigfbbkaaaW.PrintWords Go.Proofs.YtbamooigfbbkaaaW.PrintLast Go.Proofs.YtbamooigfbbkaaaW.PrintMore Go.Proofs.YtbamooigfbbkaaaB

theorem Ev_add {α : Type} {g : Nat → Option α} {r : α} (m : Nat) (h : Ev (fun k => g (k + m)) r) : Ev g r := by
  obtain ⟨K, hK⟩ := h
  refine ⟨K + m, fun k hk => ?_⟩
  have h1 := hK (k - m) (by omega)
  simp only at h1
  rwa [Nat.sub_add_cancel (by omega)] at h1
theorem Ev_shift {α : Type} {g : Nat → Option α} {r : α} (m : Nat) (h : Ev g r) : Ev (fun k => g (k + m)) r := by
  obtain ⟨K, hK⟩ := h
  exact ⟨K, fun k hk => hK (k + m) (by omega)⟩
theorem wrap_id {x : Int} (h0 : -9223372036854775808 ≤ x) (h1 : x ≤ 9223372036854775807) : wrap64 x = x := by
  unfold wrap64
  omega
theorem rd_at (l : List Int) (i : Nat) (h : i < l.length) : rd l (i : Int) = l[i] := rd_get l i h
theorem rd_append_left (l m : List Int) (i : Int) (h0 : 0 ≤ i) (h : i < l.length) : rd (l ++ m) i = rd l i := by
  unfold rd
  rw [List.getD_eq_getElem?_getD, List.getD_eq_getElem?_getD, List.getElem?_append_left (by omega)]
/-- Can a heap be split so? -/
def canB (rule heap part : Int) : Bool := decide (1 ≤ part) && decide (2 * part ≤ heap) && (rule != 0 || decide (2 * part < heap)) && (rule != 2 || decide (2 ≤ part))
theorem spec_slCan_succ (k : Nat) (r h p : Int) (hh0 : 0 ≤ h) (hh1 : h ≤ 1000) (hp0 : -1000 ≤ p) (hp1 : p ≤ 1000) : spec_slCan.f (k + 1) r h p = some (canB r h p) := by
  unfold spec_slCan.f
  have e1 : wrap64 (Int.tdiv h 2) = h / 2 := by rw [Int.tdiv_eq_ediv_of_nonneg hh0]; exact wrap_id (by omega) (by omega)
  have e2 : wrap64 (2 * p) = 2 * p := wrap_id (by omega) (by omega)
  simp only [spec_slCan.j0, e1, e2]
  unfold canB
  by_cases c1 : p < 1
  · simp [c1]
    omega
  · by_cases c2 : p > h / 2
    · have c3 : ¬ 2 * p ≤ h := by omega
      simp [c1, c2, c3]
    · have c3 : 2 * p ≤ h := by omega
      have c4 : 1 ≤ p := by omega
      by_cases c5 : r = 0
      · subst c5
        by_cases c6 : 2 * p = h
        · simp [c1, c2, c3, c4, c6]
        · have c7 : 2 * p < h := by omega
          simp [c1, c2, c3, c4, c6, c7]
      · by_cases c6 : r = 2
        · subst c6
          by_cases c7 : p > 1
          · have c8 : 2 ≤ p := by omega
            simp [c1, c2, c3, c4, c7, c8]
          · have c8 : ¬ 2 ≤ p := by omega
            simp [c1, c2, c3, c4, c7, c8]
        · simp [c1, c2, c3, c4, c5, c6]
theorem slCan_ev (r h p : Int) (hh0 : 0 ≤ h) (hh1 : h ≤ 1000) (hp0 : -1000 ≤ p) (hp1 : p ≤ 1000) : Ev (fun k => spec_slCan.f k r h p) (canB r h p) := Ev_add 1 ⟨0, fun k _ => spec_slCan_succ k r h p hh0 hh1 hp0 hp1⟩
def inR (a lo hi : Int) : Bool := decide (lo ≤ a) && decide (a ≤ hi)
theorem inR_iff {a lo hi : Int} : inR a lo hi = true ↔ lo ≤ a ∧ a ≤ hi := by simp [inR]
theorem impl_within_eq (a lo hi : Int) : impl_within.f a lo hi = some (inR a lo hi) := by
  unfold impl_within.f inR
  by_cases h : lo ≤ a <;> simp [h]
theorem impl_canSplit_eq (r h p : Int) (hh0 : 1 ≤ h) (hh1 : h ≤ 1000) : impl_canSplit.f r h p = some (canB r h p) := by
  unfold impl_canSplit.f
  simp only [impl_within_eq, Option.bind_some]
  have e1 : wrap64 (Int.tdiv h 2) = h / 2 := by rw [Int.tdiv_eq_ediv_of_nonneg (by omega)]; exact wrap_id (by omega) (by omega)
  by_cases c5 : r = 0
  · subst c5
    rw [if_pos rfl]
    congr 1
    rw [Bool.eq_iff_iff, inR_iff]
    have e2 : wrap64 (Int.tdiv (wrap64 (h - 1)) 2) = (h - 1) / 2 := by
      rw [wrap_id (x := h - 1) (by omega) (by omega), Int.tdiv_eq_ediv_of_nonneg (by omega)]; exact wrap_id (by omega) (by omega)
    rw [e2]
    simp [canB]
    omega
  · by_cases c6 : r = 2
    · subst c6
      simp only [if_neg c5, if_true, e1]
      congr 1
      rw [Bool.eq_iff_iff, inR_iff]
      simp [canB]
      omega
    · simp only [if_neg c5, if_neg c6, e1]
      congr 1
      rw [Bool.eq_iff_iff, inR_iff]
      simp [canB, c5, c6]
      omega
theorem impl_ShortestSplit_1_eq (a b : Int) : impl_ShortestSplit_1.f a b = some (mn a b) := rfl
theorem lenShortest_in (r heap : Int) (out : List Int) (n : Int) (h0 : 0 ≤ heap) (hn0 : 1 ≤ n) (hn1 : n ≤ heap) (hh : heap ≤ 60) (hl : (out.length : Int) = n) (next : ∀ v : Int, ∃ o : List Int, (o.length : Int) = heap + 1 ∧ Ev (fun k => spec_slLong.l0 k r heap false (out ++ [v]) (n + 1)) o ∧ Ev (fun k => impl_lengthOf_ShortestSplit_1.l0 k r heap (out ++ [v]) (n + 1)) (rd o heap, true)) :
    ∀ (d : Nat) (p best : Int), 1 ≤ p → p + d = 32 → ∃ o : List Int, (o.length : Int) = heap + 1 ∧ Ev (fun k => spec_slLong.l1 k r heap false out n best p) o ∧ Ev (fun k => impl_lengthOf_ShortestSplit_1.l1 k r heap out n best p) (rd o heap, true) := by
  intro d
  induction d with
  | zero =>
    intro p best hp hd
    have w1 : wrap64 (2 * p) = 2 * p := wrap_id (by omega) (by omega)
    have w2 : wrap64 (n + 1) = n + 1 := wrap_id (by omega) (by omega)
    have c1 : ¬ 2 * p ≤ n := by omega
    have c2 : out.length < 17592186044416 := by omega
    obtain ⟨o, ho, e1, e2⟩ := next (mx 0 best)
    refine ⟨o, ho, Ev_add 1 ?_, Ev_add 1 ?_⟩
    · have hm : spec_l1Most.f 0 best = some (mx 0 best) := by
        unfold spec_l1Most.f mx
        by_cases c : 0 < best
        · have : ¬ 0 > best := by omega
          simp [c, this]
        · by_cases c' : 0 > best
          · simp [c, c']
          · have : best = 0 := by omega
            simp [this]
      simp only [spec_slLong.l1, w1, if_neg c1, hm, Option.bind_some, if_pos c2, w2]
      exact e1
    · simp only [impl_lengthOf_ShortestSplit_1.l1, w1, if_neg c1, if_pos c2, w2]
      exact e2
  | succ d ih =>
    intro p best hp hd
    have w1 : wrap64 (2 * p) = 2 * p := wrap_id (by omega) (by omega)
    have w2 : wrap64 (n + 1) = n + 1 := wrap_id (by omega) (by omega)
    have w3 : wrap64 (p + 1) = p + 1 := wrap_id (by omega) (by omega)
    have w4 : wrap64 (n - p) = n - p := wrap_id (by omega) (by omega)
    have c2 : out.length < 17592186044416 := by omega
    by_cases c1 : 2 * p ≤ n
    · have s1 := slCan_ev r n p (by omega) (by omega) (by omega) (by omega)
      have s2 := impl_canSplit_eq r n p (by omega) (by omega)
      cases hb : canB r n p with
      | false =>
        rw [hb] at s1 s2
        obtain ⟨o, ho, e1, e2⟩ := ih (p + 1) best (by omega) (by omega)
        refine ⟨o, ho, Ev_add 1 ?_, Ev_add 1 ?_⟩
        · simp only [spec_slLong.l1, w1, if_pos c1]
          refine Ev.bind s1 ?_
          simp only [w3, Bool.false_eq_true, if_false]
          exact e1
        · simp only [impl_lengthOf_ShortestSplit_1.l1, w1, if_pos c1, s2, Option.bind_some, w3, Bool.false_eq_true, if_false]
          exact e2
      | true =>
        rw [hb] at s1 s2
        have b1 : 0 ≤ p := by omega
        have b2 : p < (out.length : Int) := by omega
        have b3 : 0 ≤ n - p := by omega
        have b4 : n - p < (out.length : Int) := by omega
        obtain ⟨own, hown⟩ : ∃ v : Int, wrap64 (wrap64 (1 + rd out p) + rd out (n - p)) = v := ⟨_, rfl⟩
        by_cases c3 : best < 0
        · have hmm : mn own own = own := by unfold mn; rw [if_neg (by omega)]
          obtain ⟨o, ho, e1, e2⟩ := ih (p + 1) own (by omega) (by omega)
          refine ⟨o, ho, Ev_add 1 ?_, Ev_add 1 ?_⟩
          · simp only [spec_slLong.l1, w1, if_pos c1]
            refine Ev.bind s1 ?_
            simp only [w3, w4, if_true, if_pos b1, if_pos b2, if_pos b3, if_pos b4, hown, if_pos c3]
            exact e1
          · simp only [impl_lengthOf_ShortestSplit_1.l1, w1, if_pos c1, s2, Option.bind_some, w3, w4, if_true, if_pos b1, if_pos b2, if_pos b3, if_pos b4, hown, if_pos c3, impl_ShortestSplit_1_eq, hmm]
            exact e2
        · by_cases c4 : own < best
          · have hmm : mn best own = own := by unfold mn; rw [if_pos (by omega)]
            obtain ⟨o, ho, e1, e2⟩ := ih (p + 1) own (by omega) (by omega)
            refine ⟨o, ho, Ev_add 1 ?_, Ev_add 1 ?_⟩
            · simp only [spec_slLong.l1, w1, if_pos c1]
              refine Ev.bind s1 ?_
              simp only [w3, w4, if_true, if_pos b1, if_pos b2, if_pos b3, if_pos b4, hown, if_neg c3, if_pos c4, Bool.false_eq_true, if_false]
              exact e1
            · simp only [impl_lengthOf_ShortestSplit_1.l1, w1, if_pos c1, s2, Option.bind_some, w3, w4, if_true, if_pos b1, if_pos b2, if_pos b3, if_pos b4, hown, if_neg c3, impl_ShortestSplit_1_eq, hmm]
              exact e2
          · have hmm : mn best own = best := by unfold mn; rw [if_neg (by omega)]
            obtain ⟨o, ho, e1, e2⟩ := ih (p + 1) best (by omega) (by omega)
            refine ⟨o, ho, Ev_add 1 ?_, Ev_add 1 ?_⟩
            · simp only [spec_slLong.l1, w1, if_pos c1]
              refine Ev.bind s1 ?_
              simp only [w3, w4, if_true, if_pos b1, if_pos b2, if_pos b3, if_pos b4, hown, if_neg c3, if_neg c4, Bool.false_eq_true, if_false]
              exact e1
            · simp only [impl_lengthOf_ShortestSplit_1.l1, w1, if_pos c1, s2, Option.bind_some, w3, w4, if_true, if_pos b1, if_pos b2, if_pos b3, if_pos b4, hown, if_neg c3, impl_ShortestSplit_1_eq, hmm]
              exact e2
    · obtain ⟨o, ho, e1, e2⟩ := next (mx 0 best)
      refine ⟨o, ho, Ev_add 1 ?_, Ev_add 1 ?_⟩
      · have hm : spec_l1Most.f 0 best = some (mx 0 best) := by
          unfold spec_l1Most.f mx
          by_cases c : 0 < best
          · have : ¬ 0 > best := by omega
            simp [c, this]
          · by_cases c' : 0 > best
            · simp [c, c']
            · have : best = 0 := by omega
              simp [this]
        simp only [spec_slLong.l1, w1, if_neg c1, hm, Option.bind_some, if_pos c2, w2]
        exact e1
      · simp only [impl_lengthOf_ShortestSplit_1.l1, w1, if_neg c1, if_pos c2, w2]
        exact e2
theorem lenShortest_out (r heap : Int) (h0 : 0 ≤ heap) (hh : heap ≤ 60) : ∀ (d : Nat) (out : List Int) (n : Int), 1 ≤ n → n + d = heap + 1 → (out.length : Int) = n → ∃ o : List Int, (o.length : Int) = heap + 1 ∧ Ev (fun k => spec_slLong.l0 k r heap false out n) o ∧ Ev (fun k => impl_lengthOf_ShortestSplit_1.l0 k r heap out n) (rd o heap, true) := by
  intro d
  induction d with
  | zero =>
    intro out n hn hd hl
    have c1 : ¬ n ≤ heap := by omega
    have c2 : heap < (out.length : Int) := by omega
    refine ⟨out, by omega, Ev_add 1 ?_, Ev_add 1 ?_⟩
    · simp only [spec_slLong.l0, if_neg c1]
      exact Ev.now _
    · simp only [impl_lengthOf_ShortestSplit_1.l0, if_neg c1, if_pos h0, if_pos c2]
      exact Ev.now _
  | succ d ih =>
    intro out n hn hd hl
    have c1 : n ≤ heap := by omega
    obtain ⟨o, ho, e1, e2⟩ := lenShortest_in r heap out n h0 hn c1 hh hl (fun v => ih (out ++ [v]) (n + 1) (by omega) (by omega) (by simp; omega)) 31 1 (-1) (by omega) (by omega)
    refine ⟨o, ho, Ev_add 1 ?_, Ev_add 1 ?_⟩
    · simp only [spec_slLong.l0, if_pos c1]
      exact e1
    · simp only [impl_lengthOf_ShortestSplit_1.l0, if_pos c1]
      exact e2
theorem spec_l1In_eq (a lo hi : Int) : spec_l1In.f a lo hi = some (inR a lo hi) := by
  unfold spec_l1In.f inR
  by_cases h : lo ≤ a <;> simp [h]
theorem spec_slRule_eq (r : Int) : spec_slRule.f r = some (inR r 0 2) := by
  unfold spec_slRule.f
  rw [spec_l1In_eq]
  rfl
theorem spec_slHeap_eq (r h m : Int) : spec_slHeap.f r h m = some (inR r 0 2 && inR h 1 m) := by
  unfold spec_slHeap.f
  rw [spec_slRule_eq, spec_l1In_eq]
  cases inR r 0 2 <;> rfl
theorem impl_isRule_eq (r : Int) : impl_isRule.f r = some (inR r 0 2) := by
  unfold impl_isRule.f
  rw [impl_within_eq]
  rfl
theorem impl_isSplitHeap_eq (r h m : Int) : impl_isSplitHeap.f r h m = some (inR r 0 2 && inR h 1 m) := by
  unfold impl_isSplitHeap.f
  rw [impl_isRule_eq, impl_within_eq]
  cases inR r 0 2 <;> rfl
theorem FnExactShortestSplit : laws_FnExactShortestSplit.Pure := by
  intro r heap _ _
  refine Ev.rounds (g := fun k => laws_FnExactShortestSplit.f k r heap) ?_
  unfold laws_FnExactShortestSplit.f spec_ShortestSplit.f impl_ShortestSplit.f impl_lengthOf_ShortestSplit_1.f
  simp only [spec_slHeap_eq, impl_isSplitHeap_eq, Option.bind_some]
  cases hb : (inR r 0 2 && inR heap 1 60) with
  | false =>
    simp only [Bool.false_eq_true, if_false, Option.bind_some]
    exact Ev.now _
  | true =>
    rw [Bool.and_eq_true, inR_iff, inR_iff] at hb
    obtain ⟨o, ho, e1, e2⟩ := lenShortest_out r heap (by omega) (by omega) heap.toNat [0] 1 (by omega) (by omega) rfl
    have c1 : 0 ≤ heap := by omega
    have c2 : heap < (o.length : Int) := by omega
    simp only [if_true, Option.bind_assoc]
    refine Ev.bind e1 ?_
    simp only [if_pos c1, if_pos c2, Option.bind_some]
    refine Ev.bind e2 ?_
    simp
    exact Ev.now _

end Go.Proofs.Ytbamooigfbbkaaa.Pure
