/-
  The program's ScoreOfSplits returns what the reference's returns, for all arguments: the plain half, about the printed functions alone.
  Conditions: those of the statement's own row; none is added.
-/
import Derived.Test.YtbamooigfbbkaaaPAx25
namespace Go.Proofs.Ytbamooigfbbkaaa.Pure
set_option linter.unusedVariables false
set_option linter.unusedSimpArgs false
open Go.RowKit Go.Proofs.Ytbamooigfbbkaaa.PA Go.Proofs.YtbamooigfbbkaaaW.PrintWords Go.Proofs.YtbamooigfbbkaaaW.PrintLast Go.Proofs.YtbamooigfbbkaaaW.PrintMore Go.Proofs.YtbamooigfbbkaaaB

theorem Ev_add {α : Type} {g : Nat → Option α} {r : α} (m : Nat) (h : Ev (fun k => g (k + m)) r) : Ev g r := by
  obtain ⟨K, hK⟩ := h
  refine ⟨K + m, fun k hk => ?_⟩
  have h1 := hK (k - m) (by omega)
  simp only at h1
  rwa [Nat.sub_add_cancel (by omega)] at h1
theorem Ev_shift {α : Type} {g : Nat → Option α} {r : α} (m : Nat) (h : Ev g r) : Ev (fun k => g (k + m)) r := by
  obtain ⟨K, hK⟩ := h
  exact ⟨K, fun k hk => hK (k + m) (by omega)⟩
theorem wrap_id {x : Int} (h0 : -9223372036854775808 ≤ x) (h1 : x ≤ 9223372036854775807) : wrap64 x = x := by
  unfold wrap64
  omega
theorem rd_at (l : List Int) (i : Nat) (h : i < l.length) : rd l (i : Int) = l[i] := rd_get l i h
theorem rd_append_left (l m : List Int) (i : Int) (h0 : 0 ≤ i) (h : i < l.length) : rd (l ++ m) i = rd l i := by
  unfold rd
  rw [List.getD_eq_getElem?_getD, List.getD_eq_getElem?_getD, List.getElem?_append_left (by omega)]
/-- Can a heap be split so? -/
def canB (rule heap part : Int) : Bool := decide (1 ≤ part) && decide (2 * part ≤ heap) && (rule != 0 || decide (2 * part < heap)) && (rule != 2 || decide (2 ≤ part))
def inR (a lo hi : Int) : Bool := decide (lo ≤ a) && decide (a ≤ hi)
theorem inR_iff {a lo hi : Int} : inR a lo hi = true ↔ lo ≤ a ∧ a ≤ hi := by simp [inR]
/-- The heaps behind a split; false if it can't be made. -/
def mkSplit (r : Int) (l : List Int) (hp pt : Int) : List Int × Bool :=
  if (inR hp 0 ((l.length : Int) - 1) && canB r (rd l hp) pt) = true then ((l ++ [pt]).set hp.toNat (rd l hp - pt), true) else ([], false)
def goodE (l : List Int) : Prop := ∀ h ∈ l, 1 ≤ h ∧ h ≤ 60
theorem rd_good {l : List Int} (hA : goodE l) {i : Int} (h0 : 0 ≤ i) (h1 : i < l.length) : 1 ≤ rd l i ∧ rd l i ≤ 60 := by
  obtain ⟨n, rfl⟩ := Int.eq_ofNat_of_zero_le h0
  rw [rd_at l n (by omega)]
  exact hA _ (List.getElem_mem _)
theorem canB_bounds {r h p : Int} (hb : canB r h p = true) : 1 ≤ p ∧ 2 * p ≤ h := by
  simp only [canB, Bool.and_eq_true, decide_eq_true_eq] at hb
  exact ⟨hb.1.1.1, hb.1.1.2⟩
theorem mkSplit_good {r : Int} {l : List Int} (hA : goodE l) (hp pt : Int) : goodE (mkSplit r l hp pt).1 := by
  unfold mkSplit
  split
  · rename_i hb
    rw [Bool.and_eq_true, inR_iff] at hb
    obtain ⟨⟨h0, h1⟩, h2⟩ := hb
    have h3 := rd_good hA h0 (by omega)
    have h4 := canB_bounds h2
    intro h hh
    rcases List.mem_or_eq_of_mem_set hh with hm | rfl
    · rcases List.mem_append.1 hm with hm | hm
      · exact hA h hm
      · rw [List.mem_singleton.1 hm]
        omega
    · omega
  · intro h hh
    simp at hh
theorem mkSplit_length {r : Int} {l : List Int} (hp pt : Int) : (mkSplit r l hp pt).1.length ≤ l.length + 1 := by
  unfold mkSplit
  split <;> simp
/-- The heaps behind splits, one after the other. -/
def play (r : Int) : List Int → List S48 → List Int × Bool
  | l, [] => (l, true)
  | l, s :: t => if (mkSplit r l s.f0 s.f1).2 = true then play r (mkSplit r l s.f0 s.f1).1 t else ([], false)
theorem play_length (r : Int) : ∀ (t : List S48) (l : List Int), (play r l t).1.length ≤ l.length + t.length
  | [], l => by simp [play]
  | s :: t, l => by
    simp only [play]
    split
    · have h1 := play_length r t (mkSplit r l s.f0 s.f1).1
      have h2 := mkSplit_length (r := r) (l := l) s.f0 s.f1
      simp only [List.length_cons]
      omega
    · simp
theorem play_good (r : Int) : ∀ (t : List S48) (l : List Int), goodE l → goodE (play r l t).1
  | [], l, h => h
  | s :: t, l, h => by
    simp only [play]
    split
    · exact play_good r t _ (mkSplit_good h s.f0 s.f1)
    · intro x hx
      simp at hx
theorem spec_slCan_succ (k : Nat) (r h p : Int) (hh0 : 0 ≤ h) (hh1 : h ≤ 1000) : spec_slCan.f (k + 1) r h p = some (canB r h p) := by
  unfold spec_slCan.f
  have e1 : wrap64 (Int.tdiv h 2) = h / 2 := by rw [Int.tdiv_eq_ediv_of_nonneg hh0]; exact wrap_id (by omega) (by omega)
  simp only [spec_slCan.j0, e1]
  unfold canB
  by_cases c1 : p < 1
  · simp [c1]
    omega
  · by_cases c2 : p > h / 2
    · have c3 : ¬ 2 * p ≤ h := by omega
      simp [c1, c2, c3]
    · have c3 : 2 * p ≤ h := by omega
      have c4 : 1 ≤ p := by omega
      have e2 : wrap64 (2 * p) = 2 * p := wrap_id (by omega) (by omega)
      simp only [e2]
      by_cases c5 : r = 0
      · subst c5
        by_cases c6 : 2 * p = h
        · simp [c1, c2, c3, c4, c6]
        · have c7 : 2 * p < h := by omega
          simp [c1, c2, c3, c4, c6, c7]
      · by_cases c6 : r = 2
        · subst c6
          by_cases c7 : p > 1
          · have c8 : 2 ≤ p := by omega
            simp [c1, c2, c3, c4, c7, c8]
          · have c8 : ¬ 2 ≤ p := by omega
            simp [c1, c2, c3, c4, c7, c8]
        · simp [c1, c2, c3, c4, c5, c6]
theorem slCan_ev (r h p : Int) (hh0 : 0 ≤ h) (hh1 : h ≤ 1000) : Ev (fun k => spec_slCan.f k r h p) (canB r h p) := Ev_add 1 ⟨0, fun k _ => spec_slCan_succ k r h p hh0 hh1⟩
theorem spec_l1In_eq (a lo hi : Int) : spec_l1In.f a lo hi = some (inR a lo hi) := by
  unfold spec_l1In.f inR
  by_cases h : lo ≤ a <;> simp [h]
theorem spec_l1Own_eq (l : List Int) (hl : l.length < 17592186044416) : spec_l1Own.f l = some l := by
  unfold spec_l1Own.f
  simp [hl]
theorem spec_slMake_ev (r : Int) (l : List Int) (hp pt : Int) (hA : goodE l) (hL : l.length ≤ 2000000) : Ev (fun k => spec_slMake.f k r l hp pt) (mkSplit r l hp pt) := by
  have w1 : wrap64 ((l.length : Int) - 1) = (l.length : Int) - 1 := wrap_id (by omega) (by omega)
  unfold spec_slMake.f mkSplit
  simp only [spec_l1In_eq, Option.bind_some, w1]
  cases hb : inR hp 0 ((l.length : Int) - 1) with
  | false =>
    simp only [Bool.false_eq_true, if_false, Bool.false_and]
    exact Ev.now _
  | true =>
    rw [inR_iff] at hb
    have b1 : 0 ≤ hp := hb.1
    have b2 : hp < (l.length : Int) := by omega
    have h3 := rd_good hA b1 b2
    simp only [if_true, if_pos b1, if_pos b2, Bool.true_and]
    refine Ev.bind (slCan_ev r (rd l hp) pt (by omega) (by omega)) ?_
    cases hc : canB r (rd l hp) pt with
    | false =>
      simp only [Bool.false_eq_true, if_false]
      exact Ev.now _
    | true =>
      have h4 := canB_bounds hc
      have c3 : l.length + 1 < 17592186044416 := by omega
      have c4 : hp < ((l ++ [pt]).length : Int) := by simp; omega
      have w2 : wrap64 (rd l hp - pt) = rd l hp - pt := wrap_id (by omega) (by omega)
      simp only [if_true, spec_l1Own_eq l (by omega), Option.bind_some, List.length_singleton, if_pos c3, if_pos c4, rd_append_left l [pt] hp b1 b2, w2]
      exact Ev.now _
theorem impl_within_eq (a lo hi : Int) : impl_within.f a lo hi = some (inR a lo hi) := by
  unfold impl_within.f inR
  by_cases h : lo ≤ a <;> simp [h]
theorem impl_canSplit_eq (r h p : Int) (hh0 : 1 ≤ h) (hh1 : h ≤ 1000) : impl_canSplit.f r h p = some (canB r h p) := by
  unfold impl_canSplit.f
  simp only [impl_within_eq, Option.bind_some]
  have e1 : wrap64 (Int.tdiv h 2) = h / 2 := by rw [Int.tdiv_eq_ediv_of_nonneg (by omega)]; exact wrap_id (by omega) (by omega)
  by_cases c5 : r = 0
  · subst c5
    rw [if_pos rfl]
    congr 1
    rw [Bool.eq_iff_iff, inR_iff]
    have e2 : wrap64 (Int.tdiv (wrap64 (h - 1)) 2) = (h - 1) / 2 := by
      rw [wrap_id (x := h - 1) (by omega) (by omega), Int.tdiv_eq_ediv_of_nonneg (by omega)]; exact wrap_id (by omega) (by omega)
    rw [e2]
    simp [canB]
    omega
  · by_cases c6 : r = 2
    · subst c6
      simp only [if_neg c5, if_true, e1]
      congr 1
      rw [Bool.eq_iff_iff, inR_iff]
      simp [canB]
      omega
    · simp only [if_neg c5, if_neg c6, e1]
      congr 1
      rw [Bool.eq_iff_iff, inR_iff]
      simp [canB, c5, c6]
      omega
theorem slices_Clone_int_eq (l : List Int) (hl : l.length < 17592186044416) : slices_Clone_int_int.f l = some l := by
  unfold slices_Clone_int_int.f
  rw [if_pos hl]
theorem impl_makeSplit_eq (r : Int) (l : List Int) (hp pt : Int) (hA : goodE l) (hL : l.length ≤ 2000000) : impl_makeSplit.f r l hp pt = some (mkSplit r l hp pt) := by
  have w1 : wrap64 ((l.length : Int) - 1) = (l.length : Int) - 1 := wrap_id (by omega) (by omega)
  unfold impl_makeSplit.f mkSplit
  simp only [impl_within_eq, Option.bind_some, w1]
  cases hb : inR hp 0 ((l.length : Int) - 1) with
  | false => simp only [Bool.false_eq_true, if_false, Bool.false_and]
  | true =>
    rw [inR_iff] at hb
    have b1 : 0 ≤ hp := hb.1
    have b2 : hp < (l.length : Int) := by omega
    have h3 := rd_good hA b1 b2
    simp only [if_true, if_pos b1, if_pos b2, Bool.true_and, impl_canSplit_eq r (rd l hp) pt (by omega) (by omega), Option.bind_some]
    cases hc : canB r (rd l hp) pt with
    | false => simp only [Bool.false_eq_true, if_false]
    | true =>
      have h4 := canB_bounds hc
      have c3 : l.length + 1 < 17592186044416 := by omega
      have c4 : hp < ((l ++ [pt]).length : Int) := by simp; omega
      have w2 : wrap64 (rd l hp - pt) = rd l hp - pt := wrap_id (by omega) (by omega)
      simp only [if_true, slices_Clone_int_eq l (by omega), Option.bind_some, List.length_singleton, if_pos c3, if_pos c4, rd_append_left l [pt] hp b1 b2, w2]
theorem rdSplit_at (l : List S48) (i : Nat) (h : i < l.length) : rd_T48 l (i : Int) = l[i] := by
  unfold rd_T48
  rw [Int.toNat_natCast, List.getD_eq_getElem?_getD, List.getElem?_eq_getElem h]
  rfl
/-- The heaps behind splits and the sum of the products of the parts. -/
def scoreS (r : Int) : List Int → Int → List S48 → List Int × Int × Bool
  | l, z, [] => (l, z, true)
  | l, z, s :: t => if (mkSplit r l s.f0 s.f1).2 = true then scoreS r (mkSplit r l s.f0 s.f1).1 (wrap64 (z + wrap64 (s.f1 * rd (mkSplit r l s.f0 s.f1).1 s.f0))) t else ([], 0, false)
theorem mkSplit_true {r : Int} {l : List Int} {a b : Int} (h : (mkSplit r l a b).2 = true) : 0 ≤ a ∧ a < ((mkSplit r l a b).1.length : Int) := by
  unfold mkSplit at h ⊢
  split
  · rename_i hb
    rw [Bool.and_eq_true, inR_iff] at hb
    simp
    omega
  · rename_i hb
    rw [if_neg hb] at h
    cases h
theorem spec_slPlay_l0 (r : Int) (t : List S48) (ht : t.length ≤ 1000) : ∀ (d i : Nat) (l : List Int) (z : Int), i + d = t.length → goodE l → l.length + d ≤ 2000000 → Ev (fun k => spec_slPlay.l0 k r l z t (t.length : Int) (i : Int)) (scoreS r l z (t.drop i)) := by
  intro d
  induction d with
  | zero =>
    intro i l z hi hA hL
    have c1 : ¬ (i : Int) < (t.length : Int) := by omega
    refine Ev_add 1 ?_
    simp only [spec_slPlay.l0, if_neg c1]
    rw [List.drop_of_length_le (by omega)]
    exact Ev.now _
  | succ d ih =>
    intro i l z hi hA hL
    have hlt : i < t.length := by omega
    have c1 : (i : Int) < (t.length : Int) := by omega
    have c2 : 0 ≤ (i : Int) := by omega
    have w1 : wrap64 ((i : Int) + 1) = ((i + 1 : Nat) : Int) := by rw [wrap_id (by omega) (by omega)]; omega
    have hg := mkSplit_good (r := r) hA t[i].f0 t[i].f1
    have hn := mkSplit_length (r := r) (l := l) t[i].f0 t[i].f1
    refine Ev_add 1 ?_
    simp only [spec_slPlay.l0, if_pos c1, if_pos c2, rdSplit_at t i hlt, w1]
    refine Ev.bind (spec_slMake_ev r l _ _ hA (by omega)) ?_
    rw [List.drop_eq_getElem_cons hlt]
    simp only [scoreS]
    by_cases hb : (mkSplit r l t[i].f0 t[i].f1).2 = true
    · have hm := mkSplit_true hb
      simp only [if_pos hb, if_pos hm.1, if_pos hm.2]
      exact ih (i + 1) _ _ (by omega) hg (by omega)
    · simp only [if_neg hb]
      exact Ev.now _
theorem impl_ScoreOfSplits_l0 (t : List S48) (ht : t.length ≤ 1000) : ∀ (d i : Nat) (l : List Int) (z : Int), i + d = t.length → goodE l → l.length + d ≤ 2000000 → Ev (fun k => impl_ScoreOfSplits.l0 k z l t (t.length : Int) (i : Int)) ((scoreS 1 l z (t.drop i)).2) := by
  intro d
  induction d with
  | zero =>
    intro i l z hi hA hL
    have c1 : ¬ (i : Int) < (t.length : Int) := by omega
    refine Ev_add 1 ?_
    simp only [impl_ScoreOfSplits.l0, if_neg c1]
    rw [List.drop_of_length_le (by omega)]
    exact Ev.now _
  | succ d ih =>
    intro i l z hi hA hL
    have hlt : i < t.length := by omega
    have c1 : (i : Int) < (t.length : Int) := by omega
    have c2 : 0 ≤ (i : Int) := by omega
    have w1 : wrap64 ((i : Int) + 1) = ((i + 1 : Nat) : Int) := by rw [wrap_id (by omega) (by omega)]; omega
    have hg := mkSplit_good (r := 1) hA t[i].f0 t[i].f1
    have hn := mkSplit_length (r := 1) (l := l) t[i].f0 t[i].f1
    refine Ev_add 1 ?_
    simp only [impl_ScoreOfSplits.l0, if_pos c1, if_pos c2, rdSplit_at t i hlt, w1, impl_makeSplit_eq 1 l _ _ hA (show l.length ≤ 2000000 by omega), Option.bind_some]
    rw [List.drop_eq_getElem_cons hlt]
    simp only [scoreS]
    by_cases hb : (mkSplit 1 l t[i].f0 t[i].f1).2 = true
    · have hm := mkSplit_true hb
      simp only [if_pos hb, if_pos hm.1, if_pos hm.2]
      exact ih (i + 1) _ _ (by omega) hg (by omega)
    · simp only [if_neg hb]
      exact Ev.now _
theorem impl_isRule_eq (r : Int) : impl_isRule.f r = some (inR r 0 2) := by
  unfold impl_isRule.f
  rw [impl_within_eq]
  rfl
theorem impl_isSplitHeap_eq (r h m : Int) : impl_isSplitHeap.f r h m = some (inR r 0 2 && inR h 1 m) := by
  unfold impl_isSplitHeap.f
  rw [impl_isRule_eq, impl_within_eq]
  cases inR r 0 2 <;> rfl
theorem agree_ScoreOfSplits (h : Int) (t : List S48) : ∃ v, Ev (fun k => spec_ScoreOfSplits.f k h t) v ∧ Ev (fun k => impl_ScoreOfSplits.f k h t) v := by
  refine ⟨if (inR h 1 60 && decide (t.length ≤ 60)) = true then (scoreS 1 [h] 0 t).2 else (0, false), ?_, ?_⟩
  · unfold spec_ScoreOfSplits.f
    simp only [spec_l1In_eq, Option.bind_some]
    cases hb : inR h 1 60 with
    | false =>
      simp only [Bool.false_eq_true, if_false, Bool.false_and]
      exact Ev.now _
    | true =>
      rw [inR_iff] at hb
      simp only [if_true, Bool.true_and]
      by_cases c : t.length ≤ 60
      · have c' : ¬ (t.length : Int) > 60 := by omega
        simp only [if_neg c', decide_eq_true c, if_true]
        have hl := spec_slPlay_l0 1 t (by omega) t.length 0 [h] 0 (by omega) (by intro x hx; rw [List.mem_singleton.1 hx]; exact hb) (by simp; omega)
        unfold spec_slPlay.f
        simp only [spec_l1Own_eq [h] (by simp), Option.bind_some]
        refine Ev.bind (by simpa using hl) ?_
        exact Ev.now _
      · have c' : (t.length : Int) > 60 := by omega
        simp only [if_pos c', decide_eq_false c, Bool.false_eq_true, if_false]
        exact Ev.now _
  · unfold impl_ScoreOfSplits.f
    simp only [impl_isSplitHeap_eq, show inR 1 0 2 = true from rfl, Bool.true_and, Option.bind_some]
    cases hb : inR h 1 60 with
    | false =>
      simp only [Bool.false_eq_true, if_false, Bool.false_and]
      refine Ev_add 1 ?_
      simp only [impl_ScoreOfSplits.j0, if_true]
      exact Ev.now _
    | true =>
      rw [inR_iff] at hb
      simp only [if_true, Bool.true_and]
      refine Ev_add 1 ?_
      by_cases c : t.length ≤ 60
      · have c' : ¬ (t.length : Int) > 60 := by omega
        simp only [impl_ScoreOfSplits.j0, decide_eq_false c', decide_eq_true c, Bool.false_eq_true, if_false, if_true]
        simpa using impl_ScoreOfSplits_l0 t (by omega) t.length 0 [h] 0 (by omega) (by intro x hx; rw [List.mem_singleton.1 hx]; exact hb) (by simp; omega)
      · have c' : (t.length : Int) > 60 := by omega
        simp only [impl_ScoreOfSplits.j0, decide_eq_true c', decide_eq_false c, Bool.false_eq_true, if_false, if_true]
        exact Ev.now _
theorem rdLSplit_at (l : List S46) (i : Nat) (h : i < l.length) : rd_T46 l (i : Int) = l[i] := by
  unfold rd_T46
  rw [Int.toNat_natCast, List.getD_eq_getElem?_getD, List.getElem?_eq_getElem h]
  rfl
def cvS (x : S46) : S48 := ⟨x.f0, x.f1⟩
theorem toSplitS_l0 (l : List S46) (hl : l.length < 9223372036854775807) : ∀ (d k i : Nat) (out : List S48), i + d = l.length → d < k → out.length = l.length → out.take i = (l.map cvS).take i → laws_toSplitS.l0 k l out (i : Int) = some (l.map cvS) := by
  intro d
  induction d with
  | zero =>
    intro k i out h hk ho ht
    obtain ⟨k, rfl⟩ : ∃ m, k = m + 1 := ⟨k - 1, by omega⟩
    simp only [laws_toSplitS.l0]
    rw [if_neg (by omega)]
    rw [List.take_of_length_le (by omega), List.take_of_length_le (by simp; omega)] at ht
    rw [ht]
  | succ d ih =>
    intro k i out h hk ho ht
    obtain ⟨k, rfl⟩ : ∃ m, k = m + 1 := ⟨k - 1, by omega⟩
    have hi : i < l.length := by omega
    have e : (i : Int) + 1 = ((i + 1 : Nat) : Int) := by omega
    simp only [laws_toSplitS.l0]
    rw [if_pos (by omega), if_pos (by omega), rdLSplit_at l i hi]
    simp only [laws_toSplit.f, Option.bind_some]
    rw [if_pos (by omega), wrap_id (by omega) (by omega), e, Int.toNat_natCast]
    refine ih k (i + 1) _ (by omega) (by omega) (by simpa using ho) ?_
    rw [List.take_succ_eq_append_getElem (by simpa using by omega), List.take_succ_eq_append_getElem (by simpa using hi), List.getElem_set_self, List.take_set_of_le (Nat.le_refl i), ht, List.getElem_map]
    rfl
theorem toSplitS_ev (l : List S46) (hl : l.length ≤ 1048576) : Ev (fun k => laws_toSplitS.f k l) (l.map cvS) :=
  ⟨l.length + 1, fun k hk => by
    have h := toSplitS_l0 l (by omega) l.length k 0 (List.replicate l.length z48) (by omega) (by omega) (by simp) rfl
    show laws_toSplitS.f k l = _
    unfold laws_toSplitS.f
    rw [if_pos (by omega), if_pos (by omega)]
    simpa using h⟩
theorem eqSplitS_l0 (a : List S48) (hm : a.length < 9223372036854775807) : ∀ (d k i : Nat), i + d = a.length → d < k → laws_eqSplitS.l0 k a a (i : Int) = some true := by
  intro d
  induction d with
  | zero =>
    intro k i h hk
    obtain ⟨k, rfl⟩ : ∃ m, k = m + 1 := ⟨k - 1, by omega⟩
    simp only [laws_eqSplitS.l0]
    rw [if_neg (by omega)]
  | succ d ih =>
    intro k i h hk
    obtain ⟨k, rfl⟩ : ∃ m, k = m + 1 := ⟨k - 1, by omega⟩
    have hi : i < a.length := by omega
    have e : (i : Int) + 1 = ((i + 1 : Nat) : Int) := by omega
    simp only [laws_eqSplitS.l0]
    rw [if_pos (by omega), if_pos (by omega), if_pos (by omega), rdSplit_at a i hi, wrap_id (by omega) (by omega), e]
    simp only [laws_eqSplit.f, if_true, Option.bind_some]
    exact ih k (i + 1) (by omega) (by omega)
theorem eqSplitS_self (a : List S48) (hm : a.length < 9223372036854775807) : Ev (fun k => laws_eqSplitS.f k a a) true := by
  refine ⟨a.length + 1, fun k hk => ?_⟩
  have h := eqSplitS_l0 a hm a.length k 0 (by omega) (by omega)
  show laws_eqSplitS.f k a a = _
  unfold laws_eqSplitS.f
  rw [if_pos rfl]
  simpa using h
theorem FnExactScoreOfSplits : laws_FnExactScoreOfSplits.Pure := by
  intro h l _ hw
  refine Ev.rounds (g := fun k => laws_FnExactScoreOfSplits.f k h l) ?_
  unfold laws_FnExactScoreOfSplits.f laws_szSplitS.f
  have hm := hw.1
  unfold maxLen at hm
  have w1 : wrap64 (1048576 - (l.length : Int)) = 1048576 - (l.length : Int) := wrap_id (by omega) (by omega)
  simp only [w1]
  by_cases c : 1048576 - (l.length : Int) < 0
  · simp only [if_pos c, Option.bind_some, show ((-1 : Int) < 0) from by omega, if_true]
    exact Ev.now _
  · have hl : l.length ≤ 1048576 := by omega
    obtain ⟨⟨v1, v2⟩, hs, hi⟩ := agree_ScoreOfSplits h (l.map cvS)
    have hT := toSplitS_ev l hl
    have hE := eqSplitS_self (l.map cvS) (by simp; omega)
    simp only [if_neg c, Option.bind_some]
    repeat (first
      | exact Ev.now _
      | refine Ev.bind hT ?_
      | refine Ev.bind hs ?_
      | refine Ev.bind hi ?_
      | refine Ev.bind hE ?_
      | simp only [if_true, bne_self_eq_false, Bool.false_eq_true, if_false]
      | (refine Ev_add 1 ?_; simp only [laws_FnExactScoreOfSplits.j0]))

end Go.Proofs.Ytbamooigfbbkaaa.Pure
