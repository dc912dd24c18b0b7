/-
  The program's PlaySplits returns what the reference's returns, for all arguments: the plain half, about the printed functions alone.
  Conditions: those of the statement's own row; none is added.
-/
import Derived.Test.YtnfofdocnnndnaaPBx10
namespace Go.Proofs.Ytnfofdocnnndnaa.Pure
set_option linter.unusedVariables false
set_option linter.unusedSimpArgs false
open Go.RowKit Go.Proofs.Ytnfofdocnnndnaa.PB Go.Proofs.YtnfofdocnnndnaaW.PrintWords Go.Proofs.YtnfofdocnnndnaaW.PrintLast Go.Proofs.YtnfofdocnnndnaaW.PrintMore Go.Proofs.YtnfofdocnnndnaaB

theorem Ev_add {α : Type} {g : Nat → Option α} {r : α} (m : Nat) (h : Ev (fun k => g (k + m)) r) : Ev g r := by
  obtain ⟨K, hK⟩ := h
  refine ⟨K + m, fun k hk => ?_⟩
  have h1 := hK (k - m) (by omega)
  simp only at h1
  rwa [Nat.sub_add_cancel (by omega)] at h1
theorem Ev_shift {α : Type} {g : Nat → Option α} {r : α} (m : Nat) (h : Ev g r) : Ev (fun k => g (k + m)) r := by
  obtain ⟨K, hK⟩ := h
  exact ⟨K, fun k hk => hK (k + m) (by omega)⟩
theorem wrap_id {x : Int} (h0 : -9223372036854775808 ≤ x) (h1 : x ≤ 9223372036854775807) : wrap64 x = x := by
  unfold wrap64
  omega
theorem rd_at (l : List Int) (i : Nat) (h : i < l.length) : rd l (i : Int) = l[i] := rd_get l i h
theorem rd_append_left (l m : List Int) (i : Int) (h0 : 0 ≤ i) (h : i < l.length) : rd (l ++ m) i = rd l i := by
  unfold rd
  rw [List.getD_eq_getElem?_getD, List.getD_eq_getElem?_getD, List.getElem?_append_left (by omega)]
/-- Can a heap be split so? -/
def canB (rule heap part : Int) : Bool := decide (1 ≤ part) && decide (2 * part ≤ heap) && (rule != 0 || decide (2 * part < heap)) && (rule != 2 || decide (2 ≤ part))
def inR (a lo hi : Int) : Bool := decide (lo ≤ a) && decide (a ≤ hi)
theorem inR_iff {a lo hi : Int} : inR a lo hi = true ↔ lo ≤ a ∧ a ≤ hi := by simp [inR]
/-- The heaps behind a split; false if it can't be made. -/
def mkSplit (r : Int) (l : List Int) (hp pt : Int) : List Int × Bool :=
  if (inR hp 0 ((l.length : Int) - 1) && canB r (rd l hp) pt) = true then ((l ++ [pt]).set hp.toNat (rd l hp - pt), true) else ([], false)
def goodE (l : List Int) : Prop := ∀ h ∈ l, 1 ≤ h ∧ h ≤ 60
theorem rd_good {l : List Int} (hA : goodE l) {i : Int} (h0 : 0 ≤ i) (h1 : i < l.length) : 1 ≤ rd l i ∧ rd l i ≤ 60 := by
  obtain ⟨n, rfl⟩ := Int.eq_ofNat_of_zero_le h0
  rw [rd_at l n (by omega)]
  exact hA _ (List.getElem_mem _)
theorem canB_bounds {r h p : Int} (hb : canB r h p = true) : 1 ≤ p ∧ 2 * p ≤ h := by
  simp only [canB, Bool.and_eq_true, decide_eq_true_eq] at hb
  exact ⟨hb.1.1.1, hb.1.1.2⟩
theorem mkSplit_good {r : Int} {l : List Int} (hA : goodE l) (hp pt : Int) : goodE (mkSplit r l hp pt).1 := by
  unfold mkSplit
  split
  · rename_i hb
    rw [Bool.and_eq_true, inR_iff] at hb
    obtain ⟨⟨h0, h1⟩, h2⟩ := hb
    have h3 := rd_good hA h0 (by omega)
    have h4 := canB_bounds h2
    intro h hh
    rcases List.mem_or_eq_of_mem_set hh with hm | rfl
    · rcases List.mem_append.1 hm with hm | hm
      · exact hA h hm
      · rw [List.mem_singleton.1 hm]
        omega
    · omega
  · intro h hh
    simp at hh
theorem mkSplit_length {r : Int} {l : List Int} (hp pt : Int) : (mkSplit r l hp pt).1.length ≤ l.length + 1 := by
  unfold mkSplit
  split <;> simp
/-- The heaps behind splits, one after the other. -/
def play (r : Int) : List Int → List S49 → List Int × Bool
  | l, [] => (l, true)
  | l, s :: t => if (mkSplit r l s.f0 s.f1).2 = true then play r (mkSplit r l s.f0 s.f1).1 t else ([], false)
theorem play_length (r : Int) : ∀ (t : List S49) (l : List Int), (play r l t).1.length ≤ l.length + t.length
  | [], l => by simp [play]
  | s :: t, l => by
    simp only [play]
    split
    · have h1 := play_length r t (mkSplit r l s.f0 s.f1).1
      have h2 := mkSplit_length (r := r) (l := l) s.f0 s.f1
      simp only [List.length_cons]
      omega
    · simp
theorem play_good (r : Int) : ∀ (t : List S49) (l : List Int), goodE l → goodE (play r l t).1
  | [], l, h => h
  | s :: t, l, h => by
    simp only [play]
    split
    · exact play_good r t _ (mkSplit_good h s.f0 s.f1)
    · intro x hx
      simp at hx
theorem impl_within_eq (a lo hi : Int) : impl_within.f a lo hi = some (inR a lo hi) := by
  unfold impl_within.f inR
  by_cases h : lo ≤ a <;> simp [h]
theorem impl_canSplit_eq (r h p : Int) (hh0 : 1 ≤ h) (hh1 : h ≤ 1000) : impl_canSplit.f r h p = some (canB r h p) := by
  unfold impl_canSplit.f
  simp only [impl_within_eq, Option.bind_some]
  have e1 : wrap64 (Int.tdiv h 2) = h / 2 := by rw [Int.tdiv_eq_ediv_of_nonneg (by omega)]; exact wrap_id (by omega) (by omega)
  by_cases c5 : r = 0
  · subst c5
    rw [if_pos rfl]
    congr 1
    rw [Bool.eq_iff_iff, inR_iff]
    have e2 : wrap64 (Int.tdiv (wrap64 (h - 1)) 2) = (h - 1) / 2 := by
      rw [wrap_id (x := h - 1) (by omega) (by omega), Int.tdiv_eq_ediv_of_nonneg (by omega)]; exact wrap_id (by omega) (by omega)
    rw [e2]
    simp [canB]
    omega
  · by_cases c6 : r = 2
    · subst c6
      simp only [if_neg c5, if_true, e1]
      congr 1
      rw [Bool.eq_iff_iff, inR_iff]
      simp [canB]
      omega
    · simp only [if_neg c5, if_neg c6, e1]
      congr 1
      rw [Bool.eq_iff_iff, inR_iff]
      simp [canB, c5, c6]
      omega
theorem slices_Clone_int_eq (l : List Int) (hl : l.length < 17592186044416) : slices_Clone_int_int.f l = some l := by
  unfold slices_Clone_int_int.f
  rw [if_pos hl]
theorem impl_makeSplit_eq (r : Int) (l : List Int) (hp pt : Int) (hA : goodE l) (hL : l.length ≤ 2000000) : impl_makeSplit.f r l hp pt = some (mkSplit r l hp pt) := by
  have w1 : wrap64 ((l.length : Int) - 1) = (l.length : Int) - 1 := wrap_id (by omega) (by omega)
  unfold impl_makeSplit.f mkSplit
  simp only [impl_within_eq, Option.bind_some, w1]
  cases hb : inR hp 0 ((l.length : Int) - 1) with
  | false => simp only [Bool.false_eq_true, if_false, Bool.false_and]
  | true =>
    rw [inR_iff] at hb
    have b1 : 0 ≤ hp := hb.1
    have b2 : hp < (l.length : Int) := by omega
    have h3 := rd_good hA b1 b2
    simp only [if_true, if_pos b1, if_pos b2, Bool.true_and, impl_canSplit_eq r (rd l hp) pt (by omega) (by omega), Option.bind_some]
    cases hc : canB r (rd l hp) pt with
    | false => simp only [Bool.false_eq_true, if_false]
    | true =>
      have h4 := canB_bounds hc
      have c3 : l.length + 1 < 17592186044416 := by omega
      have c4 : hp < ((l ++ [pt]).length : Int) := by simp; omega
      have w2 : wrap64 (rd l hp - pt) = rd l hp - pt := wrap_id (by omega) (by omega)
      simp only [if_true, slices_Clone_int_eq l (by omega), Option.bind_some, List.length_singleton, if_pos c3, if_pos c4, rd_append_left l [pt] hp b1 b2, w2]
theorem impl_isRule_eq (r : Int) : impl_isRule.f r = some (inR r 0 2) := by
  unfold impl_isRule.f
  rw [impl_within_eq]
  rfl
def goodH (l : List Int) : Bool := inR (l.length : Int) 1 8 && l.all fun x => inR x 1 60
theorem goodH_iff {l : List Int} : goodH l = true ↔ (1 ≤ l.length ∧ l.length ≤ 8) ∧ ∀ h ∈ l, 1 ≤ h ∧ h ≤ 60 := by
  unfold goodH
  rw [Bool.and_eq_true, inR_iff, List.all_eq_true]
  simp only [inR_iff]
  constructor
  · rintro ⟨h1, h2⟩
    exact ⟨by omega, h2⟩
  · rintro ⟨h1, h2⟩
    exact ⟨by omega, h2⟩
theorem impl_areIn_eq (l : List Int) (lo hi : Int) : impl_areIn.f l lo hi = some (l.all fun x => inR x lo hi) := by
  unfold impl_areIn.f
  simp only [impl_within_eq, Option.bind_some]
  rw [anyO_some]
  simp only [Option.bind_some]
  congr 1
  induction l with
  | nil => rfl
  | cons x xs ih => simp only [List.any_cons, List.all_cons, Bool.not_or, Bool.not_not, ih]
theorem impl_AreSplitHeaps_eq (l : List Int) : impl_AreSplitHeaps.f l = some (goodH l) := by
  unfold impl_AreSplitHeaps.f goodH
  simp only [impl_within_eq, impl_areIn_eq, Option.bind_some]
  cases inR (l.length : Int) 1 8 <;> rfl
theorem impl_isSplitRule_eq (r : Int) (l : List Int) : impl_isSplitRule.f r l = some (inR r 0 2 && goodH l) := by
  unfold impl_isSplitRule.f
  simp only [impl_isRule_eq, impl_AreSplitHeaps_eq, Option.bind_some]
  cases inR r 0 2 <;> rfl
theorem rdSplit_at (l : List S49) (i : Nat) (h : i < l.length) : rd_T49 l (i : Int) = l[i] := by
  unfold rd_T49
  rw [Int.toNat_natCast, List.getD_eq_getElem?_getD, List.getElem?_eq_getElem h]
  rfl
theorem impl_PlaySplits_l0 (r : Int) (t : List S49) (ht : t.length ≤ 1000) : ∀ (d i : Nat) (l : List Int), i + d = t.length → goodE l → l.length + d ≤ 2000000 → Ev (fun k => impl_PlaySplits.l0 k r l t (t.length : Int) (i : Int)) (play r l (t.drop i)) := by
  intro d
  induction d with
  | zero =>
    intro i l hi hA hL
    have c1 : ¬ (i : Int) < (t.length : Int) := by omega
    refine Ev_add 1 ?_
    simp only [impl_PlaySplits.l0, if_neg c1]
    rw [List.drop_of_length_le (by omega)]
    exact Ev.now _
  | succ d ih =>
    intro i l hi hA hL
    have hlt : i < t.length := by omega
    have c1 : (i : Int) < (t.length : Int) := by omega
    have c2 : 0 ≤ (i : Int) := by omega
    have w1 : wrap64 ((i : Int) + 1) = ((i + 1 : Nat) : Int) := by rw [wrap_id (by omega) (by omega)]; omega
    have hg := mkSplit_good (r := r) hA t[i].f0 t[i].f1
    have hn := mkSplit_length (r := r) (l := l) t[i].f0 t[i].f1
    refine Ev_add 1 ?_
    simp only [impl_PlaySplits.l0, if_pos c1, if_pos c2, rdSplit_at t i hlt, impl_makeSplit_eq r l _ _ hA (by omega), Option.bind_some, w1]
    rw [List.drop_eq_getElem_cons hlt]
    simp only [play]
    by_cases hb : (mkSplit r l t[i].f0 t[i].f1).2 = true
    · simp only [if_pos hb]
      exact ih (i + 1) _ (by omega) hg (by omega)
    · simp only [if_neg hb]
      exact Ev.now _
theorem impl_PlaySplits_ev (r : Int) (l : List Int) (t : List S49) (hl : l.length ≤ 1048576) : Ev (fun k => impl_PlaySplits.f k r l t) (if (inR r 0 2 && goodH l && decide (t.length ≤ 60)) = true then play r l t else ([], false)) := by
  unfold impl_PlaySplits.f
  simp only [impl_isSplitRule_eq, Option.bind_some]
  cases hb : (inR r 0 2 && goodH l) with
  | false =>
    simp only [Bool.false_eq_true, if_false, Bool.false_and]
    refine Ev_add 1 ?_
    simp only [impl_PlaySplits.j0, if_true]
    exact Ev.now _
  | true =>
    rw [Bool.and_eq_true, inR_iff, goodH_iff] at hb
    simp only [if_true, Bool.true_and]
    by_cases c : t.length ≤ 60
    · have c' : ¬ (t.length : Int) > 60 := by omega
      simp only [decide_eq_false c', decide_eq_true c, if_true]
      refine Ev_add 1 ?_
      simp only [impl_PlaySplits.j0, Bool.false_eq_true, if_false, slices_Clone_int_eq l (by omega), Option.bind_some]
      simpa using impl_PlaySplits_l0 r t (by omega) t.length 0 l (by omega) hb.2.2 (by omega)
    · have c' : (t.length : Int) > 60 := by omega
      simp only [decide_eq_true c', decide_eq_false c, Bool.false_eq_true, if_false]
      refine Ev_add 1 ?_
      simp only [impl_PlaySplits.j0, if_true]
      exact Ev.now _
theorem spec_l1In_eq (a lo hi : Int) : spec_l1In.f a lo hi = some (inR a lo hi) := by
  unfold spec_l1In.f inR
  by_cases h : lo ≤ a <;> simp [h]
theorem spec_slRule_eq (r : Int) : spec_slRule.f r = some (inR r 0 2) := by
  unfold spec_slRule.f
  rw [spec_l1In_eq]
  rfl
theorem spec_l1All_l0 (lo hi : Int) (l : List Int) (hl : l.length < 9223372036854775807) : ∀ (d k i : Nat), i + d = l.length → d < k → spec_l1All.l0 k lo hi l (l.length : Int) (i : Int) = some ((l.drop i).all fun x => inR x lo hi) := by
  intro d
  induction d with
  | zero =>
    intro k i h hk
    obtain ⟨k, rfl⟩ : ∃ m, k = m + 1 := ⟨k - 1, by omega⟩
    simp only [spec_l1All.l0]
    rw [if_neg (by omega), List.drop_of_length_le (by omega)]
    rfl
  | succ d ih =>
    intro k i h hk
    obtain ⟨k, rfl⟩ : ∃ m, k = m + 1 := ⟨k - 1, by omega⟩
    have hil : i < l.length := by omega
    have e : (i : Int) + 1 = ((i + 1 : Nat) : Int) := by omega
    simp only [spec_l1All.l0]
    rw [if_pos (by omega), if_pos (by omega), if_pos (by omega), spec_l1In_eq, rd_at l i hil, List.drop_eq_getElem_cons hil, List.all_cons, wrap_id (by omega) (by omega), e]
    simp only [Option.bind_some]
    cases hb : inR l[i] lo hi with
    | true => simpa using ih k (i + 1) (by omega) (by omega)
    | false => simp
theorem spec_l1All_ev (l : List Int) (lo hi : Int) (hl : l.length < 9223372036854775807) : Ev (fun k => spec_l1All.f k l lo hi) (l.all fun x => inR x lo hi) :=
  ⟨l.length + 1, fun k hk => by
    have := spec_l1All_l0 lo hi l hl l.length k 0 (by omega) (by omega)
    simpa [spec_l1All.f] using this⟩
theorem spec_slGood_ev (l : List Int) (hl : l.length < 9223372036854775807) : Ev (fun k => spec_slGood.f k l) (goodH l) := by
  unfold spec_slGood.f goodH
  simp only [spec_l1In_eq, Option.bind_some]
  cases hb : inR (l.length : Int) 1 8 with
  | false =>
    simp only [Bool.false_eq_true, if_false, Bool.false_and]
    exact Ev.now _
  | true =>
    simp only [if_true, Bool.true_and]
    refine Ev.bind (spec_l1All_ev l 1 60 hl) ?_
    exact Ev.now _
theorem spec_slAsked_ev (r : Int) (l : List Int) (hl : l.length < 9223372036854775807) : Ev (fun k => spec_slAsked.f k r l) (inR r 0 2 && goodH l) := by
  unfold spec_slAsked.f
  simp only [spec_slRule_eq, Option.bind_some]
  cases hb : inR r 0 2 with
  | false =>
    simp only [Bool.false_eq_true, if_false, Bool.false_and]
    exact Ev.now _
  | true =>
    simp only [if_true, Bool.true_and]
    refine Ev.bind (spec_slGood_ev l hl) ?_
    exact Ev.now _
theorem spec_slCan_succ (k : Nat) (r h p : Int) (hh0 : 0 ≤ h) (hh1 : h ≤ 1000) : spec_slCan.f (k + 1) r h p = some (canB r h p) := by
  unfold spec_slCan.f
  have e1 : wrap64 (Int.tdiv h 2) = h / 2 := by rw [Int.tdiv_eq_ediv_of_nonneg hh0]; exact wrap_id (by omega) (by omega)
  simp only [spec_slCan.j0, e1]
  unfold canB
  by_cases c1 : p < 1
  · simp [c1]
    omega
  · by_cases c2 : p > h / 2
    · have c3 : ¬ 2 * p ≤ h := by omega
      simp [c1, c2, c3]
    · have c3 : 2 * p ≤ h := by omega
      have c4 : 1 ≤ p := by omega
      have e2 : wrap64 (2 * p) = 2 * p := wrap_id (by omega) (by omega)
      simp only [e2]
      by_cases c5 : r = 0
      · subst c5
        by_cases c6 : 2 * p = h
        · simp [c1, c2, c3, c4, c6]
        · have c7 : 2 * p < h := by omega
          simp [c1, c2, c3, c4, c6, c7]
      · by_cases c6 : r = 2
        · subst c6
          by_cases c7 : p > 1
          · have c8 : 2 ≤ p := by omega
            simp [c1, c2, c3, c4, c7, c8]
          · have c8 : ¬ 2 ≤ p := by omega
            simp [c1, c2, c3, c4, c7, c8]
        · simp [c1, c2, c3, c4, c5, c6]
theorem slCan_ev (r h p : Int) (hh0 : 0 ≤ h) (hh1 : h ≤ 1000) : Ev (fun k => spec_slCan.f k r h p) (canB r h p) := Ev_add 1 ⟨0, fun k _ => spec_slCan_succ k r h p hh0 hh1⟩
theorem spec_l1Own_eq (l : List Int) (hl : l.length < 17592186044416) : spec_l1Own.f l = some l := by
  unfold spec_l1Own.f
  simp [hl]
theorem spec_slMake_ev (r : Int) (l : List Int) (hp pt : Int) (hA : goodE l) (hL : l.length ≤ 2000000) : Ev (fun k => spec_slMake.f k r l hp pt) (mkSplit r l hp pt) := by
  have w1 : wrap64 ((l.length : Int) - 1) = (l.length : Int) - 1 := wrap_id (by omega) (by omega)
  unfold spec_slMake.f mkSplit
  simp only [spec_l1In_eq, Option.bind_some, w1]
  cases hb : inR hp 0 ((l.length : Int) - 1) with
  | false =>
    simp only [Bool.false_eq_true, if_false, Bool.false_and]
    exact Ev.now _
  | true =>
    rw [inR_iff] at hb
    have b1 : 0 ≤ hp := hb.1
    have b2 : hp < (l.length : Int) := by omega
    have h3 := rd_good hA b1 b2
    simp only [if_true, if_pos b1, if_pos b2, Bool.true_and]
    refine Ev.bind (slCan_ev r (rd l hp) pt (by omega) (by omega)) ?_
    cases hc : canB r (rd l hp) pt with
    | false =>
      simp only [Bool.false_eq_true, if_false]
      exact Ev.now _
    | true =>
      have h4 := canB_bounds hc
      have c3 : l.length + 1 < 17592186044416 := by omega
      have c4 : hp < ((l ++ [pt]).length : Int) := by simp; omega
      have w2 : wrap64 (rd l hp - pt) = rd l hp - pt := wrap_id (by omega) (by omega)
      simp only [if_true, spec_l1Own_eq l (by omega), Option.bind_some, List.length_singleton, if_pos c3, if_pos c4, rd_append_left l [pt] hp b1 b2, w2]
      exact Ev.now _
/-- The heaps behind splits and the sum of the products of the parts. -/
def scoreS (r : Int) : List Int → Int → List S49 → List Int × Int × Bool
  | l, z, [] => (l, z, true)
  | l, z, s :: t => if (mkSplit r l s.f0 s.f1).2 = true then scoreS r (mkSplit r l s.f0 s.f1).1 (wrap64 (z + wrap64 (s.f1 * rd (mkSplit r l s.f0 s.f1).1 s.f0))) t else ([], 0, false)
theorem mkSplit_true {r : Int} {l : List Int} {a b : Int} (h : (mkSplit r l a b).2 = true) : 0 ≤ a ∧ a < ((mkSplit r l a b).1.length : Int) := by
  unfold mkSplit at h ⊢
  split
  · rename_i hb
    rw [Bool.and_eq_true, inR_iff] at hb
    simp
    omega
  · rename_i hb
    rw [if_neg hb] at h
    cases h
theorem spec_slPlay_l0 (r : Int) (t : List S49) (ht : t.length ≤ 1000) : ∀ (d i : Nat) (l : List Int) (z : Int), i + d = t.length → goodE l → l.length + d ≤ 2000000 → Ev (fun k => spec_slPlay.l0 k r l z t (t.length : Int) (i : Int)) (scoreS r l z (t.drop i)) := by
  intro d
  induction d with
  | zero =>
    intro i l z hi hA hL
    have c1 : ¬ (i : Int) < (t.length : Int) := by omega
    refine Ev_add 1 ?_
    simp only [spec_slPlay.l0, if_neg c1]
    rw [List.drop_of_length_le (by omega)]
    exact Ev.now _
  | succ d ih =>
    intro i l z hi hA hL
    have hlt : i < t.length := by omega
    have c1 : (i : Int) < (t.length : Int) := by omega
    have c2 : 0 ≤ (i : Int) := by omega
    have w1 : wrap64 ((i : Int) + 1) = ((i + 1 : Nat) : Int) := by rw [wrap_id (by omega) (by omega)]; omega
    have hg := mkSplit_good (r := r) hA t[i].f0 t[i].f1
    have hn := mkSplit_length (r := r) (l := l) t[i].f0 t[i].f1
    refine Ev_add 1 ?_
    simp only [spec_slPlay.l0, if_pos c1, if_pos c2, rdSplit_at t i hlt, w1]
    refine Ev.bind (spec_slMake_ev r l _ _ hA (by omega)) ?_
    rw [List.drop_eq_getElem_cons hlt]
    simp only [scoreS]
    by_cases hb : (mkSplit r l t[i].f0 t[i].f1).2 = true
    · have hm := mkSplit_true hb
      simp only [if_pos hb, if_pos hm.1, if_pos hm.2]
      exact ih (i + 1) _ _ (by omega) hg (by omega)
    · simp only [if_neg hb]
      exact Ev.now _
theorem scoreS_play (r : Int) : ∀ (t : List S49) (l : List Int) (z : Int), (scoreS r l z t).1 = (play r l t).1 ∧ (scoreS r l z t).2.2 = (play r l t).2
  | [], l, z => ⟨rfl, rfl⟩
  | s :: t, l, z => by
    simp only [scoreS, play]
    split
    · exact scoreS_play r t _ _
    · exact ⟨rfl, rfl⟩
theorem agree_PlaySplits (r : Int) (l : List Int) (t : List S49) (hl : l.length ≤ 1048576) : ∃ v, Ev (fun k => spec_PlaySplits.f k r l t) v ∧ Ev (fun k => impl_PlaySplits.f k r l t) v ∧ v.1.length ≤ 2000000 := by
  refine ⟨_, ?_, impl_PlaySplits_ev r l t hl, ?_⟩
  · unfold spec_PlaySplits.f
    refine Ev.bind (spec_slAsked_ev r l (by omega)) ?_
    cases hb : (inR r 0 2 && goodH l) with
    | false =>
      simp only [Bool.false_eq_true, if_false, Bool.false_and]
      exact Ev.now _
    | true =>
      rw [Bool.and_eq_true, inR_iff, goodH_iff] at hb
      simp only [if_true, Bool.true_and]
      by_cases c : t.length ≤ 60
      · have c' : ¬ (t.length : Int) > 60 := by omega
        simp only [if_neg c', decide_eq_true c, if_true]
        have hp := spec_slPlay_l0 r t (by omega) t.length 0 l 0 (by omega) hb.2.2 (by omega)
        have hs := scoreS_play r t l 0
        unfold spec_slPlay.f
        simp only [spec_l1Own_eq l (by omega), Option.bind_some]
        refine Ev.bind (by simpa using hp) ?_
        rw [hs.1, hs.2]
        exact Ev.now _
      · have c' : (t.length : Int) > 60 := by omega
        simp only [if_pos c', decide_eq_false c, Bool.false_eq_true, if_false]
        exact Ev.now _
  · split
    · rename_i hb
      rw [Bool.and_eq_true, decide_eq_true_eq, Bool.and_eq_true, goodH_iff] at hb
      have := play_length r t l
      omega
    · simp
theorem rdLSplit_at (l : List S65) (i : Nat) (h : i < l.length) : rd_T65 l (i : Int) = l[i] := by
  unfold rd_T65
  rw [Int.toNat_natCast, List.getD_eq_getElem?_getD, List.getElem?_eq_getElem h]
  rfl
def cvS (x : S65) : S49 := ⟨x.f0, x.f1⟩
theorem toSplitS_l0 (l : List S65) (hl : l.length < 9223372036854775807) : ∀ (d k i : Nat) (out : List S49), i + d = l.length → d < k → out.length = l.length → out.take i = (l.map cvS).take i → laws_toSplitS.l0 k l out (i : Int) = some (l.map cvS) := by
  intro d
  induction d with
  | zero =>
    intro k i out h hk ho ht
    obtain ⟨k, rfl⟩ : ∃ m, k = m + 1 := ⟨k - 1, by omega⟩
    simp only [laws_toSplitS.l0]
    rw [if_neg (by omega)]
    rw [List.take_of_length_le (by omega), List.take_of_length_le (by simp; omega)] at ht
    rw [ht]
  | succ d ih =>
    intro k i out h hk ho ht
    obtain ⟨k, rfl⟩ : ∃ m, k = m + 1 := ⟨k - 1, by omega⟩
    have hi : i < l.length := by omega
    have e : (i : Int) + 1 = ((i + 1 : Nat) : Int) := by omega
    simp only [laws_toSplitS.l0]
    rw [if_pos (by omega), if_pos (by omega), rdLSplit_at l i hi]
    simp only [laws_toSplit.f, Option.bind_some]
    rw [if_pos (by omega), wrap_id (by omega) (by omega), e, Int.toNat_natCast]
    refine ih k (i + 1) _ (by omega) (by omega) (by simpa using ho) ?_
    rw [List.take_succ_eq_append_getElem (by simpa using by omega), List.take_succ_eq_append_getElem (by simpa using hi), List.getElem_set_self, List.take_set_of_le (Nat.le_refl i), ht, List.getElem_map]
    rfl
theorem toSplitS_ev (l : List S65) (hl : l.length ≤ 1048576) : Ev (fun k => laws_toSplitS.f k l) (l.map cvS) :=
  ⟨l.length + 1, fun k hk => by
    have h := toSplitS_l0 l (by omega) l.length k 0 (List.replicate l.length z49) (by omega) (by omega) (by simp) rfl
    show laws_toSplitS.f k l = _
    unfold laws_toSplitS.f
    rw [if_pos (by omega), if_pos (by omega)]
    simpa using h⟩
theorem eqSplitS_l0 (a : List S49) (hm : a.length < 9223372036854775807) : ∀ (d k i : Nat), i + d = a.length → d < k → laws_eqSplitS.l0 k a a (i : Int) = some true := by
  intro d
  induction d with
  | zero =>
    intro k i h hk
    obtain ⟨k, rfl⟩ : ∃ m, k = m + 1 := ⟨k - 1, by omega⟩
    simp only [laws_eqSplitS.l0]
    rw [if_neg (by omega)]
  | succ d ih =>
    intro k i h hk
    obtain ⟨k, rfl⟩ : ∃ m, k = m + 1 := ⟨k - 1, by omega⟩
    have hi : i < a.length := by omega
    have e : (i : Int) + 1 = ((i + 1 : Nat) : Int) := by omega
    simp only [laws_eqSplitS.l0]
    rw [if_pos (by omega), if_pos (by omega), if_pos (by omega), rdSplit_at a i hi, wrap_id (by omega) (by omega), e]
    simp only [laws_eqSplit.f, if_true, Option.bind_some]
    exact ih k (i + 1) (by omega) (by omega)
theorem eqSplitS_self (a : List S49) (hm : a.length < 9223372036854775807) : Ev (fun k => laws_eqSplitS.f k a a) true := by
  refine ⟨a.length + 1, fun k hk => ?_⟩
  have h := eqSplitS_l0 a hm a.length k 0 (by omega) (by omega)
  show laws_eqSplitS.f k a a = _
  unfold laws_eqSplitS.f
  rw [if_pos rfl]
  simpa using h
/-- Marked splits: so many, from a number on. -/
def iotaSplit : Nat → Int → List S49
  | 0, _ => []
  | n + 1, k => (⟨k, k + 1⟩ : S49) :: iotaSplit n (k + 2)
theorem iotaSplit_length : ∀ (n : Nat) (k : Int), (iotaSplit n k).length = n
  | 0, _ => rfl
  | n + 1, k => by simp [iotaSplit, iotaSplit_length n]
theorem markSplitS_l0 : ∀ (d k : Nat) (pre l : List S49) (i : Nat) (m : Int), i = pre.length → l.length = d → d < k → 0 ≤ m → m + 2 * d < 9223372036854775807 → pre.length + d < 9223372036854775807 → laws_markSplitS.l0 k (pre ++ l) m (i : Int) = some (m + 2 * d, pre ++ iotaSplit d m) := by
  intro d
  induction d with
  | zero =>
    intro k pre l i m hi hd hk h0 h1 h2
    obtain ⟨k, rfl⟩ : ∃ m, k = m + 1 := ⟨k - 1, by omega⟩
    obtain rfl : l = [] := List.eq_nil_of_length_eq_zero hd
    subst hi
    simp only [laws_markSplitS.l0]
    rw [if_neg (by simp)]
    simp [iotaSplit]
  | succ d ih =>
    intro k pre l i m hi hd hk h0 h1 h2
    obtain ⟨k, rfl⟩ : ∃ m, k = m + 1 := ⟨k - 1, by omega⟩
    cases l with
    | nil => simp at hd
    | cons x xs =>
      subst hi
      have e : (pre.length : Int) + 1 = ((pre ++ [(⟨m, m + 1⟩ : S49)]).length : Int) := by simp
      have es : ∀ y : S49, (pre ++ x :: xs).set pre.length y = pre ++ y :: xs := by intro y; simp
      have es2 : ∀ y z : S49, (pre ++ y :: xs).set pre.length z = pre ++ z :: xs := by intro y z; simp
      have er : ∀ y : S49, rd_T49 (pre ++ y :: xs) (pre.length : Int) = y := by
        intro y
        rw [rdSplit_at _ _ (by simp)]
        simp
      simp only [laws_markSplitS.l0]
      rw [if_pos (by simp; omega), if_pos (by omega)]
      simp only [Option.bind_some, Int.toNat_natCast, es, es2, er]
      rw [wrap_id (x := m + 1) (by omega) (by omega), wrap_id (x := m + 1 + 1) (by omega) (by omega), wrap_id (x := (pre.length : Int) + 1) (by omega) (by omega), e]
      have ec : pre ++ (⟨m, m + 1⟩ : S49) :: xs = (pre ++ [(⟨m, m + 1⟩ : S49)]) ++ xs := by simp
      rw [ec, ih k (pre ++ [(⟨m, m + 1⟩ : S49)]) xs (pre ++ [(⟨m, m + 1⟩ : S49)]).length (m + 1 + 1) rfl (by simpa using hd) (by omega) (by omega) (by omega) (by simp; omega)]
      have e2 : m + 1 + 1 = m + 2 := by omega
      rw [e2]
      simp [iotaSplit]
      omega
theorem markSplitS_ev (l : List S49) (m : Int) (h0 : 0 ≤ m) (h1 : m + 2 * l.length < 9223372036854775807) : Ev (fun k => laws_markSplitS.f k l m) (m + 2 * l.length, iotaSplit l.length m) :=
  ⟨l.length + 1, fun k hk => by
    have h := markSplitS_l0 l.length k [] l 0 m rfl rfl (by omega) h0 h1 (by simp; omega)
    simpa [laws_markSplitS.f] using h⟩
theorem toIntS_l0 (l : List Int) (hl : l.length < 9223372036854775807) : ∀ (d k i : Nat) (out : List Int), i + d = l.length → d < k → out.length = l.length → out.take i = l.take i → laws_toIntS.l0 k l out (i : Int) = some l := by
  intro d
  induction d with
  | zero =>
    intro k i out h hk ho ht
    obtain ⟨k, rfl⟩ : ∃ m, k = m + 1 := ⟨k - 1, by omega⟩
    simp only [laws_toIntS.l0]
    rw [if_neg (by omega)]
    rw [List.take_of_length_le (by omega), List.take_of_length_le (by omega)] at ht
    rw [ht]
  | succ d ih =>
    intro k i out h hk ho ht
    obtain ⟨k, rfl⟩ : ∃ m, k = m + 1 := ⟨k - 1, by omega⟩
    have hi : i < l.length := by omega
    have e : (i : Int) + 1 = ((i + 1 : Nat) : Int) := by omega
    simp only [laws_toIntS.l0]
    rw [if_pos (by omega), if_pos (by omega), if_pos (by omega), rd_at l i hi, wrap_id (by omega) (by omega), e, Int.toNat_natCast]
    refine ih k (i + 1) _ (by omega) (by omega) (by simpa using ho) ?_
    rw [List.take_succ_eq_append_getElem (by simpa using by omega), List.take_succ_eq_append_getElem hi, List.getElem_set_self, List.take_set_of_le (Nat.le_refl i), ht]
theorem toIntS_ev (l : List Int) (hl : l.length ≤ 1048576) : Ev (fun k => laws_toIntS.f k l) l :=
  ⟨l.length + 1, fun k hk => by
    have h := toIntS_l0 l (by omega) l.length k 0 (List.replicate l.length 0) (by omega) (by omega) (by simp) rfl
    show laws_toIntS.f k l = some l
    unfold laws_toIntS.f
    rw [if_pos (by omega), if_pos (by omega)]
    simpa using h⟩
theorem eqIntS_l0 (a b : List Int) (hl : a.length = b.length) (hm : a.length < 9223372036854775807) : ∀ (d k i : Nat), i + d = a.length → d < k → laws_eqIntS.l0 k a b (i : Int) = some (decide (a.drop i = b.drop i)) := by
  intro d
  induction d with
  | zero =>
    intro k i h hk
    obtain ⟨k, rfl⟩ : ∃ m, k = m + 1 := ⟨k - 1, by omega⟩
    simp only [laws_eqIntS.l0]
    rw [if_neg (by omega), List.drop_of_length_le (by omega), List.drop_of_length_le (by omega)]
    simp
  | succ d ih =>
    intro k i h hk
    obtain ⟨k, rfl⟩ : ∃ m, k = m + 1 := ⟨k - 1, by omega⟩
    have hi : i < a.length := by omega
    have hj : i < b.length := by omega
    have e : (i : Int) + 1 = ((i + 1 : Nat) : Int) := by omega
    simp only [laws_eqIntS.l0]
    rw [if_pos (by omega), if_pos (by omega), if_pos (by omega), rd_at a i hi, rd_at b i hj, wrap_id (by omega) (by omega), e]
    rw [List.drop_eq_getElem_cons hi, List.drop_eq_getElem_cons hj]
    by_cases c : a[i] = b[i]
    · rw [if_pos c, ih k (i + 1) (by omega) (by omega), c]
      exact congrArg some (decide_eq_decide.mpr ⟨fun h => by rw [h], fun h => (List.cons.inj h).2⟩)
    · rw [if_neg c]
      exact congrArg some (decide_eq_false fun h => c (List.cons.inj h).1).symm
theorem eqIntS_ev (a b : List Int) (hm : a.length < 9223372036854775807) : Ev (fun k => laws_eqIntS.f k a b) (decide (a = b)) := by
  by_cases hl : a.length = b.length
  · refine ⟨a.length + 1, fun k hk => ?_⟩
    have h := eqIntS_l0 a b hl hm a.length k 0 (by omega) (by omega)
    show laws_eqIntS.f k a b = _
    unfold laws_eqIntS.f
    rw [if_pos (by omega)]
    simpa using h
  · refine ⟨0, fun k hk => ?_⟩
    show laws_eqIntS.f k a b = _
    unfold laws_eqIntS.f
    rw [if_neg (by omega)]
    have : a ≠ b := fun h => hl (by rw [h])
    simp [this]
theorem eqIntS_self (a : List Int) (hm : a.length < 9223372036854775807) : Ev (fun k => laws_eqIntS.f k a a) true := by
  have := eqIntS_ev a a hm
  simpa using this
/-- k, k + 1, .. : so many numbers. -/
def iota : Nat → Int → List Int
  | 0, _ => []
  | n + 1, k => k :: iota n (k + 1)
theorem iota_length : ∀ (n : Nat) (k : Int), (iota n k).length = n
  | 0, _ => rfl
  | n + 1, k => by simp [iota, iota_length n]
theorem markIntS_l0 : ∀ (d k : Nat) (pre l : List Int) (i : Nat) (m : Int), i = pre.length → l.length = d → d < k → 0 ≤ m → m + d < 9223372036854775807 → pre.length + d < 9223372036854775807 → laws_markIntS.l0 k (pre ++ l) m (i : Int) = some (m + d, pre ++ iota d m) := by
  intro d
  induction d with
  | zero =>
    intro k pre l i m hi hd hk h0 h1 h2
    obtain ⟨k, rfl⟩ : ∃ m, k = m + 1 := ⟨k - 1, by omega⟩
    obtain rfl : l = [] := List.eq_nil_of_length_eq_zero hd
    subst hi
    simp only [laws_markIntS.l0]
    rw [if_neg (by simp)]
    simp [iota]
  | succ d ih =>
    intro k pre l i m hi hd hk h0 h1 h2
    obtain ⟨k, rfl⟩ : ∃ m, k = m + 1 := ⟨k - 1, by omega⟩
    cases l with
    | nil => simp at hd
    | cons x xs =>
      subst hi
      have e : (pre.length : Int) + 1 = ((pre ++ [m]).length : Int) := by simp
      simp only [laws_markIntS.l0]
      rw [if_pos (by simp; omega), if_pos (by omega), Int.toNat_natCast, wrap_id (x := m + 1) (by omega) (by omega), wrap_id (x := (pre.length : Int) + 1) (by omega) (by omega), e]
      have es : (pre ++ x :: xs).set pre.length m = (pre ++ [m]) ++ xs := by simp
      rw [es, ih k (pre ++ [m]) xs (pre ++ [m]).length (m + 1) rfl (by simpa using hd) (by omega) (by omega) (by omega) (by simp; omega)]
      simp [iota]
      omega
theorem markIntS_ev (l : List Int) (m : Int) (h0 : 0 ≤ m) (h1 : m + l.length < 9223372036854775807) : Ev (fun k => laws_markIntS.f k l m) (m + l.length, iota l.length m) :=
  ⟨l.length + 1, fun k hk => by
    have h := markIntS_l0 l.length k [] l 0 m rfl rfl (by omega) h0 h1 (by simp; omega)
    simpa [laws_markIntS.f] using h⟩
theorem heldIntS_l0 : ∀ (d k : Nat) (pre : List Int) (i : Nat) (m : Int), i = pre.length → d < k → 0 ≤ m → m + d < 9223372036854775807 → pre.length + d < 9223372036854775807 → laws_heldIntS.l0 k (pre ++ iota d m) m (i : Int) = some (m + d) := by
  intro d
  induction d with
  | zero =>
    intro k pre i m hi hk h0 h1 h2
    obtain ⟨k, rfl⟩ : ∃ m, k = m + 1 := ⟨k - 1, by omega⟩
    subst hi
    simp only [laws_heldIntS.l0]
    rw [if_neg (by simp [iota])]
    simp
  | succ d ih =>
    intro k pre i m hi hk h0 h1 h2
    obtain ⟨k, rfl⟩ : ∃ m, k = m + 1 := ⟨k - 1, by omega⟩
    subst hi
    have e : (pre.length : Int) + 1 = ((pre ++ [m]).length : Int) := by simp
    have er : rd (pre ++ iota (d + 1) m) (pre.length : Int) = m := by
      rw [rd_at _ _ (by simp [iota])]
      simp [iota]
    simp only [laws_heldIntS.l0]
    rw [if_pos (by simp [iota]; omega), if_pos (by omega), er, if_pos rfl, wrap_id (x := m + 1) (by omega) (by omega), wrap_id (x := (pre.length : Int) + 1) (by omega) (by omega), e]
    have es : pre ++ iota (d + 1) m = (pre ++ [m]) ++ iota d (m + 1) := by simp [iota]
    rw [es, ih k (pre ++ [m]) (pre ++ [m]).length (m + 1) rfl (by omega) (by omega) (by omega) (by simp; omega)]
    congr 1
    omega
theorem heldIntS_ev (n : Nat) (m : Int) (h0 : 0 ≤ m) (h1 : m + n < 9223372036854775807) : Ev (fun k => laws_heldIntS.f k (iota n m) m) (m + n) :=
  ⟨n + 1, fun k hk => by
    have h := heldIntS_l0 n k [] 0 m rfl (by omega) h0 h1 (by simp; omega)
    simpa [laws_heldIntS.f] using h⟩
theorem FnExactPlaySplits : laws_FnExactPlaySplits.Pure := by
  intro r l t _ _ hw
  refine Ev.rounds (g := fun k => laws_FnExactPlaySplits.f k r l t) ?_
  unfold laws_FnExactPlaySplits.f laws_szSplitS.f
  have hm := hw.1
  unfold maxLen at hm
  have w1 : wrap64 (1048576 - (t.length : Int)) = 1048576 - (t.length : Int) := wrap_id (by omega) (by omega)
  simp only [w1]
  by_cases c0 : (l.length : Int) > 1048576
  · simp only [if_pos c0]
    exact Ev.now _
  by_cases c : 1048576 - (t.length : Int) < 0
  · simp only [if_neg c0, if_pos c, Option.bind_some, show ((-1 : Int) < 0) from by omega, if_true]
    exact Ev.now _
  · have hl : l.length ≤ 1048576 := by omega
    have ht : t.length ≤ 1048576 := by omega
    obtain ⟨⟨v1, v2⟩, hs, hi, hn⟩ := agree_PlaySplits r l (t.map cvS) hl
    have hn : v1.length ≤ 2000000 := hn
    have hT := toIntS_ev l hl
    have hE := eqIntS_self l (by omega)
    have hM := markIntS_ev l 1 (by omega) (by omega)
    have hTs := toSplitS_ev t ht
    have hEs := eqSplitS_self (t.map cvS) (by simp; omega)
    have hMs := markSplitS_ev (t.map cvS) (1 + (l.length : Int)) (by omega) (by simp; omega)
    have hQ := eqIntS_self v1 (by omega)
    have hK := markIntS_ev v1 1 (by omega) (by omega)
    have hH := heldIntS_ev v1.length 1 (by omega) (by omega)
    have n1 : ¬ (1 + (l.length : Int) + 2 * ((t.map cvS).length : Int)) < 0 := by omega
    have n2 : ¬ (1 + (v1.length : Int)) < 0 := by omega
    simp only [if_neg c0, if_neg c, Option.bind_some]
    repeat (first
      | exact Ev.now _
      | refine Ev.bind hT ?_
      | refine Ev.bind hTs ?_
      | refine Ev.bind hs ?_
      | refine Ev.bind hi ?_
      | refine Ev.bind hE ?_
      | refine Ev.bind hEs ?_
      | refine Ev.bind hM ?_
      | refine Ev.bind hMs ?_
      | refine Ev.bind hQ ?_
      | refine Ev.bind hK ?_
      | refine Ev.bind hH ?_
      | simp only [if_true, bne_self_eq_false, Bool.false_eq_true, if_false, if_neg n1, if_neg n2]
      | (refine Ev_add 1 ?_; simp only [laws_FnExactPlaySplits.j0])
      | (refine Ev_add 1 ?_; simp only [laws_FnExactPlaySplits.j1])
      | (refine Ev_add 1 ?_; simp only [laws_FnExactPlaySplits.j2]))

end Go.Proofs.Ytnfofdocnnndnaa.Pure
