/-
  The program's SplitsOf returns what the reference's returns, for all arguments: the plain half, about the printed functions alone.
  Conditions: those of the statement's own row; none is added.
-/
import Derived.Test.YtbamooigfbbkaaaPAx30
namespace Go.Proofs.Ytbamooigfbbkaaa.Pure
set_option linter.unusedVariables false
set_option linter.unusedSimpArgs false
open Go.RowKit Go.Proofs.Ytbamooigfbbkaaa.PA Go.Proofs.YtbamooigfbbkaaaW.PrintWords Go.Proofs.YtbamooigfbbkaaaW.PrintLast Go.Proofs.YtbamooigfbbkaaaW.PrintMore Go.Proofs.YtbamooigfbbkaaaB

theorem Ev_add {α : Type} {g : Nat → Option α} {r : α} (m : Nat) (h : Ev (fun k => g (k + m)) r) : Ev g r := by
  obtain ⟨K, hK⟩ := h
  refine ⟨K + m, fun k hk => ?_⟩
  have h1 := hK (k - m) (by omega)
  simp only at h1
  rwa [Nat.sub_add_cancel (by omega)] at h1
theorem Ev_shift {α : Type} {g : Nat → Option α} {r : α} (m : Nat) (h : Ev g r) : Ev (fun k => g (k + m)) r := by
  obtain ⟨K, hK⟩ := h
  exact ⟨K, fun k hk => hK (k + m) (by omega)⟩
theorem wrap_id {x : Int} (h0 : -9223372036854775808 ≤ x) (h1 : x ≤ 9223372036854775807) : wrap64 x = x := by
  unfold wrap64
  omega
theorem rd_at (l : List Int) (i : Nat) (h : i < l.length) : rd l (i : Int) = l[i] := rd_get l i h
theorem rd_append_left (l m : List Int) (i : Int) (h0 : 0 ≤ i) (h : i < l.length) : rd (l ++ m) i = rd l i := by
  unfold rd
  rw [List.getD_eq_getElem?_getD, List.getD_eq_getElem?_getD, List.getElem?_append_left (by omega)]
def inR (a lo hi : Int) : Bool := decide (lo ≤ a) && decide (a ≤ hi)
theorem inR_iff {a lo hi : Int} : inR a lo hi = true ↔ lo ≤ a ∧ a ≤ hi := by simp [inR]
theorem spec_l1In_eq (a lo hi : Int) : spec_l1In.f a lo hi = some (inR a lo hi) := by
  unfold spec_l1In.f inR
  by_cases h : lo ≤ a <;> simp [h]
theorem spec_slRule_eq (r : Int) : spec_slRule.f r = some (inR r 0 2) := by
  unfold spec_slRule.f
  rw [spec_l1In_eq]
  rfl
def goodH (l : List Int) : Bool := inR (l.length : Int) 1 8 && l.all fun x => inR x 1 60
theorem goodH_iff {l : List Int} : goodH l = true ↔ (1 ≤ l.length ∧ l.length ≤ 8) ∧ ∀ h ∈ l, 1 ≤ h ∧ h ≤ 60 := by
  unfold goodH
  rw [Bool.and_eq_true, inR_iff, List.all_eq_true]
  simp only [inR_iff]
  constructor
  · rintro ⟨h1, h2⟩
    exact ⟨by omega, h2⟩
  · rintro ⟨h1, h2⟩
    exact ⟨by omega, h2⟩
theorem spec_l1All_l0 (lo hi : Int) (l : List Int) (hl : l.length < 9223372036854775807) : ∀ (d k i : Nat), i + d = l.length → d < k → spec_l1All.l0 k lo hi l (l.length : Int) (i : Int) = some ((l.drop i).all fun x => inR x lo hi) := by
  intro d
  induction d with
  | zero =>
    intro k i h hk
    obtain ⟨k, rfl⟩ : ∃ m, k = m + 1 := ⟨k - 1, by omega⟩
    simp only [spec_l1All.l0]
    rw [if_neg (by omega), List.drop_of_length_le (by omega)]
    rfl
  | succ d ih =>
    intro k i h hk
    obtain ⟨k, rfl⟩ : ∃ m, k = m + 1 := ⟨k - 1, by omega⟩
    have hil : i < l.length := by omega
    have e : (i : Int) + 1 = ((i + 1 : Nat) : Int) := by omega
    simp only [spec_l1All.l0]
    rw [if_pos (by omega), if_pos (by omega), if_pos (by omega), spec_l1In_eq, rd_at l i hil, List.drop_eq_getElem_cons hil, List.all_cons, wrap_id (by omega) (by omega), e]
    simp only [Option.bind_some]
    cases hb : inR l[i] lo hi with
    | true => simpa using ih k (i + 1) (by omega) (by omega)
    | false => simp
theorem spec_l1All_ev (l : List Int) (lo hi : Int) (hl : l.length < 9223372036854775807) : Ev (fun k => spec_l1All.f k l lo hi) (l.all fun x => inR x lo hi) :=
  ⟨l.length + 1, fun k hk => by
    have := spec_l1All_l0 lo hi l hl l.length k 0 (by omega) (by omega)
    simpa [spec_l1All.f] using this⟩
theorem spec_slGood_ev (l : List Int) (hl : l.length < 9223372036854775807) : Ev (fun k => spec_slGood.f k l) (goodH l) := by
  unfold spec_slGood.f goodH
  simp only [spec_l1In_eq, Option.bind_some]
  cases hb : inR (l.length : Int) 1 8 with
  | false =>
    simp only [Bool.false_eq_true, if_false, Bool.false_and]
    exact Ev.now _
  | true =>
    simp only [if_true, Bool.true_and]
    refine Ev.bind (spec_l1All_ev l 1 60 hl) ?_
    exact Ev.now _
theorem spec_slAsked_ev (r : Int) (l : List Int) (hl : l.length < 9223372036854775807) : Ev (fun k => spec_slAsked.f k r l) (inR r 0 2 && goodH l) := by
  unfold spec_slAsked.f
  simp only [spec_slRule_eq, Option.bind_some]
  cases hb : inR r 0 2 with
  | false =>
    simp only [Bool.false_eq_true, if_false, Bool.false_and]
    exact Ev.now _
  | true =>
    simp only [if_true, Bool.true_and]
    refine Ev.bind (spec_slGood_ev l hl) ?_
    exact Ev.now _
theorem impl_within_eq (a lo hi : Int) : impl_within.f a lo hi = some (inR a lo hi) := by
  unfold impl_within.f inR
  by_cases h : lo ≤ a <;> simp [h]
theorem impl_isRule_eq (r : Int) : impl_isRule.f r = some (inR r 0 2) := by
  unfold impl_isRule.f
  rw [impl_within_eq]
  rfl
theorem impl_areIn_eq (l : List Int) (lo hi : Int) : impl_areIn.f l lo hi = some (l.all fun x => inR x lo hi) := by
  unfold impl_areIn.f
  simp only [impl_within_eq, Option.bind_some]
  rw [anyO_some]
  simp only [Option.bind_some]
  congr 1
  induction l with
  | nil => rfl
  | cons x xs ih => simp only [List.any_cons, List.all_cons, Bool.not_or, Bool.not_not, ih]
theorem impl_AreSplitHeaps_eq (l : List Int) : impl_AreSplitHeaps.f l = some (goodH l) := by
  unfold impl_AreSplitHeaps.f goodH
  simp only [impl_within_eq, impl_areIn_eq, Option.bind_some]
  cases inR (l.length : Int) 1 8 <;> rfl
theorem impl_isSplitRule_eq (r : Int) (l : List Int) : impl_isSplitRule.f r l = some (inR r 0 2 && goodH l) := by
  unfold impl_isSplitRule.f
  simp only [impl_isRule_eq, impl_AreSplitHeaps_eq, Option.bind_some]
  cases inR r 0 2 <;> rfl
/-- Can a heap be split so? -/
def canB (rule heap part : Int) : Bool := decide (1 ≤ part) && decide (2 * part ≤ heap) && (rule != 0 || decide (2 * part < heap)) && (rule != 2 || decide (2 ≤ part))
/-- The splits of a heap, by their parts, from a part on. -/
def spl (r i h : Int) : Nat → Int → List S48
  | 0, _ => []
  | d + 1, p => if 2 * p ≤ h then (if canB r h p = true then [(⟨i, p⟩ : S48)] else []) ++ spl r i h d (p + 1) else []
/-- The splits of heaps, counted from i on. -/
def splAll (r : Int) : List Int → Int → List S48
  | [], _ => []
  | h :: t, i => spl r i h 31 1 ++ splAll r t (i + 1)
theorem spl_length (r i h : Int) : ∀ (d : Nat) (p : Int), (spl r i h d p).length ≤ d
  | 0, _ => by simp [spl]
  | d + 1, p => by
    have := spl_length r i h d (p + 1)
    simp only [spl]
    split
    · split <;> simp <;> omega
    · simp
theorem splAll_length (r : Int) : ∀ (l : List Int) (i : Int), (splAll r l i).length ≤ 31 * l.length
  | [], _ => by simp [splAll]
  | h :: t, i => by
    have h1 := spl_length r i h 31 1
    have h2 := splAll_length r t (i + 1)
    simp only [splAll, List.length_append, List.length_cons]
    omega
theorem spec_slCan_succ (k : Nat) (r h p : Int) (hh0 : 0 ≤ h) (hh1 : h ≤ 1000) (hp0 : -1000 ≤ p) (hp1 : p ≤ 1000) : spec_slCan.f (k + 1) r h p = some (canB r h p) := by
  unfold spec_slCan.f
  have e1 : wrap64 (Int.tdiv h 2) = h / 2 := by rw [Int.tdiv_eq_ediv_of_nonneg hh0]; exact wrap_id (by omega) (by omega)
  have e2 : wrap64 (2 * p) = 2 * p := wrap_id (by omega) (by omega)
  simp only [spec_slCan.j0, e1, e2]
  unfold canB
  by_cases c1 : p < 1
  · simp [c1]
    omega
  · by_cases c2 : p > h / 2
    · have c3 : ¬ 2 * p ≤ h := by omega
      simp [c1, c2, c3]
    · have c3 : 2 * p ≤ h := by omega
      have c4 : 1 ≤ p := by omega
      by_cases c5 : r = 0
      · subst c5
        by_cases c6 : 2 * p = h
        · simp [c1, c2, c3, c4, c6]
        · have c7 : 2 * p < h := by omega
          simp [c1, c2, c3, c4, c6, c7]
      · by_cases c6 : r = 2
        · subst c6
          by_cases c7 : p > 1
          · have c8 : 2 ≤ p := by omega
            simp [c1, c2, c3, c4, c7, c8]
          · have c8 : ¬ 2 ≤ p := by omega
            simp [c1, c2, c3, c4, c7, c8]
        · simp [c1, c2, c3, c4, c5, c6]
theorem slCan_ev (r h p : Int) (hh0 : 0 ≤ h) (hh1 : h ≤ 1000) (hp0 : -1000 ≤ p) (hp1 : p ≤ 1000) : Ev (fun k => spec_slCan.f k r h p) (canB r h p) := Ev_add 1 ⟨0, fun k _ => spec_slCan_succ k r h p hh0 hh1 hp0 hp1⟩
theorem spec_slAll_l1 (r : Int) (heaps : List Int) (h i : Int) (hh0 : 1 ≤ h) (hh1 : h ≤ 60) (hi0 : 0 ≤ i) (hi1 : i ≤ 1000000) (v : List S48) : ∀ (d : Nat) (p : Int) (out : List S48), 1 ≤ p → p + d = 32 → out.length + d < 1000000000 → Ev (fun k => spec_slAll.l0 k r (out ++ spl r i h d p) heaps (heaps.length : Int) (i + 1)) v → Ev (fun k => spec_slAll.l1 k r out i h p heaps (heaps.length : Int) i) v := by
  intro d
  induction d with
  | zero =>
    intro p out hp hd ho hv
    have w1 : wrap64 (2 * p) = 2 * p := wrap_id (by omega) (by omega)
    have w2 : wrap64 (i + 1) = i + 1 := wrap_id (by omega) (by omega)
    have c1 : ¬ 2 * p ≤ h := by omega
    refine Ev_add 1 ?_
    simp only [spec_slAll.l1, w1, if_neg c1, w2]
    simpa [spl] using hv
  | succ d ih =>
    intro p out hp hd ho hv
    have w1 : wrap64 (2 * p) = 2 * p := wrap_id (by omega) (by omega)
    have w2 : wrap64 (i + 1) = i + 1 := wrap_id (by omega) (by omega)
    have w3 : wrap64 (p + 1) = p + 1 := wrap_id (by omega) (by omega)
    have c2 : out.length < 8796093022208 := by omega
    by_cases c1 : 2 * p ≤ h
    · have s1 := slCan_ev r h p (by omega) (by omega) (by omega) (by omega)
      simp only [spl, if_pos c1] at hv
      refine Ev_add 1 ?_
      simp only [spec_slAll.l1, w1, if_pos c1]
      cases hb : canB r h p with
      | false =>
        rw [hb] at s1 hv
        refine Ev.bind s1 ?_
        simp only [Bool.false_eq_true, if_false, w3]
        exact ih (p + 1) out (by omega) (by omega) (by omega) (by simpa using hv)
      | true =>
        rw [hb] at s1 hv
        refine Ev.bind s1 ?_
        simp only [if_true, if_pos c2, w3]
        exact ih (p + 1) (out ++ [(⟨i, p⟩ : S48)]) (by omega) (by omega) (by simp; omega) (by simpa using hv)
    · simp only [spl, if_neg c1, List.append_nil] at hv
      refine Ev_add 1 ?_
      simp only [spec_slAll.l1, w1, if_neg c1, w2]
      exact hv
theorem spec_slAll_l0 (r : Int) (heaps : List Int) (hA : ∀ h ∈ heaps, 1 ≤ h ∧ h ≤ 60) (hL : heaps.length ≤ 1000000) : ∀ (d i : Nat) (out : List S48), i + d = heaps.length → out.length + 32 * d < 1000000000 → Ev (fun k => spec_slAll.l0 k r out heaps (heaps.length : Int) (i : Int)) (out ++ splAll r (heaps.drop i) (i : Int)) := by
  intro d
  induction d with
  | zero =>
    intro i out hi ho
    have c1 : ¬ (i : Int) < (heaps.length : Int) := by omega
    refine Ev_add 1 ?_
    simp only [spec_slAll.l0, if_neg c1]
    rw [List.drop_of_length_le (by omega)]
    simp only [splAll, List.append_nil]
    exact Ev.now _
  | succ d ih =>
    intro i out hi ho
    have hlt : i < heaps.length := by omega
    have c1 : (i : Int) < (heaps.length : Int) := by omega
    have c2 : 0 ≤ (i : Int) := by omega
    have hm := hA heaps[i] (List.getElem_mem hlt)
    refine Ev_add 1 ?_
    simp only [spec_slAll.l0, if_pos c1, if_pos c2, rd_at heaps i hlt]
    rw [List.drop_eq_getElem_cons hlt]
    simp only [splAll]
    have h1 := spl_length r i heaps[i] 31 1
    refine spec_slAll_l1 r heaps heaps[i] i hm.1 hm.2 c2 (by omega) _ 31 1 out (by omega) (by omega) (by omega) ?_
    have h2 := ih (i + 1) (out ++ spl r i heaps[i] 31 1) (by omega) (by simp only [List.length_append]; omega)
    rw [List.append_assoc] at h2
    simpa using h2
theorem spec_slAll_ev (r : Int) (heaps : List Int) (hA : ∀ h ∈ heaps, 1 ≤ h ∧ h ≤ 60) (hL : heaps.length ≤ 1000000) : Ev (fun k => spec_slAll.f k r heaps) (splAll r heaps 0) := by
  have h := spec_slAll_l0 r heaps hA hL heaps.length 0 [] (by omega) (by simp; omega)
  unfold spec_slAll.f
  simpa using h
theorem impl_canSplit_eq (r h p : Int) (hh0 : 1 ≤ h) (hh1 : h ≤ 1000) : impl_canSplit.f r h p = some (canB r h p) := by
  unfold impl_canSplit.f
  simp only [impl_within_eq, Option.bind_some]
  have e1 : wrap64 (Int.tdiv h 2) = h / 2 := by rw [Int.tdiv_eq_ediv_of_nonneg (by omega)]; exact wrap_id (by omega) (by omega)
  by_cases c5 : r = 0
  · subst c5
    rw [if_pos rfl]
    congr 1
    rw [Bool.eq_iff_iff, inR_iff]
    have e2 : wrap64 (Int.tdiv (wrap64 (h - 1)) 2) = (h - 1) / 2 := by
      rw [wrap_id (x := h - 1) (by omega) (by omega), Int.tdiv_eq_ediv_of_nonneg (by omega)]; exact wrap_id (by omega) (by omega)
    rw [e2]
    simp [canB]
    omega
  · by_cases c6 : r = 2
    · subst c6
      simp only [if_neg c5, if_true, e1]
      congr 1
      rw [Bool.eq_iff_iff, inR_iff]
      simp [canB]
      omega
    · simp only [if_neg c5, if_neg c6, e1]
      congr 1
      rw [Bool.eq_iff_iff, inR_iff]
      simp [canB, c5, c6]
      omega
theorem impl_splitsOf_l1 (r : Int) (heaps : List Int) (h i : Int) (hh0 : 1 ≤ h) (hh1 : h ≤ 60) (hi0 : 0 ≤ i) (hi1 : i ≤ 1000000) (v : List S48) : ∀ (d : Nat) (p : Int) (out : List S48), 1 ≤ p → p + d = 32 → out.length + d < 1000000000 → Ev (fun k => impl_splitsOf.l0 k r (out ++ spl r i h d p) heaps (heaps.length : Int) (i + 1)) v → Ev (fun k => impl_splitsOf.l1 k r out i h p heaps (heaps.length : Int) i) v := by
  intro d
  induction d with
  | zero =>
    intro p out hp hd ho hv
    have w1 : wrap64 (2 * p) = 2 * p := wrap_id (by omega) (by omega)
    have w2 : wrap64 (i + 1) = i + 1 := wrap_id (by omega) (by omega)
    have c1 : ¬ 2 * p ≤ h := by omega
    refine Ev_add 1 ?_
    simp only [impl_splitsOf.l1, w1, if_neg c1, w2]
    simpa [spl] using hv
  | succ d ih =>
    intro p out hp hd ho hv
    have w1 : wrap64 (2 * p) = 2 * p := wrap_id (by omega) (by omega)
    have w2 : wrap64 (i + 1) = i + 1 := wrap_id (by omega) (by omega)
    have w3 : wrap64 (p + 1) = p + 1 := wrap_id (by omega) (by omega)
    have c2 : out.length < 8796093022208 := by omega
    by_cases c1 : 2 * p ≤ h
    · have s1 := impl_canSplit_eq r h p (by omega) (by omega)
      simp only [spl, if_pos c1] at hv
      refine Ev_add 1 ?_
      simp only [impl_splitsOf.l1, w1, if_pos c1]
      cases hb : canB r h p with
      | false =>
        rw [hb] at s1 hv
        simp only [s1, Option.bind_some, Bool.false_eq_true, if_false, w3]
        exact ih (p + 1) out (by omega) (by omega) (by omega) (by simpa using hv)
      | true =>
        rw [hb] at s1 hv
        simp only [s1, Option.bind_some, if_true, if_pos c2, w3]
        exact ih (p + 1) (out ++ [(⟨i, p⟩ : S48)]) (by omega) (by omega) (by simp; omega) (by simpa using hv)
    · simp only [spl, if_neg c1, List.append_nil] at hv
      refine Ev_add 1 ?_
      simp only [impl_splitsOf.l1, w1, if_neg c1, w2]
      exact hv
theorem impl_splitsOf_l0 (r : Int) (heaps : List Int) (hA : ∀ h ∈ heaps, 1 ≤ h ∧ h ≤ 60) (hL : heaps.length ≤ 1000000) : ∀ (d i : Nat) (out : List S48), i + d = heaps.length → out.length + 32 * d < 1000000000 → Ev (fun k => impl_splitsOf.l0 k r out heaps (heaps.length : Int) (i : Int)) (out ++ splAll r (heaps.drop i) (i : Int)) := by
  intro d
  induction d with
  | zero =>
    intro i out hi ho
    have c1 : ¬ (i : Int) < (heaps.length : Int) := by omega
    refine Ev_add 1 ?_
    simp only [impl_splitsOf.l0, if_neg c1]
    rw [List.drop_of_length_le (by omega)]
    simp only [splAll, List.append_nil]
    exact Ev.now _
  | succ d ih =>
    intro i out hi ho
    have hlt : i < heaps.length := by omega
    have c1 : (i : Int) < (heaps.length : Int) := by omega
    have c2 : 0 ≤ (i : Int) := by omega
    have hm := hA heaps[i] (List.getElem_mem hlt)
    refine Ev_add 1 ?_
    simp only [impl_splitsOf.l0, if_pos c1, if_pos c2, rd_at heaps i hlt]
    rw [List.drop_eq_getElem_cons hlt]
    simp only [splAll]
    have h1 := spl_length r i heaps[i] 31 1
    refine impl_splitsOf_l1 r heaps heaps[i] i hm.1 hm.2 c2 (by omega) _ 31 1 out (by omega) (by omega) (by omega) ?_
    have h2 := ih (i + 1) (out ++ spl r i heaps[i] 31 1) (by omega) (by simp only [List.length_append]; omega)
    rw [List.append_assoc] at h2
    simpa using h2
theorem impl_splitsOf_ev (r : Int) (heaps : List Int) (hA : ∀ h ∈ heaps, 1 ≤ h ∧ h ≤ 60) (hL : heaps.length ≤ 1000000) : Ev (fun k => impl_splitsOf.f k r heaps) (splAll r heaps 0) := by
  have h := impl_splitsOf_l0 r heaps hA hL heaps.length 0 [] (by omega) (by simp; omega)
  unfold impl_splitsOf.f
  simpa using h
theorem agree_SplitsOf (r : Int) (l : List Int) (hl : l.length ≤ 1048576) : ∃ v, Ev (fun k => spec_SplitsOf.f k r l) v ∧ Ev (fun k => impl_SplitsOf.f k r l) v ∧ v.1.length ≤ 1000000 := by
  unfold spec_SplitsOf.f impl_SplitsOf.f
  simp only [impl_isSplitRule_eq, Option.bind_some]
  cases hb : (inR r 0 2 && goodH l) with
  | false =>
    refine ⟨([], false), Ev.bind (spec_slAsked_ev r l (by omega)) ?_, ?_, by simp⟩
    · simp only [hb, Bool.false_eq_true, if_false]
      exact Ev.now _
    · simp only [Bool.false_eq_true, if_false]
      exact Ev.now _
  | true =>
    have hb0 := hb
    rw [Bool.and_eq_true, inR_iff, goodH_iff] at hb
    have hn := splAll_length r l 0
    refine ⟨(splAll r l 0, true), Ev.bind (spec_slAsked_ev r l (by omega)) ?_, ?_, by simp; omega⟩
    · simp only [hb0, if_true]
      refine Ev.bind (spec_slAll_ev r l hb.2.2 (by omega)) ?_
      exact Ev.now _
    · simp only [if_true]
      refine Ev.bind (impl_splitsOf_ev r l hb.2.2 (by omega)) ?_
      exact Ev.now _
theorem toIntS_l0 (l : List Int) (hl : l.length < 9223372036854775807) : ∀ (d k i : Nat) (out : List Int), i + d = l.length → d < k → out.length = l.length → out.take i = l.take i → laws_toIntS.l0 k l out (i : Int) = some l := by
  intro d
  induction d with
  | zero =>
    intro k i out h hk ho ht
    obtain ⟨k, rfl⟩ : ∃ m, k = m + 1 := ⟨k - 1, by omega⟩
    simp only [laws_toIntS.l0]
    rw [if_neg (by omega)]
    rw [List.take_of_length_le (by omega), List.take_of_length_le (by omega)] at ht
    rw [ht]
  | succ d ih =>
    intro k i out h hk ho ht
    obtain ⟨k, rfl⟩ : ∃ m, k = m + 1 := ⟨k - 1, by omega⟩
    have hi : i < l.length := by omega
    have e : (i : Int) + 1 = ((i + 1 : Nat) : Int) := by omega
    simp only [laws_toIntS.l0]
    rw [if_pos (by omega), if_pos (by omega), if_pos (by omega), rd_at l i hi, wrap_id (by omega) (by omega), e, Int.toNat_natCast]
    refine ih k (i + 1) _ (by omega) (by omega) (by simpa using ho) ?_
    rw [List.take_succ_eq_append_getElem (by simpa using by omega), List.take_succ_eq_append_getElem hi, List.getElem_set_self, List.take_set_of_le (Nat.le_refl i), ht]
theorem toIntS_ev (l : List Int) (hl : l.length ≤ 1048576) : Ev (fun k => laws_toIntS.f k l) l :=
  ⟨l.length + 1, fun k hk => by
    have h := toIntS_l0 l (by omega) l.length k 0 (List.replicate l.length 0) (by omega) (by omega) (by simp) rfl
    show laws_toIntS.f k l = some l
    unfold laws_toIntS.f
    rw [if_pos (by omega), if_pos (by omega)]
    simpa using h⟩
theorem eqIntS_l0 (a b : List Int) (hl : a.length = b.length) (hm : a.length < 9223372036854775807) : ∀ (d k i : Nat), i + d = a.length → d < k → laws_eqIntS.l0 k a b (i : Int) = some (decide (a.drop i = b.drop i)) := by
  intro d
  induction d with
  | zero =>
    intro k i h hk
    obtain ⟨k, rfl⟩ : ∃ m, k = m + 1 := ⟨k - 1, by omega⟩
    simp only [laws_eqIntS.l0]
    rw [if_neg (by omega), List.drop_of_length_le (by omega), List.drop_of_length_le (by omega)]
    simp
  | succ d ih =>
    intro k i h hk
    obtain ⟨k, rfl⟩ : ∃ m, k = m + 1 := ⟨k - 1, by omega⟩
    have hi : i < a.length := by omega
    have hj : i < b.length := by omega
    have e : (i : Int) + 1 = ((i + 1 : Nat) : Int) := by omega
    simp only [laws_eqIntS.l0]
    rw [if_pos (by omega), if_pos (by omega), if_pos (by omega), rd_at a i hi, rd_at b i hj, wrap_id (by omega) (by omega), e]
    rw [List.drop_eq_getElem_cons hi, List.drop_eq_getElem_cons hj]
    by_cases c : a[i] = b[i]
    · rw [if_pos c, ih k (i + 1) (by omega) (by omega), c]
      exact congrArg some (decide_eq_decide.mpr ⟨fun h => by rw [h], fun h => (List.cons.inj h).2⟩)
    · rw [if_neg c]
      exact congrArg some (decide_eq_false fun h => c (List.cons.inj h).1).symm
theorem eqIntS_ev (a b : List Int) (hm : a.length < 9223372036854775807) : Ev (fun k => laws_eqIntS.f k a b) (decide (a = b)) := by
  by_cases hl : a.length = b.length
  · refine ⟨a.length + 1, fun k hk => ?_⟩
    have h := eqIntS_l0 a b hl hm a.length k 0 (by omega) (by omega)
    show laws_eqIntS.f k a b = _
    unfold laws_eqIntS.f
    rw [if_pos (by omega)]
    simpa using h
  · refine ⟨0, fun k hk => ?_⟩
    show laws_eqIntS.f k a b = _
    unfold laws_eqIntS.f
    rw [if_neg (by omega)]
    have : a ≠ b := fun h => hl (by rw [h])
    simp [this]
theorem eqIntS_self (a : List Int) (hm : a.length < 9223372036854775807) : Ev (fun k => laws_eqIntS.f k a a) true := by
  have := eqIntS_ev a a hm
  simpa using this
/-- k, k + 1, .. : so many numbers. -/
def iota : Nat → Int → List Int
  | 0, _ => []
  | n + 1, k => k :: iota n (k + 1)
theorem iota_length : ∀ (n : Nat) (k : Int), (iota n k).length = n
  | 0, _ => rfl
  | n + 1, k => by simp [iota, iota_length n]
theorem markIntS_l0 : ∀ (d k : Nat) (pre l : List Int) (i : Nat) (m : Int), i = pre.length → l.length = d → d < k → 0 ≤ m → m + d < 9223372036854775807 → pre.length + d < 9223372036854775807 → laws_markIntS.l0 k (pre ++ l) m (i : Int) = some (m + d, pre ++ iota d m) := by
  intro d
  induction d with
  | zero =>
    intro k pre l i m hi hd hk h0 h1 h2
    obtain ⟨k, rfl⟩ : ∃ m, k = m + 1 := ⟨k - 1, by omega⟩
    obtain rfl : l = [] := List.eq_nil_of_length_eq_zero hd
    subst hi
    simp only [laws_markIntS.l0]
    rw [if_neg (by simp)]
    simp [iota]
  | succ d ih =>
    intro k pre l i m hi hd hk h0 h1 h2
    obtain ⟨k, rfl⟩ : ∃ m, k = m + 1 := ⟨k - 1, by omega⟩
    cases l with
    | nil => simp at hd
    | cons x xs =>
      subst hi
      have e : (pre.length : Int) + 1 = ((pre ++ [m]).length : Int) := by simp
      simp only [laws_markIntS.l0]
      rw [if_pos (by simp; omega), if_pos (by omega), Int.toNat_natCast, wrap_id (x := m + 1) (by omega) (by omega), wrap_id (x := (pre.length : Int) + 1) (by omega) (by omega), e]
      have es : (pre ++ x :: xs).set pre.length m = (pre ++ [m]) ++ xs := by simp
      rw [es, ih k (pre ++ [m]) xs (pre ++ [m]).length (m + 1) rfl (by simpa using hd) (by omega) (by omega) (by omega) (by simp; omega)]
      simp [iota]
      omega
theorem markIntS_ev (l : List Int) (m : Int) (h0 : 0 ≤ m) (h1 : m + l.length < 9223372036854775807) : Ev (fun k => laws_markIntS.f k l m) (m + l.length, iota l.length m) :=
  ⟨l.length + 1, fun k hk => by
    have h := markIntS_l0 l.length k [] l 0 m rfl rfl (by omega) h0 h1 (by simp; omega)
    simpa [laws_markIntS.f] using h⟩
theorem rdSplit_at (l : List S48) (i : Nat) (h : i < l.length) : rd_T48 l (i : Int) = l[i] := by
  unfold rd_T48
  rw [Int.toNat_natCast, List.getD_eq_getElem?_getD, List.getElem?_eq_getElem h]
  rfl
theorem eqSplitS_l0 (a : List S48) (hm : a.length < 9223372036854775807) : ∀ (d k i : Nat), i + d = a.length → d < k → laws_eqSplitS.l0 k a a (i : Int) = some true := by
  intro d
  induction d with
  | zero =>
    intro k i h hk
    obtain ⟨k, rfl⟩ : ∃ m, k = m + 1 := ⟨k - 1, by omega⟩
    simp only [laws_eqSplitS.l0]
    rw [if_neg (by omega)]
  | succ d ih =>
    intro k i h hk
    obtain ⟨k, rfl⟩ : ∃ m, k = m + 1 := ⟨k - 1, by omega⟩
    have hi : i < a.length := by omega
    have e : (i : Int) + 1 = ((i + 1 : Nat) : Int) := by omega
    simp only [laws_eqSplitS.l0]
    rw [if_pos (by omega), if_pos (by omega), if_pos (by omega), rdSplit_at a i hi, wrap_id (by omega) (by omega), e]
    simp only [laws_eqSplit.f, if_true, Option.bind_some]
    exact ih k (i + 1) (by omega) (by omega)
theorem eqSplitS_self (a : List S48) (hm : a.length < 9223372036854775807) : Ev (fun k => laws_eqSplitS.f k a a) true := by
  refine ⟨a.length + 1, fun k hk => ?_⟩
  have h := eqSplitS_l0 a hm a.length k 0 (by omega) (by omega)
  show laws_eqSplitS.f k a a = _
  unfold laws_eqSplitS.f
  rw [if_pos rfl]
  simpa using h
/-- Marked splits: so many, from a number on. -/
def iotaSplit : Nat → Int → List S48
  | 0, _ => []
  | n + 1, k => (⟨k, k + 1⟩ : S48) :: iotaSplit n (k + 2)
theorem iotaSplit_length : ∀ (n : Nat) (k : Int), (iotaSplit n k).length = n
  | 0, _ => rfl
  | n + 1, k => by simp [iotaSplit, iotaSplit_length n]
theorem markSplitS_l0 : ∀ (d k : Nat) (pre l : List S48) (i : Nat) (m : Int), i = pre.length → l.length = d → d < k → 0 ≤ m → m + 2 * d < 9223372036854775807 → pre.length + d < 9223372036854775807 → laws_markSplitS.l0 k (pre ++ l) m (i : Int) = some (m + 2 * d, pre ++ iotaSplit d m) := by
  intro d
  induction d with
  | zero =>
    intro k pre l i m hi hd hk h0 h1 h2
    obtain ⟨k, rfl⟩ : ∃ m, k = m + 1 := ⟨k - 1, by omega⟩
    obtain rfl : l = [] := List.eq_nil_of_length_eq_zero hd
    subst hi
    simp only [laws_markSplitS.l0]
    rw [if_neg (by simp)]
    simp [iotaSplit]
  | succ d ih =>
    intro k pre l i m hi hd hk h0 h1 h2
    obtain ⟨k, rfl⟩ : ∃ m, k = m + 1 := ⟨k - 1, by omega⟩
    cases l with
    | nil => simp at hd
    | cons x xs =>
      subst hi
      have e : (pre.length : Int) + 1 = ((pre ++ [(⟨m, m + 1⟩ : S48)]).length : Int) := by simp
      have es : ∀ y : S48, (pre ++ x :: xs).set pre.length y = pre ++ y :: xs := by intro y; simp
      have es2 : ∀ y z : S48, (pre ++ y :: xs).set pre.length z = pre ++ z :: xs := by intro y z; simp
      have er : ∀ y : S48, rd_T48 (pre ++ y :: xs) (pre.length : Int) = y := by
        intro y
        rw [rdSplit_at _ _ (by simp)]
        simp
      simp only [laws_markSplitS.l0]
      rw [if_pos (by simp; omega), if_pos (by omega)]
      simp only [Option.bind_some, Int.toNat_natCast, es, es2, er]
      rw [wrap_id (x := m + 1) (by omega) (by omega), wrap_id (x := m + 1 + 1) (by omega) (by omega), wrap_id (x := (pre.length : Int) + 1) (by omega) (by omega), e]
      have ec : pre ++ (⟨m, m + 1⟩ : S48) :: xs = (pre ++ [(⟨m, m + 1⟩ : S48)]) ++ xs := by simp
      rw [ec, ih k (pre ++ [(⟨m, m + 1⟩ : S48)]) xs (pre ++ [(⟨m, m + 1⟩ : S48)]).length (m + 1 + 1) rfl (by simpa using hd) (by omega) (by omega) (by omega) (by simp; omega)]
      have e2 : m + 1 + 1 = m + 2 := by omega
      rw [e2]
      simp [iotaSplit]
      omega
theorem markSplitS_ev (l : List S48) (m : Int) (h0 : 0 ≤ m) (h1 : m + 2 * l.length < 9223372036854775807) : Ev (fun k => laws_markSplitS.f k l m) (m + 2 * l.length, iotaSplit l.length m) :=
  ⟨l.length + 1, fun k hk => by
    have h := markSplitS_l0 l.length k [] l 0 m rfl rfl (by omega) h0 h1 (by simp; omega)
    simpa [laws_markSplitS.f] using h⟩
theorem heldSplitS_l0 : ∀ (d k : Nat) (pre : List S48) (i : Nat) (m : Int), i = pre.length → d < k → 0 ≤ m → m + 2 * d < 9223372036854775807 → pre.length + d < 9223372036854775807 → laws_heldSplitS.l0 k (pre ++ iotaSplit d m) m (i : Int) = some (m + 2 * d) := by
  intro d
  induction d with
  | zero =>
    intro k pre i m hi hk h0 h1 h2
    obtain ⟨k, rfl⟩ : ∃ m, k = m + 1 := ⟨k - 1, by omega⟩
    subst hi
    simp only [laws_heldSplitS.l0]
    rw [if_neg (by simp [iotaSplit])]
    simp
  | succ d ih =>
    intro k pre i m hi hk h0 h1 h2
    obtain ⟨k, rfl⟩ : ∃ m, k = m + 1 := ⟨k - 1, by omega⟩
    subst hi
    have e : (pre.length : Int) + 1 = ((pre ++ [(⟨m, m + 1⟩ : S48)]).length : Int) := by simp
    have er : rd_T48 (pre ++ iotaSplit (d + 1) m) (pre.length : Int) = (⟨m, m + 1⟩ : S48) := by
      rw [rdSplit_at _ _ (by simp [iotaSplit])]
      simp [iotaSplit]
    simp only [laws_heldSplitS.l0]
    rw [if_pos (by simp [iotaSplit]; omega), if_pos (by omega), er, if_pos rfl, wrap_id (x := m + 1) (by omega) (by omega), if_pos rfl, wrap_id (x := m + 1 + 1) (by omega) (by omega), wrap_id (x := (pre.length : Int) + 1) (by omega) (by omega), e]
    have es : pre ++ iotaSplit (d + 1) m = (pre ++ [(⟨m, m + 1⟩ : S48)]) ++ iotaSplit d (m + 2) := by simp [iotaSplit]
    have e2 : m + 1 + 1 = m + 2 := by omega
    rw [es, e2, ih k (pre ++ [(⟨m, m + 1⟩ : S48)]) (pre ++ [(⟨m, m + 1⟩ : S48)]).length (m + 2) rfl (by omega) (by omega) (by omega) (by simp; omega)]
    congr 1
    omega
theorem heldSplitS_ev (n : Nat) (m : Int) (h0 : 0 ≤ m) (h1 : m + 2 * n < 9223372036854775807) : Ev (fun k => laws_heldSplitS.f k (iotaSplit n m) m) (m + 2 * n) :=
  ⟨n + 1, fun k hk => by
    have h := heldSplitS_l0 n k [] 0 m rfl (by omega) h0 h1 (by simp; omega)
    simpa [laws_heldSplitS.f] using h⟩
theorem FnExactSplitsOf : laws_FnExactSplitsOf.Pure := by
  intro r l _ _ _ _
  refine Ev.rounds (g := fun k => laws_FnExactSplitsOf.f k r l) ?_
  unfold laws_FnExactSplitsOf.f
  by_cases c : (l.length : Int) > 1048576
  · simp only [if_pos c]
    exact Ev.now _
  · have hl : l.length ≤ 1048576 := by omega
    obtain ⟨⟨v1, v2⟩, hs, hi, hn⟩ := agree_SplitsOf r l hl
    have hn : v1.length ≤ 1000000 := hn
    have hT := toIntS_ev l hl
    have hE := eqIntS_self l (by omega)
    have hM := markIntS_ev l 1 (by omega) (by omega)
    have hQ := eqSplitS_self v1 (by omega)
    have hK := markSplitS_ev v1 1 (by omega) (by omega)
    have hH := heldSplitS_ev v1.length 1 (by omega) (by omega)
    have n1 : ¬ (1 + (l.length : Int)) < 0 := by omega
    have n2 : ¬ (1 + 2 * (v1.length : Int)) < 0 := by omega
    simp only [if_neg c]
    repeat (first
      | exact Ev.now _
      | refine Ev.bind hT ?_
      | refine Ev.bind hs ?_
      | refine Ev.bind hi ?_
      | refine Ev.bind hE ?_
      | refine Ev.bind hM ?_
      | refine Ev.bind hQ ?_
      | refine Ev.bind hK ?_
      | refine Ev.bind hH ?_
      | simp only [if_true, bne_self_eq_false, Bool.false_eq_true, if_false, if_neg n1, if_neg n2]
      | (refine Ev_add 1 ?_; simp only [laws_FnExactSplitsOf.j0])
      | (refine Ev_add 1 ?_; simp only [laws_FnExactSplitsOf.j1])
      | (refine Ev_add 1 ?_; simp only [laws_FnExactSplitsOf.j2]))

end Go.Proofs.Ytbamooigfbbkaaa.Pure
