/-
  The program's IsClue returns what the reference's returns, for all arguments: the plain half, about the printed functions alone.
  Conditions: those of the statement's own row; none is added.
-/
import Derived.Test.YtchphfohembpcaaPAx5
namespace Go.Proofs.Ytchphfohembpcaa.Pure
set_option linter.unusedVariables false
set_option linter.unusedSimpArgs false
open Go.RowKit Go.Proofs.Ytchphfohembpcaa.PA Go.Proofs.YtchphfohembpcaaW.PrintWords Go.Proofs.YtchphfohembpcaaW.PrintLast Go.Proofs.YtchphfohembpcaaW.PrintMore Go.Proofs.YtchphfohembpcaaB

theorem Ev_add {α : Type} {g : Nat → Option α} {r : α} (m : Nat) (h : Ev (fun k => g (k + m)) r) : Ev g r := by
  obtain ⟨K, hK⟩ := h
  refine ⟨K + m, fun k hk => ?_⟩
  have h1 := hK (k - m) (by omega)
  simp only at h1
  rwa [Nat.sub_add_cancel (by omega)] at h1
theorem Ev_shift {α : Type} {g : Nat → Option α} {r : α} (m : Nat) (h : Ev g r) : Ev (fun k => g (k + m)) r := by
  obtain ⟨K, hK⟩ := h
  exact ⟨K, fun k hk => hK (k + m) (by omega)⟩
theorem wrap_id {x : Int} (h0 : -9223372036854775808 ≤ x) (h1 : x ≤ 9223372036854775807) : wrap64 x = x := by
  unfold wrap64
  omega
theorem rd_at (l : List Int) (i : Nat) (h : i < l.length) : rd l (i : Int) = l[i] := rd_get l i h
theorem rd_append_left (l m : List Int) (i : Int) (h0 : 0 ≤ i) (h : i < l.length) : rd (l ++ m) i = rd l i := by
  unfold rd
  rw [List.getD_eq_getElem?_getD, List.getD_eq_getElem?_getD, List.getElem?_append_left (by omega)]
def inR (a lo hi : Int) : Bool := decide (lo ≤ a) && decide (a ≤ hi)
theorem inR_iff {a lo hi : Int} : inR a lo hi = true ↔ lo ≤ a ∧ a ≤ hi := by simp [inR]
/-- What is asked of a clue, by its kind; x5: two heaps are told, x6: none is, x42: the kind is 0 or 3. -/
def clueBody (h : Int) (x5 x6 : Bool) (K : Int) (x42 : Bool) (A B C : Int) : Bool :=
  if x42 = true then x6 && inR C 0 20 else if K = 1 then x5 && inR C 0 1 else if K = 2 then inR A 0 5 && ((B == 0) && inR C 0 h) else if K = 4 then x5 && inR C 0 10 else if K = 5 then x6 && inR C 0 5 else false
def twoB (h A B : Int) : Bool := inR A 0 (h - 1) && (inR B 0 (h - 1) && (A != B))
def clueB (h K A B C : Int) : Bool := clueBody h (twoB h A B) ((A == 0) && (B == 0)) K ((K == 0) || (K == 3)) A B C
theorem impl_within_eq (a lo hi : Int) : impl_within.f a lo hi = some (inR a lo hi) := by
  unfold impl_within.f inR
  by_cases h : lo ≤ a <;> simp [h]
theorem impl_IsClue_j2 (k : Nat) (h : Int) (x5 x6 : Bool) (K : Int) (x42 : Bool) (K0 A B C : Int) : impl_IsClue.j2 (k + 1) h x5 x6 K x42 K0 A B C = some (clueBody h x5 x6 K x42 A B C) := by
  simp only [impl_IsClue.j2, impl_within_eq, Option.bind_some, clueBody]
  by_cases c1 : x42 = true
  · simp only [if_pos c1]; cases x6 <;> rfl
  · simp only [if_neg c1]
    by_cases c2 : K = 1
    · simp only [if_pos c2]; cases x5 <;> rfl
    · simp only [if_neg c2]
      by_cases c3 : K = 2
      · simp only [if_pos c3]
        by_cases c5 : B = 0
        · simp only [if_pos c5, beq_iff_eq.mpr c5]; cases inR A 0 5 <;> rfl
        · simp only [if_neg c5, beq_eq_false_iff_ne.mpr c5]; cases inR A 0 5 <;> rfl
      · simp only [if_neg c3]
        by_cases c4 : K = 4
        · simp only [if_pos c4]; cases x5 <;> rfl
        · simp only [if_neg c4]
          by_cases c5 : K = 5
          · simp only [if_pos c5]; cases x6 <;> rfl
          · simp only [if_neg c5]
theorem impl_IsClue_succ (k : Nat) (h K A B C : Int) : impl_IsClue.f (k + 3) h K A B C = some (inR h 2 4 && clueB h K A B C) := by
  unfold impl_IsClue.f
  simp only [impl_within_eq, Option.bind_some]
  cases hb : inR h 2 4 with
  | false => rfl
  | true =>
    simp only [if_true, Bool.true_and]
    have e : ∀ x5, impl_IsClue.j0 (k + 3) h x5 K A B C = some (clueBody h x5 ((A == 0) && (B == 0)) K ((K == 0) || (K == 3)) A B C) := by
      intro x5
      simp only [impl_IsClue.j0]
      by_cases c : A = 0
      · simp only [if_pos c, beq_iff_eq.mpr c, Bool.true_and, impl_IsClue.j1]
        by_cases c2 : K = 0
        · simp only [if_pos c2, impl_IsClue_j2, beq_iff_eq.mpr c2, Bool.true_or]
        · simp only [if_neg c2, impl_IsClue_j2, beq_eq_false_iff_ne.mpr c2, Bool.false_or]
      · simp only [if_neg c, beq_eq_false_iff_ne.mpr c, Bool.false_and, impl_IsClue.j1]
        by_cases c2 : K = 0
        · simp only [if_pos c2, impl_IsClue_j2, beq_iff_eq.mpr c2, Bool.true_or]
        · simp only [if_neg c2, impl_IsClue_j2, beq_eq_false_iff_ne.mpr c2, Bool.false_or]
    have t : twoB h A B = if mn A B ≥ 0 then (if mx A B < h then A != B else false) else false := by
      unfold twoB mn mx inR
      by_cases c1 : 0 ≤ A <;> by_cases c2 : 0 ≤ B <;> by_cases c3 : B < A <;> by_cases c4 : A < B <;> by_cases c5 : A ≤ h - 1 <;> by_cases c6 : B ≤ h - 1 <;> simp [c1, c2, c3, c4, c5, c6] <;> omega
    unfold clueB
    rw [t]
    by_cases c1 : mn A B ≥ 0
    · by_cases c2 : mx A B < h
      · simp only [if_pos c1, if_pos c2, e]
      · simp only [if_pos c1, if_neg c2, e]
    · simp only [if_neg c1, e]
theorem impl_IsClue_ev (h K A B C : Int) : Ev (fun k => impl_IsClue.f k h K A B C) (inR h 2 4 && clueB h K A B C) := Ev_add 3 ⟨0, fun k _ => impl_IsClue_succ k h K A B C⟩
theorem spec_l1In_eq (a lo hi : Int) : spec_l1In.f a lo hi = some (inR a lo hi) := by
  unfold spec_l1In.f inR
  by_cases h : lo ≤ a <;> simp [h]
theorem spec_pzClue_j2 (k : Nat) (h : Int) (x5 x6 : Bool) (K : Int) (x42 : Bool) (K0 A B C : Int) : spec_pzClue.j2 (k + 1) h x6 x5 K x42 K0 A B C = some (clueBody h x5 x6 K x42 A B C) := by
  simp only [spec_pzClue.j2, spec_l1In_eq, Option.bind_some, clueBody]
  by_cases c1 : x42 = true
  · simp only [if_pos c1]; cases x6 <;> rfl
  · simp only [if_neg c1]
    by_cases c2 : K = 1
    · simp only [if_pos c2]; cases x5 <;> rfl
    · simp only [if_neg c2]
      by_cases c3 : K = 2
      · simp only [if_pos c3]
        by_cases c5 : B = 0
        · simp only [if_pos c5, beq_iff_eq.mpr c5]; cases inR A 0 5 <;> rfl
        · simp only [if_neg c5, beq_eq_false_iff_ne.mpr c5]; cases inR A 0 5 <;> rfl
      · simp only [if_neg c3]
        by_cases c4 : K = 4
        · simp only [if_pos c4]; cases x5 <;> rfl
        · simp only [if_neg c4]
          by_cases c5 : K = 5
          · simp only [if_pos c5]; cases x6 <;> rfl
          · simp only [if_neg c5]
theorem spec_pzClue_ev (h K A B C : Int) (h0 : -1000 ≤ h) (h1 : h ≤ 1000) : Ev (fun k => spec_pzClue.f k h K A B C) (clueB h K A B C) := by
  have w1 : wrap64 (h - 1) = h - 1 := wrap_id (by omega) (by omega)
  have e2 : ∀ x5 x6 A0, Ev (fun k => spec_pzClue.j1 k h x6 x5 K A0 B C) (clueBody h x5 x6 K ((K == 0) || (K == 3)) A0 B C) := by
    intro x5 x6 A0
    refine Ev_add 2 ⟨0, fun k _ => ?_⟩
    simp only [spec_pzClue.j1]
    by_cases c : K = 0
    · simp only [if_pos c, spec_pzClue_j2, beq_iff_eq.mpr c, Bool.true_or]
    · simp only [if_neg c, spec_pzClue_j2, beq_eq_false_iff_ne.mpr c, Bool.false_or]
  have e1 : ∀ x6, Ev (fun k => spec_pzClue.j0 k h x6 K A B C) (clueBody h (twoB h A B) x6 K ((K == 0) || (K == 3)) A B C) := by
    intro x6
    refine Ev_add 1 ?_
    simp only [spec_pzClue.j0, spec_l1In_eq, Option.bind_some, w1]
    unfold twoB
    cases inR A 0 (h - 1) with
    | false =>
      simp only [Bool.false_eq_true, if_false, Bool.false_and]
      exact e2 _ _ _
    | true =>
      cases inR B 0 (h - 1) with
      | false =>
        simp only [Bool.false_eq_true, if_false, if_true, Bool.true_and, Bool.false_and]
        exact e2 _ _ _
      | true =>
        simp only [if_true, Bool.true_and]
        exact e2 _ _ _
  unfold spec_pzClue.f clueB
  by_cases c : A = 0
  · simp only [if_pos c, beq_iff_eq.mpr c, Bool.true_and]
    exact e1 _
  · simp only [if_neg c, beq_eq_false_iff_ne.mpr c, Bool.false_and]
    exact e1 _
theorem spec_pzHeaps_eq (h : Int) : spec_pzHeaps.f h = some (inR h 2 4) := by
  unfold spec_pzHeaps.f
  rw [spec_l1In_eq]
  rfl
theorem spec_IsClue_ev (h K A B C : Int) : Ev (fun k => spec_IsClue.f k h K A B C) (inR h 2 4 && clueB h K A B C) := by
  unfold spec_IsClue.f
  simp only [spec_pzHeaps_eq, Option.bind_some]
  cases hb : inR h 2 4 with
  | false =>
    simp only [Bool.false_eq_true, if_false, Bool.false_and]
    exact Ev.now _
  | true =>
    rw [inR_iff] at hb
    simp only [if_true, Bool.true_and]
    refine Ev.bind (spec_pzClue_ev h K A B C (by omega) (by omega)) ?_
    exact Ev.now _
theorem FnExactIsClue : laws_FnExactIsClue.Pure := by
  intro h K A B C _ _
  refine Ev.rounds (g := fun k => laws_FnExactIsClue.f k h K A B C) ?_
  unfold laws_FnExactIsClue.f laws_toClue.f
  simp only [Option.bind_some]
  refine Ev.bind (spec_IsClue_ev h K A B C) ?_
  refine Ev.bind (impl_IsClue_ev h K A B C) ?_
  simp only [bne_self_eq_false, Bool.false_eq_true, if_false]
  exact Ev.now _

end Go.Proofs.Ytchphfohembpcaa.Pure
