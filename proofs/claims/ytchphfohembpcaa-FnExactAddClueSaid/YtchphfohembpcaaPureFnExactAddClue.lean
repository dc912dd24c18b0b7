/-
  The program's AddClue returns what the reference's returns, for all arguments: the plain half, about the printed functions alone.
  Conditions: those of the statement's own row; none is added.
-/
import Derived.Test.YtchphfohembpcaaPXx7
namespace Go.Proofs.Ytchphfohembpcaa.Pure
set_option linter.unusedVariables false
set_option linter.unusedSimpArgs false
open Go.RowKit Go.Proofs.Ytchphfohembpcaa.PX Go.Proofs.YtchphfohembpcaaW.PrintWords Go.Proofs.YtchphfohembpcaaW.PrintLast Go.Proofs.YtchphfohembpcaaW.PrintMore Go.Proofs.YtchphfohembpcaaB

theorem Ev_add {α : Type} {g : Nat → Option α} {r : α} (m : Nat) (h : Ev (fun k => g (k + m)) r) : Ev g r := by
 obtain ⟨K, hK⟩ := h
 refine ⟨K + m, fun k hk => ?_⟩
 have h1 := hK (k - m) (by omega)
 simp only at h1
 rwa [Nat.sub_add_cancel (by omega)] at h1
theorem Ev_shift {α : Type} {g : Nat → Option α} {r : α} (m : Nat) (h : Ev g r) : Ev (fun k => g (k + m)) r := by
 obtain ⟨K, hK⟩ := h
 exact ⟨K, fun k hk => hK (k + m) (by omega)⟩
theorem wrap_id {x : Int} (h0 : -9223372036854775808 ≤ x) (h1 : x ≤ 9223372036854775807) : wrap64 x = x := by
 unfold wrap64
 omega
theorem rd_at (l : List Int) (i : Nat) (h : i < l.length) : rd l (i : Int) = l[i] := rd_get l i h
theorem rd_append_left (l m : List Int) (i : Int) (h0 : 0 ≤ i) (h : i < l.length) : rd (l ++ m) i = rd l i := by
 unfold rd
 rw [List.getD_eq_getElem?_getD, List.getD_eq_getElem?_getD, List.getElem?_append_left (by omega)]
def inR (a lo hi : Int) : Bool := decide (lo ≤ a) && decide (a ≤ hi)
theorem inR_iff {a lo hi : Int} : inR a lo hi = true ↔ lo ≤ a ∧ a ≤ hi := by simp [inR]
/-- What is asked of a clue, by its kind; x5: two heaps are told, x6: none is, x42: the kind is 0 or 3. -/
def clueBody (h : Int) (x5 x6 : Bool) (K : Int) (x42 : Bool) (A B C : Int) : Bool :=
 if x42 = true then x6 && inR C 0 20 else if K = 1 then x5 && inR C 0 1 else if K = 2 then inR A 0 5 && ((B == 0) && inR C 0 h) else if K = 4 then x5 && inR C 0 10 else if K = 5 then x6 && inR C 0 5 else false
def twoB (h A B : Int) : Bool := inR A 0 (h - 1) && (inR B 0 (h - 1) && (A != B))
def clueB (h K A B C : Int) : Bool := clueBody h (twoB h A B) ((A == 0) && (B == 0)) K ((K == 0) || (K == 3)) A B C
/-- A puzzle: the number of heaps, and the clues. -/
def goodP (h : Int) (cs : List S25) : Bool := inR h 2 4 && (decide ((cs.length : Int) ≤ 6) && cs.all fun c => clueB h c.f0 c.f1 c.f2 c.f3)
theorem rdClue_at (l : List S25) (i : Nat) (h : i < l.length) : rd_T25 l (i : Int) = l[i] := by
 unfold rd_T25
 simp [h]
theorem impl_within_eq (a lo hi : Int) : impl_within.f a lo hi = some (inR a lo hi) := by
 unfold impl_within.f inR
 by_cases h : lo ≤ a <;> simp [h]
theorem impl_IsClue_j2 (k : Nat) (h : Int) (x5 x6 : Bool) (K : Int) (x42 : Bool) (K0 A B C : Int) : impl_IsClue.j2 (k + 1) h x5 x6 K x42 K0 A B C = some (clueBody h x5 x6 K x42 A B C) := by
 simp only [impl_IsClue.j2, impl_within_eq, Option.bind_some, clueBody]
 by_cases c1 : x42 = true
 ·simp only [if_pos c1]; cases x6 <;> rfl
 ·simp only [if_neg c1]
  by_cases c2 : K = 1
  ·simp only [if_pos c2]; cases x5 <;> rfl
  ·simp only [if_neg c2]
   by_cases c3 : K = 2
   ·simp only [if_pos c3]
    by_cases c5 : B = 0
    ·simp only [if_pos c5, beq_iff_eq.mpr c5]; cases inR A 0 5 <;> rfl
    ·simp only [if_neg c5, beq_eq_false_iff_ne.mpr c5]; cases inR A 0 5 <;> rfl
   ·simp only [if_neg c3]
    by_cases c4 : K = 4
    ·simp only [if_pos c4]; cases x5 <;> rfl
    ·simp only [if_neg c4]
     by_cases c5 : K = 5
     ·simp only [if_pos c5]; cases x6 <;> rfl
     ·simp only [if_neg c5]
theorem impl_IsClue_succ (k : Nat) (h K A B C : Int) : impl_IsClue.f (k + 3) h K A B C = some (inR h 2 4 && clueB h K A B C) := by
 unfold impl_IsClue.f
 simp only [impl_within_eq, Option.bind_some]
 cases hb : inR h 2 4 with
 | false => rfl
 | true =>
  simp only [if_true, Bool.true_and]
  have e : ∀ x5, impl_IsClue.j0 (k + 3) h x5 K A B C = some (clueBody h x5 ((A == 0) && (B == 0)) K ((K == 0) || (K == 3)) A B C) := by
   intro x5
   simp only [impl_IsClue.j0]
   by_cases c : A = 0
   ·simp only [if_pos c, beq_iff_eq.mpr c, Bool.true_and, impl_IsClue.j1]
    by_cases c2 : K = 0
    ·simp only [if_pos c2, impl_IsClue_j2, beq_iff_eq.mpr c2, Bool.true_or]
    ·simp only [if_neg c2, impl_IsClue_j2, beq_eq_false_iff_ne.mpr c2, Bool.false_or]
   ·simp only [if_neg c, beq_eq_false_iff_ne.mpr c, Bool.false_and, impl_IsClue.j1]
    by_cases c2 : K = 0
    ·simp only [if_pos c2, impl_IsClue_j2, beq_iff_eq.mpr c2, Bool.true_or]
    ·simp only [if_neg c2, impl_IsClue_j2, beq_eq_false_iff_ne.mpr c2, Bool.false_or]
  have t : twoB h A B = if mn A B ≥ 0 then (if mx A B < h then A != B else false) else false := by
   unfold twoB mn mx inR
   by_cases c1 : 0 ≤ A <;> by_cases c2 : 0 ≤ B <;> by_cases c3 : B < A <;> by_cases c4 : A < B <;> by_cases c5 : A ≤ h - 1 <;> by_cases c6 : B ≤ h - 1 <;> simp [c1, c2, c3, c4, c5, c6] <;> omega
  unfold clueB
  rw [t]
  by_cases c1 : mn A B ≥ 0
  ·by_cases c2 : mx A B < h
   ·simp only [if_pos c1, if_pos c2, e]
   ·simp only [if_pos c1, if_neg c2, e]
  ·simp only [if_neg c1, e]
theorem impl_IsClue_ev (h K A B C : Int) : Ev (fun k => impl_IsClue.f k h K A B C) (inR h 2 4 && clueB h K A B C) := Ev_add 3 ⟨0, fun k _ => impl_IsClue_succ k h K A B C⟩
theorem anyO_ev {α : Type} (p : Nat → α → Option Bool) (q : α → Bool) : ∀ l : List α, (∀ x, x ∈ l → Ev (fun k => p k x) (q x)) → Ev (fun k => anyO (p k) l) (l.any q)
 | [], _ => Ev.now _
 | x :: t, h => by
  simp only [anyO]
  refine Ev.bind (h x List.mem_cons_self) ?_
  rw [List.any_cons]
  cases q x with
  | true =>
   simp only [if_true, Bool.true_or]
   exact Ev.now _
  | false =>
   simp only [Bool.false_eq_true, if_false, Bool.false_or]
   exact anyO_ev p q t fun y hy => h y (List.mem_cons_of_mem _ hy)
theorem not_any_not {α : Type} (q : α → Bool) (l : List α) : (!(l.any fun x => !q x)) = l.all q := by
 induction l with
 | nil => rfl
 | cons x t ih => rw [List.any_cons, List.all_cons, ← ih]; cases q x <;> simp
theorem impl_IsPuzzle_ev (h : Int) (l : List S25) : Ev (fun k => impl_IsPuzzle.f k h l) (goodP h l) := by
 unfold impl_IsPuzzle.f goodP
 simp only [impl_within_eq, Option.bind_some]
 cases hb : inR h 2 4 with
 | false =>
  simp only [Bool.false_eq_true, if_false, Bool.false_and]
  exact Ev.now _
 | true =>
  simp only [if_true, Bool.true_and]
  by_cases c : (l.length : Int) ≤ 6
  ·simp only [if_pos c, decide_eq_true c, Bool.true_and]
   have e := anyO_ev (fun k => impl_IsPuzzle_1.f k h) (fun x => !clueB h x.f0 x.f1 x.f2 x.f3) l (fun x _ => by
    unfold impl_IsPuzzle_1.f
    refine Ev.bind (impl_IsClue_ev h _ _ _ _) ?_
    rw [hb, Bool.true_and]
    exact Ev.now _)
   refine Ev.bind e ?_
   rw [← not_any_not]
   exact Ev.now _
  ·simp only [if_neg c, decide_eq_false c, Bool.false_and]
   exact Ev.now _
theorem spec_l1In_eq (a lo hi : Int) : spec_l1In.f a lo hi = some (inR a lo hi) := by
 unfold spec_l1In.f inR
 by_cases h : lo ≤ a <;> simp [h]
theorem spec_pzClue_j2 (k : Nat) (h : Int) (x5 x6 : Bool) (K : Int) (x42 : Bool) (K0 A B C : Int) : spec_pzClue.j2 (k + 1) h x6 x5 K x42 K0 A B C = some (clueBody h x5 x6 K x42 A B C) := by
 simp only [spec_pzClue.j2, spec_l1In_eq, Option.bind_some, clueBody]
 by_cases c1 : x42 = true
 ·simp only [if_pos c1]; cases x6 <;> rfl
 ·simp only [if_neg c1]
  by_cases c2 : K = 1
  ·simp only [if_pos c2]; cases x5 <;> rfl
  ·simp only [if_neg c2]
   by_cases c3 : K = 2
   ·simp only [if_pos c3]
    by_cases c5 : B = 0
    ·simp only [if_pos c5, beq_iff_eq.mpr c5]; cases inR A 0 5 <;> rfl
    ·simp only [if_neg c5, beq_eq_false_iff_ne.mpr c5]; cases inR A 0 5 <;> rfl
   ·simp only [if_neg c3]
    by_cases c4 : K = 4
    ·simp only [if_pos c4]; cases x5 <;> rfl
    ·simp only [if_neg c4]
     by_cases c5 : K = 5
     ·simp only [if_pos c5]; cases x6 <;> rfl
     ·simp only [if_neg c5]
theorem spec_pzClue_ev (h K A B C : Int) (h0 : -1000 ≤ h) (h1 : h ≤ 1000) : Ev (fun k => spec_pzClue.f k h K A B C) (clueB h K A B C) := by
 have w1 : wrap64 (h - 1) = h - 1 := wrap_id (by omega) (by omega)
 have e2 : ∀ x5 x6 A0, Ev (fun k => spec_pzClue.j1 k h x6 x5 K A0 B C) (clueBody h x5 x6 K ((K == 0) || (K == 3)) A0 B C) := by
  intro x5 x6 A0
  refine Ev_add 2 ⟨0, fun k _ => ?_⟩
  simp only [spec_pzClue.j1]
  by_cases c : K = 0
  ·simp only [if_pos c, spec_pzClue_j2, beq_iff_eq.mpr c, Bool.true_or]
  ·simp only [if_neg c, spec_pzClue_j2, beq_eq_false_iff_ne.mpr c, Bool.false_or]
 have e1 : ∀ x6, Ev (fun k => spec_pzClue.j0 k h x6 K A B C) (clueBody h (twoB h A B) x6 K ((K == 0) || (K == 3)) A B C) := by
  intro x6
  refine Ev_add 1 ?_
  simp only [spec_pzClue.j0, spec_l1In_eq, Option.bind_some, w1]
  unfold twoB
  cases inR A 0 (h - 1) with
  | false =>
   simp only [Bool.false_eq_true, if_false, Bool.false_and]
   exact e2 _ _ _
  | true =>
   cases inR B 0 (h - 1) with
   | false =>
    simp only [Bool.false_eq_true, if_false, if_true, Bool.true_and, Bool.false_and]
    exact e2 _ _ _
   | true =>
    simp only [if_true, Bool.true_and]
    exact e2 _ _ _
 unfold spec_pzClue.f clueB
 by_cases c : A = 0
 ·simp only [if_pos c, beq_iff_eq.mpr c, Bool.true_and]
  exact e1 _
 ·simp only [if_neg c, beq_eq_false_iff_ne.mpr c, Bool.false_and]
  exact e1 _
theorem spec_pzHeaps_eq (h : Int) : spec_pzHeaps.f h = some (inR h 2 4) := by
 unfold spec_pzHeaps.f
 rw [spec_l1In_eq]
 rfl
theorem spec_pzGood_l0 (h : Int) (h0 : 2 ≤ h) (h1 : h ≤ 4) (l : List S25) (hl : l.length ≤ 1000) : ∀ (d i : Nat), i + d = l.length → Ev (fun k => spec_pzGood.l0 k l (l.length : Int) (i : Int) h l) ((l.drop i).all fun c => clueB h c.f0 c.f1 c.f2 c.f3) := by
 intro d
 induction d with
 | zero =>
  intro i hi
  have c1 : ¬ (i : Int) < (l.length : Int) := by omega
  refine Ev_add 1 ?_
  simp only [spec_pzGood.l0, if_neg c1]
  rw [List.drop_of_length_le (by omega)]
  exact Ev.now _
 | succ d ih =>
  intro i hi
  have hlt : i < l.length := by omega
  have c1 : (i : Int) < (l.length : Int) := by omega
  have c2 : 0 ≤ (i : Int) := by omega
  have w1 : wrap64 ((i : Int) + 1) = ((i + 1 : Nat) : Int) := by rw [wrap_id (by omega) (by omega)]; omega
  refine Ev_add 1 ?_
  simp only [spec_pzGood.l0, if_pos c1, if_pos c2, rdClue_at l i hlt, w1]
  refine Ev.bind (spec_pzClue_ev h _ _ _ _ (by omega) (by omega)) ?_
  rw [List.drop_eq_getElem_cons hlt, List.all_cons]
  cases hb : clueB h l[i].f0 l[i].f1 l[i].f2 l[i].f3 with
  | true =>
   simp only [if_true, Bool.true_and]
   exact ih (i + 1) (by omega)
  | false =>
   simp only [Bool.false_eq_true, if_false, Bool.false_and]
   exact Ev.now _
theorem spec_pzGood_ev (h : Int) (l : List S25) : Ev (fun k => spec_pzGood.f k h l) (goodP h l) := by
 unfold spec_pzGood.f goodP
 simp only [spec_pzHeaps_eq, Option.bind_some]
 cases hb : inR h 2 4 with
 | false =>
  simp only [Bool.false_eq_true, if_false, Bool.false_and]
  refine Ev_add 1 ?_
  simp only [spec_pzGood.j0, if_true]
  exact Ev.now _
 | true =>
  rw [inR_iff] at hb
  simp only [if_true, Bool.true_and]
  refine Ev_add 1 ?_
  by_cases c : (l.length : Int) ≤ 6
  ·have c' : ¬ (l.length : Int) > 6 := by omega
   simp only [spec_pzGood.j0, decide_eq_false c', decide_eq_true c, Bool.false_eq_true, if_false, Bool.true_and]
   exact spec_pzGood_l0 h (by omega) (by omega) l (by omega) l.length 0 (by omega)
  ·have c' : (l.length : Int) > 6 := by omega
   simp only [spec_pzGood.j0, decide_eq_true c', decide_eq_false c, if_true, Bool.false_and]
   exact Ev.now _
theorem goodP_len {h : Int} {l : List S25} (hb : goodP h l = true) : l.length ≤ 6 := by
 unfold goodP at hb
 rw [Bool.and_eq_true, Bool.and_eq_true, decide_eq_true_eq] at hb
 omega
theorem goodP_add {h : Int} {l : List S25} (hb : goodP h l = true) (x : S25) : goodP h (l ++ [x]) = (clueB h x.f0 x.f1 x.f2 x.f3 && decide (¬ (l.length : Int) = 6)) := by
 have hn := goodP_len hb
 unfold goodP at hb ⊢
 rw [Bool.and_eq_true, Bool.and_eq_true] at hb
 rw [hb.1, List.all_append, hb.2.2]
 simp only [Bool.true_and, List.all_cons, List.all_nil, Bool.and_true, List.length_append, List.length_singleton]
 rw [Bool.and_comm]
 congr 1
 exact decide_eq_decide.2 ⟨fun h1 => by omega, fun h1 => by omega⟩
theorem agree_AddClue (h : Int) (l : List S25) (a b c d : Int) (hl : l.length ≤ 1048576) : ∃ v, Ev (fun k => spec_AddClue.f k h l a b c d) v ∧ Ev (fun k => impl_AddClue.f k h l a b c d) v ∧ v.2.1.length ≤ 1000000 := by
 refine ⟨if (goodP h l && (clueB h a b c d && decide (¬ (l.length : Int) = 6))) = true then (h, l ++ [⟨a, b, c, d⟩], true) else (0, [], false), ?_, ?_, ?_⟩
 ·unfold spec_AddClue.f
  refine Ev.bind (spec_pzGood_ev h l) ?_
  cases hb : goodP h l with
  | false =>
   simp only [Bool.false_eq_true, if_false, Bool.false_and]
   exact Ev.now _
  | true =>
   have hn := goodP_len hb
   have hh : -1000 ≤ h ∧ h ≤ 1000 := by
    unfold goodP at hb
    rw [Bool.and_eq_true, inR_iff] at hb
    omega
   simp only [if_true, Bool.true_and]
   refine Ev.bind (spec_pzClue_ev h a b c d hh.1 hh.2) ?_
   cases hc : clueB h a b c d with
   | false =>
    simp only [Bool.false_eq_true, if_false, Bool.false_and]
    exact Ev.now _
   | true =>
    by_cases e6 : (l.length : Int) = 6
    ·simp only [if_true, if_pos e6, e6, Bool.true_and, decide_not, decide_true, Bool.not_true, Bool.false_eq_true, if_false]
     exact Ev.now _
    ·simp only [if_true, if_neg e6, Bool.true_and, decide_eq_true e6, Option.bind_some, List.nil_append, List.length_nil, List.length_singleton, if_pos (show 0 + l.length < 4398046511104 by omega), if_pos (show l.length + 1 < 4398046511104 by omega)]
     exact Ev.now _
 ·unfold impl_AddClue.f impl_Clue_61.f
  simp only [if_pos (show l.length < 4398046511104 by omega), Option.bind_some, List.length_singleton, if_pos (show l.length + 1 < 4398046511104 by omega)]
  refine Ev.bind (impl_IsPuzzle_ev h l) ?_
  cases hb : goodP h l with
  | false =>
   simp only [Bool.false_eq_true, if_false, Bool.false_and]
   exact Ev.now _
  | true =>
   simp only [if_true, Bool.true_and]
   refine Ev.bind (impl_IsPuzzle_ev h (l ++ [⟨a, b, c, d⟩])) ?_
   rw [goodP_add hb ⟨a, b, c, d⟩]
   cases (clueB h a b c d && decide (¬ (l.length : Int) = 6)) with
   | false =>
    simp only [Bool.false_eq_true, if_false]
    exact Ev.now _
   | true =>
    simp only [if_true]
    exact Ev.now _
 ·split
  ·rename_i hb
   rw [Bool.and_eq_true] at hb
   have := goodP_len hb.1
   simp only [List.length_append, List.length_singleton]
   omega
  ·simp
theorem rdLClue_at (l : List S23) (i : Nat) (h : i < l.length) : rd_T23 l (i : Int) = l[i] := by
 unfold rd_T23
 simp [h]
def cvC (x : S23) : S25 := ⟨x.f0, x.f1, x.f2, x.f3⟩
theorem toClueS_l0 (l : List S23) (hl : l.length < 9223372036854775807) : ∀ (d k i : Nat) (out : List S25), i + d = l.length → d < k → out.length = l.length → out.take i = (l.map cvC).take i → laws_toClueS.l0 k l out (i : Int) = some (l.map cvC) := by
 intro d
 induction d with
 | zero =>
  intro k i out h hk ho ht
  obtain ⟨k, rfl⟩ : ∃ m, k = m + 1 := ⟨k - 1, by omega⟩
  simp only [laws_toClueS.l0]
  rw [if_neg (by omega)]
  rw [List.take_of_length_le (by omega), List.take_of_length_le (by simp; omega)] at ht
  rw [ht]
 | succ d ih =>
  intro k i out h hk ho ht
  obtain ⟨k, rfl⟩ : ∃ m, k = m + 1 := ⟨k - 1, by omega⟩
  have hi : i < l.length := by omega
  have e : (i : Int) + 1 = ((i + 1 : Nat) : Int) := by omega
  simp only [laws_toClueS.l0]
  rw [if_pos (by omega), if_pos (by omega), rdLClue_at l i hi]
  simp only [laws_toClue.f, Option.bind_some]
  rw [if_pos (by omega), wrap_id (by omega) (by omega), e, Int.toNat_natCast]
  refine ih k (i + 1) _ (by omega) (by omega) (by simpa using ho) ?_
  rw [List.take_succ_eq_append_getElem (by simpa using by omega), List.take_succ_eq_append_getElem (by simpa using hi), List.getElem_set_self, List.take_set_of_le (Nat.le_refl i), ht, List.getElem_map]
  rfl
theorem toClueS_ev (l : List S23) (hl : l.length ≤ 1048576) : Ev (fun k => laws_toClueS.f k l) (l.map cvC) :=
 ⟨l.length + 1, fun k hk => by
  have h := toClueS_l0 l (by omega) l.length k 0 (List.replicate l.length z25) (by omega) (by omega) (by simp) rfl
  show laws_toClueS.f k l = _
  unfold laws_toClueS.f
  rw [if_pos (by omega), if_pos (by omega)]
  simpa using h⟩
theorem toPuzzle_ev (h : Int) (l : List S23) (hl : l.length ≤ 1048576) : Ev (fun k => laws_toPuzzle.f k h l) (h, l.map cvC) := by
 unfold laws_toPuzzle.f
 refine Ev.bind (toClueS_ev l hl) ?_
 exact Ev.now _
theorem eqClueS_l0 (a : List S25) (hm : a.length < 9223372036854775807) : ∀ (d k i : Nat), i + d = a.length → d < k → laws_eqClueS.l0 k a a (i : Int) = some true := by
 intro d
 induction d with
 | zero =>
  intro k i h hk
  obtain ⟨k, rfl⟩ : ∃ m, k = m + 1 := ⟨k - 1, by omega⟩
  simp only [laws_eqClueS.l0]
  rw [if_neg (by omega)]
 | succ d ih =>
  intro k i h hk
  obtain ⟨k, rfl⟩ : ∃ m, k = m + 1 := ⟨k - 1, by omega⟩
  have hi : i < a.length := by omega
  have e : (i : Int) + 1 = ((i + 1 : Nat) : Int) := by omega
  simp only [laws_eqClueS.l0]
  rw [if_pos (by omega), if_pos (by omega), if_pos (by omega), rdClue_at a i hi, wrap_id (by omega) (by omega), e]
  simp only [laws_eqClue.f, if_true, Option.bind_some]
  exact ih k (i + 1) (by omega) (by omega)
theorem eqClueS_self (a : List S25) (hm : a.length < 9223372036854775807) : Ev (fun k => laws_eqClueS.f k a a) true := by
 refine ⟨a.length + 1, fun k hk => ?_⟩
 have h := eqClueS_l0 a hm a.length k 0 (by omega) (by omega)
 show laws_eqClueS.f k a a = _
 unfold laws_eqClueS.f
 rw [if_pos rfl]
 simpa using h
theorem eqPuzzle_self (h : Int) (a : List S25) (hm : a.length < 9223372036854775807) : Ev (fun k => laws_eqPuzzle.f k h a h a) true := by
 unfold laws_eqPuzzle.f
 simp only [if_true]
 refine Ev.bind (eqClueS_self a hm) ?_
 simp only [if_true]
 exact Ev.now _
theorem szPuzzle_cases (h : Int) (l : List S23) (m : Int) (h0 : 0 ≤ m) (h1 : m ≤ 1048576) (hl : (l.length : Int) ≤ 9223372036854775807) : (m < l.length ∧ laws_szPuzzle.f h l m = some (-1)) ∨ ((l.length : Int) ≤ m ∧ laws_szPuzzle.f h l m = some (m - l.length)) := by
 have w1 : wrap64 (m - (l.length : Int)) = m - (l.length : Int) := wrap_id (by omega) (by omega)
 unfold laws_szPuzzle.f laws_szClueS.f
 rw [w1]
 by_cases c : m - (l.length : Int) < 0
 ·refine .inl ⟨by omega, ?_⟩
  simp only [if_pos c, Option.bind_some, show ((-1 : Int) < 0) from by omega, if_true]
 ·refine .inr ⟨by omega, ?_⟩
  simp only [if_neg c, Option.bind_some]
/-- Marked clues: so many, from a number on. -/
def iotaClue : Nat → Int → List S25
 | 0, _ => []
 | n + 1, k => (⟨k, k + 1, k + 1 + 1, k + 1 + 1 + 1⟩ : S25) :: iotaClue n (k + 4)
theorem iotaClue_length : ∀ (n : Nat) (k : Int), (iotaClue n k).length = n
 | 0, _ => rfl
 | n + 1, k => by simp [iotaClue, iotaClue_length n]
theorem markClueS_l0 : ∀ (d k : Nat) (pre l : List S25) (i : Nat) (m : Int), i = pre.length → l.length = d → d < k → 0 ≤ m → m + 4 * d < 9223372036854775807 → pre.length + d < 9223372036854775807 → laws_markClueS.l0 k (pre ++ l) m (i : Int) = some (m + 4 * d, pre ++ iotaClue d m) := by
 intro d
 induction d with
 | zero =>
  intro k pre l i m hi hd hk h0 h1 h2
  obtain ⟨k, rfl⟩ : ∃ m, k = m + 1 := ⟨k - 1, by omega⟩
  obtain rfl : l = [] := List.eq_nil_of_length_eq_zero hd
  subst hi
  simp only [laws_markClueS.l0]
  rw [if_neg (by simp)]
  simp [iotaClue]
 | succ d ih =>
  intro k pre l i m hi hd hk h0 h1 h2
  obtain ⟨k, rfl⟩ : ∃ m, k = m + 1 := ⟨k - 1, by omega⟩
  cases l with
  | nil => simp at hd
  | cons x xs =>
   subst hi
   obtain ⟨y, hy⟩ : ∃ y : S25, y = ⟨m, m + 1, m + 1 + 1, m + 1 + 1 + 1⟩ := ⟨_, rfl⟩
   have e : (pre.length : Int) + 1 = ((pre ++ [y]).length : Int) := by simp
   have es : ∀ y : S25, (pre ++ x :: xs).set pre.length y = pre ++ y :: xs := by intro y; simp
   have es2 : ∀ y z : S25, (pre ++ y :: xs).set pre.length z = pre ++ z :: xs := by intro y z; simp
   have er : ∀ y : S25, rd_T25 (pre ++ y :: xs) (pre.length : Int) = y := by
    intro y
    rw [rdClue_at _ _ (by simp)]
    simp
   simp only [laws_markClueS.l0]
   rw [if_pos (by simp; omega), if_pos (by omega)]
   simp only [Option.bind_some, Int.toNat_natCast, es, es2, er]
   rw [wrap_id (x := m + 1) (by omega) (by omega), wrap_id (x := m + 1 + 1) (by omega) (by omega), wrap_id (x := m + 1 + 1 + 1) (by omega) (by omega), wrap_id (x := m + 1 + 1 + 1 + 1) (by omega) (by omega), wrap_id (x := (pre.length : Int) + 1) (by omega) (by omega), e, ← hy]
   have ec : pre ++ y :: xs = (pre ++ [y]) ++ xs := by simp
   rw [ec, ih k (pre ++ [y]) xs (pre ++ [y]).length (m + 1 + 1 + 1 + 1) rfl (by simpa using hd) (by omega) (by omega) (by omega) (by simp; omega)]
   have e2 : m + 1 + 1 + 1 + 1 = m + 4 := by omega
   rw [e2]
   simp [iotaClue, hy]
   omega
theorem markClueS_ev (l : List S25) (m : Int) (h0 : 0 ≤ m) (h1 : m + 4 * l.length < 9223372036854775807) : Ev (fun k => laws_markClueS.f k l m) (m + 4 * l.length, iotaClue l.length m) :=
 ⟨l.length + 1, fun k hk => by
  have h := markClueS_l0 l.length k [] l 0 m rfl rfl (by omega) h0 h1 (by simp; omega)
  simpa [laws_markClueS.f] using h⟩
theorem markPuzzle_ev (hp : Int) (l : List S25) (m : Int) (h0 : 0 ≤ m) (h1 : m + 4 * l.length < 9223372036854775807) : Ev (fun k => laws_markPuzzle.f k hp l m) (m + 4 * l.length, iotaClue l.length m) := by
 unfold laws_markPuzzle.f
 refine Ev.bind (markClueS_ev l m h0 h1) ?_
 exact Ev.now _
theorem heldClueS_l0 : ∀ (d k : Nat) (pre : List S25) (i : Nat) (m : Int), i = pre.length → d < k → 0 ≤ m → m + 4 * d < 9223372036854775807 → pre.length + d < 9223372036854775807 → laws_heldClueS.l0 k (pre ++ iotaClue d m) m (i : Int) = some (m + 4 * d) := by
 intro d
 induction d with
 | zero =>
  intro k pre i m hi hk h0 h1 h2
  obtain ⟨k, rfl⟩ : ∃ m, k = m + 1 := ⟨k - 1, by omega⟩
  subst hi
  simp only [laws_heldClueS.l0]
  rw [if_neg (by simp [iotaClue])]
  simp
 | succ d ih =>
  intro k pre i m hi hk h0 h1 h2
  obtain ⟨k, rfl⟩ : ∃ m, k = m + 1 := ⟨k - 1, by omega⟩
  subst hi
  obtain ⟨y, hy⟩ : ∃ y : S25, y = ⟨m, m + 1, m + 1 + 1, m + 1 + 1 + 1⟩ := ⟨_, rfl⟩
  have e : (pre.length : Int) + 1 = ((pre ++ [y]).length : Int) := by simp
  have er : rd_T25 (pre ++ iotaClue (d + 1) m) (pre.length : Int) = y := by
   rw [rdClue_at _ _ (by simp [iotaClue])]
   simp [iotaClue, hy]
  simp only [laws_heldClueS.l0]
  rw [if_pos (by simp [iotaClue]; omega), if_pos (by omega), er]
  simp only [hy]
  rw [if_pos trivial, wrap_id (x := m + 1) (by omega) (by omega), if_pos rfl, wrap_id (x := m + 1 + 1) (by omega) (by omega), if_pos rfl, wrap_id (x := m + 1 + 1 + 1) (by omega) (by omega), if_pos rfl, wrap_id (x := m + 1 + 1 + 1 + 1) (by omega) (by omega), wrap_id (x := (pre.length : Int) + 1) (by omega) (by omega), e]
  have es : pre ++ iotaClue (d + 1) m = (pre ++ [y]) ++ iotaClue d (m + 4) := by simp [iotaClue, hy]
  have e2 : m + 1 + 1 + 1 + 1 = m + 4 := by omega
  rw [es, e2, ih k (pre ++ [y]) (pre ++ [y]).length (m + 4) rfl (by omega) (by omega) (by omega) (by simp; omega)]
  congr 1
  omega
theorem heldClueS_ev (n : Nat) (m : Int) (h0 : 0 ≤ m) (h1 : m + 4 * n < 9223372036854775807) : Ev (fun k => laws_heldClueS.f k (iotaClue n m) m) (m + 4 * n) :=
 ⟨n + 1, fun k hk => by
  have h := heldClueS_l0 n k [] 0 m rfl (by omega) h0 h1 (by simp; omega)
  simpa [laws_heldClueS.f] using h⟩
theorem heldPuzzle_ev (hp : Int) (n : Nat) (m : Int) (h0 : 0 ≤ m) (h1 : m + 4 * n < 9223372036854775807) : Ev (fun k => laws_heldPuzzle.f k hp (iotaClue n m) m) (m + 4 * n) := by
 unfold laws_heldPuzzle.f
 refine Ev.bind (heldClueS_ev n m h0 h1) ?_
 have n1 : ¬ (m + 4 * (n : Int)) < 0 := by omega
 simp only [if_neg n1]
 exact Ev.now _
theorem FnExactAddClue : laws_FnExactAddClue.Pure := by
 intro h l a b c d hw _
 refine Ev.rounds (g := fun k => laws_FnExactAddClue.f k h l a b c d) ?_
 unfold laws_FnExactAddClue.f
 have hm := hw.2.1
 unfold maxLen at hm
 rcases szPuzzle_cases h l 1048576 (by omega) (by omega) (by omega) with ⟨_, hz⟩ | ⟨hl, hz⟩
 ·simp only [hz, Option.bind_some, show ((-1 : Int) < 0) from by omega, if_true]
  exact Ev.now _
 ·have n0 : ¬ (1048576 - (l.length : Int)) < 0 := by omega
  have hT := toPuzzle_ev h l (by omega)
  obtain ⟨⟨v1, v2, v3⟩, hs, hi, hn⟩ := agree_AddClue h (l.map cvC) a b c d (by simp; omega)
  have hn : v2.length ≤ 1000000 := hn
  have hE := eqPuzzle_self h (l.map cvC) (by simp; omega)
  have hM := markPuzzle_ev h (l.map cvC) 1 (by omega) (by simp; omega)
  have hQ := eqPuzzle_self v1 v2 (by omega)
  have hK := markPuzzle_ev v1 v2 1 (by omega) (by omega)
  have hH := heldPuzzle_ev v1 v2.length 1 (by omega) (by omega)
  have n1 : ¬ (1 + 4 * ((l.map cvC).length : Int)) < 0 := by omega
  have n2 : ¬ (1 + 4 * (v2.length : Int)) < 0 := by omega
  simp only [hz, Option.bind_some, if_neg n0, laws_toClue.f]
  repeat (first
   | exact Ev.now _
   | refine Ev.bind hT ?_
   | refine Ev.bind hs ?_
   | refine Ev.bind hi ?_
   | refine Ev.bind hE ?_
   | refine Ev.bind hM ?_
   | refine Ev.bind hQ ?_
   | refine Ev.bind hK ?_
   | refine Ev.bind hH ?_
   | simp only [if_true, bne_self_eq_false, Bool.false_eq_true, if_false, if_neg n1, if_neg n2]
   | (refine Ev_add 1 ?_; simp only [laws_FnExactAddClue.j0, laws_toClue.f, Option.bind_some])
   | (refine Ev_add 1 ?_; simp only [laws_FnExactAddClue.j1, laws_toClue.f, Option.bind_some])
   | (refine Ev_add 1 ?_; simp only [laws_FnExactAddClue.j2, laws_toClue.f, Option.bind_some]))

end Go.Proofs.Ytchphfohembpcaa.Pure
