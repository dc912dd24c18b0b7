/-
  The program's SureHeaps returns what the reference's returns, for all arguments: the plain half, about the printed functions alone.
  Conditions: those of the statement's own row; none is added.
-/
import Derived.Test.YtnijlmfamdhjmaaPUx10
namespace Go.Proofs.Ytnijlmfamdhjmaa.Pure
set_option linter.unusedVariables false
set_option linter.unusedSimpArgs false
open Go.RowKit Go.Proofs.Ytnijlmfamdhjmaa.PU Go.Proofs.YtnijlmfamdhjmaaW.PrintWords Go.Proofs.YtnijlmfamdhjmaaW.PrintLast Go.Proofs.YtnijlmfamdhjmaaW.PrintMore Go.Proofs.YtnijlmfamdhjmaaB

theorem Ev_add {α : Type} {g : Nat → Option α} {r : α} (m : Nat) (h : Ev (fun k => g (k + m)) r) : Ev g r := by
 obtain ⟨K, hK⟩ := h
 refine ⟨K + m, fun k hk => ?_⟩
 have h1 := hK (k - m) (by omega)
 simp only at h1
 rwa [Nat.sub_add_cancel (by omega)] at h1
theorem Ev_shift {α : Type} {g : Nat → Option α} {r : α} (m : Nat) (h : Ev g r) : Ev (fun k => g (k + m)) r := by
 obtain ⟨K, hK⟩ := h
 exact ⟨K, fun k hk => hK (k + m) (by omega)⟩
theorem wrap_id {x : Int} (h0 : -9223372036854775808 ≤ x) (h1 : x ≤ 9223372036854775807) : wrap64 x = x := by
 unfold wrap64
 omega
theorem rd_at (l : List Int) (i : Nat) (h : i < l.length) : rd l (i : Int) = l[i] := rd_get l i h
theorem rd_append_left (l m : List Int) (i : Int) (h0 : 0 ≤ i) (h : i < l.length) : rd (l ++ m) i = rd l i := by
 unfold rd
 rw [List.getD_eq_getElem?_getD, List.getD_eq_getElem?_getD, List.getElem?_append_left (by omega)]
/-- The sum of a list's numbers, as the machine adds. -/
def sumW (l : List Int) (z : Int) : Int := l.foldl (fun z x => wrap64 (z + x)) z
def overW (s : Int) (l : List Int) : List Int := l.map fun x => wrap64 (x - s)
def posW (l : List Int) (z : Int) : Int := l.foldl (fun z x => wrap64 (z + mx 0 x)) z
def cntW (a : Int) (l : List Int) (z : Int) : Int := l.foldl (fun z x => if x = a then wrap64 (z + 1) else z) z
theorem l1Most_eq (a b : Int) : spec_l1Most.f a b = some (mx a b) := by
 unfold spec_l1Most.f mx
 by_cases c : a > b
 ·rw [if_pos c, if_neg (by omega)]
 ·rw [if_neg c]
  by_cases c2 : a < b
  ·rw [if_pos c2]
  ·rw [if_neg c2]
   congr 1
   omega
theorem spec_hpOverW_l0 (s : Int) (t : List Int) (ht : t.length < 9223372036854775807) : ∀ (d i : Nat) (z : List Int), i + d = t.length → z.length ≤ i ∧ t.length ≤ 1000 → Ev (fun k => spec_hpOver.l0 k s z t (t.length : Int) (i : Int)) (z ++ overW s (t.drop i)) := by
 intro d
 induction d with
 | zero =>
  intro i z hi hz
  have c1 : ¬ (i : Int) < (t.length : Int) := by omega
  refine Ev_add 1 ?_
  simp only [spec_hpOver.l0, if_neg c1]
  rw [List.drop_of_length_le (by omega)]
  simp only [overW, List.map_nil, List.append_nil]
  exact Ev.now _
 | succ d ih =>
  intro i z hi hz
  have hlt : i < t.length := by omega
  have c1 : (i : Int) < (t.length : Int) := by omega
  have c2 : 0 ≤ (i : Int) := by omega
  have w1 : wrap64 ((i : Int) + 1) = ((i + 1 : Nat) : Int) := by rw [wrap_id (by omega) (by omega)]; omega
  refine Ev_add 1 ?_
  simp only [spec_hpOver.l0, if_pos c1, if_pos c2, rd_at t i hlt, w1]
  rw [List.drop_eq_getElem_cons hlt]
  have c3 : z.length < 17592186044416 := by omega
  simp only [if_pos c3, overW, List.map_cons]
  have := ih (i + 1) (z ++ [wrap64 (t[i] - s)]) (by omega) (by simp; omega)
  simpa [overW] using this
theorem impl_surplusW_l0 (s : Int) (t : List Int) (ht : t.length < 9223372036854775807) : ∀ (d i : Nat) (z : List Int), i + d = t.length → z.length ≤ i ∧ t.length ≤ 1000 → Ev (fun k => impl_surplus.l0 k s z t (t.length : Int) (i : Int)) ((z ++ overW s (t.drop i), true)) := by
 intro d
 induction d with
 | zero =>
  intro i z hi hz
  have c1 : ¬ (i : Int) < (t.length : Int) := by omega
  refine Ev_add 1 ?_
  simp only [impl_surplus.l0, if_neg c1]
  rw [List.drop_of_length_le (by omega)]
  simp only [overW, List.map_nil, List.append_nil]
  exact Ev.now _
 | succ d ih =>
  intro i z hi hz
  have hlt : i < t.length := by omega
  have c1 : (i : Int) < (t.length : Int) := by omega
  have c2 : 0 ≤ (i : Int) := by omega
  have w1 : wrap64 ((i : Int) + 1) = ((i + 1 : Nat) : Int) := by rw [wrap_id (by omega) (by omega)]; omega
  refine Ev_add 1 ?_
  simp only [impl_surplus.l0, if_pos c1, if_pos c2, rd_at t i hlt, w1]
  rw [List.drop_eq_getElem_cons hlt]
  have c3 : z.length < 17592186044416 := by omega
  simp only [if_pos c3, overW, List.map_cons]
  have := ih (i + 1) (z ++ [wrap64 (t[i] - s)]) (by omega) (by simp; omega)
  simpa [overW] using this
theorem spec_pzValue_l0 (a : Int) (t : List Int) (ht : t.length < 9223372036854775807) : ∀ (d i : Nat) (z : Int), i + d = t.length → Ev (fun k => spec_pzValue.l0 k a z t (t.length : Int) (i : Int)) (cntW a (t.drop i) z) := by
 intro d
 induction d with
 | zero =>
  intro i z hi
  have c1 : ¬ (i : Int) < (t.length : Int) := by omega
  refine Ev_add 1 ?_
  simp only [spec_pzValue.l0, if_neg c1]
  rw [List.drop_of_length_le (by omega)]
  exact Ev.now _
 | succ d ih =>
  intro i z hi
  have hlt : i < t.length := by omega
  have c1 : (i : Int) < (t.length : Int) := by omega
  have c2 : 0 ≤ (i : Int) := by omega
  have w1 : wrap64 ((i : Int) + 1) = ((i + 1 : Nat) : Int) := by rw [wrap_id (by omega) (by omega)]; omega
  refine Ev_add 1 ?_
  simp only [spec_pzValue.l0, if_pos c1, if_pos c2, rd_at t i hlt, w1]
  rw [List.drop_eq_getElem_cons hlt]
  simp only [cntW, List.foldl_cons]
  by_cases c : t[i] = a
  ·simp only [if_pos c]
   exact ih (i + 1) _ (by omega)
  ·simp only [if_neg c]
   exact ih (i + 1) _ (by omega)
theorem impl_told_l0 (K a B C : Int) (t : List Int) (ht : t.length < 9223372036854775807) : ∀ (d i : Nat) (z : Int), i + d = t.length → Ev (fun k => impl_told.l0 k z t (t.length : Int) (i : Int) K a B C) (cntW a (t.drop i) z) := by
 intro d
 induction d with
 | zero =>
  intro i z hi
  have c1 : ¬ (i : Int) < (t.length : Int) := by omega
  refine Ev_add 1 ?_
  simp only [impl_told.l0, if_neg c1]
  rw [List.drop_of_length_le (by omega)]
  exact Ev.now _
 | succ d ih =>
  intro i z hi
  have hlt : i < t.length := by omega
  have c1 : (i : Int) < (t.length : Int) := by omega
  have c2 : 0 ≤ (i : Int) := by omega
  have w1 : wrap64 ((i : Int) + 1) = ((i + 1 : Nat) : Int) := by rw [wrap_id (by omega) (by omega)]; omega
  refine Ev_add 1 ?_
  simp only [impl_told.l0, if_pos c1, if_pos c2, rd_at t i hlt, w1]
  rw [List.drop_eq_getElem_cons hlt]
  simp only [cntW, List.foldl_cons]
  by_cases c : t[i] = a
  ·simp only [if_pos c]
   exact ih (i + 1) _ (by omega)
  ·simp only [if_neg c]
   exact ih (i + 1) _ (by omega)
theorem spec_pzValue_l1 (t : List Int) (ht : t.length < 9223372036854775807) : ∀ (d i : Nat) (z : Int), i + d = t.length → Ev (fun k => spec_pzValue.l1 k z t (t.length : Int) (i : Int)) (posW (t.drop i) z) := by
 intro d
 induction d with
 | zero =>
  intro i z hi
  have c1 : ¬ (i : Int) < (t.length : Int) := by omega
  refine Ev_add 1 ?_
  simp only [spec_pzValue.l1, if_neg c1]
  rw [List.drop_of_length_le (by omega)]
  exact Ev.now _
 | succ d ih =>
  intro i z hi
  have hlt : i < t.length := by omega
  have c1 : (i : Int) < (t.length : Int) := by omega
  have c2 : 0 ≤ (i : Int) := by omega
  have w1 : wrap64 ((i : Int) + 1) = ((i + 1 : Nat) : Int) := by rw [wrap_id (by omega) (by omega)]; omega
  refine Ev_add 1 ?_
  simp only [spec_pzValue.l1, if_pos c1, if_pos c2, rd_at t i hlt, w1]
  rw [List.drop_eq_getElem_cons hlt]
  simp only [posW, List.foldl_cons, l1Most_eq, Option.bind_some]
  exact ih (i + 1) _ (by omega)
theorem impl_StonesToMove_l0 (t : List Int) (ht : t.length < 9223372036854775807) : ∀ (d i : Nat) (z : Int), i + d = t.length → Ev (fun k => impl_StonesToMove.l0 k z t (t.length : Int) (i : Int)) ((posW (t.drop i) z, true)) := by
 intro d
 induction d with
 | zero =>
  intro i z hi
  have c1 : ¬ (i : Int) < (t.length : Int) := by omega
  refine Ev_add 1 ?_
  simp only [impl_StonesToMove.l0, if_neg c1]
  rw [List.drop_of_length_le (by omega)]
  exact Ev.now _
 | succ d ih =>
  intro i z hi
  have hlt : i < t.length := by omega
  have c1 : (i : Int) < (t.length : Int) := by omega
  have c2 : 0 ≤ (i : Int) := by omega
  have w1 : wrap64 ((i : Int) + 1) = ((i + 1 : Nat) : Int) := by rw [wrap_id (by omega) (by omega)]; omega
  refine Ev_add 1 ?_
  simp only [impl_StonesToMove.l0, if_pos c1, if_pos c2, rd_at t i hlt, w1]
  rw [List.drop_eq_getElem_cons hlt]
  simp only [posW, List.foldl_cons]
  exact ih (i + 1) _ (by omega)
theorem spec_pzValue_l2 (t : List Int) (ht : t.length < 9223372036854775807) : ∀ (d i : Nat) (z : Int), i + d = t.length → Ev (fun k => spec_pzValue.l2 k z t (t.length : Int) (i : Int)) ((t.drop i).foldl mx z) := by
 intro d
 induction d with
 | zero =>
  intro i z hi
  have c1 : ¬ (i : Int) < (t.length : Int) := by omega
  refine Ev_add 1 ?_
  simp only [spec_pzValue.l2, if_neg c1]
  rw [List.drop_of_length_le (by omega)]
  exact Ev.now _
 | succ d ih =>
  intro i z hi
  have hlt : i < t.length := by omega
  have c1 : (i : Int) < (t.length : Int) := by omega
  have c2 : 0 ≤ (i : Int) := by omega
  have w1 : wrap64 ((i : Int) + 1) = ((i + 1 : Nat) : Int) := by rw [wrap_id (by omega) (by omega)]; omega
  refine Ev_add 1 ?_
  simp only [spec_pzValue.l2, if_pos c1, if_pos c2, rd_at t i hlt, w1]
  rw [List.drop_eq_getElem_cons hlt]
  simp only [List.foldl_cons, l1Most_eq, Option.bind_some]
  exact ih (i + 1) _ (by omega)
def inR (a lo hi : Int) : Bool := decide (lo ≤ a) && decide (a ≤ hi)
theorem inR_iff {a lo hi : Int} : inR a lo hi = true ↔ lo ≤ a ∧ a ≤ hi := by simp [inR]
/-- What is asked of a clue, by its kind; x5: two heaps are told, x6: none is, x42: the kind is 0 or 3. -/
def clueBody (h : Int) (x5 x6 : Bool) (K : Int) (x42 : Bool) (A B C : Int) : Bool :=
 if x42 = true then x6 && inR C 0 20 else if K = 1 then x5 && inR C 0 1 else if K = 2 then inR A 0 5 && ((B == 0) && inR C 0 h) else if K = 4 then x5 && inR C 0 10 else if K = 5 then x6 && inR C 0 5 else false
def twoB (h A B : Int) : Bool := inR A 0 (h - 1) && (inR B 0 (h - 1) && (A != B))
def clueB (h K A B C : Int) : Bool := clueBody h (twoB h A B) ((A == 0) && (B == 0)) K ((K == 0) || (K == 3)) A B C
/-- What a clue of a kind tells of heaps. -/
def toldV (K A B : Int) (l : List Int) : Int :=
 if K = 0 then sumW l 0 else if K = 1 then (if rd l A > rd l B then 1 else 0) else if K = 2 then cntW A l 0 else if K = 3 then (if (Int.tmod (sumW l 0) (l.length : Int) == 0) = true then posW (overW (wrap64 (Int.tdiv (sumW l 0) (l.length : Int))) l) 0 else 20) else if K = 4 then wrap64 (rd l A + rd l B) else l.foldl mx 0
/-- Hidden heaps. -/
def hidB (l : List Int) : Bool := inR (l.length : Int) 2 4 && l.all fun x => inR x 0 5
def okAB (K A B : Int) (l : List Int) : Prop := (K = 1 ∨ K = 4) → 0 ≤ A ∧ A < (l.length : Int) ∧ 0 ≤ B ∧ B < (l.length : Int)
theorem hidB_iff {l : List Int} : hidB l = true ↔ (2 ≤ l.length ∧ l.length ≤ 4) ∧ ∀ x ∈ l, 0 ≤ x ∧ x ≤ 5 := by
 unfold hidB
 rw [Bool.and_eq_true, inR_iff, List.all_eq_true]
 constructor
 ·rintro ⟨h1, h2⟩
  exact ⟨by omega, fun x hx => inR_iff.mp (h2 x hx)⟩
 ·rintro ⟨h1, h2⟩
  exact ⟨by omega, fun x hx => inR_iff.mpr (h2 x hx)⟩
theorem hidB_all {l : List Int} (h : hidB l = true) : (l.all fun x => inR x 0 1000) = true := by
 rw [hidB_iff] at h
 rw [List.all_eq_true]
 intro x hx
 have := h.2 x hx
 exact inR_iff.mpr ⟨by omega, by omega⟩
theorem clueB_ok {h K A B C : Int} {l : List Int} (e : (l.length : Int) = h) (hb : clueB h K A B C = true) : okAB K A B l := by
 intro hK
 unfold clueB clueBody at hb
 have t : twoB h A B = true := by
  rcases hK with rfl | rfl
  ·simp at hb; exact hb.1
  ·simp at hb; exact hb.1
 unfold twoB at t
 rw [Bool.and_eq_true, Bool.and_eq_true, inR_iff, inR_iff] at t
 omega
theorem spec_l1In_eq (a lo hi : Int) : spec_l1In.f a lo hi = some (inR a lo hi) := by
 unfold spec_l1In.f inR
 by_cases h : lo ≤ a <;> simp [h]
theorem spec_l1All_l0 (lo hi : Int) (l : List Int) (hl : l.length < 9223372036854775807) : ∀ (d k i : Nat), i + d = l.length → d < k → spec_l1All.l0 k lo hi l (l.length : Int) (i : Int) = some ((l.drop i).all fun x => inR x lo hi) := by
 intro d
 induction d with
 | zero =>
  intro k i h hk
  obtain ⟨k, rfl⟩ : ∃ m, k = m + 1 := ⟨k - 1, by omega⟩
  simp only [spec_l1All.l0]
  rw [if_neg (by omega), List.drop_of_length_le (by omega)]
  rfl
 | succ d ih =>
  intro k i h hk
  obtain ⟨k, rfl⟩ : ∃ m, k = m + 1 := ⟨k - 1, by omega⟩
  have hil : i < l.length := by omega
  have e : (i : Int) + 1 = ((i + 1 : Nat) : Int) := by omega
  simp only [spec_l1All.l0]
  rw [if_pos (by omega), if_pos (by omega), if_pos (by omega), spec_l1In_eq, rd_at l i hil, List.drop_eq_getElem_cons hil, List.all_cons, wrap_id (by omega) (by omega), e]
  simp only [Option.bind_some]
  cases hb : inR l[i] lo hi with
  | true => simpa using ih k (i + 1) (by omega) (by omega)
  | false => simp
theorem spec_l1All_ev (l : List Int) (lo hi : Int) (hl : l.length < 9223372036854775807) : Ev (fun k => spec_l1All.f k l lo hi) (l.all fun x => inR x lo hi) :=
 ⟨l.length + 1, fun k hk => by
  have := spec_l1All_l0 lo hi l hl l.length k 0 (by omega) (by omega)
  simpa [spec_l1All.f] using this⟩
theorem spec_hpSumW_l0 (t : List Int) (ht : t.length < 9223372036854775807) : ∀ (d i : Nat) (z : Int), i + d = t.length → Ev (fun k => spec_hpSum.l0 k z t (t.length : Int) (i : Int)) (sumW (t.drop i) z) := by
 intro d
 induction d with
 | zero =>
  intro i z hi
  have c1 : ¬ (i : Int) < (t.length : Int) := by omega
  refine Ev_add 1 ?_
  simp only [spec_hpSum.l0, sumW, List.foldl_cons, List.foldl_nil, if_neg c1]
  rw [List.drop_of_length_le (by omega)]
  exact Ev.now _
 | succ d ih =>
  intro i z hi
  have hlt : i < t.length := by omega
  have c1 : (i : Int) < (t.length : Int) := by omega
  have c2 : 0 ≤ (i : Int) := by omega
  have w1 : wrap64 ((i : Int) + 1) = ((i + 1 : Nat) : Int) := by rw [wrap_id (by omega) (by omega)]; omega
  refine Ev_add 1 ?_
  simp only [spec_hpSum.l0, sumW, List.foldl_cons, List.foldl_nil, if_pos c1, if_pos c2, rd_at t i hlt, w1]
  rw [List.drop_eq_getElem_cons hlt]
  exact ih (i + 1) _ (by omega)
theorem spec_hpSumW_ev (l : List Int) (hl : l.length < 9223372036854775807) : Ev (fun k => spec_hpSum.f k l) (sumW l 0) := by
 have h := spec_hpSumW_l0 l hl l.length 0 0 (by omega)
 simpa [spec_hpSum.f] using h
theorem spec_pzValue_ev (K A B : Int) (l : List Int) (hl : hidB l = true) (hk : okAB K A B l) : Ev (fun k => spec_pzValue.f k K A B l) (toldV K A B l) := by
 have hh := hidB_iff.mp hl
 have n0 : ¬ (l.length : Int) = 0 := by omega
 unfold spec_pzValue.f toldV
 by_cases c0 : K = 0
 ·simp only [if_pos c0]
  refine Ev.bind (spec_hpSumW_ev l (by omega)) ?_
  exact Ev.now _
 simp only [if_neg c0]
 by_cases c1 : K = 1
 ·obtain ⟨a0, a1, b0, b1⟩ := hk (.inl c1)
  simp only [if_pos c1, if_pos a0, if_pos a1, if_pos b0, if_pos b1]
  by_cases c : rd l A > rd l B
  ·simp only [if_pos c]
   exact Ev.now _
  ·simp only [if_neg c]
   exact Ev.now _
 simp only [if_neg c1]
 by_cases c2 : K = 2
 ·simp only [if_pos c2]
  have h := spec_pzValue_l0 A l (by omega) l.length 0 0 (by omega)
  simpa using h
 simp only [if_neg c2]
 by_cases c3 : K = 3
 ·simp only [if_pos c3]
  have g : Ev (fun k => spec_hpEqual.f k l) (Int.tmod (sumW l 0) (l.length : Int) == 0) := by
   unfold spec_hpEqual.f
   have g1 : Ev (fun k => spec_hpGood.f k l) true := by
    unfold spec_hpGood.f
    simp only [spec_l1In_eq, Option.bind_some, inR_iff.mpr (show 1 ≤ (l.length : Int) ∧ (l.length : Int) ≤ 12 by omega), if_true]
    have e := spec_l1All_ev l 0 1000 (by omega)
    rw [hidB_all hl] at e
    refine Ev.bind e ?_
    exact Ev.now _
   refine Ev.bind g1 ?_
   simp only [if_true]
   refine Ev.bind (spec_hpSumW_ev l (by omega)) ?_
   simp only [if_neg n0]
   exact Ev.now _
  refine Ev.bind g ?_
  cases hc : (Int.tmod (sumW l 0) (l.length : Int) == 0) with
  | false =>
   simp only [Bool.false_eq_true, if_false]
   exact Ev.now _
  | true =>
   simp only [if_true]
   have o : Ev (fun k => spec_hpOver.f k l) (overW (wrap64 (Int.tdiv (sumW l 0) (l.length : Int))) l) := by
    unfold spec_hpOver.f
    refine Ev.bind (spec_hpSumW_ev l (by omega)) ?_
    simp only [if_neg n0]
    have h := spec_hpOverW_l0 (wrap64 (Int.tdiv (sumW l 0) (l.length : Int))) l (by omega) l.length 0 [] (by omega) ⟨by simp, by omega⟩
    simpa using h
   refine Ev.bind o ?_
   have h := spec_pzValue_l1 (overW (wrap64 (Int.tdiv (sumW l 0) (l.length : Int))) l) (by simp [overW]; omega) (overW (wrap64 (Int.tdiv (sumW l 0) (l.length : Int))) l).length 0 0 (by omega)
   simpa using h
 simp only [if_neg c3]
 by_cases c4 : K = 4
 ·obtain ⟨a0, a1, b0, b1⟩ := hk (.inr c4)
  simp only [if_pos c4, if_pos a0, if_pos a1, if_pos b0, if_pos b1]
  exact Ev.now _
 simp only [if_neg c4]
 have h := spec_pzValue_l2 l (by omega) l.length 0 0 (by omega)
 simpa using h
theorem spec_pzFits_ev (K A B C : Int) (l : List Int) (hl : hidB l = true) (hk : okAB K A B l) : Ev (fun k => spec_pzFits.f k K A B C l) (toldV K A B l == C) := by
 unfold spec_pzFits.f
 refine Ev.bind (spec_pzValue_ev K A B l hl hk) ?_
 exact Ev.now _
theorem impl_within_eq (a lo hi : Int) : impl_within.f a lo hi = some (inR a lo hi) := by
 unfold impl_within.f inR
 by_cases h : lo ≤ a <;> simp [h]
theorem impl_areIn_eq (l : List Int) (lo hi : Int) : impl_areIn.f l lo hi = some (l.all fun x => inR x lo hi) := by
 unfold impl_areIn.f
 simp only [impl_within_eq, Option.bind_some]
 rw [anyO_some]
 simp only [Option.bind_some]
 congr 1
 induction l with
 | nil => rfl
 | cons x xs ih => simp only [List.any_cons, List.all_cons, Bool.not_or, Bool.not_not, ih]
theorem impl_sumW_l0 (t : List Int) (ht : t.length < 9223372036854775807) : ∀ (d i : Nat) (z : Int), i + d = t.length → Ev (fun k => impl_sum.l0 k z t (t.length : Int) (i : Int)) (sumW (t.drop i) z) := by
 intro d
 induction d with
 | zero =>
  intro i z hi
  have c1 : ¬ (i : Int) < (t.length : Int) := by omega
  refine Ev_add 1 ?_
  simp only [impl_sum.l0, sumW, List.foldl_cons, List.foldl_nil, if_neg c1]
  rw [List.drop_of_length_le (by omega)]
  exact Ev.now _
 | succ d ih =>
  intro i z hi
  have hlt : i < t.length := by omega
  have c1 : (i : Int) < (t.length : Int) := by omega
  have c2 : 0 ≤ (i : Int) := by omega
  have w1 : wrap64 ((i : Int) + 1) = ((i + 1 : Nat) : Int) := by rw [wrap_id (by omega) (by omega)]; omega
  refine Ev_add 1 ?_
  simp only [impl_sum.l0, sumW, List.foldl_cons, List.foldl_nil, if_pos c1, if_pos c2, rd_at t i hlt, w1]
  rw [List.drop_eq_getElem_cons hlt]
  exact ih (i + 1) _ (by omega)
theorem impl_sumW_ev (l : List Int) (hl : l.length < 9223372036854775807) : Ev (fun k => impl_sum.f k l) (sumW l 0) := by
 have h := impl_sumW_l0 l hl l.length 0 0 (by omega)
 simpa [impl_sum.f] using h
theorem impl_told_ev (K A B C : Int) (l : List Int) (hl : hidB l = true) (hk : okAB K A B l) : Ev (fun k => impl_told.f k K A B C l) (toldV K A B l) := by
 have hh := hidB_iff.mp hl
 have n0 : ¬ (l.length : Int) = 0 := by omega
 unfold impl_told.f toldV
 by_cases c0 : K = 0
 ·simp only [if_pos c0]
  refine Ev.bind (impl_sumW_ev l (by omega)) ?_
  exact Ev.now _
 simp only [if_neg c0]
 by_cases c1 : K = 1
 ·obtain ⟨a0, a1, b0, b1⟩ := hk (.inl c1)
  simp only [if_pos c1, if_pos a0, if_pos a1, if_pos b0, if_pos b1]
  by_cases c : rd l A > rd l B
  ·simp only [if_pos c]
   exact Ev.now _
  ·simp only [if_neg c]
   exact Ev.now _
 simp only [if_neg c1]
 by_cases c2 : K = 2
 ·simp only [if_pos c2]
  have h := impl_told_l0 K A B C l (by omega) l.length 0 0 (by omega)
  simpa using h
 simp only [if_neg c2]
 by_cases c3 : K = 3
 ·simp only [if_pos c3]
  have g : Ev (fun k => impl_CanBeEqual.f k l) ((Int.tmod (sumW l 0) (l.length : Int) == 0), true) := by
   unfold impl_CanBeEqual.f impl_AreHeaps.f
   simp only [impl_within_eq, Option.bind_some, inR_iff.mpr (show 1 ≤ (l.length : Int) ∧ (l.length : Int) ≤ 12 by omega), if_true, impl_areIn_eq]
   rw [hidB_all hl]
   simp only [if_true]
   refine Ev.bind (impl_sumW_ev l (by omega)) ?_
   simp only [if_neg n0]
   exact Ev.now _
  have s : Ev (fun k => impl_StonesToMove.f k l) (if (Int.tmod (sumW l 0) (l.length : Int) == 0) = true then (posW (overW (wrap64 (Int.tdiv (sumW l 0) (l.length : Int))) l) 0, true) else (0, false)) := by
   unfold impl_StonesToMove.f impl_surplus.f
   cases hc : (Int.tmod (sumW l 0) (l.length : Int) == 0) with
   | false =>
    rw [hc] at g
    have q : Ev (fun k => (impl_CanBeEqual.f k l).bind fun bt => if bt.2 = true then impl_surplus.j0 k l (!bt.1) else impl_surplus.j0 k l true) ([], false) := by
     refine Ev.bind g ?_
     simp only [if_true, Bool.not_false]
     refine Ev_add 1 ?_
     simp only [impl_surplus.j0, if_true]
     exact Ev.now _
    refine Ev.bind q ?_
    simp only [Bool.false_eq_true, if_false]
    exact Ev.now _
   | true =>
    rw [hc] at g
    have q : Ev (fun k => (impl_CanBeEqual.f k l).bind fun bt => if bt.2 = true then impl_surplus.j0 k l (!bt.1) else impl_surplus.j0 k l true) (overW (wrap64 (Int.tdiv (sumW l 0) (l.length : Int))) l, true) := by
     refine Ev.bind g ?_
     simp only [if_true, Bool.not_true]
     refine Ev_add 1 ?_
     simp only [impl_surplus.j0, Bool.false_eq_true, if_false]
     refine Ev.bind (impl_sumW_ev l (by omega)) ?_
     simp only [if_neg n0]
     have h := impl_surplusW_l0 (wrap64 (Int.tdiv (sumW l 0) (l.length : Int))) l (by omega) l.length 0 [] (by omega) ⟨by simp, by omega⟩
     simpa using h
    refine Ev.bind q ?_
    simp only [if_true]
    have h := impl_StonesToMove_l0 (overW (wrap64 (Int.tdiv (sumW l 0) (l.length : Int))) l) (by simp [overW]; omega) (overW (wrap64 (Int.tdiv (sumW l 0) (l.length : Int))) l).length 0 0 (by omega)
    simpa using h
  refine Ev.bind s ?_
  cases hc : (Int.tmod (sumW l 0) (l.length : Int) == 0) with
  | false =>
   simp only [Bool.false_eq_true, if_false]
   exact Ev.now _
  | true =>
   simp only [if_true]
   exact Ev.now _
 simp only [if_neg c3]
 by_cases c4 : K = 4
 ·obtain ⟨a0, a1, b0, b1⟩ := hk (.inr c4)
  simp only [if_pos c4, if_pos a0, if_pos a1, if_pos b0, if_pos b1]
  exact Ev.now _
 simp only [if_neg c4]
 cases l with
 | nil => simp at n0
 | cons x t =>
  have hx := hh.2 x List.mem_cons_self
  have e : mx 0 x = x := by
   unfold mx
   by_cases c : 0 < x
   ·rw [if_pos c]
   ·rw [if_neg c]
    omega
  simp only [slices_Max_int_int.f, Option.bind_some, List.foldl_cons, e]
  exact Ev.now _
theorem anyO_ev {α : Type} (p : Nat → α → Option Bool) (q : α → Bool) : ∀ l : List α, (∀ x, x ∈ l → Ev (fun k => p k x) (q x)) → Ev (fun k => anyO (p k) l) (l.any q)
 | [], _ => Ev.now _
 | x :: t, h => by
  simp only [anyO]
  refine Ev.bind (h x List.mem_cons_self) ?_
  rw [List.any_cons]
  cases q x with
  | true =>
   simp only [if_true, Bool.true_or]
   exact Ev.now _
  | false =>
   simp only [Bool.false_eq_true, if_false, Bool.false_or]
   exact anyO_ev p q t fun y hy => h y (List.mem_cons_of_mem _ hy)
theorem not_any_not {α : Type} (q : α → Bool) (l : List α) : (!(l.any fun x => !q x)) = l.all q := by
 induction l with
 | nil => rfl
 | cons x t ih => rw [List.any_cons, List.all_cons, ← ih]; cases q x <;> simp
theorem impl_fit_ev (cs : List S50) (l : List Int) (hl : hidB l = true) (hk : ∀ c ∈ cs, okAB c.f0 c.f1 c.f2 l) : Ev (fun k => impl_fit.f k cs l) (cs.all fun c => toldV c.f0 c.f1 c.f2 l == c.f3) := by
 unfold impl_fit.f
 have e := anyO_ev (fun k => impl_fit_1.f k l) (fun c => !(toldV c.f0 c.f1 c.f2 l == c.f3)) cs (fun c hc => by
  unfold impl_fit_1.f
  refine Ev.bind (impl_told_ev c.f0 c.f1 c.f2 c.f3 l hl (hk c hc)) ?_
  exact Ev.now _)
 refine Ev.bind e ?_
 rw [← not_any_not]
 exact Ev.now _
/-- A puzzle: the number of heaps, and the clues. -/
def goodP (h : Int) (cs : List S50) : Bool := inR h 2 4 && (decide ((cs.length : Int) ≤ 6) && cs.all fun c => clueB h c.f0 c.f1 c.f2 c.f3)
theorem rdClue_at (l : List S50) (i : Nat) (h : i < l.length) : rd_T50 l (i : Int) = l[i] := by
 unfold rd_T50
 simp [h]
/-- All lists of so many numbers from 0 to 5, in order. -/
def allL : Nat → List (List Int)
 | 0 => [[]]
 | n + 1 => [0, 1, 2, 3, 4, 5].flatMap fun x => (allL n).map (x :: ·)
theorem allL_len : ∀ n, (allL (n + 1)).length = 6 * (allL n).length := by
 intro n
 simp only [allL, List.flatMap_cons, List.flatMap_nil, List.length_append, List.length_map, List.length_nil]
 omega
theorem allL_mem : ∀ (n : Nat) (l : List Int), l ∈ allL n → l.length = n ∧ ∀ x ∈ l, 0 ≤ x ∧ x ≤ 5
 | 0, l, h => by
  obtain rfl := List.mem_singleton.1 h
  exact ⟨rfl, by simp⟩
 | n + 1, l, h => by
  simp only [allL, List.mem_flatMap, List.mem_map] at h
  obtain ⟨x, hx, t, ht, rfl⟩ := h
  obtain ⟨h1, h2⟩ := allL_mem n t ht
  refine ⟨by simp [h1], fun y hy => ?_⟩
  rcases List.mem_cons.1 hy with rfl | hy
  ·simp only [List.mem_cons, List.not_mem_nil, or_false] at hx
   omega
  ·exact h2 y hy
theorem allL_hid {n : Nat} (h2 : 2 ≤ n) (h4 : n ≤ 4) {l : List Int} (h : l ∈ allL n) : hidB l = true := by
 obtain ⟨h1, hx⟩ := allL_mem n l h
 exact hidB_iff.mpr ⟨by omega, hx⟩
def fitsB (cs : List S50) (l : List Int) : Bool := cs.all fun c => toldV c.f0 c.f1 c.f2 l == c.f3
/-- The hidden heaps of so many that fit all clues, in order. -/
def solsV (cs : List S50) (n : Nat) : List (List Int) := (allL n).filter (fitsB cs)
/-- Is l followed by these lists, one after the other, to the last of all? -/
def chainB : List Int → List (List Int) → Bool
 | l, [] => decide (nxtL 5 l = none)
 | l, x :: t => decide (nxtL 5 l = some x) && chainB x t
theorem chain_2 : allL 2 = List.replicate 2 0 :: (allL 2).tail ∧ chainB (List.replicate 2 0) (allL 2).tail = true ∧ (allL 2).length = 36 := by decide +kernel
theorem chain_3 : allL 3 = List.replicate 3 0 :: (allL 3).tail ∧ chainB (List.replicate 3 0) (allL 3).tail = true ∧ (allL 3).length = 216 := by decide +kernel
theorem chain_4 : allL 4 = List.replicate 4 0 :: (allL 4).tail ∧ chainB (List.replicate 4 0) (allL 4).tail = true ∧ (allL 4).length = 1296 := by decide +kernel
theorem chain_n (n : Nat) (h2 : 2 ≤ n) (h4 : n ≤ 4) : allL n = List.replicate n 0 :: (allL n).tail ∧ chainB (List.replicate n 0) (allL n).tail = true ∧ (allL n).length ≤ 1296 := by
 obtain rfl | rfl | rfl : n = 2 ∨ n = 3 ∨ n = 4 := by omega
 ·exact ⟨chain_2.1, chain_2.2.1, by rw [chain_2.2.2]; omega⟩
 ·exact ⟨chain_3.1, chain_3.2.1, by rw [chain_3.2.2]; omega⟩
 ·exact ⟨chain_4.1, chain_4.2.1, by rw [chain_4.2.2]; omega⟩
theorem solsV_len (cs : List S50) (n : Nat) (h2 : 2 ≤ n) (h4 : n ≤ 4) : (solsV cs n).length ≤ 1296 := Nat.le_trans (List.length_filter_le _ _) (chain_n n h2 h4).2.2
theorem solsV_mem {cs : List S50} {n : Nat} {l : List Int} (h : l ∈ solsV cs n) : l.length = n ∧ ∀ x ∈ l, 0 ≤ x ∧ x ≤ 5 := allL_mem n l (List.mem_filter.1 h).1
theorem filter_one {α : Type} (q : α → Bool) (x : α) (out : List α) : (if q x = true then out ++ [x] else out) = out ++ [x].filter q := by
 cases h : q x <;> simp [h]
theorem impl_sols_l0 (cs : List S50) (q : List Int → Bool) : ∀ (t : List (List Int)) (l : List Int) (out : List (List Int)), chainB l t = true → (∀ x ∈ l :: t, Ev (fun k => impl_fit.f k cs x) (q x)) → out.length + t.length < 1000000 → Ev (fun k => impl_solutions.l0 k cs l out) (out ++ (l :: t).filter q) := by
 intro t
 induction t with
 | nil =>
  intro l out hc hh hl
  have hc : nxtL 5 l = none := by simpa [chainB] using hc
  have c1 : out.length < 1000000 := by simp at hl; omega
  refine Ev_add 1 ?_
  simp only [impl_solutions.l0]
  refine Ev.bind (hh l List.mem_cons_self) ?_
  simp only [if_pos c1, hc, filter_one]
  exact Ev.now _
 | cons x t ih =>
  intro l out hc hh hl
  simp only [chainB, Bool.and_eq_true, decide_eq_true_eq] at hc
  obtain ⟨h1, h2⟩ := hc
  have c1 : out.length < 1000000 := by omega
  refine Ev_add 1 ?_
  simp only [impl_solutions.l0]
  refine Ev.bind (hh l List.mem_cons_self) ?_
  simp only [if_pos c1, h1, filter_one]
  have := ih x (out ++ [l].filter q) h2 (fun y hy => hh y (List.mem_cons_of_mem _ hy)) (by
   have := List.length_filter_le q [l]
   simp only [List.length_append, List.length_cons, List.length_nil] at this hl ⊢
   omega)
  have e : out ++ (l :: x :: t).filter q = (out ++ [l].filter q) ++ (x :: t).filter q := by
   rw [List.append_assoc, ← List.filter_append]
   rfl
  rw [e]
  exact this
/-- So many heaps, and clues that speak of them. -/
def goodC (h : Int) (cs : List S50) : Prop := (2 ≤ h ∧ h ≤ 4) ∧ ∀ c ∈ cs, clueB h c.f0 c.f1 c.f2 c.f3 = true
theorem goodC_of {h : Int} {cs : List S50} (hb : goodP h cs = true) : goodC h cs := by
 unfold goodP at hb
 rw [Bool.and_eq_true, Bool.and_eq_true, inR_iff, List.all_eq_true] at hb
 exact ⟨hb.1, hb.2.2⟩
theorem goodC_sub {h : Int} {cs ds : List S50} (hg : goodC h cs) (hs : ∀ c ∈ ds, c ∈ cs) : goodC h ds := ⟨hg.1, fun c hc => hg.2 c (hs c hc)⟩
theorem impl_solutions_ev (h : Int) (cs : List S50) (hg : goodC h cs) : Ev (fun k => impl_solutions.f k h cs) (solsV cs h.toNat) := by
 obtain ⟨⟨h2, h4⟩, hc⟩ := hg
 obtain ⟨n, rfl⟩ := Int.eq_ofNat_of_zero_le (show 0 ≤ h by omega)
 rw [Int.toNat_natCast]
 obtain ⟨e1, e2, e3⟩ := chain_n n (by omega) (by omega)
 unfold impl_solutions.f
 simp only [if_pos (show 0 < (n : Int) ∧ (n : Int) ≤ 1000 by omega), Int.toNat_natCast]
 have := impl_sols_l0 cs (fitsB cs) (allL n).tail (List.replicate n 0) [] e2 (fun x hx => by
  rw [← e1] at hx
  have hl := (allL_mem n x hx).1
  exact impl_fit_ev cs x (allL_hid (by omega) (by omega) hx) (fun c hcc => clueB_ok (by rw [hl]) (hc c hcc))) (by simp; omega)
 rw [← e1] at this
 simpa [solsV] using this
theorem impl_IsClue_j2 (k : Nat) (h : Int) (x5 x6 : Bool) (K : Int) (x42 : Bool) (K0 A B C : Int) : impl_IsClue.j2 (k + 1) h x5 x6 K x42 K0 A B C = some (clueBody h x5 x6 K x42 A B C) := by
 simp only [impl_IsClue.j2, impl_within_eq, Option.bind_some, clueBody]
 by_cases c1 : x42 = true
 ·simp only [if_pos c1]; cases x6 <;> rfl
 ·simp only [if_neg c1]
  by_cases c2 : K = 1
  ·simp only [if_pos c2]; cases x5 <;> rfl
  ·simp only [if_neg c2]
   by_cases c3 : K = 2
   ·simp only [if_pos c3]
    by_cases c5 : B = 0
    ·simp only [if_pos c5, beq_iff_eq.mpr c5]; cases inR A 0 5 <;> rfl
    ·simp only [if_neg c5, beq_eq_false_iff_ne.mpr c5]; cases inR A 0 5 <;> rfl
   ·simp only [if_neg c3]
    by_cases c4 : K = 4
    ·simp only [if_pos c4]; cases x5 <;> rfl
    ·simp only [if_neg c4]
     by_cases c5 : K = 5
     ·simp only [if_pos c5]; cases x6 <;> rfl
     ·simp only [if_neg c5]
theorem impl_IsClue_succ (k : Nat) (h K A B C : Int) : impl_IsClue.f (k + 3) h K A B C = some (inR h 2 4 && clueB h K A B C) := by
 unfold impl_IsClue.f
 simp only [impl_within_eq, Option.bind_some]
 cases hb : inR h 2 4 with
 | false => rfl
 | true =>
  simp only [if_true, Bool.true_and]
  have e : ∀ x5, impl_IsClue.j0 (k + 3) h x5 K A B C = some (clueBody h x5 ((A == 0) && (B == 0)) K ((K == 0) || (K == 3)) A B C) := by
   intro x5
   simp only [impl_IsClue.j0]
   by_cases c : A = 0
   ·simp only [if_pos c, beq_iff_eq.mpr c, Bool.true_and, impl_IsClue.j1]
    by_cases c2 : K = 0
    ·simp only [if_pos c2, impl_IsClue_j2, beq_iff_eq.mpr c2, Bool.true_or]
    ·simp only [if_neg c2, impl_IsClue_j2, beq_eq_false_iff_ne.mpr c2, Bool.false_or]
   ·simp only [if_neg c, beq_eq_false_iff_ne.mpr c, Bool.false_and, impl_IsClue.j1]
    by_cases c2 : K = 0
    ·simp only [if_pos c2, impl_IsClue_j2, beq_iff_eq.mpr c2, Bool.true_or]
    ·simp only [if_neg c2, impl_IsClue_j2, beq_eq_false_iff_ne.mpr c2, Bool.false_or]
  have t : twoB h A B = if mn A B ≥ 0 then (if mx A B < h then A != B else false) else false := by
   unfold twoB mn mx inR
   by_cases c1 : 0 ≤ A <;> by_cases c2 : 0 ≤ B <;> by_cases c3 : B < A <;> by_cases c4 : A < B <;> by_cases c5 : A ≤ h - 1 <;> by_cases c6 : B ≤ h - 1 <;> simp [c1, c2, c3, c4, c5, c6] <;> omega
  unfold clueB
  rw [t]
  by_cases c1 : mn A B ≥ 0
  ·by_cases c2 : mx A B < h
   ·simp only [if_pos c1, if_pos c2, e]
   ·simp only [if_pos c1, if_neg c2, e]
  ·simp only [if_neg c1, e]
theorem impl_IsClue_ev (h K A B C : Int) : Ev (fun k => impl_IsClue.f k h K A B C) (inR h 2 4 && clueB h K A B C) := Ev_add 3 ⟨0, fun k _ => impl_IsClue_succ k h K A B C⟩
theorem impl_IsPuzzle_ev (h : Int) (l : List S50) : Ev (fun k => impl_IsPuzzle.f k h l) (goodP h l) := by
 unfold impl_IsPuzzle.f goodP
 simp only [impl_within_eq, Option.bind_some]
 cases hb : inR h 2 4 with
 | false =>
  simp only [Bool.false_eq_true, if_false, Bool.false_and]
  exact Ev.now _
 | true =>
  simp only [if_true, Bool.true_and]
  by_cases c : (l.length : Int) ≤ 6
  ·simp only [if_pos c, decide_eq_true c, Bool.true_and]
   have e := anyO_ev (fun k => impl_IsPuzzle_1.f k h) (fun x => !clueB h x.f0 x.f1 x.f2 x.f3) l (fun x _ => by
    unfold impl_IsPuzzle_1.f
    refine Ev.bind (impl_IsClue_ev h _ _ _ _) ?_
    rw [hb, Bool.true_and]
    exact Ev.now _)
   refine Ev.bind e ?_
   rw [← not_any_not]
   exact Ev.now _
  ·simp only [if_neg c, decide_eq_false c, Bool.false_and]
   exact Ev.now _
theorem impl_Solutions_ev (h : Int) (l : List S50) : Ev (fun k => impl_Solutions.f k h l) (if goodP h l = true then (solsV l h.toNat, true) else ([], false)) := by
 unfold impl_Solutions.f
 refine Ev.bind (impl_IsPuzzle_ev h l) ?_
 cases hb : goodP h l with
 | false =>
  simp only [Bool.false_eq_true, if_false]
  exact Ev.now _
 | true =>
  simp only [if_true]
  refine Ev.bind (impl_solutions_ev h l (goodC_of hb)) ?_
  exact Ev.now _
theorem allO_ev (cs : List S50) (l : List Int) (hl : hidB l = true) (hk : ∀ c ∈ cs, okAB c.f0 c.f1 c.f2 l) : Ev (fun k => allO (fun c => spec_pzFits.f k c.f0 c.f1 c.f2 c.f3 l) cs) (fitsB cs l) := by
 induction cs with
 | nil => exact Ev.now _
 | cons c t ih =>
  simp only [allO, fitsB, List.all_cons]
  refine Ev.bind (spec_pzFits_ev c.f0 c.f1 c.f2 c.f3 l hl (hk c List.mem_cons_self)) ?_
  cases toldV c.f0 c.f1 c.f2 l == c.f3 with
  | false =>
   simp only [Bool.false_eq_true, if_false, Bool.false_and]
   exact Ev.now _
  | true =>
   simp only [if_true, Bool.true_and]
   exact ih fun d hd => hk d (List.mem_cons_of_mem _ hd)
theorem look_ev (cs : List S50) (n : Nat) (h2 : 2 ≤ n) (h4 : n ≤ 4) (hc : ∀ c ∈ cs, clueB (n : Int) c.f0 c.f1 c.f2 c.f3 = true) : ∀ (m : Nat) (b : List Int) (out : List (List Int)), b.length + m = n → (∀ x ∈ b, 0 ≤ x ∧ x ≤ 5) → out.length + (allL m).length ≤ 1000000 → Ev (fun k => lookP k cs m b out) (out ++ ((allL m).map (b ++ ·)).filter (fitsB cs)) := by
 intro m
 induction m with
 | zero =>
  intro b out hb hx hl
  have hl1 : out.length + 1 ≤ 1000000 := hl
  simp only [lookP]
  refine Ev.bind (allO_ev cs b (hidB_iff.mpr ⟨by omega, hx⟩) (fun c hcc => clueB_ok (by omega) (hc c hcc))) ?_
  simp only [if_pos (show out.length < 1000000 by omega), filter_one, allL, List.map_cons, List.map_nil, List.append_nil]
  exact Ev.now _
 | succ m ih =>
  intro b out hb hx hl
  rw [allL_len] at hl
  have step : ∀ (x : Int) (o : List (List Int)), 0 ≤ x → x ≤ 5 → o.length + (allL m).length ≤ 1000000 → Ev (fun k => lookP k cs m (b ++ [x]) o) (o ++ ((allL m).map ((b ++ [x]) ++ ·)).filter (fitsB cs)) := by
   intro x o h0 h5 ho
   refine ih (b ++ [x]) o (by simp; omega) (fun y hy => ?_) ho
   rcases List.mem_append.1 hy with hy | hy
   ·exact hx y hy
   ·obtain rfl := List.mem_singleton.1 hy
    exact ⟨h0, h5⟩
  have fl : ∀ x : Int, (((allL m).map ((b ++ [x]) ++ ·)).filter (fitsB cs)).length ≤ (allL m).length := fun x => Nat.le_trans (List.length_filter_le _ _) (by simp)
  have e : out ++ ((allL (m + 1)).map (b ++ ·)).filter (fitsB cs) = out ++ ((allL m).map ((b ++ [0]) ++ ·)).filter (fitsB cs) ++ ((allL m).map ((b ++ [1]) ++ ·)).filter (fitsB cs) ++ ((allL m).map ((b ++ [2]) ++ ·)).filter (fitsB cs) ++ ((allL m).map ((b ++ [3]) ++ ·)).filter (fitsB cs) ++ ((allL m).map ((b ++ [4]) ++ ·)).filter (fitsB cs) ++ ((allL m).map ((b ++ [5]) ++ ·)).filter (fitsB cs) := by
   simp only [allL, List.flatMap_cons, List.flatMap_nil, List.append_nil, List.map_append, List.map_map, List.filter_append, List.append_assoc, Function.comp_def, List.cons_append, List.nil_append]
  rw [e]
  simp only [lookP, if_pos (show b.length < 1000 by omega), lookS, show (0 : Int) + 1 = 1 from rfl, show (1 : Int) + 1 = 2 from rfl, show (2 : Int) + 1 = 3 from rfl, show (3 : Int) + 1 = 4 from rfl, show (4 : Int) + 1 = 5 from rfl]
  have f0 := fl 0
  have f1 := fl 1
  have f2 := fl 2
  have f3 := fl 3
  have f4 := fl 4
  refine Ev.bind (step 0 _ (by omega) (by omega) (by omega)) ?_
  refine Ev.bind (step 1 _ (by omega) (by omega) (by simp only [List.length_append]; omega)) ?_
  refine Ev.bind (step 2 _ (by omega) (by omega) (by simp only [List.length_append]; omega)) ?_
  refine Ev.bind (step 3 _ (by omega) (by omega) (by simp only [List.length_append]; omega)) ?_
  refine Ev.bind (step 4 _ (by omega) (by omega) (by simp only [List.length_append]; omega)) ?_
  refine Ev.bind (step 5 _ (by omega) (by omega) (by simp only [List.length_append]; omega)) ?_
  exact Ev.now _
theorem spec_pzAll_ev (h : Int) (cs : List S50) (hg : goodC h cs) : Ev (fun k => spec_pzAll.f k h cs) (solsV cs h.toNat) := by
 obtain ⟨⟨h2, h4⟩, hc⟩ := hg
 obtain ⟨n, rfl⟩ := Int.eq_ofNat_of_zero_le (show 0 ≤ h by omega)
 rw [Int.toNat_natCast]
 obtain ⟨e1, e2, e3⟩ := chain_n n (by omega) (by omega)
 unfold spec_pzAll.f
 simp only [if_pos (show 0 ≤ (n : Int) ∧ (n : Int) ≤ 100 by omega), Int.toNat_natCast]
 have := look_ev cs n (by omega) (by omega) hc n [] [] (by simp) (by simp) (by simp; omega)
 simpa [solsV] using this
theorem spec_pzClue_j2 (k : Nat) (h : Int) (x5 x6 : Bool) (K : Int) (x42 : Bool) (K0 A B C : Int) : spec_pzClue.j2 (k + 1) h x6 x5 K x42 K0 A B C = some (clueBody h x5 x6 K x42 A B C) := by
 simp only [spec_pzClue.j2, spec_l1In_eq, Option.bind_some, clueBody]
 by_cases c1 : x42 = true
 ·simp only [if_pos c1]; cases x6 <;> rfl
 ·simp only [if_neg c1]
  by_cases c2 : K = 1
  ·simp only [if_pos c2]; cases x5 <;> rfl
  ·simp only [if_neg c2]
   by_cases c3 : K = 2
   ·simp only [if_pos c3]
    by_cases c5 : B = 0
    ·simp only [if_pos c5, beq_iff_eq.mpr c5]; cases inR A 0 5 <;> rfl
    ·simp only [if_neg c5, beq_eq_false_iff_ne.mpr c5]; cases inR A 0 5 <;> rfl
   ·simp only [if_neg c3]
    by_cases c4 : K = 4
    ·simp only [if_pos c4]; cases x5 <;> rfl
    ·simp only [if_neg c4]
     by_cases c5 : K = 5
     ·simp only [if_pos c5]; cases x6 <;> rfl
     ·simp only [if_neg c5]
theorem spec_pzClue_ev (h K A B C : Int) (h0 : -1000 ≤ h) (h1 : h ≤ 1000) : Ev (fun k => spec_pzClue.f k h K A B C) (clueB h K A B C) := by
 have w1 : wrap64 (h - 1) = h - 1 := wrap_id (by omega) (by omega)
 have e2 : ∀ x5 x6 A0, Ev (fun k => spec_pzClue.j1 k h x6 x5 K A0 B C) (clueBody h x5 x6 K ((K == 0) || (K == 3)) A0 B C) := by
  intro x5 x6 A0
  refine Ev_add 2 ⟨0, fun k _ => ?_⟩
  simp only [spec_pzClue.j1]
  by_cases c : K = 0
  ·simp only [if_pos c, spec_pzClue_j2, beq_iff_eq.mpr c, Bool.true_or]
  ·simp only [if_neg c, spec_pzClue_j2, beq_eq_false_iff_ne.mpr c, Bool.false_or]
 have e1 : ∀ x6, Ev (fun k => spec_pzClue.j0 k h x6 K A B C) (clueBody h (twoB h A B) x6 K ((K == 0) || (K == 3)) A B C) := by
  intro x6
  refine Ev_add 1 ?_
  simp only [spec_pzClue.j0, spec_l1In_eq, Option.bind_some, w1]
  unfold twoB
  cases inR A 0 (h - 1) with
  | false =>
   simp only [Bool.false_eq_true, if_false, Bool.false_and]
   exact e2 _ _ _
  | true =>
   cases inR B 0 (h - 1) with
   | false =>
    simp only [Bool.false_eq_true, if_false, if_true, Bool.true_and, Bool.false_and]
    exact e2 _ _ _
   | true =>
    simp only [if_true, Bool.true_and]
    exact e2 _ _ _
 unfold spec_pzClue.f clueB
 by_cases c : A = 0
 ·simp only [if_pos c, beq_iff_eq.mpr c, Bool.true_and]
  exact e1 _
 ·simp only [if_neg c, beq_eq_false_iff_ne.mpr c, Bool.false_and]
  exact e1 _
theorem spec_pzHeaps_eq (h : Int) : spec_pzHeaps.f h = some (inR h 2 4) := by
 unfold spec_pzHeaps.f
 rw [spec_l1In_eq]
 rfl
theorem spec_pzGood_l0 (h : Int) (h0 : 2 ≤ h) (h1 : h ≤ 4) (l : List S50) (hl : l.length ≤ 1000) : ∀ (d i : Nat), i + d = l.length → Ev (fun k => spec_pzGood.l0 k l (l.length : Int) (i : Int) h l) ((l.drop i).all fun c => clueB h c.f0 c.f1 c.f2 c.f3) := by
 intro d
 induction d with
 | zero =>
  intro i hi
  have c1 : ¬ (i : Int) < (l.length : Int) := by omega
  refine Ev_add 1 ?_
  simp only [spec_pzGood.l0, if_neg c1]
  rw [List.drop_of_length_le (by omega)]
  exact Ev.now _
 | succ d ih =>
  intro i hi
  have hlt : i < l.length := by omega
  have c1 : (i : Int) < (l.length : Int) := by omega
  have c2 : 0 ≤ (i : Int) := by omega
  have w1 : wrap64 ((i : Int) + 1) = ((i + 1 : Nat) : Int) := by rw [wrap_id (by omega) (by omega)]; omega
  refine Ev_add 1 ?_
  simp only [spec_pzGood.l0, if_pos c1, if_pos c2, rdClue_at l i hlt, w1]
  refine Ev.bind (spec_pzClue_ev h _ _ _ _ (by omega) (by omega)) ?_
  rw [List.drop_eq_getElem_cons hlt, List.all_cons]
  cases hb : clueB h l[i].f0 l[i].f1 l[i].f2 l[i].f3 with
  | true =>
   simp only [if_true, Bool.true_and]
   exact ih (i + 1) (by omega)
  | false =>
   simp only [Bool.false_eq_true, if_false, Bool.false_and]
   exact Ev.now _
theorem spec_pzGood_ev (h : Int) (l : List S50) : Ev (fun k => spec_pzGood.f k h l) (goodP h l) := by
 unfold spec_pzGood.f goodP
 simp only [spec_pzHeaps_eq, Option.bind_some]
 cases hb : inR h 2 4 with
 | false =>
  simp only [Bool.false_eq_true, if_false, Bool.false_and]
  refine Ev_add 1 ?_
  simp only [spec_pzGood.j0, if_true]
  exact Ev.now _
 | true =>
  rw [inR_iff] at hb
  simp only [if_true, Bool.true_and]
  refine Ev_add 1 ?_
  by_cases c : (l.length : Int) ≤ 6
  ·have c' : ¬ (l.length : Int) > 6 := by omega
   simp only [spec_pzGood.j0, decide_eq_false c', decide_eq_true c, Bool.false_eq_true, if_false, Bool.true_and]
   exact spec_pzGood_l0 h (by omega) (by omega) l (by omega) l.length 0 (by omega)
  ·have c' : (l.length : Int) > 6 := by omega
   simp only [spec_pzGood.j0, decide_eq_true c', decide_eq_false c, if_true, Bool.false_and]
   exact Ev.now _
theorem mrgR_self : ∀ x : List Int, mrgR x x = x
 | [] => rfl
 | a :: t => by
  show (if a = a then a else -1) :: mrgR t t = a :: t
  rw [if_pos rfl, mrgR_self t]
theorem foldl_mrg_len (n : Nat) : ∀ (t : List (List Int)) (x : List Int), (∀ r ∈ t, r.length = n) → x.length = n → (t.foldl mrgR x).length = n
 | [], x, _, h => h
 | r :: t, x, ht, h => by
  rw [List.foldl_cons]
  refine foldl_mrg_len n t _ (fun s hs => ht s (List.mem_cons_of_mem _ hs)) ?_
  rw [mrgR_len x r (by rw [h]; exact ht r List.mem_cons_self), h]
theorem agree_SureHeaps (h : Int) (l : List S50) : ∃ v, Ev (fun k => spec_SureHeaps.f k h l) v ∧ Ev (fun k => impl_SureHeaps.f k h l) v ∧ v.1.length ≤ 1000000 := by
 cases hb : goodP h l with
 | false =>
  refine ⟨([], false), ?_, ?_, by simp⟩
  ·unfold spec_SureHeaps.f
   refine Ev.bind (spec_pzGood_ev h l) ?_
   simp only [hb, Bool.false_eq_true, if_false]
   exact Ev.now _
  ·unfold impl_SureHeaps.f
   refine Ev.bind (impl_Solutions_ev h l) ?_
   simp only [hb, Bool.false_eq_true, if_false]
   exact Ev.now _
 | true =>
  have hg := goodC_of hb
  have hh := hg.1
  have hmem : ∀ r ∈ solsV l h.toNat, r.length = h.toNat := fun r hr => (solsV_mem hr).1
  have hlen := solsV_len l h.toNat (by omega) (by omega)
  cases e : solsV l h.toNat with
  | nil =>
   refine ⟨([], false), ?_, ?_, by simp⟩
   ·unfold spec_SureHeaps.f
    refine Ev.bind (spec_pzGood_ev h l) ?_
    simp only [hb, if_true]
    refine Ev.bind (spec_pzAll_ev h l hg) ?_
    simp only [e]
    exact Ev.now _
   ·unfold impl_SureHeaps.f
    refine Ev.bind (impl_Solutions_ev h l) ?_
    simp only [hb, if_true, e]
    exact Ev.now _
  | cons x t =>
   rw [e] at hmem hlen
   have hx : x.length = h.toNat := hmem x List.mem_cons_self
   have ht : ∀ r ∈ t, r.length = h.toNat := fun r hr => hmem r (List.mem_cons_of_mem _ hr)
   simp only [List.length_cons] at hlen
   refine ⟨(t.foldl mrgR x, true), ?_, ?_, by simp only [foldl_mrg_len h.toNat t x ht hx]; omega⟩
   ·unfold spec_SureHeaps.f
    refine Ev.bind (spec_pzGood_ev h l) ?_
    simp only [hb, if_true]
    refine Ev.bind (spec_pzAll_ev h l hg) ?_
    simp only [e]
    simp only [if_pos (show (∀ r ∈ t, r.length = x.length) ∧ t.length < 1000000 ∧ x.length < 1000000 from ⟨fun r hr => by rw [ht r hr, hx], by omega, by omega⟩), List.foldl_cons, mrgR_self]
    exact Ev.now _
   ·unfold impl_SureHeaps.f
    refine Ev.bind (impl_Solutions_ev h l) ?_
    simp only [hb, if_true, e]
    simp only [if_pos (show (∀ r ∈ t, r.length = x.length) ∧ t.length < 1000000 ∧ x.length < 1000000 from ⟨fun r hr => by rw [ht r hr, hx], by omega, by omega⟩)]
    exact Ev.now _
theorem rdLClue_at (l : List S102) (i : Nat) (h : i < l.length) : rd_T102 l (i : Int) = l[i] := by
 unfold rd_T102
 simp [h]
def cvC (x : S102) : S50 := ⟨x.f0, x.f1, x.f2, x.f3⟩
theorem toClueS_l0 (l : List S102) (hl : l.length < 9223372036854775807) : ∀ (d k i : Nat) (out : List S50), i + d = l.length → d < k → out.length = l.length → out.take i = (l.map cvC).take i → laws_toClueS.l0 k l out (i : Int) = some (l.map cvC) := by
 intro d
 induction d with
 | zero =>
  intro k i out h hk ho ht
  obtain ⟨k, rfl⟩ : ∃ m, k = m + 1 := ⟨k - 1, by omega⟩
  simp only [laws_toClueS.l0]
  rw [if_neg (by omega)]
  rw [List.take_of_length_le (by omega), List.take_of_length_le (by simp; omega)] at ht
  rw [ht]
 | succ d ih =>
  intro k i out h hk ho ht
  obtain ⟨k, rfl⟩ : ∃ m, k = m + 1 := ⟨k - 1, by omega⟩
  have hi : i < l.length := by omega
  have e : (i : Int) + 1 = ((i + 1 : Nat) : Int) := by omega
  simp only [laws_toClueS.l0]
  rw [if_pos (by omega), if_pos (by omega), rdLClue_at l i hi]
  simp only [laws_toClue.f, Option.bind_some]
  rw [if_pos (by omega), wrap_id (by omega) (by omega), e, Int.toNat_natCast]
  refine ih k (i + 1) _ (by omega) (by omega) (by simpa using ho) ?_
  rw [List.take_succ_eq_append_getElem (by simpa using by omega), List.take_succ_eq_append_getElem (by simpa using hi), List.getElem_set_self, List.take_set_of_le (Nat.le_refl i), ht, List.getElem_map]
  rfl
theorem toClueS_ev (l : List S102) (hl : l.length ≤ 1048576) : Ev (fun k => laws_toClueS.f k l) (l.map cvC) :=
 ⟨l.length + 1, fun k hk => by
  have h := toClueS_l0 l (by omega) l.length k 0 (List.replicate l.length z50) (by omega) (by omega) (by simp) rfl
  show laws_toClueS.f k l = _
  unfold laws_toClueS.f
  rw [if_pos (by omega), if_pos (by omega)]
  simpa using h⟩
theorem toPuzzle_ev (h : Int) (l : List S102) (hl : l.length ≤ 1048576) : Ev (fun k => laws_toPuzzle.f k h l) (h, l.map cvC) := by
 unfold laws_toPuzzle.f
 refine Ev.bind (toClueS_ev l hl) ?_
 exact Ev.now _
theorem eqClueS_l0 (a : List S50) (hm : a.length < 9223372036854775807) : ∀ (d k i : Nat), i + d = a.length → d < k → laws_eqClueS.l0 k a a (i : Int) = some true := by
 intro d
 induction d with
 | zero =>
  intro k i h hk
  obtain ⟨k, rfl⟩ : ∃ m, k = m + 1 := ⟨k - 1, by omega⟩
  simp only [laws_eqClueS.l0]
  rw [if_neg (by omega)]
 | succ d ih =>
  intro k i h hk
  obtain ⟨k, rfl⟩ : ∃ m, k = m + 1 := ⟨k - 1, by omega⟩
  have hi : i < a.length := by omega
  have e : (i : Int) + 1 = ((i + 1 : Nat) : Int) := by omega
  simp only [laws_eqClueS.l0]
  rw [if_pos (by omega), if_pos (by omega), if_pos (by omega), rdClue_at a i hi, wrap_id (by omega) (by omega), e]
  simp only [laws_eqClue.f, if_true, Option.bind_some]
  exact ih k (i + 1) (by omega) (by omega)
theorem eqClueS_self (a : List S50) (hm : a.length < 9223372036854775807) : Ev (fun k => laws_eqClueS.f k a a) true := by
 refine ⟨a.length + 1, fun k hk => ?_⟩
 have h := eqClueS_l0 a hm a.length k 0 (by omega) (by omega)
 show laws_eqClueS.f k a a = _
 unfold laws_eqClueS.f
 rw [if_pos rfl]
 simpa using h
theorem eqPuzzle_self (h : Int) (a : List S50) (hm : a.length < 9223372036854775807) : Ev (fun k => laws_eqPuzzle.f k h a h a) true := by
 unfold laws_eqPuzzle.f
 simp only [if_true]
 refine Ev.bind (eqClueS_self a hm) ?_
 simp only [if_true]
 exact Ev.now _
theorem szPuzzle_cases (h : Int) (l : List S102) (m : Int) (h0 : 0 ≤ m) (h1 : m ≤ 1048576) (hl : (l.length : Int) ≤ 9223372036854775807) : (m < l.length ∧ laws_szPuzzle.f h l m = some (-1)) ∨ ((l.length : Int) ≤ m ∧ laws_szPuzzle.f h l m = some (m - l.length)) := by
 have w1 : wrap64 (m - (l.length : Int)) = m - (l.length : Int) := wrap_id (by omega) (by omega)
 unfold laws_szPuzzle.f laws_szClueS.f
 rw [w1]
 by_cases c : m - (l.length : Int) < 0
 ·refine .inl ⟨by omega, ?_⟩
  simp only [if_pos c, Option.bind_some, show ((-1 : Int) < 0) from by omega, if_true]
 ·refine .inr ⟨by omega, ?_⟩
  simp only [if_neg c, Option.bind_some]
/-- Marked clues: so many, from a number on. -/
def iotaClue : Nat → Int → List S50
 | 0, _ => []
 | n + 1, k => (⟨k, k + 1, k + 1 + 1, k + 1 + 1 + 1⟩ : S50) :: iotaClue n (k + 4)
theorem iotaClue_length : ∀ (n : Nat) (k : Int), (iotaClue n k).length = n
 | 0, _ => rfl
 | n + 1, k => by simp [iotaClue, iotaClue_length n]
theorem markClueS_l0 : ∀ (d k : Nat) (pre l : List S50) (i : Nat) (m : Int), i = pre.length → l.length = d → d < k → 0 ≤ m → m + 4 * d < 9223372036854775807 → pre.length + d < 9223372036854775807 → laws_markClueS.l0 k (pre ++ l) m (i : Int) = some (m + 4 * d, pre ++ iotaClue d m) := by
 intro d
 induction d with
 | zero =>
  intro k pre l i m hi hd hk h0 h1 h2
  obtain ⟨k, rfl⟩ : ∃ m, k = m + 1 := ⟨k - 1, by omega⟩
  obtain rfl : l = [] := List.eq_nil_of_length_eq_zero hd
  subst hi
  simp only [laws_markClueS.l0]
  rw [if_neg (by simp)]
  simp [iotaClue]
 | succ d ih =>
  intro k pre l i m hi hd hk h0 h1 h2
  obtain ⟨k, rfl⟩ : ∃ m, k = m + 1 := ⟨k - 1, by omega⟩
  cases l with
  | nil => simp at hd
  | cons x xs =>
   subst hi
   obtain ⟨y, hy⟩ : ∃ y : S50, y = ⟨m, m + 1, m + 1 + 1, m + 1 + 1 + 1⟩ := ⟨_, rfl⟩
   have e : (pre.length : Int) + 1 = ((pre ++ [y]).length : Int) := by simp
   have es : ∀ y : S50, (pre ++ x :: xs).set pre.length y = pre ++ y :: xs := by intro y; simp
   have es2 : ∀ y z : S50, (pre ++ y :: xs).set pre.length z = pre ++ z :: xs := by intro y z; simp
   have er : ∀ y : S50, rd_T50 (pre ++ y :: xs) (pre.length : Int) = y := by
    intro y
    rw [rdClue_at _ _ (by simp)]
    simp
   simp only [laws_markClueS.l0]
   rw [if_pos (by simp; omega), if_pos (by omega)]
   simp only [Option.bind_some, Int.toNat_natCast, es, es2, er]
   rw [wrap_id (x := m + 1) (by omega) (by omega), wrap_id (x := m + 1 + 1) (by omega) (by omega), wrap_id (x := m + 1 + 1 + 1) (by omega) (by omega), wrap_id (x := m + 1 + 1 + 1 + 1) (by omega) (by omega), wrap_id (x := (pre.length : Int) + 1) (by omega) (by omega), e, ← hy]
   have ec : pre ++ y :: xs = (pre ++ [y]) ++ xs := by simp
   rw [ec, ih k (pre ++ [y]) xs (pre ++ [y]).length (m + 1 + 1 + 1 + 1) rfl (by simpa using hd) (by omega) (by omega) (by omega) (by simp; omega)]
   have e2 : m + 1 + 1 + 1 + 1 = m + 4 := by omega
   rw [e2]
   simp [iotaClue, hy]
   omega
theorem markClueS_ev (l : List S50) (m : Int) (h0 : 0 ≤ m) (h1 : m + 4 * l.length < 9223372036854775807) : Ev (fun k => laws_markClueS.f k l m) (m + 4 * l.length, iotaClue l.length m) :=
 ⟨l.length + 1, fun k hk => by
  have h := markClueS_l0 l.length k [] l 0 m rfl rfl (by omega) h0 h1 (by simp; omega)
  simpa [laws_markClueS.f] using h⟩
theorem markPuzzle_ev (hp : Int) (l : List S50) (m : Int) (h0 : 0 ≤ m) (h1 : m + 4 * l.length < 9223372036854775807) : Ev (fun k => laws_markPuzzle.f k hp l m) (m + 4 * l.length, iotaClue l.length m) := by
 unfold laws_markPuzzle.f
 refine Ev.bind (markClueS_ev l m h0 h1) ?_
 exact Ev.now _
theorem eqIntS_l0 (a b : List Int) (hl : a.length = b.length) (hm : a.length < 9223372036854775807) : ∀ (d k i : Nat), i + d = a.length → d < k → laws_eqIntS.l0 k a b (i : Int) = some (decide (a.drop i = b.drop i)) := by
 intro d
 induction d with
 | zero =>
  intro k i h hk
  obtain ⟨k, rfl⟩ : ∃ m, k = m + 1 := ⟨k - 1, by omega⟩
  simp only [laws_eqIntS.l0]
  rw [if_neg (by omega), List.drop_of_length_le (by omega), List.drop_of_length_le (by omega)]
  simp
 | succ d ih =>
  intro k i h hk
  obtain ⟨k, rfl⟩ : ∃ m, k = m + 1 := ⟨k - 1, by omega⟩
  have hi : i < a.length := by omega
  have hj : i < b.length := by omega
  have e : (i : Int) + 1 = ((i + 1 : Nat) : Int) := by omega
  simp only [laws_eqIntS.l0]
  rw [if_pos (by omega), if_pos (by omega), if_pos (by omega), rd_at a i hi, rd_at b i hj, wrap_id (by omega) (by omega), e]
  rw [List.drop_eq_getElem_cons hi, List.drop_eq_getElem_cons hj]
  by_cases c : a[i] = b[i]
  ·rw [if_pos c, ih k (i + 1) (by omega) (by omega), c]
   exact congrArg some (decide_eq_decide.mpr ⟨fun h => by rw [h], fun h => (List.cons.inj h).2⟩)
  ·rw [if_neg c]
   exact congrArg some (decide_eq_false fun h => c (List.cons.inj h).1).symm
theorem eqIntS_ev (a b : List Int) (hm : a.length < 9223372036854775807) : Ev (fun k => laws_eqIntS.f k a b) (decide (a = b)) := by
 by_cases hl : a.length = b.length
 ·refine ⟨a.length + 1, fun k hk => ?_⟩
  have h := eqIntS_l0 a b hl hm a.length k 0 (by omega) (by omega)
  show laws_eqIntS.f k a b = _
  unfold laws_eqIntS.f
  rw [if_pos (by omega)]
  simpa using h
 ·refine ⟨0, fun k hk => ?_⟩
  show laws_eqIntS.f k a b = _
  unfold laws_eqIntS.f
  rw [if_neg (by omega)]
  have : a ≠ b := fun h => hl (by rw [h])
  simp [this]
theorem eqIntS_self (a : List Int) (hm : a.length < 9223372036854775807) : Ev (fun k => laws_eqIntS.f k a a) true := by
 have := eqIntS_ev a a hm
 simpa using this
/-- k, k + 1, .. : so many numbers. -/
def iota : Nat → Int → List Int
 | 0, _ => []
 | n + 1, k => k :: iota n (k + 1)
theorem iota_length : ∀ (n : Nat) (k : Int), (iota n k).length = n
 | 0, _ => rfl
 | n + 1, k => by simp [iota, iota_length n]
theorem markIntS_l0 : ∀ (d k : Nat) (pre l : List Int) (i : Nat) (m : Int), i = pre.length → l.length = d → d < k → 0 ≤ m → m + d < 9223372036854775807 → pre.length + d < 9223372036854775807 → laws_markIntS.l0 k (pre ++ l) m (i : Int) = some (m + d, pre ++ iota d m) := by
 intro d
 induction d with
 | zero =>
  intro k pre l i m hi hd hk h0 h1 h2
  obtain ⟨k, rfl⟩ : ∃ m, k = m + 1 := ⟨k - 1, by omega⟩
  obtain rfl : l = [] := List.eq_nil_of_length_eq_zero hd
  subst hi
  simp only [laws_markIntS.l0]
  rw [if_neg (by simp)]
  simp [iota]
 | succ d ih =>
  intro k pre l i m hi hd hk h0 h1 h2
  obtain ⟨k, rfl⟩ : ∃ m, k = m + 1 := ⟨k - 1, by omega⟩
  cases l with
  | nil => simp at hd
  | cons x xs =>
   subst hi
   have e : (pre.length : Int) + 1 = ((pre ++ [m]).length : Int) := by simp
   simp only [laws_markIntS.l0]
   rw [if_pos (by simp; omega), if_pos (by omega), Int.toNat_natCast, wrap_id (x := m + 1) (by omega) (by omega), wrap_id (x := (pre.length : Int) + 1) (by omega) (by omega), e]
   have es : (pre ++ x :: xs).set pre.length m = (pre ++ [m]) ++ xs := by simp
   rw [es, ih k (pre ++ [m]) xs (pre ++ [m]).length (m + 1) rfl (by simpa using hd) (by omega) (by omega) (by omega) (by simp; omega)]
   simp [iota]
   omega
theorem markIntS_ev (l : List Int) (m : Int) (h0 : 0 ≤ m) (h1 : m + l.length < 9223372036854775807) : Ev (fun k => laws_markIntS.f k l m) (m + l.length, iota l.length m) :=
 ⟨l.length + 1, fun k hk => by
  have h := markIntS_l0 l.length k [] l 0 m rfl rfl (by omega) h0 h1 (by simp; omega)
  simpa [laws_markIntS.f] using h⟩
theorem heldIntS_l0 : ∀ (d k : Nat) (pre : List Int) (i : Nat) (m : Int), i = pre.length → d < k → 0 ≤ m → m + d < 9223372036854775807 → pre.length + d < 9223372036854775807 → laws_heldIntS.l0 k (pre ++ iota d m) m (i : Int) = some (m + d) := by
 intro d
 induction d with
 | zero =>
  intro k pre i m hi hk h0 h1 h2
  obtain ⟨k, rfl⟩ : ∃ m, k = m + 1 := ⟨k - 1, by omega⟩
  subst hi
  simp only [laws_heldIntS.l0]
  rw [if_neg (by simp [iota])]
  simp
 | succ d ih =>
  intro k pre i m hi hk h0 h1 h2
  obtain ⟨k, rfl⟩ : ∃ m, k = m + 1 := ⟨k - 1, by omega⟩
  subst hi
  have e : (pre.length : Int) + 1 = ((pre ++ [m]).length : Int) := by simp
  have er : rd (pre ++ iota (d + 1) m) (pre.length : Int) = m := by
   rw [rd_at _ _ (by simp [iota])]
   simp [iota]
  simp only [laws_heldIntS.l0]
  rw [if_pos (by simp [iota]; omega), if_pos (by omega), er, if_pos rfl, wrap_id (x := m + 1) (by omega) (by omega), wrap_id (x := (pre.length : Int) + 1) (by omega) (by omega), e]
  have es : pre ++ iota (d + 1) m = (pre ++ [m]) ++ iota d (m + 1) := by simp [iota]
  rw [es, ih k (pre ++ [m]) (pre ++ [m]).length (m + 1) rfl (by omega) (by omega) (by omega) (by simp; omega)]
  congr 1
  omega
theorem heldIntS_ev (n : Nat) (m : Int) (h0 : 0 ≤ m) (h1 : m + n < 9223372036854775807) : Ev (fun k => laws_heldIntS.f k (iota n m) m) (m + n) :=
 ⟨n + 1, fun k hk => by
  have h := heldIntS_l0 n k [] 0 m rfl (by omega) h0 h1 (by simp; omega)
  simpa [laws_heldIntS.f] using h⟩
theorem FnExactSureHeaps : laws_FnExactSureHeaps.Pure := by
 intro h l hw
 refine Ev.rounds (g := fun k => laws_FnExactSureHeaps.f k h l) ?_
 unfold laws_FnExactSureHeaps.f
 have hm := hw.2.1
 unfold maxLen at hm
 rcases szPuzzle_cases h l 1048576 (by omega) (by omega) (by omega) with ⟨_, hz⟩ | ⟨hl, hz⟩
 ·simp only [hz, Option.bind_some, show ((-1 : Int) < 0) from by omega, if_true]
  exact Ev.now _
 ·have n0 : ¬ (1048576 - (l.length : Int)) < 0 := by omega
  have hT := toPuzzle_ev h l (by omega)
  have hE := eqPuzzle_self h (l.map cvC) (by simp; omega)
  have hM := markPuzzle_ev h (l.map cvC) 1 (by omega) (by simp; omega)
  have n1 : ¬ (1 + 4 * ((l.map cvC).length : Int)) < 0 := by omega
  obtain ⟨⟨v1, v2⟩, hs, hi, hn⟩ := agree_SureHeaps h (l.map cvC)
  have hn : v1.length ≤ 1000000 := hn
  have hQ := eqIntS_self v1 (by omega)
  have hK := markIntS_ev v1 1 (by omega) (by omega)
  have hH := heldIntS_ev v1.length 1 (by omega) (by omega)
  have n2 : ¬ (1 + (v1.length : Int)) < 0 := by omega
  simp only [hz, Option.bind_some, if_neg n0]
  repeat (first
   | exact Ev.now _
   | refine Ev.bind hT ?_
   | refine Ev.bind hs ?_
   | refine Ev.bind hi ?_
   | refine Ev.bind hE ?_
   | refine Ev.bind hM ?_
   | refine Ev.bind hQ ?_
   | refine Ev.bind hK ?_
   | refine Ev.bind hH ?_
   | simp only [if_true, bne_self_eq_false, Bool.false_eq_true, if_false, if_neg n1, if_neg n2]
   | (refine Ev_add 1 ?_; simp only [laws_FnExactSureHeaps.j0])
   | (refine Ev_add 1 ?_; simp only [laws_FnExactSureHeaps.j1])
   | (refine Ev_add 1 ?_; simp only [laws_FnExactSureHeaps.j2]))

end Go.Proofs.Ytnijlmfamdhjmaa.Pure
