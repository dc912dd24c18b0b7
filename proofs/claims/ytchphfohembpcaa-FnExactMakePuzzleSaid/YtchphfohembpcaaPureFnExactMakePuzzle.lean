/-
  The program's MakePuzzle returns what the reference's returns, for all arguments: the plain half, about the printed functions alone.
  Conditions: those of the statement's own row; none is added.
-/
import Derived.Test.YtchphfohembpcaaPMx8
namespace Go.Proofs.Ytchphfohembpcaa.Pure
set_option linter.unusedVariables false
set_option linter.unusedSimpArgs false
open Go.RowKit Go.Proofs.Ytchphfohembpcaa.PM Go.Proofs.YtchphfohembpcaaW.PrintWords Go.Proofs.YtchphfohembpcaaW.PrintLast Go.Proofs.YtchphfohembpcaaW.PrintMore Go.Proofs.YtchphfohembpcaaB

theorem Ev_add {α : Type} {g : Nat → Option α} {r : α} (m : Nat) (h : Ev (fun k => g (k + m)) r) : Ev g r := by
 obtain ⟨K, hK⟩ := h
 refine ⟨K + m, fun k hk => ?_⟩
 have h1 := hK (k - m) (by omega)
 simp only at h1
 rwa [Nat.sub_add_cancel (by omega)] at h1
theorem Ev_shift {α : Type} {g : Nat → Option α} {r : α} (m : Nat) (h : Ev g r) : Ev (fun k => g (k + m)) r := by
 obtain ⟨K, hK⟩ := h
 exact ⟨K, fun k hk => hK (k + m) (by omega)⟩
theorem wrap_id {x : Int} (h0 : -9223372036854775808 ≤ x) (h1 : x ≤ 9223372036854775807) : wrap64 x = x := by
 unfold wrap64
 omega
theorem rd_at (l : List Int) (i : Nat) (h : i < l.length) : rd l (i : Int) = l[i] := rd_get l i h
theorem rd_append_left (l m : List Int) (i : Int) (h0 : 0 ≤ i) (h : i < l.length) : rd (l ++ m) i = rd l i := by
 unfold rd
 rw [List.getD_eq_getElem?_getD, List.getD_eq_getElem?_getD, List.getElem?_append_left (by omega)]
/-- The sum of a list's numbers, as the machine adds. -/
def sumW (l : List Int) (z : Int) : Int := l.foldl (fun z x => wrap64 (z + x)) z
def overW (s : Int) (l : List Int) : List Int := l.map fun x => wrap64 (x - s)
def posW (l : List Int) (z : Int) : Int := l.foldl (fun z x => wrap64 (z + mx 0 x)) z
def cntW (a : Int) (l : List Int) (z : Int) : Int := l.foldl (fun z x => if x = a then wrap64 (z + 1) else z) z
theorem l1Most_eq (a b : Int) : spec_l1Most.f a b = some (mx a b) := by
 unfold spec_l1Most.f mx
 by_cases c : a > b
 ·rw [if_pos c, if_neg (by omega)]
 ·rw [if_neg c]
  by_cases c2 : a < b
  ·rw [if_pos c2]
  ·rw [if_neg c2]
   congr 1
   omega
theorem spec_hpOverW_l0 (s : Int) (t : List Int) (ht : t.length < 9223372036854775807) : ∀ (d i : Nat) (z : List Int), i + d = t.length → z.length ≤ i ∧ t.length ≤ 1000 → Ev (fun k => spec_hpOver.l0 k s z t (t.length : Int) (i : Int)) (z ++ overW s (t.drop i)) := by
 intro d
 induction d with
 | zero =>
  intro i z hi hz
  have c1 : ¬ (i : Int) < (t.length : Int) := by omega
  refine Ev_add 1 ?_
  simp only [spec_hpOver.l0, if_neg c1]
  rw [List.drop_of_length_le (by omega)]
  simp only [overW, List.map_nil, List.append_nil]
  exact Ev.now _
 | succ d ih =>
  intro i z hi hz
  have hlt : i < t.length := by omega
  have c1 : (i : Int) < (t.length : Int) := by omega
  have c2 : 0 ≤ (i : Int) := by omega
  have w1 : wrap64 ((i : Int) + 1) = ((i + 1 : Nat) : Int) := by rw [wrap_id (by omega) (by omega)]; omega
  refine Ev_add 1 ?_
  simp only [spec_hpOver.l0, if_pos c1, if_pos c2, rd_at t i hlt, w1]
  rw [List.drop_eq_getElem_cons hlt]
  have c3 : z.length < 17592186044416 := by omega
  simp only [if_pos c3, overW, List.map_cons]
  have := ih (i + 1) (z ++ [wrap64 (t[i] - s)]) (by omega) (by simp; omega)
  simpa [overW] using this
theorem impl_surplusW_l0 (s : Int) (t : List Int) (ht : t.length < 9223372036854775807) : ∀ (d i : Nat) (z : List Int), i + d = t.length → z.length ≤ i ∧ t.length ≤ 1000 → Ev (fun k => impl_surplus.l0 k s z t (t.length : Int) (i : Int)) ((z ++ overW s (t.drop i), true)) := by
 intro d
 induction d with
 | zero =>
  intro i z hi hz
  have c1 : ¬ (i : Int) < (t.length : Int) := by omega
  refine Ev_add 1 ?_
  simp only [impl_surplus.l0, if_neg c1]
  rw [List.drop_of_length_le (by omega)]
  simp only [overW, List.map_nil, List.append_nil]
  exact Ev.now _
 | succ d ih =>
  intro i z hi hz
  have hlt : i < t.length := by omega
  have c1 : (i : Int) < (t.length : Int) := by omega
  have c2 : 0 ≤ (i : Int) := by omega
  have w1 : wrap64 ((i : Int) + 1) = ((i + 1 : Nat) : Int) := by rw [wrap_id (by omega) (by omega)]; omega
  refine Ev_add 1 ?_
  simp only [impl_surplus.l0, if_pos c1, if_pos c2, rd_at t i hlt, w1]
  rw [List.drop_eq_getElem_cons hlt]
  have c3 : z.length < 17592186044416 := by omega
  simp only [if_pos c3, overW, List.map_cons]
  have := ih (i + 1) (z ++ [wrap64 (t[i] - s)]) (by omega) (by simp; omega)
  simpa [overW] using this
theorem spec_pzValue_l0 (a : Int) (t : List Int) (ht : t.length < 9223372036854775807) : ∀ (d i : Nat) (z : Int), i + d = t.length → Ev (fun k => spec_pzValue.l0 k a z t (t.length : Int) (i : Int)) (cntW a (t.drop i) z) := by
 intro d
 induction d with
 | zero =>
  intro i z hi
  have c1 : ¬ (i : Int) < (t.length : Int) := by omega
  refine Ev_add 1 ?_
  simp only [spec_pzValue.l0, if_neg c1]
  rw [List.drop_of_length_le (by omega)]
  exact Ev.now _
 | succ d ih =>
  intro i z hi
  have hlt : i < t.length := by omega
  have c1 : (i : Int) < (t.length : Int) := by omega
  have c2 : 0 ≤ (i : Int) := by omega
  have w1 : wrap64 ((i : Int) + 1) = ((i + 1 : Nat) : Int) := by rw [wrap_id (by omega) (by omega)]; omega
  refine Ev_add 1 ?_
  simp only [spec_pzValue.l0, if_pos c1, if_pos c2, rd_at t i hlt, w1]
  rw [List.drop_eq_getElem_cons hlt]
  simp only [cntW, List.foldl_cons]
  by_cases c : t[i] = a
  ·simp only [if_pos c]
   exact ih (i + 1) _ (by omega)
  ·simp only [if_neg c]
   exact ih (i + 1) _ (by omega)
theorem impl_told_l0 (K a B C : Int) (t : List Int) (ht : t.length < 9223372036854775807) : ∀ (d i : Nat) (z : Int), i + d = t.length → Ev (fun k => impl_told.l0 k z t (t.length : Int) (i : Int) K a B C) (cntW a (t.drop i) z) := by
 intro d
 induction d with
 | zero =>
  intro i z hi
  have c1 : ¬ (i : Int) < (t.length : Int) := by omega
  refine Ev_add 1 ?_
  simp only [impl_told.l0, if_neg c1]
  rw [List.drop_of_length_le (by omega)]
  exact Ev.now _
 | succ d ih =>
  intro i z hi
  have hlt : i < t.length := by omega
  have c1 : (i : Int) < (t.length : Int) := by omega
  have c2 : 0 ≤ (i : Int) := by omega
  have w1 : wrap64 ((i : Int) + 1) = ((i + 1 : Nat) : Int) := by rw [wrap_id (by omega) (by omega)]; omega
  refine Ev_add 1 ?_
  simp only [impl_told.l0, if_pos c1, if_pos c2, rd_at t i hlt, w1]
  rw [List.drop_eq_getElem_cons hlt]
  simp only [cntW, List.foldl_cons]
  by_cases c : t[i] = a
  ·simp only [if_pos c]
   exact ih (i + 1) _ (by omega)
  ·simp only [if_neg c]
   exact ih (i + 1) _ (by omega)
theorem spec_pzValue_l1 (t : List Int) (ht : t.length < 9223372036854775807) : ∀ (d i : Nat) (z : Int), i + d = t.length → Ev (fun k => spec_pzValue.l1 k z t (t.length : Int) (i : Int)) (posW (t.drop i) z) := by
 intro d
 induction d with
 | zero =>
  intro i z hi
  have c1 : ¬ (i : Int) < (t.length : Int) := by omega
  refine Ev_add 1 ?_
  simp only [spec_pzValue.l1, if_neg c1]
  rw [List.drop_of_length_le (by omega)]
  exact Ev.now _
 | succ d ih =>
  intro i z hi
  have hlt : i < t.length := by omega
  have c1 : (i : Int) < (t.length : Int) := by omega
  have c2 : 0 ≤ (i : Int) := by omega
  have w1 : wrap64 ((i : Int) + 1) = ((i + 1 : Nat) : Int) := by rw [wrap_id (by omega) (by omega)]; omega
  refine Ev_add 1 ?_
  simp only [spec_pzValue.l1, if_pos c1, if_pos c2, rd_at t i hlt, w1]
  rw [List.drop_eq_getElem_cons hlt]
  simp only [posW, List.foldl_cons, l1Most_eq, Option.bind_some]
  exact ih (i + 1) _ (by omega)
theorem impl_StonesToMove_l0 (t : List Int) (ht : t.length < 9223372036854775807) : ∀ (d i : Nat) (z : Int), i + d = t.length → Ev (fun k => impl_StonesToMove.l0 k z t (t.length : Int) (i : Int)) ((posW (t.drop i) z, true)) := by
 intro d
 induction d with
 | zero =>
  intro i z hi
  have c1 : ¬ (i : Int) < (t.length : Int) := by omega
  refine Ev_add 1 ?_
  simp only [impl_StonesToMove.l0, if_neg c1]
  rw [List.drop_of_length_le (by omega)]
  exact Ev.now _
 | succ d ih =>
  intro i z hi
  have hlt : i < t.length := by omega
  have c1 : (i : Int) < (t.length : Int) := by omega
  have c2 : 0 ≤ (i : Int) := by omega
  have w1 : wrap64 ((i : Int) + 1) = ((i + 1 : Nat) : Int) := by rw [wrap_id (by omega) (by omega)]; omega
  refine Ev_add 1 ?_
  simp only [impl_StonesToMove.l0, if_pos c1, if_pos c2, rd_at t i hlt, w1]
  rw [List.drop_eq_getElem_cons hlt]
  simp only [posW, List.foldl_cons]
  exact ih (i + 1) _ (by omega)
theorem spec_pzValue_l2 (t : List Int) (ht : t.length < 9223372036854775807) : ∀ (d i : Nat) (z : Int), i + d = t.length → Ev (fun k => spec_pzValue.l2 k z t (t.length : Int) (i : Int)) ((t.drop i).foldl mx z) := by
 intro d
 induction d with
 | zero =>
  intro i z hi
  have c1 : ¬ (i : Int) < (t.length : Int) := by omega
  refine Ev_add 1 ?_
  simp only [spec_pzValue.l2, if_neg c1]
  rw [List.drop_of_length_le (by omega)]
  exact Ev.now _
 | succ d ih =>
  intro i z hi
  have hlt : i < t.length := by omega
  have c1 : (i : Int) < (t.length : Int) := by omega
  have c2 : 0 ≤ (i : Int) := by omega
  have w1 : wrap64 ((i : Int) + 1) = ((i + 1 : Nat) : Int) := by rw [wrap_id (by omega) (by omega)]; omega
  refine Ev_add 1 ?_
  simp only [spec_pzValue.l2, if_pos c1, if_pos c2, rd_at t i hlt, w1]
  rw [List.drop_eq_getElem_cons hlt]
  simp only [List.foldl_cons, l1Most_eq, Option.bind_some]
  exact ih (i + 1) _ (by omega)
def inR (a lo hi : Int) : Bool := decide (lo ≤ a) && decide (a ≤ hi)
theorem inR_iff {a lo hi : Int} : inR a lo hi = true ↔ lo ≤ a ∧ a ≤ hi := by simp [inR]
/-- What is asked of a clue, by its kind; x5: two heaps are told, x6: none is, x42: the kind is 0 or 3. -/
def clueBody (h : Int) (x5 x6 : Bool) (K : Int) (x42 : Bool) (A B C : Int) : Bool :=
 if x42 = true then x6 && inR C 0 20 else if K = 1 then x5 && inR C 0 1 else if K = 2 then inR A 0 5 && ((B == 0) && inR C 0 h) else if K = 4 then x5 && inR C 0 10 else if K = 5 then x6 && inR C 0 5 else false
def twoB (h A B : Int) : Bool := inR A 0 (h - 1) && (inR B 0 (h - 1) && (A != B))
def clueB (h K A B C : Int) : Bool := clueBody h (twoB h A B) ((A == 0) && (B == 0)) K ((K == 0) || (K == 3)) A B C
/-- What a clue of a kind tells of heaps. -/
def toldV (K A B : Int) (l : List Int) : Int :=
 if K = 0 then sumW l 0 else if K = 1 then (if rd l A > rd l B then 1 else 0) else if K = 2 then cntW A l 0 else if K = 3 then (if (Int.tmod (sumW l 0) (l.length : Int) == 0) = true then posW (overW (wrap64 (Int.tdiv (sumW l 0) (l.length : Int))) l) 0 else 20) else if K = 4 then wrap64 (rd l A + rd l B) else l.foldl mx 0
/-- Hidden heaps. -/
def hidB (l : List Int) : Bool := inR (l.length : Int) 2 4 && l.all fun x => inR x 0 5
def okAB (K A B : Int) (l : List Int) : Prop := (K = 1 ∨ K = 4) → 0 ≤ A ∧ A < (l.length : Int) ∧ 0 ≤ B ∧ B < (l.length : Int)
theorem hidB_iff {l : List Int} : hidB l = true ↔ (2 ≤ l.length ∧ l.length ≤ 4) ∧ ∀ x ∈ l, 0 ≤ x ∧ x ≤ 5 := by
 unfold hidB
 rw [Bool.and_eq_true, inR_iff, List.all_eq_true]
 constructor
 ·rintro ⟨h1, h2⟩
  exact ⟨by omega, fun x hx => inR_iff.mp (h2 x hx)⟩
 ·rintro ⟨h1, h2⟩
  exact ⟨by omega, fun x hx => inR_iff.mpr (h2 x hx)⟩
theorem hidB_all {l : List Int} (h : hidB l = true) : (l.all fun x => inR x 0 1000) = true := by
 rw [hidB_iff] at h
 rw [List.all_eq_true]
 intro x hx
 have := h.2 x hx
 exact inR_iff.mpr ⟨by omega, by omega⟩
theorem clueB_ok {h K A B C : Int} {l : List Int} (e : (l.length : Int) = h) (hb : clueB h K A B C = true) : okAB K A B l := by
 intro hK
 unfold clueB clueBody at hb
 have t : twoB h A B = true := by
  rcases hK with rfl | rfl
  ·simp at hb; exact hb.1
  ·simp at hb; exact hb.1
 unfold twoB at t
 rw [Bool.and_eq_true, Bool.and_eq_true, inR_iff, inR_iff] at t
 omega
theorem spec_l1In_eq (a lo hi : Int) : spec_l1In.f a lo hi = some (inR a lo hi) := by
 unfold spec_l1In.f inR
 by_cases h : lo ≤ a <;> simp [h]
theorem spec_l1All_l0 (lo hi : Int) (l : List Int) (hl : l.length < 9223372036854775807) : ∀ (d k i : Nat), i + d = l.length → d < k → spec_l1All.l0 k lo hi l (l.length : Int) (i : Int) = some ((l.drop i).all fun x => inR x lo hi) := by
 intro d
 induction d with
 | zero =>
  intro k i h hk
  obtain ⟨k, rfl⟩ : ∃ m, k = m + 1 := ⟨k - 1, by omega⟩
  simp only [spec_l1All.l0]
  rw [if_neg (by omega), List.drop_of_length_le (by omega)]
  rfl
 | succ d ih =>
  intro k i h hk
  obtain ⟨k, rfl⟩ : ∃ m, k = m + 1 := ⟨k - 1, by omega⟩
  have hil : i < l.length := by omega
  have e : (i : Int) + 1 = ((i + 1 : Nat) : Int) := by omega
  simp only [spec_l1All.l0]
  rw [if_pos (by omega), if_pos (by omega), if_pos (by omega), spec_l1In_eq, rd_at l i hil, List.drop_eq_getElem_cons hil, List.all_cons, wrap_id (by omega) (by omega), e]
  simp only [Option.bind_some]
  cases hb : inR l[i] lo hi with
  | true => simpa using ih k (i + 1) (by omega) (by omega)
  | false => simp
theorem spec_l1All_ev (l : List Int) (lo hi : Int) (hl : l.length < 9223372036854775807) : Ev (fun k => spec_l1All.f k l lo hi) (l.all fun x => inR x lo hi) :=
 ⟨l.length + 1, fun k hk => by
  have := spec_l1All_l0 lo hi l hl l.length k 0 (by omega) (by omega)
  simpa [spec_l1All.f] using this⟩
theorem spec_hpSumW_l0 (t : List Int) (ht : t.length < 9223372036854775807) : ∀ (d i : Nat) (z : Int), i + d = t.length → Ev (fun k => spec_hpSum.l0 k z t (t.length : Int) (i : Int)) (sumW (t.drop i) z) := by
 intro d
 induction d with
 | zero =>
  intro i z hi
  have c1 : ¬ (i : Int) < (t.length : Int) := by omega
  refine Ev_add 1 ?_
  simp only [spec_hpSum.l0, sumW, List.foldl_cons, List.foldl_nil, if_neg c1]
  rw [List.drop_of_length_le (by omega)]
  exact Ev.now _
 | succ d ih =>
  intro i z hi
  have hlt : i < t.length := by omega
  have c1 : (i : Int) < (t.length : Int) := by omega
  have c2 : 0 ≤ (i : Int) := by omega
  have w1 : wrap64 ((i : Int) + 1) = ((i + 1 : Nat) : Int) := by rw [wrap_id (by omega) (by omega)]; omega
  refine Ev_add 1 ?_
  simp only [spec_hpSum.l0, sumW, List.foldl_cons, List.foldl_nil, if_pos c1, if_pos c2, rd_at t i hlt, w1]
  rw [List.drop_eq_getElem_cons hlt]
  exact ih (i + 1) _ (by omega)
theorem spec_hpSumW_ev (l : List Int) (hl : l.length < 9223372036854775807) : Ev (fun k => spec_hpSum.f k l) (sumW l 0) := by
 have h := spec_hpSumW_l0 l hl l.length 0 0 (by omega)
 simpa [spec_hpSum.f] using h
theorem spec_pzValue_ev (K A B : Int) (l : List Int) (hl : hidB l = true) (hk : okAB K A B l) : Ev (fun k => spec_pzValue.f k K A B l) (toldV K A B l) := by
 have hh := hidB_iff.mp hl
 have n0 : ¬ (l.length : Int) = 0 := by omega
 unfold spec_pzValue.f toldV
 by_cases c0 : K = 0
 ·simp only [if_pos c0]
  refine Ev.bind (spec_hpSumW_ev l (by omega)) ?_
  exact Ev.now _
 simp only [if_neg c0]
 by_cases c1 : K = 1
 ·obtain ⟨a0, a1, b0, b1⟩ := hk (.inl c1)
  simp only [if_pos c1, if_pos a0, if_pos a1, if_pos b0, if_pos b1]
  by_cases c : rd l A > rd l B
  ·simp only [if_pos c]
   exact Ev.now _
  ·simp only [if_neg c]
   exact Ev.now _
 simp only [if_neg c1]
 by_cases c2 : K = 2
 ·simp only [if_pos c2]
  have h := spec_pzValue_l0 A l (by omega) l.length 0 0 (by omega)
  simpa using h
 simp only [if_neg c2]
 by_cases c3 : K = 3
 ·simp only [if_pos c3]
  have g : Ev (fun k => spec_hpEqual.f k l) (Int.tmod (sumW l 0) (l.length : Int) == 0) := by
   unfold spec_hpEqual.f
   have g1 : Ev (fun k => spec_hpGood.f k l) true := by
    unfold spec_hpGood.f
    simp only [spec_l1In_eq, Option.bind_some, inR_iff.mpr (show 1 ≤ (l.length : Int) ∧ (l.length : Int) ≤ 12 by omega), if_true]
    have e := spec_l1All_ev l 0 1000 (by omega)
    rw [hidB_all hl] at e
    refine Ev.bind e ?_
    exact Ev.now _
   refine Ev.bind g1 ?_
   simp only [if_true]
   refine Ev.bind (spec_hpSumW_ev l (by omega)) ?_
   simp only [if_neg n0]
   exact Ev.now _
  refine Ev.bind g ?_
  cases hc : (Int.tmod (sumW l 0) (l.length : Int) == 0) with
  | false =>
   simp only [Bool.false_eq_true, if_false]
   exact Ev.now _
  | true =>
   simp only [if_true]
   have o : Ev (fun k => spec_hpOver.f k l) (overW (wrap64 (Int.tdiv (sumW l 0) (l.length : Int))) l) := by
    unfold spec_hpOver.f
    refine Ev.bind (spec_hpSumW_ev l (by omega)) ?_
    simp only [if_neg n0]
    have h := spec_hpOverW_l0 (wrap64 (Int.tdiv (sumW l 0) (l.length : Int))) l (by omega) l.length 0 [] (by omega) ⟨by simp, by omega⟩
    simpa using h
   refine Ev.bind o ?_
   have h := spec_pzValue_l1 (overW (wrap64 (Int.tdiv (sumW l 0) (l.length : Int))) l) (by simp [overW]; omega) (overW (wrap64 (Int.tdiv (sumW l 0) (l.length : Int))) l).length 0 0 (by omega)
   simpa using h
 simp only [if_neg c3]
 by_cases c4 : K = 4
 ·obtain ⟨a0, a1, b0, b1⟩ := hk (.inr c4)
  simp only [if_pos c4, if_pos a0, if_pos a1, if_pos b0, if_pos b1]
  exact Ev.now _
 simp only [if_neg c4]
 have h := spec_pzValue_l2 l (by omega) l.length 0 0 (by omega)
 simpa using h
theorem impl_within_eq (a lo hi : Int) : impl_within.f a lo hi = some (inR a lo hi) := by
 unfold impl_within.f inR
 by_cases h : lo ≤ a <;> simp [h]
theorem impl_areIn_eq (l : List Int) (lo hi : Int) : impl_areIn.f l lo hi = some (l.all fun x => inR x lo hi) := by
 unfold impl_areIn.f
 simp only [impl_within_eq, Option.bind_some]
 rw [anyO_some]
 simp only [Option.bind_some]
 congr 1
 induction l with
 | nil => rfl
 | cons x xs ih => simp only [List.any_cons, List.all_cons, Bool.not_or, Bool.not_not, ih]
theorem impl_sumW_l0 (t : List Int) (ht : t.length < 9223372036854775807) : ∀ (d i : Nat) (z : Int), i + d = t.length → Ev (fun k => impl_sum.l0 k z t (t.length : Int) (i : Int)) (sumW (t.drop i) z) := by
 intro d
 induction d with
 | zero =>
  intro i z hi
  have c1 : ¬ (i : Int) < (t.length : Int) := by omega
  refine Ev_add 1 ?_
  simp only [impl_sum.l0, sumW, List.foldl_cons, List.foldl_nil, if_neg c1]
  rw [List.drop_of_length_le (by omega)]
  exact Ev.now _
 | succ d ih =>
  intro i z hi
  have hlt : i < t.length := by omega
  have c1 : (i : Int) < (t.length : Int) := by omega
  have c2 : 0 ≤ (i : Int) := by omega
  have w1 : wrap64 ((i : Int) + 1) = ((i + 1 : Nat) : Int) := by rw [wrap_id (by omega) (by omega)]; omega
  refine Ev_add 1 ?_
  simp only [impl_sum.l0, sumW, List.foldl_cons, List.foldl_nil, if_pos c1, if_pos c2, rd_at t i hlt, w1]
  rw [List.drop_eq_getElem_cons hlt]
  exact ih (i + 1) _ (by omega)
theorem impl_sumW_ev (l : List Int) (hl : l.length < 9223372036854775807) : Ev (fun k => impl_sum.f k l) (sumW l 0) := by
 have h := impl_sumW_l0 l hl l.length 0 0 (by omega)
 simpa [impl_sum.f] using h
theorem impl_told_ev (K A B C : Int) (l : List Int) (hl : hidB l = true) (hk : okAB K A B l) : Ev (fun k => impl_told.f k K A B C l) (toldV K A B l) := by
 have hh := hidB_iff.mp hl
 have n0 : ¬ (l.length : Int) = 0 := by omega
 unfold impl_told.f toldV
 by_cases c0 : K = 0
 ·simp only [if_pos c0]
  refine Ev.bind (impl_sumW_ev l (by omega)) ?_
  exact Ev.now _
 simp only [if_neg c0]
 by_cases c1 : K = 1
 ·obtain ⟨a0, a1, b0, b1⟩ := hk (.inl c1)
  simp only [if_pos c1, if_pos a0, if_pos a1, if_pos b0, if_pos b1]
  by_cases c : rd l A > rd l B
  ·simp only [if_pos c]
   exact Ev.now _
  ·simp only [if_neg c]
   exact Ev.now _
 simp only [if_neg c1]
 by_cases c2 : K = 2
 ·simp only [if_pos c2]
  have h := impl_told_l0 K A B C l (by omega) l.length 0 0 (by omega)
  simpa using h
 simp only [if_neg c2]
 by_cases c3 : K = 3
 ·simp only [if_pos c3]
  have g : Ev (fun k => impl_CanBeEqual.f k l) ((Int.tmod (sumW l 0) (l.length : Int) == 0), true) := by
   unfold impl_CanBeEqual.f impl_AreHeaps.f
   simp only [impl_within_eq, Option.bind_some, inR_iff.mpr (show 1 ≤ (l.length : Int) ∧ (l.length : Int) ≤ 12 by omega), if_true, impl_areIn_eq]
   rw [hidB_all hl]
   simp only [if_true]
   refine Ev.bind (impl_sumW_ev l (by omega)) ?_
   simp only [if_neg n0]
   exact Ev.now _
  have s : Ev (fun k => impl_StonesToMove.f k l) (if (Int.tmod (sumW l 0) (l.length : Int) == 0) = true then (posW (overW (wrap64 (Int.tdiv (sumW l 0) (l.length : Int))) l) 0, true) else (0, false)) := by
   unfold impl_StonesToMove.f impl_surplus.f
   cases hc : (Int.tmod (sumW l 0) (l.length : Int) == 0) with
   | false =>
    rw [hc] at g
    have q : Ev (fun k => (impl_CanBeEqual.f k l).bind fun bt => if bt.2 = true then impl_surplus.j0 k l (!bt.1) else impl_surplus.j0 k l true) ([], false) := by
     refine Ev.bind g ?_
     simp only [if_true, Bool.not_false]
     refine Ev_add 1 ?_
     simp only [impl_surplus.j0, if_true]
     exact Ev.now _
    refine Ev.bind q ?_
    simp only [Bool.false_eq_true, if_false]
    exact Ev.now _
   | true =>
    rw [hc] at g
    have q : Ev (fun k => (impl_CanBeEqual.f k l).bind fun bt => if bt.2 = true then impl_surplus.j0 k l (!bt.1) else impl_surplus.j0 k l true) (overW (wrap64 (Int.tdiv (sumW l 0) (l.length : Int))) l, true) := by
     refine Ev.bind g ?_
     simp only [if_true, Bool.not_true]
     refine Ev_add 1 ?_
     simp only [impl_surplus.j0, Bool.false_eq_true, if_false]
     refine Ev.bind (impl_sumW_ev l (by omega)) ?_
     simp only [if_neg n0]
     have h := impl_surplusW_l0 (wrap64 (Int.tdiv (sumW l 0) (l.length : Int))) l (by omega) l.length 0 [] (by omega) ⟨by simp, by omega⟩
     simpa using h
    refine Ev.bind q ?_
    simp only [if_true]
    have h := impl_StonesToMove_l0 (overW (wrap64 (Int.tdiv (sumW l 0) (l.length : Int))) l) (by simp [overW]; omega) (overW (wrap64 (Int.tdiv (sumW l 0) (l.length : Int))) l).length 0 0 (by omega)
    simpa using h
  refine Ev.bind s ?_
  cases hc : (Int.tmod (sumW l 0) (l.length : Int) == 0) with
  | false =>
   simp only [Bool.false_eq_true, if_false]
   exact Ev.now _
  | true =>
   simp only [if_true]
   exact Ev.now _
 simp only [if_neg c3]
 by_cases c4 : K = 4
 ·obtain ⟨a0, a1, b0, b1⟩ := hk (.inr c4)
  simp only [if_pos c4, if_pos a0, if_pos a1, if_pos b0, if_pos b1]
  exact Ev.now _
 simp only [if_neg c4]
 cases l with
 | nil => simp at n0
 | cons x t =>
  have hx := hh.2 x List.mem_cons_self
  have e : mx 0 x = x := by
   unfold mx
   by_cases c : 0 < x
   ·rw [if_pos c]
   ·rw [if_neg c]
    omega
  simp only [slices_Max_int_int.f, Option.bind_some, List.foldl_cons, e]
  exact Ev.now _
theorem nxtZ_range (z : Int) (h0 : 0 ≤ z) (h1 : z ≤ 10006) : 0 ≤ nxtZ z ∧ nxtZ z ≤ 10006 := by
 unfold nxtZ
 rw [wrap_id (x := z * 229) (by omega) (by omega), wrap_id (x := z * 229 + 1951) (by omega) (by omega), Int.tmod_eq_emod_of_nonneg (by omega)]
 omega
theorem tmod_range (y n : Int) (h0 : 0 ≤ y) (hn : 0 < n) : 0 ≤ Int.tmod y n ∧ Int.tmod y n < n := by
 rw [Int.tmod_eq_emod_of_nonneg h0]
 exact ⟨Int.emod_nonneg _ (by omega), Int.emod_lt_of_pos _ hn⟩
theorem clAB_ok (K y : Int) (l : List Int) (hl : hidB l = true) (h0 : 0 ≤ y) : okAB K (clA (l.length : Int) K y) (clB (l.length : Int) K y) l := by
 have hh := hidB_iff.mp hl
 intro hK
 unfold clA clB
 rw [if_pos hK, if_pos hK]
 have h1 := tmod_range y (l.length : Int) h0 (by omega)
 rw [wrap_id (x := Int.tmod y (l.length : Int) + 1) (by omega) (by omega)]
 have h2 := tmod_range (Int.tmod y (l.length : Int) + 1) (l.length : Int) (by omega) (by omega)
 omega
/-- The clues of a made puzzle. -/
def mkV (l : List Int) : Nat → Int → List S25 → List S25
 | 0, _, acc => acc
 | d + 1, z, acc => mkV l d (nxtZ (nxtZ z)) (acc ++ [⟨Int.tmod (nxtZ z) 6, clA (l.length : Int) (Int.tmod (nxtZ z) 6) (nxtZ (nxtZ z)), clB (l.length : Int) (Int.tmod (nxtZ z) 6) (nxtZ (nxtZ z)), toldV (Int.tmod (nxtZ z) 6) (clA (l.length : Int) (Int.tmod (nxtZ z) 6) (nxtZ (nxtZ z))) (clB (l.length : Int) (Int.tmod (nxtZ z) 6) (nxtZ (nxtZ z))) l⟩])
theorem mkV_len (l : List Int) : ∀ (d : Nat) (z : Int) (acc : List S25), (mkV l d z acc).length = acc.length + d
 | 0, _, _ => rfl
 | d + 1, z, acc => by
  rw [mkV, mkV_len l d]
  simp only [List.length_append, List.length_cons, List.length_nil]
  omega
theorem makeL_ev (l : List Int) (hl : hidB l = true) : ∀ (d : Nat) (z : Int) (acc : List S25), 0 ≤ z → z ≤ 10006 → Ev (fun k => makeL k l d z acc) (mkV l d z acc)
 | 0, _, acc, _, _ => Ev.now _
 | d + 1, z, acc, h0, h1 => by
  have r1 := nxtZ_range z h0 h1
  have r2 := nxtZ_range (nxtZ z) r1.1 r1.2
  simp only [makeL, mkV]
  refine Ev.bind (impl_told_ev _ _ _ 0 l hl (clAB_ok _ _ l hl r2.1)) ?_
  exact makeL_ev l hl d _ _ r2.1 r2.2
theorem spec_pzNext_eq (z : Int) : spec_pzNext.f z = some (nxtZ z) := by
 unfold spec_pzNext.f nxtZ
 rw [Int.mul_comm]
theorem spec_pzOf_ev (K y : Int) (l : List Int) (hl : hidB l = true) (h0 : 0 ≤ y) : Ev (fun k => spec_pzOf.f k K y l) (K, clA (l.length : Int) K y, clB (l.length : Int) K y, toldV K (clA (l.length : Int) K y) (clB (l.length : Int) K y) l) := by
 have hh := hidB_iff.mp hl
 have n0 : ¬ (l.length : Int) = 0 := by omega
 have ok := clAB_ok K y l hl h0
 have e := spec_pzValue_ev K (clA (l.length : Int) K y) (clB (l.length : Int) K y) l hl ok
 have j : ∀ b : Bool, b = decide (K = 1 ∨ K = 4) → Ev (fun k => spec_pzOf.j0 k K y l K b K 0 0 0) (K, clA (l.length : Int) K y, clB (l.length : Int) K y, toldV K (clA (l.length : Int) K y) (clB (l.length : Int) K y) l) := by
  intro b hb
  refine Ev_add 1 ?_
  simp only [spec_pzOf.j0]
  by_cases c : K = 1 ∨ K = 4
  ·rw [decide_eq_true c] at hb
   subst hb
   unfold clA clB at e ⊢
   simp only [if_pos c, if_true, if_neg n0] at e ⊢
   refine Ev.bind e ?_
   exact Ev.now _
  ·rw [decide_eq_false c] at hb
   subst hb
   unfold clA clB at e ⊢
   simp only [if_neg c, Bool.false_eq_true, if_false] at e ⊢
   by_cases c2 : K = 2
   ·simp only [if_pos c2] at e ⊢
    refine Ev.bind e ?_
    exact Ev.now _
   ·simp only [if_neg c2] at e ⊢
    refine Ev.bind e ?_
    exact Ev.now _
 unfold spec_pzOf.f
 by_cases c1 : K = 1
 ·simp only [if_pos c1]
  refine j _ ?_
  simp [c1]
 ·simp only [if_neg c1]
  refine j _ ?_
  by_cases c4 : K = 4
  ·simp [c4]
  ·simp [c1, c4]
theorem spec_make_l0 (l : List Int) (hl : hidB l = true) (h : Int) : ∀ (d : Nat) (z : Int) (acc : List S25), 0 ≤ z → z ≤ 10006 → acc.length + d ≤ 1000 → Ev (fun k => spec_MakePuzzle.l0 k l (d : Int) z h acc) (h, mkV l d z acc, true)
 | 0, z, acc, _, _, _ => by
  refine Ev_add 1 ?_
  simp only [spec_MakePuzzle.l0, if_neg (show ¬ ((0 : Nat) : Int) > 0 by omega), mkV]
  exact Ev.now _
 | d + 1, z, acc, h0, h1, hn => by
  have r1 := nxtZ_range z h0 h1
  have r2 := nxtZ_range (nxtZ z) r1.1 r1.2
  have w1 : wrap64 (((d + 1 : Nat) : Int) - 1) = (d : Int) := by rw [wrap_id (by omega) (by omega)]; omega
  refine Ev_add 1 ?_
  simp only [spec_MakePuzzle.l0, if_pos (show ((d + 1 : Nat) : Int) > 0 by omega), spec_pzNext_eq, Option.bind_some, w1]
  refine Ev.bind (spec_pzOf_ev (Int.tmod (nxtZ z) 6) (nxtZ (nxtZ z)) l hl r2.1) ?_
  simp only [if_pos (show acc.length < 4398046511104 by omega), mkV]
  exact spec_make_l0 l hl h d _ _ r2.1 r2.2 (by simp only [List.length_append, List.length_cons, List.length_nil]; omega)
theorem spec_pzHeaps_eq (h : Int) : spec_pzHeaps.f h = some (inR h 2 4) := by
 unfold spec_pzHeaps.f
 rw [spec_l1In_eq]
 rfl
theorem spec_pzHidden_ev (l : List Int) (hl : l.length < 9223372036854775807) : Ev (fun k => spec_pzHidden.f k l) (hidB l) := by
 unfold spec_pzHidden.f hidB
 simp only [spec_pzHeaps_eq, Option.bind_some]
 cases hb : inR (l.length : Int) 2 4 with
 | false =>
  simp only [Bool.false_eq_true, if_false, Bool.false_and]
  exact Ev.now _
 | true =>
  simp only [if_true, Bool.true_and]
  refine Ev.bind (spec_l1All_ev l 0 5 hl) ?_
  exact Ev.now _
theorem impl_areHidden_eq (l : List Int) : impl_areHidden.f l = some (hidB l) := by
 unfold impl_areHidden.f hidB
 simp only [impl_within_eq, impl_areIn_eq, Option.bind_some]
 cases inR (l.length : Int) 2 4 <;> rfl
theorem agree_MakePuzzle (l : List Int) (n s : Int) (hn : l.length ≤ 1048576) : ∃ v, Ev (fun k => spec_MakePuzzle.f k l n s) v ∧ Ev (fun k => impl_MakePuzzle.f k l n s) v ∧ v.2.1.length ≤ 1000000 := by
 refine ⟨if (hidB l && (inR n 0 6 && inR s 0 9999)) = true then ((l.length : Int), mkV l n.toNat s [], true) else (0, [], false), ?_, ?_, ?_⟩
 ·have j : ∀ b : Bool, b = false → Ev (fun k => spec_MakePuzzle.j0 k l n s true) (0, [], false) := by
   intro _ _
   refine Ev_add 1 ?_
   simp only [spec_MakePuzzle.j0, if_true]
   exact Ev.now _
  unfold spec_MakePuzzle.f
  refine Ev.bind (spec_pzHidden_ev l (by omega)) ?_
  cases hb : hidB l with
  | false =>
   simp only [Bool.false_eq_true, if_false, Bool.false_and]
   exact j false rfl
  | true =>
   simp only [if_true, Bool.true_and, spec_l1In_eq, Option.bind_some]
   cases h6 : inR n 0 6 with
   | false =>
    simp only [Bool.false_eq_true, if_false, Bool.false_and]
    exact j false rfl
   | true =>
    rw [inR_iff] at h6
    simp only [if_true, Bool.true_and]
    cases h9 : inR s 0 9999 with
    | false =>
     simp only [Bool.false_eq_true, if_false, Bool.not_false]
     exact j false rfl
    | true =>
     rw [inR_iff] at h9
     obtain ⟨N, rfl⟩ := Int.eq_ofNat_of_zero_le h6.1
     simp only [if_true, Bool.not_true, Int.toNat_natCast]
     refine Ev_add 1 ?_
     simp only [spec_MakePuzzle.j0, Bool.false_eq_true, if_false]
     exact spec_make_l0 l hb _ N s [] h9.1 (by omega) (by simp; omega)
 ·unfold impl_MakePuzzle.f
  simp only [impl_areHidden_eq, impl_within_eq, Option.bind_some]
  cases hb : hidB l with
  | false =>
   simp only [Bool.false_eq_true, if_false, Bool.false_and]
   exact Ev.now _
  | true =>
   have hh := hidB_iff.mp hb
   simp only [if_true, Bool.true_and]
   cases h6 : inR n 0 6 with
   | false =>
    simp only [Bool.false_eq_true, if_false, Bool.false_and]
    exact Ev.now _
   | true =>
    rw [inR_iff] at h6
    simp only [if_true, Bool.true_and]
    cases h9 : inR s 0 9999 with
    | false =>
     simp only [Bool.false_eq_true, if_false]
     exact Ev.now _
    | true =>
     rw [inR_iff] at h9
     simp only [if_true, if_pos (show 0 < l.length ∧ 0 ≤ n ∧ n ≤ 1000 by omega)]
     refine Ev.bind (makeL_ev l hb n.toNat s [] h9.1 (by omega)) ?_
     exact Ev.now _
 ·split
  ·rename_i hc
   rw [Bool.and_eq_true, Bool.and_eq_true, inR_iff] at hc
   simp only [mkV_len, List.length_nil]
   omega
  ·simp
theorem toIntS_l0 (l : List Int) (hl : l.length < 9223372036854775807) : ∀ (d k i : Nat) (out : List Int), i + d = l.length → d < k → out.length = l.length → out.take i = l.take i → laws_toIntS.l0 k l out (i : Int) = some l := by
 intro d
 induction d with
 | zero =>
  intro k i out h hk ho ht
  obtain ⟨k, rfl⟩ : ∃ m, k = m + 1 := ⟨k - 1, by omega⟩
  simp only [laws_toIntS.l0]
  rw [if_neg (by omega)]
  rw [List.take_of_length_le (by omega), List.take_of_length_le (by omega)] at ht
  rw [ht]
 | succ d ih =>
  intro k i out h hk ho ht
  obtain ⟨k, rfl⟩ : ∃ m, k = m + 1 := ⟨k - 1, by omega⟩
  have hi : i < l.length := by omega
  have e : (i : Int) + 1 = ((i + 1 : Nat) : Int) := by omega
  simp only [laws_toIntS.l0]
  rw [if_pos (by omega), if_pos (by omega), if_pos (by omega), rd_at l i hi, wrap_id (by omega) (by omega), e, Int.toNat_natCast]
  refine ih k (i + 1) _ (by omega) (by omega) (by simpa using ho) ?_
  rw [List.take_succ_eq_append_getElem (by simpa using by omega), List.take_succ_eq_append_getElem hi, List.getElem_set_self, List.take_set_of_le (Nat.le_refl i), ht]
theorem toIntS_ev (l : List Int) (hl : l.length ≤ 1048576) : Ev (fun k => laws_toIntS.f k l) l :=
 ⟨l.length + 1, fun k hk => by
  have h := toIntS_l0 l (by omega) l.length k 0 (List.replicate l.length 0) (by omega) (by omega) (by simp) rfl
  show laws_toIntS.f k l = some l
  unfold laws_toIntS.f
  rw [if_pos (by omega), if_pos (by omega)]
  simpa using h⟩
theorem eqIntS_l0 (a b : List Int) (hl : a.length = b.length) (hm : a.length < 9223372036854775807) : ∀ (d k i : Nat), i + d = a.length → d < k → laws_eqIntS.l0 k a b (i : Int) = some (decide (a.drop i = b.drop i)) := by
 intro d
 induction d with
 | zero =>
  intro k i h hk
  obtain ⟨k, rfl⟩ : ∃ m, k = m + 1 := ⟨k - 1, by omega⟩
  simp only [laws_eqIntS.l0]
  rw [if_neg (by omega), List.drop_of_length_le (by omega), List.drop_of_length_le (by omega)]
  simp
 | succ d ih =>
  intro k i h hk
  obtain ⟨k, rfl⟩ : ∃ m, k = m + 1 := ⟨k - 1, by omega⟩
  have hi : i < a.length := by omega
  have hj : i < b.length := by omega
  have e : (i : Int) + 1 = ((i + 1 : Nat) : Int) := by omega
  simp only [laws_eqIntS.l0]
  rw [if_pos (by omega), if_pos (by omega), if_pos (by omega), rd_at a i hi, rd_at b i hj, wrap_id (by omega) (by omega), e]
  rw [List.drop_eq_getElem_cons hi, List.drop_eq_getElem_cons hj]
  by_cases c : a[i] = b[i]
  ·rw [if_pos c, ih k (i + 1) (by omega) (by omega), c]
   exact congrArg some (decide_eq_decide.mpr ⟨fun h => by rw [h], fun h => (List.cons.inj h).2⟩)
  ·rw [if_neg c]
   exact congrArg some (decide_eq_false fun h => c (List.cons.inj h).1).symm
theorem eqIntS_ev (a b : List Int) (hm : a.length < 9223372036854775807) : Ev (fun k => laws_eqIntS.f k a b) (decide (a = b)) := by
 by_cases hl : a.length = b.length
 ·refine ⟨a.length + 1, fun k hk => ?_⟩
  have h := eqIntS_l0 a b hl hm a.length k 0 (by omega) (by omega)
  show laws_eqIntS.f k a b = _
  unfold laws_eqIntS.f
  rw [if_pos (by omega)]
  simpa using h
 ·refine ⟨0, fun k hk => ?_⟩
  show laws_eqIntS.f k a b = _
  unfold laws_eqIntS.f
  rw [if_neg (by omega)]
  have : a ≠ b := fun h => hl (by rw [h])
  simp [this]
theorem eqIntS_self (a : List Int) (hm : a.length < 9223372036854775807) : Ev (fun k => laws_eqIntS.f k a a) true := by
 have := eqIntS_ev a a hm
 simpa using this
/-- k, k + 1, .. : so many numbers. -/
def iota : Nat → Int → List Int
 | 0, _ => []
 | n + 1, k => k :: iota n (k + 1)
theorem iota_length : ∀ (n : Nat) (k : Int), (iota n k).length = n
 | 0, _ => rfl
 | n + 1, k => by simp [iota, iota_length n]
theorem markIntS_l0 : ∀ (d k : Nat) (pre l : List Int) (i : Nat) (m : Int), i = pre.length → l.length = d → d < k → 0 ≤ m → m + d < 9223372036854775807 → pre.length + d < 9223372036854775807 → laws_markIntS.l0 k (pre ++ l) m (i : Int) = some (m + d, pre ++ iota d m) := by
 intro d
 induction d with
 | zero =>
  intro k pre l i m hi hd hk h0 h1 h2
  obtain ⟨k, rfl⟩ : ∃ m, k = m + 1 := ⟨k - 1, by omega⟩
  obtain rfl : l = [] := List.eq_nil_of_length_eq_zero hd
  subst hi
  simp only [laws_markIntS.l0]
  rw [if_neg (by simp)]
  simp [iota]
 | succ d ih =>
  intro k pre l i m hi hd hk h0 h1 h2
  obtain ⟨k, rfl⟩ : ∃ m, k = m + 1 := ⟨k - 1, by omega⟩
  cases l with
  | nil => simp at hd
  | cons x xs =>
   subst hi
   have e : (pre.length : Int) + 1 = ((pre ++ [m]).length : Int) := by simp
   simp only [laws_markIntS.l0]
   rw [if_pos (by simp; omega), if_pos (by omega), Int.toNat_natCast, wrap_id (x := m + 1) (by omega) (by omega), wrap_id (x := (pre.length : Int) + 1) (by omega) (by omega), e]
   have es : (pre ++ x :: xs).set pre.length m = (pre ++ [m]) ++ xs := by simp
   rw [es, ih k (pre ++ [m]) xs (pre ++ [m]).length (m + 1) rfl (by simpa using hd) (by omega) (by omega) (by omega) (by simp; omega)]
   simp [iota]
   omega
theorem markIntS_ev (l : List Int) (m : Int) (h0 : 0 ≤ m) (h1 : m + l.length < 9223372036854775807) : Ev (fun k => laws_markIntS.f k l m) (m + l.length, iota l.length m) :=
 ⟨l.length + 1, fun k hk => by
  have h := markIntS_l0 l.length k [] l 0 m rfl rfl (by omega) h0 h1 (by simp; omega)
  simpa [laws_markIntS.f] using h⟩
/-- A puzzle: the number of heaps, and the clues. -/
def goodP (h : Int) (cs : List S25) : Bool := inR h 2 4 && (decide ((cs.length : Int) ≤ 6) && cs.all fun c => clueB h c.f0 c.f1 c.f2 c.f3)
theorem rdClue_at (l : List S25) (i : Nat) (h : i < l.length) : rd_T25 l (i : Int) = l[i] := by
 unfold rd_T25
 simp [h]
theorem eqClueS_l0 (a : List S25) (hm : a.length < 9223372036854775807) : ∀ (d k i : Nat), i + d = a.length → d < k → laws_eqClueS.l0 k a a (i : Int) = some true := by
 intro d
 induction d with
 | zero =>
  intro k i h hk
  obtain ⟨k, rfl⟩ : ∃ m, k = m + 1 := ⟨k - 1, by omega⟩
  simp only [laws_eqClueS.l0]
  rw [if_neg (by omega)]
 | succ d ih =>
  intro k i h hk
  obtain ⟨k, rfl⟩ : ∃ m, k = m + 1 := ⟨k - 1, by omega⟩
  have hi : i < a.length := by omega
  have e : (i : Int) + 1 = ((i + 1 : Nat) : Int) := by omega
  simp only [laws_eqClueS.l0]
  rw [if_pos (by omega), if_pos (by omega), if_pos (by omega), rdClue_at a i hi, wrap_id (by omega) (by omega), e]
  simp only [laws_eqClue.f, if_true, Option.bind_some]
  exact ih k (i + 1) (by omega) (by omega)
theorem eqClueS_self (a : List S25) (hm : a.length < 9223372036854775807) : Ev (fun k => laws_eqClueS.f k a a) true := by
 refine ⟨a.length + 1, fun k hk => ?_⟩
 have h := eqClueS_l0 a hm a.length k 0 (by omega) (by omega)
 show laws_eqClueS.f k a a = _
 unfold laws_eqClueS.f
 rw [if_pos rfl]
 simpa using h
theorem eqPuzzle_self (h : Int) (a : List S25) (hm : a.length < 9223372036854775807) : Ev (fun k => laws_eqPuzzle.f k h a h a) true := by
 unfold laws_eqPuzzle.f
 simp only [if_true]
 refine Ev.bind (eqClueS_self a hm) ?_
 simp only [if_true]
 exact Ev.now _
/-- Marked clues: so many, from a number on. -/
def iotaClue : Nat → Int → List S25
 | 0, _ => []
 | n + 1, k => (⟨k, k + 1, k + 1 + 1, k + 1 + 1 + 1⟩ : S25) :: iotaClue n (k + 4)
theorem iotaClue_length : ∀ (n : Nat) (k : Int), (iotaClue n k).length = n
 | 0, _ => rfl
 | n + 1, k => by simp [iotaClue, iotaClue_length n]
theorem markClueS_l0 : ∀ (d k : Nat) (pre l : List S25) (i : Nat) (m : Int), i = pre.length → l.length = d → d < k → 0 ≤ m → m + 4 * d < 9223372036854775807 → pre.length + d < 9223372036854775807 → laws_markClueS.l0 k (pre ++ l) m (i : Int) = some (m + 4 * d, pre ++ iotaClue d m) := by
 intro d
 induction d with
 | zero =>
  intro k pre l i m hi hd hk h0 h1 h2
  obtain ⟨k, rfl⟩ : ∃ m, k = m + 1 := ⟨k - 1, by omega⟩
  obtain rfl : l = [] := List.eq_nil_of_length_eq_zero hd
  subst hi
  simp only [laws_markClueS.l0]
  rw [if_neg (by simp)]
  simp [iotaClue]
 | succ d ih =>
  intro k pre l i m hi hd hk h0 h1 h2
  obtain ⟨k, rfl⟩ : ∃ m, k = m + 1 := ⟨k - 1, by omega⟩
  cases l with
  | nil => simp at hd
  | cons x xs =>
   subst hi
   obtain ⟨y, hy⟩ : ∃ y : S25, y = ⟨m, m + 1, m + 1 + 1, m + 1 + 1 + 1⟩ := ⟨_, rfl⟩
   have e : (pre.length : Int) + 1 = ((pre ++ [y]).length : Int) := by simp
   have es : ∀ y : S25, (pre ++ x :: xs).set pre.length y = pre ++ y :: xs := by intro y; simp
   have es2 : ∀ y z : S25, (pre ++ y :: xs).set pre.length z = pre ++ z :: xs := by intro y z; simp
   have er : ∀ y : S25, rd_T25 (pre ++ y :: xs) (pre.length : Int) = y := by
    intro y
    rw [rdClue_at _ _ (by simp)]
    simp
   simp only [laws_markClueS.l0]
   rw [if_pos (by simp; omega), if_pos (by omega)]
   simp only [Option.bind_some, Int.toNat_natCast, es, es2, er]
   rw [wrap_id (x := m + 1) (by omega) (by omega), wrap_id (x := m + 1 + 1) (by omega) (by omega), wrap_id (x := m + 1 + 1 + 1) (by omega) (by omega), wrap_id (x := m + 1 + 1 + 1 + 1) (by omega) (by omega), wrap_id (x := (pre.length : Int) + 1) (by omega) (by omega), e, ← hy]
   have ec : pre ++ y :: xs = (pre ++ [y]) ++ xs := by simp
   rw [ec, ih k (pre ++ [y]) xs (pre ++ [y]).length (m + 1 + 1 + 1 + 1) rfl (by simpa using hd) (by omega) (by omega) (by omega) (by simp; omega)]
   have e2 : m + 1 + 1 + 1 + 1 = m + 4 := by omega
   rw [e2]
   simp [iotaClue, hy]
   omega
theorem markClueS_ev (l : List S25) (m : Int) (h0 : 0 ≤ m) (h1 : m + 4 * l.length < 9223372036854775807) : Ev (fun k => laws_markClueS.f k l m) (m + 4 * l.length, iotaClue l.length m) :=
 ⟨l.length + 1, fun k hk => by
  have h := markClueS_l0 l.length k [] l 0 m rfl rfl (by omega) h0 h1 (by simp; omega)
  simpa [laws_markClueS.f] using h⟩
theorem markPuzzle_ev (hp : Int) (l : List S25) (m : Int) (h0 : 0 ≤ m) (h1 : m + 4 * l.length < 9223372036854775807) : Ev (fun k => laws_markPuzzle.f k hp l m) (m + 4 * l.length, iotaClue l.length m) := by
 unfold laws_markPuzzle.f
 refine Ev.bind (markClueS_ev l m h0 h1) ?_
 exact Ev.now _
theorem heldClueS_l0 : ∀ (d k : Nat) (pre : List S25) (i : Nat) (m : Int), i = pre.length → d < k → 0 ≤ m → m + 4 * d < 9223372036854775807 → pre.length + d < 9223372036854775807 → laws_heldClueS.l0 k (pre ++ iotaClue d m) m (i : Int) = some (m + 4 * d) := by
 intro d
 induction d with
 | zero =>
  intro k pre i m hi hk h0 h1 h2
  obtain ⟨k, rfl⟩ : ∃ m, k = m + 1 := ⟨k - 1, by omega⟩
  subst hi
  simp only [laws_heldClueS.l0]
  rw [if_neg (by simp [iotaClue])]
  simp
 | succ d ih =>
  intro k pre i m hi hk h0 h1 h2
  obtain ⟨k, rfl⟩ : ∃ m, k = m + 1 := ⟨k - 1, by omega⟩
  subst hi
  obtain ⟨y, hy⟩ : ∃ y : S25, y = ⟨m, m + 1, m + 1 + 1, m + 1 + 1 + 1⟩ := ⟨_, rfl⟩
  have e : (pre.length : Int) + 1 = ((pre ++ [y]).length : Int) := by simp
  have er : rd_T25 (pre ++ iotaClue (d + 1) m) (pre.length : Int) = y := by
   rw [rdClue_at _ _ (by simp [iotaClue])]
   simp [iotaClue, hy]
  simp only [laws_heldClueS.l0]
  rw [if_pos (by simp [iotaClue]; omega), if_pos (by omega), er]
  simp only [hy]
  rw [if_pos trivial, wrap_id (x := m + 1) (by omega) (by omega), if_pos rfl, wrap_id (x := m + 1 + 1) (by omega) (by omega), if_pos rfl, wrap_id (x := m + 1 + 1 + 1) (by omega) (by omega), if_pos rfl, wrap_id (x := m + 1 + 1 + 1 + 1) (by omega) (by omega), wrap_id (x := (pre.length : Int) + 1) (by omega) (by omega), e]
  have es : pre ++ iotaClue (d + 1) m = (pre ++ [y]) ++ iotaClue d (m + 4) := by simp [iotaClue, hy]
  have e2 : m + 1 + 1 + 1 + 1 = m + 4 := by omega
  rw [es, e2, ih k (pre ++ [y]) (pre ++ [y]).length (m + 4) rfl (by omega) (by omega) (by omega) (by simp; omega)]
  congr 1
  omega
theorem heldClueS_ev (n : Nat) (m : Int) (h0 : 0 ≤ m) (h1 : m + 4 * n < 9223372036854775807) : Ev (fun k => laws_heldClueS.f k (iotaClue n m) m) (m + 4 * n) :=
 ⟨n + 1, fun k hk => by
  have h := heldClueS_l0 n k [] 0 m rfl (by omega) h0 h1 (by simp; omega)
  simpa [laws_heldClueS.f] using h⟩
theorem heldPuzzle_ev (hp : Int) (n : Nat) (m : Int) (h0 : 0 ≤ m) (h1 : m + 4 * n < 9223372036854775807) : Ev (fun k => laws_heldPuzzle.f k hp (iotaClue n m) m) (m + 4 * n) := by
 unfold laws_heldPuzzle.f
 refine Ev.bind (heldClueS_ev n m h0 h1) ?_
 have n1 : ¬ (m + 4 * (n : Int)) < 0 := by omega
 simp only [if_neg n1]
 exact Ev.now _
theorem FnExactMakePuzzle : laws_FnExactMakePuzzle.Pure := by
 intro l n s _ _ _ _ _
 refine Ev.rounds (g := fun k => laws_FnExactMakePuzzle.f k l n s) ?_
 unfold laws_FnExactMakePuzzle.f
 by_cases c : (l.length : Int) > 1048576
 ·simp only [if_pos c]
  exact Ev.now _
 ·have hl : l.length ≤ 1048576 := by omega
  obtain ⟨⟨v1, v2, v3⟩, hs, hi, hn⟩ := agree_MakePuzzle l n s hl
  have hn : v2.length ≤ 1000000 := hn
  have hT := toIntS_ev l hl
  have hE := eqIntS_self l (by omega)
  have hM := markIntS_ev l 1 (by omega) (by omega)
  have hQ := eqPuzzle_self v1 v2 (by omega)
  have hK := markPuzzle_ev v1 v2 1 (by omega) (by omega)
  have hH := heldPuzzle_ev v1 v2.length 1 (by omega) (by omega)
  have n1 : ¬ (1 + (l.length : Int)) < 0 := by omega
  have n2 : ¬ (1 + 4 * (v2.length : Int)) < 0 := by omega
  simp only [if_neg c]
  repeat (first
   | exact Ev.now _
   | refine Ev.bind hT ?_
   | refine Ev.bind hs ?_
   | refine Ev.bind hi ?_
   | refine Ev.bind hE ?_
   | refine Ev.bind hM ?_
   | refine Ev.bind hQ ?_
   | refine Ev.bind hK ?_
   | refine Ev.bind hH ?_
   | simp only [if_true, bne_self_eq_false, Bool.false_eq_true, if_false, if_neg n1, if_neg n2]
   | (refine Ev_add 1 ?_; simp only [laws_FnExactMakePuzzle.j0])
   | (refine Ev_add 1 ?_; simp only [laws_FnExactMakePuzzle.j1])
   | (refine Ev_add 1 ?_; simp only [laws_FnExactMakePuzzle.j2]))

end Go.Proofs.Ytchphfohembpcaa.Pure
