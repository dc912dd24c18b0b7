/-
  The program's IsDesk returns what the reference's returns, for all arguments: the plain half, about the printed functions alone.
  Conditions: those of the statement's own row; none is added.
-/
import Derived.Test.YtndecllnboiikaaPAx5
namespace Go.Proofs.Ytndecllnboiikaa.Pure
set_option linter.unusedVariables false
set_option linter.unusedSimpArgs false
open Go.RowKit Go.Proofs.Ytndecllnboiikaa.PA Go.Proofs.YtndecllnboiikaaW.PrintWords Go.Proofs.YtndecllnboiikaaW.PrintLast Go.Proofs.YtndecllnboiikaaW.PrintMore Go.Proofs.YtndecllnboiikaaB

theorem Ev_add {α : Type} {g : Nat → Option α} {r : α} (m : Nat) (h : Ev (fun k => g (k + m)) r) : Ev g r := by
  obtain ⟨K, hK⟩ := h
  refine ⟨K + m, fun k hk => ?_⟩
  have h1 := hK (k - m) (by omega)
  simp only at h1
  rwa [Nat.sub_add_cancel (by omega)] at h1
theorem Ev_shift {α : Type} {g : Nat → Option α} {r : α} (m : Nat) (h : Ev g r) : Ev (fun k => g (k + m)) r := by
  obtain ⟨K, hK⟩ := h
  exact ⟨K, fun k hk => hK (k + m) (by omega)⟩
theorem wrap_id {x : Int} (h0 : -9223372036854775808 ≤ x) (h1 : x ≤ 9223372036854775807) : wrap64 x = x := by
  unfold wrap64
  omega
theorem rd_at (l : List Int) (i : Nat) (h : i < l.length) : rd l (i : Int) = l[i] := rd_get l i h
theorem rd_append_left (l m : List Int) (i : Int) (h0 : 0 ≤ i) (h : i < l.length) : rd (l ++ m) i = rd l i := by
  unfold rd
  rw [List.getD_eq_getElem?_getD, List.getD_eq_getElem?_getD, List.getElem?_append_left (by omega)]
def inR (a lo hi : Int) : Bool := decide (lo ≤ a) && decide (a ≤ hi)
theorem inR_iff {a lo hi : Int} : inR a lo hi = true ↔ lo ≤ a ∧ a ≤ hi := by simp [inR]
theorem spec_l1In_eq (a lo hi : Int) : spec_l1In.f a lo hi = some (inR a lo hi) := by
  unfold spec_l1In.f inR
  by_cases h : lo ≤ a <;> simp [h]
theorem spec_l1All_l0 (lo hi : Int) (l : List Int) (hl : l.length < 9223372036854775807) : ∀ (d k i : Nat), i + d = l.length → d < k → spec_l1All.l0 k lo hi l (l.length : Int) (i : Int) = some ((l.drop i).all fun x => inR x lo hi) := by
  intro d
  induction d with
  | zero =>
    intro k i h hk
    obtain ⟨k, rfl⟩ : ∃ m, k = m + 1 := ⟨k - 1, by omega⟩
    simp only [spec_l1All.l0]
    rw [if_neg (by omega), List.drop_of_length_le (by omega)]
    rfl
  | succ d ih =>
    intro k i h hk
    obtain ⟨k, rfl⟩ : ∃ m, k = m + 1 := ⟨k - 1, by omega⟩
    have hil : i < l.length := by omega
    have e : (i : Int) + 1 = ((i + 1 : Nat) : Int) := by omega
    simp only [spec_l1All.l0]
    rw [if_pos (by omega), if_pos (by omega), if_pos (by omega), spec_l1In_eq, rd_at l i hil, List.drop_eq_getElem_cons hil, List.all_cons, wrap_id (by omega) (by omega), e]
    simp only [Option.bind_some]
    cases hb : inR l[i] lo hi with
    | true => simpa using ih k (i + 1) (by omega) (by omega)
    | false => simp
theorem spec_l1All_ev (l : List Int) (lo hi : Int) (hl : l.length < 9223372036854775807) : Ev (fun k => spec_l1All.f k l lo hi) (l.all fun x => inR x lo hi) :=
  ⟨l.length + 1, fun k hk => by
    have := spec_l1All_l0 lo hi l hl l.length k 0 (by omega) (by omega)
    simpa [spec_l1All.f] using this⟩
theorem impl_within_eq (a lo hi : Int) : impl_within.f a lo hi = some (inR a lo hi) := by
  unfold impl_within.f inR
  by_cases h : lo ≤ a <;> simp [h]
theorem impl_areIn_eq (l : List Int) (lo hi : Int) : impl_areIn.f l lo hi = some (l.all fun x => inR x lo hi) := by
  unfold impl_areIn.f
  simp only [impl_within_eq, Option.bind_some]
  rw [anyO_some]
  simp only [Option.bind_some]
  congr 1
  induction l with
  | nil => rfl
  | cons x xs ih => simp only [List.any_cons, List.all_cons, Bool.not_or, Bool.not_not, ih]
theorem toIntS_l0 (l : List Int) (hl : l.length < 9223372036854775807) : ∀ (d k i : Nat) (out : List Int), i + d = l.length → d < k → out.length = l.length → out.take i = l.take i → laws_toIntS.l0 k l out (i : Int) = some l := by
  intro d
  induction d with
  | zero =>
    intro k i out h hk ho ht
    obtain ⟨k, rfl⟩ : ∃ m, k = m + 1 := ⟨k - 1, by omega⟩
    simp only [laws_toIntS.l0]
    rw [if_neg (by omega)]
    rw [List.take_of_length_le (by omega), List.take_of_length_le (by omega)] at ht
    rw [ht]
  | succ d ih =>
    intro k i out h hk ho ht
    obtain ⟨k, rfl⟩ : ∃ m, k = m + 1 := ⟨k - 1, by omega⟩
    have hi : i < l.length := by omega
    have e : (i : Int) + 1 = ((i + 1 : Nat) : Int) := by omega
    simp only [laws_toIntS.l0]
    rw [if_pos (by omega), if_pos (by omega), if_pos (by omega), rd_at l i hi, wrap_id (by omega) (by omega), e, Int.toNat_natCast]
    refine ih k (i + 1) _ (by omega) (by omega) (by simpa using ho) ?_
    rw [List.take_succ_eq_append_getElem (by simpa using by omega), List.take_succ_eq_append_getElem hi, List.getElem_set_self, List.take_set_of_le (Nat.le_refl i), ht]
theorem toIntS_ev (l : List Int) (hl : l.length ≤ 1048576) : Ev (fun k => laws_toIntS.f k l) l :=
  ⟨l.length + 1, fun k hk => by
    have h := toIntS_l0 l (by omega) l.length k 0 (List.replicate l.length 0) (by omega) (by omega) (by simp) rfl
    show laws_toIntS.f k l = some l
    unfold laws_toIntS.f
    rw [if_pos (by omega), if_pos (by omega)]
    simpa using h⟩
theorem eqIntS_l0 (a b : List Int) (hl : a.length = b.length) (hm : a.length < 9223372036854775807) : ∀ (d k i : Nat), i + d = a.length → d < k → laws_eqIntS.l0 k a b (i : Int) = some (decide (a.drop i = b.drop i)) := by
  intro d
  induction d with
  | zero =>
    intro k i h hk
    obtain ⟨k, rfl⟩ : ∃ m, k = m + 1 := ⟨k - 1, by omega⟩
    simp only [laws_eqIntS.l0]
    rw [if_neg (by omega), List.drop_of_length_le (by omega), List.drop_of_length_le (by omega)]
    simp
  | succ d ih =>
    intro k i h hk
    obtain ⟨k, rfl⟩ : ∃ m, k = m + 1 := ⟨k - 1, by omega⟩
    have hi : i < a.length := by omega
    have hj : i < b.length := by omega
    have e : (i : Int) + 1 = ((i + 1 : Nat) : Int) := by omega
    simp only [laws_eqIntS.l0]
    rw [if_pos (by omega), if_pos (by omega), if_pos (by omega), rd_at a i hi, rd_at b i hj, wrap_id (by omega) (by omega), e]
    rw [List.drop_eq_getElem_cons hi, List.drop_eq_getElem_cons hj]
    by_cases c : a[i] = b[i]
    · rw [if_pos c, ih k (i + 1) (by omega) (by omega), c]
      exact congrArg some (decide_eq_decide.mpr ⟨fun h => by rw [h], fun h => (List.cons.inj h).2⟩)
    · rw [if_neg c]
      exact congrArg some (decide_eq_false fun h => c (List.cons.inj h).1).symm
theorem eqIntS_ev (a b : List Int) (hm : a.length < 9223372036854775807) : Ev (fun k => laws_eqIntS.f k a b) (decide (a = b)) := by
  by_cases hl : a.length = b.length
  · refine ⟨a.length + 1, fun k hk => ?_⟩
    have h := eqIntS_l0 a b hl hm a.length k 0 (by omega) (by omega)
    show laws_eqIntS.f k a b = _
    unfold laws_eqIntS.f
    rw [if_pos (by omega)]
    simpa using h
  · refine ⟨0, fun k hk => ?_⟩
    show laws_eqIntS.f k a b = _
    unfold laws_eqIntS.f
    rw [if_neg (by omega)]
    have : a ≠ b := fun h => hl (by rw [h])
    simp [this]
theorem eqIntS_self (a : List Int) (hm : a.length < 9223372036854775807) : Ev (fun k => laws_eqIntS.f k a a) true := by
  have := eqIntS_ev a a hm
  simpa using this
theorem hpGoodB_ev (l : List Int) (hl : l.length ≤ 1048576) : Ev (fun k => spec_hpGood.f k l) (inR (l.length : Int) 1 12 && l.all fun x => inR x 0 1000) := by
  unfold spec_hpGood.f
  simp only [spec_l1In_eq, Option.bind_some]
  cases hb : inR (l.length : Int) 1 12 with
  | false =>
    simp only [Bool.false_eq_true, if_false, Bool.false_and]
    exact Ev.now _
  | true =>
    simp only [if_true, Bool.true_and]
    refine Ev.bind (spec_l1All_ev l 0 1000 (by omega)) ?_
    exact Ev.now _
theorem areHeapsB_eq (l : List Int) : impl_AreHeaps.f l = some (inR (l.length : Int) 1 12 && l.all fun x => inR x 0 1000) := by
  unfold impl_AreHeaps.f
  simp only [impl_within_eq, impl_areIn_eq, Option.bind_some]
  cases inR (l.length : Int) 1 12 <;> rfl
theorem FnExactIsDesk : laws_FnExactIsDesk.Pure := by
  intro l hw
  refine Ev.rounds (g := fun k => laws_FnExactIsDesk.f k l) ?_
  unfold laws_FnExactIsDesk.f laws_szDesk.f laws_szIntS.f
  have hm := hw.1
  unfold maxLen at hm
  have w1 : wrap64 (1048576 - (l.length : Int)) = 1048576 - (l.length : Int) := wrap_id (by omega) (by omega)
  rw [w1]
  by_cases c : 1048576 - (l.length : Int) < 0
  · simp only [if_pos c, Option.bind_some, show ((-1 : Int) < 0) from by omega, if_true]
    exact Ev.now _
  · have hl : l.length ≤ 1048576 := by omega
    have hT : Ev (fun k => laws_toDesk.f k l) l := by
      unfold laws_toDesk.f
      refine Ev.bind (toIntS_ev l hl) ?_
      exact Ev.now _
    have hs : Ev (fun k => spec_IsDesk.f k l) (inR (l.length : Int) 1 12 && l.all fun x => inR x 0 1000) := by
      unfold spec_IsDesk.f spec_coGood.f
      refine Ev.bind (g := fun k => (spec_hpGood.f k l).bind fun t => some t) (Ev.bind (hpGoodB_ev l hl) (Ev.now _)) ?_
      exact Ev.now _
    have hi : impl_IsDesk.f l = some (inR (l.length : Int) 1 12 && l.all fun x => inR x 0 1000) := by
      unfold impl_IsDesk.f
      rw [areHeapsB_eq]
      rfl
    have hE : Ev (fun k => laws_eqDesk.f k l l) true := by
      unfold laws_eqDesk.f
      refine Ev.bind (eqIntS_self l (by omega)) ?_
      simp only [if_true]
      exact Ev.now _
    simp only [if_neg c, Option.bind_some]
    refine Ev.bind hT ?_
    refine Ev.bind hs ?_
    refine Ev.bind hT ?_
    simp only [hi, Option.bind_some, bne_self_eq_false, Bool.false_eq_true, if_false]
    refine Ev.bind hT ?_
    refine Ev.bind hE ?_
    simp only [if_true]
    exact Ev.now _

end Go.Proofs.Ytndecllnboiikaa.Pure
