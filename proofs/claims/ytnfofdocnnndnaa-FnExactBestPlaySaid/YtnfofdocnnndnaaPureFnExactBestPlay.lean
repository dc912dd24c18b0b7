/-
  The program's BestPlay returns what the reference's returns, for all arguments: the plain half, about the printed functions alone.
  Conditions: those of the statement's own row; none is added.
-/
import Derived.Test.YtnfofdocnnndnaaPCx13
namespace Go.Proofs.Ytnfofdocnnndnaa.Pure
set_option linter.unusedVariables false
set_option linter.unusedSimpArgs false
open Go.RowKit Go.Proofs.Ytnfofdocnnndnaa.PC Go.Proofs.YtnfofdocnnndnaaW.PrintWords Go.Proofs.YtnfofdocnnndnaaW.PrintLast Go.Proofs.YtnfofdocnnndnaaW.PrintMore Go.Proofs.YtnfofdocnnndnaaB

theorem Ev_add {α : Type} {g : Nat → Option α} {r : α} (m : Nat) (h : Ev (fun k => g (k + m)) r) : Ev g r := by
  obtain ⟨K, hK⟩ := h
  refine ⟨K + m, fun k hk => ?_⟩
  have h1 := hK (k - m) (by omega)
  simp only at h1
  rwa [Nat.sub_add_cancel (by omega)] at h1
theorem Ev_shift {α : Type} {g : Nat → Option α} {r : α} (m : Nat) (h : Ev g r) : Ev (fun k => g (k + m)) r := by
  obtain ⟨K, hK⟩ := h
  exact ⟨K, fun k hk => hK (k + m) (by omega)⟩
theorem wrap_id {x : Int} (h0 : -9223372036854775808 ≤ x) (h1 : x ≤ 9223372036854775807) : wrap64 x = x := by
  unfold wrap64
  omega
theorem rd_at (l : List Int) (i : Nat) (h : i < l.length) : rd l (i : Int) = l[i] := rd_get l i h
theorem rd_append_left (l m : List Int) (i : Int) (h0 : 0 ≤ i) (h : i < l.length) : rd (l ++ m) i = rd l i := by
  unfold rd
  rw [List.getD_eq_getElem?_getD, List.getD_eq_getElem?_getD, List.getElem?_append_left (by omega)]
/-- Can a heap be split so? -/
def canB (rule heap part : Int) : Bool := decide (1 ≤ part) && decide (2 * part ≤ heap) && (rule != 0 || decide (2 * part < heap)) && (rule != 2 || decide (2 ≤ part))
/-- The splits of a heap, by their parts, from a part on. -/
def spl (r i h : Int) : Nat → Int → List S49
  | 0, _ => []
  | d + 1, p => if 2 * p ≤ h then (if canB r h p = true then [(⟨i, p⟩ : S49)] else []) ++ spl r i h d (p + 1) else []
/-- The splits of heaps, counted from i on. -/
def splAll (r : Int) : List Int → Int → List S49
  | [], _ => []
  | h :: t, i => spl r i h 31 1 ++ splAll r t (i + 1)
theorem spl_length (r i h : Int) : ∀ (d : Nat) (p : Int), (spl r i h d p).length ≤ d
  | 0, _ => by simp [spl]
  | d + 1, p => by
    have := spl_length r i h d (p + 1)
    simp only [spl]
    split
    · split <;> simp <;> omega
    · simp
theorem splAll_length (r : Int) : ∀ (l : List Int) (i : Int), (splAll r l i).length ≤ 31 * l.length
  | [], _ => by simp [splAll]
  | h :: t, i => by
    have h1 := spl_length r i h 31 1
    have h2 := splAll_length r t (i + 1)
    simp only [splAll, List.length_append, List.length_cons]
    omega
def inR (a lo hi : Int) : Bool := decide (lo ≤ a) && decide (a ≤ hi)
theorem inR_iff {a lo hi : Int} : inR a lo hi = true ↔ lo ≤ a ∧ a ≤ hi := by simp [inR]
/-- The heaps behind a split; false if it can't be made. -/
def mkSplit (r : Int) (l : List Int) (hp pt : Int) : List Int × Bool :=
  if (inR hp 0 ((l.length : Int) - 1) && canB r (rd l hp) pt) = true then ((l ++ [pt]).set hp.toNat (rd l hp - pt), true) else ([], false)
def goodE (l : List Int) : Prop := ∀ h ∈ l, 1 ≤ h ∧ h ≤ 60
theorem rd_good {l : List Int} (hA : goodE l) {i : Int} (h0 : 0 ≤ i) (h1 : i < l.length) : 1 ≤ rd l i ∧ rd l i ≤ 60 := by
  obtain ⟨n, rfl⟩ := Int.eq_ofNat_of_zero_le h0
  rw [rd_at l n (by omega)]
  exact hA _ (List.getElem_mem _)
theorem canB_bounds {r h p : Int} (hb : canB r h p = true) : 1 ≤ p ∧ 2 * p ≤ h := by
  simp only [canB, Bool.and_eq_true, decide_eq_true_eq] at hb
  exact ⟨hb.1.1.1, hb.1.1.2⟩
theorem mkSplit_good {r : Int} {l : List Int} (hA : goodE l) (hp pt : Int) : goodE (mkSplit r l hp pt).1 := by
  unfold mkSplit
  split
  · rename_i hb
    rw [Bool.and_eq_true, inR_iff] at hb
    obtain ⟨⟨h0, h1⟩, h2⟩ := hb
    have h3 := rd_good hA h0 (by omega)
    have h4 := canB_bounds h2
    intro h hh
    rcases List.mem_or_eq_of_mem_set hh with hm | rfl
    · rcases List.mem_append.1 hm with hm | hm
      · exact hA h hm
      · rw [List.mem_singleton.1 hm]
        omega
    · omega
  · intro h hh
    simp at hh
theorem mkSplit_length {r : Int} {l : List Int} (hp pt : Int) : (mkSplit r l hp pt).1.length ≤ l.length + 1 := by
  unfold mkSplit
  split <;> simp
/-- The first number, from v on, that isn't in a list; so many are looked at. -/
def mexF (s : List Int) : Nat → Int → Int
  | 0, v => v
  | d + 1, v => if s.contains v = true then mexF s d (v + 1) else v
/-- The values of both parts of a heap's splits, by their parts, from a part on. -/
def takenL (r : Int) (out : List Int) (n : Int) : Nat → Int → List Int
  | 0, _ => []
  | d + 1, p => if 2 * p ≤ n then (if canB r n p = true then [Go.bits .xor .i64 (rd out p) (rd out (n - p))] else []) ++ takenL r out n d (p + 1) else []
/-- The values of the heaps with 0, 1, .. stones. -/
def valsL (r : Int) : Nat → List Int
  | 0 => [0]
  | n + 1 => valsL r n ++ [mexF (takenL r (valsL r n) ((n : Int) + 1) 31 1) 32 0]
theorem valsL_length (r : Int) : ∀ n, (valsL r n).length = n + 1
  | 0 => rfl
  | n + 1 => by simp [valsL, valsL_length r n]
theorem takenL_length (r : Int) (out : List Int) (n : Int) : ∀ (d : Nat) (p : Int), (takenL r out n d p).length ≤ d
  | 0, _ => by simp [takenL]
  | d + 1, p => by
    have := takenL_length r out n d (p + 1)
    simp only [takenL]
    split
    · split <;> simp <;> omega
    · simp
theorem free_at : ∀ (m : Nat) (s : List Int) (v : Int), s.length ≤ m → ∃ e : Nat, e ≤ s.length ∧ s.contains (v + e) = false := by
  intro m
  induction m with
  | zero =>
    intro s v h
    obtain rfl : s = [] := List.eq_nil_of_length_eq_zero (by omega)
    exact ⟨0, by simp, by simp⟩
  | succ m ih =>
    intro s v h
    by_cases c : v ∈ s
    · have hl := List.length_erase_of_mem c
      have hp := List.length_pos_of_mem c
      obtain ⟨e, he, hf⟩ := ih (s.erase v) (v + 1) (by omega)
      refine ⟨e + 1, by omega, ?_⟩
      rw [List.contains_eq_mem, decide_eq_false_iff_not] at hf ⊢
      intro hm
      refine hf ?_
      rw [show v + 1 + (e : Int) = v + ((e + 1 : Nat) : Int) by omega]
      exact (List.mem_erase_of_ne (by omega)).2 hm
    · exact ⟨0, by omega, by rw [List.contains_eq_mem]; simpa using c⟩
theorem mexF_bounds (s : List Int) : ∀ (d : Nat) (v : Int), v ≤ mexF s d v ∧ mexF s d v ≤ v + d
  | 0, v => by simp [mexF]
  | d + 1, v => by
    have := mexF_bounds s d (v + 1)
    simp only [mexF]
    split <;> omega
theorem mexF_congr {s t : List Int} (h : ∀ v, s.contains v = t.contains v) : ∀ (d : Nat) (v : Int), mexF s d v = mexF t d v
  | 0, _ => rfl
  | d + 1, v => by simp only [mexF, h v, mexF_congr h d (v + 1)]
theorem valsL_range (r : Int) : ∀ n, ∀ v ∈ valsL r n, 0 ≤ v ∧ v ≤ 32
  | 0 => by simp [valsL]
  | n + 1 => by
    intro v hv
    rcases List.mem_append.1 hv with h | h
    · exact valsL_range r n v h
    · rw [List.mem_singleton.1 h]
      have := mexF_bounds (takenL r (valsL r n) ((n : Int) + 1) 31 1) 32 0
      omega
theorem rd_valsL (r : Int) (h n : Nat) (hh : h ≤ n) : rd (valsL r n) (h : Int) = rd (valsL r h) (h : Int) := by
  induction n with
  | zero =>
    obtain rfl : h = 0 := by omega
    rfl
  | succ n ih =>
    by_cases c : h = n + 1
    · subst c
      rfl
    · rw [← ih (by omega)]
      show rd (valsL r n ++ _) _ = _
      exact rd_append_left _ _ _ (by omega) (by rw [valsL_length]; omega)
theorem rd_vals_range (r : Int) (n : Nat) (i : Int) (h0 : 0 ≤ i) (h1 : i ≤ n) : 0 ≤ rd (valsL r n) i ∧ rd (valsL r n) i ≤ 32 := by
  obtain ⟨m, rfl⟩ := Int.eq_ofNat_of_zero_le h0
  rw [rd_at _ m (by rw [valsL_length]; omega)]
  exact valsL_range r n _ (List.getElem_mem _)
/-- The value of heaps, of which the values are told. -/
def xorV (vs : List Int) : List Int → Int → Int
  | [], z => z
  | h :: t, z => xorV vs t (Go.bits .xor .i64 z (rd vs h))
/-- 'The value behind a split is nought.' -/
def winB (r : Int) (l : List Int) (x : S49) : Bool := xorV (valsL r 60) (mkSplit r l x.f0 x.f1).1 0 == 0
/-- The splits behind which the value is nought. -/
def winL (r : Int) (l : List Int) : List S49 := (splAll r l 0).filter (winB r l)
theorem winL_length (r : Int) (l : List Int) : (winL r l).length ≤ 31 * l.length := Nat.le_trans (List.length_filter_le _ _) (splAll_length r l 0)
theorem impl_sum_l0 (l : List Int) (hl : l.length < 9223372036854775807) : ∀ (d i : Nat) (z : Int), i + d = l.length → (∀ j, i ≤ j → j ≤ l.length → -1000000000 ≤ z + ((l.drop i).take (j - i)).sum ∧ z + ((l.drop i).take (j - i)).sum ≤ 1000000000) → Ev (fun k => impl_sum.l0 k z l (l.length : Int) (i : Int)) (z + (l.drop i).sum) := by
  intro d
  induction d with
  | zero =>
    intro i z hi hb
    have c1 : ¬ (i : Int) < (l.length : Int) := by omega
    refine Ev_add 1 ?_
    simp only [impl_sum.l0, if_neg c1]
    rw [List.drop_of_length_le (by omega), List.sum_nil, Int.add_zero]
    exact Ev.now _
  | succ d ih =>
    intro i z hi hb
    have hlt : i < l.length := by omega
    have c1 : (i : Int) < (l.length : Int) := by omega
    have c2 : 0 ≤ (i : Int) := by omega
    have w1 : wrap64 ((i : Int) + 1) = ((i + 1 : Nat) : Int) := by rw [wrap_id (by omega) (by omega)]; omega
    have h1 := hb (i + 1) (by omega) (by omega)
    rw [show i + 1 - i = 1 by omega, List.drop_eq_getElem_cons hlt] at h1
    simp only [List.take_succ_cons, List.take_zero, List.sum_cons, List.sum_nil, Int.add_zero] at h1
    have w2 : wrap64 (z + l[i]) = z + l[i] := wrap_id (by omega) (by omega)
    refine Ev_add 1 ?_
    simp only [impl_sum.l0, if_pos c1, if_pos c2, rd_at l i hlt, w1, w2]
    rw [List.drop_eq_getElem_cons hlt, List.sum_cons, ← Int.add_assoc]
    refine ih (i + 1) _ (by omega) (fun j h2 h3 => ?_)
    have h4 := hb j (by omega) h3
    rw [List.drop_eq_getElem_cons hlt, show j - i = (j - (i + 1)) + 1 by omega, List.take_succ_cons, List.sum_cons, ← Int.add_assoc] at h4
    exact h4
theorem spec_hpSum_l0 (l : List Int) (hl : l.length < 9223372036854775807) : ∀ (d i : Nat) (z : Int), i + d = l.length → (∀ j, i ≤ j → j ≤ l.length → -1000000000 ≤ z + ((l.drop i).take (j - i)).sum ∧ z + ((l.drop i).take (j - i)).sum ≤ 1000000000) → Ev (fun k => spec_hpSum.l0 k z l (l.length : Int) (i : Int)) (z + (l.drop i).sum) := by
  intro d
  induction d with
  | zero =>
    intro i z hi hb
    have c1 : ¬ (i : Int) < (l.length : Int) := by omega
    refine Ev_add 1 ?_
    simp only [spec_hpSum.l0, if_neg c1]
    rw [List.drop_of_length_le (by omega), List.sum_nil, Int.add_zero]
    exact Ev.now _
  | succ d ih =>
    intro i z hi hb
    have hlt : i < l.length := by omega
    have c1 : (i : Int) < (l.length : Int) := by omega
    have c2 : 0 ≤ (i : Int) := by omega
    have w1 : wrap64 ((i : Int) + 1) = ((i + 1 : Nat) : Int) := by rw [wrap_id (by omega) (by omega)]; omega
    have h1 := hb (i + 1) (by omega) (by omega)
    rw [show i + 1 - i = 1 by omega, List.drop_eq_getElem_cons hlt] at h1
    simp only [List.take_succ_cons, List.take_zero, List.sum_cons, List.sum_nil, Int.add_zero] at h1
    have w2 : wrap64 (z + l[i]) = z + l[i] := wrap_id (by omega) (by omega)
    refine Ev_add 1 ?_
    simp only [spec_hpSum.l0, if_pos c1, if_pos c2, rd_at l i hlt, w1, w2]
    rw [List.drop_eq_getElem_cons hlt, List.sum_cons, ← Int.add_assoc]
    refine ih (i + 1) _ (by omega) (fun j h2 h3 => ?_)
    have h4 := hb j (by omega) h3
    rw [List.drop_eq_getElem_cons hlt, show j - i = (j - (i + 1)) + 1 by omega, List.take_succ_cons, List.sum_cons, ← Int.add_assoc] at h4
    exact h4
theorem sum_range (m : Int) : ∀ l : List Int, (∀ h ∈ l, 1 ≤ h ∧ h ≤ m) → (l.length : Int) ≤ l.sum ∧ l.sum ≤ m * l.length
  | [], _ => by simp
  | h :: t, ha => by
    have h1 := ha h List.mem_cons_self
    have h2 := sum_range m t fun x hx => ha x (List.mem_cons_of_mem _ hx)
    simp only [List.sum_cons, List.length_cons]
    refine ⟨by omega, ?_⟩
    have : m * ((t.length + 1 : Nat) : Int) = m * t.length + m := by rw [Int.natCast_add, Int.mul_add]; simp
    rw [this]
    omega
theorem sum_bounds (l : List Int) (ha : ∀ h ∈ l, 1 ≤ h ∧ h ≤ 60) (hl : l.length ≤ 1000) (i j : Nat) : -1000000000 ≤ 0 + ((l.drop i).take (j - i)).sum ∧ 0 + ((l.drop i).take (j - i)).sum ≤ 1000000000 := by
  have h1 := sum_range 60 ((l.drop i).take (j - i)) fun x hx => ha x (List.mem_of_mem_drop (List.mem_of_mem_take hx))
  have h2 : ((l.drop i).take (j - i)).length ≤ 1000 := by simp; omega
  omega
theorem impl_sum_ev (l : List Int) (ha : ∀ h ∈ l, 1 ≤ h ∧ h ≤ 60) (hl : l.length ≤ 1000) : Ev (fun k => impl_sum.f k l) l.sum := by
  have h := impl_sum_l0 l (by omega) l.length 0 0 (by omega) (fun j _ _ => sum_bounds l ha hl 0 j)
  simpa [impl_sum.f] using h
theorem spec_hpSum_ev (l : List Int) (ha : ∀ h ∈ l, 1 ≤ h ∧ h ≤ 60) (hl : l.length ≤ 1000) : Ev (fun k => spec_hpSum.f k l) l.sum := by
  have h := spec_hpSum_l0 l (by omega) l.length 0 0 (by omega) (fun j _ _ => sum_bounds l ha hl 0 j)
  simpa [spec_hpSum.f] using h
theorem spl_mem (r i h : Int) : ∀ (d : Nat) (p : Int) (s : S49), s ∈ spl r i h d p → s.f0 = i ∧ canB r h s.f1 = true
  | 0, _, s, hs => by simp [spl] at hs
  | d + 1, p, s, hs => by
    simp only [spl] at hs
    split at hs
    · rcases List.mem_append.1 hs with h1 | h1
      · split at h1
        · rename_i hb
          rw [List.mem_singleton.1 h1]
          exact ⟨rfl, hb⟩
        · simp at h1
      · exact spl_mem r i h d (p + 1) s h1
    · simp at hs
theorem splAll_mem (r : Int) : ∀ (l : List Int) (i : Int) (s : S49), s ∈ splAll r l i → ∃ (n : Nat) (h : n < l.length), s.f0 = i + n ∧ canB r l[n] s.f1 = true
  | [], _, s, hs => by simp [splAll] at hs
  | h :: t, i, s, hs => by
    simp only [splAll] at hs
    rcases List.mem_append.1 hs with h1 | h1
    · obtain ⟨h2, h3⟩ := spl_mem r i h 31 1 s h1
      exact ⟨0, by simp, by omega, by simpa using h3⟩
    · obtain ⟨n, hn, h2, h3⟩ := splAll_mem r t (i + 1) s h1
      exact ⟨n + 1, by simp; omega, by omega, by simpa using h3⟩
theorem sum_set (l : List Int) : ∀ (n : Nat) (h : n < l.length) (a : Int), (l.set n a).sum = l.sum - l[n] + a := by
  induction l with
  | nil => intro n h; simp at h
  | cons x t ih =>
    intro n h a
    cases n with
    | zero =>
      simp only [List.set_cons_zero, List.sum_cons, List.getElem_cons_zero]
      omega
    | succ n =>
      simp only [List.set_cons_succ, List.sum_cons, List.getElem_cons_succ]
      rw [ih n (by simpa using h) a]
      omega
theorem mkSplit_all {r : Int} {l : List Int} {s : S49} (hs : s ∈ splAll r l 0) : (mkSplit r l s.f0 s.f1).1.length = l.length + 1 ∧ (mkSplit r l s.f0 s.f1).1.sum = l.sum := by
  obtain ⟨n, hn, h1, h2⟩ := splAll_mem r l 0 s hs
  have e : s.f0 = (n : Int) := by omega
  have hi : inR (n : Int) 0 ((l.length : Int) - 1) = true := inR_iff.mpr ⟨by omega, by omega⟩
  unfold mkSplit
  rw [e, rd_at l n hn, hi, h2]
  simp only [Bool.and_self, if_true, Int.toNat_natCast]
  refine ⟨by simp, ?_⟩
  rw [sum_set _ n (by simp; omega), List.getElem_append_left hn, List.sum_append]
  simp only [List.sum_cons, List.sum_nil]
  omega
/-- The splits of the best play: each the first one that wins, or else the first one. -/
def bestL (r : Int) : Nat → List S49 → List Int → List S49
  | 0, out, _ => out
  | d + 1, out, l => match winL r l ++ splAll r l 0 with
    | [] => out
    | s :: _ => bestL r d (out ++ [s]) (mkSplit r l s.f0 s.f1).1
theorem bestL_length (r : Int) : ∀ (d : Nat) (out : List S49) (l : List Int), (bestL r d out l).length ≤ out.length + d
  | 0, _, _ => Nat.le_refl _
  | d + 1, out, l => by
    simp only [bestL]
    split
    · omega
    · have := bestL_length r d
      refine Nat.le_trans (this _ _) ?_
      simp
      omega
theorem spec_slCan_succ (k : Nat) (r h p : Int) (hh0 : 0 ≤ h) (hh1 : h ≤ 1000) : spec_slCan.f (k + 1) r h p = some (canB r h p) := by
  unfold spec_slCan.f
  have e1 : wrap64 (Int.tdiv h 2) = h / 2 := by rw [Int.tdiv_eq_ediv_of_nonneg hh0]; exact wrap_id (by omega) (by omega)
  simp only [spec_slCan.j0, e1]
  unfold canB
  by_cases c1 : p < 1
  · simp [c1]
    omega
  · by_cases c2 : p > h / 2
    · have c3 : ¬ 2 * p ≤ h := by omega
      simp [c1, c2, c3]
    · have c3 : 2 * p ≤ h := by omega
      have c4 : 1 ≤ p := by omega
      have e2 : wrap64 (2 * p) = 2 * p := wrap_id (by omega) (by omega)
      simp only [e2]
      by_cases c5 : r = 0
      · subst c5
        by_cases c6 : 2 * p = h
        · simp [c1, c2, c3, c4, c6]
        · have c7 : 2 * p < h := by omega
          simp [c1, c2, c3, c4, c6, c7]
      · by_cases c6 : r = 2
        · subst c6
          by_cases c7 : p > 1
          · have c8 : 2 ≤ p := by omega
            simp [c1, c2, c3, c4, c7, c8]
          · have c8 : ¬ 2 ≤ p := by omega
            simp [c1, c2, c3, c4, c7, c8]
        · simp [c1, c2, c3, c4, c5, c6]
theorem slCan_ev (r h p : Int) (hh0 : 0 ≤ h) (hh1 : h ≤ 1000) : Ev (fun k => spec_slCan.f k r h p) (canB r h p) := Ev_add 1 ⟨0, fun k _ => spec_slCan_succ k r h p hh0 hh1⟩
theorem spec_l1In_eq (a lo hi : Int) : spec_l1In.f a lo hi = some (inR a lo hi) := by
  unfold spec_l1In.f inR
  by_cases h : lo ≤ a <;> simp [h]
theorem spec_l1Own_eq (l : List Int) (hl : l.length < 17592186044416) : spec_l1Own.f l = some l := by
  unfold spec_l1Own.f
  simp [hl]
theorem spec_slMake_ev (r : Int) (l : List Int) (hp pt : Int) (hA : goodE l) (hL : l.length ≤ 2000000) : Ev (fun k => spec_slMake.f k r l hp pt) (mkSplit r l hp pt) := by
  have w1 : wrap64 ((l.length : Int) - 1) = (l.length : Int) - 1 := wrap_id (by omega) (by omega)
  unfold spec_slMake.f mkSplit
  simp only [spec_l1In_eq, Option.bind_some, w1]
  cases hb : inR hp 0 ((l.length : Int) - 1) with
  | false =>
    simp only [Bool.false_eq_true, if_false, Bool.false_and]
    exact Ev.now _
  | true =>
    rw [inR_iff] at hb
    have b1 : 0 ≤ hp := hb.1
    have b2 : hp < (l.length : Int) := by omega
    have h3 := rd_good hA b1 b2
    simp only [if_true, if_pos b1, if_pos b2, Bool.true_and]
    refine Ev.bind (slCan_ev r (rd l hp) pt (by omega) (by omega)) ?_
    cases hc : canB r (rd l hp) pt with
    | false =>
      simp only [Bool.false_eq_true, if_false]
      exact Ev.now _
    | true =>
      have h4 := canB_bounds hc
      have c3 : l.length + 1 < 17592186044416 := by omega
      have c4 : hp < ((l ++ [pt]).length : Int) := by simp; omega
      have w2 : wrap64 (rd l hp - pt) = rd l hp - pt := wrap_id (by omega) (by omega)
      simp only [if_true, spec_l1Own_eq l (by omega), Option.bind_some, List.length_singleton, if_pos c3, if_pos c4, rd_append_left l [pt] hp b1 b2, w2]
      exact Ev.now _
theorem spec_l1Has_l0 (x : Int) (l : List Int) (hl : l.length < 9223372036854775807) : ∀ (d k i : Nat), i + d = l.length → d < k → spec_l1Has.l0 k x l (l.length : Int) (i : Int) = some ((l.drop i).contains x) := by
  intro d
  induction d with
  | zero =>
    intro k i h hk
    obtain ⟨k, rfl⟩ : ∃ m, k = m + 1 := ⟨k - 1, by omega⟩
    simp only [spec_l1Has.l0]
    rw [if_neg (by omega), List.drop_of_length_le (by omega)]
    rfl
  | succ d ih =>
    intro k i h hk
    obtain ⟨k, rfl⟩ : ∃ m, k = m + 1 := ⟨k - 1, by omega⟩
    have hil : i < l.length := by omega
    have e : (i : Int) + 1 = ((i + 1 : Nat) : Int) := by omega
    simp only [spec_l1Has.l0]
    rw [if_pos (by omega), if_pos (by omega), if_pos (by omega), rd_at l i hil, List.drop_eq_getElem_cons hil, wrap_id (by omega) (by omega), e, List.contains_cons]
    by_cases c : l[i] = x
    · rw [if_pos c, c]
      simp
    · rw [if_neg c, ih k (i + 1) (by omega) (by omega)]
      have : (x == l[i]) = false := by simpa using fun h => c h.symm
      rw [this, Bool.false_or]
theorem spec_l1Has_ev (l : List Int) (x : Int) (hl : l.length < 9223372036854775807) : Ev (fun k => spec_l1Has.f k l x) (l.contains x) :=
  ⟨l.length + 1, fun k hk => by
    have := spec_l1Has_l0 x l hl l.length k 0 (by omega) (by omega)
    simpa [spec_l1Has.f] using this⟩
theorem slValues_l2 (r most : Int) (out s : List Int) (n : Int) (hn : n ≤ 60) (hn0 : 0 ≤ n) (ho : out.length < 1000) (hs : s.length < 1000) (res : List Int) : ∀ (d : Nat) (v : Int), 0 ≤ v → v + d ≤ 1000 → (∃ e : Nat, e ≤ d ∧ s.contains (v + e) = false) → Ev (fun k => spec_slValues.l0 k r most (out ++ [mexF s d v]) (n + 1)) res → Ev (fun k => spec_slValues.l2 k r most out n s v) res := by
  have w2 : wrap64 (n + 1) = n + 1 := wrap_id (by omega) (by omega)
  have c2 : out.length < 17592186044416 := by omega
  intro d
  induction d with
  | zero =>
    intro v h0 h1 ⟨e, he, hf⟩ hr
    obtain rfl : e = 0 := by omega
    have hf : s.contains v = false := by simpa using hf
    refine Ev_add 1 ?_
    simp only [spec_slValues.l2]
    refine Ev.bind (spec_l1Has_ev s v (by omega)) ?_
    simp only [hf, Bool.false_eq_true, if_false, if_pos c2, w2]
    exact hr
  | succ d ih =>
    intro v h0 h1 ⟨e, he, hf⟩ hr
    have w3 : wrap64 (v + 1) = v + 1 := wrap_id (by omega) (by omega)
    refine Ev_add 1 ?_
    simp only [spec_slValues.l2]
    refine Ev.bind (spec_l1Has_ev s v (by omega)) ?_
    cases hc : s.contains v with
    | true =>
      simp only [mexF, hc, if_true] at hr
      simp only [if_true, w3]
      have e0 : e ≠ 0 := by
        rintro rfl
        rw [show v + ((0 : Nat) : Int) = v by omega, hc] at hf
        cases hf
      exact ih (v + 1) (by omega) (by omega) ⟨e - 1, by omega, by rw [show v + 1 + ((e - 1 : Nat) : Int) = v + (e : Int) by omega]; exact hf⟩ hr
    | false =>
      simp only [mexF, hc, Bool.false_eq_true, if_false] at hr
      simp only [Bool.false_eq_true, if_false, if_pos c2, w2]
      exact hr
theorem slValues_l1 (r most : Int) (out : List Int) (n : Int) (hn : n ≤ 60) (hn0 : 1 ≤ n) (ho : (out.length : Int) = n) (res : List Int) : ∀ (d : Nat) (p : Int) (s : List Int), 1 ≤ p → p + d = 32 → s.length + d ≤ 31 → Ev (fun k => spec_slValues.l0 k r most (out ++ [mexF (s ++ takenL r out n d p) 32 0]) (n + 1)) res → Ev (fun k => spec_slValues.l1 k r most out n s p) res := by
  have fin : ∀ (s : List Int), s.length ≤ 31 → Ev (fun k => spec_slValues.l0 k r most (out ++ [mexF s 32 0]) (n + 1)) res → Ev (fun k => spec_slValues.l2 k r most out n s 0) res := by
    intro s hs hr
    obtain ⟨e, he, hf⟩ := free_at s.length s 0 (Nat.le_refl _)
    exact slValues_l2 r most out s n hn (by omega) (by omega) (by omega) res 32 0 (by omega) (by omega) ⟨e, by omega, hf⟩ hr
  intro d
  induction d with
  | zero =>
    intro p s hp hd hs hr
    have w1 : wrap64 (2 * p) = 2 * p := wrap_id (by omega) (by omega)
    have c1 : ¬ 2 * p ≤ n := by omega
    refine Ev_add 1 ?_
    simp only [spec_slValues.l1, w1, if_neg c1]
    exact fin s (by omega) (by simpa [takenL] using hr)
  | succ d ih =>
    intro p s hp hd hs hr
    have w1 : wrap64 (2 * p) = 2 * p := wrap_id (by omega) (by omega)
    have w3 : wrap64 (p + 1) = p + 1 := wrap_id (by omega) (by omega)
    have w4 : wrap64 (n - p) = n - p := wrap_id (by omega) (by omega)
    by_cases c1 : 2 * p ≤ n
    · have s1 := slCan_ev r n p (by omega) (by omega)
      have b1 : 0 ≤ p := by omega
      have b2 : p < (out.length : Int) := by omega
      have b3 : 0 ≤ n - p := by omega
      have b4 : n - p < (out.length : Int) := by omega
      have b5 : s.length < 17592186044416 := by omega
      simp only [takenL, if_pos c1] at hr
      refine Ev_add 1 ?_
      simp only [spec_slValues.l1, w1, if_pos c1]
      refine Ev.bind s1 ?_
      cases hb : canB r n p with
      | false =>
        simp only [hb, Bool.false_eq_true, if_false] at hr
        simp only [Bool.false_eq_true, if_false, w3]
        exact ih (p + 1) s (by omega) (by omega) (by omega) (by simpa using hr)
      | true =>
        simp only [hb, if_true] at hr
        simp only [if_true, if_pos b1, if_pos b2, w4, if_pos b3, if_pos b4, if_pos b5, w3]
        exact ih (p + 1) _ (by omega) (by omega) (by simp; omega) (by simpa using hr)
    · simp only [takenL, if_neg c1, List.append_nil] at hr
      refine Ev_add 1 ?_
      simp only [spec_slValues.l1, w1, if_neg c1]
      exact fin s (by omega) hr
theorem slValues_l0 (r : Int) (m : Nat) (hm : m ≤ 60) : ∀ (d n : Nat), n + d = m → Ev (fun k => spec_slValues.l0 k r (m : Int) (valsL r n) ((n : Int) + 1)) (valsL r m) := by
  intro d
  induction d with
  | zero =>
    intro n h
    obtain rfl : n = m := by omega
    have c1 : ¬ (n : Int) + 1 ≤ (n : Int) := by omega
    refine Ev_add 1 ?_
    simp only [spec_slValues.l0, if_neg c1]
    exact Ev.now _
  | succ d ih =>
    intro n h
    have c1 : (n : Int) + 1 ≤ (m : Int) := by omega
    refine Ev_add 1 ?_
    simp only [spec_slValues.l0, if_pos c1]
    refine slValues_l1 r m (valsL r n) ((n : Int) + 1) (by omega) (by omega) (by rw [valsL_length]; omega) _ 31 1 [] (by omega) (by omega) (by simp) ?_
    have := ih (n + 1) (by omega)
    simpa [valsL] using this
theorem slValues_ev (r : Int) (m : Int) (h0 : 0 ≤ m) (h1 : m ≤ 60) : Ev (fun k => spec_slValues.f k r m) (valsL r m.toNat) := by
  have h := slValues_l0 r m.toNat (by omega) m.toNat 0 (by omega)
  rw [Int.toNat_of_nonneg h0] at h
  simpa [spec_slValues.f, valsL] using h
theorem spec_slValue_l0 (vs l : List Int) (hv : vs.length = 61) (hA : goodE l) (hL : l.length ≤ 2000000) : ∀ (d i : Nat) (z : Int), i + d = l.length → Ev (fun k => spec_slValue.l0 k vs z l (l.length : Int) (i : Int)) (xorV vs (l.drop i) z) := by
  intro d
  induction d with
  | zero =>
    intro i z hi
    have c1 : ¬ (i : Int) < (l.length : Int) := by omega
    refine Ev_add 1 ?_
    simp only [spec_slValue.l0, if_neg c1]
    rw [List.drop_of_length_le (by omega)]
    exact Ev.now _
  | succ d ih =>
    intro i z hi
    have hlt : i < l.length := by omega
    have c1 : (i : Int) < (l.length : Int) := by omega
    have c2 : 0 ≤ (i : Int) := by omega
    have hg := hA l[i] (List.getElem_mem hlt)
    have c3 : 0 ≤ l[i] := by omega
    have c4 : l[i] < (vs.length : Int) := by omega
    have w1 : wrap64 ((i : Int) + 1) = ((i + 1 : Nat) : Int) := by rw [wrap_id (by omega) (by omega)]; omega
    refine Ev_add 1 ?_
    simp only [spec_slValue.l0, if_pos c1, if_pos c2, rd_at l i hlt, if_pos c3, if_pos c4, w1]
    rw [List.drop_eq_getElem_cons hlt]
    exact ih (i + 1) _ (by omega)
theorem spec_slValue_ev (r : Int) (l : List Int) (hA : goodE l) (hL : l.length ≤ 2000000) : Ev (fun k => spec_slValue.f k r l) (xorV (valsL r 60) l 0) := by
  unfold spec_slValue.f
  refine Ev.bind (slValues_ev r 60 (by omega) (by omega)) ?_
  have h := spec_slValue_l0 (valsL r 60) l (by rw [valsL_length]) hA hL l.length 0 0 (by omega)
  simpa using h
theorem spec_slAll_l1 (r : Int) (heaps : List Int) (h i : Int) (hh0 : 1 ≤ h) (hh1 : h ≤ 60) (hi0 : 0 ≤ i) (hi1 : i ≤ 1000000) (v : List S49) : ∀ (d : Nat) (p : Int) (out : List S49), 1 ≤ p → p + d = 32 → out.length + d < 1000000000 → Ev (fun k => spec_slAll.l0 k r (out ++ spl r i h d p) heaps (heaps.length : Int) (i + 1)) v → Ev (fun k => spec_slAll.l1 k r out i h p heaps (heaps.length : Int) i) v := by
  intro d
  induction d with
  | zero =>
    intro p out hp hd ho hv
    have w1 : wrap64 (2 * p) = 2 * p := wrap_id (by omega) (by omega)
    have w2 : wrap64 (i + 1) = i + 1 := wrap_id (by omega) (by omega)
    have c1 : ¬ 2 * p ≤ h := by omega
    refine Ev_add 1 ?_
    simp only [spec_slAll.l1, w1, if_neg c1, w2]
    simpa [spl] using hv
  | succ d ih =>
    intro p out hp hd ho hv
    have w1 : wrap64 (2 * p) = 2 * p := wrap_id (by omega) (by omega)
    have w2 : wrap64 (i + 1) = i + 1 := wrap_id (by omega) (by omega)
    have w3 : wrap64 (p + 1) = p + 1 := wrap_id (by omega) (by omega)
    have c2 : out.length < 8796093022208 := by omega
    by_cases c1 : 2 * p ≤ h
    · have s1 := slCan_ev r h p (by omega) (by omega)
      simp only [spl, if_pos c1] at hv
      refine Ev_add 1 ?_
      simp only [spec_slAll.l1, w1, if_pos c1]
      cases hb : canB r h p with
      | false =>
        rw [hb] at s1 hv
        refine Ev.bind s1 ?_
        simp only [Bool.false_eq_true, if_false, w3]
        exact ih (p + 1) out (by omega) (by omega) (by omega) (by simpa using hv)
      | true =>
        rw [hb] at s1 hv
        refine Ev.bind s1 ?_
        simp only [if_true, if_pos c2, w3]
        exact ih (p + 1) (out ++ [(⟨i, p⟩ : S49)]) (by omega) (by omega) (by simp; omega) (by simpa using hv)
    · simp only [spl, if_neg c1, List.append_nil] at hv
      refine Ev_add 1 ?_
      simp only [spec_slAll.l1, w1, if_neg c1, w2]
      exact hv
theorem spec_slAll_l0 (r : Int) (heaps : List Int) (hA : ∀ h ∈ heaps, 1 ≤ h ∧ h ≤ 60) (hL : heaps.length ≤ 1000000) : ∀ (d i : Nat) (out : List S49), i + d = heaps.length → out.length + 32 * d < 1000000000 → Ev (fun k => spec_slAll.l0 k r out heaps (heaps.length : Int) (i : Int)) (out ++ splAll r (heaps.drop i) (i : Int)) := by
  intro d
  induction d with
  | zero =>
    intro i out hi ho
    have c1 : ¬ (i : Int) < (heaps.length : Int) := by omega
    refine Ev_add 1 ?_
    simp only [spec_slAll.l0, if_neg c1]
    rw [List.drop_of_length_le (by omega)]
    simp only [splAll, List.append_nil]
    exact Ev.now _
  | succ d ih =>
    intro i out hi ho
    have hlt : i < heaps.length := by omega
    have c1 : (i : Int) < (heaps.length : Int) := by omega
    have c2 : 0 ≤ (i : Int) := by omega
    have hm := hA heaps[i] (List.getElem_mem hlt)
    refine Ev_add 1 ?_
    simp only [spec_slAll.l0, if_pos c1, if_pos c2, rd_at heaps i hlt]
    rw [List.drop_eq_getElem_cons hlt]
    simp only [splAll]
    have h1 := spl_length r i heaps[i] 31 1
    refine spec_slAll_l1 r heaps heaps[i] i hm.1 hm.2 c2 (by omega) _ 31 1 out (by omega) (by omega) (by omega) ?_
    have h2 := ih (i + 1) (out ++ spl r i heaps[i] 31 1) (by omega) (by simp only [List.length_append]; omega)
    rw [List.append_assoc] at h2
    simpa using h2
theorem spec_slAll_ev (r : Int) (heaps : List Int) (hA : ∀ h ∈ heaps, 1 ≤ h ∧ h ≤ 60) (hL : heaps.length ≤ 1000000) : Ev (fun k => spec_slAll.f k r heaps) (splAll r heaps 0) := by
  have h := spec_slAll_l0 r heaps hA hL heaps.length 0 [] (by omega) (by simp; omega)
  unfold spec_slAll.f
  simpa using h
theorem rdSplit_at (l : List S49) (i : Nat) (h : i < l.length) : rd_T49 l (i : Int) = l[i] := by
  unfold rd_T49
  rw [Int.toNat_natCast, List.getD_eq_getElem?_getD, List.getElem?_eq_getElem h]
  rfl
theorem spec_slWinning_l0 (r : Int) (l : List Int) (hA : goodE l) (hL : l.length ≤ 1000000) (t : List S49) (ht : t.length ≤ 100000000) : ∀ (d i : Nat) (out : List S49), i + d = t.length → out.length ≤ i → Ev (fun k => spec_slWinning.l0 k r l out t (t.length : Int) (i : Int)) (out ++ (t.drop i).filter (winB r l)) := by
  intro d
  induction d with
  | zero =>
    intro i out hi ho
    have c1 : ¬ (i : Int) < (t.length : Int) := by omega
    refine Ev_add 1 ?_
    simp only [spec_slWinning.l0, if_neg c1]
    rw [List.drop_of_length_le (by omega)]
    simp only [List.filter_nil, List.append_nil]
    exact Ev.now _
  | succ d ih =>
    intro i out hi ho
    have hlt : i < t.length := by omega
    have c1 : (i : Int) < (t.length : Int) := by omega
    have c2 : 0 ≤ (i : Int) := by omega
    have c3 : out.length < 8796093022208 := by omega
    have w1 : wrap64 ((i : Int) + 1) = ((i + 1 : Nat) : Int) := by rw [wrap_id (by omega) (by omega)]; omega
    have hg := mkSplit_good (r := r) hA t[i].f0 t[i].f1
    have hn := mkSplit_length (r := r) (l := l) t[i].f0 t[i].f1
    refine Ev_add 1 ?_
    simp only [spec_slWinning.l0, if_pos c1, if_pos c2, rdSplit_at t i hlt, w1]
    refine Ev.bind (spec_slMake_ev r l _ _ hA (by omega)) ?_
    refine Ev.bind (spec_slValue_ev r _ hg (by omega)) ?_
    rw [List.drop_eq_getElem_cons hlt, List.filter_cons]
    by_cases hb : xorV (valsL r 60) (mkSplit r l t[i].f0 t[i].f1).1 0 = 0
    · have hw : winB r l t[i] = true := beq_iff_eq.mpr hb
      simp only [if_pos hb, if_pos c3, hw, if_true]
      have := ih (i + 1) (out ++ [t[i]]) (by omega) (by simp; omega)
      simpa using this
    · have hw : winB r l t[i] = false := beq_eq_false_iff_ne.mpr hb
      simp only [if_neg hb, hw, Bool.false_eq_true, if_false]
      exact ih (i + 1) out (by omega) (by omega)
theorem spec_slWinning_ev (r : Int) (l : List Int) (hA : goodE l) (hL : l.length ≤ 1000000) : Ev (fun k => spec_slWinning.f k r l) (winL r l) := by
  unfold spec_slWinning.f
  refine Ev.bind (spec_slAll_ev r l hA hL) ?_
  have hn := splAll_length r l 0
  have h := spec_slWinning_l0 r l hA hL (splAll r l 0) (by omega) (splAll r l 0).length 0 [] (by omega) (by simp)
  simpa [winL] using h
theorem impl_within_eq (a lo hi : Int) : impl_within.f a lo hi = some (inR a lo hi) := by
  unfold impl_within.f inR
  by_cases h : lo ≤ a <;> simp [h]
theorem impl_canSplit_eq (r h p : Int) (hh0 : 1 ≤ h) (hh1 : h ≤ 1000) : impl_canSplit.f r h p = some (canB r h p) := by
  unfold impl_canSplit.f
  simp only [impl_within_eq, Option.bind_some]
  have e1 : wrap64 (Int.tdiv h 2) = h / 2 := by rw [Int.tdiv_eq_ediv_of_nonneg (by omega)]; exact wrap_id (by omega) (by omega)
  by_cases c5 : r = 0
  · subst c5
    rw [if_pos rfl]
    congr 1
    rw [Bool.eq_iff_iff, inR_iff]
    have e2 : wrap64 (Int.tdiv (wrap64 (h - 1)) 2) = (h - 1) / 2 := by
      rw [wrap_id (x := h - 1) (by omega) (by omega), Int.tdiv_eq_ediv_of_nonneg (by omega)]; exact wrap_id (by omega) (by omega)
    rw [e2]
    simp [canB]
    omega
  · by_cases c6 : r = 2
    · subst c6
      simp only [if_neg c5, if_true, e1]
      congr 1
      rw [Bool.eq_iff_iff, inR_iff]
      simp [canB]
      omega
    · simp only [if_neg c5, if_neg c6, e1]
      congr 1
      rw [Bool.eq_iff_iff, inR_iff]
      simp [canB, c5, c6]
      omega
theorem slices_Clone_int_eq (l : List Int) (hl : l.length < 17592186044416) : slices_Clone_int_int.f l = some l := by
  unfold slices_Clone_int_int.f
  rw [if_pos hl]
theorem impl_makeSplit_eq (r : Int) (l : List Int) (hp pt : Int) (hA : goodE l) (hL : l.length ≤ 2000000) : impl_makeSplit.f r l hp pt = some (mkSplit r l hp pt) := by
  have w1 : wrap64 ((l.length : Int) - 1) = (l.length : Int) - 1 := wrap_id (by omega) (by omega)
  unfold impl_makeSplit.f mkSplit
  simp only [impl_within_eq, Option.bind_some, w1]
  cases hb : inR hp 0 ((l.length : Int) - 1) with
  | false => simp only [Bool.false_eq_true, if_false, Bool.false_and]
  | true =>
    rw [inR_iff] at hb
    have b1 : 0 ≤ hp := hb.1
    have b2 : hp < (l.length : Int) := by omega
    have h3 := rd_good hA b1 b2
    simp only [if_true, if_pos b1, if_pos b2, Bool.true_and, impl_canSplit_eq r (rd l hp) pt (by omega) (by omega), Option.bind_some]
    cases hc : canB r (rd l hp) pt with
    | false => simp only [Bool.false_eq_true, if_false]
    | true =>
      have h4 := canB_bounds hc
      have c3 : l.length + 1 < 17592186044416 := by omega
      have c4 : hp < ((l ++ [pt]).length : Int) := by simp; omega
      have w2 : wrap64 (rd l hp - pt) = rd l hp - pt := wrap_id (by omega) (by omega)
      simp only [if_true, slices_Clone_int_eq l (by omega), Option.bind_some, List.length_singleton, if_pos c3, if_pos c4, rd_append_left l [pt] hp b1 b2, w2]
theorem impl_valueOf_l0 (vs l : List Int) (hv : vs.length = 61) (hA : goodE l) (hL : l.length ≤ 2000000) : ∀ (d i : Nat) (z : Int), i + d = l.length → Ev (fun k => impl_valueOf.l0 k vs z l (l.length : Int) (i : Int)) (xorV vs (l.drop i) z) := by
  intro d
  induction d with
  | zero =>
    intro i z hi
    have c1 : ¬ (i : Int) < (l.length : Int) := by omega
    refine Ev_add 1 ?_
    simp only [impl_valueOf.l0, if_neg c1]
    rw [List.drop_of_length_le (by omega)]
    exact Ev.now _
  | succ d ih =>
    intro i z hi
    have hlt : i < l.length := by omega
    have c1 : (i : Int) < (l.length : Int) := by omega
    have c2 : 0 ≤ (i : Int) := by omega
    have hg := hA l[i] (List.getElem_mem hlt)
    have c3 : 0 ≤ l[i] := by omega
    have c4 : l[i] < (vs.length : Int) := by omega
    have w1 : wrap64 ((i : Int) + 1) = ((i + 1 : Nat) : Int) := by rw [wrap_id (by omega) (by omega)]; omega
    refine Ev_add 1 ?_
    simp only [impl_valueOf.l0, if_pos c1, if_pos c2, rd_at l i hlt, if_pos c3, if_pos c4, w1]
    rw [List.drop_eq_getElem_cons hlt]
    exact ih (i + 1) _ (by omega)
theorem impl_valueOf_ev (vs l : List Int) (hv : vs.length = 61) (hA : goodE l) (hL : l.length ≤ 2000000) : Ev (fun k => impl_valueOf.f k vs l) (xorV vs l 0) := by
  have h := impl_valueOf_l0 vs l hv hA hL l.length 0 0 (by omega)
  simpa [impl_valueOf.f] using h
theorem impl_splitsOf_l1 (r : Int) (heaps : List Int) (h i : Int) (hh0 : 1 ≤ h) (hh1 : h ≤ 60) (hi0 : 0 ≤ i) (hi1 : i ≤ 1000000) (v : List S49) : ∀ (d : Nat) (p : Int) (out : List S49), 1 ≤ p → p + d = 32 → out.length + d < 1000000000 → Ev (fun k => impl_splitsOf.l0 k r (out ++ spl r i h d p) heaps (heaps.length : Int) (i + 1)) v → Ev (fun k => impl_splitsOf.l1 k r out i h p heaps (heaps.length : Int) i) v := by
  intro d
  induction d with
  | zero =>
    intro p out hp hd ho hv
    have w1 : wrap64 (2 * p) = 2 * p := wrap_id (by omega) (by omega)
    have w2 : wrap64 (i + 1) = i + 1 := wrap_id (by omega) (by omega)
    have c1 : ¬ 2 * p ≤ h := by omega
    refine Ev_add 1 ?_
    simp only [impl_splitsOf.l1, w1, if_neg c1, w2]
    simpa [spl] using hv
  | succ d ih =>
    intro p out hp hd ho hv
    have w1 : wrap64 (2 * p) = 2 * p := wrap_id (by omega) (by omega)
    have w2 : wrap64 (i + 1) = i + 1 := wrap_id (by omega) (by omega)
    have w3 : wrap64 (p + 1) = p + 1 := wrap_id (by omega) (by omega)
    have c2 : out.length < 8796093022208 := by omega
    by_cases c1 : 2 * p ≤ h
    · have s1 := impl_canSplit_eq r h p (by omega) (by omega)
      simp only [spl, if_pos c1] at hv
      refine Ev_add 1 ?_
      simp only [impl_splitsOf.l1, w1, if_pos c1]
      cases hb : canB r h p with
      | false =>
        rw [hb] at s1 hv
        simp only [s1, Option.bind_some, Bool.false_eq_true, if_false, w3]
        exact ih (p + 1) out (by omega) (by omega) (by omega) (by simpa using hv)
      | true =>
        rw [hb] at s1 hv
        simp only [s1, Option.bind_some, if_true, if_pos c2, w3]
        exact ih (p + 1) (out ++ [(⟨i, p⟩ : S49)]) (by omega) (by omega) (by simp; omega) (by simpa using hv)
    · simp only [spl, if_neg c1, List.append_nil] at hv
      refine Ev_add 1 ?_
      simp only [impl_splitsOf.l1, w1, if_neg c1, w2]
      exact hv
theorem impl_splitsOf_l0 (r : Int) (heaps : List Int) (hA : ∀ h ∈ heaps, 1 ≤ h ∧ h ≤ 60) (hL : heaps.length ≤ 1000000) : ∀ (d i : Nat) (out : List S49), i + d = heaps.length → out.length + 32 * d < 1000000000 → Ev (fun k => impl_splitsOf.l0 k r out heaps (heaps.length : Int) (i : Int)) (out ++ splAll r (heaps.drop i) (i : Int)) := by
  intro d
  induction d with
  | zero =>
    intro i out hi ho
    have c1 : ¬ (i : Int) < (heaps.length : Int) := by omega
    refine Ev_add 1 ?_
    simp only [impl_splitsOf.l0, if_neg c1]
    rw [List.drop_of_length_le (by omega)]
    simp only [splAll, List.append_nil]
    exact Ev.now _
  | succ d ih =>
    intro i out hi ho
    have hlt : i < heaps.length := by omega
    have c1 : (i : Int) < (heaps.length : Int) := by omega
    have c2 : 0 ≤ (i : Int) := by omega
    have hm := hA heaps[i] (List.getElem_mem hlt)
    refine Ev_add 1 ?_
    simp only [impl_splitsOf.l0, if_pos c1, if_pos c2, rd_at heaps i hlt]
    rw [List.drop_eq_getElem_cons hlt]
    simp only [splAll]
    have h1 := spl_length r i heaps[i] 31 1
    refine impl_splitsOf_l1 r heaps heaps[i] i hm.1 hm.2 c2 (by omega) _ 31 1 out (by omega) (by omega) (by omega) ?_
    have h2 := ih (i + 1) (out ++ spl r i heaps[i] 31 1) (by omega) (by simp only [List.length_append]; omega)
    rw [List.append_assoc] at h2
    simpa using h2
theorem impl_splitsOf_ev (r : Int) (heaps : List Int) (hA : ∀ h ∈ heaps, 1 ≤ h ∧ h ≤ 60) (hL : heaps.length ≤ 1000000) : Ev (fun k => impl_splitsOf.f k r heaps) (splAll r heaps 0) := by
  have h := impl_splitsOf_l0 r heaps hA hL heaps.length 0 [] (by omega) (by simp; omega)
  unfold impl_splitsOf.f
  simpa using h
theorem keepO_ev {α : Type} (p : Nat → α → Option Bool) (q : α → Bool) : ∀ l : List α, (∀ x, x ∈ l → Ev (fun k => p k x) (q x)) → Ev (fun k => keepO (p k) l) (l.filter fun x => !q x)
  | [], _ => Ev.now _
  | x :: t, h => by
    simp only [keepO]
    refine Ev.bind (h x List.mem_cons_self) ?_
    refine Ev.bind (keepO_ev p q t fun y hy => h y (List.mem_cons_of_mem _ hy)) ?_
    rw [List.filter_cons]
    cases q x with
    | true => exact Ev.now _
    | false => exact Ev.now _
theorem impl_winningSplits_ev (r : Int) (l : List Int) (hA : goodE l) (hL : l.length ≤ 1000000) : Ev (fun k => impl_winningSplits.f k r l (valsL r 60)) (winL r l) := by
  unfold impl_winningSplits.f
  refine Ev.bind (impl_splitsOf_ev r l hA hL) ?_
  have h := keepO_ev (fun k => impl_winningSplits_1.f k r l (valsL r 60)) (fun x => !winB r l x) (splAll r l 0) (fun x _ => ?_)
  · simpa [winL] using h
  · unfold impl_winningSplits_1.f
    have hg := mkSplit_good (r := r) hA x.f0 x.f1
    have hn := mkSplit_length (r := r) (l := l) x.f0 x.f1
    simp only [impl_makeSplit_eq r l _ _ hA (by omega), Option.bind_some]
    refine Ev.bind (impl_valueOf_ev (valsL r 60) _ (by rw [valsL_length]) hg (by omega)) ?_
    exact Ev.now _
theorem spec_slRule_eq (r : Int) : spec_slRule.f r = some (inR r 0 2) := by
  unfold spec_slRule.f
  rw [spec_l1In_eq]
  rfl
def goodH (l : List Int) : Bool := inR (l.length : Int) 1 8 && l.all fun x => inR x 1 60
theorem goodH_iff {l : List Int} : goodH l = true ↔ (1 ≤ l.length ∧ l.length ≤ 8) ∧ ∀ h ∈ l, 1 ≤ h ∧ h ≤ 60 := by
  unfold goodH
  rw [Bool.and_eq_true, inR_iff, List.all_eq_true]
  simp only [inR_iff]
  constructor
  · rintro ⟨h1, h2⟩
    exact ⟨by omega, h2⟩
  · rintro ⟨h1, h2⟩
    exact ⟨by omega, h2⟩
theorem spec_l1All_l0 (lo hi : Int) (l : List Int) (hl : l.length < 9223372036854775807) : ∀ (d k i : Nat), i + d = l.length → d < k → spec_l1All.l0 k lo hi l (l.length : Int) (i : Int) = some ((l.drop i).all fun x => inR x lo hi) := by
  intro d
  induction d with
  | zero =>
    intro k i h hk
    obtain ⟨k, rfl⟩ : ∃ m, k = m + 1 := ⟨k - 1, by omega⟩
    simp only [spec_l1All.l0]
    rw [if_neg (by omega), List.drop_of_length_le (by omega)]
    rfl
  | succ d ih =>
    intro k i h hk
    obtain ⟨k, rfl⟩ : ∃ m, k = m + 1 := ⟨k - 1, by omega⟩
    have hil : i < l.length := by omega
    have e : (i : Int) + 1 = ((i + 1 : Nat) : Int) := by omega
    simp only [spec_l1All.l0]
    rw [if_pos (by omega), if_pos (by omega), if_pos (by omega), spec_l1In_eq, rd_at l i hil, List.drop_eq_getElem_cons hil, List.all_cons, wrap_id (by omega) (by omega), e]
    simp only [Option.bind_some]
    cases hb : inR l[i] lo hi with
    | true => simpa using ih k (i + 1) (by omega) (by omega)
    | false => simp
theorem spec_l1All_ev (l : List Int) (lo hi : Int) (hl : l.length < 9223372036854775807) : Ev (fun k => spec_l1All.f k l lo hi) (l.all fun x => inR x lo hi) :=
  ⟨l.length + 1, fun k hk => by
    have := spec_l1All_l0 lo hi l hl l.length k 0 (by omega) (by omega)
    simpa [spec_l1All.f] using this⟩
theorem spec_slGood_ev (l : List Int) (hl : l.length < 9223372036854775807) : Ev (fun k => spec_slGood.f k l) (goodH l) := by
  unfold spec_slGood.f goodH
  simp only [spec_l1In_eq, Option.bind_some]
  cases hb : inR (l.length : Int) 1 8 with
  | false =>
    simp only [Bool.false_eq_true, if_false, Bool.false_and]
    exact Ev.now _
  | true =>
    simp only [if_true, Bool.true_and]
    refine Ev.bind (spec_l1All_ev l 1 60 hl) ?_
    exact Ev.now _
theorem spec_slAsked_ev (r : Int) (l : List Int) (hl : l.length < 9223372036854775807) : Ev (fun k => spec_slAsked.f k r l) (inR r 0 2 && goodH l) := by
  unfold spec_slAsked.f
  simp only [spec_slRule_eq, Option.bind_some]
  cases hb : inR r 0 2 with
  | false =>
    simp only [Bool.false_eq_true, if_false, Bool.false_and]
    exact Ev.now _
  | true =>
    simp only [if_true, Bool.true_and]
    refine Ev.bind (spec_slGood_ev l hl) ?_
    exact Ev.now _
theorem impl_isRule_eq (r : Int) : impl_isRule.f r = some (inR r 0 2) := by
  unfold impl_isRule.f
  rw [impl_within_eq]
  rfl
theorem impl_areIn_eq (l : List Int) (lo hi : Int) : impl_areIn.f l lo hi = some (l.all fun x => inR x lo hi) := by
  unfold impl_areIn.f
  simp only [impl_within_eq, Option.bind_some]
  rw [anyO_some]
  simp only [Option.bind_some]
  congr 1
  induction l with
  | nil => rfl
  | cons x xs ih => simp only [List.any_cons, List.all_cons, Bool.not_or, Bool.not_not, ih]
theorem impl_AreSplitHeaps_eq (l : List Int) : impl_AreSplitHeaps.f l = some (goodH l) := by
  unfold impl_AreSplitHeaps.f goodH
  simp only [impl_within_eq, impl_areIn_eq, Option.bind_some]
  cases inR (l.length : Int) 1 8 <;> rfl
theorem impl_isSplitRule_eq (r : Int) (l : List Int) : impl_isSplitRule.f r l = some (inR r 0 2 && goodH l) := by
  unfold impl_isSplitRule.f
  simp only [impl_isRule_eq, impl_AreSplitHeaps_eq, Option.bind_some]
  cases inR r 0 2 <;> rfl
theorem splitValues_l2 (r most : Int) (out s : List Int) (n : Int) (hn : n ≤ 60) (hn0 : 0 ≤ n) (ho : out.length < 1000) (res : List Int) : ∀ (d : Nat) (v : Int), 0 ≤ v → v + d ≤ 1000 → (∃ e : Nat, e ≤ d ∧ s.contains (v + e) = false) → Ev (fun k => impl_splitValues.l0 k r most (out ++ [mexF s d v]) (n + 1)) res → Ev (fun k => impl_splitValues.l2 k r most out n s v) res := by
  have w2 : wrap64 (n + 1) = n + 1 := wrap_id (by omega) (by omega)
  have c2 : out.length < 17592186044416 := by omega
  intro d
  induction d with
  | zero =>
    intro v h0 h1 ⟨e, he, hf⟩ hr
    obtain rfl : e = 0 := by omega
    have hf : s.contains v = false := by simpa using hf
    refine Ev_add 1 ?_
    simp only [impl_splitValues.l2, hf, Bool.false_eq_true, if_false, if_pos c2, w2]
    exact hr
  | succ d ih =>
    intro v h0 h1 ⟨e, he, hf⟩ hr
    have w3 : wrap64 (v + 1) = v + 1 := wrap_id (by omega) (by omega)
    refine Ev_add 1 ?_
    cases hc : s.contains v with
    | true =>
      simp only [mexF, hc, if_true] at hr
      simp only [impl_splitValues.l2, hc, if_true, w3]
      have e0 : e ≠ 0 := by
        rintro rfl
        rw [show v + ((0 : Nat) : Int) = v by omega, hc] at hf
        cases hf
      exact ih (v + 1) (by omega) (by omega) ⟨e - 1, by omega, by rw [show v + 1 + ((e - 1 : Nat) : Int) = v + (e : Int) by omega]; exact hf⟩ hr
    | false =>
      simp only [mexF, hc, Bool.false_eq_true, if_false] at hr
      simp only [impl_splitValues.l2, hc, Bool.false_eq_true, if_false, if_pos c2, w2]
      exact hr
theorem splitValues_l1 (r most : Int) (out : List Int) (n : Int) (hn : n ≤ 60) (hn0 : 1 ≤ n) (ho : (out.length : Int) = n) (res : List Int) : ∀ (d : Nat) (p : Int) (s t : List Int), 1 ≤ p → p + d = 32 → s.length + d ≤ 31 → (∀ v, s.contains v = t.contains v) → Ev (fun k => impl_splitValues.l0 k r most (out ++ [mexF (t ++ takenL r out n d p) 32 0]) (n + 1)) res → Ev (fun k => impl_splitValues.l1 k r most out n s p) res := by
  have fin : ∀ (s t : List Int), s.length ≤ 31 → (∀ v, s.contains v = t.contains v) → Ev (fun k => impl_splitValues.l0 k r most (out ++ [mexF t 32 0]) (n + 1)) res → Ev (fun k => impl_splitValues.l2 k r most out n s 0) res := by
    intro s t hs hst hr
    obtain ⟨e, he, hf⟩ := free_at s.length s 0 (Nat.le_refl _)
    rw [← mexF_congr hst] at hr
    exact splitValues_l2 r most out s n hn (by omega) (by omega) res 32 0 (by omega) (by omega) ⟨e, by omega, hf⟩ hr
  intro d
  induction d with
  | zero =>
    intro p s t hp hd hs hst hr
    have w1 : wrap64 (2 * p) = 2 * p := wrap_id (by omega) (by omega)
    have c1 : ¬ 2 * p ≤ n := by omega
    refine Ev_add 1 ?_
    simp only [impl_splitValues.l1, w1, if_neg c1]
    exact fin s t (by omega) hst (by simpa [takenL] using hr)
  | succ d ih =>
    intro p s t hp hd hs hst hr
    have w1 : wrap64 (2 * p) = 2 * p := wrap_id (by omega) (by omega)
    have w3 : wrap64 (p + 1) = p + 1 := wrap_id (by omega) (by omega)
    have w4 : wrap64 (n - p) = n - p := wrap_id (by omega) (by omega)
    by_cases c1 : 2 * p ≤ n
    · have s1 := impl_canSplit_eq r n p (by omega) (by omega)
      have b : 0 ≤ p ∧ p < (out.length : Int) ∧ 0 ≤ n - p ∧ n - p < (out.length : Int) ∧ s.length < 1000000 := by omega
      simp only [takenL, if_pos c1] at hr
      refine Ev_add 1 ?_
      simp only [impl_splitValues.l1, w1, if_pos c1, s1, Option.bind_some]
      cases hb : canB r n p with
      | false =>
        simp only [hb, Bool.false_eq_true, if_false] at hr
        simp only [Bool.false_eq_true, if_false, w3]
        exact ih (p + 1) s t (by omega) (by omega) (by omega) hst (by simpa using hr)
      | true =>
        simp only [hb, if_true] at hr
        simp only [if_true, w4, if_pos b, w3]
        refine ih (p + 1) _ (t ++ [Go.bits .xor .i64 (rd out p) (rd out (n - p))]) (by omega) (by omega) (by simp; omega) (fun v => ?_) (by simpa using hr)
        rw [Bool.eq_iff_iff]
        have := hst v
        rw [Bool.eq_iff_iff] at this
        simp only [List.contains_eq_mem, decide_eq_true_eq] at this
        simp only [List.contains_eq_mem, decide_eq_true_eq, List.mem_cons, List.mem_append, this]
        simp
        exact Or.comm
    · simp only [takenL, if_neg c1, List.append_nil] at hr
      refine Ev_add 1 ?_
      simp only [impl_splitValues.l1, w1, if_neg c1]
      exact fin s t (by omega) hst hr
theorem splitValues_l0 (r : Int) (m : Nat) (hm : m ≤ 60) : ∀ (d n : Nat), n + d = m → Ev (fun k => impl_splitValues.l0 k r (m : Int) (valsL r n) ((n : Int) + 1)) (valsL r m) := by
  intro d
  induction d with
  | zero =>
    intro n h
    obtain rfl : n = m := by omega
    have c1 : ¬ (n : Int) + 1 ≤ (n : Int) := by omega
    refine Ev_add 1 ?_
    simp only [impl_splitValues.l0, if_neg c1]
    exact Ev.now _
  | succ d ih =>
    intro n h
    have c1 : (n : Int) + 1 ≤ (m : Int) := by omega
    refine Ev_add 1 ?_
    simp only [impl_splitValues.l0, if_pos c1]
    refine splitValues_l1 r m (valsL r n) ((n : Int) + 1) (by omega) (by omega) (by rw [valsL_length]; omega) _ 31 1 [] [] (by omega) (by omega) (by simp) (fun v => rfl) ?_
    have := ih (n + 1) (by omega)
    simpa [valsL] using this
theorem splitValues_ev (r : Int) (m : Int) (h0 : 0 ≤ m) (h1 : m ≤ 60) : Ev (fun k => impl_splitValues.f k r m) (valsL r m.toNat) := by
  have h := splitValues_l0 r m.toNat (by omega) m.toNat 0 (by omega)
  rw [Int.toNat_of_nonneg h0] at h
  simpa [impl_splitValues.f, valsL] using h
theorem spec_BestPlay_l0 (r : Int) : ∀ (d : Nat) (out : List S49) (l : List Int), goodE l → l.sum ≤ l.length + d → l.length + d ≤ 1000 → out.length + d ≤ 1000 → Ev (fun k => spec_BestPlay.l0 k r out l) (bestL r (d + 1) out l, true) := by
  intro d
  induction d with
  | zero =>
    intro out l hA hs hL ho
    have hall : splAll r l 0 = [] := by
      rw [List.eq_nil_iff_forall_not_mem]
      intro s hm
      have h1 := mkSplit_all hm
      have h2 := sum_range 60 _ (mkSplit_good (r := r) hA s.f0 s.f1)
      omega
    have hw : winL r l = [] := by unfold winL; rw [hall]; rfl
    refine Ev_add 1 ?_
    simp only [spec_BestPlay.l0]
    refine Ev.bind (spec_slAll_ev r l hA (by omega)) ?_
    simp only [bestL, hw, hall, List.nil_append, List.length_nil, Int.natCast_zero, if_true]
    exact Ev.now _
  | succ d ih =>
    intro out l hA hs hL ho
    refine Ev_add 1 ?_
    simp only [spec_BestPlay.l0]
    refine Ev.bind (spec_slAll_ev r l hA (by omega)) ?_
    have c3 : out.length < 8796093022208 := by omega
    cases hall : splAll r l 0 with
    | nil =>
      have hw : winL r l = [] := by unfold winL; rw [hall]; rfl
      rw [show bestL r (d + 1 + 1) out l = out by rw [bestL, hw, hall]; rfl]
      simp only [List.length_nil, Int.natCast_zero, if_true]
      exact Ev.now _
    | cons s t =>
      have n1 : ¬ ((s :: t).length : Int) = 0 := by rw [List.length_cons]; omega
      have n2 : 0 < ((s :: t).length : Int) := by rw [List.length_cons]; omega
      simp only [if_neg n1, if_pos n2]
      refine Ev.bind (spec_slWinning_ev r l hA (by omega)) ?_
      have go : ∀ x ∈ splAll r l 0, Ev (fun k => (spec_slMake.f k r l x.f0 x.f1).bind fun b => spec_BestPlay.l0 k r (out ++ [x]) b.1) (bestL r (d + 1) (out ++ [x]) (mkSplit r l x.f0 x.f1).1, true) := by
        intro x hx
        have h1 := mkSplit_all hx
        refine Ev.bind (spec_slMake_ev r l _ _ hA (by omega)) ?_
        exact ih (out ++ [x]) _ (mkSplit_good hA _ _) (by omega) (by omega) (by simp; omega)
      cases hw : winL r l with
      | nil =>
        rw [show bestL r (d + 1 + 1) out l = bestL r (d + 1) (out ++ [s]) (mkSplit r l s.f0 s.f1).1 by rw [bestL, hw, hall]; rfl]
        have n3 : ¬ ((([] : List S49).length : Int)) > 0 := by simp
        simp only [if_neg n3, if_pos c3]
        rw [show rd_T49 (s :: t) 0 = s from rfl]
        exact go s (by rw [hall]; exact List.mem_cons_self)
      | cons s2 t2 =>
        rw [show bestL r (d + 1 + 1) out l = bestL r (d + 1) (out ++ [s2]) (mkSplit r l s2.f0 s2.f1).1 by rw [bestL, hw]; rfl]
        have n3 : ((s2 :: t2).length : Int) > 0 := by rw [List.length_cons]; omega
        have n4 : 0 < ((s2 :: t2).length : Int) := n3
        simp only [if_pos n3, if_pos n4, if_pos c3]
        rw [show rd_T49 (s2 :: t2) 0 = s2 from rfl]
        exact go s2 (List.mem_filter.1 (show s2 ∈ winL r l by rw [hw]; exact List.mem_cons_self)).1
theorem impl_BestPlay_l0 (r : Int) : ∀ (d : Nat) (out : List S49) (l : List Int), goodE l → l.sum ≤ l.length + d → l.length + d ≤ 1000 → out.length + d ≤ 1000 → Ev (fun k => impl_BestPlay.l0 k r (valsL r 60) out l) (bestL r (d + 1) out l, true) := by
  intro d
  induction d with
  | zero =>
    intro out l hA hs hL ho
    have hall : splAll r l 0 = [] := by
      rw [List.eq_nil_iff_forall_not_mem]
      intro s hm
      have h1 := mkSplit_all hm
      have h2 := sum_range 60 _ (mkSplit_good (r := r) hA s.f0 s.f1)
      omega
    have hw : winL r l = [] := by unfold winL; rw [hall]; rfl
    refine Ev_add 1 ?_
    simp only [impl_BestPlay.l0]
    refine Ev.bind (impl_winningSplits_ev r l hA (by omega)) ?_
    simp only [hw, List.length_nil, Int.natCast_zero, if_true]
    refine Ev.bind (impl_splitsOf_ev r l hA (by omega)) ?_
    simp only [bestL, hw, hall, List.nil_append, List.length_nil, Int.natCast_zero, if_true]
    exact Ev.now _
  | succ d ih =>
    intro out l hA hs hL ho
    refine Ev_add 1 ?_
    simp only [impl_BestPlay.l0]
    refine Ev.bind (impl_winningSplits_ev r l hA (by omega)) ?_
    have c3 : out.length < 8796093022208 := by omega
    have go : ∀ x ∈ splAll r l 0, Ev (fun k => (impl_makeSplit.f r l x.f0 x.f1).bind fun b => impl_BestPlay.l0 k r (valsL r 60) (out ++ [x]) b.1) (bestL r (d + 1) (out ++ [x]) (mkSplit r l x.f0 x.f1).1, true) := by
      intro x hx
      have h1 := mkSplit_all hx
      simp only [impl_makeSplit_eq r l _ _ hA (by omega), Option.bind_some]
      exact ih (out ++ [x]) _ (mkSplit_good hA _ _) (by omega) (by omega) (by simp; omega)
    cases hw : winL r l with
    | nil =>
      simp only [List.length_nil, Int.natCast_zero, if_true]
      refine Ev.bind (impl_splitsOf_ev r l hA (by omega)) ?_
      cases hall : splAll r l 0 with
      | nil =>
        rw [show bestL r (d + 1 + 1) out l = out by rw [bestL, hw, hall]; rfl]
        simp only [List.length_nil, Int.natCast_zero, if_true]
        exact Ev.now _
      | cons s t =>
        have n1 : ¬ ((s :: t).length : Int) = 0 := by rw [List.length_cons]; omega
        have n2 : 0 < ((s :: t).length : Int) := by rw [List.length_cons]; omega
        rw [show bestL r (d + 1 + 1) out l = bestL r (d + 1) (out ++ [s]) (mkSplit r l s.f0 s.f1).1 by rw [bestL, hw, hall]; rfl]
        simp only [if_neg n1, if_pos n2, if_pos c3]
        rw [show rd_T49 (s :: t) 0 = s from rfl]
        exact go s (by rw [hall]; exact List.mem_cons_self)
    | cons s2 t2 =>
      have n1 : ¬ ((s2 :: t2).length : Int) = 0 := by rw [List.length_cons]; omega
      have n2 : 0 < ((s2 :: t2).length : Int) := by rw [List.length_cons]; omega
      rw [show bestL r (d + 1 + 1) out l = bestL r (d + 1) (out ++ [s2]) (mkSplit r l s2.f0 s2.f1).1 by rw [bestL, hw]; rfl]
      simp only [if_neg n1, if_pos n2, if_pos c3]
      rw [show rd_T49 (s2 :: t2) 0 = s2 from rfl]
      exact go s2 (List.mem_filter.1 (show s2 ∈ winL r l by rw [hw]; exact List.mem_cons_self)).1
theorem agree_BestPlay (r : Int) (l : List Int) (hl : l.length ≤ 1048576) : ∃ v, Ev (fun k => spec_BestPlay.f k r l) v ∧ Ev (fun k => impl_BestPlay.f k r l) v ∧ v.1.length ≤ 1000000 := by
  refine ⟨if (inR r 0 2 && goodH l && decide (l.sum ≤ 30)) = true then (bestL r (30 + 1) [] l, true) else ([], false), ?_, ?_, ?_⟩
  · unfold spec_BestPlay.f
    refine Ev.bind (spec_slAsked_ev r l (by omega)) ?_
    cases hb : (inR r 0 2 && goodH l) with
    | false =>
      simp only [Bool.false_eq_true, if_false, Bool.false_and]
      refine Ev_add 1 ?_
      simp only [spec_BestPlay.j0, if_true]
      exact Ev.now _
    | true =>
      rw [Bool.and_eq_true, inR_iff, goodH_iff] at hb
      simp only [if_true, Bool.true_and]
      refine Ev.bind (spec_hpSum_ev l hb.2.2 (by omega)) ?_
      refine Ev_add 1 ?_
      by_cases c : l.sum ≤ 30
      · have c' : ¬ l.sum > 30 := by omega
        simp only [spec_BestPlay.j0, decide_eq_false c', decide_eq_true c, Bool.false_eq_true, if_false, if_true, spec_l1Own_eq l (by omega), Option.bind_some]
        exact (spec_BestPlay_l0 r 30 [] l hb.2.2 (by omega) (by omega) (by simp))
      · have c' : l.sum > 30 := by omega
        simp only [spec_BestPlay.j0, decide_eq_true c', decide_eq_false c, Bool.false_eq_true, if_false, if_true]
        exact Ev.now _
  · unfold impl_BestPlay.f
    simp only [impl_isSplitRule_eq, Option.bind_some]
    cases hb : (inR r 0 2 && goodH l) with
    | false =>
      simp only [Bool.false_eq_true, if_false, Bool.false_and]
      refine Ev_add 1 ?_
      simp only [impl_BestPlay.j0, if_true]
      exact Ev.now _
    | true =>
      rw [Bool.and_eq_true, inR_iff, goodH_iff] at hb
      simp only [if_true, Bool.true_and]
      refine Ev.bind (impl_sum_ev l hb.2.2 (by omega)) ?_
      refine Ev_add 1 ?_
      by_cases c : l.sum ≤ 30
      · have c' : ¬ l.sum > 30 := by omega
        simp only [impl_BestPlay.j0, decide_eq_false c', decide_eq_true c, Bool.false_eq_true, if_false, if_true]
        refine Ev.bind (splitValues_ev r 60 (by omega) (by omega)) ?_
        exact (impl_BestPlay_l0 r 30 [] l hb.2.2 (by omega) (by omega) (by simp))
      · have c' : l.sum > 30 := by omega
        simp only [impl_BestPlay.j0, decide_eq_true c', decide_eq_false c, Bool.false_eq_true, if_false, if_true]
        exact Ev.now _
  · split
    · have := bestL_length r (30 + 1) [] l
      simp only [List.length_nil] at this ⊢
      omega
    · simp
theorem toIntS_l0 (l : List Int) (hl : l.length < 9223372036854775807) : ∀ (d k i : Nat) (out : List Int), i + d = l.length → d < k → out.length = l.length → out.take i = l.take i → laws_toIntS.l0 k l out (i : Int) = some l := by
  intro d
  induction d with
  | zero =>
    intro k i out h hk ho ht
    obtain ⟨k, rfl⟩ : ∃ m, k = m + 1 := ⟨k - 1, by omega⟩
    simp only [laws_toIntS.l0]
    rw [if_neg (by omega)]
    rw [List.take_of_length_le (by omega), List.take_of_length_le (by omega)] at ht
    rw [ht]
  | succ d ih =>
    intro k i out h hk ho ht
    obtain ⟨k, rfl⟩ : ∃ m, k = m + 1 := ⟨k - 1, by omega⟩
    have hi : i < l.length := by omega
    have e : (i : Int) + 1 = ((i + 1 : Nat) : Int) := by omega
    simp only [laws_toIntS.l0]
    rw [if_pos (by omega), if_pos (by omega), if_pos (by omega), rd_at l i hi, wrap_id (by omega) (by omega), e, Int.toNat_natCast]
    refine ih k (i + 1) _ (by omega) (by omega) (by simpa using ho) ?_
    rw [List.take_succ_eq_append_getElem (by simpa using by omega), List.take_succ_eq_append_getElem hi, List.getElem_set_self, List.take_set_of_le (Nat.le_refl i), ht]
theorem toIntS_ev (l : List Int) (hl : l.length ≤ 1048576) : Ev (fun k => laws_toIntS.f k l) l :=
  ⟨l.length + 1, fun k hk => by
    have h := toIntS_l0 l (by omega) l.length k 0 (List.replicate l.length 0) (by omega) (by omega) (by simp) rfl
    show laws_toIntS.f k l = some l
    unfold laws_toIntS.f
    rw [if_pos (by omega), if_pos (by omega)]
    simpa using h⟩
theorem eqIntS_l0 (a b : List Int) (hl : a.length = b.length) (hm : a.length < 9223372036854775807) : ∀ (d k i : Nat), i + d = a.length → d < k → laws_eqIntS.l0 k a b (i : Int) = some (decide (a.drop i = b.drop i)) := by
  intro d
  induction d with
  | zero =>
    intro k i h hk
    obtain ⟨k, rfl⟩ : ∃ m, k = m + 1 := ⟨k - 1, by omega⟩
    simp only [laws_eqIntS.l0]
    rw [if_neg (by omega), List.drop_of_length_le (by omega), List.drop_of_length_le (by omega)]
    simp
  | succ d ih =>
    intro k i h hk
    obtain ⟨k, rfl⟩ : ∃ m, k = m + 1 := ⟨k - 1, by omega⟩
    have hi : i < a.length := by omega
    have hj : i < b.length := by omega
    have e : (i : Int) + 1 = ((i + 1 : Nat) : Int) := by omega
    simp only [laws_eqIntS.l0]
    rw [if_pos (by omega), if_pos (by omega), if_pos (by omega), rd_at a i hi, rd_at b i hj, wrap_id (by omega) (by omega), e]
    rw [List.drop_eq_getElem_cons hi, List.drop_eq_getElem_cons hj]
    by_cases c : a[i] = b[i]
    · rw [if_pos c, ih k (i + 1) (by omega) (by omega), c]
      exact congrArg some (decide_eq_decide.mpr ⟨fun h => by rw [h], fun h => (List.cons.inj h).2⟩)
    · rw [if_neg c]
      exact congrArg some (decide_eq_false fun h => c (List.cons.inj h).1).symm
theorem eqIntS_ev (a b : List Int) (hm : a.length < 9223372036854775807) : Ev (fun k => laws_eqIntS.f k a b) (decide (a = b)) := by
  by_cases hl : a.length = b.length
  · refine ⟨a.length + 1, fun k hk => ?_⟩
    have h := eqIntS_l0 a b hl hm a.length k 0 (by omega) (by omega)
    show laws_eqIntS.f k a b = _
    unfold laws_eqIntS.f
    rw [if_pos (by omega)]
    simpa using h
  · refine ⟨0, fun k hk => ?_⟩
    show laws_eqIntS.f k a b = _
    unfold laws_eqIntS.f
    rw [if_neg (by omega)]
    have : a ≠ b := fun h => hl (by rw [h])
    simp [this]
theorem eqIntS_self (a : List Int) (hm : a.length < 9223372036854775807) : Ev (fun k => laws_eqIntS.f k a a) true := by
  have := eqIntS_ev a a hm
  simpa using this
/-- k, k + 1, .. : so many numbers. -/
def iota : Nat → Int → List Int
  | 0, _ => []
  | n + 1, k => k :: iota n (k + 1)
theorem iota_length : ∀ (n : Nat) (k : Int), (iota n k).length = n
  | 0, _ => rfl
  | n + 1, k => by simp [iota, iota_length n]
theorem markIntS_l0 : ∀ (d k : Nat) (pre l : List Int) (i : Nat) (m : Int), i = pre.length → l.length = d → d < k → 0 ≤ m → m + d < 9223372036854775807 → pre.length + d < 9223372036854775807 → laws_markIntS.l0 k (pre ++ l) m (i : Int) = some (m + d, pre ++ iota d m) := by
  intro d
  induction d with
  | zero =>
    intro k pre l i m hi hd hk h0 h1 h2
    obtain ⟨k, rfl⟩ : ∃ m, k = m + 1 := ⟨k - 1, by omega⟩
    obtain rfl : l = [] := List.eq_nil_of_length_eq_zero hd
    subst hi
    simp only [laws_markIntS.l0]
    rw [if_neg (by simp)]
    simp [iota]
  | succ d ih =>
    intro k pre l i m hi hd hk h0 h1 h2
    obtain ⟨k, rfl⟩ : ∃ m, k = m + 1 := ⟨k - 1, by omega⟩
    cases l with
    | nil => simp at hd
    | cons x xs =>
      subst hi
      have e : (pre.length : Int) + 1 = ((pre ++ [m]).length : Int) := by simp
      simp only [laws_markIntS.l0]
      rw [if_pos (by simp; omega), if_pos (by omega), Int.toNat_natCast, wrap_id (x := m + 1) (by omega) (by omega), wrap_id (x := (pre.length : Int) + 1) (by omega) (by omega), e]
      have es : (pre ++ x :: xs).set pre.length m = (pre ++ [m]) ++ xs := by simp
      rw [es, ih k (pre ++ [m]) xs (pre ++ [m]).length (m + 1) rfl (by simpa using hd) (by omega) (by omega) (by omega) (by simp; omega)]
      simp [iota]
      omega
theorem markIntS_ev (l : List Int) (m : Int) (h0 : 0 ≤ m) (h1 : m + l.length < 9223372036854775807) : Ev (fun k => laws_markIntS.f k l m) (m + l.length, iota l.length m) :=
  ⟨l.length + 1, fun k hk => by
    have h := markIntS_l0 l.length k [] l 0 m rfl rfl (by omega) h0 h1 (by simp; omega)
    simpa [laws_markIntS.f] using h⟩
theorem eqSplitS_l0 (a : List S49) (hm : a.length < 9223372036854775807) : ∀ (d k i : Nat), i + d = a.length → d < k → laws_eqSplitS.l0 k a a (i : Int) = some true := by
  intro d
  induction d with
  | zero =>
    intro k i h hk
    obtain ⟨k, rfl⟩ : ∃ m, k = m + 1 := ⟨k - 1, by omega⟩
    simp only [laws_eqSplitS.l0]
    rw [if_neg (by omega)]
  | succ d ih =>
    intro k i h hk
    obtain ⟨k, rfl⟩ : ∃ m, k = m + 1 := ⟨k - 1, by omega⟩
    have hi : i < a.length := by omega
    have e : (i : Int) + 1 = ((i + 1 : Nat) : Int) := by omega
    simp only [laws_eqSplitS.l0]
    rw [if_pos (by omega), if_pos (by omega), if_pos (by omega), rdSplit_at a i hi, wrap_id (by omega) (by omega), e]
    simp only [laws_eqSplit.f, if_true, Option.bind_some]
    exact ih k (i + 1) (by omega) (by omega)
theorem eqSplitS_self (a : List S49) (hm : a.length < 9223372036854775807) : Ev (fun k => laws_eqSplitS.f k a a) true := by
  refine ⟨a.length + 1, fun k hk => ?_⟩
  have h := eqSplitS_l0 a hm a.length k 0 (by omega) (by omega)
  show laws_eqSplitS.f k a a = _
  unfold laws_eqSplitS.f
  rw [if_pos rfl]
  simpa using h
/-- Marked splits: so many, from a number on. -/
def iotaSplit : Nat → Int → List S49
  | 0, _ => []
  | n + 1, k => (⟨k, k + 1⟩ : S49) :: iotaSplit n (k + 2)
theorem iotaSplit_length : ∀ (n : Nat) (k : Int), (iotaSplit n k).length = n
  | 0, _ => rfl
  | n + 1, k => by simp [iotaSplit, iotaSplit_length n]
theorem markSplitS_l0 : ∀ (d k : Nat) (pre l : List S49) (i : Nat) (m : Int), i = pre.length → l.length = d → d < k → 0 ≤ m → m + 2 * d < 9223372036854775807 → pre.length + d < 9223372036854775807 → laws_markSplitS.l0 k (pre ++ l) m (i : Int) = some (m + 2 * d, pre ++ iotaSplit d m) := by
  intro d
  induction d with
  | zero =>
    intro k pre l i m hi hd hk h0 h1 h2
    obtain ⟨k, rfl⟩ : ∃ m, k = m + 1 := ⟨k - 1, by omega⟩
    obtain rfl : l = [] := List.eq_nil_of_length_eq_zero hd
    subst hi
    simp only [laws_markSplitS.l0]
    rw [if_neg (by simp)]
    simp [iotaSplit]
  | succ d ih =>
    intro k pre l i m hi hd hk h0 h1 h2
    obtain ⟨k, rfl⟩ : ∃ m, k = m + 1 := ⟨k - 1, by omega⟩
    cases l with
    | nil => simp at hd
    | cons x xs =>
      subst hi
      have e : (pre.length : Int) + 1 = ((pre ++ [(⟨m, m + 1⟩ : S49)]).length : Int) := by simp
      have es : ∀ y : S49, (pre ++ x :: xs).set pre.length y = pre ++ y :: xs := by intro y; simp
      have es2 : ∀ y z : S49, (pre ++ y :: xs).set pre.length z = pre ++ z :: xs := by intro y z; simp
      have er : ∀ y : S49, rd_T49 (pre ++ y :: xs) (pre.length : Int) = y := by
        intro y
        rw [rdSplit_at _ _ (by simp)]
        simp
      simp only [laws_markSplitS.l0]
      rw [if_pos (by simp; omega), if_pos (by omega)]
      simp only [Option.bind_some, Int.toNat_natCast, es, es2, er]
      rw [wrap_id (x := m + 1) (by omega) (by omega), wrap_id (x := m + 1 + 1) (by omega) (by omega), wrap_id (x := (pre.length : Int) + 1) (by omega) (by omega), e]
      have ec : pre ++ (⟨m, m + 1⟩ : S49) :: xs = (pre ++ [(⟨m, m + 1⟩ : S49)]) ++ xs := by simp
      rw [ec, ih k (pre ++ [(⟨m, m + 1⟩ : S49)]) xs (pre ++ [(⟨m, m + 1⟩ : S49)]).length (m + 1 + 1) rfl (by simpa using hd) (by omega) (by omega) (by omega) (by simp; omega)]
      have e2 : m + 1 + 1 = m + 2 := by omega
      rw [e2]
      simp [iotaSplit]
      omega
theorem markSplitS_ev (l : List S49) (m : Int) (h0 : 0 ≤ m) (h1 : m + 2 * l.length < 9223372036854775807) : Ev (fun k => laws_markSplitS.f k l m) (m + 2 * l.length, iotaSplit l.length m) :=
  ⟨l.length + 1, fun k hk => by
    have h := markSplitS_l0 l.length k [] l 0 m rfl rfl (by omega) h0 h1 (by simp; omega)
    simpa [laws_markSplitS.f] using h⟩
theorem heldSplitS_l0 : ∀ (d k : Nat) (pre : List S49) (i : Nat) (m : Int), i = pre.length → d < k → 0 ≤ m → m + 2 * d < 9223372036854775807 → pre.length + d < 9223372036854775807 → laws_heldSplitS.l0 k (pre ++ iotaSplit d m) m (i : Int) = some (m + 2 * d) := by
  intro d
  induction d with
  | zero =>
    intro k pre i m hi hk h0 h1 h2
    obtain ⟨k, rfl⟩ : ∃ m, k = m + 1 := ⟨k - 1, by omega⟩
    subst hi
    simp only [laws_heldSplitS.l0]
    rw [if_neg (by simp [iotaSplit])]
    simp
  | succ d ih =>
    intro k pre i m hi hk h0 h1 h2
    obtain ⟨k, rfl⟩ : ∃ m, k = m + 1 := ⟨k - 1, by omega⟩
    subst hi
    have e : (pre.length : Int) + 1 = ((pre ++ [(⟨m, m + 1⟩ : S49)]).length : Int) := by simp
    have er : rd_T49 (pre ++ iotaSplit (d + 1) m) (pre.length : Int) = (⟨m, m + 1⟩ : S49) := by
      rw [rdSplit_at _ _ (by simp [iotaSplit])]
      simp [iotaSplit]
    simp only [laws_heldSplitS.l0]
    rw [if_pos (by simp [iotaSplit]; omega), if_pos (by omega), er, if_pos rfl, wrap_id (x := m + 1) (by omega) (by omega), if_pos rfl, wrap_id (x := m + 1 + 1) (by omega) (by omega), wrap_id (x := (pre.length : Int) + 1) (by omega) (by omega), e]
    have es : pre ++ iotaSplit (d + 1) m = (pre ++ [(⟨m, m + 1⟩ : S49)]) ++ iotaSplit d (m + 2) := by simp [iotaSplit]
    have e2 : m + 1 + 1 = m + 2 := by omega
    rw [es, e2, ih k (pre ++ [(⟨m, m + 1⟩ : S49)]) (pre ++ [(⟨m, m + 1⟩ : S49)]).length (m + 2) rfl (by omega) (by omega) (by omega) (by simp; omega)]
    congr 1
    omega
theorem heldSplitS_ev (n : Nat) (m : Int) (h0 : 0 ≤ m) (h1 : m + 2 * n < 9223372036854775807) : Ev (fun k => laws_heldSplitS.f k (iotaSplit n m) m) (m + 2 * n) :=
  ⟨n + 1, fun k hk => by
    have h := heldSplitS_l0 n k [] 0 m rfl (by omega) h0 h1 (by simp; omega)
    simpa [laws_heldSplitS.f] using h⟩
theorem FnExactBestPlay : laws_FnExactBestPlay.Pure := by
  intro r l _ _ _ _
  refine Ev.rounds (g := fun k => laws_FnExactBestPlay.f k r l) ?_
  unfold laws_FnExactBestPlay.f
  by_cases c : (l.length : Int) > 1048576
  · simp only [if_pos c]
    exact Ev.now _
  · have hl : l.length ≤ 1048576 := by omega
    obtain ⟨⟨v1, v2⟩, hs, hi, hn⟩ := agree_BestPlay r l hl
    have hn : v1.length ≤ 1000000 := hn
    have hT := toIntS_ev l hl
    have hE := eqIntS_self l (by omega)
    have hM := markIntS_ev l 1 (by omega) (by omega)
    have hQ := eqSplitS_self v1 (by omega)
    have hK := markSplitS_ev v1 1 (by omega) (by omega)
    have hH := heldSplitS_ev v1.length 1 (by omega) (by omega)
    have n1 : ¬ (1 + (l.length : Int)) < 0 := by omega
    have n2 : ¬ (1 + 2 * (v1.length : Int)) < 0 := by omega
    simp only [if_neg c]
    repeat (first
      | exact Ev.now _
      | refine Ev.bind hT ?_
      | refine Ev.bind hs ?_
      | refine Ev.bind hi ?_
      | refine Ev.bind hE ?_
      | refine Ev.bind hM ?_
      | refine Ev.bind hQ ?_
      | refine Ev.bind hK ?_
      | refine Ev.bind hH ?_
      | simp only [if_true, bne_self_eq_false, Bool.false_eq_true, if_false, if_neg n1, if_neg n2]
      | (refine Ev_add 1 ?_; simp only [laws_FnExactBestPlay.j0])
      | (refine Ev_add 1 ?_; simp only [laws_FnExactBestPlay.j1])
      | (refine Ev_add 1 ?_; simp only [laws_FnExactBestPlay.j2]))

end Go.Proofs.Ytnfofdocnnndnaa.Pure
