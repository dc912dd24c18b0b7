/-
  The program's LosingHeaps returns what the reference's returns, for all arguments: the plain half, about the printed functions alone.
  Conditions: those of the statement's own row; none is added.
-/
import Derived.Test.YtbamooigfbbkaaaPVx12
namespace Go.Proofs.Ytbamooigfbbkaaa.Pure
set_option linter.unusedVariables false
set_option linter.unusedSimpArgs false
open Go.RowKit Go.Proofs.Ytbamooigfbbkaaa.PV Go.Proofs.YtbamooigfbbkaaaW.PrintWords Go.Proofs.YtbamooigfbbkaaaW.PrintLast Go.Proofs.YtbamooigfbbkaaaW.PrintMore Go.Proofs.YtbamooigfbbkaaaB

theorem Ev_add {α : Type} {g : Nat → Option α} {r : α} (m : Nat) (h : Ev (fun k => g (k + m)) r) : Ev g r := by
  obtain ⟨K, hK⟩ := h
  refine ⟨K + m, fun k hk => ?_⟩
  have h1 := hK (k - m) (by omega)
  simp only at h1
  rwa [Nat.sub_add_cancel (by omega)] at h1
theorem Ev_shift {α : Type} {g : Nat → Option α} {r : α} (m : Nat) (h : Ev g r) : Ev (fun k => g (k + m)) r := by
  obtain ⟨K, hK⟩ := h
  exact ⟨K, fun k hk => hK (k + m) (by omega)⟩
theorem wrap_id {x : Int} (h0 : -9223372036854775808 ≤ x) (h1 : x ≤ 9223372036854775807) : wrap64 x = x := by
  unfold wrap64
  omega
theorem rd_at (l : List Int) (i : Nat) (h : i < l.length) : rd l (i : Int) = l[i] := rd_get l i h
theorem rd_append_left (l m : List Int) (i : Int) (h0 : 0 ≤ i) (h : i < l.length) : rd (l ++ m) i = rd l i := by
  unfold rd
  rw [List.getD_eq_getElem?_getD, List.getD_eq_getElem?_getD, List.getElem?_append_left (by omega)]
/-- Can a heap be split so? -/
def canB (rule heap part : Int) : Bool := decide (1 ≤ part) && decide (2 * part ≤ heap) && (rule != 0 || decide (2 * part < heap)) && (rule != 2 || decide (2 ≤ part))
/-- The first number, from v on, that isn't in a list; so many are looked at. -/
def mexF (s : List Int) : Nat → Int → Int
  | 0, v => v
  | d + 1, v => if s.contains v = true then mexF s d (v + 1) else v
/-- The values of both parts of a heap's splits, by their parts, from a part on. -/
def takenL (r : Int) (out : List Int) (n : Int) : Nat → Int → List Int
  | 0, _ => []
  | d + 1, p => if 2 * p ≤ n then (if canB r n p = true then [Go.bits .xor .i64 (rd out p) (rd out (n - p))] else []) ++ takenL r out n d (p + 1) else []
/-- The values of the heaps with 0, 1, .. stones. -/
def valsL (r : Int) : Nat → List Int
  | 0 => [0]
  | n + 1 => valsL r n ++ [mexF (takenL r (valsL r n) ((n : Int) + 1) 31 1) 32 0]
theorem valsL_length (r : Int) : ∀ n, (valsL r n).length = n + 1
  | 0 => rfl
  | n + 1 => by simp [valsL, valsL_length r n]
theorem takenL_length (r : Int) (out : List Int) (n : Int) : ∀ (d : Nat) (p : Int), (takenL r out n d p).length ≤ d
  | 0, _ => by simp [takenL]
  | d + 1, p => by
    have := takenL_length r out n d (p + 1)
    simp only [takenL]
    split
    · split <;> simp <;> omega
    · simp
theorem free_at : ∀ (m : Nat) (s : List Int) (v : Int), s.length ≤ m → ∃ e : Nat, e ≤ s.length ∧ s.contains (v + e) = false := by
  intro m
  induction m with
  | zero =>
    intro s v h
    obtain rfl : s = [] := List.eq_nil_of_length_eq_zero (by omega)
    exact ⟨0, by simp, by simp⟩
  | succ m ih =>
    intro s v h
    by_cases c : v ∈ s
    · have hl := List.length_erase_of_mem c
      have hp := List.length_pos_of_mem c
      obtain ⟨e, he, hf⟩ := ih (s.erase v) (v + 1) (by omega)
      refine ⟨e + 1, by omega, ?_⟩
      rw [List.contains_eq_mem, decide_eq_false_iff_not] at hf ⊢
      intro hm
      refine hf ?_
      rw [show v + 1 + (e : Int) = v + ((e + 1 : Nat) : Int) by omega]
      exact (List.mem_erase_of_ne (by omega)).2 hm
    · exact ⟨0, by omega, by rw [List.contains_eq_mem]; simpa using c⟩
theorem mexF_bounds (s : List Int) : ∀ (d : Nat) (v : Int), v ≤ mexF s d v ∧ mexF s d v ≤ v + d
  | 0, v => by simp [mexF]
  | d + 1, v => by
    have := mexF_bounds s d (v + 1)
    simp only [mexF]
    split <;> omega
theorem mexF_congr {s t : List Int} (h : ∀ v, s.contains v = t.contains v) : ∀ (d : Nat) (v : Int), mexF s d v = mexF t d v
  | 0, _ => rfl
  | d + 1, v => by simp only [mexF, h v, mexF_congr h d (v + 1)]
theorem valsL_range (r : Int) : ∀ n, ∀ v ∈ valsL r n, 0 ≤ v ∧ v ≤ 32
  | 0 => by simp [valsL]
  | n + 1 => by
    intro v hv
    rcases List.mem_append.1 hv with h | h
    · exact valsL_range r n v h
    · rw [List.mem_singleton.1 h]
      have := mexF_bounds (takenL r (valsL r n) ((n : Int) + 1) 31 1) 32 0
      omega
theorem rd_valsL (r : Int) (h n : Nat) (hh : h ≤ n) : rd (valsL r n) (h : Int) = rd (valsL r h) (h : Int) := by
  induction n with
  | zero =>
    obtain rfl : h = 0 := by omega
    rfl
  | succ n ih =>
    by_cases c : h = n + 1
    · subst c
      rfl
    · rw [← ih (by omega)]
      show rd (valsL r n ++ _) _ = _
      exact rd_append_left _ _ _ (by omega) (by rw [valsL_length]; omega)
theorem rd_vals_range (r : Int) (n : Nat) (i : Int) (h0 : 0 ≤ i) (h1 : i ≤ n) : 0 ≤ rd (valsL r n) i ∧ rd (valsL r n) i ≤ 32 := by
  obtain ⟨m, rfl⟩ := Int.eq_ofNat_of_zero_le h0
  rw [rd_at _ m (by rw [valsL_length]; omega)]
  exact valsL_range r n _ (List.getElem_mem _)
/-- The places, from one on, of a list where it holds nought; the place 0 isn't looked at. -/
def losersL (vs : List Int) : Nat → Nat → List Int
  | 0, _ => []
  | d + 1, i => (if 0 < i ∧ rd vs (i : Int) = 0 then [(i : Int)] else []) ++ losersL vs d (i + 1)
theorem losersL_length (vs : List Int) : ∀ d i, (losersL vs d i).length ≤ d
  | 0, _ => by simp [losersL]
  | d + 1, i => by
    have := losersL_length vs d (i + 1)
    simp only [losersL]
    split <;> simp <;> omega
def inR (a lo hi : Int) : Bool := decide (lo ≤ a) && decide (a ≤ hi)
theorem inR_iff {a lo hi : Int} : inR a lo hi = true ↔ lo ≤ a ∧ a ≤ hi := by simp [inR]
theorem impl_within_eq (a lo hi : Int) : impl_within.f a lo hi = some (inR a lo hi) := by
  unfold impl_within.f inR
  by_cases h : lo ≤ a <;> simp [h]
theorem impl_canSplit_eq (r h p : Int) (hh0 : 1 ≤ h) (hh1 : h ≤ 1000) : impl_canSplit.f r h p = some (canB r h p) := by
  unfold impl_canSplit.f
  simp only [impl_within_eq, Option.bind_some]
  have e1 : wrap64 (Int.tdiv h 2) = h / 2 := by rw [Int.tdiv_eq_ediv_of_nonneg (by omega)]; exact wrap_id (by omega) (by omega)
  by_cases c5 : r = 0
  · subst c5
    rw [if_pos rfl]
    congr 1
    rw [Bool.eq_iff_iff, inR_iff]
    have e2 : wrap64 (Int.tdiv (wrap64 (h - 1)) 2) = (h - 1) / 2 := by
      rw [wrap_id (x := h - 1) (by omega) (by omega), Int.tdiv_eq_ediv_of_nonneg (by omega)]; exact wrap_id (by omega) (by omega)
    rw [e2]
    simp [canB]
    omega
  · by_cases c6 : r = 2
    · subst c6
      simp only [if_neg c5, if_true, e1]
      congr 1
      rw [Bool.eq_iff_iff, inR_iff]
      simp [canB]
      omega
    · simp only [if_neg c5, if_neg c6, e1]
      congr 1
      rw [Bool.eq_iff_iff, inR_iff]
      simp [canB, c5, c6]
      omega
theorem splitValues_l2 (r most : Int) (out s : List Int) (n : Int) (hn : n ≤ 60) (hn0 : 0 ≤ n) (ho : out.length < 1000) (res : List Int) : ∀ (d : Nat) (v : Int), 0 ≤ v → v + d ≤ 1000 → (∃ e : Nat, e ≤ d ∧ s.contains (v + e) = false) → Ev (fun k => impl_splitValues.l0 k r most (out ++ [mexF s d v]) (n + 1)) res → Ev (fun k => impl_splitValues.l2 k r most out n s v) res := by
  have w2 : wrap64 (n + 1) = n + 1 := wrap_id (by omega) (by omega)
  have c2 : out.length < 17592186044416 := by omega
  intro d
  induction d with
  | zero =>
    intro v h0 h1 ⟨e, he, hf⟩ hr
    obtain rfl : e = 0 := by omega
    have hf : s.contains v = false := by simpa using hf
    refine Ev_add 1 ?_
    simp only [impl_splitValues.l2, hf, Bool.false_eq_true, if_false, if_pos c2, w2]
    exact hr
  | succ d ih =>
    intro v h0 h1 ⟨e, he, hf⟩ hr
    have w3 : wrap64 (v + 1) = v + 1 := wrap_id (by omega) (by omega)
    refine Ev_add 1 ?_
    cases hc : s.contains v with
    | true =>
      simp only [mexF, hc, if_true] at hr
      simp only [impl_splitValues.l2, hc, if_true, w3]
      have e0 : e ≠ 0 := by
        rintro rfl
        rw [show v + ((0 : Nat) : Int) = v by omega, hc] at hf
        cases hf
      exact ih (v + 1) (by omega) (by omega) ⟨e - 1, by omega, by rw [show v + 1 + ((e - 1 : Nat) : Int) = v + (e : Int) by omega]; exact hf⟩ hr
    | false =>
      simp only [mexF, hc, Bool.false_eq_true, if_false] at hr
      simp only [impl_splitValues.l2, hc, Bool.false_eq_true, if_false, if_pos c2, w2]
      exact hr
theorem splitValues_l1 (r most : Int) (out : List Int) (n : Int) (hn : n ≤ 60) (hn0 : 1 ≤ n) (ho : (out.length : Int) = n) (res : List Int) : ∀ (d : Nat) (p : Int) (s t : List Int), 1 ≤ p → p + d = 32 → s.length + d ≤ 31 → (∀ v, s.contains v = t.contains v) → Ev (fun k => impl_splitValues.l0 k r most (out ++ [mexF (t ++ takenL r out n d p) 32 0]) (n + 1)) res → Ev (fun k => impl_splitValues.l1 k r most out n s p) res := by
  have fin : ∀ (s t : List Int), s.length ≤ 31 → (∀ v, s.contains v = t.contains v) → Ev (fun k => impl_splitValues.l0 k r most (out ++ [mexF t 32 0]) (n + 1)) res → Ev (fun k => impl_splitValues.l2 k r most out n s 0) res := by
    intro s t hs hst hr
    obtain ⟨e, he, hf⟩ := free_at s.length s 0 (Nat.le_refl _)
    rw [← mexF_congr hst] at hr
    exact splitValues_l2 r most out s n hn (by omega) (by omega) res 32 0 (by omega) (by omega) ⟨e, by omega, hf⟩ hr
  intro d
  induction d with
  | zero =>
    intro p s t hp hd hs hst hr
    have w1 : wrap64 (2 * p) = 2 * p := wrap_id (by omega) (by omega)
    have c1 : ¬ 2 * p ≤ n := by omega
    refine Ev_add 1 ?_
    simp only [impl_splitValues.l1, w1, if_neg c1]
    exact fin s t (by omega) hst (by simpa [takenL] using hr)
  | succ d ih =>
    intro p s t hp hd hs hst hr
    have w1 : wrap64 (2 * p) = 2 * p := wrap_id (by omega) (by omega)
    have w3 : wrap64 (p + 1) = p + 1 := wrap_id (by omega) (by omega)
    have w4 : wrap64 (n - p) = n - p := wrap_id (by omega) (by omega)
    by_cases c1 : 2 * p ≤ n
    · have s1 := impl_canSplit_eq r n p (by omega) (by omega)
      have b : 0 ≤ p ∧ p < (out.length : Int) ∧ 0 ≤ n - p ∧ n - p < (out.length : Int) ∧ s.length < 1000000 := by omega
      simp only [takenL, if_pos c1] at hr
      refine Ev_add 1 ?_
      simp only [impl_splitValues.l1, w1, if_pos c1, s1, Option.bind_some]
      cases hb : canB r n p with
      | false =>
        simp only [hb, Bool.false_eq_true, if_false] at hr
        simp only [Bool.false_eq_true, if_false, w3]
        exact ih (p + 1) s t (by omega) (by omega) (by omega) hst (by simpa using hr)
      | true =>
        simp only [hb, if_true] at hr
        simp only [if_true, w4, if_pos b, w3]
        refine ih (p + 1) _ (t ++ [Go.bits .xor .i64 (rd out p) (rd out (n - p))]) (by omega) (by omega) (by simp; omega) (fun v => ?_) (by simpa using hr)
        rw [Bool.eq_iff_iff]
        have := hst v
        rw [Bool.eq_iff_iff] at this
        simp only [List.contains_eq_mem, decide_eq_true_eq] at this
        simp only [List.contains_eq_mem, decide_eq_true_eq, List.mem_cons, List.mem_append, this]
        simp
        exact Or.comm
    · simp only [takenL, if_neg c1, List.append_nil] at hr
      refine Ev_add 1 ?_
      simp only [impl_splitValues.l1, w1, if_neg c1]
      exact fin s t (by omega) hst hr
theorem splitValues_l0 (r : Int) (m : Nat) (hm : m ≤ 60) : ∀ (d n : Nat), n + d = m → Ev (fun k => impl_splitValues.l0 k r (m : Int) (valsL r n) ((n : Int) + 1)) (valsL r m) := by
  intro d
  induction d with
  | zero =>
    intro n h
    obtain rfl : n = m := by omega
    have c1 : ¬ (n : Int) + 1 ≤ (n : Int) := by omega
    refine Ev_add 1 ?_
    simp only [impl_splitValues.l0, if_neg c1]
    exact Ev.now _
  | succ d ih =>
    intro n h
    have c1 : (n : Int) + 1 ≤ (m : Int) := by omega
    refine Ev_add 1 ?_
    simp only [impl_splitValues.l0, if_pos c1]
    refine splitValues_l1 r m (valsL r n) ((n : Int) + 1) (by omega) (by omega) (by rw [valsL_length]; omega) _ 31 1 [] [] (by omega) (by omega) (by simp) (fun v => rfl) ?_
    have := ih (n + 1) (by omega)
    simpa [valsL] using this
theorem splitValues_ev (r : Int) (m : Int) (h0 : 0 ≤ m) (h1 : m ≤ 60) : Ev (fun k => impl_splitValues.f k r m) (valsL r m.toNat) := by
  have h := splitValues_l0 r m.toNat (by omega) m.toNat 0 (by omega)
  rw [Int.toNat_of_nonneg h0] at h
  simpa [impl_splitValues.f, valsL] using h
theorem spec_l1Has_l0 (x : Int) (l : List Int) (hl : l.length < 9223372036854775807) : ∀ (d k i : Nat), i + d = l.length → d < k → spec_l1Has.l0 k x l (l.length : Int) (i : Int) = some ((l.drop i).contains x) := by
  intro d
  induction d with
  | zero =>
    intro k i h hk
    obtain ⟨k, rfl⟩ : ∃ m, k = m + 1 := ⟨k - 1, by omega⟩
    simp only [spec_l1Has.l0]
    rw [if_neg (by omega), List.drop_of_length_le (by omega)]
    rfl
  | succ d ih =>
    intro k i h hk
    obtain ⟨k, rfl⟩ : ∃ m, k = m + 1 := ⟨k - 1, by omega⟩
    have hil : i < l.length := by omega
    have e : (i : Int) + 1 = ((i + 1 : Nat) : Int) := by omega
    simp only [spec_l1Has.l0]
    rw [if_pos (by omega), if_pos (by omega), if_pos (by omega), rd_at l i hil, List.drop_eq_getElem_cons hil, wrap_id (by omega) (by omega), e, List.contains_cons]
    by_cases c : l[i] = x
    · rw [if_pos c, c]
      simp
    · rw [if_neg c, ih k (i + 1) (by omega) (by omega)]
      have : (x == l[i]) = false := by simpa using fun h => c h.symm
      rw [this, Bool.false_or]
theorem spec_l1Has_ev (l : List Int) (x : Int) (hl : l.length < 9223372036854775807) : Ev (fun k => spec_l1Has.f k l x) (l.contains x) :=
  ⟨l.length + 1, fun k hk => by
    have := spec_l1Has_l0 x l hl l.length k 0 (by omega) (by omega)
    simpa [spec_l1Has.f] using this⟩
theorem spec_slCan_succ (k : Nat) (r h p : Int) (hh0 : 0 ≤ h) (hh1 : h ≤ 1000) : spec_slCan.f (k + 1) r h p = some (canB r h p) := by
  unfold spec_slCan.f
  have e1 : wrap64 (Int.tdiv h 2) = h / 2 := by rw [Int.tdiv_eq_ediv_of_nonneg hh0]; exact wrap_id (by omega) (by omega)
  simp only [spec_slCan.j0, e1]
  unfold canB
  by_cases c1 : p < 1
  · simp [c1]
    omega
  · by_cases c2 : p > h / 2
    · have c3 : ¬ 2 * p ≤ h := by omega
      simp [c1, c2, c3]
    · have c3 : 2 * p ≤ h := by omega
      have c4 : 1 ≤ p := by omega
      have e2 : wrap64 (2 * p) = 2 * p := wrap_id (by omega) (by omega)
      simp only [e2]
      by_cases c5 : r = 0
      · subst c5
        by_cases c6 : 2 * p = h
        · simp [c1, c2, c3, c4, c6]
        · have c7 : 2 * p < h := by omega
          simp [c1, c2, c3, c4, c6, c7]
      · by_cases c6 : r = 2
        · subst c6
          by_cases c7 : p > 1
          · have c8 : 2 ≤ p := by omega
            simp [c1, c2, c3, c4, c7, c8]
          · have c8 : ¬ 2 ≤ p := by omega
            simp [c1, c2, c3, c4, c7, c8]
        · simp [c1, c2, c3, c4, c5, c6]
theorem slCan_ev (r h p : Int) (hh0 : 0 ≤ h) (hh1 : h ≤ 1000) : Ev (fun k => spec_slCan.f k r h p) (canB r h p) := Ev_add 1 ⟨0, fun k _ => spec_slCan_succ k r h p hh0 hh1⟩
theorem slValues_l2 (r most : Int) (out s : List Int) (n : Int) (hn : n ≤ 60) (hn0 : 0 ≤ n) (ho : out.length < 1000) (hs : s.length < 1000) (res : List Int) : ∀ (d : Nat) (v : Int), 0 ≤ v → v + d ≤ 1000 → (∃ e : Nat, e ≤ d ∧ s.contains (v + e) = false) → Ev (fun k => spec_slValues.l0 k r most (out ++ [mexF s d v]) (n + 1)) res → Ev (fun k => spec_slValues.l2 k r most out n s v) res := by
  have w2 : wrap64 (n + 1) = n + 1 := wrap_id (by omega) (by omega)
  have c2 : out.length < 17592186044416 := by omega
  intro d
  induction d with
  | zero =>
    intro v h0 h1 ⟨e, he, hf⟩ hr
    obtain rfl : e = 0 := by omega
    have hf : s.contains v = false := by simpa using hf
    refine Ev_add 1 ?_
    simp only [spec_slValues.l2]
    refine Ev.bind (spec_l1Has_ev s v (by omega)) ?_
    simp only [hf, Bool.false_eq_true, if_false, if_pos c2, w2]
    exact hr
  | succ d ih =>
    intro v h0 h1 ⟨e, he, hf⟩ hr
    have w3 : wrap64 (v + 1) = v + 1 := wrap_id (by omega) (by omega)
    refine Ev_add 1 ?_
    simp only [spec_slValues.l2]
    refine Ev.bind (spec_l1Has_ev s v (by omega)) ?_
    cases hc : s.contains v with
    | true =>
      simp only [mexF, hc, if_true] at hr
      simp only [if_true, w3]
      have e0 : e ≠ 0 := by
        rintro rfl
        rw [show v + ((0 : Nat) : Int) = v by omega, hc] at hf
        cases hf
      exact ih (v + 1) (by omega) (by omega) ⟨e - 1, by omega, by rw [show v + 1 + ((e - 1 : Nat) : Int) = v + (e : Int) by omega]; exact hf⟩ hr
    | false =>
      simp only [mexF, hc, Bool.false_eq_true, if_false] at hr
      simp only [Bool.false_eq_true, if_false, if_pos c2, w2]
      exact hr
theorem slValues_l1 (r most : Int) (out : List Int) (n : Int) (hn : n ≤ 60) (hn0 : 1 ≤ n) (ho : (out.length : Int) = n) (res : List Int) : ∀ (d : Nat) (p : Int) (s : List Int), 1 ≤ p → p + d = 32 → s.length + d ≤ 31 → Ev (fun k => spec_slValues.l0 k r most (out ++ [mexF (s ++ takenL r out n d p) 32 0]) (n + 1)) res → Ev (fun k => spec_slValues.l1 k r most out n s p) res := by
  have fin : ∀ (s : List Int), s.length ≤ 31 → Ev (fun k => spec_slValues.l0 k r most (out ++ [mexF s 32 0]) (n + 1)) res → Ev (fun k => spec_slValues.l2 k r most out n s 0) res := by
    intro s hs hr
    obtain ⟨e, he, hf⟩ := free_at s.length s 0 (Nat.le_refl _)
    exact slValues_l2 r most out s n hn (by omega) (by omega) (by omega) res 32 0 (by omega) (by omega) ⟨e, by omega, hf⟩ hr
  intro d
  induction d with
  | zero =>
    intro p s hp hd hs hr
    have w1 : wrap64 (2 * p) = 2 * p := wrap_id (by omega) (by omega)
    have c1 : ¬ 2 * p ≤ n := by omega
    refine Ev_add 1 ?_
    simp only [spec_slValues.l1, w1, if_neg c1]
    exact fin s (by omega) (by simpa [takenL] using hr)
  | succ d ih =>
    intro p s hp hd hs hr
    have w1 : wrap64 (2 * p) = 2 * p := wrap_id (by omega) (by omega)
    have w3 : wrap64 (p + 1) = p + 1 := wrap_id (by omega) (by omega)
    have w4 : wrap64 (n - p) = n - p := wrap_id (by omega) (by omega)
    by_cases c1 : 2 * p ≤ n
    · have s1 := slCan_ev r n p (by omega) (by omega)
      have b1 : 0 ≤ p := by omega
      have b2 : p < (out.length : Int) := by omega
      have b3 : 0 ≤ n - p := by omega
      have b4 : n - p < (out.length : Int) := by omega
      have b5 : s.length < 17592186044416 := by omega
      simp only [takenL, if_pos c1] at hr
      refine Ev_add 1 ?_
      simp only [spec_slValues.l1, w1, if_pos c1]
      refine Ev.bind s1 ?_
      cases hb : canB r n p with
      | false =>
        simp only [hb, Bool.false_eq_true, if_false] at hr
        simp only [Bool.false_eq_true, if_false, w3]
        exact ih (p + 1) s (by omega) (by omega) (by omega) (by simpa using hr)
      | true =>
        simp only [hb, if_true] at hr
        simp only [if_true, if_pos b1, if_pos b2, w4, if_pos b3, if_pos b4, if_pos b5, w3]
        exact ih (p + 1) _ (by omega) (by omega) (by simp; omega) (by simpa using hr)
    · simp only [takenL, if_neg c1, List.append_nil] at hr
      refine Ev_add 1 ?_
      simp only [spec_slValues.l1, w1, if_neg c1]
      exact fin s (by omega) hr
theorem slValues_l0 (r : Int) (m : Nat) (hm : m ≤ 60) : ∀ (d n : Nat), n + d = m → Ev (fun k => spec_slValues.l0 k r (m : Int) (valsL r n) ((n : Int) + 1)) (valsL r m) := by
  intro d
  induction d with
  | zero =>
    intro n h
    obtain rfl : n = m := by omega
    have c1 : ¬ (n : Int) + 1 ≤ (n : Int) := by omega
    refine Ev_add 1 ?_
    simp only [spec_slValues.l0, if_neg c1]
    exact Ev.now _
  | succ d ih =>
    intro n h
    have c1 : (n : Int) + 1 ≤ (m : Int) := by omega
    refine Ev_add 1 ?_
    simp only [spec_slValues.l0, if_pos c1]
    refine slValues_l1 r m (valsL r n) ((n : Int) + 1) (by omega) (by omega) (by rw [valsL_length]; omega) _ 31 1 [] (by omega) (by omega) (by simp) ?_
    have := ih (n + 1) (by omega)
    simpa [valsL] using this
theorem slValues_ev (r : Int) (m : Int) (h0 : 0 ≤ m) (h1 : m ≤ 60) : Ev (fun k => spec_slValues.f k r m) (valsL r m.toNat) := by
  have h := slValues_l0 r m.toNat (by omega) m.toNat 0 (by omega)
  rw [Int.toNat_of_nonneg h0] at h
  simpa [spec_slValues.f, valsL] using h
theorem impl_isRule_eq (r : Int) : impl_isRule.f r = some (inR r 0 2) := by
  unfold impl_isRule.f
  rw [impl_within_eq]
  rfl
theorem impl_isSplitHeap_eq (r h m : Int) : impl_isSplitHeap.f r h m = some (inR r 0 2 && inR h 1 m) := by
  unfold impl_isSplitHeap.f
  rw [impl_isRule_eq, impl_within_eq]
  cases inR r 0 2 <;> rfl
theorem spec_l1In_eq (a lo hi : Int) : spec_l1In.f a lo hi = some (inR a lo hi) := by
  unfold spec_l1In.f inR
  by_cases h : lo ≤ a <;> simp [h]
theorem spec_slRule_eq (r : Int) : spec_slRule.f r = some (inR r 0 2) := by
  unfold spec_slRule.f
  rw [spec_l1In_eq]
  rfl
theorem impl_LosingHeaps_l0 (vs : List Int) (hv : vs.length ≤ 1000) : ∀ (d i : Nat) (out : List Int), i + d = vs.length → out.length ≤ i → Ev (fun k => impl_LosingHeaps.l0 k out vs (vs.length : Int) (i : Int)) (out ++ losersL vs d i, true) := by
  intro d
  induction d with
  | zero =>
    intro i out hi ho
    have c1 : ¬ (i : Int) < (vs.length : Int) := by omega
    refine Ev_add 1 ?_
    simp only [impl_LosingHeaps.l0, if_neg c1, losersL, List.append_nil]
    exact Ev.now _
  | succ d ih =>
    intro i out hi ho
    have c1 : (i : Int) < (vs.length : Int) := by omega
    have c2 : 0 ≤ (i : Int) := by omega
    have c3 : out.length < 17592186044416 := by omega
    have w1 : wrap64 ((i : Int) + 1) = ((i + 1 : Nat) : Int) := by rw [wrap_id (by omega) (by omega)]; omega
    refine Ev_add 1 ?_
    simp only [impl_LosingHeaps.l0, if_pos c1, if_pos c2, w1, losersL]
    by_cases c4 : (i : Int) > 0
    · have c4' : 0 < i := by omega
      simp only [if_pos c4, c4', true_and]
      by_cases c5 : rd vs (i : Int) = 0
      · simp only [if_pos c5, if_pos c3]
        have := ih (i + 1) (out ++ [(i : Int)]) (by omega) (by simp; omega)
        simpa using this
      · simp only [if_neg c5, List.nil_append]
        exact ih (i + 1) out (by omega) (by omega)
    · have c4' : ¬ 0 < i := by omega
      simp only [if_neg c4, c4', false_and, if_false, List.nil_append]
      exact ih (i + 1) out (by omega) (by omega)
theorem spec_LosingHeaps_l0 (vs : List Int) (hv : vs.length ≤ 1000) : ∀ (d i : Nat) (out : List Int), i + d = vs.length → out.length ≤ i → Ev (fun k => spec_LosingHeaps.l0 k out vs (vs.length : Int) (i : Int)) (out ++ losersL vs d i, true) := by
  intro d
  induction d with
  | zero =>
    intro i out hi ho
    have c1 : ¬ (i : Int) < (vs.length : Int) := by omega
    refine Ev_add 1 ?_
    simp only [spec_LosingHeaps.l0, if_neg c1, losersL, List.append_nil]
    exact Ev.now _
  | succ d ih =>
    intro i out hi ho
    have c1 : (i : Int) < (vs.length : Int) := by omega
    have c2 : 0 ≤ (i : Int) := by omega
    have c3 : out.length < 17592186044416 := by omega
    have w1 : wrap64 ((i : Int) + 1) = ((i + 1 : Nat) : Int) := by rw [wrap_id (by omega) (by omega)]; omega
    refine Ev_add 1 ?_
    simp only [spec_LosingHeaps.l0, if_pos c1, if_pos c2, w1, losersL]
    by_cases c4 : (i : Int) > 0
    · have c4' : 0 < i := by omega
      simp only [if_pos c4, c4', true_and]
      by_cases c5 : rd vs (i : Int) = 0
      · simp only [if_pos c5, if_pos c3]
        have := ih (i + 1) (out ++ [(i : Int)]) (by omega) (by simp; omega)
        simpa using this
      · simp only [if_neg c5, List.nil_append]
        exact ih (i + 1) out (by omega) (by omega)
    · have c4' : ¬ 0 < i := by omega
      simp only [if_neg c4, c4', false_and, if_false, List.nil_append]
      exact ih (i + 1) out (by omega) (by omega)
theorem agree_LosingHeaps (r m : Int) : ∃ v, Ev (fun k => spec_LosingHeaps.f k r m) v ∧ Ev (fun k => impl_LosingHeaps.f k r m) v ∧ v.1.length ≤ 1000 := by
  refine ⟨if (inR r 0 2 && inR m 1 60) = true then (losersL (valsL r m.toNat) (m.toNat + 1) 0, true) else ([], false), ?_, ?_, ?_⟩
  · unfold spec_LosingHeaps.f
    simp only [spec_slRule_eq, spec_l1In_eq, Option.bind_some]
    cases hb : inR r 0 2 with
    | false =>
      simp only [Bool.false_eq_true, if_false, Bool.false_and]
      refine Ev_add 1 ?_
      simp only [spec_LosingHeaps.j0, if_true]
      exact Ev.now _
    | true =>
      cases hc : inR m 1 60 with
      | false =>
        simp only [if_true, Bool.true_and, Bool.not_false, Bool.false_eq_true, if_false]
        refine Ev_add 1 ?_
        simp only [spec_LosingHeaps.j0, if_true]
        exact Ev.now _
      | true =>
        rw [inR_iff] at hc
        simp only [if_true, Bool.true_and, Bool.not_true]
        refine Ev_add 1 ?_
        simp only [spec_LosingHeaps.j0, Bool.false_eq_true, if_false]
        refine Ev.bind (Ev_shift 0 (slValues_ev r m (by omega) (by omega))) ?_
        have h := spec_LosingHeaps_l0 (valsL r m.toNat) (by rw [valsL_length]; omega) (m.toNat + 1) 0 [] (by rw [valsL_length]; omega) (by simp)
        simpa using h
  · unfold impl_LosingHeaps.f
    simp only [impl_isSplitHeap_eq, Option.bind_some]
    cases hb : (inR r 0 2 && inR m 1 60) with
    | false =>
      simp only [Bool.false_eq_true, if_false]
      exact Ev.now _
    | true =>
      rw [Bool.and_eq_true, inR_iff, inR_iff] at hb
      simp only [if_true]
      refine Ev.bind (splitValues_ev r m (by omega) (by omega)) ?_
      have h := impl_LosingHeaps_l0 (valsL r m.toNat) (by rw [valsL_length]; omega) (m.toNat + 1) 0 [] (by rw [valsL_length]; omega) (by simp)
      simpa using h
  · cases hb : (inR r 0 2 && inR m 1 60) with
    | false => simp
    | true =>
      rw [Bool.and_eq_true, inR_iff, inR_iff] at hb
      have := losersL_length (valsL r m.toNat) (m.toNat + 1) 0
      simp only [if_true]
      omega
theorem eqIntS_l0 (a b : List Int) (hl : a.length = b.length) (hm : a.length < 9223372036854775807) : ∀ (d k i : Nat), i + d = a.length → d < k → laws_eqIntS.l0 k a b (i : Int) = some (decide (a.drop i = b.drop i)) := by
  intro d
  induction d with
  | zero =>
    intro k i h hk
    obtain ⟨k, rfl⟩ : ∃ m, k = m + 1 := ⟨k - 1, by omega⟩
    simp only [laws_eqIntS.l0]
    rw [if_neg (by omega), List.drop_of_length_le (by omega), List.drop_of_length_le (by omega)]
    simp
  | succ d ih =>
    intro k i h hk
    obtain ⟨k, rfl⟩ : ∃ m, k = m + 1 := ⟨k - 1, by omega⟩
    have hi : i < a.length := by omega
    have hj : i < b.length := by omega
    have e : (i : Int) + 1 = ((i + 1 : Nat) : Int) := by omega
    simp only [laws_eqIntS.l0]
    rw [if_pos (by omega), if_pos (by omega), if_pos (by omega), rd_at a i hi, rd_at b i hj, wrap_id (by omega) (by omega), e]
    rw [List.drop_eq_getElem_cons hi, List.drop_eq_getElem_cons hj]
    by_cases c : a[i] = b[i]
    · rw [if_pos c, ih k (i + 1) (by omega) (by omega), c]
      exact congrArg some (decide_eq_decide.mpr ⟨fun h => by rw [h], fun h => (List.cons.inj h).2⟩)
    · rw [if_neg c]
      exact congrArg some (decide_eq_false fun h => c (List.cons.inj h).1).symm
theorem eqIntS_ev (a b : List Int) (hm : a.length < 9223372036854775807) : Ev (fun k => laws_eqIntS.f k a b) (decide (a = b)) := by
  by_cases hl : a.length = b.length
  · refine ⟨a.length + 1, fun k hk => ?_⟩
    have h := eqIntS_l0 a b hl hm a.length k 0 (by omega) (by omega)
    show laws_eqIntS.f k a b = _
    unfold laws_eqIntS.f
    rw [if_pos (by omega)]
    simpa using h
  · refine ⟨0, fun k hk => ?_⟩
    show laws_eqIntS.f k a b = _
    unfold laws_eqIntS.f
    rw [if_neg (by omega)]
    have : a ≠ b := fun h => hl (by rw [h])
    simp [this]
theorem eqIntS_self (a : List Int) (hm : a.length < 9223372036854775807) : Ev (fun k => laws_eqIntS.f k a a) true := by
  have := eqIntS_ev a a hm
  simpa using this
/-- k, k + 1, .. : so many numbers. -/
def iota : Nat → Int → List Int
  | 0, _ => []
  | n + 1, k => k :: iota n (k + 1)
theorem iota_length : ∀ (n : Nat) (k : Int), (iota n k).length = n
  | 0, _ => rfl
  | n + 1, k => by simp [iota, iota_length n]
theorem markIntS_l0 : ∀ (d k : Nat) (pre l : List Int) (i : Nat) (m : Int), i = pre.length → l.length = d → d < k → 0 ≤ m → m + d < 9223372036854775807 → pre.length + d < 9223372036854775807 → laws_markIntS.l0 k (pre ++ l) m (i : Int) = some (m + d, pre ++ iota d m) := by
  intro d
  induction d with
  | zero =>
    intro k pre l i m hi hd hk h0 h1 h2
    obtain ⟨k, rfl⟩ : ∃ m, k = m + 1 := ⟨k - 1, by omega⟩
    obtain rfl : l = [] := List.eq_nil_of_length_eq_zero hd
    subst hi
    simp only [laws_markIntS.l0]
    rw [if_neg (by simp)]
    simp [iota]
  | succ d ih =>
    intro k pre l i m hi hd hk h0 h1 h2
    obtain ⟨k, rfl⟩ : ∃ m, k = m + 1 := ⟨k - 1, by omega⟩
    cases l with
    | nil => simp at hd
    | cons x xs =>
      subst hi
      have e : (pre.length : Int) + 1 = ((pre ++ [m]).length : Int) := by simp
      simp only [laws_markIntS.l0]
      rw [if_pos (by simp; omega), if_pos (by omega), Int.toNat_natCast, wrap_id (x := m + 1) (by omega) (by omega), wrap_id (x := (pre.length : Int) + 1) (by omega) (by omega), e]
      have es : (pre ++ x :: xs).set pre.length m = (pre ++ [m]) ++ xs := by simp
      rw [es, ih k (pre ++ [m]) xs (pre ++ [m]).length (m + 1) rfl (by simpa using hd) (by omega) (by omega) (by omega) (by simp; omega)]
      simp [iota]
      omega
theorem markIntS_ev (l : List Int) (m : Int) (h0 : 0 ≤ m) (h1 : m + l.length < 9223372036854775807) : Ev (fun k => laws_markIntS.f k l m) (m + l.length, iota l.length m) :=
  ⟨l.length + 1, fun k hk => by
    have h := markIntS_l0 l.length k [] l 0 m rfl rfl (by omega) h0 h1 (by simp; omega)
    simpa [laws_markIntS.f] using h⟩
theorem heldIntS_l0 : ∀ (d k : Nat) (pre : List Int) (i : Nat) (m : Int), i = pre.length → d < k → 0 ≤ m → m + d < 9223372036854775807 → pre.length + d < 9223372036854775807 → laws_heldIntS.l0 k (pre ++ iota d m) m (i : Int) = some (m + d) := by
  intro d
  induction d with
  | zero =>
    intro k pre i m hi hk h0 h1 h2
    obtain ⟨k, rfl⟩ : ∃ m, k = m + 1 := ⟨k - 1, by omega⟩
    subst hi
    simp only [laws_heldIntS.l0]
    rw [if_neg (by simp [iota])]
    simp
  | succ d ih =>
    intro k pre i m hi hk h0 h1 h2
    obtain ⟨k, rfl⟩ : ∃ m, k = m + 1 := ⟨k - 1, by omega⟩
    subst hi
    have e : (pre.length : Int) + 1 = ((pre ++ [m]).length : Int) := by simp
    have er : rd (pre ++ iota (d + 1) m) (pre.length : Int) = m := by
      rw [rd_at _ _ (by simp [iota])]
      simp [iota]
    simp only [laws_heldIntS.l0]
    rw [if_pos (by simp [iota]; omega), if_pos (by omega), er, if_pos rfl, wrap_id (x := m + 1) (by omega) (by omega), wrap_id (x := (pre.length : Int) + 1) (by omega) (by omega), e]
    have es : pre ++ iota (d + 1) m = (pre ++ [m]) ++ iota d (m + 1) := by simp [iota]
    rw [es, ih k (pre ++ [m]) (pre ++ [m]).length (m + 1) rfl (by omega) (by omega) (by omega) (by simp; omega)]
    congr 1
    omega
theorem heldIntS_ev (n : Nat) (m : Int) (h0 : 0 ≤ m) (h1 : m + n < 9223372036854775807) : Ev (fun k => laws_heldIntS.f k (iota n m) m) (m + n) :=
  ⟨n + 1, fun k hk => by
    have h := heldIntS_l0 n k [] 0 m rfl (by omega) h0 h1 (by simp; omega)
    simpa [laws_heldIntS.f] using h⟩
theorem FnExactLosingHeaps : laws_FnExactLosingHeaps.Pure := by
  intro r m _ _
  refine Ev.rounds (g := fun k => laws_FnExactLosingHeaps.f k r m) ?_
  unfold laws_FnExactLosingHeaps.f
  obtain ⟨⟨v1, v2⟩, hs, hi, hn⟩ := agree_LosingHeaps r m
  have hn : v1.length ≤ 1000 := hn
  have hQ := eqIntS_self v1 (by omega)
  have hK := markIntS_ev v1 1 (by omega) (by omega)
  have hH := heldIntS_ev v1.length 1 (by omega) (by omega)
  have n2 : ¬ (1 + (v1.length : Int)) < 0 := by omega
  repeat (first
    | exact Ev.now _
    | refine Ev.bind hs ?_
    | refine Ev.bind hi ?_
    | refine Ev.bind hQ ?_
    | refine Ev.bind hK ?_
    | refine Ev.bind hH ?_
    | simp only [if_true, bne_self_eq_false, Bool.false_eq_true, if_false, if_neg n2]
    | (refine Ev_add 1 ?_; simp only [laws_FnExactLosingHeaps.j0])
    | (refine Ev_add 1 ?_; simp only [laws_FnExactLosingHeaps.j1]))

end Go.Proofs.Ytbamooigfbbkaaa.Pure
