/-
  The program's PuzzleText returns what the reference's returns, for all arguments: the plain half, about the printed functions alone.
  Conditions: those of the statement's own row; none is added.
-/
import Derived.Test.YtnijlmfamdhjmaaDoorPAx6
namespace Go.Proofs.YtnijlmfamdhjmaaDoor.Pure
set_option linter.unusedVariables false
set_option linter.unusedSimpArgs false
open Go.RowKit Go.Proofs.YtnijlmfamdhjmaaDoor.PA Go.Proofs.YtnijlmfamdhjmaaDoorW.PrintWords Go.Proofs.YtnijlmfamdhjmaaDoorW.PrintLast Go.Proofs.YtnijlmfamdhjmaaDoorW.PrintMore Go.Proofs.YtnijlmfamdhjmaaDoorB

theorem Ev_add {α : Type} {g : Nat → Option α} {r : α} (m : Nat) (h : Ev (fun k => g (k + m)) r) : Ev g r := by
 obtain ⟨K, hK⟩ := h
 refine ⟨K + m, fun k hk => ?_⟩
 have h1 := hK (k - m) (by omega)
 simp only at h1
 rwa [Nat.sub_add_cancel (by omega)] at h1
theorem Ev_shift {α : Type} {g : Nat → Option α} {r : α} (m : Nat) (h : Ev g r) : Ev (fun k => g (k + m)) r := by
 obtain ⟨K, hK⟩ := h
 exact ⟨K, fun k hk => hK (k + m) (by omega)⟩
theorem wrap_id {x : Int} (h0 : -9223372036854775808 ≤ x) (h1 : x ≤ 9223372036854775807) : wrap64 x = x := by
 unfold wrap64
 omega
theorem rd_at (l : List Int) (i : Nat) (h : i < l.length) : rd l (i : Int) = l[i] := rd_get l i h
theorem rd_append_left (l m : List Int) (i : Int) (h0 : 0 ≤ i) (h : i < l.length) : rd (l ++ m) i = rd l i := by
 unfold rd
 rw [List.getD_eq_getElem?_getD, List.getD_eq_getElem?_getD, List.getElem?_append_left (by omega)]
def inR (a lo hi : Int) : Bool := decide (lo ≤ a) && decide (a ≤ hi)
theorem inR_iff {a lo hi : Int} : inR a lo hi = true ↔ lo ≤ a ∧ a ≤ hi := by simp [inR]
/-- What is asked of a clue, by its kind; x5: two heaps are told, x6: none is, x42: the kind is 0 or 3. -/
def clueBody (h : Int) (x5 x6 : Bool) (K : Int) (x42 : Bool) (A B C : Int) : Bool :=
 if x42 = true then x6 && inR C 0 20 else if K = 1 then x5 && inR C 0 1 else if K = 2 then inR A 0 5 && ((B == 0) && inR C 0 h) else if K = 4 then x5 && inR C 0 10 else if K = 5 then x6 && inR C 0 5 else false
def twoB (h A B : Int) : Bool := inR A 0 (h - 1) && (inR B 0 (h - 1) && (A != B))
def clueB (h K A B C : Int) : Bool := clueBody h (twoB h A B) ((A == 0) && (B == 0)) K ((K == 0) || (K == 3)) A B C
/-- A puzzle: the number of heaps, and the clues. -/
def goodP (h : Int) (cs : List S44) : Bool := inR h 2 4 && (decide ((cs.length : Int) ≤ 6) && cs.all fun c => clueB h c.f0 c.f1 c.f2 c.f3)
theorem rdClue_at (l : List S44) (i : Nat) (h : i < l.length) : rd_T44 l (i : Int) = l[i] := by
 unfold rd_T44
 simp [h]
theorem goodP_len {h : Int} {l : List S44} (hb : goodP h l = true) : l.length ≤ 6 := by
 unfold goodP at hb
 rw [Bool.and_eq_true, Bool.and_eq_true, decide_eq_true_eq] at hb
 omega
/-- A text by its bytes. -/
def ofL (l : List UInt8) : ByteArray := ⟨l.toArray⟩
theorem ofL_append (l m : List UInt8) : ofL l ++ ofL m = ofL (l ++ m) := by
 apply ByteArray.ext
 simp [ofL, ByteArray.data_append]
theorem ofL_size (l : List UInt8) : (ofL l).size = l.length := by
 show l.toArray.size = _
 simp
theorem ofL_list (l : List UInt8) : (ofL l).data.toList = l := by
 simp [ofL]
/-- The digits of a number. -/
def dgt (n : Int) : List UInt8 := Lib.decDigits n.toNat
theorem strconv_Itoa_eq (n : Int) (h0 : 0 ≤ n) (h1 : n < 100) : strconv_Itoa.f n = some (ofL (dgt n)) := by
 unfold strconv_Itoa.f
 rw [if_pos ⟨h0, h1⟩]
 rfl
theorem dgt_small : ∀ i : Nat, i < 21 → (dgt (i : Int)).length ≤ 2 ∧ spec_l1Num.f 3 (i : Int) = some (ofL (dgt (i : Int))) := by decide +kernel
theorem dgt_len (n : Int) (h0 : 0 ≤ n) (h1 : n ≤ 20) : (dgt n).length ≤ 2 := by
 obtain ⟨i, rfl⟩ := Int.eq_ofNat_of_zero_le h0
 exact (dgt_small i (by omega)).1
theorem spec_l1Num_ev (n : Int) (h0 : 0 ≤ n) (h1 : n ≤ 20) : Ev (fun k => spec_l1Num.f k n) (ofL (dgt n)) := by
 obtain ⟨i, rfl⟩ := Int.eq_ofNat_of_zero_le h0
 exact Ev.of (fun k => spec_l1Num.mono _ k) (dgt_small i (by omega)).2
/-- All of a clue's numbers are small. -/
def smallC (c : S44) : Prop := (0 ≤ c.f0 ∧ c.f0 ≤ 20) ∧ (0 ≤ c.f1 ∧ c.f1 ≤ 20) ∧ (0 ≤ c.f2 ∧ c.f2 ≤ 20) ∧ (0 ≤ c.f3 ∧ c.f3 ≤ 20)
theorem smallC_of {h : Int} (h2 : 2 ≤ h) (h4 : h ≤ 4) {c : S44} (hc : clueB h c.f0 c.f1 c.f2 c.f3 = true) : smallC c := by
 unfold clueB clueBody twoB at hc
 unfold smallC
 by_cases c0 : (c.f0 == 0 || c.f0 == 3) = true
 ·rw [if_pos c0] at hc
  simp only [Bool.and_eq_true, Bool.or_eq_true, beq_iff_eq, inR_iff] at hc c0
  omega
 ·rw [if_neg c0] at hc
  by_cases c1 : c.f0 = 1
  ·rw [if_pos c1] at hc
   simp only [Bool.and_eq_true, inR_iff] at hc
   omega
  ·rw [if_neg c1] at hc
   by_cases c2 : c.f0 = 2
   ·rw [if_pos c2] at hc
    simp only [Bool.and_eq_true, beq_iff_eq, inR_iff] at hc
    omega
   ·rw [if_neg c2] at hc
    by_cases c4 : c.f0 = 4
    ·rw [if_pos c4] at hc
     simp only [Bool.and_eq_true, inR_iff] at hc
     omega
    ·rw [if_neg c4] at hc
     by_cases c5 : c.f0 = 5
     ·rw [if_pos c5] at hc
      simp only [Bool.and_eq_true, beq_iff_eq, inR_iff] at hc
      omega
     ·rw [if_neg c5] at hc
      cases hc
/-- A clue's text. -/
def clT (c : S44) : List UInt8 := dgt c.f0 ++ ([46] ++ (dgt c.f1 ++ ([46] ++ (dgt c.f2 ++ ([46] ++ dgt c.f3)))))
theorem clT_len {c : S44} (h : smallC c) : (clT c).length ≤ 11 := by
 have h0 := dgt_len _ h.1.1 h.1.2
 have h1 := dgt_len _ h.2.1.1 h.2.1.2
 have h2 := dgt_len _ h.2.2.1.1 h.2.2.1.2
 have h3 := dgt_len _ h.2.2.2.1 h.2.2.2.2
 unfold clT
 simp only [List.length_append, List.length_cons, List.length_nil]
 omega
/-- The texts of clues, from i on, each but the first behind a comma. -/
def clsT : List S44 → Nat → List UInt8
 | [], _ => []
 | c :: t, i => (if i = 0 then [] else [44]) ++ clT c ++ clsT t (i + 1)
theorem clsT_len : ∀ (l : List S44) (i : Nat), (∀ c ∈ l, smallC c) → (clsT l i).length ≤ 12 * l.length
 | [], _, _ => by simp [clsT]
 | c :: t, i, h => by
  have h1 := clT_len (h c List.mem_cons_self)
  have h2 := clsT_len t (i + 1) fun d hd => h d (List.mem_cons_of_mem _ hd)
  rw [clsT, List.length_append, List.length_append, List.length_cons]
  split <;> simp <;> omega
def pzT (h : Int) (l : List S44) : List UInt8 := dgt h ++ [104] ++ clsT l 0
theorem Ev_if {α : Type} {c : Prop} [Decidable c] {g f : Nat → Option α} {r : α} (hc : c) (h : Ev g r) : Ev (fun k => if c then g k else f k) r := by
 simpa only [if_pos hc] using h
theorem spec_pzText_j1 (acc : List UInt8) (ha : acc.length ≤ 100000) (l : List S44) (n i : Int) (c : S44) (hs : smallC c) (R : ByteArray) (hR : Ev (fun k => spec_pzText.l0 k (ofL (acc ++ clT c)) l n (wrap64 (i + 1))) R) : Ev (fun k => spec_pzText.j1 k (ofL acc) l n i c.f0 c.f1 c.f2 c.f3) R := by
 have h0 := dgt_len _ hs.1.1 hs.1.2
 have h1 := dgt_len _ hs.2.1.1 hs.2.1.2
 have h2 := dgt_len _ hs.2.2.1.1 hs.2.2.1.2
 have h3 := dgt_len _ hs.2.2.2.1 hs.2.2.2.2
 have e46 : (⟨#[46]⟩ : ByteArray) = ofL [46] := rfl
 refine Ev_add 1 ?_
 simp only [spec_pzText.j1, e46]
 refine Ev.bind (spec_l1Num_ev _ hs.1.1 hs.1.2) ?_
 refine Ev_if (by simp only [ofL_append, ofL_size, List.length_append, List.length_cons, List.length_nil]; omega) ?_
 refine Ev.bind (spec_l1Num_ev _ hs.2.1.1 hs.2.1.2) ?_
 refine Ev_if (by simp only [ofL_append, ofL_size, List.length_append, List.length_cons, List.length_nil]; omega) ?_
 refine Ev_if (by simp only [ofL_append, ofL_size, List.length_append, List.length_cons, List.length_nil]; omega) ?_
 refine Ev.bind (spec_l1Num_ev _ hs.2.2.1.1 hs.2.2.1.2) ?_
 refine Ev_if (by simp only [ofL_append, ofL_size, List.length_append, List.length_cons, List.length_nil]; omega) ?_
 refine Ev_if (by simp only [ofL_append, ofL_size, List.length_append, List.length_cons, List.length_nil]; omega) ?_
 refine Ev.bind (spec_l1Num_ev _ hs.2.2.2.1 hs.2.2.2.2) ?_
 refine Ev_if (by simp only [ofL_append, ofL_size, List.length_append, List.length_cons, List.length_nil]; omega) ?_
 refine Ev_if (by simp only [ofL_append, ofL_size, List.length_append, List.length_cons, List.length_nil]; omega) ?_
 simp only [ofL_append]
 have e : acc ++ (dgt c.f0 ++ [46] ++ dgt c.f1 ++ [46] ++ dgt c.f2 ++ [46] ++ dgt c.f3) = acc ++ clT c := by
  unfold clT
  simp only [List.append_assoc]
 rw [e]
 exact hR
theorem spec_pzText_l0 (l : List S44) (hl : l.length ≤ 1000) (hs : ∀ c ∈ l, smallC c) : ∀ (d i : Nat) (acc : List UInt8), i + d = l.length → acc.length ≤ 1000 + 12 * i → Ev (fun k => spec_pzText.l0 k (ofL acc) l (l.length : Int) (i : Int)) (ofL (acc ++ clsT (l.drop i) i)) := by
 intro d
 induction d with
 | zero =>
  intro i acc hi ha
  refine Ev_add 1 ?_
  simp only [spec_pzText.l0, if_neg (show ¬ (i : Int) < (l.length : Int) by omega)]
  rw [List.drop_of_length_le (by omega)]
  simp only [clsT, List.append_nil]
  exact Ev.now _
 | succ d ih =>
  intro i acc hi ha
  have hil : i < l.length := by omega
  have hc := hs l[i] (List.getElem_mem hil)
  have hcl := clT_len hc
  have w1 : wrap64 ((i : Int) + 1) = ((i + 1 : Nat) : Int) := by rw [wrap_id (by omega) (by omega)]; omega
  have e44 : (⟨#[44]⟩ : ByteArray) = ofL [44] := rfl
  refine Ev_add 1 ?_
  simp only [spec_pzText.l0, if_pos (show (i : Int) < (l.length : Int) by omega), if_pos (show 0 ≤ (i : Int) by omega), rdClue_at l i hil, e44]
  rw [List.drop_eq_getElem_cons hil, clsT]
  by_cases c0 : i = 0
  ·subst c0
   simp only [if_neg (show ¬ ((0 : Nat) : Int) > 0 by omega), if_true, List.nil_append]
   refine spec_pzText_j1 acc (by omega) l _ _ l[0] hc _ ?_
   rw [w1, ← List.append_assoc]
   exact ih 1 (acc ++ clT l[0]) (by omega) (by rw [List.length_append]; omega)
  ·simp only [if_pos (show (i : Int) > 0 by omega), if_neg c0]
   refine Ev_if (by simp only [ofL_append, ofL_size]; omega) ?_
   simp only [ofL_append]
   refine spec_pzText_j1 (acc ++ [44]) (by rw [List.length_append, List.length_singleton]; omega) l _ _ l[i] hc _ ?_
   rw [w1]
   have := ih (i + 1) (acc ++ [44] ++ clT l[i]) (by omega) (by simp only [List.length_append, List.length_singleton]; omega)
   have e : acc ++ ([44] ++ clT l[i] ++ clsT (l.drop (i + 1)) (i + 1)) = acc ++ [44] ++ clT l[i] ++ clsT (l.drop (i + 1)) (i + 1) := by simp only [List.append_assoc]
   rw [e]
   exact this
theorem spec_pzText_ev (h : Int) (l : List S44) (hb : goodP h l = true) : Ev (fun k => spec_pzText.f k h l) (ofL (pzT h l)) := by
 have hn := goodP_len hb
 have hh : (2 ≤ h ∧ h ≤ 4) ∧ ∀ c ∈ l, smallC c := by
  unfold goodP at hb
  rw [Bool.and_eq_true, Bool.and_eq_true, inR_iff, List.all_eq_true] at hb
  exact ⟨hb.1, fun c hc => smallC_of hb.1.1 hb.1.2 (hb.2.2 c hc)⟩
 have e104 : (⟨#[104]⟩ : ByteArray) = ofL [104] := rfl
 have hd := dgt_len h (by omega) (by omega)
 unfold spec_pzText.f
 refine Ev.bind (spec_l1Num_ev h (by omega) (by omega)) ?_
 simp only [e104]
 refine Ev_if (by simp only [ofL_size]; omega) ?_
 simp only [ofL_append]
 have := spec_pzText_l0 l (by omega) hh.2 l.length 0 (dgt h ++ [104]) (by omega) (by rw [List.length_append, List.length_singleton]; omega)
 simpa [pzT] using this
theorem strings_Join_eq (xs : List (List UInt8)) (sep : List UInt8) (h1 : xs.length ≤ 1000000) (h2 : (Lib.join xs sep).length ≤ 1000000) : strings_Join.f (xs.map ofL) (ofL sep) = some (ofL (Lib.join xs sep)) := by
 have e : (xs.map ofL).map (fun x : ByteArray => x.data.toList) = xs := by
  rw [List.map_map]
  have : (fun x : ByteArray => x.data.toList) ∘ ofL = id := by
   funext l
   exact ofL_list l
  rw [this, List.map_id]
 unfold strings_Join.f
 rw [e, ofL_list, List.length_map, if_pos ⟨h1, h2⟩]
 rfl
theorem impl_joined_l0 (sep : List UInt8) (l : List Int) (hl : l.length ≤ 1000) (hs : ∀ x ∈ l, 0 ≤ x ∧ x < 100) (hj : (Lib.join (l.map dgt) sep).length ≤ 1000000) : ∀ (d i : Nat) (acc : List (List UInt8)), i + d = l.length → acc ++ (l.drop i).map dgt = l.map dgt → Ev (fun k => impl_joined.l0 k (ofL sep) (acc.map ofL) l (l.length : Int) (i : Int)) (ofL (Lib.join (l.map dgt) sep)) := by
 intro d
 induction d with
 | zero =>
  intro i acc hi he
  rw [List.drop_of_length_le (by omega), List.map_nil, List.append_nil] at he
  subst he
  refine Ev_add 1 ?_
  simp only [impl_joined.l0, if_neg (show ¬ (i : Int) < (l.length : Int) by omega), strings_Join_eq (l.map dgt) sep (by rw [List.length_map]; omega) hj, Option.bind_some]
  exact Ev.now _
 | succ d ih =>
  intro i acc hi he
  have hil : i < l.length := by omega
  have hx := hs l[i] (List.getElem_mem hil)
  have w1 : wrap64 ((i : Int) + 1) = ((i + 1 : Nat) : Int) := by rw [wrap_id (by omega) (by omega)]; omega
  have hlen := congrArg List.length he
  simp only [List.length_append, List.length_map, List.length_drop] at hlen
  refine Ev_add 1 ?_
  simp only [impl_joined.l0, if_pos (show (i : Int) < (l.length : Int) by omega), if_pos (show 0 ≤ (i : Int) by omega), rd_at l i hil, strconv_Itoa_eq _ hx.1 hx.2, Option.bind_some, List.length_map, if_pos (show acc.length < 8796093022208 by omega), w1]
  have := ih (i + 1) (acc ++ [dgt l[i]]) (by omega) (by
   rw [List.drop_eq_getElem_cons hil, List.map_cons] at he
   rw [List.append_assoc]
   exact he)
  rwa [List.map_append, List.map_singleton] at this
theorem impl_joined_ev (sep : List UInt8) (l : List Int) (hl : l.length ≤ 1000) (hs : ∀ x ∈ l, 0 ≤ x ∧ x < 100) (hj : (Lib.join (l.map dgt) sep).length ≤ 1000000) : Ev (fun k => impl_joined.f k l (ofL sep)) (ofL (Lib.join (l.map dgt) sep)) := by
 unfold impl_joined.f
 have := impl_joined_l0 sep l hl hs hj l.length 0 [] (by omega) (by simp)
 simpa using this
theorem join_clue (c : S44) : Lib.join ([c.f0, c.f1, c.f2, c.f3].map dgt) [46] = clT c := by
 simp only [List.map_cons, List.map_nil, Lib.join_cons, Lib.joinTail, List.flatten_cons, List.flatten_nil, List.append_nil, clT, List.append_assoc]
theorem join_cls : ∀ (l : List S44) , Lib.join (l.map clT) [44] = clsT l 0 := by
 have tail : ∀ (l : List S44) (i : Nat), Lib.joinTail [44] (l.map clT) = clsT l (i + 1) := by
  intro l
  induction l with
  | nil => intro i; rfl
  | cons c t ih =>
   intro i
   rw [clsT, ← ih (i + 1)]
   simp only [List.map_cons, Lib.joinTail, List.flatten_cons, if_neg (Nat.succ_ne_zero i), List.append_assoc]
 intro l
 cases l with
 | nil => rfl
 | cons c t =>
  rw [List.map_cons, Lib.join_cons, tail t 0, clsT]
  simp
theorem impl_within_eq (a lo hi : Int) : impl_within.f a lo hi = some (inR a lo hi) := by
 unfold impl_within.f inR
 by_cases h : lo ≤ a <;> simp [h]
theorem impl_IsClue_j2 (k : Nat) (h : Int) (x5 x6 : Bool) (K : Int) (x42 : Bool) (K0 A B C : Int) : impl_IsClue.j2 (k + 1) h x5 x6 K x42 K0 A B C = some (clueBody h x5 x6 K x42 A B C) := by
 simp only [impl_IsClue.j2, impl_within_eq, Option.bind_some, clueBody]
 by_cases c1 : x42 = true
 ·simp only [if_pos c1]; cases x6 <;> rfl
 ·simp only [if_neg c1]
  by_cases c2 : K = 1
  ·simp only [if_pos c2]; cases x5 <;> rfl
  ·simp only [if_neg c2]
   by_cases c3 : K = 2
   ·simp only [if_pos c3]
    by_cases c5 : B = 0
    ·simp only [if_pos c5, beq_iff_eq.mpr c5]; cases inR A 0 5 <;> rfl
    ·simp only [if_neg c5, beq_eq_false_iff_ne.mpr c5]; cases inR A 0 5 <;> rfl
   ·simp only [if_neg c3]
    by_cases c4 : K = 4
    ·simp only [if_pos c4]; cases x5 <;> rfl
    ·simp only [if_neg c4]
     by_cases c5 : K = 5
     ·simp only [if_pos c5]; cases x6 <;> rfl
     ·simp only [if_neg c5]
theorem impl_IsClue_succ (k : Nat) (h K A B C : Int) : impl_IsClue.f (k + 3) h K A B C = some (inR h 2 4 && clueB h K A B C) := by
 unfold impl_IsClue.f
 simp only [impl_within_eq, Option.bind_some]
 cases hb : inR h 2 4 with
 | false => rfl
 | true =>
  simp only [if_true, Bool.true_and]
  have e : ∀ x5, impl_IsClue.j0 (k + 3) h x5 K A B C = some (clueBody h x5 ((A == 0) && (B == 0)) K ((K == 0) || (K == 3)) A B C) := by
   intro x5
   simp only [impl_IsClue.j0]
   by_cases c : A = 0
   ·simp only [if_pos c, beq_iff_eq.mpr c, Bool.true_and, impl_IsClue.j1]
    by_cases c2 : K = 0
    ·simp only [if_pos c2, impl_IsClue_j2, beq_iff_eq.mpr c2, Bool.true_or]
    ·simp only [if_neg c2, impl_IsClue_j2, beq_eq_false_iff_ne.mpr c2, Bool.false_or]
   ·simp only [if_neg c, beq_eq_false_iff_ne.mpr c, Bool.false_and, impl_IsClue.j1]
    by_cases c2 : K = 0
    ·simp only [if_pos c2, impl_IsClue_j2, beq_iff_eq.mpr c2, Bool.true_or]
    ·simp only [if_neg c2, impl_IsClue_j2, beq_eq_false_iff_ne.mpr c2, Bool.false_or]
  have t : twoB h A B = if mn A B ≥ 0 then (if mx A B < h then A != B else false) else false := by
   unfold twoB mn mx inR
   by_cases c1 : 0 ≤ A <;> by_cases c2 : 0 ≤ B <;> by_cases c3 : B < A <;> by_cases c4 : A < B <;> by_cases c5 : A ≤ h - 1 <;> by_cases c6 : B ≤ h - 1 <;> simp [c1, c2, c3, c4, c5, c6] <;> omega
  unfold clueB
  rw [t]
  by_cases c1 : mn A B ≥ 0
  ·by_cases c2 : mx A B < h
   ·simp only [if_pos c1, if_pos c2, e]
   ·simp only [if_pos c1, if_neg c2, e]
  ·simp only [if_neg c1, e]
theorem impl_IsClue_ev (h K A B C : Int) : Ev (fun k => impl_IsClue.f k h K A B C) (inR h 2 4 && clueB h K A B C) := Ev_add 3 ⟨0, fun k _ => impl_IsClue_succ k h K A B C⟩
theorem anyO_ev {α : Type} (p : Nat → α → Option Bool) (q : α → Bool) : ∀ l : List α, (∀ x, x ∈ l → Ev (fun k => p k x) (q x)) → Ev (fun k => anyO (p k) l) (l.any q)
 | [], _ => Ev.now _
 | x :: t, h => by
  simp only [anyO]
  refine Ev.bind (h x List.mem_cons_self) ?_
  rw [List.any_cons]
  cases q x with
  | true =>
   simp only [if_true, Bool.true_or]
   exact Ev.now _
  | false =>
   simp only [Bool.false_eq_true, if_false, Bool.false_or]
   exact anyO_ev p q t fun y hy => h y (List.mem_cons_of_mem _ hy)
theorem not_any_not {α : Type} (q : α → Bool) (l : List α) : (!(l.any fun x => !q x)) = l.all q := by
 induction l with
 | nil => rfl
 | cons x t ih => rw [List.any_cons, List.all_cons, ← ih]; cases q x <;> simp
theorem impl_IsPuzzle_ev (h : Int) (l : List S44) : Ev (fun k => impl_IsPuzzle.f k h l) (goodP h l) := by
 unfold impl_IsPuzzle.f goodP
 simp only [impl_within_eq, Option.bind_some]
 cases hb : inR h 2 4 with
 | false =>
  simp only [Bool.false_eq_true, if_false, Bool.false_and]
  exact Ev.now _
 | true =>
  simp only [if_true, Bool.true_and]
  by_cases c : (l.length : Int) ≤ 6
  ·simp only [if_pos c, decide_eq_true c, Bool.true_and]
   have e := anyO_ev (fun k => impl_IsPuzzle_1.f k h) (fun x => !clueB h x.f0 x.f1 x.f2 x.f3) l (fun x _ => by
    unfold impl_IsPuzzle_1.f
    refine Ev.bind (impl_IsClue_ev h _ _ _ _) ?_
    rw [hb, Bool.true_and]
    exact Ev.now _)
   refine Ev.bind e ?_
   rw [← not_any_not]
   exact Ev.now _
  ·simp only [if_neg c, decide_eq_false c, Bool.false_and]
   exact Ev.now _
theorem spec_l1In_eq (a lo hi : Int) : spec_l1In.f a lo hi = some (inR a lo hi) := by
 unfold spec_l1In.f inR
 by_cases h : lo ≤ a <;> simp [h]
theorem spec_pzClue_j2 (k : Nat) (h : Int) (x5 x6 : Bool) (K : Int) (x42 : Bool) (K0 A B C : Int) : spec_pzClue.j2 (k + 1) h x6 x5 K x42 K0 A B C = some (clueBody h x5 x6 K x42 A B C) := by
 simp only [spec_pzClue.j2, spec_l1In_eq, Option.bind_some, clueBody]
 by_cases c1 : x42 = true
 ·simp only [if_pos c1]; cases x6 <;> rfl
 ·simp only [if_neg c1]
  by_cases c2 : K = 1
  ·simp only [if_pos c2]; cases x5 <;> rfl
  ·simp only [if_neg c2]
   by_cases c3 : K = 2
   ·simp only [if_pos c3]
    by_cases c5 : B = 0
    ·simp only [if_pos c5, beq_iff_eq.mpr c5]; cases inR A 0 5 <;> rfl
    ·simp only [if_neg c5, beq_eq_false_iff_ne.mpr c5]; cases inR A 0 5 <;> rfl
   ·simp only [if_neg c3]
    by_cases c4 : K = 4
    ·simp only [if_pos c4]; cases x5 <;> rfl
    ·simp only [if_neg c4]
     by_cases c5 : K = 5
     ·simp only [if_pos c5]; cases x6 <;> rfl
     ·simp only [if_neg c5]
theorem spec_pzClue_ev (h K A B C : Int) (h0 : -1000 ≤ h) (h1 : h ≤ 1000) : Ev (fun k => spec_pzClue.f k h K A B C) (clueB h K A B C) := by
 have w1 : wrap64 (h - 1) = h - 1 := wrap_id (by omega) (by omega)
 have e2 : ∀ x5 x6 A0, Ev (fun k => spec_pzClue.j1 k h x6 x5 K A0 B C) (clueBody h x5 x6 K ((K == 0) || (K == 3)) A0 B C) := by
  intro x5 x6 A0
  refine Ev_add 2 ⟨0, fun k _ => ?_⟩
  simp only [spec_pzClue.j1]
  by_cases c : K = 0
  ·simp only [if_pos c, spec_pzClue_j2, beq_iff_eq.mpr c, Bool.true_or]
  ·simp only [if_neg c, spec_pzClue_j2, beq_eq_false_iff_ne.mpr c, Bool.false_or]
 have e1 : ∀ x6, Ev (fun k => spec_pzClue.j0 k h x6 K A B C) (clueBody h (twoB h A B) x6 K ((K == 0) || (K == 3)) A B C) := by
  intro x6
  refine Ev_add 1 ?_
  simp only [spec_pzClue.j0, spec_l1In_eq, Option.bind_some, w1]
  unfold twoB
  cases inR A 0 (h - 1) with
  | false =>
   simp only [Bool.false_eq_true, if_false, Bool.false_and]
   exact e2 _ _ _
  | true =>
   cases inR B 0 (h - 1) with
   | false =>
    simp only [Bool.false_eq_true, if_false, if_true, Bool.true_and, Bool.false_and]
    exact e2 _ _ _
   | true =>
    simp only [if_true, Bool.true_and]
    exact e2 _ _ _
 unfold spec_pzClue.f clueB
 by_cases c : A = 0
 ·simp only [if_pos c, beq_iff_eq.mpr c, Bool.true_and]
  exact e1 _
 ·simp only [if_neg c, beq_eq_false_iff_ne.mpr c, Bool.false_and]
  exact e1 _
theorem spec_pzHeaps_eq (h : Int) : spec_pzHeaps.f h = some (inR h 2 4) := by
 unfold spec_pzHeaps.f
 rw [spec_l1In_eq]
 rfl
theorem spec_pzGood_l0 (h : Int) (h0 : 2 ≤ h) (h1 : h ≤ 4) (l : List S44) (hl : l.length ≤ 1000) : ∀ (d i : Nat), i + d = l.length → Ev (fun k => spec_pzGood.l0 k l (l.length : Int) (i : Int) h l) ((l.drop i).all fun c => clueB h c.f0 c.f1 c.f2 c.f3) := by
 intro d
 induction d with
 | zero =>
  intro i hi
  have c1 : ¬ (i : Int) < (l.length : Int) := by omega
  refine Ev_add 1 ?_
  simp only [spec_pzGood.l0, if_neg c1]
  rw [List.drop_of_length_le (by omega)]
  exact Ev.now _
 | succ d ih =>
  intro i hi
  have hlt : i < l.length := by omega
  have c1 : (i : Int) < (l.length : Int) := by omega
  have c2 : 0 ≤ (i : Int) := by omega
  have w1 : wrap64 ((i : Int) + 1) = ((i + 1 : Nat) : Int) := by rw [wrap_id (by omega) (by omega)]; omega
  refine Ev_add 1 ?_
  simp only [spec_pzGood.l0, if_pos c1, if_pos c2, rdClue_at l i hlt, w1]
  refine Ev.bind (spec_pzClue_ev h _ _ _ _ (by omega) (by omega)) ?_
  rw [List.drop_eq_getElem_cons hlt, List.all_cons]
  cases hb : clueB h l[i].f0 l[i].f1 l[i].f2 l[i].f3 with
  | true =>
   simp only [if_true, Bool.true_and]
   exact ih (i + 1) (by omega)
  | false =>
   simp only [Bool.false_eq_true, if_false, Bool.false_and]
   exact Ev.now _
theorem spec_pzGood_ev (h : Int) (l : List S44) : Ev (fun k => spec_pzGood.f k h l) (goodP h l) := by
 unfold spec_pzGood.f goodP
 simp only [spec_pzHeaps_eq, Option.bind_some]
 cases hb : inR h 2 4 with
 | false =>
  simp only [Bool.false_eq_true, if_false, Bool.false_and]
  refine Ev_add 1 ?_
  simp only [spec_pzGood.j0, if_true]
  exact Ev.now _
 | true =>
  rw [inR_iff] at hb
  simp only [if_true, Bool.true_and]
  refine Ev_add 1 ?_
  by_cases c : (l.length : Int) ≤ 6
  ·have c' : ¬ (l.length : Int) > 6 := by omega
   simp only [spec_pzGood.j0, decide_eq_false c', decide_eq_true c, Bool.false_eq_true, if_false, Bool.true_and]
   exact spec_pzGood_l0 h (by omega) (by omega) l (by omega) l.length 0 (by omega)
  ·have c' : (l.length : Int) > 6 := by omega
   simp only [spec_pzGood.j0, decide_eq_true c', decide_eq_false c, if_true, Bool.false_and]
   exact Ev.now _
theorem impl_PuzzleText_l0 (h : Int) (l : List S44) (hb : goodP h l = true) : ∀ (d i : Nat) (acc : List (List UInt8)), i + d = l.length → acc ++ (l.drop i).map clT = l.map clT → Ev (fun k => impl_PuzzleText.l0 k (acc.map ofL) l (l.length : Int) (i : Int) h l) (ofL (pzT h l), true) := by
 have hn := goodP_len hb
 have hh : (2 ≤ h ∧ h ≤ 4) ∧ ∀ c ∈ l, smallC c := by
  unfold goodP at hb
  rw [Bool.and_eq_true, Bool.and_eq_true, inR_iff, List.all_eq_true] at hb
  exact ⟨hb.1, fun c hc => smallC_of hb.1.1 hb.1.2 (hb.2.2 c hc)⟩
 have hd := dgt_len h (by omega) (by omega)
 have hcls := clsT_len l 0 hh.2
 have e104 : (⟨#[104]⟩ : ByteArray) = ofL [104] := rfl
 have e44 : (⟨#[44]⟩ : ByteArray) = ofL [44] := rfl
 have e46 : (⟨#[46]⟩ : ByteArray) = ofL [46] := rfl
 intro d
 induction d with
 | zero =>
  intro i acc hi he
  rw [List.drop_of_length_le (by omega), List.map_nil, List.append_nil] at he
  subst he
  refine Ev_add 1 ?_
  simp only [impl_PuzzleText.l0, if_neg (show ¬ (i : Int) < (l.length : Int) by omega), strconv_Itoa_eq h (by omega) (by omega), Option.bind_some, e104, e44]
  refine Ev_if (by simp only [ofL_size]; omega) ?_
  rw [strings_Join_eq (l.map clT) [44] (by rw [List.length_map]; omega) (by rw [join_cls]; omega)]
  simp only [Option.bind_some, join_cls, ofL_append]
  refine Ev_if (by simp only [ofL_size, List.length_append, List.length_singleton]; omega) ?_
  exact Ev.now _
 | succ d ih =>
  intro i acc hi he
  have hil : i < l.length := by omega
  have hc := hh.2 l[i] (List.getElem_mem hil)
  have hcl := clT_len hc
  have w1 : wrap64 ((i : Int) + 1) = ((i + 1 : Nat) : Int) := by rw [wrap_id (by omega) (by omega)]; omega
  have hlen := congrArg List.length he
  simp only [List.length_append, List.length_map, List.length_drop] at hlen
  have hj := impl_joined_ev [46] [l[i].f0, l[i].f1, l[i].f2, l[i].f3] (by simp) (fun x hx => by
   simp only [List.mem_cons, List.not_mem_nil, or_false] at hx
   obtain ⟨h1, h2, h3, h4⟩ := hc
   rcases hx with rfl | rfl | rfl | rfl <;> omega) (by rw [join_clue]; omega)
  rw [join_clue] at hj
  refine Ev_add 1 ?_
  simp only [impl_PuzzleText.l0, if_pos (show (i : Int) < (l.length : Int) by omega), if_pos (show 0 ≤ (i : Int) by omega), rdClue_at l i hil, e46, w1, List.length_map]
  refine Ev.bind hj ?_
  simp only [if_pos (show acc.length < 8796093022208 by omega)]
  have := ih (i + 1) (acc ++ [clT l[i]]) (by omega) (by
   rw [List.drop_eq_getElem_cons hil, List.map_cons] at he
   rw [List.append_assoc]
   exact he)
  rwa [List.map_append, List.map_singleton] at this
theorem agree_PuzzleText (h : Int) (l : List S44) : ∃ v, Ev (fun k => spec_PuzzleText.f k h l) v ∧ Ev (fun k => impl_PuzzleText.f k h l) v := by
 refine ⟨if goodP h l = true then (ofL (pzT h l), true) else (⟨#[]⟩, false), ?_, ?_⟩
 ·unfold spec_PuzzleText.f
  refine Ev.bind (spec_pzGood_ev h l) ?_
  cases hb : goodP h l with
  | false =>
   simp only [Bool.false_eq_true, if_false]
   exact Ev.now _
  | true =>
   simp only [if_true]
   refine Ev.bind (spec_pzText_ev h l hb) ?_
   exact Ev.now _
 ·unfold impl_PuzzleText.f
  refine Ev.bind (impl_IsPuzzle_ev h l) ?_
  cases hb : goodP h l with
  | false =>
   simp only [Bool.false_eq_true, if_false]
   exact Ev.now _
  | true =>
   have := impl_PuzzleText_l0 h l hb l.length 0 [] (by omega) (by simp)
   simpa using this
theorem rdLClue_at (l : List S59) (i : Nat) (h : i < l.length) : rd_T59 l (i : Int) = l[i] := by
 unfold rd_T59
 simp [h]
def cvC (x : S59) : S44 := ⟨x.f0, x.f1, x.f2, x.f3⟩
theorem toClueS_l0 (l : List S59) (hl : l.length < 9223372036854775807) : ∀ (d k i : Nat) (out : List S44), i + d = l.length → d < k → out.length = l.length → out.take i = (l.map cvC).take i → laws_toClueS.l0 k l out (i : Int) = some (l.map cvC) := by
 intro d
 induction d with
 | zero =>
  intro k i out h hk ho ht
  obtain ⟨k, rfl⟩ : ∃ m, k = m + 1 := ⟨k - 1, by omega⟩
  simp only [laws_toClueS.l0]
  rw [if_neg (by omega)]
  rw [List.take_of_length_le (by omega), List.take_of_length_le (by simp; omega)] at ht
  rw [ht]
 | succ d ih =>
  intro k i out h hk ho ht
  obtain ⟨k, rfl⟩ : ∃ m, k = m + 1 := ⟨k - 1, by omega⟩
  have hi : i < l.length := by omega
  have e : (i : Int) + 1 = ((i + 1 : Nat) : Int) := by omega
  simp only [laws_toClueS.l0]
  rw [if_pos (by omega), if_pos (by omega), rdLClue_at l i hi]
  simp only [laws_toClue.f, Option.bind_some]
  rw [if_pos (by omega), wrap_id (by omega) (by omega), e, Int.toNat_natCast]
  refine ih k (i + 1) _ (by omega) (by omega) (by simpa using ho) ?_
  rw [List.take_succ_eq_append_getElem (by simpa using by omega), List.take_succ_eq_append_getElem (by simpa using hi), List.getElem_set_self, List.take_set_of_le (Nat.le_refl i), ht, List.getElem_map]
  rfl
theorem toClueS_ev (l : List S59) (hl : l.length ≤ 1048576) : Ev (fun k => laws_toClueS.f k l) (l.map cvC) :=
 ⟨l.length + 1, fun k hk => by
  have h := toClueS_l0 l (by omega) l.length k 0 (List.replicate l.length z44) (by omega) (by omega) (by simp) rfl
  show laws_toClueS.f k l = _
  unfold laws_toClueS.f
  rw [if_pos (by omega), if_pos (by omega)]
  simpa using h⟩
theorem toPuzzle_ev (h : Int) (l : List S59) (hl : l.length ≤ 1048576) : Ev (fun k => laws_toPuzzle.f k h l) (h, l.map cvC) := by
 unfold laws_toPuzzle.f
 refine Ev.bind (toClueS_ev l hl) ?_
 exact Ev.now _
theorem eqClueS_l0 (a : List S44) (hm : a.length < 9223372036854775807) : ∀ (d k i : Nat), i + d = a.length → d < k → laws_eqClueS.l0 k a a (i : Int) = some true := by
 intro d
 induction d with
 | zero =>
  intro k i h hk
  obtain ⟨k, rfl⟩ : ∃ m, k = m + 1 := ⟨k - 1, by omega⟩
  simp only [laws_eqClueS.l0]
  rw [if_neg (by omega)]
 | succ d ih =>
  intro k i h hk
  obtain ⟨k, rfl⟩ : ∃ m, k = m + 1 := ⟨k - 1, by omega⟩
  have hi : i < a.length := by omega
  have e : (i : Int) + 1 = ((i + 1 : Nat) : Int) := by omega
  simp only [laws_eqClueS.l0]
  rw [if_pos (by omega), if_pos (by omega), if_pos (by omega), rdClue_at a i hi, wrap_id (by omega) (by omega), e]
  simp only [laws_eqClue.f, if_true, Option.bind_some]
  exact ih k (i + 1) (by omega) (by omega)
theorem eqClueS_self (a : List S44) (hm : a.length < 9223372036854775807) : Ev (fun k => laws_eqClueS.f k a a) true := by
 refine ⟨a.length + 1, fun k hk => ?_⟩
 have h := eqClueS_l0 a hm a.length k 0 (by omega) (by omega)
 show laws_eqClueS.f k a a = _
 unfold laws_eqClueS.f
 rw [if_pos rfl]
 simpa using h
theorem eqPuzzle_self (h : Int) (a : List S44) (hm : a.length < 9223372036854775807) : Ev (fun k => laws_eqPuzzle.f k h a h a) true := by
 unfold laws_eqPuzzle.f
 simp only [if_true]
 refine Ev.bind (eqClueS_self a hm) ?_
 simp only [if_true]
 exact Ev.now _
theorem szPuzzle_cases (h : Int) (l : List S59) (m : Int) (h0 : 0 ≤ m) (h1 : m ≤ 1048576) (hl : (l.length : Int) ≤ 9223372036854775807) : (m < l.length ∧ laws_szPuzzle.f h l m = some (-1)) ∨ ((l.length : Int) ≤ m ∧ laws_szPuzzle.f h l m = some (m - l.length)) := by
 have w1 : wrap64 (m - (l.length : Int)) = m - (l.length : Int) := wrap_id (by omega) (by omega)
 unfold laws_szPuzzle.f laws_szClueS.f
 rw [w1]
 by_cases c : m - (l.length : Int) < 0
 ·refine .inl ⟨by omega, ?_⟩
  simp only [if_pos c, Option.bind_some, show ((-1 : Int) < 0) from by omega, if_true]
 ·refine .inr ⟨by omega, ?_⟩
  simp only [if_neg c, Option.bind_some]
theorem FnExactPuzzleText : laws_FnExactPuzzleText.Pure := by
 intro h l hw
 refine Ev.rounds (g := fun k => laws_FnExactPuzzleText.f k h l) ?_
 unfold laws_FnExactPuzzleText.f
 have hm := hw.2.1
 unfold maxLen at hm
 rcases szPuzzle_cases h l 1048576 (by omega) (by omega) (by omega) with ⟨_, hz⟩ | ⟨hl, hz⟩
 ·simp only [hz, Option.bind_some, show ((-1 : Int) < 0) from by omega, if_true]
  exact Ev.now _
 ·have n0 : ¬ (1048576 - (l.length : Int)) < 0 := by omega
  have hT := toPuzzle_ev h l (by omega)
  have hE := eqPuzzle_self h (l.map cvC) (by simp; omega)
  obtain ⟨⟨v1, v2⟩, hs, hi⟩ := agree_PuzzleText h (l.map cvC)
  simp only [hz, Option.bind_some, if_neg n0]
  repeat (first
   | exact Ev.now _
   | refine Ev.bind hT ?_
   | refine Ev.bind hs ?_
   | refine Ev.bind hi ?_
   | refine Ev.bind hE ?_
   | simp only [if_true, bne_self_eq_false, Bool.false_eq_true, if_false]
   | (refine Ev_add 1 ?_; simp only [laws_FnExactPuzzleText.j0]))

end Go.Proofs.YtnijlmfamdhjmaaDoor.Pure
