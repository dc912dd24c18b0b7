/-
  The program's ParsePuzzle returns what the reference's returns, for all arguments: the plain half, about the printed functions alone.
  Conditions: those of the statement's own row; none is added.
-/
import Derived.Test.YtnijlmfamdhjmaaDoorPZx10
namespace Go.Proofs.YtnijlmfamdhjmaaDoor.Pure
set_option linter.unusedVariables false
set_option linter.unusedSimpArgs false
open Go.RowKit Go.Proofs.YtnijlmfamdhjmaaDoor.PZ Go.Proofs.YtnijlmfamdhjmaaDoorW.PrintWords Go.Proofs.YtnijlmfamdhjmaaDoorW.PrintLast Go.Proofs.YtnijlmfamdhjmaaDoorW.PrintMore Go.Proofs.YtnijlmfamdhjmaaDoorB

theorem Ev_add {α : Type} {g : Nat → Option α} {r : α} (m : Nat) (h : Ev (fun k => g (k + m)) r) : Ev g r := by
 obtain ⟨K, hK⟩ := h
 refine ⟨K + m, fun k hk => ?_⟩
 have h1 := hK (k - m) (by omega)
 simp only at h1
 rwa [Nat.sub_add_cancel (by omega)] at h1
theorem Ev_shift {α : Type} {g : Nat → Option α} {r : α} (m : Nat) (h : Ev g r) : Ev (fun k => g (k + m)) r := by
 obtain ⟨K, hK⟩ := h
 exact ⟨K, fun k hk => hK (k + m) (by omega)⟩
theorem wrap_id {x : Int} (h0 : -9223372036854775808 ≤ x) (h1 : x ≤ 9223372036854775807) : wrap64 x = x := by
 unfold wrap64
 omega
theorem rd_at (l : List Int) (i : Nat) (h : i < l.length) : rd l (i : Int) = l[i] := rd_get l i h
theorem rd_append_left (l m : List Int) (i : Int) (h0 : 0 ≤ i) (h : i < l.length) : rd (l ++ m) i = rd l i := by
 unfold rd
 rw [List.getD_eq_getElem?_getD, List.getD_eq_getElem?_getD, List.getElem?_append_left (by omega)]
/-- A text by its bytes. -/
def ofL (l : List UInt8) : ByteArray := ⟨l.toArray⟩
theorem ofL_append (l m : List UInt8) : ofL l ++ ofL m = ofL (l ++ m) := by
 apply ByteArray.ext
 simp [ofL, ByteArray.data_append]
theorem ofL_size (l : List UInt8) : (ofL l).size = l.length := by
 show l.toArray.size = _
 simp
theorem ofL_list (l : List UInt8) : (ofL l).data.toList = l := by
 simp [ofL]
theorem ofL_data (s : ByteArray) : ofL s.data.toList = s := Lib.mk_data s
/-- The digits of a number. -/
def dgt (n : Int) : List UInt8 := Lib.decDigits n.toNat
/-- The pieces of a row of bytes, cut at each c; acc is what the first piece has already. -/
def splitL (c : UInt8) : List UInt8 → List UInt8 → List (List UInt8)
 | acc, [] => [acc]
 | acc, b :: l => if b = c then acc :: splitL c [] l else splitL c (acc ++ [b]) l
theorem splitL_acc (c : UInt8) : ∀ (l acc : List UInt8), ∃ h t, splitL c [] l = h :: t ∧ splitL c acc l = (acc ++ h) :: t
 | [], acc => ⟨[], [], rfl, by simp [splitL]⟩
 | b :: l, acc => by
  by_cases e : b = c
  ·exact ⟨[], splitL c [] l, by simp [splitL, e], by simp [splitL, e]⟩
  ·obtain ⟨h, t, h1, h2⟩ := splitL_acc c l [b]
   obtain ⟨h', t', h3, h4⟩ := splitL_acc c l (acc ++ [b])
   rw [h1] at h3
   cases h3
   refine ⟨[b] ++ h, t, ?_, ?_⟩
   ·simp only [splitL, if_neg e, List.nil_append, h2]
   ·simp only [splitL, if_neg e, h4, List.append_assoc]
theorem splitL_join (c : UInt8) : ∀ (l acc : List UInt8), Lib.join (splitL c acc l) [c] = acc ++ l
 | [], acc => by rw [splitL, Lib.join_one, List.append_nil]
 | b :: l, acc => by
  by_cases e : b = c
  ·subst e
   have ih := splitL_join b l []
   obtain ⟨h, t, h1, _⟩ := splitL_acc b l []
   simp only [splitL, if_true]
   rw [h1] at ih ⊢
   rw [Lib.join_cons] at ih ⊢
   simp only [Lib.joinTail, List.map_cons, List.flatten_cons, List.nil_append] at ih ⊢
   rw [List.append_assoc, ih]
   rfl
  ·simp only [splitL, if_neg e]
   rw [splitL_join c l (acc ++ [b]), List.append_assoc]
   rfl
theorem splitL_free (c : UInt8) : ∀ (l acc : List UInt8), c ∉ l → splitL c acc l = [acc ++ l]
 | [], acc, _ => by rw [splitL, List.append_nil]
 | b :: l, acc, h => by
  have hb : ¬ b = c := fun e => h (by simp [e])
  simp only [splitL, if_neg hb]
  rw [splitL_free c l (acc ++ [b]) (fun q => h (List.mem_cons_of_mem _ q)), List.append_assoc]
  rfl
theorem splitL_cut (c : UInt8) : ∀ (p acc r : List UInt8), c ∉ p → splitL c acc (p ++ [c] ++ r) = (acc ++ p) :: splitL c [] r
 | [], acc, r, _ => by simp [splitL]
 | b :: p, acc, r, h => by
  have hb : ¬ b = c := fun e => h (by simp [e])
  have ih := splitL_cut c p (acc ++ [b]) r (fun q => h (List.mem_cons_of_mem _ q))
  simp only [List.cons_append, splitL, if_neg hb]
  rw [ih, List.append_assoc]
  rfl
/-- Cut again at what lies between: the pieces. -/
theorem splitL_joined (c : UInt8) : ∀ (ps : List (List UInt8)), ps ≠ [] → (∀ p ∈ ps, c ∉ p) → splitL c [] (Lib.join ps [c]) = ps
 | [], h, _ => absurd rfl h
 | [p], _, h => by rw [Lib.join_one, splitL_free c p [] (h p List.mem_cons_self), List.nil_append]
 | p :: q :: t, _, h => by
  have ih := splitL_joined c (q :: t) (by simp) (fun x hx => h x (List.mem_cons_of_mem _ hx))
  rw [Lib.join_cons] at ih ⊢
  have e : p ++ Lib.joinTail [c] (q :: t) = p ++ [c] ++ (q ++ Lib.joinTail [c] t) := by simp [Lib.joinTail]
  rw [e, splitL_cut c p [] _ (h p List.mem_cons_self), ih, List.nil_append]
theorem index_nil1 (c : UInt8) : Lib.index [] [c] = -1 := by simp [Lib.index]
theorem index_eq1 (c : UInt8) (l : List UInt8) : Lib.index (c :: l) [c] = 0 := by rw [Lib.index]; simp [List.isPrefixOf]
theorem index_ne1 (b c : UInt8) (l : List UInt8) (h : ¬ b = c) : Lib.index (b :: l) [c] = if Lib.index l [c] = -1 then -1 else Lib.index l [c] + 1 := by
 have hp : ([c] : List UInt8).isPrefixOf (b :: l) = false := by simp [List.isPrefixOf, Ne.symm h]
 rw [Lib.index, hp]
 simp
/-- Where the first c lies, told by the pieces. -/
theorem index_splitL (c : UInt8) : ∀ l : List UInt8, (Lib.index l [c] = -1 ∧ splitL c [] l = [l] ∧ c ∉ l) ∨ ∃ j : Nat, Lib.index l [c] = (j : Int) ∧ splitL c [] l = l.take j :: splitL c [] (l.drop (j + 1)) ∧ l = l.take j ++ [c] ++ l.drop (j + 1) ∧ c ∉ l.take j
 | [] => Or.inl ⟨index_nil1 c, rfl, by simp⟩
 | b :: l => by
  by_cases e : b = c
  ·subst e
   exact Or.inr ⟨0, index_eq1 b l, by simp [splitL], by simp, by simp⟩
  ·have e' : ¬ c = b := fun q => e q.symm
   rw [index_ne1 b c l e]
   rcases index_splitL c l with ⟨h1, h2, h3⟩ | ⟨j, h1, h2, h3, h4⟩
   ·refine Or.inl ⟨by rw [if_pos h1], ?_, by simp [e', h3]⟩
    obtain ⟨h, t, g1, g2⟩ := splitL_acc c l [b]
    rw [h2] at g1
    cases g1
    simp only [splitL, if_neg e, List.nil_append, g2, List.cons_append]
   ·refine Or.inr ⟨j + 1, by rw [if_neg (by omega), h1]; omega, ?_, ?_, by simp [e', h4]⟩
    ·obtain ⟨h, t, g1, g2⟩ := splitL_acc c l [b]
     rw [h2] at g1
     cases g1
     simp only [splitL, if_neg e, List.nil_append, g2, List.take_succ_cons, List.drop_succ_cons, List.cons_append]
    ·simp only [List.take_succ_cons, List.drop_succ_cons, List.cons_append, List.cons.injEq, true_and]
     simpa using h3
theorem splitK_splitL (c : UInt8) : ∀ (n : Nat) (l : List UInt8), l.length ≤ n → Lib.splitK [c] 0 (Lib.count l [c]) l = splitL c [] l := by
 intro n
 induction n with
 | zero =>
  intro l hl
  have : l = [] := List.length_eq_zero_iff.1 (by omega)
  subst this
  rw [Lib.count_miss (index_nil1 c)]
  rfl
 | succ n ih =>
  intro l hl
  rcases index_splitL c l with ⟨h1, h2, _⟩ | ⟨j, h1, h2, h3, _⟩
  ·rw [Lib.count_miss h1, h2]
   rfl
  ·have hj : j < l.length := by
    have := congrArg List.length h3
    simp only [List.length_append, List.length_take, List.length_singleton, List.length_drop] at this
    omega
   have e1 : Lib.count l [c] = Lib.count (l.drop (j + 1)) [c] + 1 := by rw [Lib.count_hit (by simp) h1]; simp; omega
   rw [e1, h2, Lib.splitK]
   have e2 : ¬ (Lib.index l [c] == -1) = true := fun q => by have := beq_iff_eq.1 q; omega
   have e3 : (Lib.index l [c]).toNat = j := by omega
   rw [if_neg e2, e3, Nat.add_zero, List.length_singleton, ih _ (by rw [List.length_drop]; omega)]
theorem cut_splitL (c : UInt8) (l : List UInt8) : (Lib.cut l [c] = (l, [], false) ∧ splitL c [] l = [l] ∧ c ∉ l) ∨ ∃ p r, Lib.cut l [c] = (p, r, true) ∧ l = p ++ [c] ++ r ∧ c ∉ p ∧ splitL c [] l = p :: splitL c [] r := by
 rcases index_splitL c l with ⟨h1, h2, h3⟩ | ⟨j, h1, h2, h3, h4⟩
 ·refine Or.inl ⟨?_, h2, h3⟩
  unfold Lib.cut
  rw [if_neg (by omega)]
 ·refine Or.inr ⟨l.take j, l.drop (j + 1), ?_, h3, h4, h2⟩
  unfold Lib.cut
  rw [if_pos (by omega), h1]
  simp
theorem splitL_len (c : UInt8) : ∀ (l acc : List UInt8), (splitL c acc l).length ≤ l.length + 1 ∧ ∀ p ∈ splitL c acc l, p.length ≤ acc.length + l.length
 | [], acc => by simp [splitL]
 | b :: l, acc => by
  by_cases e : b = c
  ·obtain ⟨h1, h2⟩ := splitL_len c l []
   simp only [splitL, if_pos e, List.length_cons, List.mem_cons]
   refine ⟨by omega, fun p hp => ?_⟩
   rcases hp with rfl | hp
   ·omega
   ·have := h2 p hp
    simp only [List.length_nil] at this
    omega
  ·obtain ⟨h1, h2⟩ := splitL_len c l (acc ++ [b])
   simp only [splitL, if_neg e, List.length_cons]
   refine ⟨by omega, fun p hp => ?_⟩
   have := h2 p hp
   simp only [List.length_append, List.length_singleton] at this
   omega
theorem bt_ofL (L : List UInt8) (i : Nat) (h : i < L.length) : bt (ofL L) (i : Int) = (L[i].toNat : Int) := by
 have h2 : (i : Int).toNat < (ofL L).size := by rw [ofL_size]; simpa using h
 unfold bt
 rw [dif_pos h2]
 rfl
theorem ext_ofL (L : List UInt8) (a b : Nat) : (ofL L).extract a b = ofL ((L.take b).drop a) := by
 rw [Lib.extract_eq, ofL_list, List.drop_take]
 rfl
theorem rdOf_at (ps : List (List UInt8)) (i : Nat) (h : i < ps.length) : rdOf ByteArray.empty (ps.map ofL) (i : Int) = ofL ps[i] := by
 unfold rdOf
 simp [h]
theorem dgt_small : ∀ i : Nat, i < 100 → (dgt (i : Int)).length ≤ 2 ∧ spec_l1Num.f 3 (i : Int) = some (ofL (dgt (i : Int))) := by decide +kernel
theorem dgt_len (n : Int) (h0 : 0 ≤ n) (h1 : n ≤ 20) : (dgt n).length ≤ 2 := by
 obtain ⟨i, rfl⟩ := Int.eq_ofNat_of_zero_le h0
 exact (dgt_small i (by omega)).1
theorem dgt_len99 (n : Int) (h0 : 0 ≤ n) (h1 : n ≤ 99) : (dgt n).length ≤ 2 := by
 obtain ⟨i, rfl⟩ := Int.eq_ofNat_of_zero_le h0
 exact (dgt_small i (by omega)).1
theorem spec_l1Num_ev99 (n : Int) (h0 : 0 ≤ n) (h1 : n ≤ 99) : Ev (fun k => spec_l1Num.f k n) (ofL (dgt n)) := by
 obtain ⟨i, rfl⟩ := Int.eq_ofNat_of_zero_le h0
 exact Ev.of (fun k => spec_l1Num.mono _ k) (dgt_small i (by omega)).2
theorem spec_l1Num_ev (n : Int) (h0 : 0 ≤ n) (h1 : n ≤ 20) : Ev (fun k => spec_l1Num.f k n) (ofL (dgt n)) := spec_l1Num_ev99 n h0 (by omega)
theorem Ev_if {α : Type} {c : Prop} [Decidable c] {g f : Nat → Option α} {r : α} (hc : c) (h : Ev g r) : Ev (fun k => if c then g k else f k) r := by
 simpa only [if_pos hc] using h
def inR (a lo hi : Int) : Bool := decide (lo ≤ a) && decide (a ≤ hi)
theorem inR_iff {a lo hi : Int} : inR a lo hi = true ↔ lo ≤ a ∧ a ≤ hi := by simp [inR]
/-- What is asked of a clue, by its kind; x5: two heaps are told, x6: none is, x42: the kind is 0 or 3. -/
def clueBody (h : Int) (x5 x6 : Bool) (K : Int) (x42 : Bool) (A B C : Int) : Bool :=
 if x42 = true then x6 && inR C 0 20 else if K = 1 then x5 && inR C 0 1 else if K = 2 then inR A 0 5 && ((B == 0) && inR C 0 h) else if K = 4 then x5 && inR C 0 10 else if K = 5 then x6 && inR C 0 5 else false
def twoB (h A B : Int) : Bool := inR A 0 (h - 1) && (inR B 0 (h - 1) && (A != B))
def clueB (h K A B C : Int) : Bool := clueBody h (twoB h A B) ((A == 0) && (B == 0)) K ((K == 0) || (K == 3)) A B C
/-- A puzzle: the number of heaps, and the clues. -/
def goodP (h : Int) (cs : List S44) : Bool := inR h 2 4 && (decide ((cs.length : Int) ≤ 6) && cs.all fun c => clueB h c.f0 c.f1 c.f2 c.f3)
theorem rdClue_at (l : List S44) (i : Nat) (h : i < l.length) : rd_T44 l (i : Int) = l[i] := by
 unfold rd_T44
 simp [h]
theorem goodP_len {h : Int} {l : List S44} (hb : goodP h l = true) : l.length ≤ 6 := by
 unfold goodP at hb
 rw [Bool.and_eq_true, Bool.and_eq_true, decide_eq_true_eq] at hb
 omega
/-- All of a clue's numbers are small. -/
def smallC (c : S44) : Prop := (0 ≤ c.f0 ∧ c.f0 ≤ 20) ∧ (0 ≤ c.f1 ∧ c.f1 ≤ 20) ∧ (0 ≤ c.f2 ∧ c.f2 ≤ 20) ∧ (0 ≤ c.f3 ∧ c.f3 ≤ 20)
theorem smallC_of {h : Int} (h2 : 2 ≤ h) (h4 : h ≤ 4) {c : S44} (hc : clueB h c.f0 c.f1 c.f2 c.f3 = true) : smallC c := by
 unfold clueB clueBody twoB at hc
 unfold smallC
 by_cases c0 : (c.f0 == 0 || c.f0 == 3) = true
 ·rw [if_pos c0] at hc
  simp only [Bool.and_eq_true, Bool.or_eq_true, beq_iff_eq, inR_iff] at hc c0
  omega
 ·rw [if_neg c0] at hc
  by_cases c1 : c.f0 = 1
  ·rw [if_pos c1] at hc
   simp only [Bool.and_eq_true, inR_iff] at hc
   omega
  ·rw [if_neg c1] at hc
   by_cases c2 : c.f0 = 2
   ·rw [if_pos c2] at hc
    simp only [Bool.and_eq_true, beq_iff_eq, inR_iff] at hc
    omega
   ·rw [if_neg c2] at hc
    by_cases c4 : c.f0 = 4
    ·rw [if_pos c4] at hc
     simp only [Bool.and_eq_true, inR_iff] at hc
     omega
    ·rw [if_neg c4] at hc
     by_cases c5 : c.f0 = 5
     ·rw [if_pos c5] at hc
      simp only [Bool.and_eq_true, beq_iff_eq, inR_iff] at hc
      omega
     ·rw [if_neg c5] at hc
      cases hc
/-- A clue's text. -/
def clT (c : S44) : List UInt8 := dgt c.f0 ++ ([46] ++ (dgt c.f1 ++ ([46] ++ (dgt c.f2 ++ ([46] ++ dgt c.f3)))))
theorem clT_len {c : S44} (h : smallC c) : (clT c).length ≤ 11 := by
 have h0 := dgt_len _ h.1.1 h.1.2
 have h1 := dgt_len _ h.2.1.1 h.2.1.2
 have h2 := dgt_len _ h.2.2.1.1 h.2.2.1.2
 have h3 := dgt_len _ h.2.2.2.1 h.2.2.2.2
 unfold clT
 simp only [List.length_append, List.length_cons, List.length_nil]
 omega
/-- The texts of clues, from i on, each but the first behind a comma. -/
def clsT : List S44 → Nat → List UInt8
 | [], _ => []
 | c :: t, i => (if i = 0 then [] else [44]) ++ clT c ++ clsT t (i + 1)
theorem clsT_len : ∀ (l : List S44) (i : Nat), (∀ c ∈ l, smallC c) → (clsT l i).length ≤ 12 * l.length
 | [], _, _ => by simp [clsT]
 | c :: t, i, h => by
  have h1 := clT_len (h c List.mem_cons_self)
  have h2 := clsT_len t (i + 1) fun d hd => h d (List.mem_cons_of_mem _ hd)
  rw [clsT, List.length_append, List.length_append, List.length_cons]
  split <;> simp <;> omega
def pzT (h : Int) (l : List S44) : List UInt8 := dgt h ++ [104] ++ clsT l 0
theorem join_clue (c : S44) : Lib.join ([c.f0, c.f1, c.f2, c.f3].map dgt) [46] = clT c := by
 simp only [List.map_cons, List.map_nil, Lib.join_cons, Lib.joinTail, List.flatten_cons, List.flatten_nil, List.append_nil, clT, List.append_assoc]
theorem join_cls : ∀ (l : List S44) , Lib.join (l.map clT) [44] = clsT l 0 := by
 have tail : ∀ (l : List S44) (i : Nat), Lib.joinTail [44] (l.map clT) = clsT l (i + 1) := by
  intro l
  induction l with
  | nil => intro i; rfl
  | cons c t ih =>
   intro i
   rw [clsT, ← ih (i + 1)]
   simp only [List.map_cons, Lib.joinTail, List.flatten_cons, if_neg (Nat.succ_ne_zero i), List.append_assoc]
 intro l
 cases l with
 | nil => rfl
 | cons c t =>
  rw [List.map_cons, Lib.join_cons, tail t 0, clsT]
  simp
/-- The clues that pieces tell, if each tells one. -/
def clsOf (num : List UInt8 → Int) : List (List UInt8) → Option (List S44)
 | [] => some []
 | p :: t => match (splitL 46 [] p).map num with
  | [a, b, c, d] => (clsOf num t).map fun l => ⟨a, b, c, d⟩ :: l
  | _ => none
theorem list4 {α : Type} {l : List α} (h : l.length = 4) : ∃ a b c d, l = [a, b, c, d] := by
 match l, h with
 | [a, b, c, d], _ => exact ⟨a, b, c, d, rfl⟩
theorem clsOf_four (num : List UInt8 → Int) (p : List UInt8) (t : List (List UInt8)) (q0 q1 q2 q3 : List UInt8) (h : splitL 46 [] p = [q0, q1, q2, q3]) : clsOf num (p :: t) = (clsOf num t).map fun l => ⟨num q0, num q1, num q2, num q3⟩ :: l := by
 rw [clsOf, h]
 rfl
theorem clsOf_none (num : List UInt8 → Int) (p : List UInt8) (t : List (List UInt8)) (h : ¬ (splitL 46 [] p).length = 4) : clsOf num (p :: t) = none := by
 rw [clsOf]
 split
 ·rename_i e
  have := congrArg List.length e
  simp at this
  exact absurd this h
 ·rfl
theorem map_more {α : Type} (acc : List α) (c : α) (X : Option (List α)) : ((X.map fun l => c :: l).map fun l => acc ++ l) = X.map fun l => acc ++ [c] ++ l := by
 cases X <;> simp
def endS (L : List UInt8) (h : Int) : Option (List S44) → Int × List S44 × Bool
 | none => (0, [], false)
 | some l => if goodP h l = true then (h, l, pzT h l == L) else (h, l, false)
def endI (h : Int) : Option (List S44) → Int × List S44 × Bool
 | none => (0, [], false)
 | some l => if goodP h l = true then (h, l, true) else (0, [], false)
theorem spec_l1Split_l0 (c : UInt8) (L : List UInt8) (hL : L.length ≤ 1048576) : ∀ (d i fr : Nat) (acc : List (List UInt8)), i + d = L.length → fr ≤ i → acc.length ≤ i → Ev (fun k => spec_l1Split.l0 k (ofL L) (c.toNat : Int) (acc.map ofL) (fr : Int) (i : Int)) ((acc ++ splitL c ((L.take i).drop fr) (L.drop i)).map ofL) := by
 intro d
 induction d with
 | zero =>
  intro i fr acc hi hf ha
  have e : i = L.length := by omega
  refine Ev_add 1 ?_
  simp only [spec_l1Split.l0, ofL_size, if_neg (show ¬ (i : Int) < (L.length : Int) by omega), if_pos (show 0 ≤ (fr : Int) by omega), if_pos (show (fr : Int) ≤ (L.length : Int) by omega), List.length_map, if_pos (show acc.length < 8796093022208 by omega), Int.toNat_natCast, ext_ofL]
  rw [e, List.drop_length, splitL, List.map_append]
  exact Ev.now _
 | succ d ih =>
  intro i fr acc hi hf ha
  have hil : i < L.length := by omega
  have w1 : wrap64 ((i : Int) + 1) = ((i + 1 : Nat) : Int) := by rw [wrap_id (by omega) (by omega)]; omega
  refine Ev_add 1 ?_
  simp only [spec_l1Split.l0, ofL_size, if_pos (show (i : Int) < (L.length : Int) by omega), if_pos (show 0 ≤ (i : Int) by omega), bt_ofL L i hil, w1]
  rw [List.drop_eq_getElem_cons hil, splitL]
  by_cases e : L[i] = c
  ·simp only [if_pos e, if_pos (show (L[i].toNat : Int) = (c.toNat : Int) by rw [e]), if_pos (show 0 ≤ (fr : Int) by omega), if_pos (show (fr : Int) ≤ (i : Int) by omega), if_pos (show (i : Int) ≤ (L.length : Int) by omega), List.length_map, if_pos (show acc.length < 8796093022208 by omega), Int.toNat_natCast, ext_ofL]
   have := ih (i + 1) (i + 1) (acc ++ [(L.take i).drop fr]) (by omega) (by omega) (by simp; omega)
   rw [show (L.take (i + 1)).drop (i + 1) = [] from List.drop_of_length_le (by simp; omega), List.append_assoc] at this
   simpa using this
  ·have e' : ¬ (L[i].toNat : Int) = (c.toNat : Int) := fun q => e (UInt8.toNat_inj.1 (by omega))
   simp only [if_neg e, if_neg e']
   have := ih (i + 1) fr acc (by omega) (by omega) (by omega)
   rw [List.take_succ_eq_append_getElem hil, List.drop_append_of_le_length (by simp; omega)] at this
   exact this
theorem spec_l1Split_ev (c : UInt8) (L : List UInt8) (hL : L.length ≤ 1048576) : Ev (fun k => spec_l1Split.f k (ofL L) (c.toNat : Int)) ((splitL c [] L).map ofL) := by
 unfold spec_l1Split.f
 have := spec_l1Split_l0 c L hL L.length 0 0 [] (by omega) (by omega) (by simp)
 simpa using this
theorem spec_l1In_eq (a lo hi : Int) : spec_l1In.f a lo hi = some (inR a lo hi) := by
 unfold spec_l1In.f inR
 by_cases h : lo ≤ a <;> simp [h]
/-- What the reference's reader makes of digits, n being told already. -/
def rdL : List UInt8 → Int → Int
 | [], n => n
 | b :: l, n => if (b.toNat : Int) < 48 then -1 else if (b.toNat : Int) > 57 then -1 else rdL l (wrap64 ((wrap64 (10 * n)) + (((b.toNat : Int) - 48) % 256)))
def rdV (L : List UInt8) : Int := if inR (L.length : Int) 1 6 = true then (if ((L.headD 0).toNat : Int) = 48 ∧ (L.length : Int) > 1 then -1 else rdL L 0) else -1
theorem spec_l1Read_l0 (L : List UInt8) (hL : L.length ≤ 1048576) : ∀ (d i : Nat) (n : Int), i + d = L.length → Ev (fun k => spec_l1Read.l0 k (ofL L) n (i : Int)) (rdL (L.drop i) n) := by
 intro d
 induction d with
 | zero =>
  intro i n hi
  refine Ev_add 1 ?_
  simp only [spec_l1Read.l0, ofL_size, if_neg (show ¬ (i : Int) < (L.length : Int) by omega)]
  rw [List.drop_of_length_le (by omega), rdL]
  exact Ev.now _
 | succ d ih =>
  intro i n hi
  have hil : i < L.length := by omega
  have w1 : wrap64 ((i : Int) + 1) = ((i + 1 : Nat) : Int) := by rw [wrap_id (by omega) (by omega)]; omega
  refine Ev_add 1 ?_
  simp only [spec_l1Read.l0, ofL_size, if_pos (show (i : Int) < (L.length : Int) by omega), if_pos (show 0 ≤ (i : Int) by omega), bt_ofL L i hil, w1]
  rw [List.drop_eq_getElem_cons hil, rdL]
  by_cases c1 : (L[i].toNat : Int) < 48
  ·simp only [if_pos c1]
   exact Ev.now _
  ·by_cases c2 : (L[i].toNat : Int) > 57
   ·simp only [if_neg c1, if_pos c2]
    exact Ev.now _
   ·simp only [if_neg c1, if_neg c2]
    exact ih (i + 1) _ (by omega)
theorem spec_l1Read_ev (L : List UInt8) (hL : L.length ≤ 1048576) : Ev (fun k => spec_l1Read.f k (ofL L)) (rdV L) := by
 have hl := spec_l1Read_l0 L hL L.length 0 0 (by omega)
 rw [List.drop_zero] at hl
 unfold spec_l1Read.f rdV
 simp only [ofL_size, spec_l1In_eq, Option.bind_some]
 by_cases c : inR (L.length : Int) 1 6 = true
 ·have hc := inR_iff.1 c
  have h0 : bt (ofL L) 0 = ((L.headD 0).toNat : Int) := by
   have := bt_ofL L 0 (by omega)
   cases L with
   | nil => simp at hc
   | cons b l => exact this
  simp only [c, if_true, if_pos (show 0 < (L.length : Int) by omega), h0]
  by_cases e : ((L.headD 0).toNat : Int) = 48
  ·by_cases e2 : (L.length : Int) > 1
   ·simp only [if_pos e, if_pos (And.intro e e2), decide_eq_true e2]
    refine Ev_add 1 ?_
    simp only [spec_l1Read.j0, if_true]
    exact Ev.now _
   ·simp only [if_pos e, if_neg (fun q : ((L.headD 0).toNat : Int) = 48 ∧ (L.length : Int) > 1 => e2 q.2), decide_eq_false e2]
    refine Ev_add 1 ?_
    simp only [spec_l1Read.j0, Bool.false_eq_true, if_false]
    exact hl
  ·simp only [if_neg e, if_neg (fun q : ((L.headD 0).toNat : Int) = 48 ∧ (L.length : Int) > 1 => e q.1)]
   refine Ev_add 1 ?_
   simp only [spec_l1Read.j0, Bool.false_eq_true, if_false]
   exact hl
 ·simp only [Bool.not_eq_true] at c
  simp only [c, Bool.false_eq_true, if_false]
  refine Ev_add 1 ?_
  simp only [spec_l1Read.j0, if_true]
  exact Ev.now _
theorem rdV_dgt : ∀ i : Nat, i < 100 → rdV (dgt (i : Int)) = (i : Int) := by decide +kernel
theorem dgt_free : ∀ i : Nat, i < 100 → dgt (i : Int) ≠ [] ∧ ∀ b ∈ dgt (i : Int), 48 ≤ b ∧ b ≤ 57 := by decide +kernel
theorem spec_pzText_j1 (acc : List UInt8) (ha : acc.length ≤ 100000) (l : List S44) (n i : Int) (c : S44) (hs : smallC c) (R : ByteArray) (hR : Ev (fun k => spec_pzText.l0 k (ofL (acc ++ clT c)) l n (wrap64 (i + 1))) R) : Ev (fun k => spec_pzText.j1 k (ofL acc) l n i c.f0 c.f1 c.f2 c.f3) R := by
 have h0 := dgt_len _ hs.1.1 hs.1.2
 have h1 := dgt_len _ hs.2.1.1 hs.2.1.2
 have h2 := dgt_len _ hs.2.2.1.1 hs.2.2.1.2
 have h3 := dgt_len _ hs.2.2.2.1 hs.2.2.2.2
 have e46 : (⟨#[46]⟩ : ByteArray) = ofL [46] := rfl
 refine Ev_add 1 ?_
 simp only [spec_pzText.j1, e46]
 refine Ev.bind (spec_l1Num_ev _ hs.1.1 hs.1.2) ?_
 refine Ev_if (by simp only [ofL_append, ofL_size, List.length_append, List.length_cons, List.length_nil]; omega) ?_
 refine Ev.bind (spec_l1Num_ev _ hs.2.1.1 hs.2.1.2) ?_
 refine Ev_if (by simp only [ofL_append, ofL_size, List.length_append, List.length_cons, List.length_nil]; omega) ?_
 refine Ev_if (by simp only [ofL_append, ofL_size, List.length_append, List.length_cons, List.length_nil]; omega) ?_
 refine Ev.bind (spec_l1Num_ev _ hs.2.2.1.1 hs.2.2.1.2) ?_
 refine Ev_if (by simp only [ofL_append, ofL_size, List.length_append, List.length_cons, List.length_nil]; omega) ?_
 refine Ev_if (by simp only [ofL_append, ofL_size, List.length_append, List.length_cons, List.length_nil]; omega) ?_
 refine Ev.bind (spec_l1Num_ev _ hs.2.2.2.1 hs.2.2.2.2) ?_
 refine Ev_if (by simp only [ofL_append, ofL_size, List.length_append, List.length_cons, List.length_nil]; omega) ?_
 refine Ev_if (by simp only [ofL_append, ofL_size, List.length_append, List.length_cons, List.length_nil]; omega) ?_
 simp only [ofL_append]
 have e : acc ++ (dgt c.f0 ++ [46] ++ dgt c.f1 ++ [46] ++ dgt c.f2 ++ [46] ++ dgt c.f3) = acc ++ clT c := by
  unfold clT
  simp only [List.append_assoc]
 rw [e]
 exact hR
theorem spec_pzText_l0 (l : List S44) (hl : l.length ≤ 1000) (hs : ∀ c ∈ l, smallC c) : ∀ (d i : Nat) (acc : List UInt8), i + d = l.length → acc.length ≤ 1000 + 12 * i → Ev (fun k => spec_pzText.l0 k (ofL acc) l (l.length : Int) (i : Int)) (ofL (acc ++ clsT (l.drop i) i)) := by
 intro d
 induction d with
 | zero =>
  intro i acc hi ha
  refine Ev_add 1 ?_
  simp only [spec_pzText.l0, if_neg (show ¬ (i : Int) < (l.length : Int) by omega)]
  rw [List.drop_of_length_le (by omega)]
  simp only [clsT, List.append_nil]
  exact Ev.now _
 | succ d ih =>
  intro i acc hi ha
  have hil : i < l.length := by omega
  have hc := hs l[i] (List.getElem_mem hil)
  have hcl := clT_len hc
  have w1 : wrap64 ((i : Int) + 1) = ((i + 1 : Nat) : Int) := by rw [wrap_id (by omega) (by omega)]; omega
  have e44 : (⟨#[44]⟩ : ByteArray) = ofL [44] := rfl
  refine Ev_add 1 ?_
  simp only [spec_pzText.l0, if_pos (show (i : Int) < (l.length : Int) by omega), if_pos (show 0 ≤ (i : Int) by omega), rdClue_at l i hil, e44]
  rw [List.drop_eq_getElem_cons hil, clsT]
  by_cases c0 : i = 0
  ·subst c0
   simp only [if_neg (show ¬ ((0 : Nat) : Int) > 0 by omega), if_true, List.nil_append]
   refine spec_pzText_j1 acc (by omega) l _ _ l[0] hc _ ?_
   rw [w1, ← List.append_assoc]
   exact ih 1 (acc ++ clT l[0]) (by omega) (by rw [List.length_append]; omega)
  ·simp only [if_pos (show (i : Int) > 0 by omega), if_neg c0]
   refine Ev_if (by simp only [ofL_append, ofL_size]; omega) ?_
   simp only [ofL_append]
   refine spec_pzText_j1 (acc ++ [44]) (by rw [List.length_append, List.length_singleton]; omega) l _ _ l[i] hc _ ?_
   rw [w1]
   have := ih (i + 1) (acc ++ [44] ++ clT l[i]) (by omega) (by simp only [List.length_append, List.length_singleton]; omega)
   have e : acc ++ ([44] ++ clT l[i] ++ clsT (l.drop (i + 1)) (i + 1)) = acc ++ [44] ++ clT l[i] ++ clsT (l.drop (i + 1)) (i + 1) := by simp only [List.append_assoc]
   rw [e]
   exact this
theorem spec_pzText_ev (h : Int) (l : List S44) (hb : goodP h l = true) : Ev (fun k => spec_pzText.f k h l) (ofL (pzT h l)) := by
 have hn := goodP_len hb
 have hh : (2 ≤ h ∧ h ≤ 4) ∧ ∀ c ∈ l, smallC c := by
  unfold goodP at hb
  rw [Bool.and_eq_true, Bool.and_eq_true, inR_iff, List.all_eq_true] at hb
  exact ⟨hb.1, fun c hc => smallC_of hb.1.1 hb.1.2 (hb.2.2 c hc)⟩
 have e104 : (⟨#[104]⟩ : ByteArray) = ofL [104] := rfl
 have hd := dgt_len h (by omega) (by omega)
 unfold spec_pzText.f
 refine Ev.bind (spec_l1Num_ev h (by omega) (by omega)) ?_
 simp only [e104]
 refine Ev_if (by simp only [ofL_size]; omega) ?_
 simp only [ofL_append]
 have := spec_pzText_l0 l (by omega) hh.2 l.length 0 (dgt h ++ [104]) (by omega) (by rw [List.length_append, List.length_singleton]; omega)
 simpa [pzT] using this
theorem spec_pzClue_j2 (k : Nat) (h : Int) (x5 x6 : Bool) (K : Int) (x42 : Bool) (K0 A B C : Int) : spec_pzClue.j2 (k + 1) h x6 x5 K x42 K0 A B C = some (clueBody h x5 x6 K x42 A B C) := by
 simp only [spec_pzClue.j2, spec_l1In_eq, Option.bind_some, clueBody]
 by_cases c1 : x42 = true
 ·simp only [if_pos c1]; cases x6 <;> rfl
 ·simp only [if_neg c1]
  by_cases c2 : K = 1
  ·simp only [if_pos c2]; cases x5 <;> rfl
  ·simp only [if_neg c2]
   by_cases c3 : K = 2
   ·simp only [if_pos c3]
    by_cases c5 : B = 0
    ·simp only [if_pos c5, beq_iff_eq.mpr c5]; cases inR A 0 5 <;> rfl
    ·simp only [if_neg c5, beq_eq_false_iff_ne.mpr c5]; cases inR A 0 5 <;> rfl
   ·simp only [if_neg c3]
    by_cases c4 : K = 4
    ·simp only [if_pos c4]; cases x5 <;> rfl
    ·simp only [if_neg c4]
     by_cases c5 : K = 5
     ·simp only [if_pos c5]; cases x6 <;> rfl
     ·simp only [if_neg c5]
theorem spec_pzClue_ev (h K A B C : Int) (h0 : -1000 ≤ h) (h1 : h ≤ 1000) : Ev (fun k => spec_pzClue.f k h K A B C) (clueB h K A B C) := by
 have w1 : wrap64 (h - 1) = h - 1 := wrap_id (by omega) (by omega)
 have e2 : ∀ x5 x6 A0, Ev (fun k => spec_pzClue.j1 k h x6 x5 K A0 B C) (clueBody h x5 x6 K ((K == 0) || (K == 3)) A0 B C) := by
  intro x5 x6 A0
  refine Ev_add 2 ⟨0, fun k _ => ?_⟩
  simp only [spec_pzClue.j1]
  by_cases c : K = 0
  ·simp only [if_pos c, spec_pzClue_j2, beq_iff_eq.mpr c, Bool.true_or]
  ·simp only [if_neg c, spec_pzClue_j2, beq_eq_false_iff_ne.mpr c, Bool.false_or]
 have e1 : ∀ x6, Ev (fun k => spec_pzClue.j0 k h x6 K A B C) (clueBody h (twoB h A B) x6 K ((K == 0) || (K == 3)) A B C) := by
  intro x6
  refine Ev_add 1 ?_
  simp only [spec_pzClue.j0, spec_l1In_eq, Option.bind_some, w1]
  unfold twoB
  cases inR A 0 (h - 1) with
  | false =>
   simp only [Bool.false_eq_true, if_false, Bool.false_and]
   exact e2 _ _ _
  | true =>
   cases inR B 0 (h - 1) with
   | false =>
    simp only [Bool.false_eq_true, if_false, if_true, Bool.true_and, Bool.false_and]
    exact e2 _ _ _
   | true =>
    simp only [if_true, Bool.true_and]
    exact e2 _ _ _
 unfold spec_pzClue.f clueB
 by_cases c : A = 0
 ·simp only [if_pos c, beq_iff_eq.mpr c, Bool.true_and]
  exact e1 _
 ·simp only [if_neg c, beq_eq_false_iff_ne.mpr c, Bool.false_and]
  exact e1 _
theorem spec_pzHeaps_eq (h : Int) : spec_pzHeaps.f h = some (inR h 2 4) := by
 unfold spec_pzHeaps.f
 rw [spec_l1In_eq]
 rfl
theorem spec_pzGood_l0 (h : Int) (h0 : 2 ≤ h) (h1 : h ≤ 4) (l : List S44) (hl : l.length ≤ 1000) : ∀ (d i : Nat), i + d = l.length → Ev (fun k => spec_pzGood.l0 k l (l.length : Int) (i : Int) h l) ((l.drop i).all fun c => clueB h c.f0 c.f1 c.f2 c.f3) := by
 intro d
 induction d with
 | zero =>
  intro i hi
  have c1 : ¬ (i : Int) < (l.length : Int) := by omega
  refine Ev_add 1 ?_
  simp only [spec_pzGood.l0, if_neg c1]
  rw [List.drop_of_length_le (by omega)]
  exact Ev.now _
 | succ d ih =>
  intro i hi
  have hlt : i < l.length := by omega
  have c1 : (i : Int) < (l.length : Int) := by omega
  have c2 : 0 ≤ (i : Int) := by omega
  have w1 : wrap64 ((i : Int) + 1) = ((i + 1 : Nat) : Int) := by rw [wrap_id (by omega) (by omega)]; omega
  refine Ev_add 1 ?_
  simp only [spec_pzGood.l0, if_pos c1, if_pos c2, rdClue_at l i hlt, w1]
  refine Ev.bind (spec_pzClue_ev h _ _ _ _ (by omega) (by omega)) ?_
  rw [List.drop_eq_getElem_cons hlt, List.all_cons]
  cases hb : clueB h l[i].f0 l[i].f1 l[i].f2 l[i].f3 with
  | true =>
   simp only [if_true, Bool.true_and]
   exact ih (i + 1) (by omega)
  | false =>
   simp only [Bool.false_eq_true, if_false, Bool.false_and]
   exact Ev.now _
theorem spec_pzGood_ev (h : Int) (l : List S44) : Ev (fun k => spec_pzGood.f k h l) (goodP h l) := by
 unfold spec_pzGood.f goodP
 simp only [spec_pzHeaps_eq, Option.bind_some]
 cases hb : inR h 2 4 with
 | false =>
  simp only [Bool.false_eq_true, if_false, Bool.false_and]
  refine Ev_add 1 ?_
  simp only [spec_pzGood.j0, if_true]
  exact Ev.now _
 | true =>
  rw [inR_iff] at hb
  simp only [if_true, Bool.true_and]
  refine Ev_add 1 ?_
  by_cases c : (l.length : Int) ≤ 6
  ·have c' : ¬ (l.length : Int) > 6 := by omega
   simp only [spec_pzGood.j0, decide_eq_false c', decide_eq_true c, Bool.false_eq_true, if_false, Bool.true_and]
   exact spec_pzGood_l0 h (by omega) (by omega) l (by omega) l.length 0 (by omega)
  ·have c' : (l.length : Int) > 6 := by omega
   simp only [spec_pzGood.j0, decide_eq_true c', decide_eq_false c, if_true, Bool.false_and]
   exact Ev.now _
theorem spec_pzParse_end (L : List UInt8) (h : Int) (l : List S44) : Ev (fun k => (spec_pzGood.f k h l).bind fun t158 => (if t158 = true then ((spec_pzText.f k h l).bind fun t159 => (some (h, l, (t159.toList == (ofL L).toList)))) else (some (h, l, false)))) (endS L h (some l)) := by
 refine Ev.bind (spec_pzGood_ev h l) ?_
 cases hb : goodP h l with
 | false =>
  simp only [Bool.false_eq_true, if_false, endS, hb]
  exact Ev.now _
 | true =>
  simp only [if_true, endS, hb]
  refine Ev.bind (spec_pzText_ev h l hb) ?_
  simp only [Lib.toList_data, ofL_list]
  exact Ev.now _
theorem spec_pzParse_l0 (L : List UInt8) (ps : List (List UInt8)) (hp : ∀ p ∈ ps, p.length ≤ 1048576) (hn : ps.length ≤ 2000000) (h : Int) : ∀ (d i : Nat) (acc : List S44), i + d = ps.length → acc.length ≤ i → Ev (fun k => spec_pzParse.l0 k (ofL L) (ps.map ofL) (ps.length : Int) (i : Int) h acc) (endS L h ((clsOf rdV (ps.drop i)).map fun l => acc ++ l)) := by
 intro d
 induction d with
 | zero =>
  intro i acc hi ha
  refine Ev_add 1 ?_
  simp only [spec_pzParse.l0, if_neg (show ¬ (i : Int) < (ps.length : Int) by omega)]
  rw [List.drop_of_length_le (by omega), clsOf, Option.map_some, List.append_nil]
  exact spec_pzParse_end L h acc
 | succ d ih =>
  intro i acc hi ha
  have hil : i < ps.length := by omega
  have hpi := hp _ (List.getElem_mem hil)
  have w1 : wrap64 ((i : Int) + 1) = ((i + 1 : Nat) : Int) := by rw [wrap_id (by omega) (by omega)]; omega
  have hs : Ev (fun k => spec_l1Split.f k (ofL ps[i]) 46) ((splitL 46 [] ps[i]).map ofL) := spec_l1Split_ev 46 ps[i] hpi
  rw [List.drop_eq_getElem_cons hil]
  refine Ev_add 1 ?_
  simp only [spec_pzParse.l0, if_pos (show (i : Int) < (ps.length : Int) by omega), if_pos (show 0 ≤ (i : Int) by omega), List.length_map, rdOf_at ps i hil, w1]
  refine Ev.bind hs ?_
  by_cases e4 : (splitL 46 [] ps[i]).length = 4
  ·obtain ⟨q0, q1, q2, q3, hq⟩ := list4 e4
   have hlen := (splitL_len 46 ps[i] []).2
   rw [hq] at hlen ⊢
   simp only [List.mem_cons, List.not_mem_nil, or_false, List.length_nil] at hlen
   rw [clsOf_four rdV _ _ q0 q1 q2 q3 hq, map_more]
   simp only [List.map_cons, List.map_nil, show rdOf ByteArray.empty [ofL q0, ofL q1, ofL q2, ofL q3] 0 = ofL q0 from rfl, show rdOf ByteArray.empty [ofL q0, ofL q1, ofL q2, ofL q3] 1 = ofL q1 from rfl, show rdOf ByteArray.empty [ofL q0, ofL q1, ofL q2, ofL q3] 2 = ofL q2 from rfl, show rdOf ByteArray.empty [ofL q0, ofL q1, ofL q2, ofL q3] 3 = ofL q3 from rfl]
   refine Ev_if (by simp) ?_
   refine Ev_if (by simp) ?_
   refine Ev.bind (spec_l1Read_ev q0 (by have := hlen q0 (by simp); omega)) ?_
   refine Ev_if (by simp) ?_
   refine Ev.bind (spec_l1Read_ev q1 (by have := hlen q1 (by simp); omega)) ?_
   refine Ev_if (by simp) ?_
   refine Ev.bind (spec_l1Read_ev q2 (by have := hlen q2 (by simp); omega)) ?_
   refine Ev_if (by simp) ?_
   refine Ev.bind (spec_l1Read_ev q3 (by have := hlen q3 (by simp); omega)) ?_
   refine Ev_if (by omega) ?_
   exact ih (i + 1) (acc ++ [⟨rdV q0, rdV q1, rdV q2, rdV q3⟩]) (by omega) (by simp; omega)
  ·rw [clsOf_none rdV _ _ e4]
   simp only [List.length_map, if_neg (show ¬ ((splitL 46 [] ps[i]).length : Int) = 4 by omega), Option.map_none, endS]
   exact Ev.now _
def resS (L : List UInt8) : Int × List S44 × Bool := match splitL 104 [] L with
 | [p, r] => if 120 < L.length then (0, [], false) else endS L (rdV p) (clsOf rdV (if r = [] then [] else splitL 44 [] r))
 | _ => (0, [], false)
theorem resS_none (L : List UInt8) (h : ¬ (splitL 104 [] L).length = 2) : resS L = (0, [], false) := by
 unfold resS
 split
 ·rename_i e
  have := congrArg List.length e
  simp at this
  exact absurd this h
 ·rfl
theorem spec_pzParse_ev (L : List UInt8) (hL : L.length ≤ 1048576) : Ev (fun k => spec_pzParse.f k (ofL L)) (resS L) := by
 have hs : Ev (fun k => spec_l1Split.f k (ofL L) 104) ((splitL 104 [] L).map ofL) := spec_l1Split_ev 104 L hL
 have hend : ∀ (ps : List ByteArray), Ev (fun k => spec_pzParse.j0 k (ofL L) ps true) (0, [], false) := fun ps => by
  refine Ev_add 1 ?_
  simp only [spec_pzParse.j0, if_true]
  exact Ev.now _
 unfold spec_pzParse.f
 refine Ev.bind hs ?_
 simp only [ofL_size, List.length_map]
 by_cases c : (L.length : Int) > 120
 ·simp only [if_pos c]
  have e : resS L = (0, [], false) := by
   unfold resS
   split
   ·rw [if_pos (by omega)]
   ·rfl
  rw [e]
  exact hend _
 ·simp only [if_neg c]
  by_cases e2 : (splitL 104 [] L).length = 2
  ·have hlen := (splitL_len 104 L []).2
   match hq : splitL 104 [] L, e2 with
   | [p, r], _ =>
    rw [hq] at hlen
    simp only [List.mem_cons, List.not_mem_nil, or_false, List.length_nil] at hlen
    have hp := hlen p (by simp)
    have hr := hlen r (by simp)
    unfold resS
    rw [hq]
    simp only [if_neg (show ¬ 120 < L.length by omega), List.map_cons, List.map_nil, List.length_cons, List.length_nil]
    refine Ev_add 1 ?_
    simp only [spec_pzParse.j0, show rdOf ByteArray.empty [ofL p, ofL r] 0 = ofL p from rfl, show rdOf ByteArray.empty [ofL p, ofL r] 1 = ofL r from rfl, ofL_size, List.length_cons, List.length_nil]
    simp only [show (((0 + 1 + 1 : Nat) : Int) != 2) = false from rfl, Bool.false_eq_true, if_false]
    refine Ev_if (by omega) ?_
    refine Ev.bind (spec_l1Read_ev p (by omega)) ?_
    refine Ev_if (by omega) ?_
    by_cases er : r = []
    ·subst er
     simp only [List.length_nil, if_neg (show ¬ ((0 : Nat) : Int) > 0 by omega), if_true, clsOf]
     exact spec_pzParse_end L (rdV p) []
    ·have hr0 : 0 < r.length := List.length_pos_iff.2 er
     have h44 : Ev (fun k => spec_l1Split.f k (ofL r) 44) ((splitL 44 [] r).map ofL) := spec_l1Split_ev 44 r (by omega)
     obtain ⟨g1, g2⟩ := splitL_len 44 r []
     simp only [if_pos (show ((r.length : Nat) : Int) > 0 by omega), if_neg er]
     refine Ev.bind h44 ?_
     simp only [List.length_map]
     have := spec_pzParse_l0 L (splitL 44 [] r) (fun q hq => by have := g2 q hq; simp only [List.length_nil] at this; omega) (by omega) (rdV p) (splitL 44 [] r).length 0 [] (by omega) (by simp)
     simpa using this
  ·rw [resS_none L e2]
   have : ((((splitL 104 [] L).length : Nat) : Int) != 2) = true := by
    rw [bne_iff_ne]
    omega
   simp only [this]
   exact hend _
theorem piecesF_eq (L : List UInt8) (c : UInt8) : piecesF (ofL L) (ofL [c]) = (splitL c [] L).map ofL := by
 have h : (piecesF (ofL L) (ofL [c])).map (fun s => s.data.toList) = splitL c [] L := by
  unfold piecesF
  rw [Lib.splitB_data]
  show Lib.splitK (ofL [c]).data.toList 0 (Lib.count (ofL L).data.toList (ofL [c]).data.toList) (ofL L).data.toList = _
  rw [ofL_list, ofL_list]
  exact splitK_splitL c _ L (Nat.le_refl _)
 rw [← h, List.map_map]
 have : (ofL ∘ fun s : ByteArray => s.data.toList) = id := by
  funext s
  exact ofL_data s
 rw [this, List.map_id]
theorem cutF_eq (L : List UInt8) (c : UInt8) : cutF (ofL L) (ofL [c]) = (ofL (Lib.cut L [c]).1, ofL (Lib.cut L [c]).2.1, (Lib.cut L [c]).2.2) := by
 unfold cutF
 rw [ofL_list, ofL_list]
 rfl
theorem numF_dgt : ∀ i : Nat, i < 100 → numF (dgt (i : Int)) = (i : Int) := by decide +kernel
theorem numF_pos (t : List UInt8) (h : 0 ≤ numF t) : t = dgt (numF t) := by
 unfold numF at h ⊢
 split at h
 ·rename_i v hv
  split at h
  ·omega
  ·rename_i h0
   rw [if_neg h0]
   split at h
   ·rename_i e
    rw [if_pos e, ← e]
    unfold Lib.itoa dgt
    rw [if_neg h0]
   ·omega
 ·omega
theorem impl_number_eq (L : List UInt8) (hL : L.length ≤ 1048576) : impl_number.f (ofL L) = some (numF L) := by
 unfold impl_number.f
 rw [if_pos (by rw [ofL_size]; exact hL), ofL_list]
theorem strings_Cut_eq (L : List UInt8) (c : UInt8) (hL : L.length ≤ 1048576) : strings_Cut.f (ofL L) (ofL [c]) = some (ofL (Lib.cut L [c]).1, ofL (Lib.cut L [c]).2.1, (Lib.cut L [c]).2.2) := by
 unfold strings_Cut.f
 rw [if_pos (by rw [ofL_size]; exact hL), cutF_eq]
theorem strings_Split_eq (L : List UInt8) (c : UInt8) (hL : L.length ≤ 1048576) : strings_Split.f (ofL L) (ofL [c]) = some ((splitL c [] L).map ofL) := by
 unfold strings_Split.f
 rw [if_pos ⟨by rw [ofL_size]; exact hL, by rw [ofL_size]; exact Nat.le_refl _⟩, piecesF_eq]
theorem impl_split_l0 (ps : List (List UInt8)) (hp : ∀ p ∈ ps, p.length ≤ 1048576) (hn : ps.length ≤ 2000000) : ∀ (d i : Nat) (acc : List Int), i + d = ps.length → acc.length ≤ i → Ev (fun k => impl_split.l0 k acc (ps.map ofL) (ps.length : Int) (i : Int)) (acc ++ (ps.drop i).map numF) := by
 intro d
 induction d with
 | zero =>
  intro i acc hi ha
  refine Ev_add 1 ?_
  simp only [impl_split.l0, if_neg (show ¬ (i : Int) < (ps.length : Int) by omega)]
  rw [List.drop_of_length_le (by omega), List.map_nil, List.append_nil]
  exact Ev.now _
 | succ d ih =>
  intro i acc hi ha
  have hil : i < ps.length := by omega
  have w1 : wrap64 ((i : Int) + 1) = ((i + 1 : Nat) : Int) := by rw [wrap_id (by omega) (by omega)]; omega
  refine Ev_add 1 ?_
  simp only [impl_split.l0, if_pos (show (i : Int) < (ps.length : Int) by omega), if_pos (show 0 ≤ (i : Int) by omega), List.length_map, rdOf_at ps i hil, impl_number_eq _ (hp _ (List.getElem_mem hil)), Option.bind_some, if_pos (show acc.length < 17592186044416 by omega), w1]
  rw [List.drop_eq_getElem_cons hil, List.map_cons]
  have := ih (i + 1) (acc ++ [numF ps[i]]) (by omega) (by simp; omega)
  rw [List.append_assoc] at this
  exact this
theorem impl_split_ev (c : UInt8) (L : List UInt8) (hL : L.length ≤ 1048576) : Ev (fun k => impl_split.f k (ofL L) (ofL [c])) ((splitL c [] L).map numF) := by
 obtain ⟨h1, h2⟩ := splitL_len c L []
 unfold impl_split.f
 simp only [strings_Split_eq L c hL, Option.bind_some, List.length_map]
 have := impl_split_l0 (splitL c [] L) (fun p hp => by have := h2 p hp; simp only [List.length_nil] at this; omega) (by omega) (splitL c [] L).length 0 [] (by omega) (by simp)
 simpa using this
theorem impl_within_eq (a lo hi : Int) : impl_within.f a lo hi = some (inR a lo hi) := by
 unfold impl_within.f inR
 by_cases h : lo ≤ a <;> simp [h]
theorem impl_IsClue_j2 (k : Nat) (h : Int) (x5 x6 : Bool) (K : Int) (x42 : Bool) (K0 A B C : Int) : impl_IsClue.j2 (k + 1) h x5 x6 K x42 K0 A B C = some (clueBody h x5 x6 K x42 A B C) := by
 simp only [impl_IsClue.j2, impl_within_eq, Option.bind_some, clueBody]
 by_cases c1 : x42 = true
 ·simp only [if_pos c1]; cases x6 <;> rfl
 ·simp only [if_neg c1]
  by_cases c2 : K = 1
  ·simp only [if_pos c2]; cases x5 <;> rfl
  ·simp only [if_neg c2]
   by_cases c3 : K = 2
   ·simp only [if_pos c3]
    by_cases c5 : B = 0
    ·simp only [if_pos c5, beq_iff_eq.mpr c5]; cases inR A 0 5 <;> rfl
    ·simp only [if_neg c5, beq_eq_false_iff_ne.mpr c5]; cases inR A 0 5 <;> rfl
   ·simp only [if_neg c3]
    by_cases c4 : K = 4
    ·simp only [if_pos c4]; cases x5 <;> rfl
    ·simp only [if_neg c4]
     by_cases c5 : K = 5
     ·simp only [if_pos c5]; cases x6 <;> rfl
     ·simp only [if_neg c5]
theorem impl_IsClue_succ (k : Nat) (h K A B C : Int) : impl_IsClue.f (k + 3) h K A B C = some (inR h 2 4 && clueB h K A B C) := by
 unfold impl_IsClue.f
 simp only [impl_within_eq, Option.bind_some]
 cases hb : inR h 2 4 with
 | false => rfl
 | true =>
  simp only [if_true, Bool.true_and]
  have e : ∀ x5, impl_IsClue.j0 (k + 3) h x5 K A B C = some (clueBody h x5 ((A == 0) && (B == 0)) K ((K == 0) || (K == 3)) A B C) := by
   intro x5
   simp only [impl_IsClue.j0]
   by_cases c : A = 0
   ·simp only [if_pos c, beq_iff_eq.mpr c, Bool.true_and, impl_IsClue.j1]
    by_cases c2 : K = 0
    ·simp only [if_pos c2, impl_IsClue_j2, beq_iff_eq.mpr c2, Bool.true_or]
    ·simp only [if_neg c2, impl_IsClue_j2, beq_eq_false_iff_ne.mpr c2, Bool.false_or]
   ·simp only [if_neg c, beq_eq_false_iff_ne.mpr c, Bool.false_and, impl_IsClue.j1]
    by_cases c2 : K = 0
    ·simp only [if_pos c2, impl_IsClue_j2, beq_iff_eq.mpr c2, Bool.true_or]
    ·simp only [if_neg c2, impl_IsClue_j2, beq_eq_false_iff_ne.mpr c2, Bool.false_or]
  have t : twoB h A B = if mn A B ≥ 0 then (if mx A B < h then A != B else false) else false := by
   unfold twoB mn mx inR
   by_cases c1 : 0 ≤ A <;> by_cases c2 : 0 ≤ B <;> by_cases c3 : B < A <;> by_cases c4 : A < B <;> by_cases c5 : A ≤ h - 1 <;> by_cases c6 : B ≤ h - 1 <;> simp [c1, c2, c3, c4, c5, c6] <;> omega
  unfold clueB
  rw [t]
  by_cases c1 : mn A B ≥ 0
  ·by_cases c2 : mx A B < h
   ·simp only [if_pos c1, if_pos c2, e]
   ·simp only [if_pos c1, if_neg c2, e]
  ·simp only [if_neg c1, e]
theorem impl_IsClue_ev (h K A B C : Int) : Ev (fun k => impl_IsClue.f k h K A B C) (inR h 2 4 && clueB h K A B C) := Ev_add 3 ⟨0, fun k _ => impl_IsClue_succ k h K A B C⟩
theorem anyO_ev {α : Type} (p : Nat → α → Option Bool) (q : α → Bool) : ∀ l : List α, (∀ x, x ∈ l → Ev (fun k => p k x) (q x)) → Ev (fun k => anyO (p k) l) (l.any q)
 | [], _ => Ev.now _
 | x :: t, h => by
  simp only [anyO]
  refine Ev.bind (h x List.mem_cons_self) ?_
  rw [List.any_cons]
  cases q x with
  | true =>
   simp only [if_true, Bool.true_or]
   exact Ev.now _
  | false =>
   simp only [Bool.false_eq_true, if_false, Bool.false_or]
   exact anyO_ev p q t fun y hy => h y (List.mem_cons_of_mem _ hy)
theorem not_any_not {α : Type} (q : α → Bool) (l : List α) : (!(l.any fun x => !q x)) = l.all q := by
 induction l with
 | nil => rfl
 | cons x t ih => rw [List.any_cons, List.all_cons, ← ih]; cases q x <;> simp
theorem impl_IsPuzzle_ev (h : Int) (l : List S44) : Ev (fun k => impl_IsPuzzle.f k h l) (goodP h l) := by
 unfold impl_IsPuzzle.f goodP
 simp only [impl_within_eq, Option.bind_some]
 cases hb : inR h 2 4 with
 | false =>
  simp only [Bool.false_eq_true, if_false, Bool.false_and]
  exact Ev.now _
 | true =>
  simp only [if_true, Bool.true_and]
  by_cases c : (l.length : Int) ≤ 6
  ·simp only [if_pos c, decide_eq_true c, Bool.true_and]
   have e := anyO_ev (fun k => impl_IsPuzzle_1.f k h) (fun x => !clueB h x.f0 x.f1 x.f2 x.f3) l (fun x _ => by
    unfold impl_IsPuzzle_1.f
    refine Ev.bind (impl_IsClue_ev h _ _ _ _) ?_
    rw [hb, Bool.true_and]
    exact Ev.now _)
   refine Ev.bind e ?_
   rw [← not_any_not]
   exact Ev.now _
  ·simp only [if_neg c, decide_eq_false c, Bool.false_and]
   exact Ev.now _
theorem impl_ParsePuzzle_l0 (ps : List (List UInt8)) (hp : ∀ p ∈ ps, p.length ≤ 1048576) (hn : ps.length ≤ 2000000) (h : Int) : ∀ (d i : Nat) (acc : List S44), i + d = ps.length → acc.length ≤ i → Ev (fun k => impl_ParsePuzzle.l0 k (ps.map ofL) (ps.length : Int) (i : Int) h acc) (endI h ((clsOf numF (ps.drop i)).map fun l => acc ++ l)) := by
 have e46 : (⟨#[46]⟩ : ByteArray) = ofL [46] := rfl
 intro d
 induction d with
 | zero =>
  intro i acc hi ha
  refine Ev_add 1 ?_
  simp only [impl_ParsePuzzle.l0, if_neg (show ¬ (i : Int) < (ps.length : Int) by omega)]
  rw [List.drop_of_length_le (by omega), clsOf, Option.map_some, List.append_nil]
  refine Ev.bind (impl_IsPuzzle_ev h acc) ?_
  cases hb : goodP h acc with
  | false =>
   simp only [Bool.false_eq_true, if_false, endI, hb]
   exact Ev.now _
  | true =>
   simp only [if_true, endI, hb]
   exact Ev.now _
 | succ d ih =>
  intro i acc hi ha
  have hil : i < ps.length := by omega
  have hpi := hp _ (List.getElem_mem hil)
  have w1 : wrap64 ((i : Int) + 1) = ((i + 1 : Nat) : Int) := by rw [wrap_id (by omega) (by omega)]; omega
  rw [List.drop_eq_getElem_cons hil]
  refine Ev_add 1 ?_
  simp only [impl_ParsePuzzle.l0, if_pos (show (i : Int) < (ps.length : Int) by omega), if_pos (show 0 ≤ (i : Int) by omega), List.length_map, rdOf_at ps i hil, w1, e46]
  refine Ev.bind (impl_split_ev 46 ps[i] hpi) ?_
  by_cases e4 : (splitL 46 [] ps[i]).length = 4
  ·obtain ⟨q0, q1, q2, q3, hq⟩ := list4 e4
   rw [clsOf_four numF _ _ q0 q1 q2 q3 hq, map_more, hq]
   simp only [List.map_cons, List.map_nil, show ∀ a b c d : Int, rd [a, b, c, d] 0 = a from fun _ _ _ _ => rfl, show ∀ a b c d : Int, rd [a, b, c, d] 1 = b from fun _ _ _ _ => rfl, show ∀ a b c d : Int, rd [a, b, c, d] 2 = c from fun _ _ _ _ => rfl, show ∀ a b c d : Int, rd [a, b, c, d] 3 = d from fun _ _ _ _ => rfl]
   refine Ev_if (by simp) ?_
   refine Ev_if (by simp) ?_
   refine Ev_if (by simp) ?_
   refine Ev_if (by simp) ?_
   refine Ev_if (by simp) ?_
   refine Ev_if (by omega) ?_
   exact ih (i + 1) (acc ++ [⟨numF q0, numF q1, numF q2, numF q3⟩]) (by omega) (by simp; omega)
  ·rw [clsOf_none numF _ _ e4]
   simp only [List.length_map, if_neg (show ¬ ((splitL 46 [] ps[i]).length : Int) = 4 by omega), Option.map_none, endI]
   exact Ev.now _
def resI (L : List UInt8) : Int × List S44 × Bool := if (Lib.cut L [104]).2.2 = true then endI (numF (Lib.cut L [104]).1) (clsOf numF (if (Lib.cut L [104]).2.1 = [] then [] else splitL 44 [] (Lib.cut L [104]).2.1)) else (0, [], false)
theorem impl_ParsePuzzle_ev (L : List UInt8) (hL : L.length ≤ 1048576) : Ev (fun k => impl_ParsePuzzle.f k (ofL L)) (resI L) := by
 have e104 : (⟨#[104]⟩ : ByteArray) = ofL [104] := rfl
 have e44 : (⟨#[44]⟩ : ByteArray) = ofL [44] := rfl
 have hj : ∀ (ps : List (List UInt8)) (h : Int), (∀ p ∈ ps, p.length ≤ 1048576) → ps.length ≤ 2000000 → Ev (fun k => impl_ParsePuzzle.j0 k (ps.map ofL) h) (endI h (clsOf numF ps)) := fun ps h hp hn => by
  refine Ev_add 1 ?_
  simp only [impl_ParsePuzzle.j0, List.length_map]
  have := impl_ParsePuzzle_l0 ps hp hn h ps.length 0 [] (by omega) (by simp)
  simpa using this
 unfold impl_ParsePuzzle.f resI
 simp only [e104, e44, strings_Cut_eq L 104 hL, Option.bind_some]
 rcases cut_splitL 104 L with ⟨h1, _, _⟩ | ⟨p, r, h1, h2, _, _⟩
 ·rw [h1]
  simp only [impl_number_eq L hL, Option.bind_some, Bool.false_eq_true, if_false]
  exact Ev.now _
 ·have hl := congrArg List.length h2
  simp only [List.length_append, List.length_singleton] at hl
  rw [h1]
  simp only [impl_number_eq p (by omega), Option.bind_some, if_true, strings_Split_eq r 44 (by omega), Lib.toList_data, ofL_list]
  obtain ⟨g1, g2⟩ := splitL_len 44 r []
  by_cases er : r = []
  ·simp only [if_pos er]
   exact hj [] (numF p) (by simp) (by simp)
  ·simp only [if_neg er]
   exact hj (splitL 44 [] r) (numF p) (fun q hq => by have := g2 q hq; simp only [List.length_nil] at this; omega) (by omega)
theorem dgt_no (n : Int) (h0 : 0 ≤ n) (h1 : n ≤ 20) : dgt n ≠ [] ∧ (46 : UInt8) ∉ dgt n ∧ (44 : UInt8) ∉ dgt n ∧ (104 : UInt8) ∉ dgt n := by
 obtain ⟨i, rfl⟩ := Int.eq_ofNat_of_zero_le h0
 obtain ⟨a, b⟩ := dgt_free i (by omega)
 exact ⟨a, fun q => absurd (b _ q) (by decide), fun q => absurd (b _ q) (by decide), fun q => absurd (b _ q) (by decide)⟩
theorem clT_split {c : S44} (h : smallC c) : splitL 46 [] (clT c) = [dgt c.f0, dgt c.f1, dgt c.f2, dgt c.f3] := by
 rw [← join_clue]
 refine splitL_joined 46 _ (by simp) ?_
 intro p hp
 obtain ⟨h1, h2, h3, h4⟩ := h
 simp only [List.map_cons, List.map_nil, List.mem_cons, List.not_mem_nil, or_false] at hp
 rcases hp with rfl | rfl | rfl | rfl
 ·exact (dgt_no _ h1.1 h1.2).2.1
 ·exact (dgt_no _ h2.1 h2.2).2.1
 ·exact (dgt_no _ h3.1 h3.2).2.1
 ·exact (dgt_no _ h4.1 h4.2).2.1
theorem clT_no {c : S44} (h : smallC c) : clT c ≠ [] ∧ (44 : UInt8) ∉ clT c ∧ (104 : UInt8) ∉ clT c := by
 obtain ⟨h1, h2, h3, h4⟩ := h
 have g1 := dgt_no _ h1.1 h1.2
 have g2 := dgt_no _ h2.1 h2.2
 have g3 := dgt_no _ h3.1 h3.2
 have g4 := dgt_no _ h4.1 h4.2
 unfold clT
 simp [g1.1, g1.2.2, g2.2.2, g3.2.2, g4.2.2]
theorem clsT_no : ∀ (l : List S44) (i : Nat), (∀ c ∈ l, smallC c) → (104 : UInt8) ∉ clsT l i
 | [], _, _ => by simp [clsT]
 | c :: t, i, h => by
  have h1 := (clT_no (h c List.mem_cons_self)).2.2
  have h2 := clsT_no t (i + 1) fun d hd => h d (List.mem_cons_of_mem _ hd)
  rw [clsT]
  split <;> simp [h1, h2]
/-- A reader of numbers that reads small ones back. -/
theorem clsOf_text (num : List UInt8 → Int) (hnum : ∀ n : Int, 0 ≤ n → n ≤ 20 → num (dgt n) = n) : ∀ l : List S44, (∀ c ∈ l, smallC c) → clsOf num (l.map clT) = some l
 | [], _ => rfl
 | c :: t, h => by
  have hc := h c List.mem_cons_self
  rw [List.map_cons, clsOf_four num _ _ _ _ _ _ (clT_split hc), clsOf_text num hnum t fun d hd => h d (List.mem_cons_of_mem _ hd)]
  obtain ⟨h1, h2, h3, h4⟩ := hc
  rw [hnum _ h1.1 h1.2, hnum _ h2.1 h2.2, hnum _ h3.1 h3.2, hnum _ h4.1 h4.2]
  rfl
theorem cls_pieces (l : List S44) (h : ∀ c ∈ l, smallC c) : (if clsT l 0 = [] then [] else splitL 44 [] (clsT l 0)) = l.map clT := by
 rw [← join_cls]
 cases l with
 | nil => rfl
 | cons c t =>
  have hc := clT_no (h c List.mem_cons_self)
  rw [if_neg, splitL_joined 44 _ (by simp) fun p hp => by
   obtain ⟨d, hd, rfl⟩ := List.mem_map.1 hp
   exact (clT_no (h d hd)).2.1]
  rw [List.map_cons, Lib.join_cons]
  intro q
  exact hc.1 (List.append_eq_nil_iff.1 q).1
theorem text_clsOf : ∀ (ps : List (List UInt8)) (l : List S44), clsOf numF ps = some l → (∀ c ∈ l, smallC c) → ps = l.map clT
 | [], l, h, _ => by
  rw [clsOf] at h
  obtain rfl := Option.some.inj h
  rfl
 | p :: t, l, h, hs => by
  by_cases e4 : (splitL 46 [] p).length = 4
  ·obtain ⟨q0, q1, q2, q3, hq⟩ := list4 e4
   rw [clsOf_four numF p t q0 q1 q2 q3 hq] at h
   obtain ⟨l', hl', rfl⟩ := Option.map_eq_some_iff.1 h
   have hc := hs _ List.mem_cons_self
   obtain ⟨h1, h2, h3, h4⟩ := hc
   rw [List.map_cons, ← text_clsOf t l' hl' fun d hd => hs d (List.mem_cons_of_mem _ hd), ← join_clue]
   have hj := splitL_join 46 p []
   rw [hq] at hj
   simp only [List.map_cons, List.map_nil]
   rw [← numF_pos q0 h1.1, ← numF_pos q1 h2.1, ← numF_pos q2 h3.1, ← numF_pos q3 h4.1, hj]
   rfl
  ·rw [clsOf_none numF p t e4] at h
   cases h
def finS (v : Int × List S44 × Bool) : Int × List S44 × Bool := if v.2.2 = true then (v.1, v.2.1, true) else (0, [], false)
theorem good_small {h : Int} {l : List S44} (hb : goodP h l = true) : (2 ≤ h ∧ h ≤ 4) ∧ ∀ c ∈ l, smallC c := by
 unfold goodP at hb
 rw [Bool.and_eq_true, Bool.and_eq_true, inR_iff, List.all_eq_true] at hb
 exact ⟨hb.1, fun c hc => smallC_of hb.1.1 hb.1.2 (hb.2.2 c hc)⟩
theorem pz_split {h : Int} {l : List S44} (hb : goodP h l = true) : splitL 104 [] (pzT h l) = [dgt h, clsT l 0] ∧ Lib.cut (pzT h l) [104] = (dgt h, clsT l 0, true) := by
 obtain ⟨hh, hs⟩ := good_small hb
 have g := (dgt_no h (by omega) (by omega)).2.2.2
 have e : splitL 104 [] (pzT h l) = [dgt h, clsT l 0] := by
  unfold pzT
  rw [splitL_cut 104 (dgt h) [] _ g, splitL_free 104 _ [] (clsT_no l 0 hs)]
  rfl
 refine ⟨e, ?_⟩
 rcases cut_splitL 104 (pzT h l) with ⟨_, _, h3⟩ | ⟨p, r, h1, h2, _, h4⟩
 ·exact absurd (by unfold pzT; simp) h3
 ·rw [e] at h4
  have hp : dgt h = p := (List.cons.inj h4).1
  subst hp
  rw [h1]
  unfold pzT at h2
  rw [List.append_cancel_left h2]
theorem resI_good {h : Int} {l : List S44} (hb : goodP h l = true) : resI (pzT h l) = (h, l, true) := by
 obtain ⟨hh, hs⟩ := good_small hb
 have hnum : ∀ n : Int, 0 ≤ n → n ≤ 20 → numF (dgt n) = n := fun n h0 h1 => by
  obtain ⟨i, rfl⟩ := Int.eq_ofNat_of_zero_le h0
  exact numF_dgt i (by omega)
 unfold resI
 rw [(pz_split hb).2]
 simp only [if_true]
 rw [cls_pieces l hs, clsOf_text numF hnum l hs, hnum h (by omega) (by omega), endI, if_pos hb]
theorem resS_good {h : Int} {l : List S44} (hb : goodP h l = true) : resS (pzT h l) = (h, l, true) := by
 obtain ⟨hh, hs⟩ := good_small hb
 have hn := goodP_len hb
 have hd := dgt_len h (by omega) (by omega)
 have hcls := clsT_len l 0 hs
 have hlen : (pzT h l).length ≤ 120 := by
  unfold pzT
  simp only [List.length_append, List.length_singleton]
  omega
 have hnum : ∀ n : Int, 0 ≤ n → n ≤ 20 → rdV (dgt n) = n := fun n h0 h1 => by
  obtain ⟨i, rfl⟩ := Int.eq_ofNat_of_zero_le h0
  exact rdV_dgt i (by omega)
 unfold resS
 rw [(pz_split hb).1]
 simp only [if_neg (show ¬ 120 < (pzT h l).length by omega)]
 rw [cls_pieces l hs, clsOf_text rdV hnum l hs, hnum h (by omega) (by omega), endS, if_pos hb, beq_self_eq_true]
theorem endS_bad (L : List UInt8) (hno : ¬ ∃ (h : Int) (l : List S44), goodP h l = true ∧ L = pzT h l) (h : Int) (o : Option (List S44)) : finS (endS L h o) = (0, [], false) := by
 cases o with
 | none => rfl
 | some l =>
  simp only [endS]
  by_cases hb : goodP h l = true
  ·rw [if_pos hb]
   have : (pzT h l == L) = false := beq_eq_false_iff_ne.2 fun q => hno ⟨h, l, hb, q.symm⟩
   rw [this]
   rfl
  ·rw [if_neg hb]
   rfl
theorem res_same (L : List UInt8) : resI L = finS (resS L) := by
 by_cases hno : ∃ (h : Int) (l : List S44), goodP h l = true ∧ L = pzT h l
 ·obtain ⟨h, l, hb, rfl⟩ := hno
  rw [resI_good hb, resS_good hb]
  rfl
 ·have e2 : finS (resS L) = (0, [], false) := by
   unfold resS
   split
   ·split
    ·rfl
    ·exact endS_bad L hno _ _
   ·rfl
  rw [e2]
  unfold resI
  rcases cut_splitL 104 L with ⟨h1, _, _⟩ | ⟨p, r, h1, h2, _, _⟩
  ·rw [h1]
   rfl
  ·rw [h1]
   simp only [if_true]
   cases ho : clsOf numF (if r = [] then [] else splitL 44 [] r) with
   | none => rfl
   | some l =>
    simp only [endI]
    by_cases hb : goodP (numF p) l = true
    ·exfalso
     obtain ⟨hh, hs⟩ := good_small hb
     refine hno ⟨numF p, l, hb, ?_⟩
     have ht := text_clsOf _ l ho hs
     have hr : r = clsT l 0 := by
      rw [← join_cls, ← ht]
      split
      ·assumption
      ·rw [splitL_join]
       rfl
     unfold pzT
     rw [← numF_pos p (by omega), ← hr]
     exact h2
    ·rw [if_neg hb]
theorem agree_ParsePuzzle (s : ByteArray) (hs : s.size ≤ 1048576) : ∃ v, Ev (fun k => spec_ParsePuzzle.f k s) v ∧ Ev (fun k => impl_ParsePuzzle.f k s) v ∧ v.2.1.length ≤ 1000000 := by
 have hL : s.data.toList.length ≤ 1048576 := by rw [← Lib.size_eq]; exact hs
 rw [← ofL_data s]
 refine ⟨resI s.data.toList, ?_, impl_ParsePuzzle_ev _ hL, ?_⟩
 ·rw [res_same]
  unfold spec_ParsePuzzle.f
  refine Ev.bind (spec_pzParse_ev _ hL) ?_
  unfold finS
  by_cases c : (resS s.data.toList).2.2 = true
  ·simp only [if_pos c]
   exact Ev.now _
  ·simp only [if_neg c]
   exact Ev.now _
 ·have : ∀ (h : Int) (o : Option (List S44)), (endI h o).2.1.length ≤ 1000000 := fun h o => by
   cases o with
   | none => simp [endI]
   | some l =>
    simp only [endI]
    by_cases hb : goodP h l = true
    ·have := goodP_len hb
     rw [if_pos hb]
     simp only
     omega
    ·rw [if_neg hb]
     simp
  unfold resI
  split
  ·exact this _ _
  ·simp
theorem eqClueS_l0 (a : List S44) (hm : a.length < 9223372036854775807) : ∀ (d k i : Nat), i + d = a.length → d < k → laws_eqClueS.l0 k a a (i : Int) = some true := by
 intro d
 induction d with
 | zero =>
  intro k i h hk
  obtain ⟨k, rfl⟩ : ∃ m, k = m + 1 := ⟨k - 1, by omega⟩
  simp only [laws_eqClueS.l0]
  rw [if_neg (by omega)]
 | succ d ih =>
  intro k i h hk
  obtain ⟨k, rfl⟩ : ∃ m, k = m + 1 := ⟨k - 1, by omega⟩
  have hi : i < a.length := by omega
  have e : (i : Int) + 1 = ((i + 1 : Nat) : Int) := by omega
  simp only [laws_eqClueS.l0]
  rw [if_pos (by omega), if_pos (by omega), if_pos (by omega), rdClue_at a i hi, wrap_id (by omega) (by omega), e]
  simp only [laws_eqClue.f, if_true, Option.bind_some]
  exact ih k (i + 1) (by omega) (by omega)
theorem eqClueS_self (a : List S44) (hm : a.length < 9223372036854775807) : Ev (fun k => laws_eqClueS.f k a a) true := by
 refine ⟨a.length + 1, fun k hk => ?_⟩
 have h := eqClueS_l0 a hm a.length k 0 (by omega) (by omega)
 show laws_eqClueS.f k a a = _
 unfold laws_eqClueS.f
 rw [if_pos rfl]
 simpa using h
theorem eqPuzzle_self (h : Int) (a : List S44) (hm : a.length < 9223372036854775807) : Ev (fun k => laws_eqPuzzle.f k h a h a) true := by
 unfold laws_eqPuzzle.f
 simp only [if_true]
 refine Ev.bind (eqClueS_self a hm) ?_
 simp only [if_true]
 exact Ev.now _
/-- Marked clues: so many, from a number on. -/
def iotaClue : Nat → Int → List S44
 | 0, _ => []
 | n + 1, k => (⟨k, k + 1, k + 1 + 1, k + 1 + 1 + 1⟩ : S44) :: iotaClue n (k + 4)
theorem iotaClue_length : ∀ (n : Nat) (k : Int), (iotaClue n k).length = n
 | 0, _ => rfl
 | n + 1, k => by simp [iotaClue, iotaClue_length n]
theorem markClueS_l0 : ∀ (d k : Nat) (pre l : List S44) (i : Nat) (m : Int), i = pre.length → l.length = d → d < k → 0 ≤ m → m + 4 * d < 9223372036854775807 → pre.length + d < 9223372036854775807 → laws_markClueS.l0 k (pre ++ l) m (i : Int) = some (m + 4 * d, pre ++ iotaClue d m) := by
 intro d
 induction d with
 | zero =>
  intro k pre l i m hi hd hk h0 h1 h2
  obtain ⟨k, rfl⟩ : ∃ m, k = m + 1 := ⟨k - 1, by omega⟩
  obtain rfl : l = [] := List.eq_nil_of_length_eq_zero hd
  subst hi
  simp only [laws_markClueS.l0]
  rw [if_neg (by simp)]
  simp [iotaClue]
 | succ d ih =>
  intro k pre l i m hi hd hk h0 h1 h2
  obtain ⟨k, rfl⟩ : ∃ m, k = m + 1 := ⟨k - 1, by omega⟩
  cases l with
  | nil => simp at hd
  | cons x xs =>
   subst hi
   obtain ⟨y, hy⟩ : ∃ y : S44, y = ⟨m, m + 1, m + 1 + 1, m + 1 + 1 + 1⟩ := ⟨_, rfl⟩
   have e : (pre.length : Int) + 1 = ((pre ++ [y]).length : Int) := by simp
   have es : ∀ y : S44, (pre ++ x :: xs).set pre.length y = pre ++ y :: xs := by intro y; simp
   have es2 : ∀ y z : S44, (pre ++ y :: xs).set pre.length z = pre ++ z :: xs := by intro y z; simp
   have er : ∀ y : S44, rd_T44 (pre ++ y :: xs) (pre.length : Int) = y := by
    intro y
    rw [rdClue_at _ _ (by simp)]
    simp
   simp only [laws_markClueS.l0]
   rw [if_pos (by simp; omega), if_pos (by omega)]
   simp only [Option.bind_some, Int.toNat_natCast, es, es2, er]
   rw [wrap_id (x := m + 1) (by omega) (by omega), wrap_id (x := m + 1 + 1) (by omega) (by omega), wrap_id (x := m + 1 + 1 + 1) (by omega) (by omega), wrap_id (x := m + 1 + 1 + 1 + 1) (by omega) (by omega), wrap_id (x := (pre.length : Int) + 1) (by omega) (by omega), e, ← hy]
   have ec : pre ++ y :: xs = (pre ++ [y]) ++ xs := by simp
   rw [ec, ih k (pre ++ [y]) xs (pre ++ [y]).length (m + 1 + 1 + 1 + 1) rfl (by simpa using hd) (by omega) (by omega) (by omega) (by simp; omega)]
   have e2 : m + 1 + 1 + 1 + 1 = m + 4 := by omega
   rw [e2]
   simp [iotaClue, hy]
   omega
theorem markClueS_ev (l : List S44) (m : Int) (h0 : 0 ≤ m) (h1 : m + 4 * l.length < 9223372036854775807) : Ev (fun k => laws_markClueS.f k l m) (m + 4 * l.length, iotaClue l.length m) :=
 ⟨l.length + 1, fun k hk => by
  have h := markClueS_l0 l.length k [] l 0 m rfl rfl (by omega) h0 h1 (by simp; omega)
  simpa [laws_markClueS.f] using h⟩
theorem markPuzzle_ev (hp : Int) (l : List S44) (m : Int) (h0 : 0 ≤ m) (h1 : m + 4 * l.length < 9223372036854775807) : Ev (fun k => laws_markPuzzle.f k hp l m) (m + 4 * l.length, iotaClue l.length m) := by
 unfold laws_markPuzzle.f
 refine Ev.bind (markClueS_ev l m h0 h1) ?_
 exact Ev.now _
theorem heldClueS_l0 : ∀ (d k : Nat) (pre : List S44) (i : Nat) (m : Int), i = pre.length → d < k → 0 ≤ m → m + 4 * d < 9223372036854775807 → pre.length + d < 9223372036854775807 → laws_heldClueS.l0 k (pre ++ iotaClue d m) m (i : Int) = some (m + 4 * d) := by
 intro d
 induction d with
 | zero =>
  intro k pre i m hi hk h0 h1 h2
  obtain ⟨k, rfl⟩ : ∃ m, k = m + 1 := ⟨k - 1, by omega⟩
  subst hi
  simp only [laws_heldClueS.l0]
  rw [if_neg (by simp [iotaClue])]
  simp
 | succ d ih =>
  intro k pre i m hi hk h0 h1 h2
  obtain ⟨k, rfl⟩ : ∃ m, k = m + 1 := ⟨k - 1, by omega⟩
  subst hi
  obtain ⟨y, hy⟩ : ∃ y : S44, y = ⟨m, m + 1, m + 1 + 1, m + 1 + 1 + 1⟩ := ⟨_, rfl⟩
  have e : (pre.length : Int) + 1 = ((pre ++ [y]).length : Int) := by simp
  have er : rd_T44 (pre ++ iotaClue (d + 1) m) (pre.length : Int) = y := by
   rw [rdClue_at _ _ (by simp [iotaClue])]
   simp [iotaClue, hy]
  simp only [laws_heldClueS.l0]
  rw [if_pos (by simp [iotaClue]; omega), if_pos (by omega), er]
  simp only [hy]
  rw [if_pos trivial, wrap_id (x := m + 1) (by omega) (by omega), if_pos rfl, wrap_id (x := m + 1 + 1) (by omega) (by omega), if_pos rfl, wrap_id (x := m + 1 + 1 + 1) (by omega) (by omega), if_pos rfl, wrap_id (x := m + 1 + 1 + 1 + 1) (by omega) (by omega), wrap_id (x := (pre.length : Int) + 1) (by omega) (by omega), e]
  have es : pre ++ iotaClue (d + 1) m = (pre ++ [y]) ++ iotaClue d (m + 4) := by simp [iotaClue, hy]
  have e2 : m + 1 + 1 + 1 + 1 = m + 4 := by omega
  rw [es, e2, ih k (pre ++ [y]) (pre ++ [y]).length (m + 4) rfl (by omega) (by omega) (by omega) (by simp; omega)]
  congr 1
  omega
theorem heldClueS_ev (n : Nat) (m : Int) (h0 : 0 ≤ m) (h1 : m + 4 * n < 9223372036854775807) : Ev (fun k => laws_heldClueS.f k (iotaClue n m) m) (m + 4 * n) :=
 ⟨n + 1, fun k hk => by
  have h := heldClueS_l0 n k [] 0 m rfl (by omega) h0 h1 (by simp; omega)
  simpa [laws_heldClueS.f] using h⟩
theorem heldPuzzle_ev (hp : Int) (n : Nat) (m : Int) (h0 : 0 ≤ m) (h1 : m + 4 * n < 9223372036854775807) : Ev (fun k => laws_heldPuzzle.f k hp (iotaClue n m) m) (m + 4 * n) := by
 unfold laws_heldPuzzle.f
 refine Ev.bind (heldClueS_ev n m h0 h1) ?_
 have n1 : ¬ (m + 4 * (n : Int)) < 0 := by omega
 simp only [if_neg n1]
 exact Ev.now _
theorem FnExactParsePuzzle : laws_FnExactParsePuzzle.Pure := by
 intro s _
 refine Ev.rounds (g := fun k => laws_FnExactParsePuzzle.f k s) ?_
 unfold laws_FnExactParsePuzzle.f
 by_cases c : (s.size : Int) > 1048576
 ·simp only [if_pos c]
  exact Ev.now _
 ·obtain ⟨⟨v1, v2, v3⟩, hs, hi, hn⟩ := agree_ParsePuzzle s (by omega)
  have hn : v2.length ≤ 1000000 := hn
  have hQ := eqPuzzle_self v1 v2 (by omega)
  have hK := markPuzzle_ev v1 v2 1 (by omega) (by omega)
  have hH := heldPuzzle_ev v1 v2.length 1 (by omega) (by omega)
  have n2 : ¬ (1 + 4 * (v2.length : Int)) < 0 := by omega
  simp only [if_neg c]
  repeat (first
   | exact Ev.now _
   | refine Ev.bind hs ?_
   | refine Ev.bind hi ?_
   | refine Ev.bind hQ ?_
   | refine Ev.bind hK ?_
   | refine Ev.bind hH ?_
   | simp only [if_true, bne_self_eq_false, Bool.false_eq_true, if_false, if_neg n2]
   | (refine Ev_add 1 ?_; simp only [laws_FnExactParsePuzzle.j0])
   | (refine Ev_add 1 ?_; simp only [laws_FnExactParsePuzzle.j1]))

end Go.Proofs.YtnijlmfamdhjmaaDoor.Pure
