/-
  The program's ParseSplits returns what the reference's returns, for all arguments: the plain half, about the printed functions alone.
  Conditions: those of the statement's own row; none is added.
-/
import Derived.Test.YtnfofdocnnndnaaDoorPPx5
namespace Go.Proofs.YtnfofdocnnndnaaDoor.Pure
set_option linter.unusedVariables false
set_option linter.unusedSimpArgs false
open Go.RowKit Go.Proofs.YtnfofdocnnndnaaDoor.PP Go.Proofs.YtnfofdocnnndnaaDoorW.PrintWords Go.Proofs.YtnfofdocnnndnaaDoorW.PrintLast Go.Proofs.YtnfofdocnnndnaaDoorW.PrintMore Go.Proofs.YtnfofdocnnndnaaDoorB

theorem Ev_add {α : Type} {g : Nat → Option α} {r : α} (m : Nat) (h : Ev (fun k => g (k + m)) r) : Ev g r := by
 obtain ⟨K, hK⟩ := h
 refine ⟨K + m, fun k hk => ?_⟩
 have h1 := hK (k - m) (by omega)
 simp only at h1
 rwa [Nat.sub_add_cancel (by omega)] at h1
theorem Ev_shift {α : Type} {g : Nat → Option α} {r : α} (m : Nat) (h : Ev g r) : Ev (fun k => g (k + m)) r := by
 obtain ⟨K, hK⟩ := h
 exact ⟨K, fun k hk => hK (k + m) (by omega)⟩
theorem wrap_id {x : Int} (h0 : -9223372036854775808 ≤ x) (h1 : x ≤ 9223372036854775807) : wrap64 x = x := by
 unfold wrap64
 omega
theorem rd_at (l : List Int) (i : Nat) (h : i < l.length) : rd l (i : Int) = l[i] := rd_get l i h
theorem rd_append_left (l m : List Int) (i : Int) (h0 : 0 ≤ i) (h : i < l.length) : rd (l ++ m) i = rd l i := by
 unfold rd
 rw [List.getD_eq_getElem?_getD, List.getD_eq_getElem?_getD, List.getElem?_append_left (by omega)]
/-- A text by its bytes. -/
def ofL (l : List UInt8) : ByteArray := ⟨l.toArray⟩
theorem ofL_append (l m : List UInt8) : ofL l ++ ofL m = ofL (l ++ m) := by
 apply ByteArray.ext
 simp [ofL, ByteArray.data_append]
theorem ofL_size (l : List UInt8) : (ofL l).size = l.length := by
 show l.toArray.size = _
 simp
theorem ofL_list (l : List UInt8) : (ofL l).data.toList = l := by
 simp [ofL]
theorem ofL_data (s : ByteArray) : ofL s.data.toList = s := Lib.mk_data s
/-- The digits of a number. -/
def dgt (n : Int) : List UInt8 := Lib.decDigits n.toNat
/-- The pieces of a row of bytes, cut at each c; acc is what the first piece has already. -/
def splitL (c : UInt8) : List UInt8 → List UInt8 → List (List UInt8)
 | acc, [] => [acc]
 | acc, b :: l => if b = c then acc :: splitL c [] l else splitL c (acc ++ [b]) l
theorem splitL_acc (c : UInt8) : ∀ (l acc : List UInt8), ∃ h t, splitL c [] l = h :: t ∧ splitL c acc l = (acc ++ h) :: t
 | [], acc => ⟨[], [], rfl, by simp [splitL]⟩
 | b :: l, acc => by
  by_cases e : b = c
  ·exact ⟨[], splitL c [] l, by simp [splitL, e], by simp [splitL, e]⟩
  ·obtain ⟨h, t, h1, h2⟩ := splitL_acc c l [b]
   obtain ⟨h', t', h3, h4⟩ := splitL_acc c l (acc ++ [b])
   rw [h1] at h3
   cases h3
   refine ⟨[b] ++ h, t, ?_, ?_⟩
   ·simp only [splitL, if_neg e, List.nil_append, h2]
   ·simp only [splitL, if_neg e, h4, List.append_assoc]
theorem splitL_join (c : UInt8) : ∀ (l acc : List UInt8), Lib.join (splitL c acc l) [c] = acc ++ l
 | [], acc => by rw [splitL, Lib.join_one, List.append_nil]
 | b :: l, acc => by
  by_cases e : b = c
  ·subst e
   have ih := splitL_join b l []
   obtain ⟨h, t, h1, _⟩ := splitL_acc b l []
   simp only [splitL, if_true]
   rw [h1] at ih ⊢
   rw [Lib.join_cons] at ih ⊢
   simp only [Lib.joinTail, List.map_cons, List.flatten_cons, List.nil_append] at ih ⊢
   rw [List.append_assoc, ih]
   rfl
  ·simp only [splitL, if_neg e]
   rw [splitL_join c l (acc ++ [b]), List.append_assoc]
   rfl
theorem splitL_free (c : UInt8) : ∀ (l acc : List UInt8), c ∉ l → splitL c acc l = [acc ++ l]
 | [], acc, _ => by rw [splitL, List.append_nil]
 | b :: l, acc, h => by
  have hb : ¬ b = c := fun e => h (by simp [e])
  simp only [splitL, if_neg hb]
  rw [splitL_free c l (acc ++ [b]) (fun q => h (List.mem_cons_of_mem _ q)), List.append_assoc]
  rfl
theorem splitL_cut (c : UInt8) : ∀ (p acc r : List UInt8), c ∉ p → splitL c acc (p ++ [c] ++ r) = (acc ++ p) :: splitL c [] r
 | [], acc, r, _ => by simp [splitL]
 | b :: p, acc, r, h => by
  have hb : ¬ b = c := fun e => h (by simp [e])
  have ih := splitL_cut c p (acc ++ [b]) r (fun q => h (List.mem_cons_of_mem _ q))
  simp only [List.cons_append, splitL, if_neg hb]
  rw [ih, List.append_assoc]
  rfl
/-- Cut again at what lies between: the pieces. -/
theorem splitL_joined (c : UInt8) : ∀ (ps : List (List UInt8)), ps ≠ [] → (∀ p ∈ ps, c ∉ p) → splitL c [] (Lib.join ps [c]) = ps
 | [], h, _ => absurd rfl h
 | [p], _, h => by rw [Lib.join_one, splitL_free c p [] (h p List.mem_cons_self), List.nil_append]
 | p :: q :: t, _, h => by
  have ih := splitL_joined c (q :: t) (by simp) (fun x hx => h x (List.mem_cons_of_mem _ hx))
  rw [Lib.join_cons] at ih ⊢
  have e : p ++ Lib.joinTail [c] (q :: t) = p ++ [c] ++ (q ++ Lib.joinTail [c] t) := by simp [Lib.joinTail]
  rw [e, splitL_cut c p [] _ (h p List.mem_cons_self), ih, List.nil_append]
theorem index_nil1 (c : UInt8) : Lib.index [] [c] = -1 := by simp [Lib.index]
theorem index_eq1 (c : UInt8) (l : List UInt8) : Lib.index (c :: l) [c] = 0 := by rw [Lib.index]; simp [List.isPrefixOf]
theorem index_ne1 (b c : UInt8) (l : List UInt8) (h : ¬ b = c) : Lib.index (b :: l) [c] = if Lib.index l [c] = -1 then -1 else Lib.index l [c] + 1 := by
 have hp : ([c] : List UInt8).isPrefixOf (b :: l) = false := by simp [List.isPrefixOf, Ne.symm h]
 rw [Lib.index, hp]
 simp
/-- Where the first c lies, told by the pieces. -/
theorem index_splitL (c : UInt8) : ∀ l : List UInt8, (Lib.index l [c] = -1 ∧ splitL c [] l = [l] ∧ c ∉ l) ∨ ∃ j : Nat, Lib.index l [c] = (j : Int) ∧ splitL c [] l = l.take j :: splitL c [] (l.drop (j + 1)) ∧ l = l.take j ++ [c] ++ l.drop (j + 1) ∧ c ∉ l.take j
 | [] => Or.inl ⟨index_nil1 c, rfl, by simp⟩
 | b :: l => by
  by_cases e : b = c
  ·subst e
   exact Or.inr ⟨0, index_eq1 b l, by simp [splitL], by simp, by simp⟩
  ·have e' : ¬ c = b := fun q => e q.symm
   rw [index_ne1 b c l e]
   rcases index_splitL c l with ⟨h1, h2, h3⟩ | ⟨j, h1, h2, h3, h4⟩
   ·refine Or.inl ⟨by rw [if_pos h1], ?_, by simp [e', h3]⟩
    obtain ⟨h, t, g1, g2⟩ := splitL_acc c l [b]
    rw [h2] at g1
    cases g1
    simp only [splitL, if_neg e, List.nil_append, g2, List.cons_append]
   ·refine Or.inr ⟨j + 1, by rw [if_neg (by omega), h1]; omega, ?_, ?_, by simp [e', h4]⟩
    ·obtain ⟨h, t, g1, g2⟩ := splitL_acc c l [b]
     rw [h2] at g1
     cases g1
     simp only [splitL, if_neg e, List.nil_append, g2, List.take_succ_cons, List.drop_succ_cons, List.cons_append]
    ·simp only [List.take_succ_cons, List.drop_succ_cons, List.cons_append, List.cons.injEq, true_and]
     simpa using h3
theorem splitK_splitL (c : UInt8) : ∀ (n : Nat) (l : List UInt8), l.length ≤ n → Lib.splitK [c] 0 (Lib.count l [c]) l = splitL c [] l := by
 intro n
 induction n with
 | zero =>
  intro l hl
  have : l = [] := List.length_eq_zero_iff.1 (by omega)
  subst this
  rw [Lib.count_miss (index_nil1 c)]
  rfl
 | succ n ih =>
  intro l hl
  rcases index_splitL c l with ⟨h1, h2, _⟩ | ⟨j, h1, h2, h3, _⟩
  ·rw [Lib.count_miss h1, h2]
   rfl
  ·have hj : j < l.length := by
    have := congrArg List.length h3
    simp only [List.length_append, List.length_take, List.length_singleton, List.length_drop] at this
    omega
   have e1 : Lib.count l [c] = Lib.count (l.drop (j + 1)) [c] + 1 := by rw [Lib.count_hit (by simp) h1]; simp; omega
   rw [e1, h2, Lib.splitK]
   have e2 : ¬ (Lib.index l [c] == -1) = true := fun q => by have := beq_iff_eq.1 q; omega
   have e3 : (Lib.index l [c]).toNat = j := by omega
   rw [if_neg e2, e3, Nat.add_zero, List.length_singleton, ih _ (by rw [List.length_drop]; omega)]
theorem cut_splitL (c : UInt8) (l : List UInt8) : (Lib.cut l [c] = (l, [], false) ∧ splitL c [] l = [l] ∧ c ∉ l) ∨ ∃ p r, Lib.cut l [c] = (p, r, true) ∧ l = p ++ [c] ++ r ∧ c ∉ p ∧ splitL c [] l = p :: splitL c [] r := by
 rcases index_splitL c l with ⟨h1, h2, h3⟩ | ⟨j, h1, h2, h3, h4⟩
 ·refine Or.inl ⟨?_, h2, h3⟩
  unfold Lib.cut
  rw [if_neg (by omega)]
 ·refine Or.inr ⟨l.take j, l.drop (j + 1), ?_, h3, h4, h2⟩
  unfold Lib.cut
  rw [if_pos (by omega), h1]
  simp
theorem splitL_len (c : UInt8) : ∀ (l acc : List UInt8), (splitL c acc l).length ≤ l.length + 1 ∧ ∀ p ∈ splitL c acc l, p.length ≤ acc.length + l.length
 | [], acc => by simp [splitL]
 | b :: l, acc => by
  by_cases e : b = c
  ·obtain ⟨h1, h2⟩ := splitL_len c l []
   simp only [splitL, if_pos e, List.length_cons, List.mem_cons]
   refine ⟨by omega, fun p hp => ?_⟩
   rcases hp with rfl | hp
   ·omega
   ·have := h2 p hp
    simp only [List.length_nil] at this
    omega
  ·obtain ⟨h1, h2⟩ := splitL_len c l (acc ++ [b])
   simp only [splitL, if_neg e, List.length_cons]
   refine ⟨by omega, fun p hp => ?_⟩
   have := h2 p hp
   simp only [List.length_append, List.length_singleton] at this
   omega
theorem bt_ofL (L : List UInt8) (i : Nat) (h : i < L.length) : bt (ofL L) (i : Int) = (L[i].toNat : Int) := by
 have h2 : (i : Int).toNat < (ofL L).size := by rw [ofL_size]; simpa using h
 unfold bt
 rw [dif_pos h2]
 rfl
theorem ext_ofL (L : List UInt8) (a b : Nat) : (ofL L).extract a b = ofL ((L.take b).drop a) := by
 rw [Lib.extract_eq, ofL_list, List.drop_take]
 rfl
theorem rdOf_at (ps : List (List UInt8)) (i : Nat) (h : i < ps.length) : rdOf ByteArray.empty (ps.map ofL) (i : Int) = ofL ps[i] := by
 unfold rdOf
 simp [h]
theorem dgt_small : ∀ i : Nat, i < 100 → (dgt (i : Int)).length ≤ 2 ∧ spec_l1Num.f 3 (i : Int) = some (ofL (dgt (i : Int))) := by decide +kernel
theorem dgt_len (n : Int) (h0 : 0 ≤ n) (h1 : n ≤ 20) : (dgt n).length ≤ 2 := by
 obtain ⟨i, rfl⟩ := Int.eq_ofNat_of_zero_le h0
 exact (dgt_small i (by omega)).1
theorem dgt_len99 (n : Int) (h0 : 0 ≤ n) (h1 : n ≤ 99) : (dgt n).length ≤ 2 := by
 obtain ⟨i, rfl⟩ := Int.eq_ofNat_of_zero_le h0
 exact (dgt_small i (by omega)).1
theorem spec_l1Num_ev99 (n : Int) (h0 : 0 ≤ n) (h1 : n ≤ 99) : Ev (fun k => spec_l1Num.f k n) (ofL (dgt n)) := by
 obtain ⟨i, rfl⟩ := Int.eq_ofNat_of_zero_le h0
 exact Ev.of (fun k => spec_l1Num.mono _ k) (dgt_small i (by omega)).2
theorem spec_l1Num_ev (n : Int) (h0 : 0 ≤ n) (h1 : n ≤ 20) : Ev (fun k => spec_l1Num.f k n) (ofL (dgt n)) := spec_l1Num_ev99 n h0 (by omega)
theorem Ev_if {α : Type} {c : Prop} [Decidable c] {g f : Nat → Option α} {r : α} (hc : c) (h : Ev g r) : Ev (fun k => if c then g k else f k) r := by
 simpa only [if_pos hc] using h
def inR (a lo hi : Int) : Bool := decide (lo ≤ a) && decide (a ≤ hi)
theorem inR_iff {a lo hi : Int} : inR a lo hi = true ↔ lo ≤ a ∧ a ≤ hi := by simp [inR]
/-- May a split stand in a text? -/
def spOk (s : S40) : Bool := inR s.f0 0 99 && inR s.f1 1 60
def spsB (l : List S40) : Bool := decide ((l.length : Int) ≤ 60) && l.all spOk
theorem spOk_iff {s : S40} : spOk s = true ↔ (0 ≤ s.f0 ∧ s.f0 ≤ 99) ∧ 1 ≤ s.f1 ∧ s.f1 ≤ 60 := by
 unfold spOk
 rw [Bool.and_eq_true, inR_iff, inR_iff]
/-- A split's text. -/
def spT (s : S40) : List UInt8 := dgt s.f0 ++ ([58] ++ dgt s.f1)
theorem spT_len {s : S40} (h : spOk s = true) : (spT s).length ≤ 5 := by
 have h := spOk_iff.1 h
 have h0 := dgt_len99 _ h.1.1 h.1.2
 have h1 := dgt_len99 s.f1 (by omega) (by omega)
 unfold spT
 simp only [List.length_append, List.length_cons, List.length_nil]
 omega
/-- The texts of splits, from i on, each but the first behind a comma. -/
def spsT : List S40 → Nat → List UInt8
 | [], _ => []
 | c :: t, i => (if i = 0 then [] else [44]) ++ spT c ++ spsT t (i + 1)
theorem spsT_len : ∀ (l : List S40) (i : Nat), (∀ c ∈ l, spOk c = true) → (spsT l i).length ≤ 6 * l.length
 | [], _, _ => by simp [spsT]
 | c :: t, i, h => by
  have h1 := spT_len (h c List.mem_cons_self)
  have h2 := spsT_len t (i + 1) fun d hd => h d (List.mem_cons_of_mem _ hd)
  rw [spsT, List.length_append, List.length_append, List.length_cons]
  split <;> simp <;> omega
theorem spsB_iff {l : List S40} : spsB l = true ↔ l.length ≤ 60 ∧ ∀ c ∈ l, spOk c = true := by
 unfold spsB
 rw [Bool.and_eq_true, decide_eq_true_eq, List.all_eq_true]
 constructor
 ·exact fun h => ⟨by omega, h.2⟩
 ·exact fun h => ⟨by omega, h.2⟩
theorem join_sps : ∀ (l : List S40), Lib.join (l.map spT) [44] = spsT l 0 := by
 have tail : ∀ (l : List S40) (i : Nat), Lib.joinTail [44] (l.map spT) = spsT l (i + 1) := by
  intro l
  induction l with
  | nil => intro i; rfl
  | cons c t ih =>
   intro i
   rw [spsT, ← ih (i + 1)]
   simp only [List.map_cons, Lib.joinTail, List.flatten_cons, if_neg (Nat.succ_ne_zero i), List.append_assoc]
 intro l
 cases l with
 | nil => rfl
 | cons c t =>
  rw [List.map_cons, Lib.join_cons, tail t 0, spsT]
  simp
/-- The splits that pieces tell, if each tells one (the reference's road). -/
def spsOf (num : List UInt8 → Int) : List (List UInt8) → Option (List S40)
 | [] => some []
 | p :: t => match (splitL 58 [] p).map num with
  | [a, b] => (spsOf num t).map fun l => ⟨a, b⟩ :: l
  | _ => none
theorem list2 {α : Type} {l : List α} (h : l.length = 2) : ∃ a b, l = [a, b] := by
 match l, h with
 | [a, b], _ => exact ⟨a, b, rfl⟩
theorem spsOf_two (num : List UInt8 → Int) (p : List UInt8) (t : List (List UInt8)) (q0 q1 : List UInt8) (h : splitL 58 [] p = [q0, q1]) : spsOf num (p :: t) = (spsOf num t).map fun l => ⟨num q0, num q1⟩ :: l := by
 rw [spsOf, h]
 rfl
theorem spsOf_none (num : List UInt8 → Int) (p : List UInt8) (t : List (List UInt8)) (h : ¬ (splitL 58 [] p).length = 2) : spsOf num (p :: t) = none := by
 rw [spsOf]
 split
 ·rename_i e
  have := congrArg List.length e
  simp at this
  exact absurd this h
 ·rfl
theorem map_more2 {α : Type} (acc : List α) (c : α) (X : Option (List α)) : ((X.map fun l => c :: l).map fun l => acc ++ l) = X.map fun l => acc ++ [c] ++ l := by
 cases X <;> simp
def endP (L : List UInt8) : Option (List S40) → List S40 × Bool
 | none => ([], false)
 | some l => if spsB l = true ∧ spsT l 0 = L then (l, true) else ([], false)
theorem spec_l1Split_l0 (c : UInt8) (L : List UInt8) (hL : L.length ≤ 1048576) : ∀ (d i fr : Nat) (acc : List (List UInt8)), i + d = L.length → fr ≤ i → acc.length ≤ i → Ev (fun k => spec_l1Split.l0 k (ofL L) (c.toNat : Int) (acc.map ofL) (fr : Int) (i : Int)) ((acc ++ splitL c ((L.take i).drop fr) (L.drop i)).map ofL) := by
 intro d
 induction d with
 | zero =>
  intro i fr acc hi hf ha
  have e : i = L.length := by omega
  refine Ev_add 1 ?_
  simp only [spec_l1Split.l0, ofL_size, if_neg (show ¬ (i : Int) < (L.length : Int) by omega), if_pos (show 0 ≤ (fr : Int) by omega), if_pos (show (fr : Int) ≤ (L.length : Int) by omega), List.length_map, if_pos (show acc.length < 8796093022208 by omega), Int.toNat_natCast, ext_ofL]
  rw [e, List.drop_length, splitL, List.map_append]
  exact Ev.now _
 | succ d ih =>
  intro i fr acc hi hf ha
  have hil : i < L.length := by omega
  have w1 : wrap64 ((i : Int) + 1) = ((i + 1 : Nat) : Int) := by rw [wrap_id (by omega) (by omega)]; omega
  refine Ev_add 1 ?_
  simp only [spec_l1Split.l0, ofL_size, if_pos (show (i : Int) < (L.length : Int) by omega), if_pos (show 0 ≤ (i : Int) by omega), bt_ofL L i hil, w1]
  rw [List.drop_eq_getElem_cons hil, splitL]
  by_cases e : L[i] = c
  ·simp only [if_pos e, if_pos (show (L[i].toNat : Int) = (c.toNat : Int) by rw [e]), if_pos (show 0 ≤ (fr : Int) by omega), if_pos (show (fr : Int) ≤ (i : Int) by omega), if_pos (show (i : Int) ≤ (L.length : Int) by omega), List.length_map, if_pos (show acc.length < 8796093022208 by omega), Int.toNat_natCast, ext_ofL]
   have := ih (i + 1) (i + 1) (acc ++ [(L.take i).drop fr]) (by omega) (by omega) (by simp; omega)
   rw [show (L.take (i + 1)).drop (i + 1) = [] from List.drop_of_length_le (by simp; omega), List.append_assoc] at this
   simpa using this
  ·have e' : ¬ (L[i].toNat : Int) = (c.toNat : Int) := fun q => e (UInt8.toNat_inj.1 (by omega))
   simp only [if_neg e, if_neg e']
   have := ih (i + 1) fr acc (by omega) (by omega) (by omega)
   rw [List.take_succ_eq_append_getElem hil, List.drop_append_of_le_length (by simp; omega)] at this
   exact this
theorem spec_l1Split_ev (c : UInt8) (L : List UInt8) (hL : L.length ≤ 1048576) : Ev (fun k => spec_l1Split.f k (ofL L) (c.toNat : Int)) ((splitL c [] L).map ofL) := by
 unfold spec_l1Split.f
 have := spec_l1Split_l0 c L hL L.length 0 0 [] (by omega) (by omega) (by simp)
 simpa using this
theorem spec_l1In_eq (a lo hi : Int) : spec_l1In.f a lo hi = some (inR a lo hi) := by
 unfold spec_l1In.f inR
 by_cases h : lo ≤ a <;> simp [h]
/-- What the reference's reader makes of digits, n being told already. -/
def rdL : List UInt8 → Int → Int
 | [], n => n
 | b :: l, n => if (b.toNat : Int) < 48 then -1 else if (b.toNat : Int) > 57 then -1 else rdL l (wrap64 ((wrap64 (10 * n)) + (((b.toNat : Int) - 48) % 256)))
def rdV (L : List UInt8) : Int := if inR (L.length : Int) 1 6 = true then (if ((L.headD 0).toNat : Int) = 48 ∧ (L.length : Int) > 1 then -1 else rdL L 0) else -1
theorem spec_l1Read_l0 (L : List UInt8) (hL : L.length ≤ 1048576) : ∀ (d i : Nat) (n : Int), i + d = L.length → Ev (fun k => spec_l1Read.l0 k (ofL L) n (i : Int)) (rdL (L.drop i) n) := by
 intro d
 induction d with
 | zero =>
  intro i n hi
  refine Ev_add 1 ?_
  simp only [spec_l1Read.l0, ofL_size, if_neg (show ¬ (i : Int) < (L.length : Int) by omega)]
  rw [List.drop_of_length_le (by omega), rdL]
  exact Ev.now _
 | succ d ih =>
  intro i n hi
  have hil : i < L.length := by omega
  have w1 : wrap64 ((i : Int) + 1) = ((i + 1 : Nat) : Int) := by rw [wrap_id (by omega) (by omega)]; omega
  refine Ev_add 1 ?_
  simp only [spec_l1Read.l0, ofL_size, if_pos (show (i : Int) < (L.length : Int) by omega), if_pos (show 0 ≤ (i : Int) by omega), bt_ofL L i hil, w1]
  rw [List.drop_eq_getElem_cons hil, rdL]
  by_cases c1 : (L[i].toNat : Int) < 48
  ·simp only [if_pos c1]
   exact Ev.now _
  ·by_cases c2 : (L[i].toNat : Int) > 57
   ·simp only [if_neg c1, if_pos c2]
    exact Ev.now _
   ·simp only [if_neg c1, if_neg c2]
    exact ih (i + 1) _ (by omega)
theorem spec_l1Read_ev (L : List UInt8) (hL : L.length ≤ 1048576) : Ev (fun k => spec_l1Read.f k (ofL L)) (rdV L) := by
 have hl := spec_l1Read_l0 L hL L.length 0 0 (by omega)
 rw [List.drop_zero] at hl
 unfold spec_l1Read.f rdV
 simp only [ofL_size, spec_l1In_eq, Option.bind_some]
 by_cases c : inR (L.length : Int) 1 6 = true
 ·have hc := inR_iff.1 c
  have h0 : bt (ofL L) 0 = ((L.headD 0).toNat : Int) := by
   have := bt_ofL L 0 (by omega)
   cases L with
   | nil => simp at hc
   | cons b l => exact this
  simp only [c, if_true, if_pos (show 0 < (L.length : Int) by omega), h0]
  by_cases e : ((L.headD 0).toNat : Int) = 48
  ·by_cases e2 : (L.length : Int) > 1
   ·simp only [if_pos e, if_pos (And.intro e e2), decide_eq_true e2]
    refine Ev_add 1 ?_
    simp only [spec_l1Read.j0, if_true]
    exact Ev.now _
   ·simp only [if_pos e, if_neg (fun q : ((L.headD 0).toNat : Int) = 48 ∧ (L.length : Int) > 1 => e2 q.2), decide_eq_false e2]
    refine Ev_add 1 ?_
    simp only [spec_l1Read.j0, Bool.false_eq_true, if_false]
    exact hl
  ·simp only [if_neg e, if_neg (fun q : ((L.headD 0).toNat : Int) = 48 ∧ (L.length : Int) > 1 => e q.1)]
   refine Ev_add 1 ?_
   simp only [spec_l1Read.j0, Bool.false_eq_true, if_false]
   exact hl
 ·simp only [Bool.not_eq_true] at c
  simp only [c, Bool.false_eq_true, if_false]
  refine Ev_add 1 ?_
  simp only [spec_l1Read.j0, if_true]
  exact Ev.now _
theorem rdV_dgt : ∀ i : Nat, i < 100 → rdV (dgt (i : Int)) = (i : Int) := by decide +kernel
theorem dgt_free : ∀ i : Nat, i < 100 → dgt (i : Int) ≠ [] ∧ ∀ b ∈ dgt (i : Int), 48 ≤ b ∧ b ≤ 57 := by decide +kernel
theorem rdSplit_at (l : List S40) (i : Nat) (h : i < l.length) : rd_T40 l (i : Int) = l[i] := by
 unfold rd_T40
 rw [Int.toNat_natCast, List.getD_eq_getElem?_getD, List.getElem?_eq_getElem h]
 rfl
theorem spec_slText_l0 (l : List S40) (hl : l.length ≤ 1000) (hs : ∀ c ∈ l, spOk c = true) : ∀ (d i : Nat) (acc : List UInt8), i + d = l.length → acc.length ≤ 1000 + 6 * i → Ev (fun k => spec_slText.l0 k (ofL acc) l (l.length : Int) (i : Int)) (ofL (acc ++ spsT (l.drop i) i)) := by
 have e44 : (⟨#[44]⟩ : ByteArray) = ofL [44] := rfl
 have e58 : (⟨#[58]⟩ : ByteArray) = ofL [58] := rfl
 intro d
 induction d with
 | zero =>
  intro i acc hi ha
  refine Ev_add 1 ?_
  simp only [spec_slText.l0, if_neg (show ¬ (i : Int) < (l.length : Int) by omega)]
  rw [List.drop_of_length_le (by omega)]
  simp only [spsT, List.append_nil]
  exact Ev.now _
 | succ d ih =>
  intro i acc hi ha
  have hil : i < l.length := by omega
  have hc := spOk_iff.1 (hs l[i] (List.getElem_mem hil))
  have hcl := spT_len (hs l[i] (List.getElem_mem hil))
  have h0 := dgt_len99 _ hc.1.1 hc.1.2
  have h1 := dgt_len99 l[i].f1 (by omega) (by omega)
  have w1 : wrap64 ((i : Int) + 1) = ((i + 1 : Nat) : Int) := by rw [wrap_id (by omega) (by omega)]; omega
  refine Ev_add 1 ?_
  simp only [spec_slText.l0, if_pos (show (i : Int) < (l.length : Int) by omega), if_pos (show 0 ≤ (i : Int) by omega), rdSplit_at l i hil, e44, e58]
  rw [List.drop_eq_getElem_cons hil, spsT]
  by_cases c0 : i = 0
  ·subst c0
   simp only [if_neg (show ¬ ((0 : Nat) : Int) > 0 by omega), if_true, List.nil_append]
   refine Ev.bind (spec_l1Num_ev99 _ hc.1.1 hc.1.2) ?_
   refine Ev_if (by simp only [ofL_size]; omega) ?_
   refine Ev.bind (spec_l1Num_ev99 _ (by omega) (by omega)) ?_
   refine Ev_if (by simp only [ofL_append, ofL_size, List.length_append, List.length_cons, List.length_nil]; omega) ?_
   refine Ev_if (by simp only [ofL_append, ofL_size, List.length_append, List.length_cons, List.length_nil]; omega) ?_
   simp only [ofL_append]
   have e : acc ++ (dgt l[0].f0 ++ ([58] : List UInt8) ++ dgt l[0].f1) = acc ++ spT l[0] := by
    unfold spT
    simp only [List.append_assoc]
   rw [e, w1, ← List.append_assoc]
   exact ih 1 (acc ++ spT l[0]) (by omega) (by rw [List.length_append]; omega)
  ·simp only [if_pos (show (i : Int) > 0 by omega), if_neg c0]
   refine Ev_if (by simp only [ofL_size]; omega) ?_
   refine Ev.bind (spec_l1Num_ev99 _ hc.1.1 hc.1.2) ?_
   refine Ev_if (by simp only [ofL_size]; omega) ?_
   refine Ev.bind (spec_l1Num_ev99 _ (by omega) (by omega)) ?_
   refine Ev_if (by simp only [ofL_append, ofL_size, List.length_append, List.length_cons, List.length_nil]; omega) ?_
   refine Ev_if (by simp only [ofL_append, ofL_size, List.length_append, List.length_cons, List.length_nil]; omega) ?_
   simp only [ofL_append]
   have e : acc ++ ([44] : List UInt8) ++ (dgt l[i].f0 ++ ([58] : List UInt8) ++ dgt l[i].f1) = acc ++ [44] ++ spT l[i] := by
    unfold spT
    simp only [List.append_assoc]
   rw [e, w1]
   have := ih (i + 1) (acc ++ ([44] : List UInt8) ++ spT l[i]) (by omega) (by simp only [List.length_append, List.length_singleton]; omega)
   have e2 : acc ++ (([44] : List UInt8) ++ spT l[i] ++ spsT (l.drop (i + 1)) (i + 1)) = acc ++ [44] ++ spT l[i] ++ spsT (l.drop (i + 1)) (i + 1) := by simp only [List.append_assoc]
   rw [e2]
   exact this
theorem spec_slText_ev (l : List S40) (hb : spsB l = true) : Ev (fun k => spec_slText.f k l) (ofL (spsT l 0)) := by
 obtain ⟨h1, h2⟩ := spsB_iff.1 hb
 unfold spec_slText.f
 have := spec_slText_l0 l (by omega) h2 l.length 0 [] (by omega) (by simp)
 rw [List.drop_zero, List.nil_append] at this
 exact this
theorem spec_slList_l0 (l : List S40) (hl : l.length ≤ 1000) : ∀ (d i : Nat), i + d = l.length → Ev (fun k => spec_slList.l0 k l (l.length : Int) (i : Int)) ((l.drop i).all spOk) := by
 intro d
 induction d with
 | zero =>
  intro i hi
  refine Ev_add 1 ?_
  simp only [spec_slList.l0, if_neg (show ¬ (i : Int) < (l.length : Int) by omega)]
  rw [List.drop_of_length_le (by omega)]
  exact Ev.now _
 | succ d ih =>
  intro i hi
  have hil : i < l.length := by omega
  have w1 : wrap64 ((i : Int) + 1) = ((i + 1 : Nat) : Int) := by rw [wrap_id (by omega) (by omega)]; omega
  refine Ev_add 1 ?_
  simp only [spec_slList.l0, if_pos (show (i : Int) < (l.length : Int) by omega), if_pos (show 0 ≤ (i : Int) by omega), rdSplit_at l i hil, spec_l1In_eq, Option.bind_some, w1]
  rw [List.drop_eq_getElem_cons hil, List.all_cons]
  cases h0 : inR l[i].f0 0 99 with
  | false =>
   simp only [Bool.false_eq_true, if_false, spOk, h0, Bool.false_and]
   exact Ev.now _
  | true =>
   cases h1 : inR l[i].f1 1 60 with
   | false =>
    simp only [if_true, Bool.false_eq_true, if_false, spOk, h0, h1, Bool.and_false, Bool.false_and]
    exact Ev.now _
   | true =>
    have e : spOk l[i] = true := by simp only [spOk, h0, h1, Bool.and_self]
    simp only [if_true, e, Bool.true_and]
    exact ih (i + 1) (by omega)
theorem spec_slList_ev (l : List S40) : Ev (fun k => spec_slList.f k l) (spsB l) := by
 unfold spec_slList.f spsB
 by_cases c : (l.length : Int) > 60
 ·simp only [if_pos c, decide_eq_false (show ¬ (l.length : Int) ≤ 60 by omega), Bool.false_and]
  exact Ev.now _
 ·simp only [if_neg c, decide_eq_true (show (l.length : Int) ≤ 60 by omega), Bool.true_and]
  have := spec_slList_l0 l (by omega) l.length 0 (by omega)
  simpa using this
theorem spec_ParseSplits_j1 (L : List UInt8) (l : List S40) : Ev (fun k => spec_ParseSplits.j1 k (ofL L) l) (endP L (some l)) := by
 refine Ev_add 1 ?_
 simp only [spec_ParseSplits.j1]
 refine Ev.bind (spec_slList_ev l) ?_
 cases hb : spsB l with
 | false =>
  simp only [Bool.false_eq_true, if_false, endP, hb, false_and]
  exact Ev.now _
 | true =>
  simp only [if_true, endP, hb, true_and]
  refine Ev.bind (spec_slText_ev l hb) ?_
  simp only [Lib.toList_data, ofL_list]
  by_cases e : spsT l 0 = L
  ·simp only [if_pos e]
   exact Ev.now _
  ·simp only [if_neg e]
   exact Ev.now _
theorem spec_ParseSplits_l0 (L : List UInt8) (ps : List (List UInt8)) (hp : ∀ p ∈ ps, p.length ≤ 1048576) (hn : ps.length ≤ 2000000) : ∀ (d i : Nat) (acc : List S40), i + d = ps.length → acc.length ≤ i → Ev (fun k => spec_ParseSplits.l0 k (ofL L) acc (ps.map ofL) (ps.length : Int) (i : Int)) (endP L ((spsOf rdV (ps.drop i)).map fun l => acc ++ l)) := by
 intro d
 induction d with
 | zero =>
  intro i acc hi ha
  refine Ev_add 1 ?_
  simp only [spec_ParseSplits.l0, if_neg (show ¬ (i : Int) < (ps.length : Int) by omega)]
  rw [List.drop_of_length_le (by omega), spsOf, Option.map_some, List.append_nil]
  exact spec_ParseSplits_j1 L acc
 | succ d ih =>
  intro i acc hi ha
  have hil : i < ps.length := by omega
  have hpi := hp _ (List.getElem_mem hil)
  have w1 : wrap64 ((i : Int) + 1) = ((i + 1 : Nat) : Int) := by rw [wrap_id (by omega) (by omega)]; omega
  have hs : Ev (fun k => spec_l1Split.f k (ofL ps[i]) 58) ((splitL 58 [] ps[i]).map ofL) := spec_l1Split_ev 58 ps[i] hpi
  rw [List.drop_eq_getElem_cons hil]
  refine Ev_add 1 ?_
  simp only [spec_ParseSplits.l0, if_pos (show (i : Int) < (ps.length : Int) by omega), if_pos (show 0 ≤ (i : Int) by omega), List.length_map, rdOf_at ps i hil, w1]
  refine Ev.bind hs ?_
  by_cases e2 : (splitL 58 [] ps[i]).length = 2
  ·obtain ⟨q0, q1, hq⟩ := list2 e2
   have hlen := (splitL_len 58 ps[i] []).2
   rw [hq] at hlen ⊢
   simp only [List.mem_cons, List.not_mem_nil, or_false, List.length_nil] at hlen
   rw [spsOf_two rdV _ _ q0 q1 hq, map_more2]
   simp only [List.map_cons, List.map_nil, show rdOf ByteArray.empty [ofL q0, ofL q1] 0 = ofL q0 from rfl, show rdOf ByteArray.empty [ofL q0, ofL q1] 1 = ofL q1 from rfl]
   refine Ev_if (by simp) ?_
   refine Ev_if (by simp) ?_
   refine Ev.bind (spec_l1Read_ev q0 (by have := hlen q0 (by simp); omega)) ?_
   refine Ev_if (by simp) ?_
   refine Ev.bind (spec_l1Read_ev q1 (by have := hlen q1 (by simp); omega)) ?_
   refine Ev_if (by omega) ?_
   exact ih (i + 1) (acc ++ [⟨rdV q0, rdV q1⟩]) (by omega) (by simp; omega)
  ·rw [spsOf_none rdV _ _ e2]
   simp only [List.length_map, if_neg (show ¬ ((splitL 58 [] ps[i]).length : Int) = 2 by omega), Option.map_none, endP]
   exact Ev.now _
def resPS (L : List UInt8) : List S40 × Bool := if 360 < L.length then ([], false) else endP L (spsOf rdV (if L = [] then [] else splitL 44 [] L))
theorem spec_ParseSplits_ev (L : List UInt8) (hL : L.length ≤ 1048576) : Ev (fun k => spec_ParseSplits.f k (ofL L)) (resPS L) := by
 have hs : Ev (fun k => spec_l1Split.f k (ofL L) 44) ((splitL 44 [] L).map ofL) := spec_l1Split_ev 44 L hL
 unfold spec_ParseSplits.f resPS
 simp only [ofL_size]
 by_cases c : (L.length : Int) > 360
 ·simp only [if_pos c, if_pos (show 360 < L.length by omega)]
  exact Ev.now _
 ·simp only [if_neg c, if_neg (show ¬ 360 < L.length by omega)]
  by_cases e : L = []
  ·subst e
   simp only [List.length_nil, if_neg (show ¬ ((0 : Nat) : Int) > 0 by omega), if_true, spsOf]
   exact spec_ParseSplits_j1 [] []
  ·have h0 : 0 < L.length := List.length_pos_iff.2 e
   obtain ⟨g1, g2⟩ := splitL_len 44 L []
   simp only [if_pos (show (L.length : Int) > 0 by omega), if_neg e]
   refine Ev.bind hs ?_
   simp only [List.length_map]
   have := spec_ParseSplits_l0 L (splitL 44 [] L) (fun q hq => by have := g2 q hq; simp only [List.length_nil] at this; omega) (by omega) (splitL 44 [] L).length 0 [] (by omega) (by simp)
   simpa using this
theorem piecesF_eq (L : List UInt8) (c : UInt8) : piecesF (ofL L) (ofL [c]) = (splitL c [] L).map ofL := by
 have h : (piecesF (ofL L) (ofL [c])).map (fun s => s.data.toList) = splitL c [] L := by
  unfold piecesF
  rw [Lib.splitB_data]
  show Lib.splitK (ofL [c]).data.toList 0 (Lib.count (ofL L).data.toList (ofL [c]).data.toList) (ofL L).data.toList = _
  rw [ofL_list, ofL_list]
  exact splitK_splitL c _ L (Nat.le_refl _)
 rw [← h, List.map_map]
 have : (ofL ∘ fun s : ByteArray => s.data.toList) = id := by
  funext s
  exact ofL_data s
 rw [this, List.map_id]
theorem cutF_eq (L : List UInt8) (c : UInt8) : cutF (ofL L) (ofL [c]) = (ofL (Lib.cut L [c]).1, ofL (Lib.cut L [c]).2.1, (Lib.cut L [c]).2.2) := by
 unfold cutF
 rw [ofL_list, ofL_list]
 rfl
theorem numF_dgt : ∀ i : Nat, i < 100 → numF (dgt (i : Int)) = (i : Int) := by decide +kernel
theorem numF_pos (t : List UInt8) (h : 0 ≤ numF t) : t = dgt (numF t) := by
 unfold numF at h ⊢
 split at h
 ·rename_i v hv
  split at h
  ·omega
  ·rename_i h0
   rw [if_neg h0]
   split at h
   ·rename_i e
    rw [if_pos e, ← e]
    unfold Lib.itoa dgt
    rw [if_neg h0]
   ·omega
 ·omega
theorem impl_number_eq (L : List UInt8) (hL : L.length ≤ 1048576) : impl_number.f (ofL L) = some (numF L) := by
 unfold impl_number.f
 rw [if_pos (by rw [ofL_size]; exact hL), ofL_list]
theorem strings_Cut_eq (L : List UInt8) (c : UInt8) (hL : L.length ≤ 1048576) : strings_Cut.f (ofL L) (ofL [c]) = some (ofL (Lib.cut L [c]).1, ofL (Lib.cut L [c]).2.1, (Lib.cut L [c]).2.2) := by
 unfold strings_Cut.f
 rw [if_pos (by rw [ofL_size]; exact hL), cutF_eq]
theorem strings_Split_eq (L : List UInt8) (c : UInt8) (hL : L.length ≤ 1048576) : strings_Split.f (ofL L) (ofL [c]) = some ((splitL c [] L).map ofL) := by
 unfold strings_Split.f
 rw [if_pos ⟨by rw [ofL_size]; exact hL, by rw [ofL_size]; exact Nat.le_refl _⟩, piecesF_eq]
theorem impl_within_eq (a lo hi : Int) : impl_within.f a lo hi = some (inR a lo hi) := by
 unfold impl_within.f inR
 by_cases h : lo ≤ a <;> simp [h]
theorem impl_areSplits_eq (l : List S40) : impl_areSplits.f l = some (spsB l) := by
 have e : (impl_areSplits_1.f : S40 → Option Bool) = fun x => some (!(spOk x)) := by
  funext x
  unfold impl_areSplits_1.f spOk
  simp only [impl_within_eq, Option.bind_some]
  cases inR x.f0 0 99 <;> simp
 unfold impl_areSplits.f spsB
 by_cases c : (l.length : Int) ≤ 60
 ·rw [if_pos c, e, anyO_some]
  simp only [Option.bind_some, decide_eq_true c, Bool.true_and]
  congr 1
  induction l with
  | nil => rfl
  | cons x xs ih => 
   have := ih (by simp only [List.length_cons] at c; omega)
   simp only [List.any_cons, List.all_cons, Bool.not_or, Bool.not_not, this]
 ·rw [if_neg c, decide_eq_false c, Bool.false_and]
/-- The split that a piece tells by the program's road. -/
def cutSp (p : List UInt8) : S40 := ⟨numF (Lib.cut p [58]).1, numF (Lib.cut p [58]).2.1⟩
def endQ (l : List S40) : List S40 × Bool := if spsB l = true then (l, true) else ([], false)
theorem impl_ParseSplits_l0 (ps : List (List UInt8)) (hp : ∀ p ∈ ps, p.length ≤ 1048576) (hn : ps.length ≤ 2000000) : ∀ (d i : Nat) (acc : List S40), i + d = ps.length → acc.length ≤ i → Ev (fun k => impl_ParseSplits.l0 k acc (ps.map ofL) (ps.length : Int) (i : Int)) (endQ (acc ++ (ps.drop i).map cutSp)) := by
 have e58 : (⟨#[58]⟩ : ByteArray) = ofL [58] := rfl
 intro d
 induction d with
 | zero =>
  intro i acc hi ha
  refine Ev_add 1 ?_
  simp only [impl_ParseSplits.l0, if_neg (show ¬ (i : Int) < (ps.length : Int) by omega), impl_areSplits_eq, Option.bind_some]
  rw [List.drop_of_length_le (by omega), List.map_nil, List.append_nil]
  unfold endQ
  cases hb : spsB acc with
  | false =>
   simp only [Bool.false_eq_true, if_false]
   exact Ev.now _
  | true =>
   simp only [if_true]
   exact Ev.now _
 | succ d ih =>
  intro i acc hi ha
  have hil : i < ps.length := by omega
  have hpi := hp _ (List.getElem_mem hil)
  have w1 : wrap64 ((i : Int) + 1) = ((i + 1 : Nat) : Int) := by rw [wrap_id (by omega) (by omega)]; omega
  have hc : (Lib.cut ps[i] [58]).1.length ≤ 1048576 ∧ (Lib.cut ps[i] [58]).2.1.length ≤ 1048576 := by
   rcases cut_splitL 58 ps[i] with ⟨h1, _, _⟩ | ⟨p, r, h1, h2, _, _⟩
   ·rw [h1]
    exact ⟨hpi, by simp⟩
   ·have hl := congrArg List.length h2
    simp only [List.length_append, List.length_singleton] at hl
    rw [h1]
    simp only
    omega
  rw [List.drop_eq_getElem_cons hil, List.map_cons]
  refine Ev_add 1 ?_
  simp only [impl_ParseSplits.l0, if_pos (show (i : Int) < (ps.length : Int) by omega), if_pos (show 0 ≤ (i : Int) by omega), List.length_map, rdOf_at ps i hil, w1, e58, strings_Cut_eq _ 58 hpi, Option.bind_some, impl_number_eq _ hc.1, impl_number_eq _ hc.2, if_pos (show acc.length < 8796093022208 by omega)]
  have := ih (i + 1) (acc ++ [cutSp ps[i]]) (by omega) (by simp; omega)
  rw [List.append_assoc] at this
  exact this
def resQ (L : List UInt8) : List S40 × Bool := if L = [] then ([], true) else endQ ((splitL 44 [] L).map cutSp)
theorem impl_ParseSplits_ev (L : List UInt8) (hL : L.length ≤ 1048576) : Ev (fun k => impl_ParseSplits.f k (ofL L)) (resQ L) := by
 have e44 : (⟨#[44]⟩ : ByteArray) = ofL [44] := rfl
 unfold impl_ParseSplits.f resQ
 simp only [Lib.toList_data, ofL_list, e44]
 by_cases e : L = []
 ·simp only [if_pos e]
  exact Ev.now _
 ·obtain ⟨g1, g2⟩ := splitL_len 44 L []
  simp only [if_neg e, strings_Split_eq L 44 hL, Option.bind_some, List.length_map]
  have := impl_ParseSplits_l0 (splitL 44 [] L) (fun q hq => by have := g2 q hq; simp only [List.length_nil] at this; omega) (by omega) (splitL 44 [] L).length 0 [] (by omega) (by simp)
  simpa using this
theorem dgt_no58 (n : Int) (h0 : 0 ≤ n) (h1 : n ≤ 99) : dgt n ≠ [] ∧ (58 : UInt8) ∉ dgt n ∧ (44 : UInt8) ∉ dgt n := by
 obtain ⟨i, rfl⟩ := Int.eq_ofNat_of_zero_le h0
 obtain ⟨a, b⟩ := dgt_free i (by omega)
 exact ⟨a, fun q => absurd (b _ q) (by decide), fun q => absurd (b _ q) (by decide)⟩
theorem spT_split {c : S40} (h : spOk c = true) : splitL 58 [] (spT c) = [dgt c.f0, dgt c.f1] ∧ Lib.cut (spT c) [58] = (dgt c.f0, dgt c.f1, true) := by
 have h := spOk_iff.1 h
 have g0 := (dgt_no58 c.f0 h.1.1 h.1.2).2.1
 have g1 := (dgt_no58 c.f1 (by omega) (by omega)).2.1
 have es : spT c = dgt c.f0 ++ [58] ++ dgt c.f1 := by
  unfold spT
  simp only [List.append_assoc]
 have e : splitL 58 [] (spT c) = [dgt c.f0, dgt c.f1] := by
  rw [es, splitL_cut 58 _ [] _ g0, splitL_free 58 _ [] g1]
  rfl
 refine ⟨e, ?_⟩
 rcases cut_splitL 58 (spT c) with ⟨_, _, h3⟩ | ⟨p, r, h1, h2, _, h4⟩
 ·exact absurd (by rw [es]; simp) h3
 ·rw [e] at h4
  have hp : dgt c.f0 = p := (List.cons.inj h4).1
  subst hp
  rw [h1]
  rw [es] at h2
  rw [List.append_cancel_left h2]
theorem spT_no {c : S40} (h : spOk c = true) : spT c ≠ [] ∧ (44 : UInt8) ∉ spT c := by
 have h := spOk_iff.1 h
 have g0 := dgt_no58 c.f0 h.1.1 h.1.2
 have g1 := dgt_no58 c.f1 (by omega) (by omega)
 unfold spT
 simp [g0.1, g0.2.2, g1.2.2]
theorem sps_pieces (l : List S40) (hl : l ≠ []) (h : ∀ c ∈ l, spOk c = true) : spsT l 0 ≠ [] ∧ splitL 44 [] (spsT l 0) = l.map spT := by
 rw [← join_sps]
 cases l with
 | nil => exact absurd rfl hl
 | cons c t =>
  have hc := spT_no (h c List.mem_cons_self)
  refine ⟨?_, splitL_joined 44 _ (by simp) fun p hp => by
   obtain ⟨d, hd, rfl⟩ := List.mem_map.1 hp
   exact (spT_no (h d hd)).2⟩
  rw [List.map_cons, Lib.join_cons]
  intro q
  exact hc.1 (List.append_eq_nil_iff.1 q).1
theorem num_back : (∀ n : Int, 0 ≤ n → n ≤ 99 → rdV (dgt n) = n) ∧ ∀ n : Int, 0 ≤ n → n ≤ 99 → numF (dgt n) = n := by
 constructor
 ·intro n h0 h1
  obtain ⟨i, rfl⟩ := Int.eq_ofNat_of_zero_le h0
  exact rdV_dgt i (by omega)
 ·intro n h0 h1
  obtain ⟨i, rfl⟩ := Int.eq_ofNat_of_zero_le h0
  exact numF_dgt i (by omega)
theorem spsOf_text : ∀ l : List S40, (∀ c ∈ l, spOk c = true) → spsOf rdV (l.map spT) = some l
 | [], _ => rfl
 | c :: t, h => by
  have hc := spOk_iff.1 (h c List.mem_cons_self)
  rw [List.map_cons, spsOf_two rdV _ _ _ _ (spT_split (h c List.mem_cons_self)).1, spsOf_text t fun d hd => h d (List.mem_cons_of_mem _ hd)]
  rw [num_back.1 _ hc.1.1 hc.1.2, num_back.1 c.f1 (by omega) (by omega)]
  rfl
theorem cutSp_text : ∀ l : List S40, (∀ c ∈ l, spOk c = true) → (l.map spT).map cutSp = l
 | [], _ => rfl
 | c :: t, h => by
  have hc := spOk_iff.1 (h c List.mem_cons_self)
  rw [List.map_cons, List.map_cons, cutSp_text t fun d hd => h d (List.mem_cons_of_mem _ hd)]
  unfold cutSp
  rw [(spT_split (h c List.mem_cons_self)).2]
  simp only [num_back.2 _ hc.1.1 hc.1.2, num_back.2 c.f1 (by omega) (by omega)]
theorem numF_nil : numF [] = -1 := by decide +kernel
theorem text_cutSp {p : List UInt8} (h : spOk (cutSp p) = true) : p = spT (cutSp p) := by
 have h := spOk_iff.1 h
 unfold cutSp at h ⊢
 rcases cut_splitL 58 p with ⟨h1, _, _⟩ | ⟨q, r, h1, h2, _, _⟩
 ·rw [h1] at h
  simp only [numF_nil] at h
  omega
 ·rw [h1] at h ⊢
  simp only at h ⊢
  unfold spT
  simp only
  rw [← numF_pos q (by omega), ← numF_pos r (by omega), ← List.append_assoc]
  exact h2
theorem text_all : ∀ ps : List (List UInt8), (∀ c ∈ ps.map cutSp, spOk c = true) → (ps.map cutSp).map spT = ps
 | [], _ => rfl
 | p :: t, h => by
  rw [List.map_cons, List.map_cons, text_all t fun c hc => h c (by rw [List.map_cons]; exact List.mem_cons_of_mem _ hc), ← text_cutSp (h _ (by simp))]
theorem resPS_good {l : List S40} (hb : spsB l = true) : resPS (spsT l 0) = (l, true) ∧ resQ (spsT l 0) = (l, true) := by
 obtain ⟨hn, hs⟩ := spsB_iff.1 hb
 have hlen := spsT_len l 0 hs
 unfold resPS resQ
 rw [if_neg (show ¬ 360 < (spsT l 0).length by omega)]
 by_cases hl : l = []
 ·subst hl
  exact ⟨rfl, rfl⟩
 ·obtain ⟨h1, h2⟩ := sps_pieces l hl hs
  rw [if_neg h1, if_neg h1, h2, spsOf_text l hs, cutSp_text l hs]
  simp only [endP, endQ, hb, true_and, if_true, and_self]
theorem res_sameQ (L : List UInt8) : resQ L = resPS L := by
 by_cases hno : ∃ l : List S40, spsB l = true ∧ spsT l 0 = L
 ·obtain ⟨l, hb, rfl⟩ := hno
  rw [(resPS_good hb).1, (resPS_good hb).2]
 ·have hL : ¬ L = [] := fun e => hno ⟨[], by decide, e.symm⟩
  have e1 : resPS L = ([], false) := by
   have hE : ∀ o, endP L o = ([], false) := fun o => by
    cases o with
    | none => rfl
    | some l =>
     simp only [endP]
     rw [if_neg fun q => hno ⟨l, q⟩]
   unfold resPS
   split
   ·rfl
   ·exact hE _
  rw [e1]
  unfold resQ
  rw [if_neg hL]
  unfold endQ
  rw [if_neg]
  intro hb
  refine hno ⟨_, hb, ?_⟩
  rw [← join_sps, text_all _ (spsB_iff.1 hb).2, splitL_join]
  rfl
theorem agree_ParseSplits (s : ByteArray) (hs : s.size ≤ 1048576) : ∃ v, Ev (fun k => spec_ParseSplits.f k s) v ∧ Ev (fun k => impl_ParseSplits.f k s) v ∧ v.1.length ≤ 1000000 := by
 have hL : s.data.toList.length ≤ 1048576 := by rw [← Lib.size_eq]; exact hs
 rw [← ofL_data s]
 refine ⟨resQ s.data.toList, ?_, impl_ParseSplits_ev _ hL, ?_⟩
 ·rw [res_sameQ]
  exact spec_ParseSplits_ev _ hL
 ·unfold resQ endQ
  split
  ·simp
  ·split
   ·rename_i hb
    have := (spsB_iff.1 hb).1
    simp only
    omega
   ·simp
theorem eqSplitS_l0 (a : List S40) (hm : a.length < 9223372036854775807) : ∀ (d k i : Nat), i + d = a.length → d < k → laws_eqSplitS.l0 k a a (i : Int) = some true := by
 intro d
 induction d with
 | zero =>
  intro k i h hk
  obtain ⟨k, rfl⟩ : ∃ m, k = m + 1 := ⟨k - 1, by omega⟩
  simp only [laws_eqSplitS.l0]
  rw [if_neg (by omega)]
 | succ d ih =>
  intro k i h hk
  obtain ⟨k, rfl⟩ : ∃ m, k = m + 1 := ⟨k - 1, by omega⟩
  have hi : i < a.length := by omega
  have e : (i : Int) + 1 = ((i + 1 : Nat) : Int) := by omega
  simp only [laws_eqSplitS.l0]
  rw [if_pos (by omega), if_pos (by omega), if_pos (by omega), rdSplit_at a i hi, wrap_id (by omega) (by omega), e]
  simp only [laws_eqSplit.f, if_true, Option.bind_some]
  exact ih k (i + 1) (by omega) (by omega)
theorem eqSplitS_self (a : List S40) (hm : a.length < 9223372036854775807) : Ev (fun k => laws_eqSplitS.f k a a) true := by
 refine ⟨a.length + 1, fun k hk => ?_⟩
 have h := eqSplitS_l0 a hm a.length k 0 (by omega) (by omega)
 show laws_eqSplitS.f k a a = _
 unfold laws_eqSplitS.f
 rw [if_pos rfl]
 simpa using h
/-- Marked splits: so many, from a number on. -/
def iotaSplit : Nat → Int → List S40
 | 0, _ => []
 | n + 1, k => (⟨k, k + 1⟩ : S40) :: iotaSplit n (k + 2)
theorem iotaSplit_length : ∀ (n : Nat) (k : Int), (iotaSplit n k).length = n
 | 0, _ => rfl
 | n + 1, k => by simp [iotaSplit, iotaSplit_length n]
theorem markSplitS_l0 : ∀ (d k : Nat) (pre l : List S40) (i : Nat) (m : Int), i = pre.length → l.length = d → d < k → 0 ≤ m → m + 2 * d < 9223372036854775807 → pre.length + d < 9223372036854775807 → laws_markSplitS.l0 k (pre ++ l) m (i : Int) = some (m + 2 * d, pre ++ iotaSplit d m) := by
 intro d
 induction d with
 | zero =>
  intro k pre l i m hi hd hk h0 h1 h2
  obtain ⟨k, rfl⟩ : ∃ m, k = m + 1 := ⟨k - 1, by omega⟩
  obtain rfl : l = [] := List.eq_nil_of_length_eq_zero hd
  subst hi
  simp only [laws_markSplitS.l0]
  rw [if_neg (by simp)]
  simp [iotaSplit]
 | succ d ih =>
  intro k pre l i m hi hd hk h0 h1 h2
  obtain ⟨k, rfl⟩ : ∃ m, k = m + 1 := ⟨k - 1, by omega⟩
  cases l with
  | nil => simp at hd
  | cons x xs =>
   subst hi
   have e : (pre.length : Int) + 1 = ((pre ++ [(⟨m, m + 1⟩ : S40)]).length : Int) := by simp
   have es : ∀ y : S40, (pre ++ x :: xs).set pre.length y = pre ++ y :: xs := by intro y; simp
   have es2 : ∀ y z : S40, (pre ++ y :: xs).set pre.length z = pre ++ z :: xs := by intro y z; simp
   have er : ∀ y : S40, rd_T40 (pre ++ y :: xs) (pre.length : Int) = y := by
    intro y
    rw [rdSplit_at _ _ (by simp)]
    simp
   simp only [laws_markSplitS.l0]
   rw [if_pos (by simp; omega), if_pos (by omega)]
   simp only [Option.bind_some, Int.toNat_natCast, es, es2, er]
   rw [wrap_id (x := m + 1) (by omega) (by omega), wrap_id (x := m + 1 + 1) (by omega) (by omega), wrap_id (x := (pre.length : Int) + 1) (by omega) (by omega), e]
   have ec : pre ++ (⟨m, m + 1⟩ : S40) :: xs = (pre ++ [(⟨m, m + 1⟩ : S40)]) ++ xs := by simp
   rw [ec, ih k (pre ++ [(⟨m, m + 1⟩ : S40)]) xs (pre ++ [(⟨m, m + 1⟩ : S40)]).length (m + 1 + 1) rfl (by simpa using hd) (by omega) (by omega) (by omega) (by simp; omega)]
   have e2 : m + 1 + 1 = m + 2 := by omega
   rw [e2]
   simp [iotaSplit]
   omega
theorem markSplitS_ev (l : List S40) (m : Int) (h0 : 0 ≤ m) (h1 : m + 2 * l.length < 9223372036854775807) : Ev (fun k => laws_markSplitS.f k l m) (m + 2 * l.length, iotaSplit l.length m) :=
 ⟨l.length + 1, fun k hk => by
  have h := markSplitS_l0 l.length k [] l 0 m rfl rfl (by omega) h0 h1 (by simp; omega)
  simpa [laws_markSplitS.f] using h⟩
theorem heldSplitS_l0 : ∀ (d k : Nat) (pre : List S40) (i : Nat) (m : Int), i = pre.length → d < k → 0 ≤ m → m + 2 * d < 9223372036854775807 → pre.length + d < 9223372036854775807 → laws_heldSplitS.l0 k (pre ++ iotaSplit d m) m (i : Int) = some (m + 2 * d) := by
 intro d
 induction d with
 | zero =>
  intro k pre i m hi hk h0 h1 h2
  obtain ⟨k, rfl⟩ : ∃ m, k = m + 1 := ⟨k - 1, by omega⟩
  subst hi
  simp only [laws_heldSplitS.l0]
  rw [if_neg (by simp [iotaSplit])]
  simp
 | succ d ih =>
  intro k pre i m hi hk h0 h1 h2
  obtain ⟨k, rfl⟩ : ∃ m, k = m + 1 := ⟨k - 1, by omega⟩
  subst hi
  have e : (pre.length : Int) + 1 = ((pre ++ [(⟨m, m + 1⟩ : S40)]).length : Int) := by simp
  have er : rd_T40 (pre ++ iotaSplit (d + 1) m) (pre.length : Int) = (⟨m, m + 1⟩ : S40) := by
   rw [rdSplit_at _ _ (by simp [iotaSplit])]
   simp [iotaSplit]
  simp only [laws_heldSplitS.l0]
  rw [if_pos (by simp [iotaSplit]; omega), if_pos (by omega), er, if_pos rfl, wrap_id (x := m + 1) (by omega) (by omega), if_pos rfl, wrap_id (x := m + 1 + 1) (by omega) (by omega), wrap_id (x := (pre.length : Int) + 1) (by omega) (by omega), e]
  have es : pre ++ iotaSplit (d + 1) m = (pre ++ [(⟨m, m + 1⟩ : S40)]) ++ iotaSplit d (m + 2) := by simp [iotaSplit]
  have e2 : m + 1 + 1 = m + 2 := by omega
  rw [es, e2, ih k (pre ++ [(⟨m, m + 1⟩ : S40)]) (pre ++ [(⟨m, m + 1⟩ : S40)]).length (m + 2) rfl (by omega) (by omega) (by omega) (by simp; omega)]
  congr 1
  omega
theorem heldSplitS_ev (n : Nat) (m : Int) (h0 : 0 ≤ m) (h1 : m + 2 * n < 9223372036854775807) : Ev (fun k => laws_heldSplitS.f k (iotaSplit n m) m) (m + 2 * n) :=
 ⟨n + 1, fun k hk => by
  have h := heldSplitS_l0 n k [] 0 m rfl (by omega) h0 h1 (by simp; omega)
  simpa [laws_heldSplitS.f] using h⟩
theorem FnExactParseSplits : laws_FnExactParseSplits.Pure := by
 intro s _
 refine Ev.rounds (g := fun k => laws_FnExactParseSplits.f k s) ?_
 unfold laws_FnExactParseSplits.f
 by_cases c : (s.size : Int) > 1048576
 ·simp only [if_pos c]
  exact Ev.now _
 ·obtain ⟨⟨v1, v2⟩, hs, hi, hn⟩ := agree_ParseSplits s (by omega)
  have hn : v1.length ≤ 1000000 := hn
  have hQ := eqSplitS_self v1 (by omega)
  have hK := markSplitS_ev v1 1 (by omega) (by omega)
  have hH := heldSplitS_ev v1.length 1 (by omega) (by omega)
  have n2 : ¬ (1 + 2 * (v1.length : Int)) < 0 := by omega
  simp only [if_neg c]
  repeat (first
   | exact Ev.now _
   | refine Ev.bind hs ?_
   | refine Ev.bind hi ?_
   | refine Ev.bind hQ ?_
   | refine Ev.bind hK ?_
   | refine Ev.bind hH ?_
   | simp only [if_true, bne_self_eq_false, Bool.false_eq_true, if_false, if_neg n2]
   | (refine Ev_add 1 ?_; simp only [laws_FnExactParseSplits.j0])
   | (refine Ev_add 1 ?_; simp only [laws_FnExactParseSplits.j1]))

end Go.Proofs.YtnfofdocnnndnaaDoor.Pure
