/-
  The program's SplitsText returns what the reference's returns, for all arguments: the plain half, about the printed functions alone.
  Conditions: those of the statement's own row; none is added.
-/
import Derived.Test.YtnfofdocnnndnaaDoorPAx4
namespace Go.Proofs.YtnfofdocnnndnaaDoor.Pure
set_option linter.unusedVariables false
set_option linter.unusedSimpArgs false
open Go.RowKit Go.Proofs.YtnfofdocnnndnaaDoor.PA Go.Proofs.YtnfofdocnnndnaaDoorW.PrintWords Go.Proofs.YtnfofdocnnndnaaDoorW.PrintLast Go.Proofs.YtnfofdocnnndnaaDoorW.PrintMore Go.Proofs.YtnfofdocnnndnaaDoorB

theorem Ev_add {α : Type} {g : Nat → Option α} {r : α} (m : Nat) (h : Ev (fun k => g (k + m)) r) : Ev g r := by
 obtain ⟨K, hK⟩ := h
 refine ⟨K + m, fun k hk => ?_⟩
 have h1 := hK (k - m) (by omega)
 simp only at h1
 rwa [Nat.sub_add_cancel (by omega)] at h1
theorem Ev_shift {α : Type} {g : Nat → Option α} {r : α} (m : Nat) (h : Ev g r) : Ev (fun k => g (k + m)) r := by
 obtain ⟨K, hK⟩ := h
 exact ⟨K, fun k hk => hK (k + m) (by omega)⟩
theorem wrap_id {x : Int} (h0 : -9223372036854775808 ≤ x) (h1 : x ≤ 9223372036854775807) : wrap64 x = x := by
 unfold wrap64
 omega
theorem rd_at (l : List Int) (i : Nat) (h : i < l.length) : rd l (i : Int) = l[i] := rd_get l i h
theorem rd_append_left (l m : List Int) (i : Int) (h0 : 0 ≤ i) (h : i < l.length) : rd (l ++ m) i = rd l i := by
 unfold rd
 rw [List.getD_eq_getElem?_getD, List.getD_eq_getElem?_getD, List.getElem?_append_left (by omega)]
/-- A text by its bytes. -/
def ofL (l : List UInt8) : ByteArray := ⟨l.toArray⟩
theorem ofL_append (l m : List UInt8) : ofL l ++ ofL m = ofL (l ++ m) := by
 apply ByteArray.ext
 simp [ofL, ByteArray.data_append]
theorem ofL_size (l : List UInt8) : (ofL l).size = l.length := by
 show l.toArray.size = _
 simp
theorem ofL_list (l : List UInt8) : (ofL l).data.toList = l := by
 simp [ofL]
theorem ofL_data (s : ByteArray) : ofL s.data.toList = s := Lib.mk_data s
/-- The digits of a number. -/
def dgt (n : Int) : List UInt8 := Lib.decDigits n.toNat
theorem dgt_small : ∀ i : Nat, i < 100 → (dgt (i : Int)).length ≤ 2 ∧ spec_l1Num.f 3 (i : Int) = some (ofL (dgt (i : Int))) := by decide +kernel
theorem dgt_len (n : Int) (h0 : 0 ≤ n) (h1 : n ≤ 20) : (dgt n).length ≤ 2 := by
 obtain ⟨i, rfl⟩ := Int.eq_ofNat_of_zero_le h0
 exact (dgt_small i (by omega)).1
theorem dgt_len99 (n : Int) (h0 : 0 ≤ n) (h1 : n ≤ 99) : (dgt n).length ≤ 2 := by
 obtain ⟨i, rfl⟩ := Int.eq_ofNat_of_zero_le h0
 exact (dgt_small i (by omega)).1
theorem spec_l1Num_ev99 (n : Int) (h0 : 0 ≤ n) (h1 : n ≤ 99) : Ev (fun k => spec_l1Num.f k n) (ofL (dgt n)) := by
 obtain ⟨i, rfl⟩ := Int.eq_ofNat_of_zero_le h0
 exact Ev.of (fun k => spec_l1Num.mono _ k) (dgt_small i (by omega)).2
theorem spec_l1Num_ev (n : Int) (h0 : 0 ≤ n) (h1 : n ≤ 20) : Ev (fun k => spec_l1Num.f k n) (ofL (dgt n)) := spec_l1Num_ev99 n h0 (by omega)
theorem Ev_if {α : Type} {c : Prop} [Decidable c] {g f : Nat → Option α} {r : α} (hc : c) (h : Ev g r) : Ev (fun k => if c then g k else f k) r := by
 simpa only [if_pos hc] using h
def inR (a lo hi : Int) : Bool := decide (lo ≤ a) && decide (a ≤ hi)
theorem inR_iff {a lo hi : Int} : inR a lo hi = true ↔ lo ≤ a ∧ a ≤ hi := by simp [inR]
/-- May a split stand in a text? -/
def spOk (s : S40) : Bool := inR s.f0 0 99 && inR s.f1 1 60
def spsB (l : List S40) : Bool := decide ((l.length : Int) ≤ 60) && l.all spOk
theorem spOk_iff {s : S40} : spOk s = true ↔ (0 ≤ s.f0 ∧ s.f0 ≤ 99) ∧ 1 ≤ s.f1 ∧ s.f1 ≤ 60 := by
 unfold spOk
 rw [Bool.and_eq_true, inR_iff, inR_iff]
/-- A split's text. -/
def spT (s : S40) : List UInt8 := dgt s.f0 ++ ([58] ++ dgt s.f1)
theorem spT_len {s : S40} (h : spOk s = true) : (spT s).length ≤ 5 := by
 have h := spOk_iff.1 h
 have h0 := dgt_len99 _ h.1.1 h.1.2
 have h1 := dgt_len99 s.f1 (by omega) (by omega)
 unfold spT
 simp only [List.length_append, List.length_cons, List.length_nil]
 omega
/-- The texts of splits, from i on, each but the first behind a comma. -/
def spsT : List S40 → Nat → List UInt8
 | [], _ => []
 | c :: t, i => (if i = 0 then [] else [44]) ++ spT c ++ spsT t (i + 1)
theorem spsT_len : ∀ (l : List S40) (i : Nat), (∀ c ∈ l, spOk c = true) → (spsT l i).length ≤ 6 * l.length
 | [], _, _ => by simp [spsT]
 | c :: t, i, h => by
  have h1 := spT_len (h c List.mem_cons_self)
  have h2 := spsT_len t (i + 1) fun d hd => h d (List.mem_cons_of_mem _ hd)
  rw [spsT, List.length_append, List.length_append, List.length_cons]
  split <;> simp <;> omega
theorem spsB_iff {l : List S40} : spsB l = true ↔ l.length ≤ 60 ∧ ∀ c ∈ l, spOk c = true := by
 unfold spsB
 rw [Bool.and_eq_true, decide_eq_true_eq, List.all_eq_true]
 constructor
 ·exact fun h => ⟨by omega, h.2⟩
 ·exact fun h => ⟨by omega, h.2⟩
theorem spec_l1In_eq (a lo hi : Int) : spec_l1In.f a lo hi = some (inR a lo hi) := by
 unfold spec_l1In.f inR
 by_cases h : lo ≤ a <;> simp [h]
theorem rdSplit_at (l : List S40) (i : Nat) (h : i < l.length) : rd_T40 l (i : Int) = l[i] := by
 unfold rd_T40
 rw [Int.toNat_natCast, List.getD_eq_getElem?_getD, List.getElem?_eq_getElem h]
 rfl
theorem spec_slList_l0 (l : List S40) (hl : l.length ≤ 1000) : ∀ (d i : Nat), i + d = l.length → Ev (fun k => spec_slList.l0 k l (l.length : Int) (i : Int)) ((l.drop i).all spOk) := by
 intro d
 induction d with
 | zero =>
  intro i hi
  refine Ev_add 1 ?_
  simp only [spec_slList.l0, if_neg (show ¬ (i : Int) < (l.length : Int) by omega)]
  rw [List.drop_of_length_le (by omega)]
  exact Ev.now _
 | succ d ih =>
  intro i hi
  have hil : i < l.length := by omega
  have w1 : wrap64 ((i : Int) + 1) = ((i + 1 : Nat) : Int) := by rw [wrap_id (by omega) (by omega)]; omega
  refine Ev_add 1 ?_
  simp only [spec_slList.l0, if_pos (show (i : Int) < (l.length : Int) by omega), if_pos (show 0 ≤ (i : Int) by omega), rdSplit_at l i hil, spec_l1In_eq, Option.bind_some, w1]
  rw [List.drop_eq_getElem_cons hil, List.all_cons]
  cases h0 : inR l[i].f0 0 99 with
  | false =>
   simp only [Bool.false_eq_true, if_false, spOk, h0, Bool.false_and]
   exact Ev.now _
  | true =>
   cases h1 : inR l[i].f1 1 60 with
   | false =>
    simp only [if_true, Bool.false_eq_true, if_false, spOk, h0, h1, Bool.and_false, Bool.false_and]
    exact Ev.now _
   | true =>
    have e : spOk l[i] = true := by simp only [spOk, h0, h1, Bool.and_self]
    simp only [if_true, e, Bool.true_and]
    exact ih (i + 1) (by omega)
theorem spec_slList_ev (l : List S40) : Ev (fun k => spec_slList.f k l) (spsB l) := by
 unfold spec_slList.f spsB
 by_cases c : (l.length : Int) > 60
 ·simp only [if_pos c, decide_eq_false (show ¬ (l.length : Int) ≤ 60 by omega), Bool.false_and]
  exact Ev.now _
 ·simp only [if_neg c, decide_eq_true (show (l.length : Int) ≤ 60 by omega), Bool.true_and]
  have := spec_slList_l0 l (by omega) l.length 0 (by omega)
  simpa using this
theorem impl_within_eq (a lo hi : Int) : impl_within.f a lo hi = some (inR a lo hi) := by
 unfold impl_within.f inR
 by_cases h : lo ≤ a <;> simp [h]
theorem impl_areSplits_eq (l : List S40) : impl_areSplits.f l = some (spsB l) := by
 have e : (impl_areSplits_1.f : S40 → Option Bool) = fun x => some (!(spOk x)) := by
  funext x
  unfold impl_areSplits_1.f spOk
  simp only [impl_within_eq, Option.bind_some]
  cases inR x.f0 0 99 <;> simp
 unfold impl_areSplits.f spsB
 by_cases c : (l.length : Int) ≤ 60
 ·rw [if_pos c, e, anyO_some]
  simp only [Option.bind_some, decide_eq_true c, Bool.true_and]
  congr 1
  induction l with
  | nil => rfl
  | cons x xs ih => 
   have := ih (by simp only [List.length_cons] at c; omega)
   simp only [List.any_cons, List.all_cons, Bool.not_or, Bool.not_not, this]
 ·rw [if_neg c, decide_eq_false c, Bool.false_and]
theorem spec_slText_l0 (l : List S40) (hl : l.length ≤ 1000) (hs : ∀ c ∈ l, spOk c = true) : ∀ (d i : Nat) (acc : List UInt8), i + d = l.length → acc.length ≤ 1000 + 6 * i → Ev (fun k => spec_slText.l0 k (ofL acc) l (l.length : Int) (i : Int)) (ofL (acc ++ spsT (l.drop i) i)) := by
 have e44 : (⟨#[44]⟩ : ByteArray) = ofL [44] := rfl
 have e58 : (⟨#[58]⟩ : ByteArray) = ofL [58] := rfl
 intro d
 induction d with
 | zero =>
  intro i acc hi ha
  refine Ev_add 1 ?_
  simp only [spec_slText.l0, if_neg (show ¬ (i : Int) < (l.length : Int) by omega)]
  rw [List.drop_of_length_le (by omega)]
  simp only [spsT, List.append_nil]
  exact Ev.now _
 | succ d ih =>
  intro i acc hi ha
  have hil : i < l.length := by omega
  have hc := spOk_iff.1 (hs l[i] (List.getElem_mem hil))
  have hcl := spT_len (hs l[i] (List.getElem_mem hil))
  have h0 := dgt_len99 _ hc.1.1 hc.1.2
  have h1 := dgt_len99 l[i].f1 (by omega) (by omega)
  have w1 : wrap64 ((i : Int) + 1) = ((i + 1 : Nat) : Int) := by rw [wrap_id (by omega) (by omega)]; omega
  refine Ev_add 1 ?_
  simp only [spec_slText.l0, if_pos (show (i : Int) < (l.length : Int) by omega), if_pos (show 0 ≤ (i : Int) by omega), rdSplit_at l i hil, e44, e58]
  rw [List.drop_eq_getElem_cons hil, spsT]
  by_cases c0 : i = 0
  ·subst c0
   simp only [if_neg (show ¬ ((0 : Nat) : Int) > 0 by omega), if_true, List.nil_append]
   refine Ev.bind (spec_l1Num_ev99 _ hc.1.1 hc.1.2) ?_
   refine Ev_if (by simp only [ofL_size]; omega) ?_
   refine Ev.bind (spec_l1Num_ev99 _ (by omega) (by omega)) ?_
   refine Ev_if (by simp only [ofL_append, ofL_size, List.length_append, List.length_cons, List.length_nil]; omega) ?_
   refine Ev_if (by simp only [ofL_append, ofL_size, List.length_append, List.length_cons, List.length_nil]; omega) ?_
   simp only [ofL_append]
   have e : acc ++ (dgt l[0].f0 ++ ([58] : List UInt8) ++ dgt l[0].f1) = acc ++ spT l[0] := by
    unfold spT
    simp only [List.append_assoc]
   rw [e, w1, ← List.append_assoc]
   exact ih 1 (acc ++ spT l[0]) (by omega) (by rw [List.length_append]; omega)
  ·simp only [if_pos (show (i : Int) > 0 by omega), if_neg c0]
   refine Ev_if (by simp only [ofL_size]; omega) ?_
   refine Ev.bind (spec_l1Num_ev99 _ hc.1.1 hc.1.2) ?_
   refine Ev_if (by simp only [ofL_size]; omega) ?_
   refine Ev.bind (spec_l1Num_ev99 _ (by omega) (by omega)) ?_
   refine Ev_if (by simp only [ofL_append, ofL_size, List.length_append, List.length_cons, List.length_nil]; omega) ?_
   refine Ev_if (by simp only [ofL_append, ofL_size, List.length_append, List.length_cons, List.length_nil]; omega) ?_
   simp only [ofL_append]
   have e : acc ++ ([44] : List UInt8) ++ (dgt l[i].f0 ++ ([58] : List UInt8) ++ dgt l[i].f1) = acc ++ [44] ++ spT l[i] := by
    unfold spT
    simp only [List.append_assoc]
   rw [e, w1]
   have := ih (i + 1) (acc ++ ([44] : List UInt8) ++ spT l[i]) (by omega) (by simp only [List.length_append, List.length_singleton]; omega)
   have e2 : acc ++ (([44] : List UInt8) ++ spT l[i] ++ spsT (l.drop (i + 1)) (i + 1)) = acc ++ [44] ++ spT l[i] ++ spsT (l.drop (i + 1)) (i + 1) := by simp only [List.append_assoc]
   rw [e2]
   exact this
theorem spec_slText_ev (l : List S40) (hb : spsB l = true) : Ev (fun k => spec_slText.f k l) (ofL (spsT l 0)) := by
 obtain ⟨h1, h2⟩ := spsB_iff.1 hb
 unfold spec_slText.f
 have := spec_slText_l0 l (by omega) h2 l.length 0 [] (by omega) (by simp)
 rw [List.drop_zero, List.nil_append] at this
 exact this
theorem join_sps : ∀ (l : List S40), Lib.join (l.map spT) [44] = spsT l 0 := by
 have tail : ∀ (l : List S40) (i : Nat), Lib.joinTail [44] (l.map spT) = spsT l (i + 1) := by
  intro l
  induction l with
  | nil => intro i; rfl
  | cons c t ih =>
   intro i
   rw [spsT, ← ih (i + 1)]
   simp only [List.map_cons, Lib.joinTail, List.flatten_cons, if_neg (Nat.succ_ne_zero i), List.append_assoc]
 intro l
 cases l with
 | nil => rfl
 | cons c t =>
  rw [List.map_cons, Lib.join_cons, tail t 0, spsT]
  simp
theorem strconv_Itoa_eq (n : Int) (h0 : 0 ≤ n) (h1 : n < 100) : strconv_Itoa.f n = some (ofL (dgt n)) := by
 unfold strconv_Itoa.f
 rw [if_pos ⟨h0, h1⟩]
 rfl
theorem strings_Join_eq (xs : List (List UInt8)) (sep : List UInt8) (h1 : xs.length ≤ 1000000) (h2 : (Lib.join xs sep).length ≤ 1000000) : strings_Join.f (xs.map ofL) (ofL sep) = some (ofL (Lib.join xs sep)) := by
 have e : (xs.map ofL).map (fun x : ByteArray => x.data.toList) = xs := by
  rw [List.map_map]
  have : (fun x : ByteArray => x.data.toList) ∘ ofL = id := by
   funext l
   exact ofL_list l
  rw [this, List.map_id]
 unfold strings_Join.f
 rw [e, ofL_list, List.length_map, if_pos ⟨h1, h2⟩]
 rfl
theorem impl_SplitsText_l0 (l : List S40) (hb : spsB l = true) : ∀ (d i : Nat) (acc : List (List UInt8)), i + d = l.length → acc ++ (l.drop i).map spT = l.map spT → Ev (fun k => impl_SplitsText.l0 k (acc.map ofL) l (l.length : Int) (i : Int)) (ofL (spsT l 0), true) := by
 obtain ⟨hn, hs⟩ := spsB_iff.1 hb
 have htl := spsT_len l 0 hs
 have e44 : (⟨#[44]⟩ : ByteArray) = ofL [44] := rfl
 have e58 : (⟨#[58]⟩ : ByteArray) = ofL [58] := rfl
 intro d
 induction d with
 | zero =>
  intro i acc hi he
  rw [List.drop_of_length_le (by omega), List.map_nil, List.append_nil] at he
  subst he
  refine Ev_add 1 ?_
  simp only [impl_SplitsText.l0, if_neg (show ¬ (i : Int) < (l.length : Int) by omega), e44]
  rw [strings_Join_eq (l.map spT) [44] (by rw [List.length_map]; omega) (by rw [join_sps]; omega)]
  simp only [Option.bind_some, join_sps]
  exact Ev.now _
 | succ d ih =>
  intro i acc hi he
  have hil : i < l.length := by omega
  have hc := spOk_iff.1 (hs l[i] (List.getElem_mem hil))
  have h0 := dgt_len99 _ hc.1.1 hc.1.2
  have h1 := dgt_len99 l[i].f1 (by omega) (by omega)
  have w1 : wrap64 ((i : Int) + 1) = ((i + 1 : Nat) : Int) := by rw [wrap_id (by omega) (by omega)]; omega
  have hlen := congrArg List.length he
  simp only [List.length_append, List.length_map, List.length_drop] at hlen
  refine Ev_add 1 ?_
  simp only [impl_SplitsText.l0, if_pos (show (i : Int) < (l.length : Int) by omega), if_pos (show 0 ≤ (i : Int) by omega), rdSplit_at l i hil, strconv_Itoa_eq _ hc.1.1 (by omega : l[i].f0 < 100), strconv_Itoa_eq l[i].f1 (by omega) (by omega), Option.bind_some, e58, w1]
  refine Ev_if (by simp only [ofL_size]; omega) ?_
  refine Ev_if (by simp only [ofL_append, ofL_size, List.length_append, List.length_cons, List.length_nil]; omega) ?_
  refine Ev_if (by rw [List.length_map]; omega) ?_
  simp only [ofL_append]
  have e : dgt l[i].f0 ++ ([58] : List UInt8) ++ dgt l[i].f1 = spT l[i] := by
   unfold spT
   simp only [List.append_assoc]
  rw [e]
  have := ih (i + 1) (acc ++ [spT l[i]]) (by omega) (by
   rw [List.drop_eq_getElem_cons hil, List.map_cons] at he
   rw [List.append_assoc]
   exact he)
  rwa [List.map_append, List.map_singleton] at this
theorem agree_SplitsText (l : List S40) : ∃ v, Ev (fun k => spec_SplitsText.f k l) v ∧ Ev (fun k => impl_SplitsText.f k l) v := by
 refine ⟨if spsB l = true then (ofL (spsT l 0), true) else (⟨#[]⟩, false), ?_, ?_⟩
 ·unfold spec_SplitsText.f
  refine Ev.bind (spec_slList_ev l) ?_
  cases hb : spsB l with
  | false =>
   simp only [Bool.false_eq_true, if_false]
   exact Ev.now _
  | true =>
   simp only [if_true]
   refine Ev.bind (spec_slText_ev l hb) ?_
   exact Ev.now _
 ·unfold impl_SplitsText.f
  simp only [impl_areSplits_eq, Option.bind_some]
  cases hb : spsB l with
  | false =>
   simp only [Bool.false_eq_true, if_false]
   exact Ev.now _
  | true =>
   have := impl_SplitsText_l0 l hb l.length 0 [] (by omega) (by simp)
   simpa using this
theorem rdLSplit_at (l : List S42) (i : Nat) (h : i < l.length) : rd_T42 l (i : Int) = l[i] := by
 unfold rd_T42
 rw [Int.toNat_natCast, List.getD_eq_getElem?_getD, List.getElem?_eq_getElem h]
 rfl
def cvS (x : S42) : S40 := ⟨x.f0, x.f1⟩
theorem toSplitS_l0 (l : List S42) (hl : l.length < 9223372036854775807) : ∀ (d k i : Nat) (out : List S40), i + d = l.length → d < k → out.length = l.length → out.take i = (l.map cvS).take i → laws_toSplitS.l0 k l out (i : Int) = some (l.map cvS) := by
 intro d
 induction d with
 | zero =>
  intro k i out h hk ho ht
  obtain ⟨k, rfl⟩ : ∃ m, k = m + 1 := ⟨k - 1, by omega⟩
  simp only [laws_toSplitS.l0]
  rw [if_neg (by omega)]
  rw [List.take_of_length_le (by omega), List.take_of_length_le (by simp; omega)] at ht
  rw [ht]
 | succ d ih =>
  intro k i out h hk ho ht
  obtain ⟨k, rfl⟩ : ∃ m, k = m + 1 := ⟨k - 1, by omega⟩
  have hi : i < l.length := by omega
  have e : (i : Int) + 1 = ((i + 1 : Nat) : Int) := by omega
  simp only [laws_toSplitS.l0]
  rw [if_pos (by omega), if_pos (by omega), rdLSplit_at l i hi]
  simp only [laws_toSplit.f, Option.bind_some]
  rw [if_pos (by omega), wrap_id (by omega) (by omega), e, Int.toNat_natCast]
  refine ih k (i + 1) _ (by omega) (by omega) (by simpa using ho) ?_
  rw [List.take_succ_eq_append_getElem (by simpa using by omega), List.take_succ_eq_append_getElem (by simpa using hi), List.getElem_set_self, List.take_set_of_le (Nat.le_refl i), ht, List.getElem_map]
  rfl
theorem toSplitS_ev (l : List S42) (hl : l.length ≤ 1048576) : Ev (fun k => laws_toSplitS.f k l) (l.map cvS) :=
 ⟨l.length + 1, fun k hk => by
  have h := toSplitS_l0 l (by omega) l.length k 0 (List.replicate l.length z40) (by omega) (by omega) (by simp) rfl
  show laws_toSplitS.f k l = _
  unfold laws_toSplitS.f
  rw [if_pos (by omega), if_pos (by omega)]
  simpa using h⟩
theorem eqSplitS_l0 (a : List S40) (hm : a.length < 9223372036854775807) : ∀ (d k i : Nat), i + d = a.length → d < k → laws_eqSplitS.l0 k a a (i : Int) = some true := by
 intro d
 induction d with
 | zero =>
  intro k i h hk
  obtain ⟨k, rfl⟩ : ∃ m, k = m + 1 := ⟨k - 1, by omega⟩
  simp only [laws_eqSplitS.l0]
  rw [if_neg (by omega)]
 | succ d ih =>
  intro k i h hk
  obtain ⟨k, rfl⟩ : ∃ m, k = m + 1 := ⟨k - 1, by omega⟩
  have hi : i < a.length := by omega
  have e : (i : Int) + 1 = ((i + 1 : Nat) : Int) := by omega
  simp only [laws_eqSplitS.l0]
  rw [if_pos (by omega), if_pos (by omega), if_pos (by omega), rdSplit_at a i hi, wrap_id (by omega) (by omega), e]
  simp only [laws_eqSplit.f, if_true, Option.bind_some]
  exact ih k (i + 1) (by omega) (by omega)
theorem eqSplitS_self (a : List S40) (hm : a.length < 9223372036854775807) : Ev (fun k => laws_eqSplitS.f k a a) true := by
 refine ⟨a.length + 1, fun k hk => ?_⟩
 have h := eqSplitS_l0 a hm a.length k 0 (by omega) (by omega)
 show laws_eqSplitS.f k a a = _
 unfold laws_eqSplitS.f
 rw [if_pos rfl]
 simpa using h
theorem FnExactSplitsText : laws_FnExactSplitsText.Pure := by
 intro l hw
 refine Ev.rounds (g := fun k => laws_FnExactSplitsText.f k l) ?_
 unfold laws_FnExactSplitsText.f laws_szSplitS.f
 have hm := hw.1
 unfold maxLen at hm
 have w1 : wrap64 (1048576 - (l.length : Int)) = 1048576 - (l.length : Int) := wrap_id (by omega) (by omega)
 simp only [w1]
 by_cases c : 1048576 - (l.length : Int) < 0
 ·simp only [if_pos c, Option.bind_some, show ((-1 : Int) < 0) from by omega, if_true]
  exact Ev.now _
 ·have hl : l.length ≤ 1048576 := by omega
  obtain ⟨⟨v1, v2⟩, hs, hi⟩ := agree_SplitsText (l.map cvS)
  have hT := toSplitS_ev l hl
  have hE := eqSplitS_self (l.map cvS) (by simp; omega)
  simp only [if_neg c, Option.bind_some]
  repeat (first
   | exact Ev.now _
   | refine Ev.bind hT ?_
   | refine Ev.bind hs ?_
   | refine Ev.bind hi ?_
   | refine Ev.bind hE ?_
   | simp only [if_true, bne_self_eq_false, Bool.false_eq_true, if_false]
   | (refine Ev_add 1 ?_; simp only [laws_FnExactSplitsText.j0]))

end Go.Proofs.YtnfofdocnnndnaaDoor.Pure
