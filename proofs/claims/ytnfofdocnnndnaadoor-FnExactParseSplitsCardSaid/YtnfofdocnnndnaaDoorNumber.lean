/-
  What the program's reader of a number makes of a text, wherever the world is mild.
  Conditions: the hypotheses of each theorem.
-/
import Derived.Test.YtnfofdocnnndnaaDoorMild
import Derived.Test.YtnfofdocnnndnaaDoorBase
import Derived.Test.YtnfofdocnnndnaaDoorRowB
import Derived.Test.YtnfofdocnnndnaaDoorWMore
import Derived.Lib.AppendIntMem
namespace Go.Proofs.YtnfofdocnnndnaaDoorB
open Go.RowKit Go.Proofs.YtnfofdocnnndnaaDoorW.PrintWords Go.Proofs.YtnfofdocnnndnaaDoorW.PrintLast Go.Proofs.YtnfofdocnnndnaaDoorW.PrintMore
theorem atoi_calls (s : ByteArray) (hs : s.size ≤ 1048576) (w : World) (hM : Mild w) :
    Calls Tryd.prog 55 #[.string s] w fun e w' => (∃ v er, e = .returned (.tuple #[.int .i64 v, er]) ∧ ((Lib.atoiAll s.data.toList = .ok v ∧ er = .nilIface) ∨ ((∀ u, Lib.atoiAll s.data.toList ≠ .ok u) ∧ ∃ t p, er = .iface t p))) ∧ Below w.heap.size w w' := by
  obtain ⟨h1, h2, ⟨t3, p3, h3⟩, t4, p4, h4⟩ := hM
  cases h : Lib.atoiAll s.data.toList with
  | range =>
    refine (Tryd.strconv_Atoi_range_var s (by omega) h t4 p4 w h4).mono ?_
    rintro e w' ⟨N, rfl, _, _, hb⟩
    exact ⟨⟨_, _, rfl, Or.inr ⟨(fun _ => by intro q; cases q), _, _, rfl⟩⟩, hb⟩
  | ok v =>
    refine (Tryd.strconv_Atoi_ok s (by omega) v h w).mono ?_
    rintro e w' ⟨rfl, hw⟩
    refine ⟨⟨_, _, rfl, Or.inl ⟨rfl, rfl⟩⟩, ?_⟩
    rcases hw with rfl | ⟨t, rfl⟩
    · exact Below.refl _ _
    · exact Lib.bytesWorld_below w _ t
  | _ =>
    refine (Tryd.strconv_Atoi_syntax_var s (by omega) h t3 p3 w h3).mono ?_
    rintro e w' ⟨N, rfl, _, _, hb⟩
    exact ⟨⟨_, _, rfl, Or.inr ⟨(fun _ => by intro q; cases q), _, _, rfl⟩⟩, hb⟩
theorem itoa_calls (n : Int) (h0 : 0 ≤ n) (h1 : n ≤ 9223372036854775807) (w : World) (hM : Mild w) :
    Calls Tryd.prog 21 #[.int .i64 n] w fun e w' => e = .returned (.string ⟨(Lib.itoa n).toArray⟩) ∧ Below w.heap.size w w' := by
  refine (Tryd.strconv_Itoa n (by omega) h1 w hM.2.1).mono ?_
  rintro e w' ⟨rfl, k, os, rfl⟩
  exact ⟨rfl, Lib.below_grow _ w (Nat.le_refl _) k os⟩
/-- The number that a text tells, in the way that tells it shortest; -1 for what is none. -/
def numF (l : List UInt8) : Int :=
  match Lib.atoiAll l with
  | .ok v => if v < 0 then -1 else if Lib.itoa v = l then v else -1
  | _ => -1
theorem atoi_good (s : ByteArray) (hs : s.size ≤ 1048576) (w : World) (hM : Mild w) (v : Int) (h : Lib.atoiAll s.data.toList = .ok v) :
    Calls Tryd.prog 55 #[.string s] w fun e w' => e = .returned (.tuple #[.int .i64 v, .nilIface]) ∧ Below w.heap.size w w' := by
  refine (atoi_calls s hs w hM).mono ?_
  rintro e w' ⟨⟨u, er, rfl, hv⟩, hb⟩
  rcases hv with ⟨q, rfl⟩ | ⟨q, _⟩
  · rw [h] at q
    cases q
    exact ⟨rfl, hb⟩
  · exact absurd h (q _)
theorem atoi_bad (s : ByteArray) (hs : s.size ≤ 1048576) (w : World) (hM : Mild w) (h : ∀ u, Lib.atoiAll s.data.toList ≠ .ok u) :
    Calls Tryd.prog 55 #[.string s] w fun e w' => (∃ v t p, e = .returned (.tuple #[.int .i64 v, .iface t p])) ∧ Below w.heap.size w w' := by
  refine (atoi_calls s hs w hM).mono ?_
  rintro e w' ⟨⟨u, er, rfl, hv⟩, hb⟩
  rcases hv with ⟨q, rfl⟩ | ⟨_, t, p, rfl⟩
  · exact absurd q (h _)
  · exact ⟨⟨_, _, _, rfl⟩, hb⟩
set_option maxHeartbeats 4000000 in
set_option maxRecDepth 100000 in
theorem number_calls (s : ByteArray) (hs : s.size ≤ 1048576) (w : World) (hM : Mild w) :
    Calls Tryd.prog 33 #[.string s] w fun e w' => e = .returned (.int .i64 (numF s.data.toList)) ∧ Below w.heap.size w w' := by
  by_cases hh : ∃ v, Lib.atoiAll s.data.toList = .ok v
  · obtain ⟨v, h⟩ := hh
    have hA := atoi_good s hs w hM v h
    have hn : numF s.data.toList = if v < 0 then -1 else if Lib.itoa v = s.data.toList then v else -1 := by unfold numF; rw [h]
    rw [hn]
    obtain ⟨b1, b2⟩ := Lib.atoiAll_bounds h
    clear h hn
    by_cases c : v < 0
    · rw [if_pos c]
      go_enter Tryd.func33, Tryd.ntmps33
      go_wp2_with (first | (go_at_call 55; refine hA.mono ?_; rintro e W1 ⟨rfl, hb⟩) | fail)
      try simp only [decide_eq_true c]
      go_ret
      exact ⟨rfl, hb⟩
    · rw [if_neg c]
      have hI := fun W1 hM1 => itoa_calls v (by omega) b2 W1 hM1
      by_cases d : Lib.itoa v = s.data.toList
      · rw [if_pos d]
        have e9 : (⟨(Lib.itoa v).toArray⟩ : ByteArray) = s := by rw [d]
        rw [e9] at hI
        clear e9
        go_enter Tryd.func33, Tryd.ntmps33
        go_wp2_with (first | (go_at_call 55; refine hA.mono ?_; rintro e W1 ⟨rfl, hb⟩) | (go_at_call 21; refine (hI _ (hM.below hb)).mono ?_; rintro e W2 ⟨rfl, hb2⟩) | fail)
        go_ret
        exact ⟨rfl, hb.trans (hb2.mono hb.size)⟩
      · rw [if_neg d]
        have e9 : ¬ (⟨(Lib.itoa v).toArray⟩ : ByteArray) = s := fun e => d (by rw [← e])
        go_enter Tryd.func33, Tryd.ntmps33
        go_wp2_with (first | (go_at_call 55; refine hA.mono ?_; rintro e W1 ⟨rfl, hb⟩) | (go_at_call 21; refine (hI _ (hM.below hb)).mono ?_; rintro e W2 ⟨rfl, hb2⟩) | fail)
        · go_ret
          exact ⟨rfl, hb.trans (hb2.mono hb.size)⟩
        · rename_i hx
          exfalso
          have e0 : s.toList = s.data.toList := by first | exact ByteArray.toList_eq s | simp
          rw [e0] at hx
          simp at hx
          exact d hx.2
  · have hA := atoi_bad s hs w hM (fun u e => hh ⟨u, e⟩)
    have hn : numF s.data.toList = -1 := by
      unfold numF
      split
      · rename_i v e; exact absurd ⟨v, e⟩ hh
      · rfl
    rw [hn]
    clear hn hh
    go_enter Tryd.func33, Tryd.ntmps33
    go_wp2_with (first | (go_at_call 55; refine hA.mono ?_; rintro e W1 ⟨⟨v, t, p, rfl⟩, hb⟩) | fail)
    go_ret
    exact ⟨rfl, hb⟩
end Go.Proofs.YtnfofdocnnndnaaDoorB
