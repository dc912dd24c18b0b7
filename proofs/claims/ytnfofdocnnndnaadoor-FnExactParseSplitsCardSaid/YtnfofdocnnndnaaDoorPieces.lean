/-
  What the library's cutters of a text hand back, as rows of the call's own, wherever the world is mild.
  Conditions: the hypotheses of each theorem.
-/
import Derived.Test.YtnfofdocnnndnaaDoorNumber
import Derived.Lib.SplitLaws
namespace Go.Proofs.YtnfofdocnnndnaaDoorB
open Go.RowKit Go.Proofs.YtnfofdocnnndnaaDoorW.PrintWords Go.Proofs.YtnfofdocnnndnaaDoorW.PrintLast Go.Proofs.YtnfofdocnnndnaaDoorW.PrintMore
/-- The pieces of a text. -/
def piecesF (s sep : ByteArray) : List ByteArray := Lib.splitB sep 0 (Lib.countB s sep) s
theorem reps_strings (w : World) (base : Nat) (okp : Nat → Prop) (xs : List ByteArray) : Reps (Kd.string.M w base okp) Kd.string.sz xs (xs.map Value.string) := by
  refine ⟨by show _ = xs.length * 1; simp, fun j p hj => ?_⟩
  show ((xs.map Value.string).drop (j * 1)).take 1 = [Value.string p]
  rw [Nat.mul_one]
  have hm : (xs.map Value.string)[j]? = some (Value.string p) := by rw [List.getElem?_map, hj]; rfl
  obtain ⟨hlt, he⟩ := List.getElem?_eq_some_iff.1 hm
  rw [List.drop_eq_getElem_cons hlt, he]
  rfl
theorem split_calls (s sep : ByteArray) (hs : s.size ≤ 1048576) (h1 : 1 ≤ sep.size) (w : World) (hM : Mild w) :
    Calls Tryd.prog 31 #[.string s, .string sep] w fun e w' => ∃ v0_ : Value, e = .returned v0_ ∧ Kd.R Kd.string 9 w' w.heap.size (fun _ => True) v0_ (piecesF s sep) ∧ Below w.heap.size w w' := by
  have hl : (piecesF s sep).length = Lib.countB s sep + 1 := Lib.splitB_all sep h1 0 _ s rfl
  refine (Tryd.strings_Split_shaped s sep w hM.1 (by omega) h1).mono ?_
  rintro e w' ⟨rfl, rfl⟩
  refine ⟨_, rfl, ?_, Below.alloc (Below.refl _ _) (Nat.le_refl _) _⟩
  rw [← hl]
  have he9 : Lib.splitB sep 0 (Lib.countB s sep) s = piecesF s sep := rfl
  rw [he9]
  clear he9
  have hr := reps_strings w w.heap.size (fun _ => True) (piecesF s sep)
  refine ⟨fun _ _ => trivial, (piecesF s sep).map Value.string, ?_, ?_⟩
  rotate_left
  · refine hr.imp_ (fun p c hp => Kd.string.M_mono (fun k hk => ⟨trivial, fun he => ?_⟩) (Kd.M_below (Kd.string.M_bound hp) (below_alloc (Below.refl _ _) _)))
    have h3 : k = w.heap.size := by simpa [Value.ownBlock] using he
    have := hk.2.2.1
    omega
  · have h2 := World.ownsRow_lit (base := w.heap.size) (e := 9) (size := Kd.string.sz) w ((piecesF s sep).map Value.string).toArray (piecesF s sep).length (Nat.le_refl _) (by have h8 := Lib.countB_le sep h1 _ s (Nat.le_refl _); simp only [maxLen]; omega) (by simpa using hr.1)
    simpa using h2
/-- What lies ahead of the first cut, what behind it, and whether there is one. -/
def cutF (s sep : ByteArray) : ByteArray × ByteArray × Bool := (⟨(Lib.cut s.data.toList sep.data.toList).1.toArray⟩, ⟨(Lib.cut s.data.toList sep.data.toList).2.1.toArray⟩, (Lib.cut s.data.toList sep.data.toList).2.2)
theorem cut_calls (s sep : ByteArray) (hs : s.size ≤ 1048576) (w : World) (hM : Mild w) :
    Calls Tryd.prog 32 #[.string s, .string sep] w fun e w' => e = .returned (.tuple #[.string (cutF s sep).1, .string (cutF s sep).2.1, .bool (cutF s sep).2.2]) ∧ Below w.heap.size w w' := by
  refine (Tryd.strings_Cut_shaped s sep w hM.1 (by omega)).mono ?_
  rintro e w' ⟨rfl, n, rfl⟩
  exact ⟨rfl, pw_below_drewN (Below.refl _ _) n⟩
end Go.Proofs.YtnfofdocnnndnaaDoorB
