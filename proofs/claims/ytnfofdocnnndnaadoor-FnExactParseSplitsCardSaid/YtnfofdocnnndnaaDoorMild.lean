/-
  What holds of the world wherever a text is read or written, and that a call which leaves the older blocks alone keeps it.
  Conditions: the hypotheses of each theorem.
-/
import Derived.Test.YtnfofdocnnndnaaDoorShelf
import Derived.ChangeAgain
import Derived.ShapedOpen
import Derived.Below
import Derived.WalkSmall
import Derived.Lib.LaidTab
import Derived.Lib.ItoaMem
namespace Go.Proofs.YtnfofdocnnndnaaDoorB
open Go.RowKit
/-- The world as the library's readers of numbers want it: shaped, the table of the powers there, the two errors' variables holding an error. -/
def Mild (w : World) : Prop :=
  w.ShapedOpen Tryd.prog ∧ Lib.TabIs Tryd.prog w "internal/strconv.uint64pow10" .u64 Lib.pow10Tab ∧
  (∃ t p, w.var? Tryd.prog "strconv.ErrSyntax" = some #[.iface t p]) ∧ (∃ t p, w.var? Tryd.prog "strconv.ErrRange" = some #[.iface t p])
theorem var_kept {P : Program} {n : String} {cs : Array Value} {w w' : World} (hb : Below w.heap.size w w') (h : w.var? P n = some cs) : w'.var? P n = some cs := by
  unfold World.var? at h ⊢
  cases hg : P.globalNamed n with
  | none => rw [hg] at h; cases h
  | some g =>
    rw [hg] at h
    have h : (match w.heap[g]? with | some (.cells cs _ _) => some cs | _ => none) = some cs := h
    show (match w'.heap[g]? with | some (.cells cs _ _) => some cs | _ => none) = some cs
    rcases Nat.lt_or_ge g w.heap.size with hl | hl
    · rw [hb.block g hl]; exact h
    · rw [Array.getElem?_eq_none hl] at h; cases h
theorem Mild.below {w w' : World} (h : Mild w) (hb : Below w.heap.size w w') : Mild w' := by
  obtain ⟨h1, h2, ⟨t3, p3, h3⟩, t4, p4, h4⟩ := h
  exact ⟨World.ShapedOpen.keptBut h1 (hb.frame (fun _ => False)) (fun _ hp => hp.elim), var_kept hb h2, ⟨t3, p3, var_kept hb h3⟩, t4, p4, var_kept hb h4⟩
theorem Mild.of_heap {w w' : World} (h : Mild w) (hh : w.heap = w'.heap) : Mild w' := by
  obtain ⟨h1, h2, ⟨t3, p3, h3⟩, t4, p4, h4⟩ := h
  have e : ∀ n, w'.var? Tryd.prog n = w.var? Tryd.prog n := fun n => (World.var?_heap hh n).symm
  refine ⟨World.ShapedOpen.of_heap hh h1, ?_, ⟨t3, p3, (e _).trans h3⟩, t4, p4, (e _).trans h4⟩
  unfold Lib.TabIs at h2 ⊢
  exact (e _).trans h2
end Go.Proofs.YtnfofdocnnndnaaDoorB
