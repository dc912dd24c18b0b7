/-
  What a datum that was read tells of the memory behind it, kind by kind: an argument's cells, as the contracts ask for them.
  Conditions: none; each theorem's own hypotheses.
-/
import Derived.Test.YtchphfohembpcaaWMore
import Derived.ChangeArms
import Derived.ChangeOld
import Derived.Deep.Slices
namespace Go.Proofs.YtchphfohembpcaaB
open Go.RowKit Go.ChangeShapes Go.WideShapes Go.Proofs.YtchphfohembpcaaW.PrintWords Go.Proofs.YtchphfohembpcaaW.PrintLast
section
variable {H : Type} {enc : TypeId × Value → H} {P : Program} {w : World} {base : Nat} {spare : Nat → Bool} {held : Bool}
/-- What is read at type t holds a value of the kind d that is well formed. -/
def ToldK {α : Type} (enc : TypeId × Value → H) (P : Program) (w : World) (base : Nat) (spare : Nat → Bool) (held : Bool) (d : Kd α) (Wf : α → Prop) (t : TypeId) : Prop :=
  ∀ (n : Nat) (cs : List Value) (x : DataW H × List MemPlace), DataW.trod enc P w base spare held n t cs = some x → ∃ y, d.K w y cs ∧ Wf y
theorem told_int {t : TypeId} {k : IntKind} (ht : P.underlying t = some (.int k)) : ToldK enc P w base spare held (Kd.int k) (fun a => (Lit.int k a).wf = true) t := by
  intro n cs x h
  obtain ⟨a, rfl, _, hw⟩ := DataW.trod_int ht h
  exact ⟨a, rfl, hw⟩
theorem told_bool {t : TypeId} (ht : P.underlying t = some .bool) : ToldK enc P w base spare held Kd.bool (fun _ => True) t := by
  intro n cs x h
  cases n with
  | zero => simp [DataW.trod] at h
  | succ n =>
    unfold DataW.trod at h
    rw [ht] at h
    split at h
    · exact ⟨_, rfl, trivial⟩
    all_goals simp_all
theorem told_string {t : TypeId} (ht : P.underlying t = some .string) : ToldK enc P w base spare held Kd.string (fun s => s.size ≤ maxLen) t := by
  intro n cs x h
  obtain ⟨s, rfl, _, hw⟩ := DataW.trod_string ht h
  exact ⟨s, rfl, hw⟩
/-- A list out of what holds at each index. -/
theorem list_of {α : Type} (Q : Nat → α → Prop) : ∀ n : Nat, (∀ i, i < n → ∃ y, Q i y) → ∃ xs : List α, xs.length = n ∧ ∀ i y, xs[i]? = some y → Q i y
  | 0, _ => ⟨[], rfl, fun i y h => by simp at h⟩
  | n + 1, h => by
    obtain ⟨xs, hl, hx⟩ := list_of Q n (fun i hi => h i (by omega))
    obtain ⟨y, hy⟩ := h n (by omega)
    refine ⟨xs ++ [y], by simp [hl], fun i z hz => ?_⟩
    by_cases hi : i < xs.length
    · rw [List.getElem?_append_left hi] at hz
      exact hx i z hz
    · rw [List.getElem?_append_right (by omega)] at hz
      by_cases he : i - xs.length = 0
      · rw [he] at hz
        simp only [List.getElem?_cons_zero, Option.some.injEq] at hz
        subst hz
        obtain rfl : i = n := by omega
        exact hy
      · obtain ⟨m, hm⟩ : ∃ m, i - xs.length = m + 1 := ⟨i - xs.length - 1, by omega⟩
        rw [hm] at hz
        simp at hz
theorem told_slice {α : Type} {d : Kd α} {Wf : α → Prop} {t e : TypeId} (ht : P.underlying t = some (.slice e)) (hsz : P.cellsOf e = d.sz) (hd : ToldK enc P w base spare held d Wf e) :
    ToldK enc P w base spare held (Kd.slice e d) (fun xs => xs.length ≤ maxLen ∧ ∀ y ∈ xs, Wf y) t := by
  intro n cs x h
  rcases Go.Deep.open_slice ht h with ⟨rfl, _⟩ | ⟨a, len, cap, m, n', D, Pl, rfl, hb, hl, hm, hmm, _, hi⟩
  · exact ⟨[], ⟨none, 0, rfl, Nat.le_refl _, rfl, by simp, fun h0 => absurd h0 (Nat.lt_irrefl _)⟩, by simp, by simp⟩
  · have hlm : len ≤ m := by rw [hmm]; split <;> omega
    obtain ⟨xs, hxl, hx⟩ := list_of (fun i y => ∃ c, c.length = d.sz ∧ d.K w y c ∧ Wf y ∧ ∀ j u, c[j]? = some u → w.cell? (a.add (i * d.sz + j)) = some u) len (fun i hil => by
      obtain ⟨cs', hc, ht'⟩ := hi i (by omega)
      obtain ⟨y, hK, hw⟩ := hd _ _ _ ht'
      obtain ⟨_, hcl, hat⟩ := World.cells?_some hc
      refine ⟨y, cs', by rw [hcl, hsz], hK, hw, fun j u hu => ?_⟩
      have hj : j < P.cellsOf e := by rw [← hcl]; exact (List.getElem?_eq_some_iff.1 hu).1
      have := hat j hj
      rw [hu] at this
      rw [← hsz, ← Go.Deep.add_add]
      exact this)
    have hlen : xs.length ≤ maxLen := by omega
    refine ⟨xs, ⟨some a, cap, by rw [hxl], by omega, rfl, by unfold maxLen at hlen; omega, fun _ => ⟨a, rfl, fun j p hj => ?_⟩⟩, hlen, fun y hy => ?_⟩
    · obtain ⟨c, h1, h2, _, h4⟩ := hx j p hj
      exact ⟨c, h1, h2, h4⟩
    · obtain ⟨i, hi'⟩ := List.getElem?_of_mem hy
      obtain ⟨c, _, _, h3, _⟩ := hx i y hi'
      exact h3
end
end Go.Proofs.YtchphfohembpcaaB
