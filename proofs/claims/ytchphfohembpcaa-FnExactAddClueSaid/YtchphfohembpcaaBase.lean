/-
  Words of our own for the functions that hand a function value to the library: the answers of a search over a list, by a predicate that may have no answer.
  Conditions: none; plain Lean.
-/
import Derived.Test.YtchphfohembpcaaWMore
import Derived.Lib.SliceRun
namespace Go.Proofs.YtchphfohembpcaaB
open Go.RowKit Go.Proofs.YtchphfohembpcaaW.PrintWords Go.Proofs.YtchphfohembpcaaW.PrintLast

/-- A call of a function with a body enters it. -/
theorem enters_body {P : Program} {f : FuncId} {fn : Func} {c : Code} (hf : P.funcs[f]? = some fn) (hb : fn.body = some c) (hname : (fn.name == "runtime.NumGoroutine") = false) (args : Array Value) (w : World) : (callFunc f args).run P w = .ok (.enter f args) w := by
  have h1 : fn.name ≠ "runtime.NumGoroutine" := by simpa using hname
  simp [callFunc, hf, h1, hb, mark]

/-- 's == nil' at a slice. -/
theorem slice_is_nil {P : Program} (w : World) (t e : TypeId) (a : Option Addr) (n c n' c' : Nat) (h : P.underlying t = some (.slice e)) : (binOp .eql t (.slice a n c) (.slice none n' c')).run P w = .ok (.bool a.isNone) w := by
  simp only [binOp]
  simp [Op.equal, Op.maxDepth, Lib.run_equalIn_slice_nil w 9999 t e a n c n' c' h]

/-- Where the first element lies of which p holds, counted from i on; -1 if there is none. -/
def idxO {α : Type} (p : α → Option Bool) : List α → Int → Option Int
  | [], _ => some (-1)
  | x :: xs, i => (p x).bind fun b => if b = true then some i else idxO p xs (i + 1)
/-- Is there an element of which p holds? -/
def anyO {α : Type} (p : α → Option Bool) : List α → Option Bool
  | [] => some false
  | x :: xs => (p x).bind fun b => if b = true then some true else anyO p xs

theorem idxO_of_anyO {α : Type} (p : α → Option Bool) : ∀ (l : List α) (i : Int) (b : Bool), 0 ≤ i → anyO p l = some b → ∃ r : Int, idxO p l i = some r ∧ decide (0 ≤ r) = b
  | [], i, b, h0, h => by
    simp only [anyO, Option.some.injEq] at h
    subst h
    exact ⟨-1, rfl, by decide⟩
  | x :: xs, i, b, h0, h => by
    simp only [anyO] at h
    obtain ⟨c, hc, h⟩ := Option.bind_eq_some_iff.mp h
    cases c with
    | true =>
      simp only [if_true, Option.some.injEq] at h
      subst h
      exact ⟨i, by simp [idxO, hc], by simpa using h0⟩
    | false =>
      obtain ⟨r, hr, hd⟩ := idxO_of_anyO p xs (i + 1) b (by omega) (by simpa using h)
      exact ⟨r, by simp [idxO, hc, hr], hd⟩

theorem anyO_some {α : Type} (p : α → Bool) : ∀ l : List α, anyO (fun x => some (p x)) l = some (l.any p)
  | [] => rfl
  | x :: xs => by
    simp only [anyO, Option.bind_some, List.any_cons]
    cases p x <;> simp [anyO_some p xs]

theorem anyO_congr {α : Type} {p q : α → Option Bool} : ∀ {l : List α}, (∀ x, x ∈ l → p x = q x) → anyO p l = anyO q l
  | [], _ => rfl
  | x :: xs, h => by
    simp only [anyO]
    rw [h x List.mem_cons_self, anyO_congr (l := xs) fun y hy => h y (List.mem_cons_of_mem _ hy)]

theorem anyO_le {α : Type} {p q : α → Option Bool} (h : ∀ x, LeO (p x) (q x)) : ∀ l : List α, LeO (anyO p l) (anyO q l)
  | [] => LeO.refl _
  | x :: xs => by
    simp only [anyO]
    exact LeO.bind (h x) fun b => LeO.ite (LeO.refl _) (anyO_le h xs)

theorem idxO_drop {α : Type} (p : α → Option Bool) (l : List α) (k : Nat) (h : k < l.length) (i : Int) : idxO p (l.drop k) i = (p l[k]).bind fun b => if b = true then some i else idxO p (l.drop (k + 1)) (i + 1) := by
  rw [List.drop_eq_getElem_cons h]
  rfl

theorem rd_get (l : List Int) (k : Nat) (h : k < l.length) : rd l (k : Int) = l[k] := by
  unfold rd
  rw [Int.toNat_natCast, List.getD_eq_getElem?_getD, List.getElem?_eq_getElem h]
  rfl

end Go.Proofs.YtchphfohembpcaaB
