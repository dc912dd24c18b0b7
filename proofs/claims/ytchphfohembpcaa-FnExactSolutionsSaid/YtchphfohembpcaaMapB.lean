/-
  A map from whole numbers to bools that a call makes: what it answers, as a function of the key.
  Conditions: none; each theorem's own hypotheses.
-/
import Derived.Test.YtchphfohembpcaaWMore
import Derived.Maps.OwnOps
import Derived.Maps.Views
import Derived.StillTailTactics
namespace Go.Proofs.YtchphfohembpcaaB
open Go.RowKit Go.Proofs.YtchphfohembpcaaW.PrintWords Go.Proofs.YtchphfohembpcaaW.PrintLast
open Go.Maps (Keyed int_keyed keyOf_int_mk)
set_option linter.unusedVariables false
theorem bits_wf (op : BinOp) (x y : Int) : (Lit.int .i64 (Go.bits op .i64 x y)).wf = true := by
  unfold Go.bits
  rw [show IntKind.i64.wrap = wrap64 from funext fun n => i64_w n]
  exact wrap64_wf _
/-- Block b is a map of at most n entries that answers f. -/
def MapIB (P : Program) (k e : TypeId) (w : World) (b n : Nat) (f : Int → Bool) : Prop :=
  ∃ D : DataW Unit, w.ownsMap P k (plainElem P e) b n D ∧ Maps.IsMap D ∧ ∀ i : Int, D.atKey (.int .i64 i) (.lit (.bool false)) = .lit (.bool (f i))
section
variable {P : Program} {k e : TypeId} {w w1 : World} {b n : Nat} {f : Int → Bool}
theorem MapIB.made (w : World) (P : Program) (k e : TypeId) : MapIB P k e (w.alloc (.map #[] 0)) w.heap.size 0 (fun _ => false) :=
  ⟨.map [], World.ownsMap_made w P k _, ⟨[], rfl⟩, fun i => rfl⟩
theorem MapIB.lt (h : MapIB P k e w b n f) : b < w.heap.size := by
  obtain ⟨D, h, _⟩ := h
  exact h.lt
theorem MapIB.grown (h : MapIB P k e w b n f) {row : Option Nat} (hg : w.grownBy w1 row) (hne : some b ≠ row) : MapIB P k e w1 b n f := by
  obtain ⟨D, h, r⟩ := h
  exact ⟨D, h.kept hg hne, r⟩
theorem MapIB.below (h : MapIB P k e w b n f) (hb : Below w.heap.size w w1) : MapIB P k e w1 b n f := h.grown (grown_of_below hb none) (by simp)
theorem MapIB.obj (h : MapIB P k e w b n f) : ∃ es clock, w.heap[b]? = some (.map es clock) := by
  obtain ⟨D, ⟨es, clock, h, _⟩, _⟩ := h
  exact ⟨es, clock, h⟩
theorem MapIB.ne_row (h : MapIB P k e w b n f) {base : Nat} {t : TypeId} {sz m : Nat} {v : Value} {xs : List Value} (ho : w.ownsRow base t sz v m xs) : some b ≠ v.ownBlock := by
  intro he
  obtain ⟨es, clock, h1⟩ := h.obj
  obtain ⟨cells, h2⟩ := own_typed ho b he.symm
  rw [h1] at h2
  cases h2
/-- What the call has made elsewhere stays, whatever is stored into the map. -/
theorem MapIB.row (h : MapIB P k e w b n f) {α : Type} {d : Kd α} {t base : Nat} {ok : Nat → Prop} {v : Value} {xs : List α} (hr : d.R t w base ok v xs) (hg : w.grownBy w1 (some b)) : d.R t w1 base ok v xs := by
  obtain ⟨es, clock, h1⟩ := h.obj
  refine Kd.R_mono (Kd.R_grown (Kd.R_bound hr) hg (fun q hq e_ => ?_)) (fun _ hk => hk.1)
  obtain ⟨_, _, _, _, _, cells, hc⟩ := hq
  cases e_
  rw [h1] at hc
  cases hc
theorem plainElem_bool_inv {H : Type} (he : P.underlying e = some .bool) {v : Value} {z : DataW H × List MemPlace} (h : plainElem P e v = some z) : ∃ a, v = .bool a ∧ z.1 = .lit (.bool a) := by
  unfold plainElem at h
  rw [he] at h
  cases v <;> simp at h
  subst h
  exact ⟨_, rfl, rfl⟩
theorem MapIB.lookup {t : TypeId} (h : MapIB P k e w b n f) (ht : P.underlying t = some (.map k e)) (hk : P.underlying k = some (.int .i64)) (he : P.underlying e = some .bool) (hz : (zeroValue e).run P w = .ok (.bool false) w) (i : Int) (hi : (Lit.int .i64 i).wf = true) :
    (Instr.lookup t (.map (some b)) (.int .i64 i) false).run P w = .ok (.bool (f i)) w := by
  obtain ⟨D, ho, _, hf⟩ := h
  obtain ⟨v, ps, hrun, hv⟩ := ho.lookup (int_keyed hk) ht hz (plainElem_bool he false) (keyOf_int_mk hk hi)
  obtain ⟨a, rfl, ha⟩ := plainElem_bool_inv he hv
  rw [hf i] at ha
  simp at ha
  rw [hrun, ha]
theorem MapIB.update {t : TypeId} (h : MapIB P k e w b n f) (ht : P.underlying t = some (.map k e)) (hk : P.underlying k = some (.int .i64)) (he : P.underlying e = some .bool) (hn : n < maxLen) (i : Int) (hi : (Lit.int .i64 i).wf = true) :
    ∃ w', (Instr.mapUpdate t (.map (some b)) (.int .i64 i) (.bool true)).run P w = .ok () w' ∧ MapIB P k e w' b (n + 1) (fun j => decide (j = i) || f j) ∧ w.grownBy w' (some b) := by
  obtain ⟨D, ho, hm, hf⟩ := h
  obtain ⟨w', hrun, ho', hg⟩ := ho.update (int_keyed hk) ht hn (keyOf_int_mk hk hi) (plainElem_bool he true)
  refine ⟨w', hrun, ⟨_, ho', hm.put _ _, fun j => ?_⟩, hg⟩
  by_cases c : j = i
  · subst c
    rw [Maps.atKey_put_same hm (by exact (int_keyed hk).key (keyOf_int_mk hk hi))]
    simp
  · rw [Maps.atKey_put_other (by intro e_; injection e_ with _ e_; exact c e_), hf j]
    simp [c]
/-- The same, at the operation. -/
theorem MapIB.lookup_step {ops : Array Oper} {rest : List Oper} {o : Oper} {a : Act} {Q : Exit → Act → World → Prop} (hg : o.guard = none) (m x : Operand) (t : TypeId) (hop : o.op = Op.lookup t m x false)
    (ht : P.underlying t = some (.map k e)) (hk : P.underlying k = some (.int .i64)) (he : P.underlying e = some .bool) (hz : (zeroValue e).run P w = .ok (.bool false) w) (h : MapIB P k e w b n f) (i : Int) (hi : (Lit.int .i64 i).wf = true)
    (hm : a.eval m = .map (some b)) (hx : a.eval x = .int .i64 i) (hK : wpList P ops Q rest (a.put o.dst (.bool (f i))) w) : wpList P ops Q (o :: rest) a w := by
  refine wpList_plain hg fun K' hK' => ?_
  have hrun := h.lookup ht hk he hz i hi
  unfold Oper.wp
  simp [execOp, hop, hm, hx, hrun, Result.andThen]
  exact hK' _ _ hK
theorem MapIB.update_step {ops : Array Oper} {rest : List Oper} {o : Oper} {a : Act} {Q : Exit → Act → World → Prop} (hg : o.guard = none) (m x v : Operand) (t : TypeId) (hop : o.op = Op.mapUpdate t m x v)
    (ht : P.underlying t = some (.map k e)) (hk : P.underlying k = some (.int .i64)) (he : P.underlying e = some .bool) (h : MapIB P k e w b n f) (hn : n < maxLen) (i : Int) (hi : (Lit.int .i64 i).wf = true)
    (hm : a.eval m = .map (some b)) (hx : a.eval x = .int .i64 i) (hv : a.eval v = .bool true)
    (hK : ∀ w', MapIB P k e w' b (n + 1) (fun j => decide (j = i) || f j) → w.grownBy w' (some b) → wpList P ops Q rest (a.put o.dst undef) w') : wpList P ops Q (o :: rest) a w := by
  refine wpList_plain hg fun K' hK' => ?_
  obtain ⟨w', hrun, r1, r2⟩ := h.update ht hk he hn i hi
  unfold Oper.wp
  simp [execOp, hop, hm, hx, hv, hrun, Result.andThen]
  exact hK' _ _ (hK w' r1 r2)
end
end Go.Proofs.YtchphfohembpcaaB
