/-
  Rows of one's own: the rest of a row is cleared and let go ('clear(s[i:]); return s[:i]'); the elements that a predicate leaves.
  Conditions: none; each theorem's own hypotheses.
-/
import Derived.Test.YtchphfohembpcaaWMore
import Derived.Test.YtchphfohembpcaaBase
import Derived.Lib.SliceRun
namespace Go.Proofs.YtchphfohembpcaaB
open Go.RowKit Go.Proofs.YtchphfohembpcaaW.PrintWords Go.Proofs.YtchphfohembpcaaW.PrintLast
set_option linter.unusedVariables false
/-- The elements of a list that a predicate doesn't tell to delete. -/
def keepO {α : Type} (p : α → Option Bool) : List α → Option (List α)
  | [] => some []
  | x :: t => (p x).bind fun b => (keepO p t).bind fun r => some (if b = true then r else x :: r)
theorem keepO_some {α : Type} (p : α → Bool) : ∀ l : List α, keepO (fun x => some (p x)) l = some (l.filter fun x => !p x)
  | [] => rfl
  | x :: t => by
    simp only [keepO, Option.bind_some, keepO_some p t, List.filter_cons]
    cases p x <;> rfl
theorem keepO_congr {α : Type} {p q : α → Option Bool} : ∀ {l : List α}, (∀ x, x ∈ l → p x = q x) → keepO p l = keepO q l
  | [], _ => rfl
  | x :: xs, h => by
    simp only [keepO]
    rw [h x List.mem_cons_self, keepO_congr (l := xs) fun y hy => h y (List.mem_cons_of_mem _ hy)]
theorem keepO_le {α : Type} {p q : α → Option Bool} (h : ∀ x, LeO (p x) (q x)) : ∀ l : List α, LeO (keepO p l) (keepO q l)
  | [] => LeO.refl _
  | x :: t => by
    simp only [keepO]
    exact LeO.bind (h x) fun b => LeO.bind (keepO_le h t) fun _ => LeO.refl _
theorem keepO_drop {α : Type} (p : α → Option Bool) (l : List α) (k : Nat) (h : k < l.length) : keepO p (l.drop k) = (p l[k]).bind fun b => (keepO p (l.drop (k + 1))).bind fun r => some (if b = true then r else l[k] :: r) := by
  rw [List.drop_eq_getElem_cons h]
  rfl
/-- Ahead of the first element to delete, none is. -/
theorem keepO_idxO {α : Type} (p : α → Option Bool) : ∀ (l r : List α), keepO p l = some r → ∃ i : Int, ∀ j : Int, 0 ≤ j → ∃ i : Int, idxO p l j = some i ∧ ((i = -1 ∧ r = l) ∨ (∃ n : Nat, i = j + n ∧ n < l.length ∧ (∃ r', keepO p (l.drop (n + 1)) = some r' ∧ r = l.take n ++ r')))
  | [], r, h => by
    refine ⟨0, fun j _ => ⟨-1, rfl, .inl ⟨rfl, ?_⟩⟩⟩
    simpa [keepO] using h.symm
  | x :: t, r, h => by
    refine ⟨0, fun j hj => ?_⟩
    simp only [keepO] at h
    obtain ⟨b, hb, h⟩ := Option.bind_eq_some_iff.mp h
    obtain ⟨r', hr', h⟩ := Option.bind_eq_some_iff.mp h
    cases b with
    | true =>
      simp only [if_true, Option.some.injEq] at h
      subst h
      exact ⟨j, by simp [idxO, hb], .inr ⟨0, by omega, by simp, r', by simpa using hr', by simp⟩⟩
    | false =>
      simp only [Bool.false_eq_true, if_false, Option.some.injEq] at h
      subst h
      obtain ⟨_, ih⟩ := keepO_idxO p t r' hr'
      obtain ⟨i, hi, hh⟩ := ih (j + 1) (by omega)
      refine ⟨i, by simp [idxO, hb, hi], ?_⟩
      rcases hh with ⟨h1, h2⟩ | ⟨n, h1, h2, r'', h3, h4⟩
      · exact .inl ⟨h1, by rw [h2]⟩
      · exact .inr ⟨n + 1, by omega, by simp; omega, r'', by simpa using h3, by simp [h4]⟩
/-- A flat row (its elements are told by no ok): ok may be told anew of its own block alone. -/
theorem R_flatB {α : Type} {d : Kd α} {e base : Nat} {ok ok' : Nat → Prop} {w : World} {v : Value} {xs : List α} (hd : ∀ {ok1 ok2 : Nat → Prop} {x : α} {cs : List Value}, d.M w base ok1 x cs → d.M w base ok2 x cs) (h : d.R e w base ok v xs) (hok : ∀ k, v.ownBlock = some k → ok k → ok' k) : d.R e w base ok' v xs := by
  obtain ⟨h0, inner, hown, hr⟩ := h
  exact ⟨fun k hk => hok k hk (h0 k hk), inner, hown, hr.imp_ (fun _ _ hm => hd hm)⟩
theorem alloc_new (w : World) (o : Obj) : (w.alloc o).heap[w.heap.size]? = some o := by
  show (w.heap.push o)[w.heap.size]? = some o
  simp
theorem alloc_lt (w : World) (o : Obj) : w.heap.size < (w.alloc o).heap.size := by
  show w.heap.size < (w.heap.push o).size
  simp
theorem alloc_size (w : World) (o : Obj) : (w.alloc o).heap.size = w.heap.size + 1 := by
  show (w.heap.push o).size = w.heap.size + 1
  simp
theorem alloc_cell (w : World) (v : Value) (t : TypeId) (k : Nat) (hk : k = w.heap.size) : (w.alloc (.cells #[v] t)).cell? ⟨k, 0, none⟩ = some v := by
  subst hk
  exact (blk_cell (alloc_new w (.cells #[v] t)) 0).trans rfl
theorem zeroCells_length (z : Array Value) (n : Nat) : (Builtin.zeroCells z n).toList.length = n * z.size := by simp [Builtin.zeroCells]
theorem zeroCells_one (z : Array Value) (n : Nat) (h1 : ∀ u ∈ z.toList, u.oneCell' = true) : ∀ u ∈ (Builtin.zeroCells z n).toList, u.oneCell' = true := by
  intro u hu
  simp only [Builtin.zeroCells, Array.toList_map, List.mem_map, Array.toList_range, List.mem_range] at hu
  obtain ⟨i, hi, rfl⟩ := hu
  have hz : 0 < z.size := by
    rcases Nat.eq_zero_or_pos z.size with h | h
    · rw [h] at hi; simp at hi
    · exact h
  have hlt : i % z.size < z.size := Nat.mod_lt _ hz
  rw [getElem!_pos z (i % z.size) hlt]
  exact h1 _ (by rw [Array.mem_toList_iff]; exact Array.getElem_mem hlt)
section
variable {P : Program}
/-- 'clear(s[m:])' at a row of one's own, of which the first m elements are kept. -/
theorem R_clear_run {α : Type} (d : Kd α) {W : World} (base : Nat) (t ty e : TypeId) (z : Value) (ht : P.underlying t = some (.slice e)) {bytes : Nat} (hinfo : (P.info? e).map (fun i => (i.zero, i.size, i.bytes)) = some (some z, d.sz, bytes)) (hsz : z.cells.size = d.sz) (h1 : ∀ u ∈ z.cells.toList, u.oneCell' = true)
    {g n c c2 m : Nat} {xs : List α} {ok : Nat → Prop} (HO : d.R e W base ok (.slice (some ⟨g, 0, none⟩) n c) xs) (hm : m < n) :
    ∃ w1, (Builtin.clear_ #[t] ty #[.slice (some ⟨g, m * d.sz, none⟩) (n - m) c2]).run P W = .ok (.tuple #[]) w1 ∧ d.R e w1 base ok (.slice (some ⟨g, 0, none⟩) m c) (xs.take m) ∧ W.grownBy w1 (some g) := by
  obtain ⟨i0, hi, hzz⟩ := Option.map_eq_some_iff.1 hinfo
  simp only [Prod.mk.injEq] at hzz
  obtain ⟨hz0, hz1, hz2⟩ := hzz
  have hv : ∀ w, (zeroValue e).run P w = .ok z w := fun w => by simp [zeroValue, typeInfo, hi, hz0]
  obtain ⟨hn, hnc, _⟩ := Kd.R_reads' HO
  have HT := Kd.R_take HO (m := m) (by omega)
  have hbase : base ≤ g := Kd.R_base HO g (by simp [Value.ownBlock])
  obtain ⟨hok, inner, hown, hr⟩ := HT
  obtain ⟨_, inner0, hown0, _⟩ := HO
  rcases hown0.2 with ⟨hv0, _⟩ | ⟨g', cap', cur, hv0, hb, hh, _, hcm, hcs, _⟩
  · cases hv0
  injection hv0 with ha _ hc
  injection ha with ha
  injection ha with hg
  subst hg; subst hc
  obtain ⟨q, hq⟩ : ∃ q, n - m = q + 1 := ⟨n - m - 1, by omega⟩
  have hzl : (Builtin.zeroCells z.cells (n - m)).toList.length = (n - m) * d.sz := by rw [zeroCells_length, hsz]
  have hfit : m * d.sz + (Builtin.zeroCells z.cells (n - m)).toList.length ≤ cur.size := by
    rw [hzl, ← Nat.add_mul, hcs]
    exact Nat.mul_le_mul_right _ (by omega)
  have hst := run_storeCells_cells (P := P) g (m * d.sz) (Builtin.zeroCells z.cells (n - m)).toList 0 W
    (fun j hj => by rw [cell_of_row W g _ cur e (0, 0) hh]; simp; omega) (fun j _ => blk_frozen hh _) (zeroCells_one _ _ h1)
  simp only [Nat.add_zero] at hst
  obtain ⟨cur', h3, h4, h5⟩ := setCells_row (Builtin.zeroCells z.cells (n - m)).toList (m * d.sz) W cur hh hfit
  obtain ⟨s1, s2, s3, s4⟩ := setCells_same g (Builtin.zeroCells z.cells (n - m)).toList (m * d.sz) W
  have hfar : ∀ k', k' ≠ g → (W.setCells g (m * d.sz) (Builtin.zeroCells z.cells (n - m)).toList).heap[k']? = W.heap[k']? := fun k' hk' => setCells_far _ _ k' hk'
  refine ⟨W.setCells g (m * d.sz) (Builtin.zeroCells z.cells (n - m)).toList, ?_, ⟨hok, inner, ?_, ?_⟩, ⟨s1, s2, s3, by rw [s4]; exact Nat.le_refl _, fun k' _ hk' => hfar k' (fun he => hk' (by rw [he]))⟩⟩
  · rw [hq] at hst ⊢
    simp [Builtin.clear_, run_underlying ht, hv, hst]
  · rcases hown.2 with ⟨hv1, _⟩ | ⟨g1, cap1, cur1, hv1, hb1, hh1, hl1, hcm1, hcs1, ht1⟩
    · cases hv1
    injection hv1 with ha1 _ hc1
    injection ha1 with ha1
    injection ha1 with hg1
    subst hg1; subst hc1
    rw [hh] at hh1
    injection hh1 with hh1
    injection hh1 with hcur
    subst hcur
    have hlen : (xs.take m).length = m := by rw [List.length_take]; omega
    refine ⟨hown.1, .inr ⟨g, c, cur', by rw [hlen], hb, h3, hl1, hcm, by rw [h4, hcs], ?_⟩⟩
    rw [← ht1, h5, List.append_assoc, hlen]
    have : (cur.toList.take (m * d.sz)).length = m * d.sz := by rw [List.length_take]; simp; omega
    rw [List.take_append_of_le_length (by omega), List.take_take, Nat.min_self]
  · exact hr.imp_ (fun _ _ hp => d.M_move (fun k' hk' => hfar k' (fun he => hk'.2 (by simp [Value.ownBlock, he]))) hp)
variable {ops : Array Oper} {rest : List Oper} {o : Oper} {a : Act} {Q : Exit → Act → World → Prop} {α : Type}
theorem R_clear (d : Kd α) {w0 W : World} (base : Nat) (hgd : o.guard = none) (s : Operand) (t e : TypeId) (z : Value) (ho : o.op = .call { callee := .builtin .clear, args := #[s], argTypes := #[t] })
    (ht : P.underlying t = some (.slice e)) {bytes : Nat} (hinfo : (P.info? e).map (fun i => (i.zero, i.size, i.bytes)) = some (some z, d.sz, bytes)) (hsz : z.cells.size = d.sz) (h1 : ∀ u ∈ z.cells.toList, u.oneCell' = true) {g n c c2 m : Nat} {A : Option Addr} {xs : List α} {ok : Nat → Prop}
    (hs : a.eval s = .slice A (n - m) c2) (hA : A = some ⟨g, m * d.sz, none⟩)
    (HO : d.R e W base ok (.slice (some ⟨g, 0, none⟩) n c) xs) (hm : m < n) (HB : Below base w0 W) (hbase : base ≤ W.heap.size)
    (h : ∀ w1, d.R e w1 base ok (.slice (some ⟨g, 0, none⟩) m c) (xs.take m) → Below base w0 w1 → W.grownBy w1 (some g) → wpList P ops Q rest (a.put o.dst (.tuple #[])) w1) : wpList P ops Q (o :: rest) a W := by
  subst hA
  obtain ⟨w1, hr, h2, h3⟩ := R_clear_run (P := P) (c2 := c2) d base t o.type e z ht hinfo hsz h1 HO hm
  refine wpList_plain hgd fun K hK => ?_
  unfold Oper.wp execOp
  simp only [ho, resolve, invoke, builtin, Sem.run_bind, Sem.run_pure, Result.andThen_ok, List.map_toArray, List.map_cons, List.map_nil, hs, hr]
  exact hK _ _ (h w1 h2 (HB.grown h3 hbase (fun k hk => by injection hk with hk; subst hk; exact Kd.R_base HO _ (by simp [Value.ownBlock]))) h3)
end
end Go.Proofs.YtchphfohembpcaaB
