/-
  Rows of one's own: what lies behind a row in its block is cleared ('s = append(s[:i], s[j:]...); clear(s[len(s):old])').
  Conditions: none; each theorem's own hypotheses.
-/
import Derived.Test.YtchphfohembpcaaRowB
namespace Go.Proofs.YtchphfohembpcaaB
open Go.RowKit Go.Proofs.YtchphfohembpcaaW.PrintWords Go.Proofs.YtchphfohembpcaaW.PrintLast
set_option linter.unusedVariables false
section
variable {P : Program}
/-- 'clear(s[m:m+q])' behind a row of m elements of one's own. -/
theorem R_wipe_run {α : Type} (d : Kd α) {W : World} (base : Nat) (t ty e : TypeId) (z : Value) (ht : P.underlying t = some (.slice e)) {bytes : Nat} (hinfo : (P.info? e).map (fun i => (i.zero, i.size, i.bytes)) = some (some z, d.sz, bytes)) (hsz : z.cells.size = d.sz) (h1 : ∀ u ∈ z.cells.toList, u.oneCell' = true)
    {g c c2 m q : Nat} {xs : List α} {ok : Nat → Prop} (HO : d.R e W base ok (.slice (some ⟨g, 0, none⟩) m c) xs) (hq : 0 < q) (hm : m + q ≤ c) :
    ∃ w1, (Builtin.clear_ #[t] ty #[.slice (some ⟨g, m * d.sz, none⟩) q c2]).run P W = .ok (.tuple #[]) w1 ∧ d.R e w1 base ok (.slice (some ⟨g, 0, none⟩) m c) xs ∧ W.grownBy w1 (some g) := by
  obtain ⟨i0, hi, hzz⟩ := Option.map_eq_some_iff.1 hinfo
  simp only [Prod.mk.injEq] at hzz
  obtain ⟨hz0, hz1, hz2⟩ := hzz
  have hv : ∀ w, (zeroValue e).run P w = .ok z w := fun w => by simp [zeroValue, typeInfo, hi, hz0]
  obtain ⟨hn, hnc, _⟩ := Kd.R_reads' HO
  obtain ⟨hok, inner, hown, hr⟩ := HO
  rcases hown.2 with ⟨hv0, _⟩ | ⟨g', cap', cur, hv0, hb, hh, hl1, hcm, hcs, ht1⟩
  · cases hv0
  injection hv0 with ha _ hc
  injection ha with ha
  injection ha with hg
  subst hg; subst hc
  obtain ⟨q', rfl⟩ : ∃ q', q = q' + 1 := ⟨q - 1, by omega⟩
  have hzl : (Builtin.zeroCells z.cells (q' + 1)).toList.length = (q' + 1) * d.sz := by rw [zeroCells_length, hsz]
  have hfit : m * d.sz + (Builtin.zeroCells z.cells (q' + 1)).toList.length ≤ cur.size := by
    rw [hzl, ← Nat.add_mul, hcs]
    exact Nat.mul_le_mul_right _ hm
  have hst := run_storeCells_cells (P := P) g (m * d.sz) (Builtin.zeroCells z.cells (q' + 1)).toList 0 W
    (fun j hj => by rw [cell_of_row W g _ cur e (0, 0) hh]; simp; omega) (fun j _ => blk_frozen hh _) (zeroCells_one _ _ h1)
  simp only [Nat.add_zero] at hst
  obtain ⟨cur', h3, h4, h5⟩ := setCells_row (Builtin.zeroCells z.cells (q' + 1)).toList (m * d.sz) W cur hh hfit
  obtain ⟨s1, s2, s3, s4⟩ := setCells_same g (Builtin.zeroCells z.cells (q' + 1)).toList (m * d.sz) W
  have hfar : ∀ k', k' ≠ g → (W.setCells g (m * d.sz) (Builtin.zeroCells z.cells (q' + 1)).toList).heap[k']? = W.heap[k']? := fun k' hk' => setCells_far _ _ k' hk'
  refine ⟨W.setCells g (m * d.sz) (Builtin.zeroCells z.cells (q' + 1)).toList, ?_, ⟨hok, inner, ?_, ?_⟩, ⟨s1, s2, s3, by rw [s4]; exact Nat.le_refl _, fun k' _ hk' => hfar k' (fun he => hk' (by rw [he]))⟩⟩
  · simp [Builtin.clear_, run_underlying ht, hv, hst]
  · refine ⟨hown.1, .inr ⟨g, c, cur', by rw [← hn], hb, h3, hl1, hcm, by rw [h4, hcs], ?_⟩⟩
    rw [← ht1, h5, List.append_assoc, ← hn]
    have : (cur.toList.take (m * d.sz)).length = m * d.sz := by rw [List.length_take]; simp; omega
    rw [List.take_append_of_le_length (by omega), List.take_take, Nat.min_self]
  · exact hr.imp_ (fun _ _ hp => d.M_move (fun k' hk' => hfar k' (fun he => hk'.2 (by simp [Value.ownBlock, he]))) hp)
variable {ops : Array Oper} {rest : List Oper} {o : Oper} {a : Act} {Q : Exit → Act → World → Prop} {α : Type}
theorem R_wipe (d : Kd α) {w0 W : World} (base : Nat) (hgd : o.guard = none) (s : Operand) (t e : TypeId) (z : Value) (ho : o.op = .call { callee := .builtin .clear, args := #[s], argTypes := #[t] })
    (ht : P.underlying t = some (.slice e)) {bytes : Nat} (hinfo : (P.info? e).map (fun i => (i.zero, i.size, i.bytes)) = some (some z, d.sz, bytes)) (hsz : z.cells.size = d.sz) (h1 : ∀ u ∈ z.cells.toList, u.oneCell' = true) {g c c2 m q : Nat} {A : Option Addr} {xs : List α} {ok : Nat → Prop}
    (hs : a.eval s = .slice A q c2) (hA : A = some ⟨g, m * d.sz, none⟩)
    (HO : d.R e W base ok (.slice (some ⟨g, 0, none⟩) m c) xs) (hq : 0 < q) (hm : m + q ≤ c) (HB : Below base w0 W) (hbase : base ≤ W.heap.size)
    (h : ∀ w1, d.R e w1 base ok (.slice (some ⟨g, 0, none⟩) m c) xs → Below base w0 w1 → W.grownBy w1 (some g) → wpList P ops Q rest (a.put o.dst (.tuple #[])) w1) : wpList P ops Q (o :: rest) a W := by
  subst hA
  obtain ⟨w1, hr, h2, h3⟩ := R_wipe_run (P := P) (c2 := c2) d base t o.type e z ht hinfo hsz h1 HO hq hm
  refine wpList_plain hgd fun K hK => ?_
  unfold Oper.wp execOp
  simp only [ho, resolve, invoke, builtin, Sem.run_bind, Sem.run_pure, Result.andThen_ok, List.map_toArray, List.map_cons, List.map_nil, hs, hr]
  exact hK _ _ (h w1 h2 (HB.grown h3 hbase (fun k hk => by injection hk with hk; subst hk; exact Kd.R_base HO _ (by simp [Value.ownBlock]))) h3)
end
end Go.Proofs.YtchphfohembpcaaB
