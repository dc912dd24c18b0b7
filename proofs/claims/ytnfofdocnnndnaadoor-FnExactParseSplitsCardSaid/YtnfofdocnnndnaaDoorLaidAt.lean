/-
  The world is mild wherever a row's listed variables read as the row says: the table of the powers, the two errors; and the row's frame, told of it.
  Conditions: the hypotheses of each theorem.
-/
import Derived.Test.YtnfofdocnnndnaaDoorMild
import Derived.Test.YtnfofdocnnndnaaDoorChecked
import Derived.LaidSub
import Derived.LaidLaws
import Derived.MakeChecks
import Derived.Handed
namespace Go.Proofs.YtnfofdocnnndnaaDoorB
open Go.RowKit
/-- The variable is a table of unsigned numbers. -/
def tabB (P : Program) (name : String) : Bool :=
  match P.globalNamed name with
  | none => false
  | some g => match P.globals[g]? with
    | none => false
    | some x => match P.underlying x.type with
      | some (.array n e) => (match P.underlying e with | some (.int .u64) => true | _ => false) && P.cellsOf e == 1 && P.cellsOf x.type == n
      | _ => false
/-- The variable holds an interface value. -/
def faceB (P : Program) (name : String) : Bool :=
  match P.globalNamed name with
  | none => false
  | some g => match P.globals[g]? with
    | none => false
    | some x => match P.underlying x.type with
      | some (.interface _) => true
      | _ => false
theorem tab_laid {P : Program} {W : World} {name : String} {zs : List Int} {rest : List (String × DataW Unit)} (hB : tabB P name = true) (h : laidMet P ((name, Lib.tabData .u64 zs) :: rest) W) : Lib.TabIs P W name .u64 zs := by
  unfold tabB at hB
  split at hB
  · cases hB
  · rename_i g hg
    split at hB
    · cases hB
    · rename_i x hx
      split at hB
      · rename_i n e hu
        simp only [Bool.and_eq_true, beq_iff_eq] at hB
        obtain ⟨⟨h1, h2⟩, h3⟩ := hB
        split at h1
        · rename_i he
          exact Lib.tabIs_of_head hg (by rw [hx]; rfl) hu he h2 h3 h
        · cases h1
      · cases hB
theorem face_laid {P : Program} {W : World} {name nm : String} {d : DataW Unit} {rest : List (String × DataW Unit)} (hB : faceB P name = true) (h : laidMet P ((name, .iface nm d) :: rest) W) : ∃ u v, W.var? P name = some #[.iface u v] := by
  obtain ⟨ps, ⟨g', t', cs, fuel, p, q, hg', ht', hvar, hd, _, _⟩, _⟩ := h
  unfold faceB at hB
  rw [hg'] at hB
  simp only at hB
  cases hx : P.globals[g']? with
  | none => rw [hx] at hB; cases hB
  | some x =>
    rw [hx] at hB ht'
    obtain rfl : x.type = t' := Option.some.inj ht'
    simp only at hB
    split at hB
    · rename_i ms hms
      obtain ⟨_, u, v, hcs, _, _⟩ := iface_of_trod hms hd
      refine ⟨u, v, ?_⟩
      rw [hvar]
      exact congrArg some (Array.ext' hcs)
    · cases hB
theorem mild_of_laid {W : World} {laid : List (String × DataW Unit)} (hs : W.ShapedOpen Tryd.prog) (h : laidMetH Tryd.prog laid W) (hp : (laid.all fun x => x.2.handleName?.isNone) = true)
    (x1 x2 : DataW Unit) {n1 n2 : String} {d1 d2 : DataW Unit} (e1 : x1 = .iface n1 d1) (e2 : x2 = .iface n2 d2)
    (h0 : (laid.filter fun x => x.1 == "internal/strconv.uint64pow10") = [("internal/strconv.uint64pow10", Lib.tabData .u64 Lib.pow10Tab)])
    (h1 : (laid.filter fun x => x.1 == "strconv.ErrSyntax") = [("strconv.ErrSyntax", x1)]) (h2 : (laid.filter fun x => x.1 == "strconv.ErrRange") = [("strconv.ErrRange", x2)]) : Mild W := by
  rw [MakeChecks.laidMetH_plain _ _ _ hp] at h
  subst e1
  subst e2
  have g0 := laidMet.filter (fun x => x.1 == "internal/strconv.uint64pow10") h
  have g1 := laidMet.filter (fun x => x.1 == "strconv.ErrSyntax") h
  have g2 := laidMet.filter (fun x => x.1 == "strconv.ErrRange") h
  rw [h0] at g0
  rw [h1] at g1
  rw [h2] at g2
  exact ⟨hs, tab_laid (by kernel_rfl) g0, face_laid (by kernel_rfl) g1, face_laid (by kernel_rfl) g2⟩
section
variable {H : Type} {enc : TypeId × Value → H}
/-- A row whose start is mild: the call's contract may ask that. -/
theorem returns_mild {C : Checked} {Y : World → Prop} {os : Os} {f : FuncId} {fn : Func} {s : ChangeSpec} {conds : List PathCond} {apart fresh handsOn again : Bool} {X : World → Array Value → Prop}
    (hX : ∀ (w w' : World) (args : Array Value), w.heap = w'.heap → X w args → X w' args)
    (hM : ∀ (w : World) (args : Array Value), w.ShapedOpen C.prog → X w args → Y w)
    (own : ownKnob C.prog.godebug = none) (started : os.Started) (noInit : C.prog.inits.idxOf? f = none) (hfn : C.prog.funcs[f]? = some fn)
    (witness : ∃ (w : World) (tape : Tape) (i : Input), w.os = os ∧ (w.forCall tape i).Shaped C.prog ∧ i.vars = [] ∧ Input.okWide C.prog (w.forCall tape i) .any w.heap.size f i ∧
      ((s.pre enc C.prog fn conds apart (w.forCall tape i).memory i.args ∧ X (w.forCall tape i).memory i.args) ∧ sizedMet enc C.prog fn (OpenSpec.ofChange s) apart (w.forCall tape i).memory i.args) ∧ ({} : Assume).holds C.prog (lone (Frame.enter C.prog f i.args .normal) [] (w.forCall tape i)))
    (contract : ∀ (W : World) (base : Nat) (args : Array Value) (ds gs : List (DataW H)) (before : List MemPlace),
      (∀ (j : Nat) t v, fn.params[j]? = some t → args[j]? = some v → Value.okWide C.prog W .any base t v) →
      DataW.Whole enc C.prog fn.params.toList s.vars apart W args.toList ds gs before →
      conds.all (PathCond.test C.prog ⟨fn.params.toList, ds, s.plain.varTypes C.prog, gs⟩) = true →
      (DataW.weightsEach C.prog (fn.params.toList ++ s.plain.varTypes C.prog) (ds ++ gs)).all (· ≤ reachBytes) = true → Y W →
      Calls C.prog f args W fun e W' => ∃ v, e = .returned v ∧ s.post enc C.prog fn apart fresh handsOn again W args v W') :
    ReturnsInHanded {} C os f .any (fun w args => (s.pre enc C.prog fn conds apart w args ∧ X w args) ∧ sizedMet enc C.prog fn (OpenSpec.ofChange s) apart w args) (s.post enc C.prog fn apart fresh handsOn again) := by
  refine returnsInHanded_of_calls own started noInit witness ?_
  intro w tape i _ hshape _ hok hpre _
  obtain ⟨_, _, _, fn', hfn', _, _, _, _, hval⟩ := hok
  obtain rfl : fn' = fn := Option.some.inj (hfn'.symm.trans hfn)
  obtain ⟨⟨⟨ds, gs, before, hw, hc⟩, hx⟩, hz⟩ := hpre
  have hw' := DataW.Whole.of_heap (w' := w.forCall tape i) (by rfl) hw
  refine (contract (w.forCall tape i) w.heap.size i.args ds gs before hval hw' hc (hz.weights hw) (hM _ _ hshape (hX _ _ _ (by rfl) hx))).mono fun e W' ⟨v, he, hp⟩ => ?_
  subst he
  exact ChangeSpec.post_blind hp
end
end Go.Proofs.YtnfofdocnnndnaaDoorB
