/-
  Short names for steps that the walks take again and again: a fact goes over what was drawn, laid or set meanwhile.
  Conditions: the hypotheses of each theorem.
-/
import Derived.Test.YtchphfohembpcaaWMore
import Derived.Below
import Derived.OwnWalk
namespace Go.Proofs.YtchphfohembpcaaB
open Go.RowKit Go.Proofs.YtchphfohembpcaaW.PrintWords Go.Proofs.YtchphfohembpcaaW.PrintLast Go.Proofs.YtchphfohembpcaaW.PrintMore
theorem am {P : Prop} (h : P) : Aside0 P := ⟨h⟩
theorem bk {P Q : Prop} (h : P) (t : P → Q := by intro h_; (with_reducible repeat (first | refine blk_drewN ?_ _ | refine blk_drew ?_ | refine blk_alloc ?_ _)); exact h_) : Q := t h
theorem br {P Q : Prop} (h : P) (t : P → Q := by intro h_; (with_reducible repeat (first | apply Kd.R_alloc | apply Kd.R_drewN | apply Kd.R_drew)); exact h_) : Q := t h
theorem bb {P Q : Prop} (h : P) (t : P → Q := by intro h_; repeat (first | (with_reducible first | exact h_ | apply below_alloc | apply pw_below_drewN | apply below_drew1) | (refine below_set ?_ (Aside0.out (by assumption))) | exact h_)) : Q := t h
end Go.Proofs.YtchphfohembpcaaB
