/- Functions of the program and of the reference as Lean functions, each with a contract over the translated program. Conditions: the hypotheses of each theorem. Written by a program of this session, which drives the print of the kit and adds texts of its own. -/
import Derived.Test.YtbamooigfbbkaaaProg
import Derived.Below
import Derived.Deep.Draws
import Derived.Deep.AppendLies
import Derived.Maps.AppendAt
import Derived.OwnWalk
import Derived.Laws.BytesArg
import Derived.Laws.MakeOwn
import Derived.Laws.OwnMore
import Derived.Deep.OwnRows
import Derived.Tactics
import Derived.Lib.ConvBytes
import Derived.Laws.Slices
import Derived.WalkKit
import Derived.KernelRfl
import Derived.RowKit3
import Derived.Deep.LoopGhost
import Derived.Deep.QuietTactic
import Derived.BigQuiet
import Derived.WideLaws
import Derived.Deep.DeepCutAuto
import Derived.Deep.CutBlock
import Derived.Deep.RegionHeld3
import Derived.Laws.Rows
import Derived.Lib.AppendStr
import Derived.ArgAppend
import Derived.Laws.IdiomCopy
import Derived.OrdersHeld
import Derived.Laws.BitsLemmas
import Derived.RowKit
import Derived.Test.YtbamooigfbbkaaaBase
import Derived.Test.YtbamooigfbbkaaaMapB
import Derived.Test.YtbamooigfbbkaaaWWords
import Derived.Test.YtbamooigfbbkaaaWLast
import Derived.Test.YtbamooigfbbkaaaWTab
import Derived.Test.YtbamooigfbbkaaaWFour
import Derived.Test.YtbamooigfbbkaaaWQPut
import Derived.Test.YtbamooigfbbkaaaWApart
import Derived.Test.YtbamooigfbbkaaaWArr
import Derived.Test.YtbamooigfbbkaaaWZeros
import Derived.Test.YtbamooigfbbkaaaWFoot
import Derived.Test.YtbamooigfbbkaaaWKept
import Derived.Test.YtbamooigfbbkaaaWShare
import Derived.Test.YtbamooigfbbkaaaWN
import Derived.Test.YtbamooigfbbkaaaWFootNe
import Derived.Test.YtbamooigfbbkaaaWAt
import Derived.Test.YtbamooigfbbkaaaWEqStruct
import Derived.Test.YtbamooigfbbkaaaWRepsOne
import Derived.Test.YtbamooigfbbkaaaWInv
import Derived.Test.YtbamooigfbbkaaaWInvWords
import Derived.Test.YtbamooigfbbkaaaWGuard
import Derived.Test.YtbamooigfbbkaaaWNEv
import Derived.Test.YtbamooigfbbkaaaWMore
namespace Go.Proofs.Ytbamooigfbbkaaa.PV
open Go.RowKit Go.Proofs.YtbamooigfbbkaaaW.PrintWords Go.Proofs.YtbamooigfbbkaaaW.PrintLast Go.Proofs.YtbamooigfbbkaaaW.PrintMore Go.Proofs.YtbamooigfbbkaaaB
attribute [local go_sem] max2_int min2_int max_two min_two max_three min_three max_four min_four   -- for this text's walks alone
set_option linter.unusedVariables false
set_option linter.unusedSimpArgs false



def errW : Option Int → Value
  | none => .nilIface
  | some c => .iface 0 (.int .i64 c)
theorem errW_none : errW none = .nilIface := rfl
theorem errW_some (c : Int) : errW (some c) = .iface 0 (.int .i64 c) := rfl

theorem info3 : (Try.prog.info? 3).map (fun i => (i.zero, i.size, i.bytes)) = some (some (.int .i64 0), 1, 8) := by kernel_rfl
-- the values' own types

end Go.Proofs.Ytbamooigfbbkaaa.PV
