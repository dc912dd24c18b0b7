/- Functions of the program and of the reference as Lean functions, each with a contract over the translated program. Conditions: the hypotheses of each theorem. Written by a program of this session, which drives the print of the kit and adds texts of its own. -/
import Derived.Test.YtndecllnboiikaaProg
import Derived.Below
import Derived.Deep.Draws
import Derived.Deep.AppendLies
import Derived.Maps.AppendAt
import Derived.OwnWalk
import Derived.Laws.BytesArg
import Derived.Laws.MakeOwn
import Derived.Laws.OwnMore
import Derived.Deep.OwnRows
import Derived.Tactics
import Derived.Lib.ConvBytes
import Derived.Laws.Slices
import Derived.WalkKit
import Derived.KernelRfl
import Derived.RowKit3
import Derived.Deep.LoopGhost
import Derived.Deep.QuietTactic
import Derived.BigQuiet
import Derived.WideLaws
import Derived.Deep.DeepCutAuto
import Derived.Deep.CutBlock
import Derived.Deep.RegionHeld3
import Derived.Laws.Rows
import Derived.Lib.AppendStr
import Derived.ArgAppend
import Derived.Laws.IdiomCopy
import Derived.OrdersHeld
import Derived.Laws.BitsLemmas
import Derived.RowKit
import Derived.Test.YtndecllnboiikaaBase
import Derived.Test.YtndecllnboiikaaMapB
import Derived.Test.YtndecllnboiikaaRowB
import Derived.Test.YtndecllnboiikaaWipeB
import Derived.Test.YtndecllnboiikaaWWords
import Derived.Test.YtndecllnboiikaaWLast
import Derived.Test.YtndecllnboiikaaWTab
import Derived.Test.YtndecllnboiikaaWFour
import Derived.Test.YtndecllnboiikaaWQPut
import Derived.Test.YtndecllnboiikaaWApart
import Derived.Test.YtndecllnboiikaaWArr
import Derived.Test.YtndecllnboiikaaWZeros
import Derived.Test.YtndecllnboiikaaWFoot
import Derived.Test.YtndecllnboiikaaWKept
import Derived.Test.YtndecllnboiikaaWShare
import Derived.Test.YtndecllnboiikaaWN
import Derived.Test.YtndecllnboiikaaWFootNe
import Derived.Test.YtndecllnboiikaaWAt
import Derived.Test.YtndecllnboiikaaWEqStruct
import Derived.Test.YtndecllnboiikaaWRepsOne
import Derived.Test.YtndecllnboiikaaWInv
import Derived.Test.YtndecllnboiikaaWInvWords
import Derived.Test.YtndecllnboiikaaWGuard
import Derived.Test.YtndecllnboiikaaWNEv
import Derived.Test.YtndecllnboiikaaWMore
namespace Go.Proofs.Ytndecllnboiikaa.PA
open Go.RowKit Go.Proofs.YtndecllnboiikaaW.PrintWords Go.Proofs.YtndecllnboiikaaW.PrintLast Go.Proofs.YtndecllnboiikaaW.PrintMore Go.Proofs.YtndecllnboiikaaB
attribute [local go_sem] max2_int min2_int max_two min_two max_three min_three max_four min_four   -- for this text's walks alone
set_option linter.unusedVariables false
set_option linter.unusedSimpArgs false



def errW : Option Int → Value
 | none => .nilIface
 | some c => .iface 0 (.int .i64 c)
theorem errW_none : errW none = .nilIface := rfl
theorem errW_some (c : Int) : errW (some c) = .iface 0 (.int .i64 c) := rfl

theorem info3 : (Try.prog.info? 3).map (fun i => (i.zero, i.size, i.bytes)) = some (some (.int .i64 0), 1, 8) := by kernel_rfl
-- the values' own types

end Go.Proofs.Ytndecllnboiikaa.PA
