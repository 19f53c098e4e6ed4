/- Made by a program of the prover (over the print of the kit): a Lean function with the answers of a Go function, and the proof that the call comes to them; conditions: those in the statements alone. -/
import Derived.Test.YtmeffcjjfiebdaaDoorProg
import Derived.Test.YtmeffcjjfiebdaaDoorWMine
import Derived.Lib.TrimU
import Derived.Lib.OthersKept
import Derived.Shelf.Strings.SplitCore
import Derived.Lib.SplitLaws
import Derived.Lib.IndexBytes
import Derived.Below
import Derived.Deep.Draws
import Derived.Deep.AppendLies
import Derived.Maps.AppendAt
import Derived.OwnWalk
import Derived.Laws.BytesArg
import Derived.Laws.MakeOwn
import Derived.Laws.OwnMore
import Derived.Deep.OwnRows
import Derived.Tactics
import Derived.Lib.ConvBytes
import Derived.Laws.Slices
import Derived.WalkKit
import Derived.KernelRfl
import Derived.RowKit3
import Derived.Deep.LoopGhost
import Derived.Deep.QuietTactic
import Derived.BigQuiet
import Derived.WideLaws
import Derived.Deep.DeepCutAuto
import Derived.Deep.CutBlock
import Derived.Deep.RegionHeld3
import Derived.Laws.Rows
import Derived.Lib.AppendStr
import Derived.ArgAppend
import Derived.Laws.IdiomCopy
import Derived.OrdersHeld
import Derived.Laws.BitsLemmas
import Derived.RowKit
import Derived.Test.YtmeffcjjfiebdaaDoorShelf
import Derived.Test.YtmeffcjjfiebdaaDoorWWords
import Derived.Test.YtmeffcjjfiebdaaDoorWLast
import Derived.Test.YtmeffcjjfiebdaaDoorWTab
import Derived.Test.YtmeffcjjfiebdaaDoorWFour
import Derived.Test.YtmeffcjjfiebdaaDoorWQPut
import Derived.Test.YtmeffcjjfiebdaaDoorWApart
import Derived.Test.YtmeffcjjfiebdaaDoorWArr
import Derived.Test.YtmeffcjjfiebdaaDoorWZeros
import Derived.Test.YtmeffcjjfiebdaaDoorWFoot
import Derived.Test.YtmeffcjjfiebdaaDoorWKept
import Derived.Test.YtmeffcjjfiebdaaDoorWShare
import Derived.Test.YtmeffcjjfiebdaaDoorWN
import Derived.Test.YtmeffcjjfiebdaaDoorWFootNe
import Derived.Test.YtmeffcjjfiebdaaDoorWAt
import Derived.Test.YtmeffcjjfiebdaaDoorWEqStruct
import Derived.Test.YtmeffcjjfiebdaaDoorWRepsOne
import Derived.Test.YtmeffcjjfiebdaaDoorWInv
import Derived.Test.YtmeffcjjfiebdaaDoorWInvWords
import Derived.Test.YtmeffcjjfiebdaaDoorWGuard
import Derived.Test.YtmeffcjjfiebdaaDoorWNEv
import Derived.Test.YtmeffcjjfiebdaaDoorWMore
namespace Go.Proofs.YtmeffcjjfiebdaaDoor.All
open Go.RowKit Go.Proofs.YtmeffcjjfiebdaaDoorW.PrintWords Go.Proofs.YtmeffcjjfiebdaaDoorW.PrintLast Go.Proofs.YtmeffcjjfiebdaaDoorW.PrintMore
open Go.Proofs.YtmeffcjjfiebdaaDoorW.Mine
attribute [local go_sem] gtr_string leq_string geq_string
attribute [local go_sem] max2_int min2_int max_two min_two max_three min_three max_four min_four   -- for this text's walks alone
set_option linter.unusedVariables false
set_option linter.unusedSimpArgs false



def errW : Option Int → Value
  | none => .nilIface
  | some c => .iface 0 (.int .i64 c)
theorem errW_none : errW none = .nilIface := rfl
theorem errW_some (c : Int) : errW (some c) = .iface 0 (.int .i64 c) := rfl

-- the values' own types

end Go.Proofs.YtmeffcjjfiebdaaDoor.All
