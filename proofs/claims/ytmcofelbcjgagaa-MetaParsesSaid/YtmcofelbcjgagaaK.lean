/- Made by a program of the prover (over the print of the kit): a Lean function with the answers of a Go function, and the proof that the call comes to them; conditions: those in the statements alone. -/
import Derived.Test.YtmcofelbcjgagaaProg
import Derived.Test.YtmcofelbcjgagaaWMine
import Derived.Lib.TrimU
import Derived.Lib.OthersKept
import Derived.Shelf.Strings.SplitCore
import Derived.Lib.SplitLaws
import Derived.Lib.IndexBytes
import Derived.Shelf.Strings.SlTrimAscii
import Derived.Lib.SmallJoins
import Derived.Lib.SlBytesConst
import Derived.Laws.IdiomStrings
import Derived.Below
import Derived.Deep.Draws
import Derived.Deep.AppendLies
import Derived.Maps.AppendAt
import Derived.OwnWalk
import Derived.Laws.BytesArg
import Derived.Laws.MakeOwn
import Derived.Laws.OwnMore
import Derived.Deep.OwnRows
import Derived.Tactics
import Derived.Lib.ConvBytes
import Derived.Laws.Slices
import Derived.WalkKit
import Derived.KernelRfl
import Derived.RowKit3
import Derived.Deep.LoopGhost
import Derived.Deep.QuietTactic
import Derived.BigQuiet
import Derived.WideLaws
import Derived.Deep.DeepCutAuto
import Derived.Deep.CutBlock
import Derived.Deep.RegionHeld3
import Derived.Laws.Rows
import Derived.Lib.AppendStr
import Derived.ArgAppend
import Derived.Laws.IdiomCopy
import Derived.OrdersHeld
import Derived.Laws.BitsLemmas
import Derived.RowKit
import Derived.Test.YtmcofelbcjgagaaShelf
import Derived.Test.YtmcofelbcjgagaaWWords
import Derived.Test.YtmcofelbcjgagaaWLast
import Derived.Test.YtmcofelbcjgagaaWTab
import Derived.Test.YtmcofelbcjgagaaWFour
import Derived.Test.YtmcofelbcjgagaaWQPut
import Derived.Test.YtmcofelbcjgagaaWApart
import Derived.Test.YtmcofelbcjgagaaWArr
import Derived.Test.YtmcofelbcjgagaaWZeros
import Derived.Test.YtmcofelbcjgagaaWFoot
import Derived.Test.YtmcofelbcjgagaaWKept
import Derived.Test.YtmcofelbcjgagaaWShare
import Derived.Test.YtmcofelbcjgagaaWN
import Derived.Test.YtmcofelbcjgagaaWFootNe
import Derived.Test.YtmcofelbcjgagaaWAt
import Derived.Test.YtmcofelbcjgagaaWEqStruct
import Derived.Test.YtmcofelbcjgagaaWRepsOne
import Derived.Test.YtmcofelbcjgagaaWInv
import Derived.Test.YtmcofelbcjgagaaWInvWords
import Derived.Test.YtmcofelbcjgagaaWGuard
import Derived.Test.YtmcofelbcjgagaaWNEv
import Derived.Test.YtmcofelbcjgagaaWMore
namespace Go.Proofs.Ytmcofelbcjgagaa.All
open Go.RowKit Go.Proofs.YtmcofelbcjgagaaW.PrintWords Go.Proofs.YtmcofelbcjgagaaW.PrintLast Go.Proofs.YtmcofelbcjgagaaW.PrintMore
open Go.Proofs.YtmcofelbcjgagaaW.Mine
attribute [local go_sem] gtr_string leq_string geq_string
attribute [local go_sem] max2_int min2_int max_two min_two max_three min_three max_four min_four   -- for this text's walks alone
set_option linter.unusedVariables false
set_option linter.unusedSimpArgs false



def errW : Option Int → Value
  | none => .nilIface
  | some c => .iface 0 (.int .i64 c)
theorem errW_none : errW none = .nilIface := rfl
theorem errW_some (c : Int) : errW (some c) = .iface 0 (.int .i64 c) := rfl

theorem info5 : (Try.prog.info? 5).map (fun i => (i.zero, i.size, i.bytes)) = some (some (.int .u8 0), 1, 1) := by kernel_rfl
-- the values' own types

end Go.Proofs.Ytmcofelbcjgagaa.All
