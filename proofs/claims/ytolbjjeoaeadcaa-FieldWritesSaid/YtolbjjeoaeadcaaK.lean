/- Made by a program of the prover (over the print of the kit): a Lean function with the answers of a Go function, and the proof that the call comes to them; conditions: those in the statements alone. -/
import Derived.Test.YtolbjjeoaeadcaaProg
import Derived.Test.YtolbjjeoaeadcaaWMine
import Derived.Lib.TrimU
import Derived.Lib.OthersKept
import Derived.Shelf.Strings.SplitCore
import Derived.Lib.SplitLaws
import Derived.Lib.IndexBytes
import Derived.Below
import Derived.Deep.Draws
import Derived.Deep.AppendLies
import Derived.Maps.AppendAt
import Derived.OwnWalk
import Derived.Laws.BytesArg
import Derived.Laws.MakeOwn
import Derived.Laws.OwnMore
import Derived.Deep.OwnRows
import Derived.Tactics
import Derived.Lib.ConvBytes
import Derived.Laws.Slices
import Derived.WalkKit
import Derived.KernelRfl
import Derived.RowKit3
import Derived.Deep.LoopGhost
import Derived.Deep.QuietTactic
import Derived.BigQuiet
import Derived.WideLaws
import Derived.Deep.DeepCutAuto
import Derived.Deep.CutBlock
import Derived.Deep.RegionHeld3
import Derived.Laws.Rows
import Derived.Lib.AppendStr
import Derived.ArgAppend
import Derived.Laws.IdiomCopy
import Derived.OrdersHeld
import Derived.Laws.BitsLemmas
import Derived.RowKit
import Derived.Test.YtolbjjeoaeadcaaShelf
import Derived.Test.YtolbjjeoaeadcaaWWords
import Derived.Test.YtolbjjeoaeadcaaWLast
import Derived.Test.YtolbjjeoaeadcaaWTab
import Derived.Test.YtolbjjeoaeadcaaWFour
import Derived.Test.YtolbjjeoaeadcaaWQPut
import Derived.Test.YtolbjjeoaeadcaaWApart
import Derived.Test.YtolbjjeoaeadcaaWArr
import Derived.Test.YtolbjjeoaeadcaaWZeros
import Derived.Test.YtolbjjeoaeadcaaWFoot
import Derived.Test.YtolbjjeoaeadcaaWKept
import Derived.Test.YtolbjjeoaeadcaaWShare
import Derived.Test.YtolbjjeoaeadcaaWN
import Derived.Test.YtolbjjeoaeadcaaWFootNe
import Derived.Test.YtolbjjeoaeadcaaWAt
import Derived.Test.YtolbjjeoaeadcaaWEqStruct
import Derived.Test.YtolbjjeoaeadcaaWRepsOne
import Derived.Test.YtolbjjeoaeadcaaWInv
import Derived.Test.YtolbjjeoaeadcaaWInvWords
import Derived.Test.YtolbjjeoaeadcaaWGuard
import Derived.Test.YtolbjjeoaeadcaaWNEv
import Derived.Test.YtolbjjeoaeadcaaWMore
namespace Go.Proofs.Ytolbjjeoaeadcaa.All
open Go.RowKit Go.Proofs.YtolbjjeoaeadcaaW.PrintWords Go.Proofs.YtolbjjeoaeadcaaW.PrintLast Go.Proofs.YtolbjjeoaeadcaaW.PrintMore
open Go.Proofs.YtolbjjeoaeadcaaW.Mine
attribute [local go_sem] gtr_string leq_string geq_string
attribute [local go_sem] max2_int min2_int max_two min_two max_three min_three max_four min_four   -- for this text's walks alone
set_option linter.unusedVariables false
set_option linter.unusedSimpArgs false



def errW : Option Int → Value
  | none => .nilIface
  | some c => .iface 0 (.int .i64 c)
theorem errW_none : errW none = .nilIface := rfl
theorem errW_some (c : Int) : errW (some c) = .iface 0 (.int .i64 c) := rfl

theorem info5 : (Try.prog.info? 5).map (fun i => (i.zero, i.size, i.bytes)) = some (some (.int .u8 0), 1, 1) := by kernel_rfl
-- the values' own types

end Go.Proofs.Ytolbjjeoaeadcaa.All
