/-
  No cell of these rows narrows 'for every input' (looked for: loops, veiled, ifaces, maps, wideKeys, modest, calm, conditions, laid).
  DERIVED. THE GIVEN ROWS OF THIS SEAT. 13 by the template 'for every input the law returns true; each argument reads behind the call as it read before'; 0 by the template 'total and deterministic' (their statements: YtpokjdkckdajeaaTotals.lean).
  GIVEN WITH THE SEED: the statements are not yours to turn. If you find one false, say at which input.
  Laid BY PROGRAM, IN A SANDBOX (cutbox-rows.mjs): the forced cells as the released guide's own fill.sh prints them over the translation b651b52a48dc7281… (all of the seat's roots in one cut). By AI agents, Wed Nov 11 2026. No macro, syntax, notation, axiom, sorry.
-/
import Derived.Test.YtpokjdkckdajeaaChecked
import GoSem.Claim
import GoSem.ClaimJoined
import GoSem.ClaimMapViews
import Derived.JoinedTies
import Derived.KernelRfl
namespace Go.Proofs.Ytpokjdkckdajeaa
/- THE CELL 'sum', in the pinned program and in every row, IS THE sha256 OF THE DUMP (.gsa) THAT YtpokjdkckdajeaaProg.lean LOADS. Nothing in Lean hashes anything: it is a label: what it is worth is what the hold of that sum in a sandbox is worth. -/
noncomputable def Try.pinned : Pinned := { name := "ytpokjdkckdajeaa", sum := "b651b52a48dc7281f3ee334efd9ca12abb162affc03c051d88f6b1bb0d67bccb", checked := Try.checked }
namespace Rows
def none {H : Type} : Left H := { results := [], args := [] }

/-- 'creellaw.Names': WHATEVER THE INPUT: true; the input reads as it did. -/
def namesSpec : ChangeSpec := { name := "names", fn := fun _ => fun
  | [] => { results := [.lit (.bool true)], args := [] }
  | _ => none }
def namesRow : OpenClaim := { program := "ytpokjdkckdajeaa", sum := "b651b52a48dc7281f3ee334efd9ca12abb162affc03c051d88f6b1bb0d67bccb", func := "creel/creellaw.Names", spec := "names", apart := false }
def NamesSaid : Prop := namesRow.holds Try.pinned (OpenSpec.ofChange namesSpec)

/-- ITS FALSE NEIGHBOUR: 'it returns false'. Refute it at one input. -/
def namesWrong : ChangeSpec := { name := "names", fn := fun _ => fun
  | [] => { results := [.lit (.bool false)], args := [] }
  | _ => none }
def NamesWrongFalsely : Prop := namesRow.holds Try.pinned (OpenSpec.ofChange namesWrong)

/-- 'creellaw.WriteSums': WHATEVER THE INPUT: true; the input reads as it did. -/
def writeSumsSpec : ChangeSpec := { name := "writeSums", fn := fun _ => fun
  | [d] => { results := [.lit (.bool true)], args := [d] }
  | _ => none }
def writeSumsRow : OpenClaim := { program := "ytpokjdkckdajeaa", sum := "b651b52a48dc7281f3ee334efd9ca12abb162affc03c051d88f6b1bb0d67bccb", func := "creel/creellaw.WriteSums", spec := "writeSums", apart := false }
def WriteSumsSaid : Prop := writeSumsRow.holds Try.pinned (OpenSpec.ofChange writeSumsSpec)

/-- ITS FALSE NEIGHBOUR: 'it returns false'. Refute it at one input. -/
def writeSumsWrong : ChangeSpec := { name := "writeSums", fn := fun _ => fun
  | [d] => { results := [.lit (.bool false)], args := [d] }
  | _ => none }
def WriteSumsWrongFalsely : Prop := writeSumsRow.holds Try.pinned (OpenSpec.ofChange writeSumsWrong)

/-- 'creellaw.PaxFinds': WHATEVER THE INPUT: true; the input reads as it did. -/
def paxFindsSpec : ChangeSpec := { name := "paxFinds", fn := fun _ => fun
  | [d1, d2] => { results := [.lit (.bool true)], args := [d1, d2] }
  | _ => none }
def paxFindsRow : OpenClaim := { program := "ytpokjdkckdajeaa", sum := "b651b52a48dc7281f3ee334efd9ca12abb162affc03c051d88f6b1bb0d67bccb", func := "creel/creellaw.PaxFinds", spec := "paxFinds", apart := false }
def PaxFindsSaid : Prop := paxFindsRow.holds Try.pinned (OpenSpec.ofChange paxFindsSpec)

/-- ITS FALSE NEIGHBOUR: 'it returns false'. Refute it at one input. -/
def paxFindsWrong : ChangeSpec := { name := "paxFinds", fn := fun _ => fun
  | [d1, d2] => { results := [.lit (.bool false)], args := [d1, d2] }
  | _ => none }
def PaxFindsWrongFalsely : Prop := paxFindsRow.holds Try.pinned (OpenSpec.ofChange paxFindsWrong)

/-- 'creellaw.PadFills': WHATEVER THE INPUT: true; the input reads as it did. -/
def padFillsSpec : ChangeSpec := { name := "padFills", fn := fun _ => fun
  | [d1, d2] => { results := [.lit (.bool true)], args := [d1, d2] }
  | _ => none }
def padFillsRow : OpenClaim := { program := "ytpokjdkckdajeaa", sum := "b651b52a48dc7281f3ee334efd9ca12abb162affc03c051d88f6b1bb0d67bccb", func := "creel/creellaw.PadFills", spec := "padFills", apart := false }
def PadFillsSaid : Prop := padFillsRow.holds Try.pinned (OpenSpec.ofChange padFillsSpec)

/-- ITS FALSE NEIGHBOUR: 'it returns false'. Refute it at one input. -/
def padFillsWrong : ChangeSpec := { name := "padFills", fn := fun _ => fun
  | [d1, d2] => { results := [.lit (.bool false)], args := [d1, d2] }
  | _ => none }
def PadFillsWrongFalsely : Prop := padFillsRow.holds Try.pinned (OpenSpec.ofChange padFillsWrong)

/-- 'creellaw.HeadSums': WHATEVER THE INPUT: true; the input reads as it did. -/
def headSumsSpec : ChangeSpec := { name := "headSums", fn := fun _ => fun
  | [d] => { results := [.lit (.bool true)], args := [d] }
  | _ => none }
def headSumsRow : OpenClaim := { program := "ytpokjdkckdajeaa", sum := "b651b52a48dc7281f3ee334efd9ca12abb162affc03c051d88f6b1bb0d67bccb", func := "creel/creellaw.HeadSums", spec := "headSums", apart := false }
def HeadSumsSaid : Prop := headSumsRow.holds Try.pinned (OpenSpec.ofChange headSumsSpec)

/-- ITS FALSE NEIGHBOUR: 'it returns false'. Refute it at one input. -/
def headSumsWrong : ChangeSpec := { name := "headSums", fn := fun _ => fun
  | [d] => { results := [.lit (.bool false)], args := [d] }
  | _ => none }
def HeadSumsWrongFalsely : Prop := headSumsRow.holds Try.pinned (OpenSpec.ofChange headSumsWrong)

/-- 'creellaw.CutTells': WHATEVER THE INPUT: true; the input reads as it did. -/
def cutTellsSpec : ChangeSpec := { name := "cutTells", fn := fun _ => fun
  | [d] => { results := [.lit (.bool true)], args := [d] }
  | _ => none }
def cutTellsRow : OpenClaim := { program := "ytpokjdkckdajeaa", sum := "b651b52a48dc7281f3ee334efd9ca12abb162affc03c051d88f6b1bb0d67bccb", func := "creel/creellaw.CutTells", spec := "cutTells", inPlace := ["internal/bytealg.IndexByteString"], apart := false }
def CutTellsSaid : Prop := cutTellsRow.holds Try.pinned (OpenSpec.ofChange cutTellsSpec)

/-- ITS FALSE NEIGHBOUR: 'it returns false'. Refute it at one input. -/
def cutTellsWrong : ChangeSpec := { name := "cutTells", fn := fun _ => fun
  | [d] => { results := [.lit (.bool false)], args := [d] }
  | _ => none }
def CutTellsWrongFalsely : Prop := cutTellsRow.holds Try.pinned (OpenSpec.ofChange cutTellsWrong)

/-- 'creellaw.OctalWrites': WHATEVER THE INPUT: true; the input reads as it did. -/
def octalWritesSpec : ChangeSpec := { name := "octalWrites", fn := fun _ => fun
  | [d1, d2] => { results := [.lit (.bool true)], args := [d1, d2] }
  | _ => none }
def octalWritesRow : OpenClaim := { program := "ytpokjdkckdajeaa", sum := "b651b52a48dc7281f3ee334efd9ca12abb162affc03c051d88f6b1bb0d67bccb", func := "creel/creellaw.OctalWrites", spec := "octalWrites", apart := false }
def OctalWritesSaid : Prop := octalWritesRow.holds Try.pinned (OpenSpec.ofChange octalWritesSpec)

/-- ITS FALSE NEIGHBOUR: 'it returns false'. Refute it at one input. -/
def octalWritesWrong : ChangeSpec := { name := "octalWrites", fn := fun _ => fun
  | [d1, d2] => { results := [.lit (.bool false)], args := [d1, d2] }
  | _ => none }
def OctalWritesWrongFalsely : Prop := octalWritesRow.holds Try.pinned (OpenSpec.ofChange octalWritesWrong)

/-- 'creellaw.OctalReads': WHATEVER THE INPUT: true; the input reads as it did. -/
def octalReadsSpec : ChangeSpec := { name := "octalReads", fn := fun _ => fun
  | [d] => { results := [.lit (.bool true)], args := [d] }
  | _ => none }
def octalReadsRow : OpenClaim := { program := "ytpokjdkckdajeaa", sum := "b651b52a48dc7281f3ee334efd9ca12abb162affc03c051d88f6b1bb0d67bccb", func := "creel/creellaw.OctalReads", spec := "octalReads", apart := false }
def OctalReadsSaid : Prop := octalReadsRow.holds Try.pinned (OpenSpec.ofChange octalReadsSpec)

/-- ITS FALSE NEIGHBOUR: 'it returns false'. Refute it at one input. -/
def octalReadsWrong : ChangeSpec := { name := "octalReads", fn := fun _ => fun
  | [d] => { results := [.lit (.bool false)], args := [d] }
  | _ => none }
def OctalReadsWrongFalsely : Prop := octalReadsRow.holds Try.pinned (OpenSpec.ofChange octalReadsWrong)

/-- 'creellaw.MetaTells': WHATEVER THE INPUT: true; the input reads as it did. -/
def metaTellsSpec : ChangeSpec := { name := "metaTells", fn := fun _ => fun
  | [d] => { results := [.lit (.bool true)], args := [d] }
  | _ => none }
def metaTellsRow : OpenClaim := { program := "ytpokjdkckdajeaa", sum := "b651b52a48dc7281f3ee334efd9ca12abb162affc03c051d88f6b1bb0d67bccb", func := "creel/creellaw.MetaTells", spec := "metaTells", apart := false }
def MetaTellsSaid : Prop := metaTellsRow.holds Try.pinned (OpenSpec.ofChange metaTellsSpec)

/-- ITS FALSE NEIGHBOUR: 'it returns false'. Refute it at one input. -/
def metaTellsWrong : ChangeSpec := { name := "metaTells", fn := fun _ => fun
  | [d] => { results := [.lit (.bool false)], args := [d] }
  | _ => none }
def MetaTellsWrongFalsely : Prop := metaTellsRow.holds Try.pinned (OpenSpec.ofChange metaTellsWrong)

/-- 'creellaw.MetaChecks': WHATEVER THE INPUT: true; the input reads as it did. -/
def metaChecksSpec : ChangeSpec := { name := "metaChecks", fn := fun _ => fun
  | [d] => { results := [.lit (.bool true)], args := [d] }
  | _ => none }
def metaChecksRow : OpenClaim := { program := "ytpokjdkckdajeaa", sum := "b651b52a48dc7281f3ee334efd9ca12abb162affc03c051d88f6b1bb0d67bccb", func := "creel/creellaw.MetaChecks", spec := "metaChecks", inPlace := ["internal/bytealg.IndexByteString"], apart := false }
def MetaChecksSaid : Prop := metaChecksRow.holds Try.pinned (OpenSpec.ofChange metaChecksSpec)

/-- ITS FALSE NEIGHBOUR: 'it returns false'. Refute it at one input. -/
def metaChecksWrong : ChangeSpec := { name := "metaChecks", fn := fun _ => fun
  | [d] => { results := [.lit (.bool false)], args := [d] }
  | _ => none }
def MetaChecksWrongFalsely : Prop := metaChecksRow.holds Try.pinned (OpenSpec.ofChange metaChecksWrong)

/-- 'creellaw.MetaParses': WHATEVER THE INPUT: true; the input reads as it did. -/
def metaParsesSpec : ChangeSpec := { name := "metaParses", fn := fun _ => fun
  | [d] => { results := [.lit (.bool true)], args := [d] }
  | _ => none }
def metaParsesRow : OpenClaim := { program := "ytpokjdkckdajeaa", sum := "b651b52a48dc7281f3ee334efd9ca12abb162affc03c051d88f6b1bb0d67bccb", func := "creel/creellaw.MetaParses", spec := "metaParses", apart := false }
def MetaParsesSaid : Prop := metaParsesRow.holds Try.pinned (OpenSpec.ofChange metaParsesSpec)

/-- ITS FALSE NEIGHBOUR: 'it returns false'. Refute it at one input. -/
def metaParsesWrong : ChangeSpec := { name := "metaParses", fn := fun _ => fun
  | [d] => { results := [.lit (.bool false)], args := [d] }
  | _ => none }
def MetaParsesWrongFalsely : Prop := metaParsesRow.holds Try.pinned (OpenSpec.ofChange metaParsesWrong)

/-- 'creellaw.ListDays': WHATEVER THE INPUT: true; the input reads as it did. -/
def listDaysSpec : ChangeSpec := { name := "listDays", fn := fun _ => fun
  | [d] => { results := [.lit (.bool true)], args := [d] }
  | _ => none }
def listDaysRow : OpenClaim := { program := "ytpokjdkckdajeaa", sum := "b651b52a48dc7281f3ee334efd9ca12abb162affc03c051d88f6b1bb0d67bccb", func := "creel/creellaw.ListDays", spec := "listDays", apart := false }
def ListDaysSaid : Prop := listDaysRow.holds Try.pinned (OpenSpec.ofChange listDaysSpec)

/-- ITS FALSE NEIGHBOUR: 'it returns false'. Refute it at one input. -/
def listDaysWrong : ChangeSpec := { name := "listDays", fn := fun _ => fun
  | [d] => { results := [.lit (.bool false)], args := [d] }
  | _ => none }
def ListDaysWrongFalsely : Prop := listDaysRow.holds Try.pinned (OpenSpec.ofChange listDaysWrong)

/-- 'creellaw.CutJoins': WHATEVER THE INPUT: true; the input reads as it did. -/
def cutJoinsSpec : ChangeSpec := { name := "cutJoins", fn := fun _ => fun
  | [d1, d2] => { results := [.lit (.bool true)], args := [d1, d2] }
  | _ => none }
def cutJoinsRow : OpenClaim := { program := "ytpokjdkckdajeaa", sum := "b651b52a48dc7281f3ee334efd9ca12abb162affc03c051d88f6b1bb0d67bccb", func := "creel/creellaw.CutJoins", spec := "cutJoins", inPlace := ["internal/bytealg.IndexByteString"], apart := false }
def CutJoinsSaid : Prop := cutJoinsRow.holds Try.pinned (OpenSpec.ofChange cutJoinsSpec)

/-- ITS FALSE NEIGHBOUR: 'it returns false'. Refute it at one input. -/
def cutJoinsWrong : ChangeSpec := { name := "cutJoins", fn := fun _ => fun
  | [d1, d2] => { results := [.lit (.bool false)], args := [d1, d2] }
  | _ => none }
def CutJoinsWrongFalsely : Prop := cutJoinsRow.holds Try.pinned (OpenSpec.ofChange cutJoinsWrong)

/- THE SECOND FORM. 'bulk': how many values and letters a reading holds, each counted each time it is reached (what is shared counts as often as it is met; a slice's spare places count too). A statement '..UptoSaid' is the law's where the arguments, and the package variables that the reading takes, are together of bulk at most 1048576: NARROWER than '..Said'. Prove '..Said' where nothing that the law and all that it calls make is longer than what came in: it says more and counts as full. Else prove '..UptoSaid'. A law counts once. -/
mutual
def uptoBulk {H : Type} : DataW H → Nat
  | .lit (.string bytes) => bytes.length + 1
  | .lit _ => 1
  | .nil => 1
  | .ptr d => uptoBulk d + 1
  | .slice elems spare => uptoBulkAll elems + uptoBulkAll spare + 1
  | .agg parts => uptoBulkAll parts + 1
  | .iface _ d => uptoBulk d + 1
  | .map entries => uptoBulkEntries entries + 1
  | .held _ => 1
def uptoBulkAll {H : Type} : List (DataW H) → Nat
  | [] => 0
  | d :: r => uptoBulk d + uptoBulkAll r
def uptoBulkEntries {H : Type} : List (Lit × DataW H) → Nat
  | [] => 0
  | x :: r => uptoBulkEntry x + uptoBulkEntries r
def uptoBulkEntry {H : Type} : Lit × DataW H → Nat
  | (.string bytes, d) => bytes.length + uptoBulk d + 1
  | (_, d) => uptoBulk d + 1
 end
def uptoSmall : (H : Type) → List (DataW H) → Bool := fun _ ds => decide (uptoBulkAll ds ≤ 1048576)
def OpenSpec.upto (s : _root_.Go.ChangeSpec) : _root_.Go.OpenSpec := { _root_.Go.OpenSpec.ofChange s with cond := some uptoSmall }

/-- 'creellaw.Names', WHERE WHAT IT READS IS OF BULK AT MOST 1048576: true; the input reads as it did. -/
def namesUptoRow : OpenClaim := { program := "ytpokjdkckdajeaa", sum := "b651b52a48dc7281f3ee334efd9ca12abb162affc03c051d88f6b1bb0d67bccb", func := "creel/creellaw.Names", spec := "names", apart := false, narrowed := true }
def NamesUptoSaid : Prop := namesUptoRow.holds Try.pinned (OpenSpec.upto namesSpec)

/-- 'creellaw.WriteSums', WHERE WHAT IT READS IS OF BULK AT MOST 1048576: true; the input reads as it did. -/
def writeSumsUptoRow : OpenClaim := { program := "ytpokjdkckdajeaa", sum := "b651b52a48dc7281f3ee334efd9ca12abb162affc03c051d88f6b1bb0d67bccb", func := "creel/creellaw.WriteSums", spec := "writeSums", apart := false, narrowed := true }
def WriteSumsUptoSaid : Prop := writeSumsUptoRow.holds Try.pinned (OpenSpec.upto writeSumsSpec)

/-- 'creellaw.PaxFinds', WHERE WHAT IT READS IS OF BULK AT MOST 1048576: true; the input reads as it did. -/
def paxFindsUptoRow : OpenClaim := { program := "ytpokjdkckdajeaa", sum := "b651b52a48dc7281f3ee334efd9ca12abb162affc03c051d88f6b1bb0d67bccb", func := "creel/creellaw.PaxFinds", spec := "paxFinds", apart := false, narrowed := true }
def PaxFindsUptoSaid : Prop := paxFindsUptoRow.holds Try.pinned (OpenSpec.upto paxFindsSpec)

/-- 'creellaw.PadFills', WHERE WHAT IT READS IS OF BULK AT MOST 1048576: true; the input reads as it did. -/
def padFillsUptoRow : OpenClaim := { program := "ytpokjdkckdajeaa", sum := "b651b52a48dc7281f3ee334efd9ca12abb162affc03c051d88f6b1bb0d67bccb", func := "creel/creellaw.PadFills", spec := "padFills", apart := false, narrowed := true }
def PadFillsUptoSaid : Prop := padFillsUptoRow.holds Try.pinned (OpenSpec.upto padFillsSpec)

/-- 'creellaw.HeadSums', WHERE WHAT IT READS IS OF BULK AT MOST 1048576: true; the input reads as it did. -/
def headSumsUptoRow : OpenClaim := { program := "ytpokjdkckdajeaa", sum := "b651b52a48dc7281f3ee334efd9ca12abb162affc03c051d88f6b1bb0d67bccb", func := "creel/creellaw.HeadSums", spec := "headSums", apart := false, narrowed := true }
def HeadSumsUptoSaid : Prop := headSumsUptoRow.holds Try.pinned (OpenSpec.upto headSumsSpec)

/-- 'creellaw.CutTells', WHERE WHAT IT READS IS OF BULK AT MOST 1048576: true; the input reads as it did. -/
def cutTellsUptoRow : OpenClaim := { program := "ytpokjdkckdajeaa", sum := "b651b52a48dc7281f3ee334efd9ca12abb162affc03c051d88f6b1bb0d67bccb", func := "creel/creellaw.CutTells", spec := "cutTells", inPlace := ["internal/bytealg.IndexByteString"], apart := false, narrowed := true }
def CutTellsUptoSaid : Prop := cutTellsUptoRow.holds Try.pinned (OpenSpec.upto cutTellsSpec)

/-- 'creellaw.OctalWrites', WHERE WHAT IT READS IS OF BULK AT MOST 1048576: true; the input reads as it did. -/
def octalWritesUptoRow : OpenClaim := { program := "ytpokjdkckdajeaa", sum := "b651b52a48dc7281f3ee334efd9ca12abb162affc03c051d88f6b1bb0d67bccb", func := "creel/creellaw.OctalWrites", spec := "octalWrites", apart := false, narrowed := true }
def OctalWritesUptoSaid : Prop := octalWritesUptoRow.holds Try.pinned (OpenSpec.upto octalWritesSpec)

/-- 'creellaw.OctalReads', WHERE WHAT IT READS IS OF BULK AT MOST 1048576: true; the input reads as it did. -/
def octalReadsUptoRow : OpenClaim := { program := "ytpokjdkckdajeaa", sum := "b651b52a48dc7281f3ee334efd9ca12abb162affc03c051d88f6b1bb0d67bccb", func := "creel/creellaw.OctalReads", spec := "octalReads", apart := false, narrowed := true }
def OctalReadsUptoSaid : Prop := octalReadsUptoRow.holds Try.pinned (OpenSpec.upto octalReadsSpec)

/-- 'creellaw.MetaTells', WHERE WHAT IT READS IS OF BULK AT MOST 1048576: true; the input reads as it did. -/
def metaTellsUptoRow : OpenClaim := { program := "ytpokjdkckdajeaa", sum := "b651b52a48dc7281f3ee334efd9ca12abb162affc03c051d88f6b1bb0d67bccb", func := "creel/creellaw.MetaTells", spec := "metaTells", apart := false, narrowed := true }
def MetaTellsUptoSaid : Prop := metaTellsUptoRow.holds Try.pinned (OpenSpec.upto metaTellsSpec)

/-- 'creellaw.MetaChecks', WHERE WHAT IT READS IS OF BULK AT MOST 1048576: true; the input reads as it did. -/
def metaChecksUptoRow : OpenClaim := { program := "ytpokjdkckdajeaa", sum := "b651b52a48dc7281f3ee334efd9ca12abb162affc03c051d88f6b1bb0d67bccb", func := "creel/creellaw.MetaChecks", spec := "metaChecks", inPlace := ["internal/bytealg.IndexByteString"], apart := false, narrowed := true }
def MetaChecksUptoSaid : Prop := metaChecksUptoRow.holds Try.pinned (OpenSpec.upto metaChecksSpec)

/-- 'creellaw.MetaParses', WHERE WHAT IT READS IS OF BULK AT MOST 1048576: true; the input reads as it did. -/
def metaParsesUptoRow : OpenClaim := { program := "ytpokjdkckdajeaa", sum := "b651b52a48dc7281f3ee334efd9ca12abb162affc03c051d88f6b1bb0d67bccb", func := "creel/creellaw.MetaParses", spec := "metaParses", apart := false, narrowed := true }
def MetaParsesUptoSaid : Prop := metaParsesUptoRow.holds Try.pinned (OpenSpec.upto metaParsesSpec)

/-- 'creellaw.ListDays', WHERE WHAT IT READS IS OF BULK AT MOST 1048576: true; the input reads as it did. -/
def listDaysUptoRow : OpenClaim := { program := "ytpokjdkckdajeaa", sum := "b651b52a48dc7281f3ee334efd9ca12abb162affc03c051d88f6b1bb0d67bccb", func := "creel/creellaw.ListDays", spec := "listDays", apart := false, narrowed := true }
def ListDaysUptoSaid : Prop := listDaysUptoRow.holds Try.pinned (OpenSpec.upto listDaysSpec)

/-- 'creellaw.CutJoins', WHERE WHAT IT READS IS OF BULK AT MOST 1048576: true; the input reads as it did. -/
def cutJoinsUptoRow : OpenClaim := { program := "ytpokjdkckdajeaa", sum := "b651b52a48dc7281f3ee334efd9ca12abb162affc03c051d88f6b1bb0d67bccb", func := "creel/creellaw.CutJoins", spec := "cutJoins", inPlace := ["internal/bytealg.IndexByteString"], apart := false, narrowed := true }
def CutJoinsUptoSaid : Prop := cutJoinsUptoRow.holds Try.pinned (OpenSpec.upto cutJoinsSpec)

end Rows
end Go.Proofs.Ytpokjdkckdajeaa
