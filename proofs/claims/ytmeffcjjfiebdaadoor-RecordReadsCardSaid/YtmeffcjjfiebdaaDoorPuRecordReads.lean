/- The plain law of RecordReads: what the walks compute answers true at every input that the row admits. No condition of its own. -/
import Derived.Test.YtmeffcjjfiebdaaDoorGRecordReads
import Derived.Test.YtmeffcjjfiebdaaDoorWPureBase
import Derived.Test.YtmeffcjjfiebdaaDoorQDigits
import Derived.Test.YtmeffcjjfiebdaaDoorQCutB
import Derived.Test.YtmeffcjjfiebdaaDoorQRecord
import Derived.Test.YtmeffcjjfiebdaaDoorQRecRead
namespace Go.Proofs.YtmeffcjjfiebdaaDoor.PuRecordReads
set_option linter.unusedVariables false
set_option linter.unusedSimpArgs false
open Go.RowKit Go.Proofs.YtmeffcjjfiebdaaDoor.All Go.Proofs.YtmeffcjjfiebdaaDoor.GRecordReads Go.Proofs.YtmeffcjjfiebdaaDoorW.PrintWords Go.Proofs.YtmeffcjjfiebdaaDoorW.PrintLast Go.Proofs.YtmeffcjjfiebdaaDoorW.PrintMore Go.Proofs.YtmeffcjjfiebdaaDoorW.PureBase Go.Proofs.YtmeffcjjfiebdaaDoor.Q

/- record.Read and the reference's RecordOf read the same. No condition. -/
-- USES Digits CutB Record RecRead
theorem pure : Pure := by
  intro s hs
  obtain ⟨r, h1, h2, _⟩ := read_same s hs 40000 (by omega)
  refine ⟨40000, ?_⟩
  unfold creellaw_RecordReads.f
  rw [h1, h2]
  simp
end Go.Proofs.YtmeffcjjfiebdaaDoor.PuRecordReads
