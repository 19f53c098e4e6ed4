/- The plain law of RecordWrites: what the walks compute answers true at every input that the row admits. No condition of its own. -/
import Derived.Test.YtcipaajdmpkdfaaDoorGRecordWrites
import Derived.Test.YtcipaajdmpkdfaaDoorWPureBase
import Derived.Test.YtcipaajdmpkdfaaDoorQDigits
import Derived.Test.YtcipaajdmpkdfaaDoorQHas
import Derived.Test.YtcipaajdmpkdfaaDoorQRecord
namespace Go.Proofs.YtcipaajdmpkdfaaDoor.PuRecordWrites
set_option linter.unusedVariables false
set_option linter.unusedSimpArgs false
open Go.RowKit Go.Proofs.YtcipaajdmpkdfaaDoor.All Go.Proofs.YtcipaajdmpkdfaaDoor.GRecordWrites Go.Proofs.YtcipaajdmpkdfaaDoorW.PrintWords Go.Proofs.YtcipaajdmpkdfaaDoorW.PrintLast Go.Proofs.YtcipaajdmpkdfaaDoorW.PrintMore Go.Proofs.YtcipaajdmpkdfaaDoorW.PureBase Go.Proofs.YtcipaajdmpkdfaaDoor.Q

/- record.Check and record.Write, the reference's RecordFault and RecordText tell the same. No condition. -/
-- USES Digits Has Record
theorem pure : Pure := by
  intro r _
  obtain ⟨c1, c2⟩ := chk_val r.f0 r.f1 2000 (by omega)
  obtain ⟨w1, w2⟩ := rt_val r.f0 r.f1 2000 (by omega)
  refine ⟨2000, ?_⟩
  unfold creellaw_RecordWrites.f
  rw [c1, c2, w1, w2]
  simp
end Go.Proofs.YtcipaajdmpkdfaaDoor.PuRecordWrites
