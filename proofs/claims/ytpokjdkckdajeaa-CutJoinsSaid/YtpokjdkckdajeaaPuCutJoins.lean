/- The plain law of CutJoins: what the walks compute answers true at every input that the row admits. No condition of its own. -/
import Derived.Test.YtpokjdkckdajeaaGCutJoins
import Derived.Test.YtpokjdkckdajeaaWPureBase
import Derived.Test.YtpokjdkckdajeaaQCut
namespace Go.Proofs.Ytpokjdkckdajeaa.PuCutJoins
set_option linter.unusedVariables false
set_option linter.unusedSimpArgs false
open Go.RowKit Go.Proofs.Ytpokjdkckdajeaa.All Go.Proofs.Ytpokjdkckdajeaa.GCutJoins Go.Proofs.YtpokjdkckdajeaaW.PrintWords Go.Proofs.YtpokjdkckdajeaaW.PrintLast Go.Proofs.YtpokjdkckdajeaaW.PrintMore Go.Proofs.YtpokjdkckdajeaaW.PureBase Go.Proofs.Ytpokjdkckdajeaa.Q

-- USES Cut
theorem pure : Pure := by
  intro p n _ _
  obtain ⟨r, ⟨K1, a1⟩, ⟨K2, a2⟩⟩ := one_same p n
  have c1 := a1 _ (Nat.le_max_left K1 K2)
  have c2 := a2 _ (Nat.le_max_right K1 K2)
  dsimp only at c1 c2
  refine ⟨max K1 K2, ?_⟩
  unfold creellaw_CutJoins.f
  rw [c1, c2]; simp
end Go.Proofs.Ytpokjdkckdajeaa.PuCutJoins
