/- The plain law of CutTells: what the walks compute answers true at every input that the row admits. No condition of its own. -/
import Derived.Test.YtpokjdkckdajeaaGCutTells
import Derived.Test.YtpokjdkckdajeaaWPureBase
import Derived.Test.YtpokjdkckdajeaaQCut
namespace Go.Proofs.Ytpokjdkckdajeaa.PuCutTells
set_option linter.unusedVariables false
set_option linter.unusedSimpArgs false
open Go.RowKit Go.Proofs.Ytpokjdkckdajeaa.All Go.Proofs.Ytpokjdkckdajeaa.GCutTells Go.Proofs.YtpokjdkckdajeaaW.PrintWords Go.Proofs.YtpokjdkckdajeaaW.PrintLast Go.Proofs.YtpokjdkckdajeaaW.PrintMore Go.Proofs.YtpokjdkckdajeaaW.PureBase Go.Proofs.Ytpokjdkckdajeaa.Q

-- USES Cut
theorem pure : Pure := by
  intro s hs
  obtain ⟨r, ⟨K1, a1⟩, ⟨K2, a2⟩⟩ := two_same s hs
  have c1 := a1 _ (Nat.le_max_left K1 K2)
  have c2 := a2 _ (Nat.le_max_right K1 K2)
  dsimp only at c1 c2
  refine ⟨max K1 K2, ?_⟩
  unfold creellaw_CutTells.f
  rw [c1, c2]; simp
end Go.Proofs.Ytpokjdkckdajeaa.PuCutTells
