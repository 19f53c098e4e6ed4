/- The plain law of MetaChecks: what the walks compute answers true at every input that the row admits. No condition of its own. -/
import Derived.Test.YtpokjdkckdajeaaGMetaChecks
import Derived.Test.YtpokjdkckdajeaaWPureBase
import Derived.Test.YtpokjdkckdajeaaQMeta
namespace Go.Proofs.Ytpokjdkckdajeaa.PuMetaChecks
set_option linter.unusedVariables false
set_option linter.unusedSimpArgs false
open Go.RowKit Go.Proofs.Ytpokjdkckdajeaa.All Go.Proofs.Ytpokjdkckdajeaa.GMetaChecks Go.Proofs.YtpokjdkckdajeaaW.PrintWords Go.Proofs.YtpokjdkckdajeaaW.PrintLast Go.Proofs.YtpokjdkckdajeaaW.PrintMore Go.Proofs.YtpokjdkckdajeaaW.PureBase Go.Proofs.Ytpokjdkckdajeaa.Q

-- USES Meta
theorem pure : Pure := by
  intro m g
  obtain ⟨_, _, _, hu, hg, _⟩ := g
  obtain ⟨K1, e1⟩ := check_ev m.f0 m.f1 m.f2 m.f3 m.f4 m.f5 m.f6
  obtain ⟨K2, e2⟩ := fault_ev m.f0 m.f1 m.f2 m.f3 m.f4 m.f5 m.f6 hu hg
  refine ⟨max K1 K2, ?_⟩
  have a1 := e1 _ (Nat.le_max_left K1 K2)
  have a2 := e2 _ (Nat.le_max_right K1 K2)
  dsimp only at a1 a2
  unfold creellaw_MetaChecks.f
  rw [a1, a2]; simp
end Go.Proofs.Ytpokjdkckdajeaa.PuMetaChecks
