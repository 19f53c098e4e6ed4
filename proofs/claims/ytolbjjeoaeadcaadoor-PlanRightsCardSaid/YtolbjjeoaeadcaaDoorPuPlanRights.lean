/- The plain law of PlanRights: what the walks compute answers true at every input that the row admits. No condition of its own. -/
import Derived.Test.YtolbjjeoaeadcaaDoorGPlanRights
import Derived.Test.YtolbjjeoaeadcaaDoorWPureBase
import Derived.Test.YtolbjjeoaeadcaaDoorQEntryR
namespace Go.Proofs.YtolbjjeoaeadcaaDoor.PuPlanRights
set_option linter.unusedVariables false
set_option linter.unusedSimpArgs false
open Go.RowKit Go.Proofs.YtolbjjeoaeadcaaDoor.All Go.Proofs.YtolbjjeoaeadcaaDoor.GPlanRights Go.Proofs.YtolbjjeoaeadcaaDoorW.PrintWords Go.Proofs.YtolbjjeoaeadcaaDoorW.PrintLast Go.Proofs.YtolbjjeoaeadcaaDoorW.PrintMore Go.Proofs.YtolbjjeoaeadcaaDoorW.PureBase Go.Proofs.YtolbjjeoaeadcaaDoor.Q

-- USES EntryR
theorem pure : Pure := by
  intro x gx
  obtain ⟨hp, _, ht, gm, _⟩ := gx
  obtain ⟨_, _, _, hu, hg, _⟩ := gm
  obtain ⟨K1, e1⟩ := plan_ev x.f0 x.f1 x.f2 x.f3.f0 x.f3.f1 x.f3.f2 x.f3.f3 x.f3.f4 x.f3.f5 x.f3.f6 x.f4 hp ht
  obtain ⟨K2, e2⟩ := refentry_ev x.f0 x.f1 x.f2 x.f3.f0 x.f3.f1 x.f3.f2 x.f3.f3 x.f3.f4 x.f3.f5 x.f3.f6 x.f4 hp ht hu hg
  refine ⟨max K1 K2, ?_⟩
  have a1 := e1 _ (Nat.le_max_left K1 K2)
  have a2 := e2 _ (Nat.le_max_right K1 K2)
  dsimp only at a1 a2
  unfold creellaw_PlanRights.f
  rw [a1, a2]
  simp
end Go.Proofs.YtolbjjeoaeadcaaDoor.PuPlanRights
