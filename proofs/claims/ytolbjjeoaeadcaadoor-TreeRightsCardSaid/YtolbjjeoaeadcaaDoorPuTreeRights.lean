/- The plain law of TreeRights: what the walks compute answers true at every input that the row admits. No condition of its own. -/
import Derived.Test.YtolbjjeoaeadcaaDoorGTreeRights
import Derived.Test.YtolbjjeoaeadcaaDoorWPureBase
import Derived.Test.YtolbjjeoaeadcaaDoorQNodeR
namespace Go.Proofs.YtolbjjeoaeadcaaDoor.PuTreeRights
set_option linter.unusedVariables false
set_option linter.unusedSimpArgs false
open Go.RowKit Go.Proofs.YtolbjjeoaeadcaaDoor.All Go.Proofs.YtolbjjeoaeadcaaDoor.GTreeRights Go.Proofs.YtolbjjeoaeadcaaDoorW.PrintWords Go.Proofs.YtolbjjeoaeadcaaDoorW.PrintLast Go.Proofs.YtolbjjeoaeadcaaDoorW.PrintMore Go.Proofs.YtolbjjeoaeadcaaDoorW.PureBase Go.Proofs.YtolbjjeoaeadcaaDoor.Q

-- USES NodeR
theorem pure : Pure := by
  intro x gx
  obtain ⟨hp, _, _, ht, gm, _⟩ := gx
  obtain ⟨_, _, _, hu, hg, _⟩ := gm
  obtain ⟨K1, e1⟩ := right_ev x.f0 x.f1 x.f2 x.f3 x.f4.f0 x.f4.f1 x.f4.f2 x.f4.f3 x.f4.f4 x.f4.f5 x.f4.f6 x.f5 hp
  obtain ⟨K2, e2⟩ := refnode_ev x.f0 x.f1 x.f2 x.f3 x.f4.f0 x.f4.f1 x.f4.f2 x.f4.f3 x.f4.f4 x.f4.f5 x.f4.f6 x.f5 hp ht hu hg
  refine ⟨max K1 K2, ?_⟩
  have a1 := e1 _ (Nat.le_max_left K1 K2)
  have a2 := e2 _ (Nat.le_max_right K1 K2)
  dsimp only at a1 a2
  unfold creellaw_TreeRights.f
  rw [a1, a2]
  simp
end Go.Proofs.YtolbjjeoaeadcaaDoor.PuTreeRights
