/- The plain law of FieldReads: what the walks compute answers true at every input that the row admits. No condition of its own. -/
import Derived.Test.YtolbjjeoaeadcaaDoorGFieldReads
import Derived.Test.YtolbjjeoaeadcaaDoorWPureBase
import Derived.Test.YtolbjjeoaeadcaaDoorQFieldRead
namespace Go.Proofs.YtolbjjeoaeadcaaDoor.PuFieldReads
set_option linter.unusedVariables false
set_option linter.unusedSimpArgs false
open Go.RowKit Go.Proofs.YtolbjjeoaeadcaaDoor.All Go.Proofs.YtolbjjeoaeadcaaDoor.GFieldReads Go.Proofs.YtolbjjeoaeadcaaDoorW.PrintWords Go.Proofs.YtolbjjeoaeadcaaDoorW.PrintLast Go.Proofs.YtolbjjeoaeadcaaDoorW.PrintMore Go.Proofs.YtolbjjeoaeadcaaDoorW.PureBase Go.Proofs.YtolbjjeoaeadcaaDoor.Q

-- USES FieldRead
theorem pure : Pure := by
  intro s w _ _
  obtain ⟨r, h1, K, h2⟩ := field_same s w
  have c2 := h2 K (Nat.le_refl _)
  dsimp only at c2
  refine ⟨K, ?_⟩
  unfold creellaw_FieldReads.f
  rw [h1, c2]; simp
end Go.Proofs.YtolbjjeoaeadcaaDoor.PuFieldReads
