/- The plain law of PathChecks: what the walks compute answers true at every input that the row admits. No condition of its own. -/
import Derived.Test.YtolbjjeoaeadcaaDoorGPathChecks
import Derived.Test.YtolbjjeoaeadcaaDoorWPureBase
import Derived.Test.YtolbjjeoaeadcaaDoorQPath
import Derived.Test.YtolbjjeoaeadcaaDoorQTexts
namespace Go.Proofs.YtolbjjeoaeadcaaDoor.PuPathChecks
set_option linter.unusedVariables false
set_option linter.unusedSimpArgs false
open Go.RowKit Go.Proofs.YtolbjjeoaeadcaaDoor.All Go.Proofs.YtolbjjeoaeadcaaDoor.GPathChecks Go.Proofs.YtolbjjeoaeadcaaDoorW.PrintWords Go.Proofs.YtolbjjeoaeadcaaDoorW.PrintLast Go.Proofs.YtolbjjeoaeadcaaDoorW.PrintMore Go.Proofs.YtolbjjeoaeadcaaDoorW.PureBase Go.Proofs.YtolbjjeoaeadcaaDoor.Q

-- USES Path Texts
theorem pure : Pure := by
  intro s hs
  obtain ⟨⟨K1, a1⟩, ⟨K2, a2⟩⟩ := path_same s (by omega)
  obtain ⟨k, hk⟩ : ∃ k, k = K1 + K2 + s.size + 10 := ⟨_, rfl⟩
  have b1 : path_Check.f k s = some (pathR s) := a1 k (by omega)
  have b2 : creelref_PathFault.f k s = some (pathR s) := a2 k (by omega)
  obtain ⟨u, b, h1, h2, h3⟩ := up_base s k hs (by omega)
  have hl := pp_len s
  refine ⟨k, ?_⟩
  unfold creellaw_PathChecks.f
  rw [b1, b2, h1, h2, h3]
  simp only [Option.bind_some, if_true]
  unfold path_Parts.f creelref_PathParts.f
  by_cases h0 : s.toList = ([] : List UInt8)
  · rw [if_pos h0, if_pos h0]
    simp only [Option.bind_some]
    rw [texts_refl [] (by simp) k (by simp; omega)]
    simp
  · rw [if_neg h0, if_neg h0, split_is s (by omega), parts_is s k (by omega) (by omega)]
    simp only [Option.bind_some]
    rw [texts_refl (pp s) (by omega) k (by omega)]
    simp
end Go.Proofs.YtolbjjeoaeadcaaDoor.PuPathChecks
