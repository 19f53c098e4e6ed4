/- The plain law of MetaTells: what the walks compute answers true at every input that the row admits. No condition of its own. -/
import Derived.Test.YtmcofelbcjgagaaGMetaTells
import Derived.Test.YtmcofelbcjgagaaWPureBase
namespace Go.Proofs.Ytmcofelbcjgagaa.PuMetaTells
set_option linter.unusedVariables false
set_option linter.unusedSimpArgs false
open Go.RowKit Go.Proofs.Ytmcofelbcjgagaa.All Go.Proofs.Ytmcofelbcjgagaa.GMetaTells Go.Proofs.YtmcofelbcjgagaaW.PrintWords Go.Proofs.YtmcofelbcjgagaaW.PrintLast Go.Proofs.YtmcofelbcjgagaaW.PrintMore Go.Proofs.YtmcofelbcjgagaaW.PureBase

-- FN meta_Text creelref_ModeText
theorem pure : Pure := by
  intro a0 w0
  unfold creellaw_MetaTells.f
  have e : creelref_ModeText.f a0 = meta_Text.f a0 := rfl
  rw [e]
  unfold meta_Text.f
  by_cases c : 0 ≤ a0 ∧ a0 ≤ 4095
  · rw [if_pos c]
    simp
  · rw [if_neg c]
    simp
end Go.Proofs.Ytmcofelbcjgagaa.PuMetaTells
