/- Made by a program of the prover: what the statement says of the plain functions, and the step from that to the row; no condition of its own. -/
import Derived.Test.YtolbjjeoaeadcaaDoorFCreellawPathChecks
import Derived.Test.YtolbjjeoaeadcaaDoorWOpensU
namespace Go.Proofs.YtolbjjeoaeadcaaDoor.GPathChecks
open Go.RowKit Go.Proofs.YtolbjjeoaeadcaaDoor.All Go.Proofs.YtolbjjeoaeadcaaDoorW.PrintWords Go.Proofs.YtolbjjeoaeadcaaDoorW.PrintLast Go.Proofs.YtolbjjeoaeadcaaDoorW.OpensU
set_option linter.unusedVariables false
/-- What is to be proved of the plain functions. -/
def Pure : Prop := ∀ (a0 : ByteArray), (a0.size ≤ 1048576) → ∃ k, creellaw_PathChecks.f k a0 = some true
theorem walk (P : Pure) (a0 : ByteArray) (w : World) (g0 : a0.size ≤ 1048576)  :
    Calls Tryd.prog 5 #[.string a0] w fun e w' => e = .returned (.bool true) ∧ Below w.heap.size w w' := by
  obtain ⟨k, h⟩ := P a0 g0
  refine (creellaw_PathChecks.calls k a0 true w h).mono ?_
  rintro e w' ⟨rfl, hd⟩
  exact ⟨rfl, hd⟩
end Go.Proofs.YtolbjjeoaeadcaaDoor.GPathChecks
