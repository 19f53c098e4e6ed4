/- Made by a program of the prover: what the statement says of the plain functions, and the step from that to the row; no condition of its own. -/
import Derived.Test.YtpokjdkckdajeaaFCreellawCutJoins
import Derived.Test.YtpokjdkckdajeaaWOpens
namespace Go.Proofs.Ytpokjdkckdajeaa.GCutJoins
open Go.RowKit Go.Proofs.Ytpokjdkckdajeaa.All Go.Proofs.YtpokjdkckdajeaaW.PrintWords Go.Proofs.YtpokjdkckdajeaaW.PrintLast Go.Proofs.YtpokjdkckdajeaaW.Opens
set_option linter.unusedVariables false
/-- What is to be proved of the plain functions. -/
def Pure : Prop := ∀ (a0 : ByteArray) (a1 : ByteArray), (a0.size ≤ 140737488351232) → (a1.size ≤ 140737488351232) → ∃ k, creellaw_CutJoins.f k a0 a1 = some true
theorem walk (P : Pure) (a0 : ByteArray) (a1 : ByteArray) (w : World) (g0 : a0.size ≤ 140737488351232) (g1 : a1.size ≤ 140737488351232)  :
    Calls Try.prog 15 #[.string a0, .string a1] w fun e w' => e = .returned (.bool true) ∧ Below w.heap.size w w' := by
  obtain ⟨k, h⟩ := P a0 a1 g0 g1
  refine (creellaw_CutJoins.calls k a0 a1 true w h).mono ?_
  rintro e w' ⟨rfl, hd⟩
  exact ⟨rfl, hd⟩
end Go.Proofs.Ytpokjdkckdajeaa.GCutJoins
