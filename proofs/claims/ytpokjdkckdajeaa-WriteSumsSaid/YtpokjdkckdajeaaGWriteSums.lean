/- Made by a program of the prover: what the statement says of the plain functions, and the step from that to the row; no condition of its own. -/
import Derived.Test.YtpokjdkckdajeaaFCreellawWriteSums
import Derived.Test.YtpokjdkckdajeaaWOpens
namespace Go.Proofs.Ytpokjdkckdajeaa.GWriteSums
open Go.RowKit Go.Proofs.Ytpokjdkckdajeaa.All Go.Proofs.YtpokjdkckdajeaaW.PrintWords Go.Proofs.YtpokjdkckdajeaaW.PrintLast Go.Proofs.YtpokjdkckdajeaaW.Opens
set_option linter.unusedVariables false
/-- What is to be proved of the plain functions. -/
def Pure : Prop := ∀ (l0 : List Int), (l0.length * 1 ≤ 140737488351232 ∧ ∀ y ∈ l0, (Lit.int .u8 y).wf = true) → ∃ k, creellaw_WriteSums.f k l0 = some true
theorem walk (P : Pure) (l0 : List Int) (w : World) (g0 : l0.length * 1 ≤ 140737488351232 ∧ ∀ y ∈ l0, (Lit.int .u8 y).wf = true) {A0 : Option Addr} {c0 : Nat} (r0 : Kd.C (Kd.int .u8) w A0 l0.length l0) (hc0 : l0.length ≤ c0) :
    Calls Try.prog 4 #[.slice A0 l0.length c0] w fun e w' => e = .returned (.bool true) ∧ Below w.heap.size w w' := by
  obtain ⟨k, h⟩ := P l0 g0
  refine (creellaw_WriteSums.calls k A0 c0 l0 true w r0 hc0 h).mono ?_
  rintro e w' ⟨rfl, hd⟩
  exact ⟨rfl, hd.below⟩
end Go.Proofs.Ytpokjdkckdajeaa.GWriteSums
