/- Made by a program of the prover: what the statement says of the plain functions, and the step from that to the row; no condition of its own. -/
import Derived.Test.YtpokjdkckdajeaaFCreellawPadFills
import Derived.Test.YtpokjdkckdajeaaWOpens
namespace Go.Proofs.Ytpokjdkckdajeaa.GPadFills
open Go.RowKit Go.Proofs.Ytpokjdkckdajeaa.All Go.Proofs.YtpokjdkckdajeaaW.PrintWords Go.Proofs.YtpokjdkckdajeaaW.PrintLast Go.Proofs.YtpokjdkckdajeaaW.Opens
set_option linter.unusedVariables false
/-- What is to be proved of the plain functions. -/
def Pure : Prop := ∀ (a0 : Int) (l1 : List Int), ((Lit.int .i64 a0).wf = true) → (l1.length * 1 ≤ 140737488351232 ∧ ∀ y ∈ l1, (Lit.int .u8 y).wf = true) → ∃ k, creellaw_PadFills.f k a0 l1 = some true
theorem walk (P : Pure) (a0 : Int) (l1 : List Int) (w : World) (g0 : (Lit.int .i64 a0).wf = true) (g1 : l1.length * 1 ≤ 140737488351232 ∧ ∀ y ∈ l1, (Lit.int .u8 y).wf = true) {A1 : Option Addr} {c1 : Nat} (r1 : Kd.C (Kd.int .u8) w A1 l1.length l1) (hc1 : l1.length ≤ c1) :
    Calls Try.prog 6 #[.int .i64 a0, .slice A1 l1.length c1] w fun e w' => e = .returned (.bool true) ∧ Below w.heap.size w w' := by
  obtain ⟨k, h⟩ := P a0 l1 g0 g1
  refine (creellaw_PadFills.calls k a0 A1 c1 l1 true w r1 hc1 h).mono ?_
  rintro e w' ⟨rfl, hd⟩
  exact ⟨rfl, hd⟩
end Go.Proofs.Ytpokjdkckdajeaa.GPadFills
