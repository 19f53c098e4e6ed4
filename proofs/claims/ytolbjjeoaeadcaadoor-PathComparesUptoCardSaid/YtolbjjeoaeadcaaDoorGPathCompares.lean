/- Made by a program of the prover: what the statement says of the plain functions, and the step from that to the row; no condition of its own. -/
import Derived.Test.YtolbjjeoaeadcaaDoorFCreellawPathCompares
import Derived.Test.YtolbjjeoaeadcaaDoorWOpensU
namespace Go.Proofs.YtolbjjeoaeadcaaDoor.GPathCompares
open Go.RowKit Go.Proofs.YtolbjjeoaeadcaaDoor.All Go.Proofs.YtolbjjeoaeadcaaDoorW.PrintWords Go.Proofs.YtolbjjeoaeadcaaDoorW.PrintLast Go.Proofs.YtolbjjeoaeadcaaDoorW.OpensU
set_option linter.unusedVariables false
/-- What is to be proved of the plain functions. -/
def Pure : Prop := ∀ (a0 : ByteArray) (a1 : ByteArray), (a0.size ≤ 1048576) → (a1.size ≤ 1048576) → ∃ k, creellaw_PathCompares.f k a0 a1 = some true
theorem walk (P : Pure) (a0 : ByteArray) (a1 : ByteArray) (w : World) (g0 : a0.size ≤ 1048576) (g1 : a1.size ≤ 1048576)  :
    Calls Tryd.prog 6 #[.string a0, .string a1] w fun e w' => e = .returned (.bool true) ∧ Below w.heap.size w w' := by
  obtain ⟨k, h⟩ := P a0 a1 g0 g1
  refine (creellaw_PathCompares.calls k a0 a1 true w h).mono ?_
  rintro e w' ⟨rfl, hd⟩
  exact ⟨rfl, hd⟩
end Go.Proofs.YtolbjjeoaeadcaaDoor.GPathCompares
