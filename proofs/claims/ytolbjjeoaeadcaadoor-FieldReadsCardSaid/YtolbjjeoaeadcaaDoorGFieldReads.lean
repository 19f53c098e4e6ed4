/- Made by a program of the prover: what the statement says of the plain functions, and the step from that to the row; no condition of its own. -/
import Derived.Test.YtolbjjeoaeadcaaDoorFCreellawFieldReads
import Derived.Test.YtolbjjeoaeadcaaDoorWOpens
namespace Go.Proofs.YtolbjjeoaeadcaaDoor.GFieldReads
open Go.RowKit Go.Proofs.YtolbjjeoaeadcaaDoor.All Go.Proofs.YtolbjjeoaeadcaaDoorW.PrintWords Go.Proofs.YtolbjjeoaeadcaaDoorW.PrintLast Go.Proofs.YtolbjjeoaeadcaaDoorW.Opens
set_option linter.unusedVariables false
/-- What is to be proved of the plain functions. -/
def Pure : Prop := ∀ (a0 : ByteArray) (a1 : Bool), (a0.size ≤ 140737488351232) → (True) → ∃ k, creellaw_FieldReads.f k a0 a1 = some true
theorem walk (P : Pure) (a0 : ByteArray) (a1 : Bool) (w : World) (g0 : a0.size ≤ 140737488351232) (g1 : True)  :
    Calls Tryd.prog 4 #[.string a0, .bool a1] w fun e w' => e = .returned (.bool true) ∧ Below w.heap.size w w' := by
  obtain ⟨k, h⟩ := P a0 a1 g0 g1
  refine (creellaw_FieldReads.calls k a0 a1 true w h).mono ?_
  rintro e w' ⟨rfl, hd⟩
  exact ⟨rfl, hd.below⟩
end Go.Proofs.YtolbjjeoaeadcaaDoor.GFieldReads
