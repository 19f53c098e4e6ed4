/- Made by a program of the prover: what the statement says of the plain functions, and the step from that to the row; no condition of its own. -/
import Derived.Test.YtolbjjeoaeadcaaFCreellawFieldWrites
import Derived.Test.YtolbjjeoaeadcaaWOpens
namespace Go.Proofs.Ytolbjjeoaeadcaa.GFieldWrites
open Go.RowKit Go.Proofs.Ytolbjjeoaeadcaa.All Go.Proofs.YtolbjjeoaeadcaaW.PrintWords Go.Proofs.YtolbjjeoaeadcaaW.PrintLast Go.Proofs.YtolbjjeoaeadcaaW.Opens
set_option linter.unusedVariables false
/-- What is to be proved of the plain functions. -/
def Pure : Prop := ∀ (a0 : ByteArray) (a1 : Int) (a2 : Bool), (a0.size ≤ 140737488351232) → ((Lit.int .i64 a1).wf = true) → (True) → ∃ k, creellaw_FieldWrites.f k a0 a1 a2 = some true
theorem walk (P : Pure) (a0 : ByteArray) (a1 : Int) (a2 : Bool) (w : World) (g0 : a0.size ≤ 140737488351232) (g1 : (Lit.int .i64 a1).wf = true) (g2 : True)  :
    Calls Try.prog 3 #[.string a0, .int .i64 a1, .bool a2] w fun e w' => e = .returned (.bool true) ∧ Below w.heap.size w w' := by
  obtain ⟨k, h⟩ := P a0 a1 a2 g0 g1 g2
  refine (creellaw_FieldWrites.calls k a0 a1 a2 true w h).mono ?_
  rintro e w' ⟨rfl, hd⟩
  exact ⟨rfl, hd⟩
end Go.Proofs.Ytolbjjeoaeadcaa.GFieldWrites
