/- Made by a program of the prover: what the statement says of the plain functions, and the step from that to the row; no condition of its own. -/
import Derived.Test.YtolbjjeoaeadcaaDoorFCreellawPadCuts
import Derived.Test.YtolbjjeoaeadcaaDoorWOpens
namespace Go.Proofs.YtolbjjeoaeadcaaDoor.GPadCuts
open Go.RowKit Go.Proofs.YtolbjjeoaeadcaaDoor.All Go.Proofs.YtolbjjeoaeadcaaDoorW.PrintWords Go.Proofs.YtolbjjeoaeadcaaDoorW.PrintLast Go.Proofs.YtolbjjeoaeadcaaDoorW.Opens
set_option linter.unusedVariables false
/-- What is to be proved of the plain functions. -/
def Pure : Prop := ∀ (l0 : List Int) (a1 : Int), (l0.length * 1 ≤ 140737488351232 ∧ ∀ y ∈ l0, (Lit.int .u8 y).wf = true) → ((Lit.int .i64 a1).wf = true) → ∃ k, creellaw_PadCuts.f k l0 a1 = some true
theorem walk (P : Pure) (l0 : List Int) (a1 : Int) (w : World) (g0 : l0.length * 1 ≤ 140737488351232 ∧ ∀ y ∈ l0, (Lit.int .u8 y).wf = true) (g1 : (Lit.int .i64 a1).wf = true) {A0 : Option Addr} {c0 : Nat} (r0 : Kd.C (Kd.int .u8) w A0 l0.length l0) (hc0 : l0.length ≤ c0) :
    Calls Tryd.prog 7 #[.slice A0 l0.length c0, .int .i64 a1] w fun e w' => e = .returned (.bool true) ∧ Below w.heap.size w w' := by
  obtain ⟨k, h⟩ := P l0 a1 g0 g1
  refine (creellaw_PadCuts.calls k A0 c0 l0 a1 true w r0 hc0 h).mono ?_
  rintro e w' ⟨rfl, hd⟩
  exact ⟨rfl, hd⟩
end Go.Proofs.YtolbjjeoaeadcaaDoor.GPadCuts
