/- Made by a program of the prover: what the statement says of the plain functions, and the step from that to the row; no condition of its own. -/
import Derived.Test.YtpokjdkckdajeaaFCreellawPaxFinds
import Derived.Test.YtpokjdkckdajeaaWOpens
namespace Go.Proofs.Ytpokjdkckdajeaa.GPaxFinds
open Go.RowKit Go.Proofs.Ytpokjdkckdajeaa.All Go.Proofs.YtpokjdkckdajeaaW.PrintWords Go.Proofs.YtpokjdkckdajeaaW.PrintLast Go.Proofs.YtpokjdkckdajeaaW.Opens
set_option linter.unusedVariables false
def good55 (x : S55) : Prop := (x.f0.size ≤ 140737488351232) ∧ (x.f1.size ≤ 140737488351232)
theorem opens55 : Opens Try.prog 55 k55 good55 := opens_iso (f := (fun x : S55 => (x.f0, x.f1))) (fun p => ⟨p.1, p.2⟩) (fun _ => rfl) (opens_struct Try.underlying55 (by kernel_rfl) (opensF_cons (off2 := 1) rfl (by kernel_rfl) (opens_string Try.underlying9) rfl (opensF_one rfl (by kernel_rfl) (opens_string Try.underlying9))))

/-- What is to be proved of the plain functions. -/
def Pure : Prop := ∀ (l0 : List S55) (a1 : ByteArray), (l0.length * 32 ≤ 140737488351232 ∧ ∀ y ∈ l0, good55 y) → (a1.size ≤ 140737488351232) → ∃ k, creellaw_PaxFinds.f k l0 a1 = some true
theorem walk (P : Pure) (l0 : List S55) (a1 : ByteArray) (w : World) (g0 : l0.length * 32 ≤ 140737488351232 ∧ ∀ y ∈ l0, good55 y) (g1 : a1.size ≤ 140737488351232) {A0 : Option Addr} {c0 : Nat} (r0 : Kd.C k55 w A0 l0.length l0) (hc0 : l0.length ≤ c0) :
    Calls Try.prog 5 #[.slice A0 l0.length c0, .string a1] w fun e w' => e = .returned (.bool true) ∧ Below w.heap.size w w' := by
  obtain ⟨k, h⟩ := P l0 a1 g0 g1
  refine (creellaw_PaxFinds.calls k A0 c0 l0 a1 true w r0 hc0 h).mono ?_
  rintro e w' ⟨rfl, hd⟩
  exact ⟨rfl, hd⟩
end Go.Proofs.Ytpokjdkckdajeaa.GPaxFinds
