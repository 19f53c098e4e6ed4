/- Made by a program of the prover: what the statement says of the plain functions, and the step from that to the row; no condition of its own. -/
import Derived.Test.YtcipaajdmpkdfaaDoorFCreellawPaxWrites
import Derived.Test.YtcipaajdmpkdfaaDoorWOpens
namespace Go.Proofs.YtcipaajdmpkdfaaDoor.GPaxWrites
open Go.RowKit Go.Proofs.YtcipaajdmpkdfaaDoor.All Go.Proofs.YtcipaajdmpkdfaaDoorW.PrintWords Go.Proofs.YtcipaajdmpkdfaaDoorW.PrintLast Go.Proofs.YtcipaajdmpkdfaaDoorW.Opens
set_option linter.unusedVariables false
def good26 (x : S26) : Prop := (x.f0.size ≤ 140737488351232) ∧ (x.f1.size ≤ 140737488351232)
theorem opens26 : Opens Tryd.prog 26 k26 good26 := opens_iso (f := (fun x : S26 => (x.f0, x.f1))) (fun p => ⟨p.1, p.2⟩) (fun _ => rfl) (opens_struct Tryd.underlying26 (by kernel_rfl) (opensF_cons (off2 := 1) rfl (by kernel_rfl) (opens_string Tryd.underlying9) rfl (opensF_one rfl (by kernel_rfl) (opens_string Tryd.underlying9))))

/-- What is to be proved of the plain functions. -/
def Pure : Prop := ∀ (l0 : List S26), (l0.length * 32 ≤ 140737488351232 ∧ ∀ y ∈ l0, good26 y) → ∃ k, creellaw_PaxWrites.f k l0 = some true
theorem walk (P : Pure) (l0 : List S26) (w : World) (g0 : l0.length * 32 ≤ 140737488351232 ∧ ∀ y ∈ l0, good26 y) {A0 : Option Addr} {c0 : Nat} (r0 : Kd.C k26 w A0 l0.length l0) (hc0 : l0.length ≤ c0) (HT0 : Aside0 (Go.Proofs.YtcipaajdmpkdfaaDoorW.Mine.Tab w)) :
    Calls Tryd.prog 7 #[.slice A0 l0.length c0] w fun e w' => e = .returned (.bool true) ∧ Below w.heap.size w w' := by
  obtain ⟨k, h⟩ := P l0 g0
  refine (creellaw_PaxWrites.calls k A0 c0 l0 true w r0 hc0 HT0 h).mono ?_
  rintro e w' ⟨rfl, hd⟩
  exact ⟨rfl, hd⟩
end Go.Proofs.YtcipaajdmpkdfaaDoor.GPaxWrites
