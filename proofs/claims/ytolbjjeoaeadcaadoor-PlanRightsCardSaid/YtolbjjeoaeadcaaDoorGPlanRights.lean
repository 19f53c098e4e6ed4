/- Made by a program of the prover: what the statement says of the plain functions, and the step from that to the row; no condition of its own. -/
import Derived.Test.YtolbjjeoaeadcaaDoorFCreellawPlanRights
import Derived.Test.YtolbjjeoaeadcaaDoorWOpens
namespace Go.Proofs.YtolbjjeoaeadcaaDoor.GPlanRights
open Go.RowKit Go.Proofs.YtolbjjeoaeadcaaDoor.All Go.Proofs.YtolbjjeoaeadcaaDoorW.PrintWords Go.Proofs.YtolbjjeoaeadcaaDoorW.PrintLast Go.Proofs.YtolbjjeoaeadcaaDoorW.Opens
set_option linter.unusedVariables false
def good44 (x : S44) : Prop := ((Lit.int .i64 x.f0).wf = true) ∧ ((Lit.int .i64 x.f1).wf = true) ∧ ((Lit.int .i64 x.f2).wf = true) ∧ (x.f3.size ≤ 140737488351232) ∧ (x.f4.size ≤ 140737488351232) ∧ ((Lit.int .i64 x.f5).wf = true) ∧ ((Lit.int .i64 x.f6).wf = true)
theorem opens44 : Opens Tryd.prog 44 k44 good44 := opens_iso (f := (fun x : S44 => (x.f0, x.f1, x.f2, x.f3, x.f4, x.f5, x.f6))) (fun p => ⟨p.1, p.2.1, p.2.2.1, p.2.2.2.1, p.2.2.2.2.1, p.2.2.2.2.2.1, p.2.2.2.2.2.2⟩) (fun _ => rfl) (opens_struct Tryd.underlying44 (by kernel_rfl) (opensF_cons (off2 := 1) rfl (by kernel_rfl) (opens_int Tryd.underlying3) rfl (opensF_cons (off2 := 2) rfl (by kernel_rfl) (opens_int Tryd.underlying3) rfl (opensF_cons (off2 := 3) rfl (by kernel_rfl) (opens_int Tryd.underlying3) rfl (opensF_cons (off2 := 4) rfl (by kernel_rfl) (opens_string Tryd.underlying9) rfl (opensF_cons (off2 := 5) rfl (by kernel_rfl) (opens_string Tryd.underlying9) rfl (opensF_cons (off2 := 6) rfl (by kernel_rfl) (opens_int Tryd.underlying3) rfl (opensF_one rfl (by kernel_rfl) (opens_int Tryd.underlying3)))))))))

def good46 (x : S46) : Prop := (x.f0.size ≤ 140737488351232) ∧ ((Lit.int .i64 x.f1).wf = true) ∧ (x.f2.size ≤ 140737488351232) ∧ (good44 x.f3) ∧ (x.f4.length * 1 ≤ 140737488351232 ∧ ∀ y ∈ x.f4, (Lit.int .u8 y).wf = true)
theorem opens46 : Opens Tryd.prog 46 k46 good46 := opens_iso (f := (fun x : S46 => (x.f0, x.f1, x.f2, x.f3, x.f4))) (fun p => ⟨p.1, p.2.1, p.2.2.1, p.2.2.2.1, p.2.2.2.2⟩) (fun _ => rfl) (opens_struct Tryd.underlying46 (by kernel_rfl) (opensF_cons (off2 := 1) rfl (by kernel_rfl) (opens_string Tryd.underlying9) rfl (opensF_cons (off2 := 2) rfl (by kernel_rfl) (opens_int Tryd.underlying3) rfl (opensF_cons (off2 := 3) rfl (by kernel_rfl) (opens_string Tryd.underlying9) rfl (opensF_cons (off2 := 10) rfl (by kernel_rfl) opens44 rfl (opensF_one rfl (by kernel_rfl) (opens_slice (B := 1) Tryd.underlying36 (by kernel_rfl) (by kernel_rfl) (opens_int Tryd.underlying5))))))))

/-- What is to be proved of the plain functions. -/
def Pure : Prop := ∀ (a0 : S46), (good46 a0) → ∃ k, creellaw_PlanRights.f k a0.f0 a0.f1 a0.f2 a0.f3.f0 a0.f3.f1 a0.f3.f2 a0.f3.f3 a0.f3.f4 a0.f3.f5 a0.f3.f6 a0.f4 = some true
theorem walk (P : Pure) (a0 : S46) (w : World) (g0 : good46 a0) {B0_10 : Option Addr} {d0_10 : Nat} (r0_10 : Kd.C (Kd.int .u8) w B0_10 a0.f4.length a0.f4) (hc0_10 : a0.f4.length ≤ d0_10) :
    Calls Tryd.prog 8 #[.agg #[.string a0.f0, .int .i64 a0.f1, .string a0.f2, .int .i64 a0.f3.f0, .int .i64 a0.f3.f1, .int .i64 a0.f3.f2, .string a0.f3.f3, .string a0.f3.f4, .int .i64 a0.f3.f5, .int .i64 a0.f3.f6, .slice B0_10 a0.f4.length d0_10]] w fun e w' => e = .returned (.bool true) ∧ Below w.heap.size w w' := by
  obtain ⟨k, h⟩ := P a0 g0
  refine (creellaw_PlanRights.calls k a0.f0 a0.f1 a0.f2 a0.f3.f0 a0.f3.f1 a0.f3.f2 a0.f3.f3 a0.f3.f4 a0.f3.f5 a0.f3.f6 B0_10 d0_10 a0.f4 true w r0_10 hc0_10 h).mono ?_
  rintro e w' ⟨rfl, hd⟩
  exact ⟨rfl, hd⟩
end Go.Proofs.YtolbjjeoaeadcaaDoor.GPlanRights
