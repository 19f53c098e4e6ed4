/- Made by a program of the prover: what the statement says of the plain functions, and the step from that to the row; no condition of its own. -/
import Derived.Test.YtolbjjeoaeadcaaDoorFCreellawTreeRights
import Derived.Test.YtolbjjeoaeadcaaDoorWOpens
namespace Go.Proofs.YtolbjjeoaeadcaaDoor.GTreeRights
open Go.RowKit Go.Proofs.YtolbjjeoaeadcaaDoor.All Go.Proofs.YtolbjjeoaeadcaaDoorW.PrintWords Go.Proofs.YtolbjjeoaeadcaaDoorW.PrintLast Go.Proofs.YtolbjjeoaeadcaaDoorW.Opens
set_option linter.unusedVariables false
def good44 (x : S44) : Prop := ((Lit.int .i64 x.f0).wf = true) ∧ ((Lit.int .i64 x.f1).wf = true) ∧ ((Lit.int .i64 x.f2).wf = true) ∧ (x.f3.size ≤ 140737488351232) ∧ (x.f4.size ≤ 140737488351232) ∧ ((Lit.int .i64 x.f5).wf = true) ∧ ((Lit.int .i64 x.f6).wf = true)
theorem opens44 : Opens Tryd.prog 44 k44 good44 := opens_iso (f := (fun x : S44 => (x.f0, x.f1, x.f2, x.f3, x.f4, x.f5, x.f6))) (fun p => ⟨p.1, p.2.1, p.2.2.1, p.2.2.2.1, p.2.2.2.2.1, p.2.2.2.2.2.1, p.2.2.2.2.2.2⟩) (fun _ => rfl) (opens_struct Tryd.underlying44 (by kernel_rfl) (opensF_cons (off2 := 1) rfl (by kernel_rfl) (opens_int Tryd.underlying3) rfl (opensF_cons (off2 := 2) rfl (by kernel_rfl) (opens_int Tryd.underlying3) rfl (opensF_cons (off2 := 3) rfl (by kernel_rfl) (opens_int Tryd.underlying3) rfl (opensF_cons (off2 := 4) rfl (by kernel_rfl) (opens_string Tryd.underlying9) rfl (opensF_cons (off2 := 5) rfl (by kernel_rfl) (opens_string Tryd.underlying9) rfl (opensF_cons (off2 := 6) rfl (by kernel_rfl) (opens_int Tryd.underlying3) rfl (opensF_one rfl (by kernel_rfl) (opens_int Tryd.underlying3)))))))))

def good50 (x : S50) : Prop := (x.f0.size ≤ 140737488351232) ∧ ((Lit.int .i64 x.f1).wf = true) ∧ ((Lit.int .i64 x.f2).wf = true) ∧ (x.f3.size ≤ 140737488351232) ∧ (good44 x.f4) ∧ (x.f5.length * 1 ≤ 140737488351232 ∧ ∀ y ∈ x.f5, (Lit.int .u8 y).wf = true)
theorem opens50 : Opens Tryd.prog 50 k50 good50 := opens_iso (f := (fun x : S50 => (x.f0, x.f1, x.f2, x.f3, x.f4, x.f5))) (fun p => ⟨p.1, p.2.1, p.2.2.1, p.2.2.2.1, p.2.2.2.2.1, p.2.2.2.2.2⟩) (fun _ => rfl) (opens_struct Tryd.underlying50 (by kernel_rfl) (opensF_cons (off2 := 1) rfl (by kernel_rfl) (opens_string Tryd.underlying9) rfl (opensF_cons (off2 := 2) rfl (by kernel_rfl) (opens_int Tryd.underlying3) rfl (opensF_cons (off2 := 3) rfl (by kernel_rfl) (opens_int Tryd.underlying3) rfl (opensF_cons (off2 := 4) rfl (by kernel_rfl) (opens_string Tryd.underlying9) rfl (opensF_cons (off2 := 11) rfl (by kernel_rfl) opens44 rfl (opensF_one rfl (by kernel_rfl) (opens_slice (B := 1) Tryd.underlying36 (by kernel_rfl) (by kernel_rfl) (opens_int Tryd.underlying5)))))))))

/-- What is to be proved of the plain functions. -/
def Pure : Prop := ∀ (a0 : S50), (good50 a0) → ∃ k, creellaw_TreeRights.f k a0.f0 a0.f1 a0.f2 a0.f3 a0.f4.f0 a0.f4.f1 a0.f4.f2 a0.f4.f3 a0.f4.f4 a0.f4.f5 a0.f4.f6 a0.f5 = some true
theorem walk (P : Pure) (a0 : S50) (w : World) (g0 : good50 a0) {B0_11 : Option Addr} {d0_11 : Nat} (r0_11 : Kd.C (Kd.int .u8) w B0_11 a0.f5.length a0.f5) (hc0_11 : a0.f5.length ≤ d0_11) :
    Calls Tryd.prog 9 #[.agg #[.string a0.f0, .int .i64 a0.f1, .int .i64 a0.f2, .string a0.f3, .int .i64 a0.f4.f0, .int .i64 a0.f4.f1, .int .i64 a0.f4.f2, .string a0.f4.f3, .string a0.f4.f4, .int .i64 a0.f4.f5, .int .i64 a0.f4.f6, .slice B0_11 a0.f5.length d0_11]] w fun e w' => e = .returned (.bool true) ∧ Below w.heap.size w w' := by
  obtain ⟨k, h⟩ := P a0 g0
  refine (creellaw_TreeRights.calls k a0.f0 a0.f1 a0.f2 a0.f3 a0.f4.f0 a0.f4.f1 a0.f4.f2 a0.f4.f3 a0.f4.f4 a0.f4.f5 a0.f4.f6 B0_11 d0_11 a0.f5 true w r0_11 hc0_11 h).mono ?_
  rintro e w' ⟨rfl, hd⟩
  exact ⟨rfl, hd⟩
end Go.Proofs.YtolbjjeoaeadcaaDoor.GTreeRights
