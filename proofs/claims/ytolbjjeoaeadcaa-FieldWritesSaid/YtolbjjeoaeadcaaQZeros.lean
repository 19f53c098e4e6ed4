/- The reference's zeros. -/
import Derived.Test.YtolbjjeoaeadcaaWPureBase
import Derived.Test.YtolbjjeoaeadcaaFCreelrefZeros
namespace Go.Proofs.Ytolbjjeoaeadcaa.Q
set_option linter.unusedVariables false
set_option linter.unusedSimpArgs false
open Go.RowKit Go.Proofs.Ytolbjjeoaeadcaa.All Go.Proofs.YtolbjjeoaeadcaaW.PrintWords Go.Proofs.YtolbjjeoaeadcaaW.PrintLast Go.Proofs.YtolbjjeoaeadcaaW.PrintMore Go.Proofs.YtolbjjeoaeadcaaW.PureBase

-- FN creelref_zeros
/-- So many bytes 0. -/
def zs (n : Nat) : ByteArray := ⟨(List.replicate n (0 : UInt8)).toArray⟩
theorem zs_size (n : Nat) : (zs n).size = n := by simp [zs, ByteArray.size]
theorem zs_snoc (n : Nat) : zs n ++ (⟨#[0]⟩ : ByteArray) = zs (n + 1) := by
  apply ext_list
  simp [zs, List.replicate_succ']
theorem zeros_loop (d : Nat) : ∀ (k : Nat) (n i : Nat), n - i = d → i ≤ n → n ≤ 140737488355328 → d < k → creelref_zeros.l0 k (n : Int) (zs i) (i : Int) = some (zs n) := by
  induction d with
  | zero =>
    intro k n i hd hi hn hk
    obtain ⟨k, rfl⟩ : ∃ m, k = m + 1 := ⟨k - 1, by omega⟩
    simp only [creelref_zeros.l0]
    rw [if_neg (by omega), show i = n from by omega]
  | succ d ih =>
    intro k n i hd hi hn hk
    obtain ⟨k, rfl⟩ : ∃ m, k = m + 1 := ⟨k - 1, by omega⟩
    simp only [creelref_zeros.l0]
    have hw : wrap64 ((i : Int) + 1) = ((i + 1 : Nat) : Int) := by rw [wrap_is (by omega) (by omega)]; omega
    rw [if_pos (by omega), if_pos (by rw [zs_size]; omega), zs_snoc, hw]
    exact ih k n (i + 1) (by omega) (by omega) hn (by omega)
theorem zeros_is (n k : Nat) (hn : n ≤ 140737488355328) (hk : n < k) : creelref_zeros.f k (n : Int) = some (zs n) := by
  unfold creelref_zeros.f
  exact zeros_loop n k n 0 (by omega) (by omega) hn hk
end Go.Proofs.Ytolbjjeoaeadcaa.Q
