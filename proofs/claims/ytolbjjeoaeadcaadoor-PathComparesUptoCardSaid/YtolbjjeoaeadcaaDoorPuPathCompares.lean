/- The plain law of PathCompares: what the walks compute answers true at every input that the row admits. No condition of its own. -/
import Derived.Test.YtolbjjeoaeadcaaDoorGPathCompares
import Derived.Test.YtolbjjeoaeadcaaDoorWPureBase
import Derived.Test.YtolbjjeoaeadcaaDoorQOrder
namespace Go.Proofs.YtolbjjeoaeadcaaDoor.PuPathCompares
set_option linter.unusedVariables false
set_option linter.unusedSimpArgs false
open Go.RowKit Go.Proofs.YtolbjjeoaeadcaaDoor.All Go.Proofs.YtolbjjeoaeadcaaDoor.GPathCompares Go.Proofs.YtolbjjeoaeadcaaDoorW.PrintWords Go.Proofs.YtolbjjeoaeadcaaDoorW.PrintLast Go.Proofs.YtolbjjeoaeadcaaDoorW.PrintMore Go.Proofs.YtolbjjeoaeadcaaDoorW.PureBase Go.Proofs.YtolbjjeoaeadcaaDoor.Q

-- USES Order
theorem parts_both (s : ByteArray) (hs : s.size ≤ 1048576) (k : Nat) (hk : s.size < k) : ∃ l : List ByteArray, l.length ≤ s.size + 1 ∧ path_Parts.f s = some l ∧ creelref_PathParts.f k s = some l := by
  unfold path_Parts.f creelref_PathParts.f
  by_cases h0 : s.toList = ([] : List UInt8)
  · rw [if_pos h0, if_pos h0]
    exact ⟨[], by simp, rfl, rfl⟩
  · rw [if_neg h0, if_neg h0, split_is s (by omega), parts_is s k (by omega) hk]
    exact ⟨pp s, pp_len s, rfl, rfl⟩
theorem pure : Pure := by
  intro a b ha hb
  obtain ⟨k, hk⟩ : ∃ k, k = 2 * a.size + b.size + 10 := ⟨_, rfl⟩
  obtain ⟨x, hx, x1, x2⟩ := parts_both a ha k (by omega)
  obtain ⟨y, hy, y1, y2⟩ := parts_both b hb k (by omega)
  obtain ⟨t, t1, t2⟩ := in_same a b (by omega)
  obtain ⟨r, r1, r2⟩ := cmp_loop x y (by omega) x.length k k 0 (by omega) (by omega) (by omega) (by omega) (by omega)
  have q1 : path_Compare.f k a b = some r := by
    unfold path_Compare.f slices_Compare_string_string.f
    rw [x1, y1]
    simp only [Option.bind_some]
    rw [show slices_Compare_string_string.l0 k x y x (x.length : Int) 0 = some r from r1]
    rfl
  have q2 : creelref_PathOrder.f k a b = some r := by
    unfold creelref_PathOrder.f
    rw [x2, y2]
    exact r2
  refine ⟨k, ?_⟩
  unfold creellaw_PathCompares.f
  rw [t1, t2, q1, q2]
  simp
end Go.Proofs.YtolbjjeoaeadcaaDoor.PuPathCompares
