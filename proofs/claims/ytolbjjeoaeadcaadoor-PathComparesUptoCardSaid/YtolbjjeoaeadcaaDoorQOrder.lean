/- path.In, path.Compare and the reference's PathIn, PathOrder. -/
import Derived.Test.YtolbjjeoaeadcaaDoorWPureBase
import Derived.Test.YtolbjjeoaeadcaaDoorFCmpIsNaNString
import Derived.Test.YtolbjjeoaeadcaaDoorFCmpCompareString
import Derived.Test.YtolbjjeoaeadcaaDoorFSlicesCompareStringString
import Derived.Test.YtolbjjeoaeadcaaDoorFStringsHasPrefix
import Derived.Test.YtolbjjeoaeadcaaDoorFPathIn
import Derived.Test.YtolbjjeoaeadcaaDoorFPathCompare
import Derived.Test.YtolbjjeoaeadcaaDoorFCreelrefPathIn
import Derived.Test.YtolbjjeoaeadcaaDoorFCreelrefPathOrder
import Derived.Test.YtolbjjeoaeadcaaDoorQPath
namespace Go.Proofs.YtolbjjeoaeadcaaDoor.Q
set_option linter.unusedVariables false
set_option linter.unusedSimpArgs false
open Go.RowKit Go.Proofs.YtolbjjeoaeadcaaDoor.All Go.Proofs.YtolbjjeoaeadcaaDoorW.PrintWords Go.Proofs.YtolbjjeoaeadcaaDoorW.PrintLast Go.Proofs.YtolbjjeoaeadcaaDoorW.PrintMore Go.Proofs.YtolbjjeoaeadcaaDoorW.PureBase

-- USES Path
-- FN cmp_isNaN_string cmp_Compare_string slices_Compare_string_string strings_HasPrefix path_In path_Compare creelref_PathIn creelref_PathOrder
theorem cmp_is (p q : ByteArray) : cmp_Compare_string.f p q = some (if (Op.bytesLess p.toList q.toList) = true then (-1) else if (Op.bytesLess q.toList p.toList) = true then 1 else 0) := by
  unfold cmp_Compare_string.f cmp_isNaN_string.f
  simp only [bne_self_eq_false, Option.bind_some, Bool.false_eq_true, if_false]
  split
  · rfl
  · split <;> rfl
theorem cmp_loop (x y : List ByteArray) (hx : x.length ≤ 1099511627776) (d : Nat) : ∀ (k q i : Nat), x.length - i = d → i ≤ x.length → i ≤ y.length → d < k → 2 * d + 2 < q →
    ∃ r, slices_Compare_string_string.l0 k x y x (x.length : Int) (i : Int) = some r ∧ creelref_PathOrder.l0 q x y (i : Int) = some r := by
  induction d with
  | zero =>
    intro k q i hd hi hy hk hq
    obtain ⟨k, rfl⟩ : ∃ m, k = m + 1 := ⟨k - 1, by omega⟩
    obtain ⟨q, rfl⟩ : ∃ m, q = m + 2 := ⟨q - 2, by omega⟩
    have e : i = x.length := by omega
    subst e
    simp only [slices_Compare_string_string.l0, creelref_PathOrder.l0, creelref_PathOrder.j1]
    rw [if_neg (show ¬ ((x.length : Int) < (x.length : Int)) by omega), if_neg (show ¬ ((x.length : Int) < (x.length : Int)) by omega), if_neg (show ¬ (false = true) by simp)]
    by_cases h : (x.length : Int) < (y.length : Int)
    · exact ⟨-1, by rw [if_pos h], by rw [if_pos h]⟩
    · exact ⟨0, by rw [if_neg h], by rw [if_neg h, if_neg (show ¬ (x.length : Int) > (y.length : Int) by omega)]⟩
  | succ d ih =>
    intro k q i hd hi hy hk hq
    obtain ⟨k, rfl⟩ : ∃ m, k = m + 1 := ⟨k - 1, by omega⟩
    obtain ⟨q, rfl⟩ : ∃ m, q = m + 2 := ⟨q - 2, by omega⟩
    have hlt : (i : Int) < (x.length : Int) := by omega
    simp only [slices_Compare_string_string.l0, creelref_PathOrder.l0, creelref_PathOrder.j1]
    rw [if_pos hlt, if_pos hlt, if_pos (show (0 : Int) ≤ (i : Int) by omega), if_pos hlt, if_pos (show (0 : Int) ≤ (i : Int) by omega), if_pos hlt]
    by_cases h : (i : Int) < (y.length : Int)
    · rw [if_neg (show ¬ (i : Int) ≥ (y.length : Int) by omega), if_pos h, cmp_is, decide_eq_true h, if_pos h, if_pos rfl]
      simp only [Option.bind_some]
      have hw : wrap64 ((i : Int) + 1) = ((i + 1 : Nat) : Int) := by rw [wrap_is (by omega) (by omega)]; omega
      by_cases l1 : (Op.bytesLess (rdOf ByteArray.empty x (i : Int)).toList (rdOf ByteArray.empty y (i : Int)).toList) = true
      · refine ⟨-1, ?_, ?_⟩
        · rw [if_pos l1, if_neg (by omega)]
        · rw [if_pos l1]
      · by_cases l2 : (Op.bytesLess (rdOf ByteArray.empty y (i : Int)).toList (rdOf ByteArray.empty x (i : Int)).toList) = true
        · refine ⟨1, ?_, ?_⟩
          · rw [if_neg l1, if_pos l2, if_neg (by omega)]
          · rw [if_neg l1, if_pos l2]
        · obtain ⟨r, h1, h2⟩ := ih k q (i + 1) (by omega) (by omega) (by omega) (by omega) (by omega)
          rw [if_neg l1, if_neg l2, if_pos rfl, if_neg l1, if_neg l2, hw]
          exact ⟨r, h1, h2⟩
    · refine ⟨1, ?_, ?_⟩
      · rw [if_pos (show (i : Int) ≥ (y.length : Int) by omega)]
      · rw [decide_eq_false h, if_neg (show ¬ (false = true) by simp), if_neg (show ¬ (x.length : Int) < (y.length : Int) by omega), if_pos (show (x.length : Int) > (y.length : Int) by omega)]
theorem in_same (s d : ByteArray) (hd : d.size ≤ 4294967296) : ∃ b, path_In.f s d = some b ∧ creelref_PathIn.f s d = some b := by
  refine ⟨_, ?_, rfl⟩
  unfold path_In.f
  rw [if_pos (show d.size + 1 ≤ 9223372036854775807 by omega)]
  simp only [strings_HasPrefix.f, Option.bind_some]
  by_cases h : d.toList = ([] : List UInt8)
  · rw [if_pos h, if_pos h]
    by_cases h' : s.toList = ([] : List UInt8)
    · rw [if_pos h']
      have e1 : s.data.toList = [] := by rw [← toList_data]; exact h'
      have e2 : d.data.toList = [] := by rw [← toList_data]; exact h
      have e3 : (d ++ (⟨#[47]⟩ : ByteArray)).data.toList = [47] := by rw [ByteArray.data_append]; simp [e2]
      rw [e1, e3, h']; rfl
    · rw [if_neg h']
      cases e : s.toList with
      | nil => exact absurd e h'
      | cons a l => rfl
  · rw [if_neg h, if_neg h]
    have e3 : (d ++ (⟨#[47]⟩ : ByteArray)).data.toList = d.data.toList ++ [47] := by rw [ByteArray.data_append]; simp
    rw [e3]
    congr 1
    have hs : s.data.toList.length = s.size := size_list s
    have hdl : d.data.toList.length = d.size := size_list d
    have ex : (s.extract 0 d.size).toList = s.data.toList.take d.size := by rw [toList_data]; simp
    have hp : Lib.hasPrefix s.data.toList (d.data.toList ++ [47]) = true ↔ (d.data.toList ++ [47]) <+: s.data.toList := List.isPrefixOf_iff_prefix
    by_cases h1 : d.size < s.size
    · rw [if_pos h1, ex, toList_data d]
      by_cases h2 : s.data.toList.take d.size = d.data.toList
      · rw [if_pos h2]
        obtain ⟨z, rest, hr⟩ : ∃ z rest, s.data.toList = d.data.toList ++ z :: rest := by
          cases e : s.data.toList.drop d.size with
          | nil => have := congrArg List.length e; rw [List.length_drop, hs] at this; simp at this; omega
          | cons z rest => exact ⟨z, rest, by rw [← h2, ← e, List.take_append_drop]⟩
        have hb := bt_eq_iff s d.size h1 47 (by omega) (by omega)
        have hg : s.data.toList[d.size]? = some z := by
          rw [hr, ← hdl, List.getElem?_append_right (Nat.le_refl _)]; simp
        rw [Bool.eq_iff_iff, hp, beq_iff_eq, hb, hg, hr, List.prefix_append_right_inj, List.cons_prefix_cons]
        constructor
        · rintro ⟨rfl, _⟩; rfl
        · intro e; exact ⟨(Option.some.inj e).symm, List.nil_prefix⟩
      · rw [if_neg h2]
        refine Bool.eq_false_iff.mpr fun hh => h2 ?_
        obtain ⟨t, ht⟩ := hp.1 hh
        rw [← ht, ← hdl]; simp
    · rw [if_neg h1]
      refine Bool.eq_false_iff.mpr fun hh => h1 ?_
      have := (hp.1 hh).length_le
      simp at this; omega
end Go.Proofs.YtolbjjeoaeadcaaDoor.Q
