/- meta.Check and the reference's MetaFault are one function, 'wrong' (texts no longer than a row admits). -/
import Derived.Test.YtolbjjeoaeadcaaDoorWPureBase
import Derived.Test.YtolbjjeoaeadcaaDoorFStringsIndexByte
import Derived.Test.YtolbjjeoaeadcaaDoorFStampCheck
import Derived.Test.YtolbjjeoaeadcaaDoorFCreelrefTimeFault
import Derived.Test.YtolbjjeoaeadcaaDoorFMetaCheck
import Derived.Test.YtolbjjeoaeadcaaDoorFCreelrefMetaFault
import Derived.Test.YtolbjjeoaeadcaaDoorQHas
namespace Go.Proofs.YtolbjjeoaeadcaaDoor.Q
set_option linter.unusedVariables false
set_option linter.unusedSimpArgs false
open Go.RowKit Go.Proofs.YtolbjjeoaeadcaaDoor.All Go.Proofs.YtolbjjeoaeadcaaDoorW.PrintWords Go.Proofs.YtolbjjeoaeadcaaDoorW.PrintLast Go.Proofs.YtolbjjeoaeadcaaDoorW.PrintMore Go.Proofs.YtolbjjeoaeadcaaDoorW.PureBase

-- USES Has
-- FN strings_IndexByte stamp_Check creelref_TimeFault meta_Check creelref_MetaFault
/-- What is wrong, by either. -/
def wrong (a b c : Int) (u g : ByteArray) (s n : Int) : Int :=
  if a < 0 ∨ a > 4095 ∨ b < 0 ∨ b > 1125899906842624 ∨ c < 0 ∨ c > 1125899906842624 then 4
  else if (u.size : Int) > 60 ∨ (g.size : Int) > 60 then 1
  else if u.data.toList.contains 0 = true ∨ g.data.toList.contains 0 = true then 3
  else if s < -1099511627776 ∨ s > 1099511627776 ∨ n < 0 ∨ n > 999999999 then 4 else 0

theorem stamp_is (s n : Int) : stamp_Check.f s n = some (if s < -1099511627776 ∨ s > 1099511627776 ∨ n < 0 ∨ n > 999999999 then 4 else 0) := by
  unfold stamp_Check.f
  by_cases h1 : s < -1099511627776
  · simp [h1]
  · by_cases h2 : s > 1099511627776
    · simp [h1, h2]
    · by_cases h3 : n < 0
      · simp [h1, h2, h3]
      · by_cases h4 : n > 999999999 <;> simp [h1, h2, h3, h4]
theorem time_is (s n : Int) : creelref_TimeFault.f s n = some (if s < -1099511627776 ∨ s > 1099511627776 ∨ n < 0 ∨ n > 999999999 then 4 else 0) := by
  unfold creelref_TimeFault.f
  by_cases h1 : s < -1099511627776
  · simp [h1]
  · by_cases h2 : s > 1099511627776
    · simp [h1, h2]
    · by_cases h3 : n < 0
      · simp [h1, h2, h3]
      · by_cases h4 : n > 999999999
        · rw [if_neg h1, if_neg h2, if_neg h3, if_pos (by omega), if_pos (by omega)]
        · rw [if_neg h1, if_neg h2, if_neg h3, if_neg (by omega), if_neg (by omega)]

theorem check_ev (a b c : Int) (u g : ByteArray) (s n : Int) : Ev (fun k => meta_Check.f k a b c u g s n) (wrong a b c u g s n) := by
  refine ⟨10, fun k hk => ?_⟩
  obtain ⟨k, rfl⟩ : ∃ m, k = m + 10 := ⟨k - 10, by omega⟩
  have j2 : ∀ (b2 : Bool) (m : Nat), (b2 = false → u.size ≤ 60 ∧ g.size ≤ 60) → meta_Check.j2 (m + 1) b2 a b c u g s n = some (if b2 = true then 1 else if u.data.toList.contains 0 = true ∨ g.data.toList.contains 0 = true then 3
      else if s < -1099511627776 ∨ s > 1099511627776 ∨ n < 0 ∨ n > 999999999 then 4 else 0) := by
    intro b2 m hb
    simp only [meta_Check.j2]
    cases b2 with
    | true => simp
    | false =>
      obtain ⟨h1, h2⟩ := hb rfl
      simp only [Bool.false_eq_true, if_false]; rw [if_pos (by omega)]
      unfold strings_IndexByte.f
      simp only [Option.bind_some]
      have e : (Lib.indexByte (u ++ g).data.toList ((0 : Int).toNat.toUInt8) ≥ 0) ↔ (u.data.toList.contains 0 = true ∨ g.data.toList.contains 0 = true) := by
        have := index_ge (u ++ g).data.toList ((0 : Int).toNat.toUInt8)
        rw [← decide_eq_true_iff (p := Lib.indexByte (u ++ g).data.toList ((0 : Int).toNat.toUInt8) ≥ 0), this]
        simp
      by_cases h : u.data.toList.contains 0 = true ∨ g.data.toList.contains 0 = true
      · rw [if_pos h, if_pos (e.2 h)]
      · rw [if_neg h, if_neg (fun x => h (e.1 x)), stamp_is]; rfl
  have j1 : ∀ (b1 : Bool) (m : Nat), meta_Check.j1 (m + 2) b1 a b c u g s n = some (if b1 = true then 4 else if (u.size : Int) > 60 ∨ (g.size : Int) > 60 then 1 else if u.data.toList.contains 0 = true ∨ g.data.toList.contains 0 = true then 3
      else if s < -1099511627776 ∨ s > 1099511627776 ∨ n < 0 ∨ n > 999999999 then 4 else 0) := by
    intro b1 m
    simp only [meta_Check.j1]
    cases b1 with
    | true => simp
    | false =>
      simp only [Bool.false_eq_true, if_false]
      by_cases h1 : (u.size : Int) > 60
      · rw [if_pos h1, j2 true m (by simp)]; simp [h1]
      · rw [if_neg h1]
        by_cases h2 : (g.size : Int) > 60
        · rw [decide_eq_true h2, j2 true m (by simp)]; simp [h2]
        · rw [decide_eq_false h2, j2 false m (fun _ => ⟨by omega, by omega⟩)]; simp [h1, h2]
  show meta_Check.f (k + 10) a b c u g s n = _
  unfold meta_Check.f wrong
  by_cases h1 : a < 0
  · simp [meta_Check.j0, j1, h1]
  · by_cases h2 : a > 4095
    · simp [meta_Check.j0, j1, h1, h2]
    · by_cases h3 : b < 0
      · simp [meta_Check.j0, j1, h1, h2, h3]
      · by_cases h4 : b > 1125899906842624
        · simp [meta_Check.j0, j1, h1, h2, h3, h4]
        · by_cases h5 : c < 0
          · simp [meta_Check.j0, j1, h1, h2, h3, h4, h5]
          · by_cases h6 : c > 1125899906842624
            · simp [meta_Check.j0, j1, h1, h2, h3, h4, h5, h6]
            · simp [meta_Check.j0, j1, h1, h2, h3, h4, h5, h6]

theorem fault_ev (a b c : Int) (u g : ByteArray) (s n : Int) (hu : u.size ≤ 140737488351232) (hg : g.size ≤ 140737488351232) : Ev (fun k => creelref_MetaFault.f k a b c u g s n) (wrong a b c u g s n) := by
  obtain ⟨K1, e1⟩ := has_ev u 0 (by omega) (by omega) hu
  obtain ⟨K2, e2⟩ := has_ev g 0 (by omega) (by omega) hg
  replace e1 : ∀ k, K1 ≤ k → creelref_has.f k u 0 = some (u.data.toList.contains 0) := e1
  replace e2 : ∀ k, K2 ≤ k → creelref_has.f k g 0 = some (g.data.toList.contains 0) := e2
  refine ⟨max K1 K2 + 10, fun k hk => ?_⟩
  obtain ⟨k, rfl⟩ : ∃ m, k = m + 2 := ⟨k - 2, by omega⟩
  have j1 : ∀ (b1 : Bool), creelref_MetaFault.j1 (k + 1) b1 a b c u g s n = some (if b1 = true then 1 else if u.data.toList.contains 0 = true ∨ g.data.toList.contains 0 = true then 3
      else if s < -1099511627776 ∨ s > 1099511627776 ∨ n < 0 ∨ n > 999999999 then 4 else 0) := by
    intro b1
    simp only [creelref_MetaFault.j1]
    cases b1 with
    | true => simp
    | false =>
      simp only [Bool.false_eq_true, if_false]; rw [e1 k (by omega), e2 k (by omega)]
      simp only [Option.bind_some]
      by_cases h1 : u.data.toList.contains 0 = true
      · rw [if_pos h1, if_pos (.inl h1)]
      · rw [if_neg h1]
        by_cases h2 : g.data.toList.contains 0 = true
        · rw [if_pos h2, if_pos (.inr h2)]
        · rw [if_neg h2, if_neg (by rintro (h | h); exact h1 h; exact h2 h), time_is]; rfl
  have j0 : ∀ (b1 : Bool), creelref_MetaFault.j0 (k + 2) b1 a b c u g s n = some (if b1 = true then 4 else if (u.size : Int) > 60 ∨ (g.size : Int) > 60 then 1 else if u.data.toList.contains 0 = true ∨ g.data.toList.contains 0 = true then 3
      else if s < -1099511627776 ∨ s > 1099511627776 ∨ n < 0 ∨ n > 999999999 then 4 else 0) := by
    intro b1
    simp only [creelref_MetaFault.j0]
    cases b1 with
    | true => simp
    | false =>
      simp only [Bool.false_eq_true, if_false]
      by_cases h1 : (u.size : Int) > 60
      · rw [if_pos h1, j1]; simp [h1]
      · rw [if_neg h1]
        by_cases h2 : (g.size : Int) > 60
        · rw [decide_eq_true h2, j1]; simp [h2]
        · rw [decide_eq_false h2, j1]; simp [h1, h2]
  have hx : a ≥ 4096 ↔ a > 4095 := by omega
  show creelref_MetaFault.f (k + 2) a b c u g s n = _
  unfold creelref_MetaFault.f wrong
  by_cases h1 : a < 0
  · simp [j0, hx, h1]
  · by_cases h2 : a > 4095
    · simp [j0, hx, h1, h2]
    · by_cases h3 : b < 0
      · simp [j0, hx, h1, h2, h3]
      · by_cases h4 : b > 1125899906842624
        · simp [j0, hx, h1, h2, h3, h4]
        · by_cases h5 : c < 0
          · simp [j0, hx, h1, h2, h3, h4, h5]
          · by_cases h6 : c > 1125899906842624
            · simp [j0, hx, h1, h2, h3, h4, h5, h6]
            · simp [j0, hx, h1, h2, h3, h4, h5, h6]
end Go.Proofs.YtolbjjeoaeadcaaDoor.Q
