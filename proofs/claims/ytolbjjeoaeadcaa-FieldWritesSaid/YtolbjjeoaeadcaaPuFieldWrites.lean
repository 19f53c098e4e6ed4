/- The plain law of FieldWrites: what the walks compute answers true at every input that the row admits. No condition of its own. -/
import Derived.Test.YtolbjjeoaeadcaaGFieldWrites
import Derived.Test.YtolbjjeoaeadcaaWPureBase
import Derived.Test.YtolbjjeoaeadcaaQHas
import Derived.Test.YtolbjjeoaeadcaaQZeros
namespace Go.Proofs.Ytolbjjeoaeadcaa.PuFieldWrites
set_option linter.unusedVariables false
set_option linter.unusedSimpArgs false
open Go.RowKit Go.Proofs.Ytolbjjeoaeadcaa.All Go.Proofs.Ytolbjjeoaeadcaa.GFieldWrites Go.Proofs.YtolbjjeoaeadcaaW.PrintWords Go.Proofs.YtolbjjeoaeadcaaW.PrintLast Go.Proofs.YtolbjjeoaeadcaaW.PrintMore Go.Proofs.YtolbjjeoaeadcaaW.PureBase Go.Proofs.Ytolbjjeoaeadcaa.Q

-- USES Has Zeros
-- FN field_Write creelref_FieldText strings_IndexByte strings_Repeat
theorem idx0w (t : ByteArray) : (Lib.indexByte t.data.toList ((0 : Int).toNat.toUInt8) ≥ 0) ↔ t.data.toList.contains 0 = true := by
  have := index_ge t.data.toList ((0 : Int).toNat.toUInt8)
  rw [← decide_eq_true_iff (p := Lib.indexByte t.data.toList ((0 : Int).toNat.toUInt8) ≥ 0), this]; rfl
theorem rep_zero (n : Nat) : Lib.repeatL [(0 : UInt8)] n = List.replicate n 0 := by
  induction n with
  | zero => rfl
  | succ n ih => rw [List.replicate_succ, ← ih]; rfl
theorem rep_is (n : Nat) (hn : n ≤ 512) : strings_Repeat.f (⟨#[0]⟩ : ByteArray) (n : Int) = some (zs n) := by
  unfold strings_Repeat.f
  rw [if_pos (by
    refine ⟨by omega, by omega, ?_⟩
    have : ((⟨#[0]⟩ : ByteArray)).size = 1 := rfl
    rw [this]; omega)]
  have : Lib.repeatL (⟨#[0]⟩ : ByteArray).data.toList (n : Int).toNat = List.replicate n 0 := rep_zero n
  rw [this]; rfl
def fieldR (s : ByteArray) (w : Int) (b : Bool) : ByteArray × Int :=
  if w < 1 ∨ 512 < w then (⟨#[]⟩, 4) else if (s.size : Int) > w ∨ (b = false ∧ (s.size : Int) = w) then (⟨#[]⟩, 1) else if s.data.toList.contains 0 = true then (⟨#[]⟩, 3) else (s ++ zs (w - s.size).toNat, 0)
theorem write_j1 (k : Nat) (s : ByteArray) (w m : Int) (b : Bool) (h1 : 1 ≤ w) (h2 : w ≤ 512) (hm : (s.size : Int) > m ↔ ((s.size : Int) > w ∨ (b = false ∧ (s.size : Int) = w))) : field_Write.j1 (k + 1) s w m = some (fieldR s w b) := by
  unfold fieldR
  simp only [field_Write.j1]
  rw [if_neg (show ¬ (w < 1 ∨ 512 < w) by omega)]
  by_cases c : (s.size : Int) > m
  · rw [if_pos c, if_pos (hm.1 c)]
  · have c' := fun h => c (hm.2 h)
    have hle : ¬ (s.size : Int) > w := fun h => c' (Or.inl h)
    rw [if_neg c, if_neg c']
    simp only [strings_IndexByte.f, Option.bind_some]
    by_cases z : s.data.toList.contains 0 = true
    · rw [if_pos ((idx0w s).2 z), if_pos z]
    · rw [if_neg (fun h => z ((idx0w s).1 h)), if_neg z]
      obtain ⟨n, hn⟩ : ∃ n : Nat, w - (s.size : Int) = (n : Int) := ⟨(w - (s.size : Int)).toNat, by omega⟩
      rw [hn, wrap_is (by omega) (by omega), rep_is n (by omega)]
      simp only [Option.bind_some]
      rw [if_pos (by rw [zs_size]; omega)]
      rfl
theorem write_is (s : ByteArray) (w : Int) (b : Bool) (k : Nat) (hk : 3 < k) : field_Write.f k s w b = some (fieldR s w b) := by
  obtain ⟨k, rfl⟩ : ∃ m, k = m + 2 := ⟨k - 2, by omega⟩
  unfold field_Write.f
  by_cases h1 : w < 1
  · rw [if_pos h1]
    simp only [field_Write.j0, if_true]
    unfold fieldR
    rw [if_pos (Or.inl h1)]
  · rw [if_neg h1]
    simp only [field_Write.j0]
    by_cases h2 : w > 512
    · rw [decide_eq_true h2, if_pos rfl]
      unfold fieldR
      rw [if_pos (Or.inr h2)]
    · rw [decide_eq_false h2, if_neg (show ¬ (false = true) by simp)]
      cases b with
      | true =>
        rw [if_pos rfl]
        exact write_j1 k s w w true (by omega) (by omega) (by simp)
      | false =>
        rw [if_neg (show ¬ (false = true) by simp), wrap_is (by omega) (by omega)]
        refine write_j1 k s w (w - 1) false (by omega) (by omega) ⟨fun h => ?_, fun h => ?_⟩
        · have : (s.size : Int) > w ∨ (s.size : Int) = w := by omega
          exact this.imp id (fun e => ⟨rfl, e⟩)
        · rcases h with h | ⟨_, h⟩ <;> omega
theorem text_j1 (k : Nat) (s : ByteArray) (w : Int) (x b : Bool) (hk : 600 < k) (h1 : 1 ≤ w) (h2 : w ≤ 512) (hh : creelref_has.f k s 0 = some (s.data.toList.contains 0)) (hx : x = true ↔ ((s.size : Int) > w ∨ (b = false ∧ (s.size : Int) = w))) : creelref_FieldText.j1 (k + 1) s w x = some (fieldR s w b) := by
  unfold fieldR
  simp only [creelref_FieldText.j1]
  rw [if_neg (show ¬ (w < 1 ∨ 512 < w) by omega)]
  by_cases c : x = true
  · rw [if_pos c, if_pos (hx.1 c)]
  · have c' := fun h => c (hx.2 h)
    have hle : ¬ (s.size : Int) > w := fun h => c' (Or.inl h)
    rw [if_neg c, if_neg c', hh]
    simp only [Option.bind_some]
    by_cases z : s.data.toList.contains 0 = true
    · rw [if_pos z, if_pos z]
    · rw [if_neg z, if_neg z]
      obtain ⟨n, hn⟩ : ∃ n : Nat, w - (s.size : Int) = (n : Int) := ⟨(w - (s.size : Int)).toNat, by omega⟩
      rw [hn, wrap_is (by omega) (by omega), zeros_is n k (by omega) (by omega)]
      simp only [Option.bind_some]
      rw [if_pos (by rw [zs_size]; omega)]
      rfl
theorem text_is (s : ByteArray) (w : Int) (b : Bool) (k : Nat) (hk : 700 < k) (hh : ∀ q, k ≤ q + 5 → creelref_has.f q s 0 = some (s.data.toList.contains 0)) : creelref_FieldText.f k s w b = some (fieldR s w b) := by
  obtain ⟨k, rfl⟩ : ∃ m, k = m + 2 := ⟨k - 2, by omega⟩
  have hh := hh k (by omega)
  unfold creelref_FieldText.f
  by_cases h1 : w < 1
  · rw [if_pos h1]
    simp only [creelref_FieldText.j0, if_true]
    unfold fieldR
    rw [if_pos (Or.inl h1)]
  · rw [if_neg h1]
    simp only [creelref_FieldText.j0]
    by_cases h2 : w > 512
    · rw [decide_eq_true h2, if_pos rfl]
      unfold fieldR
      rw [if_pos (Or.inr h2)]
    · rw [decide_eq_false h2, if_neg (show ¬ (false = true) by simp)]
      by_cases g : (s.size : Int) > w
      · rw [if_pos g]
        exact text_j1 k s w true b (by omega) (by omega) (by omega) hh ⟨fun _ => Or.inl g, fun _ => rfl⟩
      · rw [if_neg g]
        cases b with
        | true =>
          rw [if_pos rfl]
          exact text_j1 k s w false true (by omega) (by omega) (by omega) hh (by simp; omega)
        | false =>
          rw [if_neg (show ¬ (false = true) by simp)]
          refine text_j1 k s w _ false (by omega) (by omega) (by omega) hh ⟨fun h => Or.inr ⟨rfl, beq_iff_eq.mp h⟩, fun h => ?_⟩
          rcases h with h | ⟨_, h⟩
          · exact absurd h g
          · exact beq_iff_eq.mpr h
theorem pure : Pure := by
  intro s w b hs _ _
  obtain ⟨K, hK⟩ := has_ev s 0 (by omega) (by omega) hs
  replace hK : ∀ k, K ≤ k → creelref_has.f k s 0 = some (s.data.toList.contains 0) := hK
  refine ⟨K + 800, ?_⟩
  unfold creellaw_FieldWrites.f
  rw [write_is s w b (K + 800) (by omega), text_is s w b (K + 800) (by omega) (fun q hq => hK q (by omega))]
  simp
end Go.Proofs.Ytolbjjeoaeadcaa.PuFieldWrites
