/- Many records: pax.Check and the reference's PaxFault tell the same. No condition. -/
import Derived.Test.YtcipaajdmpkdfaaDoorWPureBase
import Derived.Test.YtcipaajdmpkdfaaDoorFPaxCheck
import Derived.Test.YtcipaajdmpkdfaaDoorFCreelrefPaxFault
import Derived.Test.YtcipaajdmpkdfaaDoorFRecordCheck
import Derived.Test.YtcipaajdmpkdfaaDoorFCreelrefRecordFault
import Derived.Test.YtcipaajdmpkdfaaDoorQDigits
import Derived.Test.YtcipaajdmpkdfaaDoorQHas
import Derived.Test.YtcipaajdmpkdfaaDoorQRecord
namespace Go.Proofs.YtcipaajdmpkdfaaDoor.Q
set_option linter.unusedVariables false
set_option linter.unusedSimpArgs false
open Go.RowKit Go.Proofs.YtcipaajdmpkdfaaDoor.All Go.Proofs.YtcipaajdmpkdfaaDoorW.PrintWords Go.Proofs.YtcipaajdmpkdfaaDoorW.PrintLast Go.Proofs.YtcipaajdmpkdfaaDoorW.PrintMore Go.Proofs.YtcipaajdmpkdfaaDoorW.PureBase

-- USES Digits Has Record
-- FN pax_Check creelref_PaxFault record_Check creelref_RecordFault
theorem less_nil (l : List UInt8) (h : l ≠ []) : Op.bytesLess [] l = true := by
  cases l with
  | nil => exact absurd rfl h
  | cons a l => rfl
theorem chk_ne (key value : ByteArray) (h : chk key value = 0) : key.toList ≠ [] := by
  intro e
  rw [toList_data] at e
  have hz : key.size = 0 := by rw [← size_list, e]; rfl
  rw [show chk key value = 1 from if_pos (.inl (by omega))] at h
  exact absurd h (by decide)
theorem paxchk_from (l : List S26) (hl : l.length ≤ 12) (d : Nat) : ∀ (k i : Nat), i + d = l.length → d + 700 < k →
    ∃ t, pax_Check.l0 k l l (l.length : Int) (i : Int) = some t ∧ creelref_PaxFault.l0 k (if i = 0 then (⟨#[]⟩ : ByteArray) else (rd_T26 l ((i - 1 : Nat) : Int)).f0) l (l.length : Int) (i : Int) = some t ∧ (t = 0 ∨ 0 < t) := by
  induction d with
  | zero =>
    intro k i hi hk
    obtain ⟨k, rfl⟩ : ∃ q, k = q + 1 := ⟨k - 1, by omega⟩
    refine ⟨0, ?_, ?_, .inl rfl⟩
    · simp only [pax_Check.l0]
      rw [if_neg (by omega)]
    · simp only [creelref_PaxFault.l0]
      rw [if_neg (by omega)]
  | succ d ih =>
    intro k i hi hk
    obtain ⟨k, rfl⟩ : ∃ q, k = q + 1 := ⟨k - 1, by omega⟩
    obtain ⟨c1, c2⟩ := chk_val (rd_T26 l (i : Int)).f0 (rd_T26 l (i : Int)).f1 k (by omega)
    obtain ⟨t, h1, h2, h3⟩ := ih k (i + 1) (by omega) (by omega)
    rw [if_neg (by omega), Nat.add_sub_cancel] at h2
    have e1 : wrap64 ((i : Int) + 1) = ((i + 1 : Nat) : Int) := by rw [wrap_nat (by omega) (by omega)]; rfl
    simp only [pax_Check.l0, creelref_PaxFault.l0]
    rw [c1, c2, e1]
    clear e1
    rw [if_pos (show (i : Int) < (l.length : Int) by omega), if_pos (show (0 : Int) ≤ (i : Int) by omega), if_pos (show (i : Int) < (l.length : Int) by omega), if_pos (show (i : Int) < (l.length : Int) by omega), if_pos (show (0 : Int) ≤ (i : Int) by omega), if_pos (show (i : Int) < (l.length : Int) by omega)]
    iterate 2 (try rw [Option.bind_some])
    by_cases h0 : chk (rd_T26 l (i : Int)).f0 (rd_T26 l (i : Int)).f1 = 0
    · rw [if_pos h0, if_pos h0]
      by_cases hi0 : i = 0
      · rw [if_neg (by omega), if_pos hi0]
        have hb : Op.bytesLess (⟨#[]⟩ : ByteArray).toList ((rd_T26 l (i : Int)).f0).toList = true := by
          have e : (⟨#[]⟩ : ByteArray).toList = [] := by rw [toList_data]
          rw [e]
          exact less_nil _ (chk_ne _ _ h0)
        rw [if_pos hb]
        exact ⟨t, h1, h2, h3⟩
      · have e2 : wrap64 ((i : Int) - 1) = ((i - 1 : Nat) : Int) := by rw [wrap_nat (by omega) (by omega)]; omega
        rw [if_pos (by omega), e2, if_neg hi0]
        clear e2
        rw [if_pos (by omega), if_pos (by omega)]
        split
        · exact ⟨t, h1, h2, h3⟩
        · exact ⟨6, rfl, rfl, .inr (by decide)⟩
    · rw [if_neg h0, if_neg h0]
      refine ⟨_, rfl, rfl, .inr ?_⟩
      unfold chk at h0 ⊢
      split
      · decide
      · rename_i c
        rw [if_neg c] at h0
        split
        · decide
        · rename_i c'
          rw [if_neg c'] at h0
          exact absurd rfl h0
theorem paxchk (l : List S26) (k : Nat) (hk : 800 < k) : ∃ t, pax_Check.f k l = some t ∧ creelref_PaxFault.f k l = some t ∧ (t = 0 → l.length ≤ 12) := by
  unfold pax_Check.f creelref_PaxFault.f
  by_cases h : l.length ≤ 12
  · obtain ⟨t, h1, h2, _⟩ := paxchk_from l h l.length k 0 (by omega) (by omega)
    rw [if_pos rfl] at h2
    rw [if_neg (by omega), if_neg (by omega)]
    exact ⟨t, h1, h2, fun _ => h⟩
  · rw [if_pos (by omega), if_pos (by omega)]
    exact ⟨1, rfl, rfl, fun e => absurd e (by decide)⟩
end Go.Proofs.YtcipaajdmpkdfaaDoor.Q
