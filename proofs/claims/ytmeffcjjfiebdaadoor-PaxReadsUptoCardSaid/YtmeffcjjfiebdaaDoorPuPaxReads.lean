/- The plain law of PaxReads: what the walks compute answers true at every input that the row admits. No condition of its own. -/
import Derived.Test.YtmeffcjjfiebdaaDoorGPaxReads
import Derived.Test.YtmeffcjjfiebdaaDoorWPureBase
import Derived.Test.YtmeffcjjfiebdaaDoorQDigits
import Derived.Test.YtmeffcjjfiebdaaDoorQCutB
import Derived.Test.YtmeffcjjfiebdaaDoorQRecord
import Derived.Test.YtmeffcjjfiebdaaDoorQRecRead
import Derived.Test.YtmeffcjjfiebdaaDoorQPaxC
namespace Go.Proofs.YtmeffcjjfiebdaaDoor.PuPaxReads
set_option linter.unusedVariables false
set_option linter.unusedSimpArgs false
open Go.RowKit Go.Proofs.YtmeffcjjfiebdaaDoor.All Go.Proofs.YtmeffcjjfiebdaaDoor.GPaxReads Go.Proofs.YtmeffcjjfiebdaaDoorW.PrintWords Go.Proofs.YtmeffcjjfiebdaaDoorW.PrintLast Go.Proofs.YtmeffcjjfiebdaaDoorW.PrintMore Go.Proofs.YtmeffcjjfiebdaaDoorW.PureBase Go.Proofs.YtmeffcjjfiebdaaDoor.Q

/- pax.Read and the reference's PaxOf read the same. Condition: a text that the row admits. -/
-- USES Digits CutB Record RecRead PaxC
-- FN pax_Read creelref_PaxOf api_Record creellaw_sameRecords
theorem recs_from (l : List S47) (hl : l.length ≤ 1099511627776) (d : Nat) : ∀ (k i : Nat), i + d = l.length → d < k → api_Record.l0 k l l (l.length : Int) (i : Int) = some true := by
  induction d with
  | zero =>
    intro k i hi hk
    obtain ⟨k, rfl⟩ : ∃ q, k = q + 1 := ⟨k - 1, by omega⟩
    simp only [api_Record.l0]
    rw [if_neg (by omega)]
  | succ d ih =>
    intro k i hi hk
    obtain ⟨k, rfl⟩ : ∃ q, k = q + 1 := ⟨k - 1, by omega⟩
    have H := ih k (i + 1) (by omega) (by omega)
    have e1 : wrap64 ((i : Int) + 1) = ((i + 1 : Nat) : Int) := by rw [wrap_nat (by omega) (by omega)]; rfl
    simp only [api_Record.l0]
    rw [e1]
    clear e1
    rw [if_pos (show (i : Int) < (l.length : Int) by omega), if_pos (show (0 : Int) ≤ (i : Int) by omega), if_pos (show (i : Int) < (l.length : Int) by omega), if_pos (show (i : Int) < (l.length : Int) by omega), if_neg (by simp)]
    exact H
theorem recs_refl (l : List S47) (hl : l.length ≤ 1099511627776) (k : Nat) (hk : l.length < k) : creellaw_sameRecords.f k l l = some true := by
  unfold creellaw_sameRecords.f api_Record.f
  rw [if_pos rfl]
  have := recs_from l hl l.length k 0 (by omega) hk
  rw [show ((0 : Nat) : Int) = 0 from rfl] at this
  rw [this]
  rfl
theorem reads_from (d : Nat) : ∀ (s : ByteArray) (acc : List S47) (k : Nat), s.size = d → s.size + acc.length ≤ 1048576 → d + 40000 < k →
    ∃ r, pax_Read.l0 k s acc = some r ∧ creelref_PaxOf.l0 k s acc = some r ∧ r.1.length ≤ 1048576 := by
  induction d using Nat.strongRecOn with
  | ind d ih =>
    intro s acc k hd hb hk
    obtain ⟨k, rfl⟩ : ∃ q, k = q + 1 := ⟨k - 1, by omega⟩
    simp only [pax_Read.l0, creelref_PaxOf.l0]
    by_cases h0 : s.size = 0
    · have hnil : s.toList = ([] : List UInt8) := by
        rw [toList_data]
        exact List.length_eq_zero_iff.1 (by rw [size_list]; exact h0)
      obtain ⟨t, h1, h2, h3⟩ := paxchk acc k (by omega)
      rw [if_pos hnil, if_neg (by omega), h1, h2]
      iterate 2 (try rw [Option.bind_some])
      by_cases ht : t = 0
      · iterate 2 (try rw [if_pos ht])
        exact ⟨_, rfl, rfl, by show acc.length ≤ 1048576; omega⟩
      · iterate 2 (try rw [if_neg ht])
        exact ⟨_, rfl, rfl, Nat.zero_le _⟩
    · have hnil : ¬ s.toList = ([] : List UInt8) := by
        intro e
        rw [toList_data] at e
        apply h0
        rw [← size_list, e]
        rfl
      obtain ⟨r, h1, h2, h3⟩ := read_same s (by omega) k (by omega)
      rw [if_neg hnil, if_pos (by omega), h1, h2]
      iterate 2 (try rw [Option.bind_some])
      by_cases hr : r.2.2.2 = 0
      · obtain ⟨_, g1, _, _⟩ := h3 hr
        rw [if_pos hr, if_pos hr, if_pos (by omega), if_pos (by omega)]
        exact ih r.2.2.1.size (by omega) r.2.2.1 _ k rfl (by rw [List.length_append]; show _ + (acc.length + 1) ≤ _; omega) (by omega)
      · rw [if_neg hr, if_neg hr]
        exact ⟨_, rfl, rfl, Nat.zero_le _⟩
theorem pure : Pure := by
  intro s hs
  obtain ⟨r, h1, h2, h3⟩ := reads_from s.size s [] 1200000 rfl (by simp; omega) (by omega)
  refine ⟨1200000, ?_⟩
  unfold creellaw_PaxReads.f pax_Read.f creelref_PaxOf.f
  rw [h1, h2, Option.bind_some, Option.bind_some, recs_refl r.1 (by omega) _ (by omega), Option.bind_some]
  simp
end Go.Proofs.YtmeffcjjfiebdaaDoor.PuPaxReads
