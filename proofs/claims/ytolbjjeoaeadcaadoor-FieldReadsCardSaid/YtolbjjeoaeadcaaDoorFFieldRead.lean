/- Made by a program of the prover (over the print of the kit): a Lean function with the answers of a Go function, and the proof that the call comes to them; conditions: those in the statements alone. -/
import Derived.Test.YtolbjjeoaeadcaaDoorK
import Derived.Test.YtolbjjeoaeadcaaDoorFStringsIndexByte
import Derived.Test.YtolbjjeoaeadcaaDoorFStringsTrim
namespace Go.Proofs.YtolbjjeoaeadcaaDoor.All
open Go.RowKit Go.Proofs.YtolbjjeoaeadcaaDoorW.PrintWords Go.Proofs.YtolbjjeoaeadcaaDoorW.PrintLast Go.Proofs.YtolbjjeoaeadcaaDoorW.PrintMore
open Go.Proofs.YtolbjjeoaeadcaaDoorW.Mine
attribute [local go_sem] gtr_string leq_string geq_string
attribute [local go_sem] max2_int min2_int max_two min_two max_three min_three max_four min_four   -- for this text's walks alone
set_option linter.unusedVariables false
set_option linter.unusedSimpArgs false

/-! ### field_Read: function 23 -/
/-- The text of a field: up to the first byte 0, behind which there is nothing else. -/
def field_Read.f (a0 : ByteArray) (a1 : Bool) : Option (ByteArray × Int) := some (
  if a0.size < 1 ∨ 512 < a0.size then ((⟨#[]⟩ : ByteArray), 4)
  else if 0 ≤ Lib.indexByte a0.data.toList 0 then
    (if Lib.trimB (a0.extract (Lib.indexByte a0.data.toList 0).toNat a0.size).data.toList 0 = [] then (a0.extract 0 (Lib.indexByte a0.data.toList 0).toNat, 0) else ((⟨#[]⟩ : ByteArray), 3))
  else if a1 = true then (a0, 0) else ((⟨#[]⟩ : ByteArray), 3))
set_option maxHeartbeats 2000000 in
set_option maxRecDepth 100000 in
theorem field_Read.calls (a0 : ByteArray) (a1 : Bool) (r1 : ByteArray) (r2 : Int) (w : World) (h : field_Read.f a0 a1 = some (r1, r2)) :
    Calls Tryd.prog 23 #[.string a0, .bool a1] w fun e w' => e = .returned (.tuple #[.string r1, .int .i64 r2]) ∧ Drawn0 w w' := by
  have cI := fun (t : Int) (A : strings_IndexByte.f a0 0 = some t) (W : World) => strings_IndexByte.calls a0 0 t W A
  have cT := fun (x t : ByteArray) (A : strings_Trim.f x ⟨#[0]⟩ = some t) (W : World) => strings_Trim.calls x ⟨#[0]⟩ t W A
  unfold field_Read.f at h
  have h := Option.some.inj h
  by_cases c1 : a0.size < 1 ∨ 512 < a0.size
  · rw [if_pos c1] at h
    simp only [Prod.mk.injEq] at h
    obtain ⟨rfl, rfl⟩ := h
    by_cases c2 : a0.size < 1
    · have c2a : decide ((a0.size : Int) < 1) = true := decide_eq_true (by omega)
      go_enter Tryd.func23, Tryd.ntmps23
      go_wp2
      go_ret2
      exact ⟨rfl, Drawn0.refl _⟩
    · have c2a : decide ((a0.size : Int) < 1) = false := decide_eq_false (by omega)
      have c3a : decide ((512 : Int) < (a0.size : Int)) = true := decide_eq_true (by omega)
      clear c1 c2
      go_enter Tryd.func23, Tryd.ntmps23
      go_wp2
      go_ret2
      exact ⟨rfl, Drawn0.refl _⟩
  · rw [if_neg c1] at h
    have c2a : decide ((a0.size : Int) < 1) = false := decide_eq_false (by omega)
    have c3a : decide ((512 : Int) < (a0.size : Int)) = false := decide_eq_false (by omega)
    have hsz : a0.size ≤ 9223372036854775807 := by omega
    clear c1
    obtain ⟨t, ht⟩ : ∃ t, Lib.indexByte a0.data.toList 0 = t := ⟨_, rfl⟩
    have A : Aside0 (strings_IndexByte.f a0 0 = some t) := ⟨by unfold strings_IndexByte.f; rw [show (0 : Int).toNat.toUInt8 = (0 : UInt8) from rfl, ht]⟩
    by_cases c4 : 0 ≤ t
    · obtain ⟨n, rfl⟩ := Int.eq_ofNat_of_zero_le c4
      have hn := (Lib.indexByte_some ht).1
      have hlt : n < a0.size := by
        have := (List.getElem?_eq_some_iff.1 hn).1
        simpa using this
      rw [ht, if_pos c4, Int.toNat_natCast] at h
      clear hn ht
      have c4a : decide ((0 : Int) ≤ (n : Int)) = true := decide_eq_true c4
      have hrs : (a0.extract n a0.size).size ≤ 9223372036854775807 := by rw [ByteArray.size_extract]; omega
      have hre : ((a0.extract n a0.size).toList == ([] : List UInt8)) = false := by
        rw [beq_eq_false_iff_ne]
        intro e
        have := congrArg List.length e
        rw [ByteArray.toList_eq] at this
        simp only [List.length_nil, Array.length_toList] at this
        have e2 : (a0.extract n a0.size).size = 0 := this
        rw [ByteArray.size_extract] at e2
        omega
      have hre2 : (a0.extract n a0.size).toList.isEmpty = false := by
        simpa using hre
      have n1 : (n : Int) ≤ a0.size := by omega
      have n2 : n ≤ a0.size := by omega
      obtain ⟨R, hR⟩ : ∃ R, a0.extract n a0.size = R := ⟨_, rfl⟩
      have B : Aside0 (strings_Trim.f R ⟨#[0]⟩ = some ⟨(Lib.trimB R.data.toList 0).toArray⟩) := ⟨by unfold strings_Trim.f; simp only; rw [if_pos ⟨by decide, by rw [← hR]; exact hrs⟩]⟩
      rw [hR] at h hre hre2
      clear hrs c4
      obtain ⟨T, hT⟩ : ∃ T, Lib.trimB R.data.toList 0 = T := ⟨_, rfl⟩
      rw [hT] at h B
      clear hT
      by_cases c5 : T = []
      · rw [if_pos c5] at h
        subst c5
        simp only [Prod.mk.injEq] at h
        obtain ⟨rfl, rfl⟩ := h
        go_enter Tryd.func23, Tryd.ntmps23
        go_wp2_with (go_at_call 83; refine (cI _ A.out _).mono ?_; rintro e w' ⟨rfl, ⟨nd, rfl⟩⟩)
        go_quiet (fail)
        go_wp2_with (go_at_call 84; refine (cT _ _ B.out _).mono ?_; rintro e w' ⟨rfl, ⟨nd2, rfl⟩⟩)
        go_ret2
        exact ⟨by first | rfl | simp, by repeat (first | exact Drawn0.refl _ | apply Drawn0.step)⟩
      · rw [if_neg c5] at h
        have c5a : ((⟨T.toArray⟩ : ByteArray).toList == ([] : List UInt8)) = false := by
          rw [beq_eq_false_iff_ne, ByteArray.toList_eq]
          simpa using c5
        have c5b : (⟨T.toArray⟩ : ByteArray).toList.isEmpty = false := by simpa using c5a
        simp only [Prod.mk.injEq] at h
        obtain ⟨rfl, rfl⟩ := h
        obtain ⟨S, hS⟩ : ∃ S : ByteArray, (⟨T.toArray⟩ : ByteArray) = S := ⟨_, rfl⟩
        rw [hS] at B c5a c5b
        clear hS c5
        go_enter Tryd.func23, Tryd.ntmps23
        go_wp2_with (go_at_call 83; refine (cI _ A.out _).mono ?_; rintro e w' ⟨rfl, ⟨nd, rfl⟩⟩)
        go_quiet (fail)
        go_wp2_with (go_at_call 84; refine (cT _ _ B.out _).mono ?_; rintro e w' ⟨rfl, ⟨nd2, rfl⟩⟩)
        go_ret2
        exact ⟨by first | rfl | simp, by repeat (first | exact Drawn0.refl _ | apply Drawn0.step)⟩
    · rw [ht, if_neg c4] at h
      clear ht
      have c4a : decide ((0 : Int) ≤ t) = false := decide_eq_false c4
      have B : Aside0 (strings_Trim.f ⟨#[]⟩ ⟨#[0]⟩ = some ⟨#[]⟩) := ⟨by decide +kernel⟩
      clear c4
      cases a1 with
      | true =>
        simp only [if_true, Prod.mk.injEq] at h
        obtain ⟨rfl, rfl⟩ := h
        go_enter Tryd.func23, Tryd.ntmps23
        go_wp2_with (first | (go_at_call 83; refine (cI _ A.out _).mono ?_; rintro e w' ⟨rfl, ⟨nd, rfl⟩⟩) | (go_at_call 84; refine (cT _ _ B.out _).mono ?_; rintro e w' ⟨rfl, ⟨nd2, rfl⟩⟩))
        go_ret2
        exact ⟨by first | rfl | simp, by repeat (first | exact Drawn0.refl _ | apply Drawn0.step)⟩
      | false =>
        simp only [Bool.false_eq_true, if_false, Prod.mk.injEq] at h
        obtain ⟨rfl, rfl⟩ := h
        go_enter Tryd.func23, Tryd.ntmps23
        go_wp2_with (first | (go_at_call 83; refine (cI _ A.out _).mono ?_; rintro e w' ⟨rfl, ⟨nd, rfl⟩⟩) | (go_at_call 84; refine (cT _ _ B.out _).mono ?_; rintro e w' ⟨rfl, ⟨nd2, rfl⟩⟩))
        go_ret2
        exact ⟨by first | rfl | simp, by repeat (first | exact Drawn0.refl _ | apply Drawn0.step)⟩


end Go.Proofs.YtolbjjeoaeadcaaDoor.All
