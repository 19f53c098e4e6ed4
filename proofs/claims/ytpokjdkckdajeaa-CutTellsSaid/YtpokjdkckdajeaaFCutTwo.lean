/- Made by a program of the prover (over the print of the kit): a Lean function with the answers of a Go function, and the proof that the call comes to them; conditions: those in the statements alone. -/
import Derived.Test.YtpokjdkckdajeaaK
import Derived.Test.YtpokjdkckdajeaaFStringsIndexByte
namespace Go.Proofs.Ytpokjdkckdajeaa.All
open Go.RowKit Go.Proofs.YtpokjdkckdajeaaW.PrintWords Go.Proofs.YtpokjdkckdajeaaW.PrintLast Go.Proofs.YtpokjdkckdajeaaW.PrintMore
attribute [local go_sem] max2_int min2_int max_two min_two max_three min_three max_four min_four   -- for this text's walks alone
set_option linter.unusedVariables false
set_option linter.unusedSimpArgs false

/-! ### cut_Two: function 27 -/
/-- Is a sign of a path a place to cut? -/
def cut_Two.here (s : ByteArray) (i : Nat) : Bool := bt s i == 47 && decide (0 < i) && decide (i ≤ 155) && decide (i + 1 < s.size) && decide (s.size ≤ i + 101)
def cut_Two.l0 : Nat → ByteArray → Nat → Option (ByteArray × ByteArray × Int)
  | 0, _, _ => none
  | k + 1, s, i => if i < s.size then (if cut_Two.here s i = true then some (s.extract 0 i, s.extract (i + 1) s.size, 0) else cut_Two.l0 k s (i + (Utf8.decode s i).2)) else some ((⟨#[]⟩ : ByteArray), (⟨#[]⟩ : ByteArray), 1)
def cut_Two.f (k : Nat) (a0 : ByteArray) : Option (ByteArray × ByteArray × Int) := if a0.size ≤ 9223372036854775807 then (if a0.toList = ([] : List UInt8) then some ((⟨#[]⟩ : ByteArray), (⟨#[]⟩ : ByteArray), 3) else ((strings_IndexByte.f a0 0).bind fun t => (if t ≥ 0 then some ((⟨#[]⟩ : ByteArray), (⟨#[]⟩ : ByteArray), 3) else if (a0.size : Int) ≤ 100 then some ((⟨#[]⟩ : ByteArray), a0, 0) else cut_Two.l0 k a0 0))) else none
theorem cut_Two.mono_l : ∀ k s i, LeO (cut_Two.l0 k s i) (cut_Two.l0 (k + 1) s i)
  | 0, _, _ => fun r h => by simp [cut_Two.l0] at h
  | k + 1, s, i => by
    unfold cut_Two.l0
    exact LeO.ite (LeO.ite (LeO.refl _) (cut_Two.mono_l k s _)) (LeO.refl _)
theorem cut_Two.mono : ∀ a0 k, LeO (cut_Two.f k a0) (cut_Two.f (k + 1) a0) := by
  intro a0 k
  unfold cut_Two.f
  exact LeO.ite (LeO.ite (LeO.refl _) (LeO.bind (LeO.refl _) fun t => LeO.ite (LeO.refl _) (LeO.ite (LeO.refl _) (cut_Two.mono_l k a0 0)))) (LeO.none _)
set_option maxHeartbeats 4000000 in
set_option maxRecDepth 100000 in
theorem cut_Two.calls (k : Nat) (a0 : ByteArray) (r1 : ByteArray) (r2 : ByteArray) (r3 : Int) (w : World) (h : cut_Two.f k a0 = some (r1, r2, r3)) :
    Calls Try.prog 27 #[.string a0] w fun e w' => e = .returned (.tuple #[.string r1, .string r2, .int .i64 r3]) ∧ Below w.heap.size w w' := by
  unfold cut_Two.f at h
  by_cases hsz : a0.size ≤ 9223372036854775807
  rotate_left
  · rw [if_neg hsz] at h; cases h
  rw [if_pos hsz] at h
  have cI := fun t (A : strings_IndexByte.f a0 0 = some t) (W : World) => strings_IndexByte.calls a0 0 t W A
  by_cases c1 : a0.toList = ([] : List UInt8)
  · rw [if_pos c1] at h
    simp only [Option.some.injEq, Prod.mk.injEq] at h
    obtain ⟨rfl, rfl, rfl⟩ := h
    go_enter Try.func27, Try.ntmps27
    go_wp2_with fail
    go_ret3
    exact ⟨rfl, Below.refl _ _⟩
  · rw [if_neg c1] at h
    have c1a : (a0.toList == ([] : List UInt8)) = false := beq_eq_false_iff_ne.2 c1
    have c1b : a0.toList.isEmpty = false := by simpa using c1
    obtain ⟨t, A0, h⟩ := Option.bind_eq_some_iff.1 h
    have A := Aside0.mk A0
    clear A0
    by_cases c2 : t ≥ 0
    · rw [if_pos c2] at h
      simp only [Option.some.injEq, Prod.mk.injEq] at h
      obtain ⟨rfl, rfl, rfl⟩ := h
      have c2b : decide (0 ≤ t) = true := decide_eq_true c2
      clear c1
      go_enter Try.func27, Try.ntmps27
      go_wp2_with (go_at_call 45; refine (cI t A.out _).mono ?_; rintro e w' ⟨rfl, ⟨nd, rfl⟩⟩)
      go_ret3
      exact ⟨rfl, pw_below_drewN (Below.refl _ _) _⟩
    · rw [if_neg c2] at h
      have c2b : decide (0 ≤ t) = false := decide_eq_false c2
      clear c1 c2
      by_cases c3 : (a0.size : Int) ≤ 100
      · rw [if_pos c3] at h
        simp only [Option.some.injEq, Prod.mk.injEq] at h
        obtain ⟨rfl, rfl, rfl⟩ := h
        have c3b : decide ((a0.size : Int) ≤ 100) = true := decide_eq_true c3
        go_enter Try.func27, Try.ntmps27
        go_wp2_with (go_at_call 45; refine (cI t A.out _).mono ?_; rintro e w' ⟨rfl, ⟨nd, rfl⟩⟩)
        go_ret3
        exact ⟨rfl, pw_below_drewN (Below.refl _ _) _⟩
      · rw [if_neg c3] at h
        have c3b : decide ((a0.size : Int) ≤ 100) = false := decide_eq_false c3
        have H := Aside0.mk h
        clear h
        go_enter Try.func27, Try.ntmps27
        go_wp2_with (go_at_call 45; refine (cI t A.out _).mono ?_; rintro e w' ⟨rfl, ⟨nd, rfl⟩⟩)
        clear cI A c2b c3b c1a c1b
        go_loopg [] k (fun kq wx => ∃ pos : Nat, wx.heap[w.heap.size]? = some (.stringIter a0 pos) ∧ Aside0 (cut_Two.l0 kq a0 pos = some (r1, r2, r3)) ∧ Aside0 (Below w.heap.size w wx))
        case atStart => exact ⟨0, by simpa using World.iter_heap (w.drewN nd) a0 0, H, ⟨(pw_below_drewN (Below.refl _ _) _).alloc (by simp) _⟩⟩
        case round =>
          clear H
          obtain ⟨pos, hit, HA, HB⟩ := hrel
          cases gk with
          | zero => exact absurd HA.out (by simp [cut_Two.l0])
          | succ k1 =>
            have h := HA.out
            clear HA
            simp only [cut_Two.l0] at h
            by_cases hps : pos < a0.size
            · rw [if_pos hps] at h
              have hwd := Lib.width_pos a0 pos
              have hnx : ∀ ty, (Instr.next (.pointer (some ⟨w.heap.size, 0, none⟩)) true ty).run Try.prog wr = _ := fun ty => Lib.run_next_any_at wr w.heap.size a0 pos ty hit hps
              obtain ⟨R, hR⟩ : ∃ R, (Utf8.decode a0 pos).1 = R := ⟨_, rfl⟩
              obtain ⟨K, hK⟩ : ∃ K, (Utf8.decode a0 pos).2 = K := ⟨_, rfl⟩
              rw [hR, hK] at hnx
              rw [hK] at hwd h
              clear hR hK
              have hit2 := Lib.iterAt_heap wr w.heap.size a0 pos (pos + K) hit
              have HB2 := Aside0.mk (Lib.below_iterAt HB.out (k := w.heap.size) (Nat.le_refl _) a0 (pos + K))
              clear HB hit
              obtain ⟨W, hWd⟩ : ∃ W, wr.iterAt w.heap.size a0 (pos + K) = W := ⟨_, rfl⟩
              rw [hWd] at hnx hit2 HB2
              clear hWd
              obtain ⟨B, hB⟩ : ∃ B, bt a0 (pos : Int) = B := ⟨_, rfl⟩
              have hbt : ((a0[pos]'hps).toNat : Int) = B := by rw [← hB]; exact bt_at a0 pos (by simpa using hps)
              have hH : cut_Two.here a0 pos = (B == 47 && decide (0 < pos) && decide (pos ≤ 155) && decide (pos + 1 < a0.size) && decide (a0.size ≤ pos + 101)) := by unfold cut_Two.here; rw [hB]
              rw [hH] at h
              clear hH hB
              have e1 : IntKind.i64.wrap ((a0.size : Int) - (pos : Int)) = (a0.size : Int) - pos := by rw [i64_w]; unfold wrap64; omega
              by_cases t1 : B = 47
              · have t1b : (B == 47) = true := beq_iff_eq.2 t1
                clear t1
                by_cases t2 : 0 < pos
                · have t2b : decide ((0 : Int) < (pos : Int)) = true := decide_eq_true (by omega)
                  by_cases t3 : pos ≤ 155
                  · have t3b : decide ((pos : Int) ≤ 155) = true := decide_eq_true (by omega)
                    by_cases t4 : pos + 1 < a0.size
                    · have t4b : decide ((0 : Int) < (a0.size : Int) - (pos : Int) - 1) = true := decide_eq_true (by omega)
                      by_cases t5 : a0.size ≤ pos + 101
                      · have t5b : decide ((a0.size : Int) - (pos : Int) - 1 ≤ 100) = true := decide_eq_true (by omega)
                        have h' := h
                        rw [t1b, decide_eq_true t2, decide_eq_true t3, decide_eq_true t4, decide_eq_true t5] at h'
                        simp only [Bool.and_self, if_true, Option.some.injEq, Prod.mk.injEq] at h'
                        obtain ⟨rfl, rfl, rfl⟩ := h'
                        clear h
                        go_wp2
                        go_quiet (fail)
                        go_wp2
                        go_ret3
                        exact ⟨by simp, pw_below_drewN HB2.out _⟩
                      · have t5b : decide ((a0.size : Int) - (pos : Int) - 1 ≤ 100) = false := decide_eq_false (by omega)
                        rw [t1b, decide_eq_true t2, decide_eq_true t3, decide_eq_true t4, decide_eq_false t5] at h
                        simp only [Bool.and_false, Bool.false_and, Bool.false_eq_true, if_false] at h
                        have h' := Aside0.mk h
                        clear h
                        go_wp2
                        go_roundg k1
                        case measure => omega
                        case rel => exact ⟨pos + K, hit2, h', HB2⟩
                    · have t4b : decide ((0 : Int) < (a0.size : Int) - (pos : Int) - 1) = false := decide_eq_false (by omega)
                      rw [t1b, decide_eq_true t2, decide_eq_true t3, decide_eq_false t4] at h
                      simp only [Bool.and_false, Bool.false_and, Bool.false_eq_true, if_false] at h
                      have h' := Aside0.mk h
                      clear h
                      go_wp2
                      go_roundg k1
                      case measure => omega
                      case rel => exact ⟨pos + K, hit2, h', HB2⟩
                  · have t3b : decide ((pos : Int) ≤ 155) = false := decide_eq_false (by omega)
                    rw [t1b, decide_eq_true t2, decide_eq_false t3] at h
                    simp only [Bool.and_false, Bool.false_and, Bool.false_eq_true, if_false] at h
                    have h' := Aside0.mk h
                    clear h
                    go_wp2
                    go_roundg k1
                    case measure => omega
                    case rel => exact ⟨pos + K, hit2, h', HB2⟩
                · have t2b : decide ((0 : Int) < (pos : Int)) = false := decide_eq_false (by omega)
                  rw [t1b, decide_eq_false t2] at h
                  simp only [Bool.and_false, Bool.false_and, Bool.false_eq_true, if_false] at h
                  have h' := Aside0.mk h
                  clear h
                  go_wp2
                  go_roundg k1
                  case measure => omega
                  case rel => exact ⟨pos + K, hit2, h', HB2⟩
              · have t1b : (B == 47) = false := beq_eq_false_iff_ne.2 t1
                rw [t1b] at h
                simp only [Bool.and_false, Bool.false_and, Bool.false_eq_true, if_false] at h
                have h' := Aside0.mk h
                clear h t1
                go_wp2
                go_roundg k1
                case measure => omega
                case rel => exact ⟨pos + K, hit2, h', HB2⟩
            · rw [if_neg hps] at h
              simp only [Option.some.injEq, Prod.mk.injEq] at h
              obtain ⟨rfl, rfl, rfl⟩ := h
              have hnx : ∀ ty, (Instr.next (.pointer (some ⟨w.heap.size, 0, none⟩)) true ty).run Try.prog wr = _ := fun ty => Lib.run_next_end_at wr w.heap.size a0 pos ty hit hps
              go_wp2
              go_ret3
              exact ⟨rfl, HB.out⟩


end Go.Proofs.Ytpokjdkckdajeaa.All
