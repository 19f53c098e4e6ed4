/- Made by a program of the prover (over the print of the kit): a Lean function with the answers of a Go function, and the proof that the call comes to them; conditions: those in the statements alone. -/
import Derived.Test.YtmcofelbcjgagaaK
import Derived.Test.YtmcofelbcjgagaaFCreelrefPower
namespace Go.Proofs.Ytmcofelbcjgagaa.All
open Go.RowKit Go.Proofs.YtmcofelbcjgagaaW.PrintWords Go.Proofs.YtmcofelbcjgagaaW.PrintLast Go.Proofs.YtmcofelbcjgagaaW.PrintMore
open Go.Proofs.YtmcofelbcjgagaaW.Mine
attribute [local go_sem] gtr_string leq_string geq_string
attribute [local go_sem] max2_int min2_int max_two min_two max_three min_three max_four min_four   -- for this text's walks alone
set_option linter.unusedVariables false
set_option linter.unusedSimpArgs false

/-! ### creelref_ModeText: function 7 -/
/-- What may be done, as a text. -/
def creelref_ModeText.f (a0 : Int) : Option (ByteArray × Int) := if 0 ≤ a0 ∧ a0 ≤ 4095 then some (modeText a0.toNat, 0) else some ((⟨#[]⟩ : ByteArray), 4)
def creelref_ModeText.pref (m i : Nat) : ByteArray := ⟨((List.range (3 * i)).map fun j => (modeChr m j).toUInt8).toArray⟩
def creelref_ModeText.lits : Array Value := #[.string ⟨#[45, 45, 45]⟩, .string ⟨#[45, 45, 120]⟩, .string ⟨#[45, 119, 45]⟩, .string ⟨#[45, 119, 120]⟩, .string ⟨#[114, 45, 45]⟩, .string ⟨#[114, 45, 120]⟩, .string ⟨#[114, 119, 45]⟩, .string ⟨#[114, 119, 120]⟩]
def creelref_ModeText.tri (b : Nat) : ByteArray := ⟨#[(if b / 4 % 2 = 1 then 114 else 45), (if b / 2 % 2 = 1 then 119 else 45), (if b % 2 = 1 then 120 else 45)]⟩
theorem creelref_ModeText.lits_at (b : Nat) (hb : b < 8) : creelref_ModeText.lits[b]? = some (.string (creelref_ModeText.tri b)) := by
  rcases (show b = 0 ∨ b = 1 ∨ b = 2 ∨ b = 3 ∨ b = 4 ∨ b = 5 ∨ b = 6 ∨ b = 7 by omega) with rfl | rfl | rfl | rfl | rfl | rfl | rfl | rfl <;> rfl
theorem creelref_ModeText.set_push (w : World) (o o' : Obj) : ({ w.alloc o with heap := (w.alloc o).heap.setIfInBounds w.heap.size o' } : World) = w.alloc o' := by
  show ({ w.alloc o with heap := (w.heap.push o).setIfInBounds w.heap.size o' } : World) = w.alloc o'
  rw [show (w.heap.push o).setIfInBounds w.heap.size o' = w.heap.push o' from by
    apply Array.ext
    · simp
    · intro i h1 h2
      rw [Array.getElem_setIfInBounds]
      · by_cases h : w.heap.size = i
        · subst h; simp
        · have : i < w.heap.size := by simp at h1; omega
          rw [if_neg h, Array.getElem_push_lt this, Array.getElem_push_lt this]
      · simpa using h1]
  rfl
def creelref_ModeText.es1 : Array MapEntry := #[{ key := .string ⟨#[115]⟩, val := .string ⟨#[83]⟩, born := 0 }]
def creelref_ModeText.es2 : Array MapEntry := #[{ key := .string ⟨#[115]⟩, val := .string ⟨#[83]⟩, born := 0 }, { key := .string ⟨#[116]⟩, val := .string ⟨#[84]⟩, born := 1 }]
theorem creelref_ModeText.mk (w : World) : (Instr.makeMap 38 none).run Try.prog w = .ok (.map (some w.heap.size)) (w.alloc (.map #[] 0)) := rfl
theorem creelref_ModeText.in1 (w : World) : (Instr.mapUpdate 38 (.map (some w.heap.size)) (.string ⟨#[115]⟩) (.string ⟨#[83]⟩)).run Try.prog (w.alloc (.map #[] 0)) = .ok () (w.alloc (.map creelref_ModeText.es1 1)) := by
  have hb := (MapKept.heap_alloc w (.map #[] 0)).1
  have hm : Try.prog.underlying 38 = some (.map 9 9) := by kernel_rfl
  have hk : Try.prog.underlying 9 = some .string := by kernel_rfl
  have hf : Instr.findNow .string (.string ⟨#[115]⟩) ([] : List MapEntry) 0 = some none := by rfl
  have hc : (Instr.checkKey false 10000 9 (.string ⟨#[115]⟩)).run Try.prog (w.alloc (.map #[] 0)) = .ok () (w.alloc (.map #[] 0)) := MapKept.run_checkKey (k := .string ⟨#[115]⟩) hk (by simp [MapKept.IsKey]) false 9999
  have hs := creelref_ModeText.set_push w (.map #[] 0) (.map creelref_ModeText.es1 1)
  rw [← hs]
  simp [Instr.mapUpdate, run_underlying hm, MapKept.run_getObj_map hb, hc, MapKept.run_findKey hk hf, MapKept.run_setObj_map _ hb, Result.andThen]
  rfl
theorem creelref_ModeText.in2 (w : World) : (Instr.mapUpdate 38 (.map (some w.heap.size)) (.string ⟨#[116]⟩) (.string ⟨#[84]⟩)).run Try.prog (w.alloc (.map creelref_ModeText.es1 1)) = .ok () (w.alloc (.map creelref_ModeText.es2 2)) := by
  have hb := (MapKept.heap_alloc w (.map creelref_ModeText.es1 1)).1
  have hm : Try.prog.underlying 38 = some (.map 9 9) := by kernel_rfl
  have hk : Try.prog.underlying 9 = some .string := by kernel_rfl
  have hf : Instr.findNow .string (.string ⟨#[116]⟩) creelref_ModeText.es1.toList 0 = some none := by rfl
  have hc : (Instr.checkKey false 10000 9 (.string ⟨#[116]⟩)).run Try.prog (w.alloc (.map creelref_ModeText.es1 1)) = .ok () (w.alloc (.map creelref_ModeText.es1 1)) := MapKept.run_checkKey (k := .string ⟨#[116]⟩) hk (by simp [MapKept.IsKey]) false 9999
  have hs := creelref_ModeText.set_push w (.map creelref_ModeText.es1 1) (.map creelref_ModeText.es2 2)
  rw [← hs]
  simp [Instr.mapUpdate, run_underlying hm, MapKept.run_getObj_map hb, hc, MapKept.run_findKey hk hf, MapKept.run_setObj_map _ hb, Result.andThen]
  rfl
theorem creelref_ModeText.look (w : World) (s t : ByteArray) (h : (s = ⟨#[115]⟩ ∧ t = ⟨#[83]⟩) ∨ (s = ⟨#[116]⟩ ∧ t = ⟨#[84]⟩)) : (Instr.lookup 38 (.map (some w.heap.size)) (.string s) false).run Try.prog (w.alloc (.map creelref_ModeText.es2 2)) = .ok (.string t) (w.alloc (.map creelref_ModeText.es2 2)) := by
  have hb := (MapKept.heap_alloc w (.map creelref_ModeText.es2 2)).1
  have hm : Try.prog.underlying 38 = some (.map 9 9) := by kernel_rfl
  have hk : Try.prog.underlying 9 = some .string := by kernel_rfl
  have hc : (Instr.checkKey creelref_ModeText.es2.isEmpty 10000 9 (.string s)).run Try.prog (w.alloc (.map creelref_ModeText.es2 2)) = .ok () (w.alloc (.map creelref_ModeText.es2 2)) := MapKept.run_checkKey (k := .string s) hk (by simp [MapKept.IsKey]) _ 9999
  have hf : ∃ i, Instr.findNow .string (.string s) creelref_ModeText.es2.toList 0 = some (some (i, .string t)) := by
    rcases h with ⟨rfl, rfl⟩ | ⟨rfl, rfl⟩
    · exact ⟨0, rfl⟩
    · exact ⟨1, rfl⟩
  obtain ⟨i, hf⟩ := hf
  simp [Instr.lookup, run_underlying hm, MapKept.run_getObj_map hb, hc, MapKept.run_findKey hk hf, Result.andThen]
theorem creelref_ModeText.cell (W : World) (nd b : Nat) (hb : b < 8) : ((W.drewN nd).alloc (.cells #[.string ⟨#[45, 45, 45]⟩, .string ⟨#[45, 45, 120]⟩, .string ⟨#[45, 119, 45]⟩, .string ⟨#[45, 119, 120]⟩, .string ⟨#[114, 45, 45]⟩, .string ⟨#[114, 45, 120]⟩, .string ⟨#[114, 119, 45]⟩, .string ⟨#[114, 119, 120]⟩] 9)).cell? ⟨W.heap.size, b, none⟩ = some (.string (creelref_ModeText.tri b)) := by
  have := World.cell?_alloc_mark (W.drewN nd) creelref_ModeText.lits 9 (0, 0) b
  exact this.trans (creelref_ModeText.lits_at b hb)
theorem creelref_ModeText.size' (W : World) (nd : Nat) (C : Array Value) : ((W.drewN nd).alloc (.cells C 9)).heap.size = W.heap.size + 1 := by
  show (W.heap.push _).size = _
  simp
theorem creelref_ModeText.in1' (W : World) (nd : Nat) (C : Array Value) : (Instr.mapUpdate 38 (.map (some (W.heap.size + 1))) (.string ⟨#[115]⟩) (.string ⟨#[83]⟩)).run Try.prog (((W.drewN nd).alloc (.cells C 9)).alloc (.map #[] 0)) = .ok () (((W.drewN nd).alloc (.cells C 9)).alloc (.map creelref_ModeText.es1 1)) := by
  have h := creelref_ModeText.in1 ((W.drewN nd).alloc (.cells C 9))
  rw [creelref_ModeText.size'] at h
  exact h
theorem creelref_ModeText.in2' (W : World) (nd : Nat) (C : Array Value) : (Instr.mapUpdate 38 (.map (some (W.heap.size + 1))) (.string ⟨#[116]⟩) (.string ⟨#[84]⟩)).run Try.prog (((W.drewN nd).alloc (.cells C 9)).alloc (.map creelref_ModeText.es1 1)) = .ok () (((W.drewN nd).alloc (.cells C 9)).alloc (.map creelref_ModeText.es2 2)) := by
  have h := creelref_ModeText.in2 ((W.drewN nd).alloc (.cells C 9))
  rw [creelref_ModeText.size'] at h
  exact h
theorem creelref_ModeText.look' (W : World) (nd : Nat) (C : Array Value) (s t : ByteArray) (hst : (s = ⟨#[115]⟩ ∧ t = ⟨#[83]⟩) ∨ (s = ⟨#[116]⟩ ∧ t = ⟨#[84]⟩)) : (Instr.lookup 38 (.map (some (W.heap.size + 1))) (.string s) false).run Try.prog (((W.drewN nd).alloc (.cells C 9)).alloc (.map creelref_ModeText.es2 2)) = .ok (.string t) (((W.drewN nd).alloc (.cells C 9)).alloc (.map creelref_ModeText.es2 2)) := by
  have h := creelref_ModeText.look ((W.drewN nd).alloc (.cells C 9)) s t hst
  rw [creelref_ModeText.size'] at h
  exact h
theorem creelref_ModeText.bel {w W : World} (h : Below w.heap.size w W) (nd : Nat) (o : Obj) : Below w.heap.size w ((W.drewN nd).alloc o) := below_alloc (pw_below_drewN h nd) o
theorem creelref_ModeText.bel2 {w W : World} (h : Below w.heap.size w W) (nd : Nat) (o o' : Obj) : Below w.heap.size w (((W.drewN nd).alloc o).alloc o') := below_alloc (creelref_ModeText.bel h nd o) o'
-- ROUND FACTS
theorem creelref_ModeText.chr0a (m : Nat) : modeChr m 0 = if (m / 64 % 8) / 4 % 2 = 1 then 114 else 45 := by
  unfold modeChr modeSp modeBase modeLit modeBit
  simp
  congr 1
  apply propext
  omega
theorem creelref_ModeText.chr0b (m : Nat) : modeChr m 1 = if (m / 64 % 8) / 2 % 2 = 1 then 119 else 45 := by
  unfold modeChr modeSp modeBase modeLit modeBit
  simp
  try (congr 1; apply propext; omega)
theorem creelref_ModeText.chr0c (m : Nat) (h : (m / 512 / 4 % 2) = 0) : modeChr m 2 = if (m / 64 % 8) % 2 = 1 then 120 else 45 := by
  unfold modeChr
  rw [if_neg (by unfold modeSp modeBit; simp; omega)]
  unfold modeBase modeLit modeBit
  simp
  try (congr 1; apply propext; omega)
theorem creelref_ModeText.chr0d (m : Nat) (h : (m / 512 / 4 % 2) = 1) : modeChr m 2 = if (m / 64 % 8) % 2 = 1 then 115 else 83 := by
  unfold modeChr
  rw [if_pos (by unfold modeSp modeBit; simp; omega)]
  have h2 : m / 2 ^ 6 % 2 = (m / 64 % 8) % 2 := by omega
  unfold modeBase modeLit modeBit
  simp only [show 8 - 2 = 6 from rfl, h2]
  by_cases h3 : (m / 64 % 8) % 2 = 1
  · rw [if_pos h3]; simp
    try omega
  · rw [if_neg h3]; simp
    try omega
theorem creelref_ModeText.step0 (m : Nat) (h : (m / 512 / 4 % 2) = 0) : creelref_ModeText.pref m 0 ++ creelref_ModeText.tri (m / 64 % 8) = creelref_ModeText.pref m 1 := by
  apply ByteArray.ext
  rw [ByteArray.data_append]
  unfold creelref_ModeText.pref creelref_ModeText.tri
  simp [List.range_succ, creelref_ModeText.chr0a, creelref_ModeText.chr0b, creelref_ModeText.chr0c m h]
  refine ⟨?_, ?_, ?_⟩ <;> split <;> rfl
theorem creelref_ModeText.size0 (m : Nat) : (creelref_ModeText.pref m 0 ++ creelref_ModeText.tri (m / 64 % 8)).size = 3 := by
  rw [ByteArray.size_append]
  show ((List.range (3 * 0)).map _).toArray.size + 3 = _
  simp
theorem creelref_ModeText.sign0 (m : Nat) (c : UInt8) (h : (m / 512 / 4 % 2) = 1) (hc : c = if (m / 64 % 8) % 2 = 1 then 115 else 83) : (creelref_ModeText.pref m 0 ++ creelref_ModeText.tri (m / 64 % 8)).extract 0 2 ++ ⟨#[c]⟩ = creelref_ModeText.pref m 1 := by
  subst hc
  apply ByteArray.ext
  rw [ByteArray.data_append, ByteArray.data_extract, ByteArray.data_append]
  unfold creelref_ModeText.pref creelref_ModeText.tri
  simp [List.range_succ, creelref_ModeText.chr0a, creelref_ModeText.chr0b, creelref_ModeText.chr0d m h]
  refine ⟨?_, ?_, ?_⟩ <;> split <;> rfl
theorem creelref_ModeText.chr1a (m : Nat) : modeChr m 3 = if (m / 8 % 8) / 4 % 2 = 1 then 114 else 45 := by
  unfold modeChr modeSp modeBase modeLit modeBit
  simp
  congr 1
  apply propext
  omega
theorem creelref_ModeText.chr1b (m : Nat) : modeChr m 4 = if (m / 8 % 8) / 2 % 2 = 1 then 119 else 45 := by
  unfold modeChr modeSp modeBase modeLit modeBit
  simp
  try (congr 1; apply propext; omega)
theorem creelref_ModeText.chr1c (m : Nat) (h : (m / 512 / 2 % 2) = 0) : modeChr m 5 = if (m / 8 % 8) % 2 = 1 then 120 else 45 := by
  unfold modeChr
  rw [if_neg (by unfold modeSp modeBit; simp; omega)]
  unfold modeBase modeLit modeBit
  simp
  try (congr 1; apply propext; omega)
theorem creelref_ModeText.chr1d (m : Nat) (h : (m / 512 / 2 % 2) = 1) : modeChr m 5 = if (m / 8 % 8) % 2 = 1 then 115 else 83 := by
  unfold modeChr
  rw [if_pos (by unfold modeSp modeBit; simp; omega)]
  have h2 : m / 2 ^ 3 % 2 = (m / 8 % 8) % 2 := by omega
  unfold modeBase modeLit modeBit
  simp only [show 8 - 5 = 3 from rfl, h2]
  by_cases h3 : (m / 8 % 8) % 2 = 1
  · rw [if_pos h3]; simp
    try omega
  · rw [if_neg h3]; simp
    try omega
theorem creelref_ModeText.step1 (m : Nat) (h : (m / 512 / 2 % 2) = 0) : creelref_ModeText.pref m 1 ++ creelref_ModeText.tri (m / 8 % 8) = creelref_ModeText.pref m 2 := by
  apply ByteArray.ext
  rw [ByteArray.data_append]
  unfold creelref_ModeText.pref creelref_ModeText.tri
  simp [List.range_succ, creelref_ModeText.chr1a, creelref_ModeText.chr1b, creelref_ModeText.chr1c m h]
  refine ⟨?_, ?_, ?_⟩ <;> split <;> rfl
theorem creelref_ModeText.size1 (m : Nat) : (creelref_ModeText.pref m 1 ++ creelref_ModeText.tri (m / 8 % 8)).size = 6 := by
  rw [ByteArray.size_append]
  show ((List.range (3 * 1)).map _).toArray.size + 3 = _
  simp
theorem creelref_ModeText.sign1 (m : Nat) (c : UInt8) (h : (m / 512 / 2 % 2) = 1) (hc : c = if (m / 8 % 8) % 2 = 1 then 115 else 83) : (creelref_ModeText.pref m 1 ++ creelref_ModeText.tri (m / 8 % 8)).extract 0 5 ++ ⟨#[c]⟩ = creelref_ModeText.pref m 2 := by
  subst hc
  apply ByteArray.ext
  rw [ByteArray.data_append, ByteArray.data_extract, ByteArray.data_append]
  unfold creelref_ModeText.pref creelref_ModeText.tri
  simp [List.range_succ, creelref_ModeText.chr1a, creelref_ModeText.chr1b, creelref_ModeText.chr1d m h]
  refine ⟨?_, ?_, ?_⟩ <;> split <;> rfl
theorem creelref_ModeText.chr2a (m : Nat) : modeChr m 6 = if (m % 8) / 4 % 2 = 1 then 114 else 45 := by
  unfold modeChr modeSp modeBase modeLit modeBit
  simp
  congr 1
  apply propext
  omega
theorem creelref_ModeText.chr2b (m : Nat) : modeChr m 7 = if (m % 8) / 2 % 2 = 1 then 119 else 45 := by
  unfold modeChr modeSp modeBase modeLit modeBit
  simp
  try (congr 1; apply propext; omega)
theorem creelref_ModeText.chr2c (m : Nat) (h : (m / 512 % 2) = 0) : modeChr m 8 = if (m % 8) % 2 = 1 then 120 else 45 := by
  unfold modeChr
  rw [if_neg (by unfold modeSp modeBit; simp; omega)]
  unfold modeBase modeLit modeBit
  simp
  try (congr 1; apply propext; omega)
theorem creelref_ModeText.chr2d (m : Nat) (h : (m / 512 % 2) = 1) : modeChr m 8 = if (m % 8) % 2 = 1 then 116 else 84 := by
  unfold modeChr
  rw [if_pos (by unfold modeSp modeBit; simp; omega)]
  have h2 : m / 2 ^ 0 % 2 = (m % 8) % 2 := by omega
  unfold modeBase modeLit modeBit
  simp only [show 8 - 8 = 0 from rfl, h2]
  by_cases h3 : (m % 8) % 2 = 1
  · rw [if_pos h3]; simp
    try omega
  · rw [if_neg h3]; simp
    try omega
theorem creelref_ModeText.step2 (m : Nat) (h : (m / 512 % 2) = 0) : creelref_ModeText.pref m 2 ++ creelref_ModeText.tri (m % 8) = creelref_ModeText.pref m 3 := by
  apply ByteArray.ext
  rw [ByteArray.data_append]
  unfold creelref_ModeText.pref creelref_ModeText.tri
  simp [List.range_succ, creelref_ModeText.chr2a, creelref_ModeText.chr2b, creelref_ModeText.chr2c m h]
  refine ⟨?_, ?_, ?_⟩ <;> split <;> rfl
theorem creelref_ModeText.size2 (m : Nat) : (creelref_ModeText.pref m 2 ++ creelref_ModeText.tri (m % 8)).size = 9 := by
  rw [ByteArray.size_append]
  show ((List.range (3 * 2)).map _).toArray.size + 3 = _
  simp
theorem creelref_ModeText.sign2 (m : Nat) (c : UInt8) (h : (m / 512 % 2) = 1) (hc : c = if (m % 8) % 2 = 1 then 116 else 84) : (creelref_ModeText.pref m 2 ++ creelref_ModeText.tri (m % 8)).extract 0 8 ++ ⟨#[c]⟩ = creelref_ModeText.pref m 3 := by
  subst hc
  apply ByteArray.ext
  rw [ByteArray.data_append, ByteArray.data_extract, ByteArray.data_append]
  unfold creelref_ModeText.pref creelref_ModeText.tri
  simp [List.range_succ, creelref_ModeText.chr2a, creelref_ModeText.chr2b, creelref_ModeText.chr2d m h]
  refine ⟨?_, ?_, ?_⟩ <;> split <;> rfl
-- END FACTS
set_option maxHeartbeats 4000000 in
set_option maxRecDepth 100000 in
theorem creelref_ModeText.calls (a0 : Int) (r1 : ByteArray) (r2 : Int) (w : World) (h : creelref_ModeText.f a0 = some (r1, r2)) :
    Calls Try.prog 7 #[.int .i64 a0] w fun e w' => e = .returned (.tuple #[.string r1, .int .i64 r2]) ∧ Below w.heap.size w w' := by
  unfold creelref_ModeText.f at h
  by_cases c0 : 0 ≤ a0
  · by_cases c1 : a0 ≤ 4095
    · rw [if_pos ⟨c0, c1⟩] at h
      simp only [Option.some.injEq, Prod.mk.injEq] at h
      obtain ⟨rfl, rfl⟩ := h
      obtain ⟨m, rfl⟩ := Int.eq_ofNat_of_zero_le c0
      rw [Int.toNat_natCast]
      have d0 : decide ((m : Int) < 0) = false := decide_eq_false (by omega)
      have d1 : decide ((4095 : Int) < (m : Int)) = false := decide_eq_false (by omega)
      go_enter Try.func7, Try.ntmps7
      go_wp2
      go_loopg [4, 5] 3 (fun g s4 s5 wx => ∃ (i : Nat) (W : World), i + g = 3 ∧ s4 = .string (creelref_ModeText.pref m i) ∧ s5 = .int .i64 (2 - (i : Int)) ∧ W = wx ∧ Below w.heap.size w W)
      case atStart => exact ⟨0, w, by omega, rfl, rfl, rfl, Below.refl _ _⟩
      case round =>
        obtain ⟨i, W, hig, rfl, rfl, rfl, hB⟩ := hrel
        cases gk with
        | zero =>
          obtain rfl : i = 3 := by omega
          go_wp2
          go_ret2
          exact ⟨rfl, hB⟩
        | succ g =>
          have cP := fun (n r : Int) (W : World) (A : creelref_power.f 4 n = some r) => creelref_power.calls 4 n r W A
          rcases (show i = 0 ∨ i = 1 ∨ i = 2 by omega) with rfl | rfl | rfl
          · have hP := cP 2 64 W (by decide +kernel)
            have hcell := fun nd => creelref_ModeText.cell W nd (m / 64 % 8) (by omega)
            rcases (show (m / 512 / 4 % 2) = 0 ∨ (m / 512 / 4 % 2) = 1 by omega) with h0 | h1
            · have hq : (((m : Int) / 512 / 4 % 2) == 1) = false := beq_eq_false_iff_ne.2 (by omega)
              have hst := creelref_ModeText.step0 m h0
              go_wp2_with (go_at_call 13; refine hP.mono ?_; rintro e w' ⟨rfl, ⟨nd, rfl⟩⟩; have hc_ := hcell nd; clear hcell)
              go_roundg g
              case measure => omega
              case rel => exact ⟨1, _, by omega, rfl, rfl, rfl, creelref_ModeText.bel hB nd _⟩
            · have hq : (((m : Int) / 512 / 4 % 2) == 1) = true := by rw [show ((m : Int) / 512 / 4 % 2) = 1 from by omega]; rfl
              have hsz := creelref_ModeText.size0 m
              rcases (show (m / 64 % 8) % 2 = 0 ∨ (m / 64 % 8) % 2 = 1 by omega) with x0 | x1
              · have hx : (((m : Int) / 64 % 8) % 2 == 0) = true := by rw [show ((m : Int) / 64 % 8) % 2 = 0 from by omega]; rfl
                have hsg := creelref_ModeText.sign0 m 83 h1 (by rw [if_neg (by omega)])
                have hmk := creelref_ModeText.mk
                have hi1 := creelref_ModeText.in1' W
                have hi2 := creelref_ModeText.in2' W
                have hlk := fun nd C => creelref_ModeText.look' W nd C ⟨#[115]⟩ ⟨#[83]⟩ (Or.inl ⟨rfl, rfl⟩)
                go_wp2_with (go_at_call 13; refine hP.mono ?_; rintro e w' ⟨rfl, ⟨nd, rfl⟩⟩; have hc_ := hcell nd; clear hcell)
                go_roundg g
                case measure => omega
                case rel => exact ⟨1, _, by omega, rfl, rfl, rfl, creelref_ModeText.bel2 hB nd _ _⟩
              · have hx : (((m : Int) / 64 % 8) % 2 == 0) = false := beq_eq_false_iff_ne.2 (by omega)
                have hsg := creelref_ModeText.sign0 m 115 h1 (by rw [if_pos (by omega)])
                go_wp2_with (go_at_call 13; refine hP.mono ?_; rintro e w' ⟨rfl, ⟨nd, rfl⟩⟩; have hc_ := hcell nd; clear hcell)
                go_roundg g
                case measure => omega
                case rel => exact ⟨1, _, by omega, rfl, rfl, rfl, creelref_ModeText.bel hB nd _⟩
          · have hP := cP 1 8 W (by decide +kernel)
            have hcell := fun nd => creelref_ModeText.cell W nd (m / 8 % 8) (by omega)
            rcases (show (m / 512 / 2 % 2) = 0 ∨ (m / 512 / 2 % 2) = 1 by omega) with h0 | h1
            · have hq : (((m : Int) / 512 / 2 % 2) == 1) = false := beq_eq_false_iff_ne.2 (by omega)
              have hst := creelref_ModeText.step1 m h0
              go_wp2_with (go_at_call 13; refine hP.mono ?_; rintro e w' ⟨rfl, ⟨nd, rfl⟩⟩; have hc_ := hcell nd; clear hcell)
              go_roundg g
              case measure => omega
              case rel => exact ⟨2, _, by omega, rfl, rfl, rfl, creelref_ModeText.bel hB nd _⟩
            · have hq : (((m : Int) / 512 / 2 % 2) == 1) = true := by rw [show ((m : Int) / 512 / 2 % 2) = 1 from by omega]; rfl
              have hsz := creelref_ModeText.size1 m
              rcases (show (m / 8 % 8) % 2 = 0 ∨ (m / 8 % 8) % 2 = 1 by omega) with x0 | x1
              · have hx : (((m : Int) / 8 % 8) % 2 == 0) = true := by rw [show ((m : Int) / 8 % 8) % 2 = 0 from by omega]; rfl
                have hsg := creelref_ModeText.sign1 m 83 h1 (by rw [if_neg (by omega)])
                have hmk := creelref_ModeText.mk
                have hi1 := creelref_ModeText.in1' W
                have hi2 := creelref_ModeText.in2' W
                have hlk := fun nd C => creelref_ModeText.look' W nd C ⟨#[115]⟩ ⟨#[83]⟩ (Or.inl ⟨rfl, rfl⟩)
                go_wp2_with (go_at_call 13; refine hP.mono ?_; rintro e w' ⟨rfl, ⟨nd, rfl⟩⟩; have hc_ := hcell nd; clear hcell)
                go_roundg g
                case measure => omega
                case rel => exact ⟨2, _, by omega, rfl, rfl, rfl, creelref_ModeText.bel2 hB nd _ _⟩
              · have hx : (((m : Int) / 8 % 8) % 2 == 0) = false := beq_eq_false_iff_ne.2 (by omega)
                have hsg := creelref_ModeText.sign1 m 115 h1 (by rw [if_pos (by omega)])
                go_wp2_with (go_at_call 13; refine hP.mono ?_; rintro e w' ⟨rfl, ⟨nd, rfl⟩⟩; have hc_ := hcell nd; clear hcell)
                go_roundg g
                case measure => omega
                case rel => exact ⟨2, _, by omega, rfl, rfl, rfl, creelref_ModeText.bel hB nd _⟩
          · have hP := cP 0 1 W (by decide +kernel)
            have hcell := fun nd => creelref_ModeText.cell W nd (m % 8) (by omega)
            rcases (show (m / 512 % 2) = 0 ∨ (m / 512 % 2) = 1 by omega) with h0 | h1
            · have hq : (((m : Int) / 512 % 2) == 1) = false := beq_eq_false_iff_ne.2 (by omega)
              have hst := creelref_ModeText.step2 m h0
              go_wp2_with (go_at_call 13; refine hP.mono ?_; rintro e w' ⟨rfl, ⟨nd, rfl⟩⟩; have hc_ := hcell nd; clear hcell)
              go_roundg g
              case measure => omega
              case rel => exact ⟨3, _, by omega, rfl, rfl, rfl, creelref_ModeText.bel hB nd _⟩
            · have hq : (((m : Int) / 512 % 2) == 1) = true := by rw [show ((m : Int) / 512 % 2) = 1 from by omega]; rfl
              have hsz := creelref_ModeText.size2 m
              rcases (show (m % 8) % 2 = 0 ∨ (m % 8) % 2 = 1 by omega) with x0 | x1
              · have hx : (((m : Int) % 8) % 2 == 0) = true := by rw [show ((m : Int) % 8) % 2 = 0 from by omega]; rfl
                have hsg := creelref_ModeText.sign2 m 84 h1 (by rw [if_neg (by omega)])
                have hmk := creelref_ModeText.mk
                have hi1 := creelref_ModeText.in1' W
                have hi2 := creelref_ModeText.in2' W
                have hlk := fun nd C => creelref_ModeText.look' W nd C ⟨#[116]⟩ ⟨#[84]⟩ (Or.inr ⟨rfl, rfl⟩)
                go_wp2_with (go_at_call 13; refine hP.mono ?_; rintro e w' ⟨rfl, ⟨nd, rfl⟩⟩; have hc_ := hcell nd; clear hcell)
                go_roundg g
                case measure => omega
                case rel => exact ⟨3, _, by omega, rfl, rfl, rfl, creelref_ModeText.bel2 hB nd _ _⟩
              · have hx : (((m : Int) % 8) % 2 == 0) = false := beq_eq_false_iff_ne.2 (by omega)
                have hsg := creelref_ModeText.sign2 m 116 h1 (by rw [if_pos (by omega)])
                go_wp2_with (go_at_call 13; refine hP.mono ?_; rintro e w' ⟨rfl, ⟨nd, rfl⟩⟩; have hc_ := hcell nd; clear hcell)
                go_roundg g
                case measure => omega
                case rel => exact ⟨3, _, by omega, rfl, rfl, rfl, creelref_ModeText.bel hB nd _⟩
    · rw [if_neg (by omega)] at h
      simp only [Option.some.injEq, Prod.mk.injEq] at h
      obtain ⟨rfl, rfl⟩ := h
      have d0 : decide (a0 < 0) = false := decide_eq_false (by omega)
      have d1 : decide (4095 < a0) = true := decide_eq_true (by omega)
      go_enter Try.func7, Try.ntmps7
      go_wp2
      go_ret2
      exact ⟨rfl, Below.refl _ _⟩
  · rw [if_neg (by omega)] at h
    simp only [Option.some.injEq, Prod.mk.injEq] at h
    obtain ⟨rfl, rfl⟩ := h
    have d0 : decide (a0 < 0) = true := decide_eq_true (by omega)
    go_enter Try.func7, Try.ntmps7
    go_wp2
    go_ret2
    exact ⟨rfl, Below.refl _ _⟩


end Go.Proofs.Ytmcofelbcjgagaa.All
