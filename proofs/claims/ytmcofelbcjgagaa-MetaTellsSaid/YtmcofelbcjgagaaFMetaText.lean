/- Made by a program of the prover (over the print of the kit): a Lean function with the answers of a Go function, and the proof that the call comes to them; conditions: those in the statements alone. -/
import Derived.Test.YtmcofelbcjgagaaK
namespace Go.Proofs.Ytmcofelbcjgagaa.All
open Go.RowKit Go.Proofs.YtmcofelbcjgagaaW.PrintWords Go.Proofs.YtmcofelbcjgagaaW.PrintLast Go.Proofs.YtmcofelbcjgagaaW.PrintMore
open Go.Proofs.YtmcofelbcjgagaaW.Mine
attribute [local go_sem] gtr_string leq_string geq_string
attribute [local go_sem] max2_int min2_int max_two min_two max_three min_three max_four min_four   -- for this text's walks alone
set_option linter.unusedVariables false
set_option linter.unusedSimpArgs false

/-! ### meta_Text: function 6 -/
/-- What may be done, as a text. -/
def meta_Text.f (a0 : Int) : Option (ByteArray × Int) := if 0 ≤ a0 ∧ a0 ≤ 4095 then some (modeText a0.toNat, 0) else some ((⟨#[]⟩ : ByteArray), 4)
def meta_Text.arr1 (m i : Nat) : Array Value := ((List.range 9).map fun j => Value.int .u8 ((if j < i then modeBase m j else modeLit j : Nat) : Int)).toArray
def meta_Text.arr2 (m k : Nat) : Array Value := ((List.range 9).map fun j => Value.int .u8 ((if j % 3 = 2 ∧ (8 - j) / 3 < k then modeChr m j else modeBase m j : Nat) : Int)).toArray
theorem meta_Text.at1 (m i j : Nat) (hj : j < 9) : (meta_Text.arr1 m i)[j]? = some (.int .u8 ((if j < i then modeBase m j else modeLit j : Nat) : Int)) := by
  simp [meta_Text.arr1, hj]
theorem meta_Text.at2 (m k j : Nat) (hj : j < 9) : (meta_Text.arr2 m k)[j]? = some (.int .u8 ((if j % 3 = 2 ∧ (8 - j) / 3 < k then modeChr m j else modeBase m j : Nat) : Int)) := by
  simp [meta_Text.arr2, hj]
theorem meta_Text.size1 (m i : Nat) : (meta_Text.arr1 m i).size = 9 := by simp [meta_Text.arr1]
theorem meta_Text.size2 (m i : Nat) : (meta_Text.arr2 m i).size = 9 := by simp [meta_Text.arr2]
theorem meta_Text.set1 (m i : Nat) (hi : i < 9) : (meta_Text.arr1 m i).setIfInBounds i (.int .u8 ((modeBase m i : Nat) : Int)) = meta_Text.arr1 m (i + 1) := by
  apply Array.ext_getElem?
  intro j
  by_cases hj : j < 9
  · rw [Array.getElem?_setIfInBounds, meta_Text.at1 m i j hj, meta_Text.at1 m (i + 1) j hj, meta_Text.size1]
    by_cases e : i = j
    · subst e; rw [if_pos rfl, if_pos hi, if_pos (by omega)]
    · rw [if_neg e]
      by_cases h : j < i
      · rw [if_pos h, if_pos (by omega)]
      · rw [if_neg h, if_neg (by omega)]
  · rw [Array.getElem?_eq_none (by rw [Array.size_setIfInBounds, meta_Text.size1]; omega), Array.getElem?_eq_none (by rw [meta_Text.size1]; omega)]
theorem meta_Text.same1 (m i : Nat) (hi : i < 9) (h : modeBase m i = modeLit i) : meta_Text.arr1 m i = meta_Text.arr1 m (i + 1) := by
  rw [← meta_Text.set1 m i hi, h]
  apply Array.ext_getElem?
  intro j
  rw [Array.getElem?_setIfInBounds]
  by_cases e : i = j
  · subst e; rw [if_pos rfl, meta_Text.size1, if_pos hi, meta_Text.at1 m i i hi, if_neg (by omega)]
  · rw [if_neg e]
theorem meta_Text.start2 (m : Nat) : meta_Text.arr1 m 9 = meta_Text.arr2 m 0 := by
  unfold meta_Text.arr1 meta_Text.arr2
  rfl
theorem meta_Text.set2 (m k : Nat) (hk : k < 3) : (meta_Text.arr2 m k).setIfInBounds (8 - 3 * k) (.int .u8 ((modeChr m (8 - 3 * k) : Nat) : Int)) = meta_Text.arr2 m (k + 1) := by
  apply Array.ext_getElem?
  intro j
  by_cases hj : j < 9
  · rw [Array.getElem?_setIfInBounds, meta_Text.at2 m k j hj, meta_Text.at2 m (k + 1) j hj, meta_Text.size2]
    by_cases e : 8 - 3 * k = j
    · rw [if_pos e, if_pos (by omega), if_pos (by omega), e]
    · rw [if_neg e]
      by_cases h : j % 3 = 2 ∧ (8 - j) / 3 < k
      · rw [if_pos h, if_pos (by omega)]
      · rw [if_neg h, if_neg (by omega)]
  · rw [Array.getElem?_eq_none (by rw [Array.size_setIfInBounds, meta_Text.size2]; omega), Array.getElem?_eq_none (by rw [meta_Text.size2]; omega)]
theorem meta_Text.same2 (m k : Nat) (hk : k < 3) (h : modeChr m (8 - 3 * k) = modeBase m (8 - 3 * k)) : meta_Text.arr2 m k = meta_Text.arr2 m (k + 1) := by
  rw [← meta_Text.set2 m k hk, h]
  apply Array.ext_getElem?
  intro j
  rw [Array.getElem?_setIfInBounds]
  by_cases e : 8 - 3 * k = j
  · rw [if_pos e, meta_Text.size2, if_pos (by omega), ← e, meta_Text.at2 m k _ (by omega), if_neg (by omega)]
  · rw [if_neg e]
theorem meta_Text.chr_lt (m j : Nat) : modeChr m j < 256 := by
  unfold modeChr modeBase modeLit
  repeat' split
  all_goals omega
theorem meta_Text.end2 (m : Nat) (j : Nat) (hj : j < 9) : (meta_Text.arr2 m 3)[j]? = some (.int .u8 ((modeChr m j : Nat) : Int)) := by
  rw [meta_Text.at2 m 3 j hj]
  by_cases h : j % 3 = 2
  · rw [if_pos (by omega)]
  · rw [if_neg (by omega)]
    have : modeChr m j = modeBase m j := by
      unfold modeChr modeSp
      rw [if_neg h, if_neg (by omega)]
    rw [this]
theorem meta_Text.ix0 (w : World) : (Instr.index 35 (.agg #[.int .u8 116, .int .u8 115, .int .u8 115]) (.int .i64 0)).run Try.prog w = .ok (.int .u8 116) w := by kernel_rfl
theorem meta_Text.ix1 (w : World) : (Instr.index 35 (.agg #[.int .u8 116, .int .u8 115, .int .u8 115]) (.int .i64 1)).run Try.prog w = .ok (.int .u8 115) w := by kernel_rfl
theorem meta_Text.ix2 (w : World) : (Instr.index 35 (.agg #[.int .u8 116, .int .u8 115, .int .u8 115]) (.int .i64 2)).run Try.prog w = .ok (.int .u8 115) w := by kernel_rfl
theorem meta_Text.back (m : Nat) (w : World) : (convert 34 9 (.slice (some ⟨w.heap.size, 0, none⟩) 9 9)).run Try.prog (w.alloc (.cells (meta_Text.arr2 m 3) 5 (9, 10))) = .ok (.string (modeText m)) (w.alloc (.cells (meta_Text.arr2 m 3) 5 (9, 10))) := by
  have hback := run_convert_bytes_back (P := Try.prog) (w.alloc (.cells (meta_Text.arr2 m 3) 5 (9, 10))) 34 9 5 ⟨w.heap.size, 0, none⟩ 9 ((List.range 9).map fun j => (modeChr m j).toUInt8) Try.underlying34 Try.underlying5 Try.underlying9 (by
    intro j hj
    rw [List.length_map, List.length_range] at hj
    rw [show (Addr.add ⟨w.heap.size, 0, none⟩ j : Addr) = ⟨w.heap.size, j, none⟩ from by
      unfold Addr.add
      by_cases h : j = 0
      · rw [if_pos h, h]
      · rw [if_neg h, Nat.zero_add]]
    rw [World.cell?_alloc_mark, meta_Text.end2 m j hj]
    congr 2
    simp only [List.getElem_map, List.getElem_range]
    have := meta_Text.chr_lt m j
    rw [Nat.toUInt8, UInt8.toNat_ofNat']
    congr 1
    omega)
  rw [show ((List.range 9).map fun j => (modeChr m j).toUInt8).length = 9 from by simp] at hback
  exact hback
set_option maxHeartbeats 4000000 in
set_option maxRecDepth 100000 in
theorem meta_Text.calls (a0 : Int) (r1 : ByteArray) (r2 : Int) (w : World) (h : meta_Text.f a0 = some (r1, r2)) :
    Calls Try.prog 6 #[.int .i64 a0] w fun e w' => e = .returned (.tuple #[.string r1, .int .i64 r2]) ∧ Below w.heap.size w w' := by
  unfold meta_Text.f at h
  by_cases c0 : 0 ≤ a0
  · by_cases c1 : a0 ≤ 4095
    · rw [if_pos ⟨c0, c1⟩] at h
      simp only [Option.some.injEq, Prod.mk.injEq] at h
      obtain ⟨rfl, rfl⟩ := h
      obtain ⟨m, rfl⟩ := Int.eq_ofNat_of_zero_le c0
      rw [Int.toNat_natCast]
      have d0 : decide ((m : Int) < 0) = false := decide_eq_false (by omega)
      have d1 : decide ((4095 : Int) < (m : Int)) = false := decide_eq_false (by omega)
      have hcv := fun (C : Array Value) => Lib.run_convert_bytes_const (P := Try.prog) w 34 5 C 9 9 Try.underlying34 Try.underlying5
      have hb0 : (#[.int .u8 114, .int .u8 119, .int .u8 120, .int .u8 114, .int .u8 119, .int .u8 120, .int .u8 114, .int .u8 119, .int .u8 120] : Array Value) = meta_Text.arr1 m 0 := by
        unfold meta_Text.arr1
        rfl
      have hsz := meta_Text.size1 m 0
      go_enter Try.func6, Try.ntmps6
      go_wp2
      clear hb0 hcv hsz
      have hput : ∀ (C : Array Value) (i : Nat) (v : Value), (w.alloc (.cells C 5 (9, 10))).setCell ⟨w.heap.size, i, none⟩ v = w.alloc (.cells (C.setIfInBounds i v) 5 (9, 10)) := by
        intro C i v
        have hm : ∀ (a : Array Obj) (x : Obj) (f : Obj → Obj), (a.push x).modify a.size f = a.push (f x) := by
          intro a x f
          apply Array.ext
          · simp
          · intro i h1 h2
            simp only [Array.getElem_modify, Array.getElem_push]
            by_cases h : a.size = i
            · subst h
              simp
            · have hi : i < a.size := by simp at h1; omega
              simp [h, hi]
        show ({ w.alloc (.cells C 5 (9, 10)) with heap := (w.heap.push (.cells C 5 (9, 10))).modify w.heap.size _ } : World) = _
        rw [hm]
        rfl
      go_loopg [19] 9 (fun g s19 wx => ∃ i : Nat, i + g = 9 ∧ s19 = .int .i64 i ∧ wx = w.alloc (.cells (meta_Text.arr1 m i) 5 (9, 10)))
      case atStart => exact ⟨0, by omega, rfl, rfl⟩
      case round =>
        obtain ⟨i, hig, rfl, rfl⟩ := hrel
        cases gk with
        | zero =>
          obtain rfl : i = 9 := by omega
          rw [meta_Text.start2]
          go_wp2
          go_loopg [33] 3 (fun g s33 wx => ∃ k : Nat, k + g = 3 ∧ s33 = .int .i64 k ∧ wx = w.alloc (.cells (meta_Text.arr2 m k) 5 (9, 10)))
          case atStart => exact ⟨0, by omega, rfl, rfl⟩
          case round =>
            obtain ⟨k, hkg, rfl, rfl⟩ := hrel
            cases gk with
            | zero =>
              obtain rfl : k = 3 := by omega
              have hback := meta_Text.back m w
              go_wp2
              go_ret2
              exact ⟨rfl, (Below.refl _ _).alloc (Nat.le_refl _) _⟩
            | succ g =>
              have hk : k < 3 := by omega
              have hcell : (w.alloc (.cells (meta_Text.arr2 m k) 5 (9, 10))).cell? ⟨w.heap.size, 8 - 3 * k, none⟩ = some (.int .u8 ((modeBase m (8 - 3 * k) : Nat) : Int)) := by
                rw [World.cell?_alloc_mark, meta_Text.at2 m k _ (by omega), if_neg (by omega)]
              have hfz : (w.alloc (.cells (meta_Text.arr2 m k) 5 (9, 10))).frozen? ⟨w.heap.size, 8 - 3 * k, none⟩ = false := by
                rw [World.frozen?_alloc_mark]
                simp
                omega
              have hset := fun v => hput (meta_Text.arr2 m k) (8 - 3 * k) v
              have hbit := mode_bit m (9 + k)
              have hsp : modeSp m (8 - 3 * k) = modeBit m (9 + k) := by
                unfold modeSp
                rw [if_pos (by omega), show (8 - (8 - 3 * k)) / 3 = k from by omega]
              rcases mode_bit_01 m (9 + k) with h0 | h1
              · have hs := meta_Text.same2 m k hk (by unfold modeChr; rw [hsp, if_neg (by omega)])
                rw [h0] at hbit
                have hbb : (bits BinOp.and IntKind.i64 ((m : Int) / 2 ^ (9 + k)) 1 == 0) = true := by rw [hbit]; rfl
                have HS := Aside0.mk hs
                clear hsp h0 hs hbit hput hset hcell hfz
                rcases (show k = 0 ∨ k = 1 ∨ k = 2 by omega) with rfl | rfl | rfl
                · have hix := meta_Text.ix0 (w.alloc (.cells (meta_Text.arr2 m 0) 5 (9, 10)))
                  rw [show ((2 : Int) ^ (9 + 0)) = 512 from by decide] at hbb
                  go_wp2
                  go_roundg g
                  case measure => omega
                  case rel => exact ⟨1, by omega, rfl, by rw [HS.out]⟩
                · have hix := meta_Text.ix1 (w.alloc (.cells (meta_Text.arr2 m 1) 5 (9, 10)))
                  rw [show ((2 : Int) ^ (9 + 1)) = 1024 from by decide] at hbb
                  go_wp2
                  go_roundg g
                  case measure => omega
                  case rel => exact ⟨2, by omega, rfl, by rw [HS.out]⟩
                · have hix := meta_Text.ix2 (w.alloc (.cells (meta_Text.arr2 m 2) 5 (9, 10)))
                  rw [show ((2 : Int) ^ (9 + 2)) = 2048 from by decide] at hbb
                  go_wp2
                  go_roundg g
                  case measure => omega
                  case rel => exact ⟨3, by omega, rfl, by rw [HS.out]⟩
              · rw [h1] at hbit
                have hbb : (bits BinOp.and IntKind.i64 ((m : Int) / 2 ^ (9 + k)) 1 == 0) = false := by rw [hbit]; rfl
                clear hbit hput
                rcases (show k = 0 ∨ k = 1 ∨ k = 2 by omega) with rfl | rfl | rfl
                · have hix := meta_Text.ix0 (w.alloc (.cells (meta_Text.arr2 m 0) 5 (9, 10)))
                  rw [show ((2 : Int) ^ (9 + 0)) = 512 from by decide] at hbb
                  rw [show 8 - 3 * 0 = 8 from rfl] at hcell hfz hset hsp
                  by_cases hd : modeBase m 8 = 45
                  · have hch : modeChr m 8 = 84 := by
                      unfold modeChr
                      rw [if_pos (hsp.trans h1), if_pos hd]
                      rfl
                    have hs := meta_Text.set2 m 0 (by omega)
                    rw [show 8 - 3 * 0 = 8 from rfl, hch] at hs
                    have hst := hset (.int .u8 84)
                    rw [show (.int .u8 84 : Value) = .int .u8 ((84 : Nat) : Int) from rfl, hs] at hst
                    rw [show (.int .u8 ((84 : Nat) : Int) : Value) = .int .u8 84 from rfl] at hst
                    have hq : (((modeBase m 8 : Nat) : Int) == 45) = true := by rw [hd]; rfl
                    clear hd hch hs hsp h1 hset
                    go_wp2
                    go_roundg g
                    case measure => omega
                    case rel => exact ⟨1, by omega, rfl, rfl⟩
                  · have hch : modeChr m 8 = 116 := by
                      unfold modeChr
                      rw [if_pos (hsp.trans h1), if_neg hd]
                      rfl
                    have hs := meta_Text.set2 m 0 (by omega)
                    rw [show 8 - 3 * 0 = 8 from rfl, hch] at hs
                    have hst := hset (.int .u8 116)
                    rw [show (.int .u8 116 : Value) = .int .u8 ((116 : Nat) : Int) from rfl, hs] at hst
                    rw [show (.int .u8 ((116 : Nat) : Int) : Value) = .int .u8 116 from rfl] at hst
                    have hq : (((modeBase m 8 : Nat) : Int) == 45) = false := beq_eq_false_iff_ne.2 (by omega)
                    clear hd hch hs hsp h1 hset
                    go_wp2
                    go_roundg g
                    case measure => omega
                    case rel => exact ⟨1, by omega, rfl, rfl⟩
                · have hix := meta_Text.ix1 (w.alloc (.cells (meta_Text.arr2 m 1) 5 (9, 10)))
                  rw [show ((2 : Int) ^ (9 + 1)) = 1024 from by decide] at hbb
                  rw [show 8 - 3 * 1 = 5 from rfl] at hcell hfz hset hsp
                  by_cases hd : modeBase m 5 = 45
                  · have hch : modeChr m 5 = 83 := by
                      unfold modeChr
                      rw [if_pos (hsp.trans h1), if_pos hd]
                      rfl
                    have hs := meta_Text.set2 m 1 (by omega)
                    rw [show 8 - 3 * 1 = 5 from rfl, hch] at hs
                    have hst := hset (.int .u8 83)
                    rw [show (.int .u8 83 : Value) = .int .u8 ((83 : Nat) : Int) from rfl, hs] at hst
                    rw [show (.int .u8 ((83 : Nat) : Int) : Value) = .int .u8 83 from rfl] at hst
                    have hq : (((modeBase m 5 : Nat) : Int) == 45) = true := by rw [hd]; rfl
                    clear hd hch hs hsp h1 hset
                    go_wp2
                    go_roundg g
                    case measure => omega
                    case rel => exact ⟨2, by omega, rfl, rfl⟩
                  · have hch : modeChr m 5 = 115 := by
                      unfold modeChr
                      rw [if_pos (hsp.trans h1), if_neg hd]
                      rfl
                    have hs := meta_Text.set2 m 1 (by omega)
                    rw [show 8 - 3 * 1 = 5 from rfl, hch] at hs
                    have hst := hset (.int .u8 115)
                    rw [show (.int .u8 115 : Value) = .int .u8 ((115 : Nat) : Int) from rfl, hs] at hst
                    rw [show (.int .u8 ((115 : Nat) : Int) : Value) = .int .u8 115 from rfl] at hst
                    have hq : (((modeBase m 5 : Nat) : Int) == 45) = false := beq_eq_false_iff_ne.2 (by omega)
                    clear hd hch hs hsp h1 hset
                    go_wp2
                    go_roundg g
                    case measure => omega
                    case rel => exact ⟨2, by omega, rfl, rfl⟩
                · have hix := meta_Text.ix2 (w.alloc (.cells (meta_Text.arr2 m 2) 5 (9, 10)))
                  rw [show ((2 : Int) ^ (9 + 2)) = 2048 from by decide] at hbb
                  rw [show 8 - 3 * 2 = 2 from rfl] at hcell hfz hset hsp
                  by_cases hd : modeBase m 2 = 45
                  · have hch : modeChr m 2 = 83 := by
                      unfold modeChr
                      rw [if_pos (hsp.trans h1), if_pos hd]
                      rfl
                    have hs := meta_Text.set2 m 2 (by omega)
                    rw [show 8 - 3 * 2 = 2 from rfl, hch] at hs
                    have hst := hset (.int .u8 83)
                    rw [show (.int .u8 83 : Value) = .int .u8 ((83 : Nat) : Int) from rfl, hs] at hst
                    rw [show (.int .u8 ((83 : Nat) : Int) : Value) = .int .u8 83 from rfl] at hst
                    have hq : (((modeBase m 2 : Nat) : Int) == 45) = true := by rw [hd]; rfl
                    clear hd hch hs hsp h1 hset
                    go_wp2
                    go_roundg g
                    case measure => omega
                    case rel => exact ⟨3, by omega, rfl, rfl⟩
                  · have hch : modeChr m 2 = 115 := by
                      unfold modeChr
                      rw [if_pos (hsp.trans h1), if_neg hd]
                      rfl
                    have hs := meta_Text.set2 m 2 (by omega)
                    rw [show 8 - 3 * 2 = 2 from rfl, hch] at hs
                    have hst := hset (.int .u8 115)
                    rw [show (.int .u8 115 : Value) = .int .u8 ((115 : Nat) : Int) from rfl, hs] at hst
                    rw [show (.int .u8 ((115 : Nat) : Int) : Value) = .int .u8 115 from rfl] at hst
                    have hq : (((modeBase m 2 : Nat) : Int) == 45) = false := beq_eq_false_iff_ne.2 (by omega)
                    clear hd hch hs hsp h1 hset
                    go_wp2
                    go_roundg g
                    case measure => omega
                    case rel => exact ⟨3, by omega, rfl, rfl⟩
        | succ g =>
          have hi : i < 9 := by omega
          have hcell : (w.alloc (.cells (meta_Text.arr1 m i) 5 (9, 10))).cell? ⟨w.heap.size, i, none⟩ = some (.int .u8 ((if i < i then modeBase m i else modeLit i : Nat) : Int)) := by
            rw [World.cell?_alloc_mark, meta_Text.at1 m i i hi]
          have hfz : (w.alloc (.cells (meta_Text.arr1 m i) 5 (9, 10))).frozen? ⟨w.heap.size, i, none⟩ = false := by
            rw [World.frozen?_alloc_mark]
            simp
            omega
          have hset := hput (meta_Text.arr1 m i) i (.int .u8 45)
          have hbit := mode_bit m (8 - i)
          rcases mode_bit_01 m (8 - i) with h0 | h1
          · have hb : modeBase m i = 45 := by unfold modeBase; rw [if_neg (by omega)]
            have hs := meta_Text.set1 m i hi
            rw [hb] at hs
            rw [show ((45 : Nat) : Int) = 45 from rfl] at hs
            rw [hs] at hset
            rw [h0] at hbit
            have hbb : (bits BinOp.and IntKind.i64 ((m : Int) / 2 ^ (8 - i)) 1 == 0) = true := by rw [hbit]; rfl
            clear h0 hb hs hbit hput
            go_wp2
            go_roundg g
            case measure => omega
            case rel => exact ⟨i + 1, by omega, rfl, rfl⟩
          · have hb : modeBase m i = modeLit i := by unfold modeBase; rw [if_pos h1]
            have hs := meta_Text.same1 m i hi hb
            rw [h1] at hbit
            have hbb : (bits BinOp.and IntKind.i64 ((m : Int) / 2 ^ (8 - i)) 1 == 0) = false := by rw [hbit]; rfl
            have HS := Aside0.mk hs
            clear h1 hb hs hbit hput hset hcell hfz
            go_wp2
            go_roundg g
            case measure => omega
            case rel => exact ⟨i + 1, by omega, rfl, by rw [HS.out]⟩
    · rw [if_neg (by omega)] at h
      simp only [Option.some.injEq, Prod.mk.injEq] at h
      obtain ⟨rfl, rfl⟩ := h
      have d0 : decide (a0 < 0) = false := decide_eq_false (by omega)
      have d1 : decide (4095 < a0) = true := decide_eq_true (by omega)
      go_enter Try.func6, Try.ntmps6
      go_wp2
      go_ret2
      exact ⟨rfl, Below.refl _ _⟩
  · rw [if_neg (by omega)] at h
    simp only [Option.some.injEq, Prod.mk.injEq] at h
    obtain ⟨rfl, rfl⟩ := h
    have d0 : decide (a0 < 0) = true := decide_eq_true (by omega)
    go_enter Try.func6, Try.ntmps6
    go_wp2
    go_ret2
    exact ⟨rfl, Below.refl _ _⟩


end Go.Proofs.Ytmcofelbcjgagaa.All
