/- Made by a program of the prover (over the print of the kit): a Lean function with the answers of a Go function, and the proof that the call comes to them; conditions: those in the statements alone. -/
import Derived.Test.YtcipaajdmpkdfaaDoorK
namespace Go.Proofs.YtcipaajdmpkdfaaDoor.All
open Go.RowKit Go.Proofs.YtcipaajdmpkdfaaDoorW.PrintWords Go.Proofs.YtcipaajdmpkdfaaDoorW.PrintLast Go.Proofs.YtcipaajdmpkdfaaDoorW.PrintMore
open Go.Proofs.YtcipaajdmpkdfaaDoorW.Mine
attribute [local go_sem] gtr_string leq_string geq_string
attribute [local go_sem] max2_int min2_int max_two min_two max_three min_three max_four min_four   -- for this text's walks alone
set_option linter.unusedVariables false
set_option linter.unusedSimpArgs false

/-! ### strings_ContainsAny: function 33 -/
/-- Has a string one of two ASCII bytes? -/
def strings_ContainsAny.f (a0 : ByteArray) (a1 : ByteArray) : Option Bool := match a1 with
  | ⟨⟨[c, d]⟩⟩ => if c.toNat < 128 ∧ d.toNat < 128 ∧ a0.size < 4294967281 then some (Lib.containsAny a0.data.toList [c, d]) else none
  | _ => none
theorem strings_ContainsAny.encoded (r : Int) (hv : Lib.validRune r = true) (h128 : 128 ≤ r) :
    2 ≤ (Utf8.encode r).size ∧ (Utf8.encode r).size ≤ 4 ∧ ∀ h : (Utf8.encode r).size - 1 < (Utf8.encode r).size, 128 ≤ ((Utf8.encode r)[(Utf8.encode r).size - 1]'h).toNat := by
  refine encode_facts r ?_ h128
  unfold Lib.validRune at hv
  have := of_decide_eq_true hv
  simp [Utf8.valid]
  omega
theorem strings_ContainsAny.quiet2 {P : Program} {f : FuncId} {args : Array Value} {v : Value} (c : ∀ W : World, Calls P f args W fun e w' => e = .returned v ∧ w' = W) (w : World) (a n : Nat) :
    Calls P f args (w.drewN (a + n)) fun e w'' => e = .returned v ∧ ∃ m, w'' = w.drewN (a + m) := (c _).mono fun _ _ ⟨he, hm⟩ => ⟨he, n, hm⟩
set_option maxHeartbeats 2000000 in
set_option maxRecDepth 100000 in
/-- A rune beyond ASCII is not among two ASCII bytes. -/
theorem strings_ContainsAny.rune (c d : UInt8) (hc : c.toNat < 128) (hd : d.toNat < 128) (r : Int) (h0 : 128 ≤ r) (w : World) :
    Calls Tryd.prog 72 #[.string ⟨#[c, d]⟩, .int .i32 r] w fun e w' => e = .returned (.int .i64 (-1)) ∧ Below w.heap.size w w' := by
  have k1 : decide (0 ≤ r) = true := decide_eq_true (by omega)
  have k2 : decide (r < 128) = false := decide_eq_false (by omega)
  by_cases hE : r = 65533
  · subst hE
    clear k1 k2 h0
    go_enter Tryd.func72, Tryd.ntmps72
    go_wp2
    go_loopg [5, 6] 2 (fun g _ _ wx => ∃ i : Nat, i + g = 2 ∧ wx = w.iter ⟨#[c, d]⟩ i)
    case atStart => exact ⟨0, by omega, rfl⟩
    case round =>
      obtain ⟨i, hig, rfl⟩ := hrel
      have hsz : (⟨#[c, d]⟩ : ByteArray).size = 2 := rfl
      cases gk with
      | zero =>
        obtain rfl : i = 2 := by omega
        have hnx := run_next_end (P := Tryd.prog) w ⟨#[c, d]⟩ 2
        go_wp2
        go_ret
        exact ⟨rfl, (Below.refl _ _).alloc (Nat.le_refl _) _⟩
      | succ g =>
        have hi : i < (⟨#[c, d]⟩ : ByteArray).size := by rw [hsz]; omega
        have hx128 : ((⟨#[c, d]⟩ : ByteArray)[i]'hi).toNat < 128 := by
          rcases (show i = 0 ∨ i = 1 by omega) with rfl | rfl
          · exact hc
          · exact hd
        have hnx := fun ty => run_next_ascii (P := Tryd.prog) w ⟨#[c, d]⟩ i ty hi hx128
        obtain ⟨x, hx⟩ : ∃ x : UInt8, (⟨#[c, d]⟩ : ByteArray)[i]'hi = x := ⟨_, rfl⟩
        rw [hx] at hnx hx128
        have hne : ((x.toNat : Int) == 65533) = false := beq_eq_false_iff_ne.2 (by omega)
        go_wp2
        go_roundg g
        case measure => omega
        case rel => exact ⟨i + 1, by omega, rfl⟩
  · have k3 : (r == 65533) = false := beq_eq_false_iff_ne.2 hE
    cases hv : Lib.validRune r
    · go_enter Tryd.func72, Tryd.ntmps72
      go_wp2_with (go_at_call 87; refine (Tryd.utf8_ValidRune r _).mono ?_; rintro e w' ⟨rfl, hw⟩; rw [hw, hv])
      go_ret
      exact ⟨rfl, Below.refl _ _⟩
    · obtain ⟨e1, e2, e3⟩ := strings_ContainsAny.encoded r hv h0
      obtain ⟨rs, hen⟩ : ∃ rs, Utf8.encode r = rs := ⟨_, rfl⟩
      rw [hen] at e1 e2 e3
      have hcase : rs.size = 2 ∨ rs.size = 3 ∨ rs.size = 4 := by omega
      clear e1 e2
      rcases hcase with hsz | hsz | hsz
      · have h1s : 1 < rs.size := by omega
        have hx : 128 ≤ (rs[1]'h1s).toNat := by
          have h := e3 (by omega)
          simpa [hsz] using h
        obtain ⟨x, hxe⟩ : ∃ x, rs[1]'h1s = x := ⟨_, rfl⟩
        rw [hxe] at hx
        have hne : ((d.toNat : Int) != (x.toNat : Int)) = true := by
          simp only [bne_iff_ne, ne_eq]
          omega
        have hcd : ∀ h : 1 < (⟨#[c, d]⟩ : ByteArray).size, (⟨#[c, d]⟩ : ByteArray)[1]'h = d := fun _ => rfl
        have hI : ∀ W : World, Calls Tryd.prog 34 #[.string ((⟨#[c, d]⟩ : ByteArray).extract 2 2), .int .u8 (x.toNat : Int)] W fun e w' => e = .returned (.int .i64 (-1)) ∧ w' = W := fun W => Tryd.strings_IndexByte ((⟨#[c, d]⟩ : ByteArray).extract 2 2) (x.toNat : Int) W
        clear e3
        go_enter Tryd.func72, Tryd.ntmps72
        go_wp2_with (go_at_call 87; refine (Tryd.utf8_ValidRune r _).mono ?_; rintro e w' ⟨rfl, hw⟩; rw [hw, hv])
        go_step3
        go_wp2
        refine wp_loop_rounds 1 ?_
        rw [rounds_succ]
        go_wp2
        go_step3
        go_wp2
        go_quiet (fail)
        go_wp2
        go_quiet ((go_at_call 34; exact strings_ContainsAny.quiet2 hI _ _ _))
        go_wp2
        rw [Exit.noGoto_ret]
        go_wp2
        rw [Exit.noGoto_ret]
        go_ret
        exact ⟨rfl, pw_below_drewN (Below.refl _ _) _⟩
      · clear e3
        go_enter Tryd.func72, Tryd.ntmps72
        go_wp2_with (go_at_call 87; refine (Tryd.utf8_ValidRune r _).mono ?_; rintro e w' ⟨rfl, hw⟩; rw [hw, hv])
        go_step3
        go_wp2
        refine wp_loop_rounds 1 ?_
        rw [rounds_succ]
        go_wp2
        rw [Exit.noGoto_ret]
        go_ret
        exact ⟨rfl, Below.refl _ _⟩
      · clear e3
        go_enter Tryd.func72, Tryd.ntmps72
        go_wp2_with (go_at_call 87; refine (Tryd.utf8_ValidRune r _).mono ?_; rintro e w' ⟨rfl, hw⟩; rw [hw, hv])
        go_step3
        go_wp2
        refine wp_loop_rounds 1 ?_
        rw [rounds_succ]
        go_wp2
        rw [Exit.noGoto_ret]
        go_ret
        exact ⟨rfl, Below.refl _ _⟩
/-- Bytes behind a rune's first are no ASCII. -/
theorem strings_ContainsAny.wide (s : ByteArray) (pos : Nat) (h : pos < s.size) (hb : 128 ≤ (s[pos]'h).toNat) : 128 ≤ (Utf8.decode s pos).1 ∧ ∀ j, j < pos + (Utf8.decode s pos).2 → pos ≤ j → ∀ b, s.data.toList[j]? = some b → 128 ≤ b.toNat := by
  have hg : ∀ j b, s.data.toList[j]? = some b → s.get! j = b := by
    intro j b hj
    have hlt : j < s.size := by
      have := (List.getElem?_eq_some_iff.1 hj).1
      simpa using this
    have e : s.get! j = s[j]'hlt := by
      simp [ByteArray.get!, getElem!_pos, hlt]
      rfl
    rw [e]
    have := Lib.data_getElem? s j hlt
    rw [hj] at this
    exact (Option.some.inj this).symm
  have h0 : s.get! pos = s[pos]'h := hg pos _ (Lib.data_getElem? s pos h)
  rw [Lib.decode_at, h0]
  have hge : 128 ≤ (Lib.decodeN (s.size - pos) (s[pos]'h).toNat (s.get! (pos + 1)).toNat (s.get! (pos + 2)).toNat (s.get! (pos + 3)).toNat).1 := by
    unfold Lib.decodeN
    repeat' split
    all_goals (simp only; omega)
  refine ⟨hge, ?_⟩
  have hconts : ∀ n b0 b1 b2 b3 : Nat, (2 ≤ (Lib.decodeN n b0 b1 b2 b3).2 → b1 / 64 = 2) ∧ (3 ≤ (Lib.decodeN n b0 b1 b2 b3).2 → b2 / 64 = 2) ∧ (4 ≤ (Lib.decodeN n b0 b1 b2 b3).2 → b3 / 64 = 2) ∧ (Lib.decodeN n b0 b1 b2 b3).2 ≤ 4 := by
    intro n b0 b1 b2 b3
    unfold Lib.decodeN
    repeat' split
    all_goals (simp only; omega)
  obtain ⟨c2, c3, c4, c5⟩ := hconts (s.size - pos) (s[pos]'h).toNat (s.get! (pos + 1)).toNat (s.get! (pos + 2)).toNat (s.get! (pos + 3)).toNat
  intro j hj1 hj2 b hjb
  generalize (Lib.decodeN (s.size - pos) (s[pos]'h).toNat (s.get! (pos + 1)).toNat (s.get! (pos + 2)).toNat (s.get! (pos + 3)).toNat).2 = K at *
  have hcase : j = pos ∨ j = pos + 1 ∨ j = pos + 2 ∨ j = pos + 3 := by omega
  rcases hcase with rfl | rfl | rfl | rfl
  · rw [Lib.data_getElem? s j h] at hjb
    rw [← Option.some.inj hjb]
    exact hb
  · have := c2 (by omega)
    rw [hg _ _ hjb] at this
    omega
  · have := c3 (by omega)
    rw [hg _ _ hjb] at this
    omega
  · have := c4 (by omega)
    rw [hg _ _ hjb] at this
    omega
set_option maxHeartbeats 4000000 in
set_option maxRecDepth 100000 in
/-- strings.IndexAny of at most 8 bytes, whatever they are. -/
theorem strings_ContainsAny.short (a0 : ByteArray) (c d : UInt8) (hc : c.toNat < 128) (hd : d.toNat < 128) (h8 : a0.size ≤ 8) (w : World) :
    Calls Tryd.prog 56 #[.string a0, .string ⟨#[c, d]⟩] w fun e w' => e = .returned (.int .i64 (Lib.indexAny a0.data.toList [c, d])) ∧ Below w.heap.size w w' := by
  have h8z : decide ((8 : Int) < (a0.size : Int)) = false := decide_eq_false (by omega)
  have hsz : (⟨#[c, d]⟩ : ByteArray).size = 2 := rfl
  have hemp : (⟨#[c, d]⟩ : ByteArray).toList.isEmpty = false := by rw [Lib.toList_data]; rfl
  go_enter Tryd.func56, Tryd.ntmps56
  go_wp2_with (go_at_call 73; refine (Tryd.strings_shouldUseASCIISet _ _).mono ?_; rintro e w' ⟨rfl, hw⟩; rw [hw, h8z])
  clear h8z hemp hsz
  go_loopg [9, 10] a0.size (fun g _ _ wx => ∃ pos : Nat, a0.size ≤ pos + g ∧ wx.heap[w.heap.size]? = some (.stringIter a0 pos) ∧ Aside0 (Lib.NoAny a0.data.toList [c, d] pos) ∧ Aside0 (Below w.heap.size w wx))
  case atStart => exact ⟨0, by omega, by simpa using World.iter_heap w a0 0, ⟨Lib.NoAny.zero _ _⟩, ⟨(Below.refl _ _).alloc (Nat.le_refl _) _⟩⟩
  case round =>
    obtain ⟨pos, hpg, hit, HN, HB⟩ := hrel
    by_cases hps : pos < a0.size
    · cases gk with
      | zero => exact absurd hpg (by omega)
      | succ g =>
        have hwd := Lib.width_pos a0 pos
        have hit2 := fun q => Lib.iterAt_heap wr w.heap.size a0 pos q hit
        have HB2 := fun q => Aside0.mk (Lib.below_iterAt HB.out (k := w.heap.size) (Nat.le_refl _) a0 q)
        by_cases hb : (a0[pos]'hps).toNat < 128
        · have hnx : ∀ ty, (Instr.next (.pointer (some ⟨w.heap.size, 0, none⟩)) true ty).run Tryd.prog wr = _ := fun ty => Lib.run_next_ascii_at wr w.heap.size a0 pos ty hit hps hb
          obtain ⟨x, hx⟩ : ∃ x, a0[pos]'hps = x := ⟨_, rfl⟩
          have hxl : a0.data.toList[pos]? = some x := by rw [← hx]; exact Lib.data_getElem? a0 pos hps
          rw [hx] at hnx hb
          have HX := Aside0.mk hxl
          have hback : ((x.toNat : Int)).toNat.toUInt8 = x := by simp
          have hcon := Lib.contains_iff_indexByte [c, d] x
          have hR := fun W => Tryd.strings_IndexRune_ascii ⟨#[c, d]⟩ (x.toNat : Int) W (by omega) (by omega)
          rw [hback] at hR
          have hl : (⟨#[c, d]⟩ : ByteArray).data.toList = [c, d] := rfl
          rw [hl] at hR
          obtain ⟨t, ht⟩ : ∃ t, Lib.indexByte [c, d] x = t := ⟨_, rfl⟩
          rw [ht] at hR hcon
          have hi3 := hit2 (pos + 1)
          have HB3 := HB2 (pos + 1)
          clear hx hxl hback hl ht hwd hit2 HB2 hit HB
          obtain ⟨W, hWd⟩ : ∃ W, wr.iterAt w.heap.size a0 (pos + 1) = W := ⟨_, rfl⟩
          rw [hWd] at hnx hi3 HB3
          clear hWd
          by_cases h0 : 0 ≤ t
          · have h0b : decide (0 ≤ t) = true := decide_eq_true h0
            rw [h0b] at hcon
            have HC := Aside0.mk hcon
            clear hcon h0
            go_wp2_with (go_at_call 72; refine (hR _).mono ?_; rintro e w' ⟨rfl, hw⟩; rw [hw])
            go_ret
            exact ⟨by rw [Lib.indexAny_hit HN.out HX.out HC.out]; rfl, HB3.out⟩
          · have h0b : decide (0 ≤ t) = false := decide_eq_false h0
            rw [h0b] at hcon
            have HC := Aside0.mk hcon
            clear hcon h0
            go_wp2_with (go_at_call 72; refine (hR _).mono ?_; rintro e w' ⟨rfl, hw⟩; rw [hw])
            go_roundg g
            case measure => omega
            case rel => exact ⟨pos + 1, by omega, hi3, ⟨HN.out.succ HX.out HC.out⟩, HB3⟩
        · have hnx : ∀ ty, (Instr.next (.pointer (some ⟨w.heap.size, 0, none⟩)) true ty).run Tryd.prog wr = _ := fun ty => Lib.run_next_any_at wr w.heap.size a0 pos ty hit hps
          obtain ⟨g1, g2⟩ := strings_ContainsAny.wide a0 pos hps (by omega)
          have hN2 : Lib.NoAny a0.data.toList [c, d] (pos + (Utf8.decode a0 pos).2) := by
            intro j b hj hjb
            by_cases hjp : j < pos
            · exact HN.out j b hjp hjb
            · have h128 := g2 j hj (by omega) b hjb
              have h1 : b ≠ c := by rintro rfl; omega
              have h2 : b ≠ d := by rintro rfl; omega
              simp [h1, h2]
          obtain ⟨R, hR⟩ : ∃ R, (Utf8.decode a0 pos).1 = R := ⟨_, rfl⟩
          obtain ⟨K, hK⟩ : ∃ K, (Utf8.decode a0 pos).2 = K := ⟨_, rfl⟩
          rw [hR, hK] at hnx
          rw [hK] at hwd hN2
          rw [hR] at g1
          have hi3 := hit2 (pos + K)
          have HB3 := HB2 (pos + K)
          have HN3 := Aside0.mk hN2
          have hRn := fun W => strings_ContainsAny.rune c d hc hd (R : Int) (by omega) W
          clear hR hK hit2 HB2 hit HB hN2 g2 HN hb
          obtain ⟨W, hWd⟩ : ∃ W, wr.iterAt w.heap.size a0 (pos + K) = W := ⟨_, rfl⟩
          rw [hWd] at hnx hi3 HB3
          clear hWd
          go_wp2_with (go_at_call 72; refine (hRn _).mono ?_; rintro e w' ⟨rfl, hw⟩; (have HW := Aside0.mk hw); (have hsz3 := (Array.getElem?_eq_some_iff.1 hi3).1); (have hi4 := (hw.block w.heap.size hsz3).trans hi3); clear hw)
          go_roundg g
          case measure => omega
          case rel => exact ⟨pos + K, by omega, by assumption, HN3, ⟨HB3.out.trans ((‹Aside0 (Below W.heap.size W _)› : Aside0 (Below W.heap.size W _)).out.mono (by have := HB3.out.size; omega))⟩⟩
    · have hnx : ∀ ty, (Instr.next (.pointer (some ⟨w.heap.size, 0, none⟩)) true ty).run Tryd.prog wr = _ := fun ty => Lib.run_next_end_at wr w.heap.size a0 pos ty hit hps
      have hno : Lib.indexAny a0.data.toList [c, d] = -1 := Lib.indexAny_none (fun j b hj hjb => HN.out j b (by simp at hj; omega) hjb)
      have HNo := Aside0.mk hno
      clear hno
      go_wp2
      go_ret
      exact ⟨by rw [HNo.out]; rfl, HB.out⟩
set_option maxHeartbeats 2000000 in
set_option maxRecDepth 100000 in
theorem strings_ContainsAny.calls (a0 : ByteArray) (a1 : ByteArray) (r : Bool) (w : World) (h : strings_ContainsAny.f a0 a1 = some r) :
    Calls Tryd.prog 33 #[.string a0, .string a1] w fun e w' => e = .returned (.bool r) ∧ Below w.heap.size w w' := by
  unfold strings_ContainsAny.f at h
  split at h
  · rename_i c d
    split at h
    · rename_i hh
      obtain ⟨hc, hd, hs⟩ := hh
      obtain rfl := Option.some.inj h
      have hI : ∀ W : World, Calls Tryd.prog 56 #[.string a0, .string ⟨#[c, d]⟩] W fun e w' => e = .returned (.int .i64 (Lib.indexAny a0.data.toList [c, d])) ∧ Below W.heap.size W w' := by
        intro W
        by_cases h8 : a0.size ≤ 8
        · exact strings_ContainsAny.short a0 c d hc hd h8 W
        · have hz : (Tryd.prog.info? 104).map (fun i => (i.zero, i.size)) = some (some (.agg (Array.replicate 256 (.bool false))), 256) := by kernel_rfl
          refine (Tryd.strings_IndexAny_long (zero_of_info hz).1 a0 ⟨#[c, d]⟩ W (Nat.le_refl 2) (by omega) hs (show 2 < 4294967281 by decide) (by
            intro j b hj
            have hj : [c, d][j]? = some b := hj
            rcases j with _ | _ | j
            · rw [← Option.some.inj hj]; exact hc
            · rw [← Option.some.inj hj]; exact hd
            · simp at hj)).mono ?_
          rintro e w' ⟨rfl, rfl⟩
          exact ⟨rfl, ((Below.refl _ _).alloc (Nat.le_refl _) _).alloc (by simp) _⟩
      unfold Lib.containsAny
      generalize Lib.indexAny a0.data.toList [c, d] = t at hI
      go_enter Tryd.func33, Tryd.ntmps33
      go_wp2_with (go_at_call 56; refine (hI _).mono ?_; rintro e w' ⟨rfl, hw⟩)
      go_ret
      exact ⟨rfl, ‹_›⟩
    · cases h
  · cases h


end Go.Proofs.YtcipaajdmpkdfaaDoor.All
