/- The plain law of MetaParses: what the walks compute answers true at every input that the row admits. No condition of its own. -/
import Derived.Test.YtmcofelbcjgagaaGMetaParses
import Derived.Test.YtmcofelbcjgagaaWPureBase
namespace Go.Proofs.Ytmcofelbcjgagaa.PuMetaParses
set_option linter.unusedVariables false
set_option linter.unusedSimpArgs false
open Go.RowKit Go.Proofs.Ytmcofelbcjgagaa.All Go.Proofs.Ytmcofelbcjgagaa.GMetaParses Go.Proofs.YtmcofelbcjgagaaW.PrintWords Go.Proofs.YtmcofelbcjgagaaW.PrintLast Go.Proofs.YtmcofelbcjgagaaW.PrintMore Go.Proofs.YtmcofelbcjgagaaW.PureBase

-- FN meta_Parse creelref_ModeOf creelref_power creelref_ModeText meta_Text
open Go.Proofs.YtmcofelbcjgagaaW.Mine
theorem or_pow (M e : Nat) (hM : M < 8192) (he : e < 13) (h : M / 2 ^ e % 2 = 0) : M ||| 2 ^ e = M + 2 ^ e := by
  have h2 : 2 ^ e < 8192 := by
    have := Nat.pow_lt_pow_right (show 1 < 2 by omega) he
    omega
  have h0 : M &&& 2 ^ e = 0 := by
    apply Nat.eq_of_testBit_eq
    intro i
    rw [Nat.testBit_and, Nat.testBit_two_pow, Nat.zero_testBit]
    by_cases hi : e = i
    · subst hi
      rw [Nat.testBit_eq_decide_div_mod_eq, h]
      rfl
    · simp [hi]
  have hb := BitVec.add_eq_or_of_and_eq_zero (BitVec.ofNat 64 M) (BitVec.ofNat 64 (2 ^ e)) (by
    apply BitVec.eq_of_toNat_eq
    rw [BitVec.toNat_and, BitVec.toNat_ofNat, BitVec.toNat_ofNat, Nat.mod_eq_of_lt (by omega), Nat.mod_eq_of_lt (by omega), h0]
    rfl)
  have hc := congrArg BitVec.toNat hb
  rw [BitVec.toNat_add, BitVec.toNat_or, BitVec.toNat_ofNat, BitVec.toNat_ofNat, Nat.mod_eq_of_lt (a := M) (by omega), Nat.mod_eq_of_lt (a := 2 ^ e) (by omega), Nat.mod_eq_of_lt (by omega)] at hc
  exact hc.symm
theorem bor (m n : Nat) (hm : m < 2 ^ 13) (hn : n < 2 ^ 13) : Go.bits .or .i64 (m : Int) (n : Int) = ((m ||| n : Nat) : Int) := by
  have hlt := Nat.or_lt_two_pow hm hn
  have key : (BitVec.ofInt 64 (m : Int) ||| BitVec.ofInt 64 (n : Int)).toNat = m ||| n := by
    rw [BitVec.toNat_or, BitVec.toNat_ofInt, BitVec.toNat_ofInt, show ((m : Int) % ((2 ^ 64 : Nat) : Int)).toNat = m from by omega, show ((n : Int) % ((2 ^ 64 : Nat) : Int)).toNat = n from by omega]
  show IntKind.i64.wrap ((BitVec.ofInt 64 (m : Int) ||| BitVec.ofInt 64 (n : Int)).toNat : Nat) = _
  rw [key, IntKind.wrap_i64]
  omega
theorem bor_pow (M e : Nat) (N : Int) (hN : N = ((2 ^ e : Nat) : Int)) (hM : M < 4096) (he : e < 12) (h : M / 2 ^ e % 2 = 0) : Go.bits .or .i64 (M : Int) N = ((M + 2 ^ e : Nat) : Int) := by
  subst hN
  have h2 : 2 ^ e < 2 ^ 12 := Nat.pow_lt_pow_right (show 1 < 2 by omega) he
  rw [bor M (2 ^ e) (by omega) (by omega), or_pow M e (by omega) (by omega) h]
theorem bor_two (M e f : Nat) (N : Int) (hN : N = ((2 ^ e ||| 2 ^ f : Nat) : Int)) (hM : M < 4096) (he : e < 12) (hf : f < 12) (h : M / 2 ^ e % 2 = 0) (h2 : (M + 2 ^ e) / 2 ^ f % 2 = 0) : Go.bits .or .i64 (M : Int) N = ((M + 2 ^ e + 2 ^ f : Nat) : Int) := by
  subst hN
  have h3 : 2 ^ e < 2 ^ 12 := Nat.pow_lt_pow_right (show 1 < 2 by omega) he
  have h4 : 2 ^ f < 2 ^ 12 := Nat.pow_lt_pow_right (show 1 < 2 by omega) hf
  rw [bor M (2 ^ e ||| 2 ^ f) (by omega) (Nat.lt_of_lt_of_le (Nat.or_lt_two_pow h3 h4) (by omega)), ← Nat.or_assoc, or_pow M e (by omega) (by omega) h, or_pow (M + 2 ^ e) f (by omega) (by omega) h2]
/-- What one sign says; p: its place in its three. -/
def dig (c lo up : Int) (third : Bool) (b : Int) (v s : Nat) : Option Nat :=
  if b = c then some v else if third = true ∧ b = lo then some (v + s) else if third = true ∧ b = up then some s else if b = 45 then some 0 else none
theorem up1 {k : Nat} {a : ByteArray} {x y z : Int} {r} (h : meta_Parse.l0 k a x y z = some r) : meta_Parse.l0 (k + 1) a x y z = some r := (meta_Parse.mono_l k).1 _ _ _ _ r h
theorem some0 (k : Nat) (a : ByteArray) (M d : Nat) (r : Int × Int) (hs : a.size = 9) (hJ : M < 4096 ∧ M % 512 = 0 ∧ M / 512 % 8 = 0) (hd : dig 114 115 83 false (bt a 0) 256 2048 = some d) (h : (M + d) < 4096 ∧ (M + d) % 256 = 0 ∧ (M + d) / 512 % 8 = 0 → meta_Parse.l0 k a ((M + d : Nat) : Int) 9 1 = some r) : meta_Parse.l0 (k + 4) a (M : Int) 9 0 = some r := by
  obtain ⟨J1, J2, J3⟩ := hJ
  rw [show k + 4 = (k + 3) + 1 from rfl, meta_Parse.l0, if_pos (by decide +kernel), if_pos (by decide +kernel), if_neg (by decide +kernel), show k + 3 = (k + 2) + 1 from rfl, meta_Parse.j1, if_pos (by decide +kernel), if_pos (by omega), if_pos (by decide +kernel), show bt (⟨#[114, 119, 120, 114, 119, 120, 114, 119, 120]⟩ : ByteArray) 0 = 114 from by decide +kernel, show wrap64 (0 + 1) = 1 from by decide +kernel]
  unfold dig at hd
  by_cases c1 : bt a 0 = 114
  · rw [if_pos c1] at hd ⊢
    cases hd
    rw [if_pos (by decide +kernel), bor_pow M 8 _ (by decide +kernel) J1 (by omega) (by omega)]
    exact up1 (up1 (h ⟨by omega, by omega, by omega⟩))
  · rw [if_neg c1] at hd ⊢
    rw [if_neg (by simp), if_neg (by simp)] at hd
    rw [if_neg (by decide +kernel), show k + 2 = (k + 1) + 1 from rfl, meta_Parse.j2, if_neg (by simp), if_neg (by decide +kernel), meta_Parse.j3, if_neg (by simp), show wrap64 (0 + 1) = 1 from by decide +kernel]
    by_cases c2 : bt a 0 = 45
    · rw [if_pos c2] at hd ⊢
      cases hd
      exact h ⟨by omega, by omega, by omega⟩
    · rw [if_neg c2] at hd
      cases hd
theorem none0 (k : Nat) (a : ByteArray) (M : Nat) (hs : a.size = 9) (hd : dig 114 115 83 false (bt a 0) 256 2048 = none) : meta_Parse.l0 (k + 4) a (M : Int) 9 0 = some (0, 3) := by
  rw [show k + 4 = (k + 3) + 1 from rfl, meta_Parse.l0, if_pos (by decide +kernel), if_pos (by decide +kernel), if_neg (by decide +kernel), show k + 3 = (k + 2) + 1 from rfl, meta_Parse.j1, if_pos (by decide +kernel), if_pos (by omega), if_pos (by decide +kernel), show bt (⟨#[114, 119, 120, 114, 119, 120, 114, 119, 120]⟩ : ByteArray) 0 = 114 from by decide +kernel]
  unfold dig at hd
  by_cases c1 : bt a 0 = 114
  · rw [if_pos c1] at hd
    cases hd
  · rw [if_neg c1] at hd ⊢
    rw [if_neg (by simp), if_neg (by simp)] at hd
    rw [if_neg (by decide +kernel), show k + 2 = (k + 1) + 1 from rfl, meta_Parse.j2, if_neg (by simp), if_neg (by decide +kernel), meta_Parse.j3, if_neg (by simp)]
    by_cases c2 : bt a 0 = 45
    · rw [if_pos c2] at hd
      cases hd
    · rw [if_neg c2]
theorem some1 (k : Nat) (a : ByteArray) (M d : Nat) (r : Int × Int) (hs : a.size = 9) (hJ : M < 4096 ∧ M % 256 = 0 ∧ M / 512 % 8 = 0) (hd : dig 119 115 83 false (bt a 1) 128 2048 = some d) (h : (M + d) < 4096 ∧ (M + d) % 128 = 0 ∧ (M + d) / 512 % 8 = 0 → meta_Parse.l0 k a ((M + d : Nat) : Int) 9 2 = some r) : meta_Parse.l0 (k + 4) a (M : Int) 9 1 = some r := by
  obtain ⟨J1, J2, J3⟩ := hJ
  rw [show k + 4 = (k + 3) + 1 from rfl, meta_Parse.l0, if_pos (by decide +kernel), if_pos (by decide +kernel), if_neg (by decide +kernel), show k + 3 = (k + 2) + 1 from rfl, meta_Parse.j1, if_pos (by decide +kernel), if_pos (by omega), if_pos (by decide +kernel), show bt (⟨#[114, 119, 120, 114, 119, 120, 114, 119, 120]⟩ : ByteArray) 1 = 119 from by decide +kernel, show wrap64 (1 + 1) = 2 from by decide +kernel]
  unfold dig at hd
  by_cases c1 : bt a 1 = 119
  · rw [if_pos c1] at hd ⊢
    cases hd
    rw [if_pos (by decide +kernel), bor_pow M 7 _ (by decide +kernel) J1 (by omega) (by omega)]
    exact up1 (up1 (h ⟨by omega, by omega, by omega⟩))
  · rw [if_neg c1] at hd ⊢
    rw [if_neg (by simp), if_neg (by simp)] at hd
    rw [if_neg (by decide +kernel), show k + 2 = (k + 1) + 1 from rfl, meta_Parse.j2, if_neg (by simp), if_neg (by decide +kernel), meta_Parse.j3, if_neg (by simp), show wrap64 (1 + 1) = 2 from by decide +kernel]
    by_cases c2 : bt a 1 = 45
    · rw [if_pos c2] at hd ⊢
      cases hd
      exact h ⟨by omega, by omega, by omega⟩
    · rw [if_neg c2] at hd
      cases hd
theorem none1 (k : Nat) (a : ByteArray) (M : Nat) (hs : a.size = 9) (hd : dig 119 115 83 false (bt a 1) 128 2048 = none) : meta_Parse.l0 (k + 4) a (M : Int) 9 1 = some (0, 3) := by
  rw [show k + 4 = (k + 3) + 1 from rfl, meta_Parse.l0, if_pos (by decide +kernel), if_pos (by decide +kernel), if_neg (by decide +kernel), show k + 3 = (k + 2) + 1 from rfl, meta_Parse.j1, if_pos (by decide +kernel), if_pos (by omega), if_pos (by decide +kernel), show bt (⟨#[114, 119, 120, 114, 119, 120, 114, 119, 120]⟩ : ByteArray) 1 = 119 from by decide +kernel]
  unfold dig at hd
  by_cases c1 : bt a 1 = 119
  · rw [if_pos c1] at hd
    cases hd
  · rw [if_neg c1] at hd ⊢
    rw [if_neg (by simp), if_neg (by simp)] at hd
    rw [if_neg (by decide +kernel), show k + 2 = (k + 1) + 1 from rfl, meta_Parse.j2, if_neg (by simp), if_neg (by decide +kernel), meta_Parse.j3, if_neg (by simp)]
    by_cases c2 : bt a 1 = 45
    · rw [if_pos c2] at hd
      cases hd
    · rw [if_neg c2]
theorem some2 (k : Nat) (a : ByteArray) (M d : Nat) (r : Int × Int) (hs : a.size = 9) (hJ : M < 4096 ∧ M % 128 = 0 ∧ M / 512 % 8 = 0) (hd : dig 120 115 83 true (bt a 2) 64 2048 = some d) (h : (M + d) < 4096 ∧ (M + d) % 64 = 0 ∧ (M + d) / 512 % 4 = 0 → meta_Parse.l0 k a ((M + d : Nat) : Int) 9 3 = some r) : meta_Parse.l0 (k + 4) a (M : Int) 9 2 = some r := by
  obtain ⟨J1, J2, J3⟩ := hJ
  rw [show k + 4 = (k + 3) + 1 from rfl, meta_Parse.l0, if_pos (by decide +kernel), if_pos (by decide +kernel), if_neg (by decide +kernel), show k + 3 = (k + 2) + 1 from rfl, meta_Parse.j1, if_pos (by decide +kernel), if_pos (by omega), if_pos (by decide +kernel), show bt (⟨#[114, 119, 120, 114, 119, 120, 114, 119, 120]⟩ : ByteArray) 2 = 120 from by decide +kernel, show wrap64 (2 + 1) = 3 from by decide +kernel]
  unfold dig at hd
  by_cases c1 : bt a 2 = 120
  · rw [if_pos c1] at hd ⊢
    cases hd
    rw [if_pos (by decide +kernel), bor_pow M 6 _ (by decide +kernel) J1 (by omega) (by omega)]
    exact up1 (up1 (h ⟨by omega, by omega, by omega⟩))
  · rw [if_neg c1] at hd ⊢
    rw [if_pos (by decide +kernel), show k + 2 = (k + 1) + 1 from rfl, meta_Parse.j2]
    by_cases c2 : bt a 2 = 115
    · rw [if_pos ⟨rfl, c2⟩] at hd
      cases hd
      rw [if_pos (by rw [c2]; rfl), if_pos (by decide +kernel), bor_two M 6 11 _ (by decide +kernel) J1 (by omega) (by omega) (by omega) (by omega), show wrap64 (2 + 1) = 3 from by decide +kernel]
      exact up1 (h ⟨by omega, by omega, by omega⟩)
    · rw [if_neg (fun q => c2 q.2)] at hd
      rw [if_neg (by rw [beq_iff_eq]; exact c2), if_pos (by decide +kernel), meta_Parse.j3, show wrap64 (2 + 1) = 3 from by decide +kernel]
      by_cases c3 : bt a 2 = 83
      · rw [if_pos ⟨rfl, c3⟩] at hd
        cases hd
        rw [if_pos (by rw [c3]; rfl), bor_pow M 11 _ (by decide +kernel) J1 (by omega) (by omega)]
        exact h ⟨by omega, by omega, by omega⟩
      · rw [if_neg (fun q => c3 q.2)] at hd
        rw [if_neg (by rw [beq_iff_eq]; exact c3)]
        by_cases c4 : bt a 2 = 45
        · rw [if_pos c4] at hd ⊢
          cases hd
          exact h ⟨by omega, by omega, by omega⟩
        · rw [if_neg c4] at hd
          cases hd
theorem none2 (k : Nat) (a : ByteArray) (M : Nat) (hs : a.size = 9) (hd : dig 120 115 83 true (bt a 2) 64 2048 = none) : meta_Parse.l0 (k + 4) a (M : Int) 9 2 = some (0, 3) := by
  rw [show k + 4 = (k + 3) + 1 from rfl, meta_Parse.l0, if_pos (by decide +kernel), if_pos (by decide +kernel), if_neg (by decide +kernel), show k + 3 = (k + 2) + 1 from rfl, meta_Parse.j1, if_pos (by decide +kernel), if_pos (by omega), if_pos (by decide +kernel), show bt (⟨#[114, 119, 120, 114, 119, 120, 114, 119, 120]⟩ : ByteArray) 2 = 120 from by decide +kernel]
  unfold dig at hd
  by_cases c1 : bt a 2 = 120
  · rw [if_pos c1] at hd
    cases hd
  · rw [if_neg c1] at hd ⊢
    rw [if_pos (by decide +kernel), show k + 2 = (k + 1) + 1 from rfl, meta_Parse.j2]
    by_cases c2 : bt a 2 = 115
    · rw [if_pos ⟨rfl, c2⟩] at hd
      cases hd
    · rw [if_neg (fun q => c2 q.2)] at hd
      rw [if_neg (by rw [beq_iff_eq]; exact c2), if_pos (by decide +kernel), meta_Parse.j3]
      by_cases c3 : bt a 2 = 83
      · rw [if_pos ⟨rfl, c3⟩] at hd
        cases hd
      · rw [if_neg (fun q => c3 q.2)] at hd
        rw [if_neg (by rw [beq_iff_eq]; exact c3)]
        by_cases c4 : bt a 2 = 45
        · rw [if_pos c4] at hd
          cases hd
        · rw [if_neg c4]
theorem some3 (k : Nat) (a : ByteArray) (M d : Nat) (r : Int × Int) (hs : a.size = 9) (hJ : M < 4096 ∧ M % 64 = 0 ∧ M / 512 % 4 = 0) (hd : dig 114 115 83 false (bt a 3) 32 1024 = some d) (h : (M + d) < 4096 ∧ (M + d) % 32 = 0 ∧ (M + d) / 512 % 4 = 0 → meta_Parse.l0 k a ((M + d : Nat) : Int) 9 4 = some r) : meta_Parse.l0 (k + 4) a (M : Int) 9 3 = some r := by
  obtain ⟨J1, J2, J3⟩ := hJ
  rw [show k + 4 = (k + 3) + 1 from rfl, meta_Parse.l0, if_pos (by decide +kernel), if_pos (by decide +kernel), if_neg (by decide +kernel), show k + 3 = (k + 2) + 1 from rfl, meta_Parse.j1, if_pos (by decide +kernel), if_pos (by omega), if_pos (by decide +kernel), show bt (⟨#[114, 119, 120, 114, 119, 120, 114, 119, 120]⟩ : ByteArray) 3 = 114 from by decide +kernel, show wrap64 (3 + 1) = 4 from by decide +kernel]
  unfold dig at hd
  by_cases c1 : bt a 3 = 114
  · rw [if_pos c1] at hd ⊢
    cases hd
    rw [if_pos (by decide +kernel), bor_pow M 5 _ (by decide +kernel) J1 (by omega) (by omega)]
    exact up1 (up1 (h ⟨by omega, by omega, by omega⟩))
  · rw [if_neg c1] at hd ⊢
    rw [if_neg (by simp), if_neg (by simp)] at hd
    rw [if_neg (by decide +kernel), show k + 2 = (k + 1) + 1 from rfl, meta_Parse.j2, if_neg (by simp), if_neg (by decide +kernel), meta_Parse.j3, if_neg (by simp), show wrap64 (3 + 1) = 4 from by decide +kernel]
    by_cases c2 : bt a 3 = 45
    · rw [if_pos c2] at hd ⊢
      cases hd
      exact h ⟨by omega, by omega, by omega⟩
    · rw [if_neg c2] at hd
      cases hd
theorem none3 (k : Nat) (a : ByteArray) (M : Nat) (hs : a.size = 9) (hd : dig 114 115 83 false (bt a 3) 32 1024 = none) : meta_Parse.l0 (k + 4) a (M : Int) 9 3 = some (0, 3) := by
  rw [show k + 4 = (k + 3) + 1 from rfl, meta_Parse.l0, if_pos (by decide +kernel), if_pos (by decide +kernel), if_neg (by decide +kernel), show k + 3 = (k + 2) + 1 from rfl, meta_Parse.j1, if_pos (by decide +kernel), if_pos (by omega), if_pos (by decide +kernel), show bt (⟨#[114, 119, 120, 114, 119, 120, 114, 119, 120]⟩ : ByteArray) 3 = 114 from by decide +kernel]
  unfold dig at hd
  by_cases c1 : bt a 3 = 114
  · rw [if_pos c1] at hd
    cases hd
  · rw [if_neg c1] at hd ⊢
    rw [if_neg (by simp), if_neg (by simp)] at hd
    rw [if_neg (by decide +kernel), show k + 2 = (k + 1) + 1 from rfl, meta_Parse.j2, if_neg (by simp), if_neg (by decide +kernel), meta_Parse.j3, if_neg (by simp)]
    by_cases c2 : bt a 3 = 45
    · rw [if_pos c2] at hd
      cases hd
    · rw [if_neg c2]
theorem some4 (k : Nat) (a : ByteArray) (M d : Nat) (r : Int × Int) (hs : a.size = 9) (hJ : M < 4096 ∧ M % 32 = 0 ∧ M / 512 % 4 = 0) (hd : dig 119 115 83 false (bt a 4) 16 1024 = some d) (h : (M + d) < 4096 ∧ (M + d) % 16 = 0 ∧ (M + d) / 512 % 4 = 0 → meta_Parse.l0 k a ((M + d : Nat) : Int) 9 5 = some r) : meta_Parse.l0 (k + 4) a (M : Int) 9 4 = some r := by
  obtain ⟨J1, J2, J3⟩ := hJ
  rw [show k + 4 = (k + 3) + 1 from rfl, meta_Parse.l0, if_pos (by decide +kernel), if_pos (by decide +kernel), if_neg (by decide +kernel), show k + 3 = (k + 2) + 1 from rfl, meta_Parse.j1, if_pos (by decide +kernel), if_pos (by omega), if_pos (by decide +kernel), show bt (⟨#[114, 119, 120, 114, 119, 120, 114, 119, 120]⟩ : ByteArray) 4 = 119 from by decide +kernel, show wrap64 (4 + 1) = 5 from by decide +kernel]
  unfold dig at hd
  by_cases c1 : bt a 4 = 119
  · rw [if_pos c1] at hd ⊢
    cases hd
    rw [if_pos (by decide +kernel), bor_pow M 4 _ (by decide +kernel) J1 (by omega) (by omega)]
    exact up1 (up1 (h ⟨by omega, by omega, by omega⟩))
  · rw [if_neg c1] at hd ⊢
    rw [if_neg (by simp), if_neg (by simp)] at hd
    rw [if_neg (by decide +kernel), show k + 2 = (k + 1) + 1 from rfl, meta_Parse.j2, if_neg (by simp), if_neg (by decide +kernel), meta_Parse.j3, if_neg (by simp), show wrap64 (4 + 1) = 5 from by decide +kernel]
    by_cases c2 : bt a 4 = 45
    · rw [if_pos c2] at hd ⊢
      cases hd
      exact h ⟨by omega, by omega, by omega⟩
    · rw [if_neg c2] at hd
      cases hd
theorem none4 (k : Nat) (a : ByteArray) (M : Nat) (hs : a.size = 9) (hd : dig 119 115 83 false (bt a 4) 16 1024 = none) : meta_Parse.l0 (k + 4) a (M : Int) 9 4 = some (0, 3) := by
  rw [show k + 4 = (k + 3) + 1 from rfl, meta_Parse.l0, if_pos (by decide +kernel), if_pos (by decide +kernel), if_neg (by decide +kernel), show k + 3 = (k + 2) + 1 from rfl, meta_Parse.j1, if_pos (by decide +kernel), if_pos (by omega), if_pos (by decide +kernel), show bt (⟨#[114, 119, 120, 114, 119, 120, 114, 119, 120]⟩ : ByteArray) 4 = 119 from by decide +kernel]
  unfold dig at hd
  by_cases c1 : bt a 4 = 119
  · rw [if_pos c1] at hd
    cases hd
  · rw [if_neg c1] at hd ⊢
    rw [if_neg (by simp), if_neg (by simp)] at hd
    rw [if_neg (by decide +kernel), show k + 2 = (k + 1) + 1 from rfl, meta_Parse.j2, if_neg (by simp), if_neg (by decide +kernel), meta_Parse.j3, if_neg (by simp)]
    by_cases c2 : bt a 4 = 45
    · rw [if_pos c2] at hd
      cases hd
    · rw [if_neg c2]
theorem some5 (k : Nat) (a : ByteArray) (M d : Nat) (r : Int × Int) (hs : a.size = 9) (hJ : M < 4096 ∧ M % 16 = 0 ∧ M / 512 % 4 = 0) (hd : dig 120 115 83 true (bt a 5) 8 1024 = some d) (h : (M + d) < 4096 ∧ (M + d) % 8 = 0 ∧ (M + d) / 512 % 2 = 0 → meta_Parse.l0 k a ((M + d : Nat) : Int) 9 6 = some r) : meta_Parse.l0 (k + 4) a (M : Int) 9 5 = some r := by
  obtain ⟨J1, J2, J3⟩ := hJ
  rw [show k + 4 = (k + 3) + 1 from rfl, meta_Parse.l0, if_pos (by decide +kernel), if_pos (by decide +kernel), if_neg (by decide +kernel), show k + 3 = (k + 2) + 1 from rfl, meta_Parse.j1, if_pos (by decide +kernel), if_pos (by omega), if_pos (by decide +kernel), show bt (⟨#[114, 119, 120, 114, 119, 120, 114, 119, 120]⟩ : ByteArray) 5 = 120 from by decide +kernel, show wrap64 (5 + 1) = 6 from by decide +kernel]
  unfold dig at hd
  by_cases c1 : bt a 5 = 120
  · rw [if_pos c1] at hd ⊢
    cases hd
    rw [if_pos (by decide +kernel), bor_pow M 3 _ (by decide +kernel) J1 (by omega) (by omega)]
    exact up1 (up1 (h ⟨by omega, by omega, by omega⟩))
  · rw [if_neg c1] at hd ⊢
    rw [if_pos (by decide +kernel), show k + 2 = (k + 1) + 1 from rfl, meta_Parse.j2]
    by_cases c2 : bt a 5 = 115
    · rw [if_pos ⟨rfl, c2⟩] at hd
      cases hd
      rw [if_pos (by rw [c2]; rfl), if_pos (by decide +kernel), bor_two M 3 10 _ (by decide +kernel) J1 (by omega) (by omega) (by omega) (by omega), show wrap64 (5 + 1) = 6 from by decide +kernel]
      exact up1 (h ⟨by omega, by omega, by omega⟩)
    · rw [if_neg (fun q => c2 q.2)] at hd
      rw [if_neg (by rw [beq_iff_eq]; exact c2), if_pos (by decide +kernel), meta_Parse.j3, show wrap64 (5 + 1) = 6 from by decide +kernel]
      by_cases c3 : bt a 5 = 83
      · rw [if_pos ⟨rfl, c3⟩] at hd
        cases hd
        rw [if_pos (by rw [c3]; rfl), bor_pow M 10 _ (by decide +kernel) J1 (by omega) (by omega)]
        exact h ⟨by omega, by omega, by omega⟩
      · rw [if_neg (fun q => c3 q.2)] at hd
        rw [if_neg (by rw [beq_iff_eq]; exact c3)]
        by_cases c4 : bt a 5 = 45
        · rw [if_pos c4] at hd ⊢
          cases hd
          exact h ⟨by omega, by omega, by omega⟩
        · rw [if_neg c4] at hd
          cases hd
theorem none5 (k : Nat) (a : ByteArray) (M : Nat) (hs : a.size = 9) (hd : dig 120 115 83 true (bt a 5) 8 1024 = none) : meta_Parse.l0 (k + 4) a (M : Int) 9 5 = some (0, 3) := by
  rw [show k + 4 = (k + 3) + 1 from rfl, meta_Parse.l0, if_pos (by decide +kernel), if_pos (by decide +kernel), if_neg (by decide +kernel), show k + 3 = (k + 2) + 1 from rfl, meta_Parse.j1, if_pos (by decide +kernel), if_pos (by omega), if_pos (by decide +kernel), show bt (⟨#[114, 119, 120, 114, 119, 120, 114, 119, 120]⟩ : ByteArray) 5 = 120 from by decide +kernel]
  unfold dig at hd
  by_cases c1 : bt a 5 = 120
  · rw [if_pos c1] at hd
    cases hd
  · rw [if_neg c1] at hd ⊢
    rw [if_pos (by decide +kernel), show k + 2 = (k + 1) + 1 from rfl, meta_Parse.j2]
    by_cases c2 : bt a 5 = 115
    · rw [if_pos ⟨rfl, c2⟩] at hd
      cases hd
    · rw [if_neg (fun q => c2 q.2)] at hd
      rw [if_neg (by rw [beq_iff_eq]; exact c2), if_pos (by decide +kernel), meta_Parse.j3]
      by_cases c3 : bt a 5 = 83
      · rw [if_pos ⟨rfl, c3⟩] at hd
        cases hd
      · rw [if_neg (fun q => c3 q.2)] at hd
        rw [if_neg (by rw [beq_iff_eq]; exact c3)]
        by_cases c4 : bt a 5 = 45
        · rw [if_pos c4] at hd
          cases hd
        · rw [if_neg c4]
theorem some6 (k : Nat) (a : ByteArray) (M d : Nat) (r : Int × Int) (hs : a.size = 9) (hJ : M < 4096 ∧ M % 8 = 0 ∧ M / 512 % 2 = 0) (hd : dig 114 115 83 false (bt a 6) 4 512 = some d) (h : (M + d) < 4096 ∧ (M + d) % 4 = 0 ∧ (M + d) / 512 % 2 = 0 → meta_Parse.l0 k a ((M + d : Nat) : Int) 9 7 = some r) : meta_Parse.l0 (k + 4) a (M : Int) 9 6 = some r := by
  obtain ⟨J1, J2, J3⟩ := hJ
  rw [show k + 4 = (k + 3) + 1 from rfl, meta_Parse.l0, if_pos (by decide +kernel), if_pos (by decide +kernel), if_neg (by decide +kernel), show k + 3 = (k + 2) + 1 from rfl, meta_Parse.j1, if_pos (by decide +kernel), if_pos (by omega), if_pos (by decide +kernel), show bt (⟨#[114, 119, 120, 114, 119, 120, 114, 119, 120]⟩ : ByteArray) 6 = 114 from by decide +kernel, show wrap64 (6 + 1) = 7 from by decide +kernel]
  unfold dig at hd
  by_cases c1 : bt a 6 = 114
  · rw [if_pos c1] at hd ⊢
    cases hd
    rw [if_pos (by decide +kernel), bor_pow M 2 _ (by decide +kernel) J1 (by omega) (by omega)]
    exact up1 (up1 (h ⟨by omega, by omega, by omega⟩))
  · rw [if_neg c1] at hd ⊢
    rw [if_neg (by simp), if_neg (by simp)] at hd
    rw [if_neg (by decide +kernel), show k + 2 = (k + 1) + 1 from rfl, meta_Parse.j2, if_neg (by simp), if_neg (by decide +kernel), meta_Parse.j3, if_neg (by simp), show wrap64 (6 + 1) = 7 from by decide +kernel]
    by_cases c2 : bt a 6 = 45
    · rw [if_pos c2] at hd ⊢
      cases hd
      exact h ⟨by omega, by omega, by omega⟩
    · rw [if_neg c2] at hd
      cases hd
theorem none6 (k : Nat) (a : ByteArray) (M : Nat) (hs : a.size = 9) (hd : dig 114 115 83 false (bt a 6) 4 512 = none) : meta_Parse.l0 (k + 4) a (M : Int) 9 6 = some (0, 3) := by
  rw [show k + 4 = (k + 3) + 1 from rfl, meta_Parse.l0, if_pos (by decide +kernel), if_pos (by decide +kernel), if_neg (by decide +kernel), show k + 3 = (k + 2) + 1 from rfl, meta_Parse.j1, if_pos (by decide +kernel), if_pos (by omega), if_pos (by decide +kernel), show bt (⟨#[114, 119, 120, 114, 119, 120, 114, 119, 120]⟩ : ByteArray) 6 = 114 from by decide +kernel]
  unfold dig at hd
  by_cases c1 : bt a 6 = 114
  · rw [if_pos c1] at hd
    cases hd
  · rw [if_neg c1] at hd ⊢
    rw [if_neg (by simp), if_neg (by simp)] at hd
    rw [if_neg (by decide +kernel), show k + 2 = (k + 1) + 1 from rfl, meta_Parse.j2, if_neg (by simp), if_neg (by decide +kernel), meta_Parse.j3, if_neg (by simp)]
    by_cases c2 : bt a 6 = 45
    · rw [if_pos c2] at hd
      cases hd
    · rw [if_neg c2]
theorem some7 (k : Nat) (a : ByteArray) (M d : Nat) (r : Int × Int) (hs : a.size = 9) (hJ : M < 4096 ∧ M % 4 = 0 ∧ M / 512 % 2 = 0) (hd : dig 119 115 83 false (bt a 7) 2 512 = some d) (h : (M + d) < 4096 ∧ (M + d) % 2 = 0 ∧ (M + d) / 512 % 2 = 0 → meta_Parse.l0 k a ((M + d : Nat) : Int) 9 8 = some r) : meta_Parse.l0 (k + 4) a (M : Int) 9 7 = some r := by
  obtain ⟨J1, J2, J3⟩ := hJ
  rw [show k + 4 = (k + 3) + 1 from rfl, meta_Parse.l0, if_pos (by decide +kernel), if_pos (by decide +kernel), if_neg (by decide +kernel), show k + 3 = (k + 2) + 1 from rfl, meta_Parse.j1, if_pos (by decide +kernel), if_pos (by omega), if_pos (by decide +kernel), show bt (⟨#[114, 119, 120, 114, 119, 120, 114, 119, 120]⟩ : ByteArray) 7 = 119 from by decide +kernel, show wrap64 (7 + 1) = 8 from by decide +kernel]
  unfold dig at hd
  by_cases c1 : bt a 7 = 119
  · rw [if_pos c1] at hd ⊢
    cases hd
    rw [if_pos (by decide +kernel), bor_pow M 1 _ (by decide +kernel) J1 (by omega) (by omega)]
    exact up1 (up1 (h ⟨by omega, by omega, by omega⟩))
  · rw [if_neg c1] at hd ⊢
    rw [if_neg (by simp), if_neg (by simp)] at hd
    rw [if_neg (by decide +kernel), show k + 2 = (k + 1) + 1 from rfl, meta_Parse.j2, if_neg (by simp), if_neg (by decide +kernel), meta_Parse.j3, if_neg (by simp), show wrap64 (7 + 1) = 8 from by decide +kernel]
    by_cases c2 : bt a 7 = 45
    · rw [if_pos c2] at hd ⊢
      cases hd
      exact h ⟨by omega, by omega, by omega⟩
    · rw [if_neg c2] at hd
      cases hd
theorem none7 (k : Nat) (a : ByteArray) (M : Nat) (hs : a.size = 9) (hd : dig 119 115 83 false (bt a 7) 2 512 = none) : meta_Parse.l0 (k + 4) a (M : Int) 9 7 = some (0, 3) := by
  rw [show k + 4 = (k + 3) + 1 from rfl, meta_Parse.l0, if_pos (by decide +kernel), if_pos (by decide +kernel), if_neg (by decide +kernel), show k + 3 = (k + 2) + 1 from rfl, meta_Parse.j1, if_pos (by decide +kernel), if_pos (by omega), if_pos (by decide +kernel), show bt (⟨#[114, 119, 120, 114, 119, 120, 114, 119, 120]⟩ : ByteArray) 7 = 119 from by decide +kernel]
  unfold dig at hd
  by_cases c1 : bt a 7 = 119
  · rw [if_pos c1] at hd
    cases hd
  · rw [if_neg c1] at hd ⊢
    rw [if_neg (by simp), if_neg (by simp)] at hd
    rw [if_neg (by decide +kernel), show k + 2 = (k + 1) + 1 from rfl, meta_Parse.j2, if_neg (by simp), if_neg (by decide +kernel), meta_Parse.j3, if_neg (by simp)]
    by_cases c2 : bt a 7 = 45
    · rw [if_pos c2] at hd
      cases hd
    · rw [if_neg c2]
theorem some8 (k : Nat) (a : ByteArray) (M d : Nat) (r : Int × Int) (hs : a.size = 9) (hJ : M < 4096 ∧ M % 2 = 0 ∧ M / 512 % 2 = 0) (hd : dig 120 116 84 true (bt a 8) 1 512 = some d) (h : (M + d) < 4096 ∧ (M + d) % 1 = 0 ∧ (M + d) / 512 % 1 = 0 → meta_Parse.l0 k a ((M + d : Nat) : Int) 9 9 = some r) : meta_Parse.l0 (k + 4) a (M : Int) 9 8 = some r := by
  obtain ⟨J1, J2, J3⟩ := hJ
  rw [show k + 4 = (k + 3) + 1 from rfl, meta_Parse.l0, if_pos (by decide +kernel), if_pos (by decide +kernel), if_pos rfl, show k + 3 = (k + 2) + 1 from rfl, meta_Parse.j1, if_pos (by decide +kernel), if_pos (by omega), if_pos (by decide +kernel), show bt (⟨#[114, 119, 120, 114, 119, 120, 114, 119, 120]⟩ : ByteArray) 8 = 120 from by decide +kernel, show wrap64 (8 + 1) = 9 from by decide +kernel]
  unfold dig at hd
  by_cases c1 : bt a 8 = 120
  · rw [if_pos c1] at hd ⊢
    cases hd
    rw [if_pos (by decide +kernel), bor_pow M 0 _ (by decide +kernel) J1 (by omega) (by omega)]
    exact up1 (up1 (h ⟨by omega, by omega, by omega⟩))
  · rw [if_neg c1] at hd ⊢
    rw [if_pos (by decide +kernel), show k + 2 = (k + 1) + 1 from rfl, meta_Parse.j2]
    by_cases c2 : bt a 8 = 116
    · rw [if_pos ⟨rfl, c2⟩] at hd
      cases hd
      rw [if_pos (by rw [c2]; rfl), if_pos (by decide +kernel), bor_two M 0 9 _ (by decide +kernel) J1 (by omega) (by omega) (by omega) (by omega), show wrap64 (8 + 1) = 9 from by decide +kernel]
      exact up1 (h ⟨by omega, by omega, by omega⟩)
    · rw [if_neg (fun q => c2 q.2)] at hd
      rw [if_neg (by rw [beq_iff_eq]; exact c2), if_pos (by decide +kernel), meta_Parse.j3, show wrap64 (8 + 1) = 9 from by decide +kernel]
      by_cases c3 : bt a 8 = 84
      · rw [if_pos ⟨rfl, c3⟩] at hd
        cases hd
        rw [if_pos (by rw [c3]; rfl), bor_pow M 9 _ (by decide +kernel) J1 (by omega) (by omega)]
        exact h ⟨by omega, by omega, by omega⟩
      · rw [if_neg (fun q => c3 q.2)] at hd
        rw [if_neg (by rw [beq_iff_eq]; exact c3)]
        by_cases c4 : bt a 8 = 45
        · rw [if_pos c4] at hd ⊢
          cases hd
          exact h ⟨by omega, by omega, by omega⟩
        · rw [if_neg c4] at hd
          cases hd
theorem none8 (k : Nat) (a : ByteArray) (M : Nat) (hs : a.size = 9) (hd : dig 120 116 84 true (bt a 8) 1 512 = none) : meta_Parse.l0 (k + 4) a (M : Int) 9 8 = some (0, 3) := by
  rw [show k + 4 = (k + 3) + 1 from rfl, meta_Parse.l0, if_pos (by decide +kernel), if_pos (by decide +kernel), if_pos rfl, show k + 3 = (k + 2) + 1 from rfl, meta_Parse.j1, if_pos (by decide +kernel), if_pos (by omega), if_pos (by decide +kernel), show bt (⟨#[114, 119, 120, 114, 119, 120, 114, 119, 120]⟩ : ByteArray) 8 = 120 from by decide +kernel]
  unfold dig at hd
  by_cases c1 : bt a 8 = 120
  · rw [if_pos c1] at hd
    cases hd
  · rw [if_neg c1] at hd ⊢
    rw [if_pos (by decide +kernel), show k + 2 = (k + 1) + 1 from rfl, meta_Parse.j2]
    by_cases c2 : bt a 8 = 116
    · rw [if_pos ⟨rfl, c2⟩] at hd
      cases hd
    · rw [if_neg (fun q => c2 q.2)] at hd
      rw [if_neg (by rw [beq_iff_eq]; exact c2), if_pos (by decide +kernel), meta_Parse.j3]
      by_cases c3 : bt a 8 = 84
      · rw [if_pos ⟨rfl, c3⟩] at hd
        cases hd
      · rw [if_neg (fun q => c3 q.2)] at hd
        rw [if_neg (by rw [beq_iff_eq]; exact c3)]
        by_cases c4 : bt a 8 = 45
        · rw [if_pos c4] at hd
          cases hd
        · rw [if_neg c4]

def third (kk x : Nat) : UInt8 := if x / 8 = 1 then (if x % 2 = 1 then (if kk = 0 then 116 else 115) else (if kk = 0 then 84 else 83)) else (if x % 2 = 1 then 120 else 45)
def grp (kk x : Nat) : ByteArray := ⟨#[if x / 4 % 2 = 1 then 114 else 45, if x / 2 % 2 = 1 then 119 else 45, third kk x]⟩
def mm (kk x : Nat) : Nat := x % 8 * 8 ^ kk + x / 8 * 512 * 2 ^ kk
def step (kk : Nat) (p : ByteArray) (s : Int × Bool) (x : Nat) : Int × Bool := if (grp kk x).toList = p.toList then (wrap64 (s.1 + mm kk x), true) else s
theorem text_f (m : Nat) (h : m < 4096) : creelref_ModeText.f (m : Int) = some (modeText m, 0) := by
  unfold creelref_ModeText.f
  rw [if_pos ⟨by omega, by omega⟩, Int.toNat_natCast]
theorem text_size (m : Nat) : (modeText m).size = 9 := by
  show ((List.range 9).map _).toArray.size = 9
  simp
theorem pow2 (n : Nat) : creelref_power.f (n + 4) 2 = some 64 := by
  show creelref_power.l0 (n + 3 + 1) 2 1 0 = some 64
  rw [creelref_power.l0, if_pos (by decide), show n + 3 = n + 2 + 1 from rfl, creelref_power.l0, if_pos (by decide +kernel), show n + 2 = n + 1 + 1 from rfl, creelref_power.l0, if_neg (by decide +kernel)]
  decide +kernel
theorem pow1 (n : Nat) : creelref_power.f (n + 4) 1 = some 8 := by
  show creelref_power.l0 (n + 3 + 1) 1 1 0 = some 8
  rw [creelref_power.l0, if_pos (by decide), show n + 3 = n + 2 + 1 from rfl, creelref_power.l0, if_neg (by decide +kernel)]
  decide +kernel
theorem pow0 (n : Nat) : creelref_power.f (n + 4) 0 = some 1 := by
  show creelref_power.l0 (n + 3 + 1) 0 1 0 = some 1
  rw [creelref_power.l0, if_neg (by decide +kernel)]
theorem ref0_0 (n : Nat) (a p : ByteArray) (s : Int × Bool) : creelref_ModeOf.l1 (n + 5) a s.1 0 p s.2 0 = creelref_ModeOf.l1 (n + 4) a (step 0 p s 0).1 0 p (step 0 p s 0).2 1 := by
  rw [show n + 5 = (n + 4) + 1 from rfl, creelref_ModeOf.l1, if_pos (by decide), pow0, Option.bind_some, if_pos (by decide), show wrap64 (wrap64 (Int.tmod 0 8 * 1) + shl .i64 (wrap64 (wrap64 (Int.tdiv 0 8) * 512)) 0) = ((0 : Nat) : Int) from by decide +kernel, text_f 0 (by decide), Option.bind_some, if_pos (by decide +kernel), if_pos (by decide +kernel), if_pos (by rw [text_size]; decide +kernel), show (modeText 0).extract (wrap64 (6 - wrap64 (3 * 0)) : Int).toNat (wrap64 (9 - wrap64 (3 * 0)) : Int).toNat = grp 0 0 from by decide +kernel, show wrap64 (0 + 1) = 1 from by decide +kernel]
  unfold step
  by_cases h : (grp 0 0).toList = p.toList
  · rw [if_pos h, if_pos h]
    rfl
  · rw [if_neg h, if_neg h]
theorem ref0_1 (n : Nat) (a p : ByteArray) (s : Int × Bool) : creelref_ModeOf.l1 (n + 5) a s.1 0 p s.2 1 = creelref_ModeOf.l1 (n + 4) a (step 0 p s 1).1 0 p (step 0 p s 1).2 2 := by
  rw [show n + 5 = (n + 4) + 1 from rfl, creelref_ModeOf.l1, if_pos (by decide), pow0, Option.bind_some, if_pos (by decide), show wrap64 (wrap64 (Int.tmod 1 8 * 1) + shl .i64 (wrap64 (wrap64 (Int.tdiv 1 8) * 512)) 0) = ((1 : Nat) : Int) from by decide +kernel, text_f 1 (by decide), Option.bind_some, if_pos (by decide +kernel), if_pos (by decide +kernel), if_pos (by rw [text_size]; decide +kernel), show (modeText 1).extract (wrap64 (6 - wrap64 (3 * 0)) : Int).toNat (wrap64 (9 - wrap64 (3 * 0)) : Int).toNat = grp 0 1 from by decide +kernel, show wrap64 (1 + 1) = 2 from by decide +kernel]
  unfold step
  by_cases h : (grp 0 1).toList = p.toList
  · rw [if_pos h, if_pos h]
    rfl
  · rw [if_neg h, if_neg h]
theorem ref0_2 (n : Nat) (a p : ByteArray) (s : Int × Bool) : creelref_ModeOf.l1 (n + 5) a s.1 0 p s.2 2 = creelref_ModeOf.l1 (n + 4) a (step 0 p s 2).1 0 p (step 0 p s 2).2 3 := by
  rw [show n + 5 = (n + 4) + 1 from rfl, creelref_ModeOf.l1, if_pos (by decide), pow0, Option.bind_some, if_pos (by decide), show wrap64 (wrap64 (Int.tmod 2 8 * 1) + shl .i64 (wrap64 (wrap64 (Int.tdiv 2 8) * 512)) 0) = ((2 : Nat) : Int) from by decide +kernel, text_f 2 (by decide), Option.bind_some, if_pos (by decide +kernel), if_pos (by decide +kernel), if_pos (by rw [text_size]; decide +kernel), show (modeText 2).extract (wrap64 (6 - wrap64 (3 * 0)) : Int).toNat (wrap64 (9 - wrap64 (3 * 0)) : Int).toNat = grp 0 2 from by decide +kernel, show wrap64 (2 + 1) = 3 from by decide +kernel]
  unfold step
  by_cases h : (grp 0 2).toList = p.toList
  · rw [if_pos h, if_pos h]
    rfl
  · rw [if_neg h, if_neg h]
theorem ref0_3 (n : Nat) (a p : ByteArray) (s : Int × Bool) : creelref_ModeOf.l1 (n + 5) a s.1 0 p s.2 3 = creelref_ModeOf.l1 (n + 4) a (step 0 p s 3).1 0 p (step 0 p s 3).2 4 := by
  rw [show n + 5 = (n + 4) + 1 from rfl, creelref_ModeOf.l1, if_pos (by decide), pow0, Option.bind_some, if_pos (by decide), show wrap64 (wrap64 (Int.tmod 3 8 * 1) + shl .i64 (wrap64 (wrap64 (Int.tdiv 3 8) * 512)) 0) = ((3 : Nat) : Int) from by decide +kernel, text_f 3 (by decide), Option.bind_some, if_pos (by decide +kernel), if_pos (by decide +kernel), if_pos (by rw [text_size]; decide +kernel), show (modeText 3).extract (wrap64 (6 - wrap64 (3 * 0)) : Int).toNat (wrap64 (9 - wrap64 (3 * 0)) : Int).toNat = grp 0 3 from by decide +kernel, show wrap64 (3 + 1) = 4 from by decide +kernel]
  unfold step
  by_cases h : (grp 0 3).toList = p.toList
  · rw [if_pos h, if_pos h]
    rfl
  · rw [if_neg h, if_neg h]
theorem ref0_4 (n : Nat) (a p : ByteArray) (s : Int × Bool) : creelref_ModeOf.l1 (n + 5) a s.1 0 p s.2 4 = creelref_ModeOf.l1 (n + 4) a (step 0 p s 4).1 0 p (step 0 p s 4).2 5 := by
  rw [show n + 5 = (n + 4) + 1 from rfl, creelref_ModeOf.l1, if_pos (by decide), pow0, Option.bind_some, if_pos (by decide), show wrap64 (wrap64 (Int.tmod 4 8 * 1) + shl .i64 (wrap64 (wrap64 (Int.tdiv 4 8) * 512)) 0) = ((4 : Nat) : Int) from by decide +kernel, text_f 4 (by decide), Option.bind_some, if_pos (by decide +kernel), if_pos (by decide +kernel), if_pos (by rw [text_size]; decide +kernel), show (modeText 4).extract (wrap64 (6 - wrap64 (3 * 0)) : Int).toNat (wrap64 (9 - wrap64 (3 * 0)) : Int).toNat = grp 0 4 from by decide +kernel, show wrap64 (4 + 1) = 5 from by decide +kernel]
  unfold step
  by_cases h : (grp 0 4).toList = p.toList
  · rw [if_pos h, if_pos h]
    rfl
  · rw [if_neg h, if_neg h]
theorem ref0_5 (n : Nat) (a p : ByteArray) (s : Int × Bool) : creelref_ModeOf.l1 (n + 5) a s.1 0 p s.2 5 = creelref_ModeOf.l1 (n + 4) a (step 0 p s 5).1 0 p (step 0 p s 5).2 6 := by
  rw [show n + 5 = (n + 4) + 1 from rfl, creelref_ModeOf.l1, if_pos (by decide), pow0, Option.bind_some, if_pos (by decide), show wrap64 (wrap64 (Int.tmod 5 8 * 1) + shl .i64 (wrap64 (wrap64 (Int.tdiv 5 8) * 512)) 0) = ((5 : Nat) : Int) from by decide +kernel, text_f 5 (by decide), Option.bind_some, if_pos (by decide +kernel), if_pos (by decide +kernel), if_pos (by rw [text_size]; decide +kernel), show (modeText 5).extract (wrap64 (6 - wrap64 (3 * 0)) : Int).toNat (wrap64 (9 - wrap64 (3 * 0)) : Int).toNat = grp 0 5 from by decide +kernel, show wrap64 (5 + 1) = 6 from by decide +kernel]
  unfold step
  by_cases h : (grp 0 5).toList = p.toList
  · rw [if_pos h, if_pos h]
    rfl
  · rw [if_neg h, if_neg h]
theorem ref0_6 (n : Nat) (a p : ByteArray) (s : Int × Bool) : creelref_ModeOf.l1 (n + 5) a s.1 0 p s.2 6 = creelref_ModeOf.l1 (n + 4) a (step 0 p s 6).1 0 p (step 0 p s 6).2 7 := by
  rw [show n + 5 = (n + 4) + 1 from rfl, creelref_ModeOf.l1, if_pos (by decide), pow0, Option.bind_some, if_pos (by decide), show wrap64 (wrap64 (Int.tmod 6 8 * 1) + shl .i64 (wrap64 (wrap64 (Int.tdiv 6 8) * 512)) 0) = ((6 : Nat) : Int) from by decide +kernel, text_f 6 (by decide), Option.bind_some, if_pos (by decide +kernel), if_pos (by decide +kernel), if_pos (by rw [text_size]; decide +kernel), show (modeText 6).extract (wrap64 (6 - wrap64 (3 * 0)) : Int).toNat (wrap64 (9 - wrap64 (3 * 0)) : Int).toNat = grp 0 6 from by decide +kernel, show wrap64 (6 + 1) = 7 from by decide +kernel]
  unfold step
  by_cases h : (grp 0 6).toList = p.toList
  · rw [if_pos h, if_pos h]
    rfl
  · rw [if_neg h, if_neg h]
theorem ref0_7 (n : Nat) (a p : ByteArray) (s : Int × Bool) : creelref_ModeOf.l1 (n + 5) a s.1 0 p s.2 7 = creelref_ModeOf.l1 (n + 4) a (step 0 p s 7).1 0 p (step 0 p s 7).2 8 := by
  rw [show n + 5 = (n + 4) + 1 from rfl, creelref_ModeOf.l1, if_pos (by decide), pow0, Option.bind_some, if_pos (by decide), show wrap64 (wrap64 (Int.tmod 7 8 * 1) + shl .i64 (wrap64 (wrap64 (Int.tdiv 7 8) * 512)) 0) = ((7 : Nat) : Int) from by decide +kernel, text_f 7 (by decide), Option.bind_some, if_pos (by decide +kernel), if_pos (by decide +kernel), if_pos (by rw [text_size]; decide +kernel), show (modeText 7).extract (wrap64 (6 - wrap64 (3 * 0)) : Int).toNat (wrap64 (9 - wrap64 (3 * 0)) : Int).toNat = grp 0 7 from by decide +kernel, show wrap64 (7 + 1) = 8 from by decide +kernel]
  unfold step
  by_cases h : (grp 0 7).toList = p.toList
  · rw [if_pos h, if_pos h]
    rfl
  · rw [if_neg h, if_neg h]
theorem ref0_8 (n : Nat) (a p : ByteArray) (s : Int × Bool) : creelref_ModeOf.l1 (n + 5) a s.1 0 p s.2 8 = creelref_ModeOf.l1 (n + 4) a (step 0 p s 8).1 0 p (step 0 p s 8).2 9 := by
  rw [show n + 5 = (n + 4) + 1 from rfl, creelref_ModeOf.l1, if_pos (by decide), pow0, Option.bind_some, if_pos (by decide), show wrap64 (wrap64 (Int.tmod 8 8 * 1) + shl .i64 (wrap64 (wrap64 (Int.tdiv 8 8) * 512)) 0) = ((512 : Nat) : Int) from by decide +kernel, text_f 512 (by decide), Option.bind_some, if_pos (by decide +kernel), if_pos (by decide +kernel), if_pos (by rw [text_size]; decide +kernel), show (modeText 512).extract (wrap64 (6 - wrap64 (3 * 0)) : Int).toNat (wrap64 (9 - wrap64 (3 * 0)) : Int).toNat = grp 0 8 from by decide +kernel, show wrap64 (8 + 1) = 9 from by decide +kernel]
  unfold step
  by_cases h : (grp 0 8).toList = p.toList
  · rw [if_pos h, if_pos h]
    rfl
  · rw [if_neg h, if_neg h]
theorem ref0_9 (n : Nat) (a p : ByteArray) (s : Int × Bool) : creelref_ModeOf.l1 (n + 5) a s.1 0 p s.2 9 = creelref_ModeOf.l1 (n + 4) a (step 0 p s 9).1 0 p (step 0 p s 9).2 10 := by
  rw [show n + 5 = (n + 4) + 1 from rfl, creelref_ModeOf.l1, if_pos (by decide), pow0, Option.bind_some, if_pos (by decide), show wrap64 (wrap64 (Int.tmod 9 8 * 1) + shl .i64 (wrap64 (wrap64 (Int.tdiv 9 8) * 512)) 0) = ((513 : Nat) : Int) from by decide +kernel, text_f 513 (by decide), Option.bind_some, if_pos (by decide +kernel), if_pos (by decide +kernel), if_pos (by rw [text_size]; decide +kernel), show (modeText 513).extract (wrap64 (6 - wrap64 (3 * 0)) : Int).toNat (wrap64 (9 - wrap64 (3 * 0)) : Int).toNat = grp 0 9 from by decide +kernel, show wrap64 (9 + 1) = 10 from by decide +kernel]
  unfold step
  by_cases h : (grp 0 9).toList = p.toList
  · rw [if_pos h, if_pos h]
    rfl
  · rw [if_neg h, if_neg h]
theorem ref0_10 (n : Nat) (a p : ByteArray) (s : Int × Bool) : creelref_ModeOf.l1 (n + 5) a s.1 0 p s.2 10 = creelref_ModeOf.l1 (n + 4) a (step 0 p s 10).1 0 p (step 0 p s 10).2 11 := by
  rw [show n + 5 = (n + 4) + 1 from rfl, creelref_ModeOf.l1, if_pos (by decide), pow0, Option.bind_some, if_pos (by decide), show wrap64 (wrap64 (Int.tmod 10 8 * 1) + shl .i64 (wrap64 (wrap64 (Int.tdiv 10 8) * 512)) 0) = ((514 : Nat) : Int) from by decide +kernel, text_f 514 (by decide), Option.bind_some, if_pos (by decide +kernel), if_pos (by decide +kernel), if_pos (by rw [text_size]; decide +kernel), show (modeText 514).extract (wrap64 (6 - wrap64 (3 * 0)) : Int).toNat (wrap64 (9 - wrap64 (3 * 0)) : Int).toNat = grp 0 10 from by decide +kernel, show wrap64 (10 + 1) = 11 from by decide +kernel]
  unfold step
  by_cases h : (grp 0 10).toList = p.toList
  · rw [if_pos h, if_pos h]
    rfl
  · rw [if_neg h, if_neg h]
theorem ref0_11 (n : Nat) (a p : ByteArray) (s : Int × Bool) : creelref_ModeOf.l1 (n + 5) a s.1 0 p s.2 11 = creelref_ModeOf.l1 (n + 4) a (step 0 p s 11).1 0 p (step 0 p s 11).2 12 := by
  rw [show n + 5 = (n + 4) + 1 from rfl, creelref_ModeOf.l1, if_pos (by decide), pow0, Option.bind_some, if_pos (by decide), show wrap64 (wrap64 (Int.tmod 11 8 * 1) + shl .i64 (wrap64 (wrap64 (Int.tdiv 11 8) * 512)) 0) = ((515 : Nat) : Int) from by decide +kernel, text_f 515 (by decide), Option.bind_some, if_pos (by decide +kernel), if_pos (by decide +kernel), if_pos (by rw [text_size]; decide +kernel), show (modeText 515).extract (wrap64 (6 - wrap64 (3 * 0)) : Int).toNat (wrap64 (9 - wrap64 (3 * 0)) : Int).toNat = grp 0 11 from by decide +kernel, show wrap64 (11 + 1) = 12 from by decide +kernel]
  unfold step
  by_cases h : (grp 0 11).toList = p.toList
  · rw [if_pos h, if_pos h]
    rfl
  · rw [if_neg h, if_neg h]
theorem ref0_12 (n : Nat) (a p : ByteArray) (s : Int × Bool) : creelref_ModeOf.l1 (n + 5) a s.1 0 p s.2 12 = creelref_ModeOf.l1 (n + 4) a (step 0 p s 12).1 0 p (step 0 p s 12).2 13 := by
  rw [show n + 5 = (n + 4) + 1 from rfl, creelref_ModeOf.l1, if_pos (by decide), pow0, Option.bind_some, if_pos (by decide), show wrap64 (wrap64 (Int.tmod 12 8 * 1) + shl .i64 (wrap64 (wrap64 (Int.tdiv 12 8) * 512)) 0) = ((516 : Nat) : Int) from by decide +kernel, text_f 516 (by decide), Option.bind_some, if_pos (by decide +kernel), if_pos (by decide +kernel), if_pos (by rw [text_size]; decide +kernel), show (modeText 516).extract (wrap64 (6 - wrap64 (3 * 0)) : Int).toNat (wrap64 (9 - wrap64 (3 * 0)) : Int).toNat = grp 0 12 from by decide +kernel, show wrap64 (12 + 1) = 13 from by decide +kernel]
  unfold step
  by_cases h : (grp 0 12).toList = p.toList
  · rw [if_pos h, if_pos h]
    rfl
  · rw [if_neg h, if_neg h]
theorem ref0_13 (n : Nat) (a p : ByteArray) (s : Int × Bool) : creelref_ModeOf.l1 (n + 5) a s.1 0 p s.2 13 = creelref_ModeOf.l1 (n + 4) a (step 0 p s 13).1 0 p (step 0 p s 13).2 14 := by
  rw [show n + 5 = (n + 4) + 1 from rfl, creelref_ModeOf.l1, if_pos (by decide), pow0, Option.bind_some, if_pos (by decide), show wrap64 (wrap64 (Int.tmod 13 8 * 1) + shl .i64 (wrap64 (wrap64 (Int.tdiv 13 8) * 512)) 0) = ((517 : Nat) : Int) from by decide +kernel, text_f 517 (by decide), Option.bind_some, if_pos (by decide +kernel), if_pos (by decide +kernel), if_pos (by rw [text_size]; decide +kernel), show (modeText 517).extract (wrap64 (6 - wrap64 (3 * 0)) : Int).toNat (wrap64 (9 - wrap64 (3 * 0)) : Int).toNat = grp 0 13 from by decide +kernel, show wrap64 (13 + 1) = 14 from by decide +kernel]
  unfold step
  by_cases h : (grp 0 13).toList = p.toList
  · rw [if_pos h, if_pos h]
    rfl
  · rw [if_neg h, if_neg h]
theorem ref0_14 (n : Nat) (a p : ByteArray) (s : Int × Bool) : creelref_ModeOf.l1 (n + 5) a s.1 0 p s.2 14 = creelref_ModeOf.l1 (n + 4) a (step 0 p s 14).1 0 p (step 0 p s 14).2 15 := by
  rw [show n + 5 = (n + 4) + 1 from rfl, creelref_ModeOf.l1, if_pos (by decide), pow0, Option.bind_some, if_pos (by decide), show wrap64 (wrap64 (Int.tmod 14 8 * 1) + shl .i64 (wrap64 (wrap64 (Int.tdiv 14 8) * 512)) 0) = ((518 : Nat) : Int) from by decide +kernel, text_f 518 (by decide), Option.bind_some, if_pos (by decide +kernel), if_pos (by decide +kernel), if_pos (by rw [text_size]; decide +kernel), show (modeText 518).extract (wrap64 (6 - wrap64 (3 * 0)) : Int).toNat (wrap64 (9 - wrap64 (3 * 0)) : Int).toNat = grp 0 14 from by decide +kernel, show wrap64 (14 + 1) = 15 from by decide +kernel]
  unfold step
  by_cases h : (grp 0 14).toList = p.toList
  · rw [if_pos h, if_pos h]
    rfl
  · rw [if_neg h, if_neg h]
theorem ref0_15 (n : Nat) (a p : ByteArray) (s : Int × Bool) : creelref_ModeOf.l1 (n + 5) a s.1 0 p s.2 15 = creelref_ModeOf.l1 (n + 4) a (step 0 p s 15).1 0 p (step 0 p s 15).2 16 := by
  rw [show n + 5 = (n + 4) + 1 from rfl, creelref_ModeOf.l1, if_pos (by decide), pow0, Option.bind_some, if_pos (by decide), show wrap64 (wrap64 (Int.tmod 15 8 * 1) + shl .i64 (wrap64 (wrap64 (Int.tdiv 15 8) * 512)) 0) = ((519 : Nat) : Int) from by decide +kernel, text_f 519 (by decide), Option.bind_some, if_pos (by decide +kernel), if_pos (by decide +kernel), if_pos (by rw [text_size]; decide +kernel), show (modeText 519).extract (wrap64 (6 - wrap64 (3 * 0)) : Int).toNat (wrap64 (9 - wrap64 (3 * 0)) : Int).toNat = grp 0 15 from by decide +kernel, show wrap64 (15 + 1) = 16 from by decide +kernel]
  unfold step
  by_cases h : (grp 0 15).toList = p.toList
  · rw [if_pos h, if_pos h]
    rfl
  · rw [if_neg h, if_neg h]
theorem refs0 (n : Nat) (a p : ByteArray) (s : Int × Bool) : creelref_ModeOf.l1 (n + 20) a s.1 0 p s.2 0 = creelref_ModeOf.l1 (n + 4) a ((List.range 16).foldl (step 0 p) s).1 0 p ((List.range 16).foldl (step 0 p) s).2 16 := by
  have e (f : Int × Bool → Nat → Int × Bool) : (List.range 16).foldl f s = f (f (f (f (f (f (f (f (f (f (f (f (f (f (f (f s 0) 1) 2) 3) 4) 5) 6) 7) 8) 9) 10) 11) 12) 13) 14) 15 := rfl
  rw [e, show n + 20 = (n + 15) + 5 from rfl, ref0_0, show n + 19 = (n + 14) + 5 from rfl, ref0_1, show n + 18 = (n + 13) + 5 from rfl, ref0_2, show n + 17 = (n + 12) + 5 from rfl, ref0_3, show n + 16 = (n + 11) + 5 from rfl, ref0_4, show n + 15 = (n + 10) + 5 from rfl, ref0_5, show n + 14 = (n + 9) + 5 from rfl, ref0_6, show n + 13 = (n + 8) + 5 from rfl, ref0_7, show n + 12 = (n + 7) + 5 from rfl, ref0_8, show n + 11 = (n + 6) + 5 from rfl, ref0_9, show n + 10 = (n + 5) + 5 from rfl, ref0_10, show n + 9 = (n + 4) + 5 from rfl, ref0_11, show n + 8 = (n + 3) + 5 from rfl, ref0_12, show n + 7 = (n + 2) + 5 from rfl, ref0_13, show n + 6 = (n + 1) + 5 from rfl, ref0_14, show n + 5 = (n + 0) + 5 from rfl, ref0_15]
theorem ref1_0 (n : Nat) (a p : ByteArray) (s : Int × Bool) : creelref_ModeOf.l1 (n + 5) a s.1 1 p s.2 0 = creelref_ModeOf.l1 (n + 4) a (step 1 p s 0).1 1 p (step 1 p s 0).2 1 := by
  rw [show n + 5 = (n + 4) + 1 from rfl, creelref_ModeOf.l1, if_pos (by decide), pow1, Option.bind_some, if_pos (by decide), show wrap64 (wrap64 (Int.tmod 0 8 * 8) + shl .i64 (wrap64 (wrap64 (Int.tdiv 0 8) * 512)) 1) = ((0 : Nat) : Int) from by decide +kernel, text_f 0 (by decide), Option.bind_some, if_pos (by decide +kernel), if_pos (by decide +kernel), if_pos (by rw [text_size]; decide +kernel), show (modeText 0).extract (wrap64 (6 - wrap64 (3 * 1)) : Int).toNat (wrap64 (9 - wrap64 (3 * 1)) : Int).toNat = grp 1 0 from by decide +kernel, show wrap64 (0 + 1) = 1 from by decide +kernel]
  unfold step
  by_cases h : (grp 1 0).toList = p.toList
  · rw [if_pos h, if_pos h]
    rfl
  · rw [if_neg h, if_neg h]
theorem ref1_1 (n : Nat) (a p : ByteArray) (s : Int × Bool) : creelref_ModeOf.l1 (n + 5) a s.1 1 p s.2 1 = creelref_ModeOf.l1 (n + 4) a (step 1 p s 1).1 1 p (step 1 p s 1).2 2 := by
  rw [show n + 5 = (n + 4) + 1 from rfl, creelref_ModeOf.l1, if_pos (by decide), pow1, Option.bind_some, if_pos (by decide), show wrap64 (wrap64 (Int.tmod 1 8 * 8) + shl .i64 (wrap64 (wrap64 (Int.tdiv 1 8) * 512)) 1) = ((8 : Nat) : Int) from by decide +kernel, text_f 8 (by decide), Option.bind_some, if_pos (by decide +kernel), if_pos (by decide +kernel), if_pos (by rw [text_size]; decide +kernel), show (modeText 8).extract (wrap64 (6 - wrap64 (3 * 1)) : Int).toNat (wrap64 (9 - wrap64 (3 * 1)) : Int).toNat = grp 1 1 from by decide +kernel, show wrap64 (1 + 1) = 2 from by decide +kernel]
  unfold step
  by_cases h : (grp 1 1).toList = p.toList
  · rw [if_pos h, if_pos h]
    rfl
  · rw [if_neg h, if_neg h]
theorem ref1_2 (n : Nat) (a p : ByteArray) (s : Int × Bool) : creelref_ModeOf.l1 (n + 5) a s.1 1 p s.2 2 = creelref_ModeOf.l1 (n + 4) a (step 1 p s 2).1 1 p (step 1 p s 2).2 3 := by
  rw [show n + 5 = (n + 4) + 1 from rfl, creelref_ModeOf.l1, if_pos (by decide), pow1, Option.bind_some, if_pos (by decide), show wrap64 (wrap64 (Int.tmod 2 8 * 8) + shl .i64 (wrap64 (wrap64 (Int.tdiv 2 8) * 512)) 1) = ((16 : Nat) : Int) from by decide +kernel, text_f 16 (by decide), Option.bind_some, if_pos (by decide +kernel), if_pos (by decide +kernel), if_pos (by rw [text_size]; decide +kernel), show (modeText 16).extract (wrap64 (6 - wrap64 (3 * 1)) : Int).toNat (wrap64 (9 - wrap64 (3 * 1)) : Int).toNat = grp 1 2 from by decide +kernel, show wrap64 (2 + 1) = 3 from by decide +kernel]
  unfold step
  by_cases h : (grp 1 2).toList = p.toList
  · rw [if_pos h, if_pos h]
    rfl
  · rw [if_neg h, if_neg h]
theorem ref1_3 (n : Nat) (a p : ByteArray) (s : Int × Bool) : creelref_ModeOf.l1 (n + 5) a s.1 1 p s.2 3 = creelref_ModeOf.l1 (n + 4) a (step 1 p s 3).1 1 p (step 1 p s 3).2 4 := by
  rw [show n + 5 = (n + 4) + 1 from rfl, creelref_ModeOf.l1, if_pos (by decide), pow1, Option.bind_some, if_pos (by decide), show wrap64 (wrap64 (Int.tmod 3 8 * 8) + shl .i64 (wrap64 (wrap64 (Int.tdiv 3 8) * 512)) 1) = ((24 : Nat) : Int) from by decide +kernel, text_f 24 (by decide), Option.bind_some, if_pos (by decide +kernel), if_pos (by decide +kernel), if_pos (by rw [text_size]; decide +kernel), show (modeText 24).extract (wrap64 (6 - wrap64 (3 * 1)) : Int).toNat (wrap64 (9 - wrap64 (3 * 1)) : Int).toNat = grp 1 3 from by decide +kernel, show wrap64 (3 + 1) = 4 from by decide +kernel]
  unfold step
  by_cases h : (grp 1 3).toList = p.toList
  · rw [if_pos h, if_pos h]
    rfl
  · rw [if_neg h, if_neg h]
theorem ref1_4 (n : Nat) (a p : ByteArray) (s : Int × Bool) : creelref_ModeOf.l1 (n + 5) a s.1 1 p s.2 4 = creelref_ModeOf.l1 (n + 4) a (step 1 p s 4).1 1 p (step 1 p s 4).2 5 := by
  rw [show n + 5 = (n + 4) + 1 from rfl, creelref_ModeOf.l1, if_pos (by decide), pow1, Option.bind_some, if_pos (by decide), show wrap64 (wrap64 (Int.tmod 4 8 * 8) + shl .i64 (wrap64 (wrap64 (Int.tdiv 4 8) * 512)) 1) = ((32 : Nat) : Int) from by decide +kernel, text_f 32 (by decide), Option.bind_some, if_pos (by decide +kernel), if_pos (by decide +kernel), if_pos (by rw [text_size]; decide +kernel), show (modeText 32).extract (wrap64 (6 - wrap64 (3 * 1)) : Int).toNat (wrap64 (9 - wrap64 (3 * 1)) : Int).toNat = grp 1 4 from by decide +kernel, show wrap64 (4 + 1) = 5 from by decide +kernel]
  unfold step
  by_cases h : (grp 1 4).toList = p.toList
  · rw [if_pos h, if_pos h]
    rfl
  · rw [if_neg h, if_neg h]
theorem ref1_5 (n : Nat) (a p : ByteArray) (s : Int × Bool) : creelref_ModeOf.l1 (n + 5) a s.1 1 p s.2 5 = creelref_ModeOf.l1 (n + 4) a (step 1 p s 5).1 1 p (step 1 p s 5).2 6 := by
  rw [show n + 5 = (n + 4) + 1 from rfl, creelref_ModeOf.l1, if_pos (by decide), pow1, Option.bind_some, if_pos (by decide), show wrap64 (wrap64 (Int.tmod 5 8 * 8) + shl .i64 (wrap64 (wrap64 (Int.tdiv 5 8) * 512)) 1) = ((40 : Nat) : Int) from by decide +kernel, text_f 40 (by decide), Option.bind_some, if_pos (by decide +kernel), if_pos (by decide +kernel), if_pos (by rw [text_size]; decide +kernel), show (modeText 40).extract (wrap64 (6 - wrap64 (3 * 1)) : Int).toNat (wrap64 (9 - wrap64 (3 * 1)) : Int).toNat = grp 1 5 from by decide +kernel, show wrap64 (5 + 1) = 6 from by decide +kernel]
  unfold step
  by_cases h : (grp 1 5).toList = p.toList
  · rw [if_pos h, if_pos h]
    rfl
  · rw [if_neg h, if_neg h]
theorem ref1_6 (n : Nat) (a p : ByteArray) (s : Int × Bool) : creelref_ModeOf.l1 (n + 5) a s.1 1 p s.2 6 = creelref_ModeOf.l1 (n + 4) a (step 1 p s 6).1 1 p (step 1 p s 6).2 7 := by
  rw [show n + 5 = (n + 4) + 1 from rfl, creelref_ModeOf.l1, if_pos (by decide), pow1, Option.bind_some, if_pos (by decide), show wrap64 (wrap64 (Int.tmod 6 8 * 8) + shl .i64 (wrap64 (wrap64 (Int.tdiv 6 8) * 512)) 1) = ((48 : Nat) : Int) from by decide +kernel, text_f 48 (by decide), Option.bind_some, if_pos (by decide +kernel), if_pos (by decide +kernel), if_pos (by rw [text_size]; decide +kernel), show (modeText 48).extract (wrap64 (6 - wrap64 (3 * 1)) : Int).toNat (wrap64 (9 - wrap64 (3 * 1)) : Int).toNat = grp 1 6 from by decide +kernel, show wrap64 (6 + 1) = 7 from by decide +kernel]
  unfold step
  by_cases h : (grp 1 6).toList = p.toList
  · rw [if_pos h, if_pos h]
    rfl
  · rw [if_neg h, if_neg h]
theorem ref1_7 (n : Nat) (a p : ByteArray) (s : Int × Bool) : creelref_ModeOf.l1 (n + 5) a s.1 1 p s.2 7 = creelref_ModeOf.l1 (n + 4) a (step 1 p s 7).1 1 p (step 1 p s 7).2 8 := by
  rw [show n + 5 = (n + 4) + 1 from rfl, creelref_ModeOf.l1, if_pos (by decide), pow1, Option.bind_some, if_pos (by decide), show wrap64 (wrap64 (Int.tmod 7 8 * 8) + shl .i64 (wrap64 (wrap64 (Int.tdiv 7 8) * 512)) 1) = ((56 : Nat) : Int) from by decide +kernel, text_f 56 (by decide), Option.bind_some, if_pos (by decide +kernel), if_pos (by decide +kernel), if_pos (by rw [text_size]; decide +kernel), show (modeText 56).extract (wrap64 (6 - wrap64 (3 * 1)) : Int).toNat (wrap64 (9 - wrap64 (3 * 1)) : Int).toNat = grp 1 7 from by decide +kernel, show wrap64 (7 + 1) = 8 from by decide +kernel]
  unfold step
  by_cases h : (grp 1 7).toList = p.toList
  · rw [if_pos h, if_pos h]
    rfl
  · rw [if_neg h, if_neg h]
theorem ref1_8 (n : Nat) (a p : ByteArray) (s : Int × Bool) : creelref_ModeOf.l1 (n + 5) a s.1 1 p s.2 8 = creelref_ModeOf.l1 (n + 4) a (step 1 p s 8).1 1 p (step 1 p s 8).2 9 := by
  rw [show n + 5 = (n + 4) + 1 from rfl, creelref_ModeOf.l1, if_pos (by decide), pow1, Option.bind_some, if_pos (by decide), show wrap64 (wrap64 (Int.tmod 8 8 * 8) + shl .i64 (wrap64 (wrap64 (Int.tdiv 8 8) * 512)) 1) = ((1024 : Nat) : Int) from by decide +kernel, text_f 1024 (by decide), Option.bind_some, if_pos (by decide +kernel), if_pos (by decide +kernel), if_pos (by rw [text_size]; decide +kernel), show (modeText 1024).extract (wrap64 (6 - wrap64 (3 * 1)) : Int).toNat (wrap64 (9 - wrap64 (3 * 1)) : Int).toNat = grp 1 8 from by decide +kernel, show wrap64 (8 + 1) = 9 from by decide +kernel]
  unfold step
  by_cases h : (grp 1 8).toList = p.toList
  · rw [if_pos h, if_pos h]
    rfl
  · rw [if_neg h, if_neg h]
theorem ref1_9 (n : Nat) (a p : ByteArray) (s : Int × Bool) : creelref_ModeOf.l1 (n + 5) a s.1 1 p s.2 9 = creelref_ModeOf.l1 (n + 4) a (step 1 p s 9).1 1 p (step 1 p s 9).2 10 := by
  rw [show n + 5 = (n + 4) + 1 from rfl, creelref_ModeOf.l1, if_pos (by decide), pow1, Option.bind_some, if_pos (by decide), show wrap64 (wrap64 (Int.tmod 9 8 * 8) + shl .i64 (wrap64 (wrap64 (Int.tdiv 9 8) * 512)) 1) = ((1032 : Nat) : Int) from by decide +kernel, text_f 1032 (by decide), Option.bind_some, if_pos (by decide +kernel), if_pos (by decide +kernel), if_pos (by rw [text_size]; decide +kernel), show (modeText 1032).extract (wrap64 (6 - wrap64 (3 * 1)) : Int).toNat (wrap64 (9 - wrap64 (3 * 1)) : Int).toNat = grp 1 9 from by decide +kernel, show wrap64 (9 + 1) = 10 from by decide +kernel]
  unfold step
  by_cases h : (grp 1 9).toList = p.toList
  · rw [if_pos h, if_pos h]
    rfl
  · rw [if_neg h, if_neg h]
theorem ref1_10 (n : Nat) (a p : ByteArray) (s : Int × Bool) : creelref_ModeOf.l1 (n + 5) a s.1 1 p s.2 10 = creelref_ModeOf.l1 (n + 4) a (step 1 p s 10).1 1 p (step 1 p s 10).2 11 := by
  rw [show n + 5 = (n + 4) + 1 from rfl, creelref_ModeOf.l1, if_pos (by decide), pow1, Option.bind_some, if_pos (by decide), show wrap64 (wrap64 (Int.tmod 10 8 * 8) + shl .i64 (wrap64 (wrap64 (Int.tdiv 10 8) * 512)) 1) = ((1040 : Nat) : Int) from by decide +kernel, text_f 1040 (by decide), Option.bind_some, if_pos (by decide +kernel), if_pos (by decide +kernel), if_pos (by rw [text_size]; decide +kernel), show (modeText 1040).extract (wrap64 (6 - wrap64 (3 * 1)) : Int).toNat (wrap64 (9 - wrap64 (3 * 1)) : Int).toNat = grp 1 10 from by decide +kernel, show wrap64 (10 + 1) = 11 from by decide +kernel]
  unfold step
  by_cases h : (grp 1 10).toList = p.toList
  · rw [if_pos h, if_pos h]
    rfl
  · rw [if_neg h, if_neg h]
theorem ref1_11 (n : Nat) (a p : ByteArray) (s : Int × Bool) : creelref_ModeOf.l1 (n + 5) a s.1 1 p s.2 11 = creelref_ModeOf.l1 (n + 4) a (step 1 p s 11).1 1 p (step 1 p s 11).2 12 := by
  rw [show n + 5 = (n + 4) + 1 from rfl, creelref_ModeOf.l1, if_pos (by decide), pow1, Option.bind_some, if_pos (by decide), show wrap64 (wrap64 (Int.tmod 11 8 * 8) + shl .i64 (wrap64 (wrap64 (Int.tdiv 11 8) * 512)) 1) = ((1048 : Nat) : Int) from by decide +kernel, text_f 1048 (by decide), Option.bind_some, if_pos (by decide +kernel), if_pos (by decide +kernel), if_pos (by rw [text_size]; decide +kernel), show (modeText 1048).extract (wrap64 (6 - wrap64 (3 * 1)) : Int).toNat (wrap64 (9 - wrap64 (3 * 1)) : Int).toNat = grp 1 11 from by decide +kernel, show wrap64 (11 + 1) = 12 from by decide +kernel]
  unfold step
  by_cases h : (grp 1 11).toList = p.toList
  · rw [if_pos h, if_pos h]
    rfl
  · rw [if_neg h, if_neg h]
theorem ref1_12 (n : Nat) (a p : ByteArray) (s : Int × Bool) : creelref_ModeOf.l1 (n + 5) a s.1 1 p s.2 12 = creelref_ModeOf.l1 (n + 4) a (step 1 p s 12).1 1 p (step 1 p s 12).2 13 := by
  rw [show n + 5 = (n + 4) + 1 from rfl, creelref_ModeOf.l1, if_pos (by decide), pow1, Option.bind_some, if_pos (by decide), show wrap64 (wrap64 (Int.tmod 12 8 * 8) + shl .i64 (wrap64 (wrap64 (Int.tdiv 12 8) * 512)) 1) = ((1056 : Nat) : Int) from by decide +kernel, text_f 1056 (by decide), Option.bind_some, if_pos (by decide +kernel), if_pos (by decide +kernel), if_pos (by rw [text_size]; decide +kernel), show (modeText 1056).extract (wrap64 (6 - wrap64 (3 * 1)) : Int).toNat (wrap64 (9 - wrap64 (3 * 1)) : Int).toNat = grp 1 12 from by decide +kernel, show wrap64 (12 + 1) = 13 from by decide +kernel]
  unfold step
  by_cases h : (grp 1 12).toList = p.toList
  · rw [if_pos h, if_pos h]
    rfl
  · rw [if_neg h, if_neg h]
theorem ref1_13 (n : Nat) (a p : ByteArray) (s : Int × Bool) : creelref_ModeOf.l1 (n + 5) a s.1 1 p s.2 13 = creelref_ModeOf.l1 (n + 4) a (step 1 p s 13).1 1 p (step 1 p s 13).2 14 := by
  rw [show n + 5 = (n + 4) + 1 from rfl, creelref_ModeOf.l1, if_pos (by decide), pow1, Option.bind_some, if_pos (by decide), show wrap64 (wrap64 (Int.tmod 13 8 * 8) + shl .i64 (wrap64 (wrap64 (Int.tdiv 13 8) * 512)) 1) = ((1064 : Nat) : Int) from by decide +kernel, text_f 1064 (by decide), Option.bind_some, if_pos (by decide +kernel), if_pos (by decide +kernel), if_pos (by rw [text_size]; decide +kernel), show (modeText 1064).extract (wrap64 (6 - wrap64 (3 * 1)) : Int).toNat (wrap64 (9 - wrap64 (3 * 1)) : Int).toNat = grp 1 13 from by decide +kernel, show wrap64 (13 + 1) = 14 from by decide +kernel]
  unfold step
  by_cases h : (grp 1 13).toList = p.toList
  · rw [if_pos h, if_pos h]
    rfl
  · rw [if_neg h, if_neg h]
theorem ref1_14 (n : Nat) (a p : ByteArray) (s : Int × Bool) : creelref_ModeOf.l1 (n + 5) a s.1 1 p s.2 14 = creelref_ModeOf.l1 (n + 4) a (step 1 p s 14).1 1 p (step 1 p s 14).2 15 := by
  rw [show n + 5 = (n + 4) + 1 from rfl, creelref_ModeOf.l1, if_pos (by decide), pow1, Option.bind_some, if_pos (by decide), show wrap64 (wrap64 (Int.tmod 14 8 * 8) + shl .i64 (wrap64 (wrap64 (Int.tdiv 14 8) * 512)) 1) = ((1072 : Nat) : Int) from by decide +kernel, text_f 1072 (by decide), Option.bind_some, if_pos (by decide +kernel), if_pos (by decide +kernel), if_pos (by rw [text_size]; decide +kernel), show (modeText 1072).extract (wrap64 (6 - wrap64 (3 * 1)) : Int).toNat (wrap64 (9 - wrap64 (3 * 1)) : Int).toNat = grp 1 14 from by decide +kernel, show wrap64 (14 + 1) = 15 from by decide +kernel]
  unfold step
  by_cases h : (grp 1 14).toList = p.toList
  · rw [if_pos h, if_pos h]
    rfl
  · rw [if_neg h, if_neg h]
theorem ref1_15 (n : Nat) (a p : ByteArray) (s : Int × Bool) : creelref_ModeOf.l1 (n + 5) a s.1 1 p s.2 15 = creelref_ModeOf.l1 (n + 4) a (step 1 p s 15).1 1 p (step 1 p s 15).2 16 := by
  rw [show n + 5 = (n + 4) + 1 from rfl, creelref_ModeOf.l1, if_pos (by decide), pow1, Option.bind_some, if_pos (by decide), show wrap64 (wrap64 (Int.tmod 15 8 * 8) + shl .i64 (wrap64 (wrap64 (Int.tdiv 15 8) * 512)) 1) = ((1080 : Nat) : Int) from by decide +kernel, text_f 1080 (by decide), Option.bind_some, if_pos (by decide +kernel), if_pos (by decide +kernel), if_pos (by rw [text_size]; decide +kernel), show (modeText 1080).extract (wrap64 (6 - wrap64 (3 * 1)) : Int).toNat (wrap64 (9 - wrap64 (3 * 1)) : Int).toNat = grp 1 15 from by decide +kernel, show wrap64 (15 + 1) = 16 from by decide +kernel]
  unfold step
  by_cases h : (grp 1 15).toList = p.toList
  · rw [if_pos h, if_pos h]
    rfl
  · rw [if_neg h, if_neg h]
theorem refs1 (n : Nat) (a p : ByteArray) (s : Int × Bool) : creelref_ModeOf.l1 (n + 20) a s.1 1 p s.2 0 = creelref_ModeOf.l1 (n + 4) a ((List.range 16).foldl (step 1 p) s).1 1 p ((List.range 16).foldl (step 1 p) s).2 16 := by
  have e (f : Int × Bool → Nat → Int × Bool) : (List.range 16).foldl f s = f (f (f (f (f (f (f (f (f (f (f (f (f (f (f (f s 0) 1) 2) 3) 4) 5) 6) 7) 8) 9) 10) 11) 12) 13) 14) 15 := rfl
  rw [e, show n + 20 = (n + 15) + 5 from rfl, ref1_0, show n + 19 = (n + 14) + 5 from rfl, ref1_1, show n + 18 = (n + 13) + 5 from rfl, ref1_2, show n + 17 = (n + 12) + 5 from rfl, ref1_3, show n + 16 = (n + 11) + 5 from rfl, ref1_4, show n + 15 = (n + 10) + 5 from rfl, ref1_5, show n + 14 = (n + 9) + 5 from rfl, ref1_6, show n + 13 = (n + 8) + 5 from rfl, ref1_7, show n + 12 = (n + 7) + 5 from rfl, ref1_8, show n + 11 = (n + 6) + 5 from rfl, ref1_9, show n + 10 = (n + 5) + 5 from rfl, ref1_10, show n + 9 = (n + 4) + 5 from rfl, ref1_11, show n + 8 = (n + 3) + 5 from rfl, ref1_12, show n + 7 = (n + 2) + 5 from rfl, ref1_13, show n + 6 = (n + 1) + 5 from rfl, ref1_14, show n + 5 = (n + 0) + 5 from rfl, ref1_15]
theorem ref2_0 (n : Nat) (a p : ByteArray) (s : Int × Bool) : creelref_ModeOf.l1 (n + 5) a s.1 2 p s.2 0 = creelref_ModeOf.l1 (n + 4) a (step 2 p s 0).1 2 p (step 2 p s 0).2 1 := by
  rw [show n + 5 = (n + 4) + 1 from rfl, creelref_ModeOf.l1, if_pos (by decide), pow2, Option.bind_some, if_pos (by decide), show wrap64 (wrap64 (Int.tmod 0 8 * 64) + shl .i64 (wrap64 (wrap64 (Int.tdiv 0 8) * 512)) 2) = ((0 : Nat) : Int) from by decide +kernel, text_f 0 (by decide), Option.bind_some, if_pos (by decide +kernel), if_pos (by decide +kernel), if_pos (by rw [text_size]; decide +kernel), show (modeText 0).extract (wrap64 (6 - wrap64 (3 * 2)) : Int).toNat (wrap64 (9 - wrap64 (3 * 2)) : Int).toNat = grp 2 0 from by decide +kernel, show wrap64 (0 + 1) = 1 from by decide +kernel]
  unfold step
  by_cases h : (grp 2 0).toList = p.toList
  · rw [if_pos h, if_pos h]
    rfl
  · rw [if_neg h, if_neg h]
theorem ref2_1 (n : Nat) (a p : ByteArray) (s : Int × Bool) : creelref_ModeOf.l1 (n + 5) a s.1 2 p s.2 1 = creelref_ModeOf.l1 (n + 4) a (step 2 p s 1).1 2 p (step 2 p s 1).2 2 := by
  rw [show n + 5 = (n + 4) + 1 from rfl, creelref_ModeOf.l1, if_pos (by decide), pow2, Option.bind_some, if_pos (by decide), show wrap64 (wrap64 (Int.tmod 1 8 * 64) + shl .i64 (wrap64 (wrap64 (Int.tdiv 1 8) * 512)) 2) = ((64 : Nat) : Int) from by decide +kernel, text_f 64 (by decide), Option.bind_some, if_pos (by decide +kernel), if_pos (by decide +kernel), if_pos (by rw [text_size]; decide +kernel), show (modeText 64).extract (wrap64 (6 - wrap64 (3 * 2)) : Int).toNat (wrap64 (9 - wrap64 (3 * 2)) : Int).toNat = grp 2 1 from by decide +kernel, show wrap64 (1 + 1) = 2 from by decide +kernel]
  unfold step
  by_cases h : (grp 2 1).toList = p.toList
  · rw [if_pos h, if_pos h]
    rfl
  · rw [if_neg h, if_neg h]
theorem ref2_2 (n : Nat) (a p : ByteArray) (s : Int × Bool) : creelref_ModeOf.l1 (n + 5) a s.1 2 p s.2 2 = creelref_ModeOf.l1 (n + 4) a (step 2 p s 2).1 2 p (step 2 p s 2).2 3 := by
  rw [show n + 5 = (n + 4) + 1 from rfl, creelref_ModeOf.l1, if_pos (by decide), pow2, Option.bind_some, if_pos (by decide), show wrap64 (wrap64 (Int.tmod 2 8 * 64) + shl .i64 (wrap64 (wrap64 (Int.tdiv 2 8) * 512)) 2) = ((128 : Nat) : Int) from by decide +kernel, text_f 128 (by decide), Option.bind_some, if_pos (by decide +kernel), if_pos (by decide +kernel), if_pos (by rw [text_size]; decide +kernel), show (modeText 128).extract (wrap64 (6 - wrap64 (3 * 2)) : Int).toNat (wrap64 (9 - wrap64 (3 * 2)) : Int).toNat = grp 2 2 from by decide +kernel, show wrap64 (2 + 1) = 3 from by decide +kernel]
  unfold step
  by_cases h : (grp 2 2).toList = p.toList
  · rw [if_pos h, if_pos h]
    rfl
  · rw [if_neg h, if_neg h]
theorem ref2_3 (n : Nat) (a p : ByteArray) (s : Int × Bool) : creelref_ModeOf.l1 (n + 5) a s.1 2 p s.2 3 = creelref_ModeOf.l1 (n + 4) a (step 2 p s 3).1 2 p (step 2 p s 3).2 4 := by
  rw [show n + 5 = (n + 4) + 1 from rfl, creelref_ModeOf.l1, if_pos (by decide), pow2, Option.bind_some, if_pos (by decide), show wrap64 (wrap64 (Int.tmod 3 8 * 64) + shl .i64 (wrap64 (wrap64 (Int.tdiv 3 8) * 512)) 2) = ((192 : Nat) : Int) from by decide +kernel, text_f 192 (by decide), Option.bind_some, if_pos (by decide +kernel), if_pos (by decide +kernel), if_pos (by rw [text_size]; decide +kernel), show (modeText 192).extract (wrap64 (6 - wrap64 (3 * 2)) : Int).toNat (wrap64 (9 - wrap64 (3 * 2)) : Int).toNat = grp 2 3 from by decide +kernel, show wrap64 (3 + 1) = 4 from by decide +kernel]
  unfold step
  by_cases h : (grp 2 3).toList = p.toList
  · rw [if_pos h, if_pos h]
    rfl
  · rw [if_neg h, if_neg h]
theorem ref2_4 (n : Nat) (a p : ByteArray) (s : Int × Bool) : creelref_ModeOf.l1 (n + 5) a s.1 2 p s.2 4 = creelref_ModeOf.l1 (n + 4) a (step 2 p s 4).1 2 p (step 2 p s 4).2 5 := by
  rw [show n + 5 = (n + 4) + 1 from rfl, creelref_ModeOf.l1, if_pos (by decide), pow2, Option.bind_some, if_pos (by decide), show wrap64 (wrap64 (Int.tmod 4 8 * 64) + shl .i64 (wrap64 (wrap64 (Int.tdiv 4 8) * 512)) 2) = ((256 : Nat) : Int) from by decide +kernel, text_f 256 (by decide), Option.bind_some, if_pos (by decide +kernel), if_pos (by decide +kernel), if_pos (by rw [text_size]; decide +kernel), show (modeText 256).extract (wrap64 (6 - wrap64 (3 * 2)) : Int).toNat (wrap64 (9 - wrap64 (3 * 2)) : Int).toNat = grp 2 4 from by decide +kernel, show wrap64 (4 + 1) = 5 from by decide +kernel]
  unfold step
  by_cases h : (grp 2 4).toList = p.toList
  · rw [if_pos h, if_pos h]
    rfl
  · rw [if_neg h, if_neg h]
theorem ref2_5 (n : Nat) (a p : ByteArray) (s : Int × Bool) : creelref_ModeOf.l1 (n + 5) a s.1 2 p s.2 5 = creelref_ModeOf.l1 (n + 4) a (step 2 p s 5).1 2 p (step 2 p s 5).2 6 := by
  rw [show n + 5 = (n + 4) + 1 from rfl, creelref_ModeOf.l1, if_pos (by decide), pow2, Option.bind_some, if_pos (by decide), show wrap64 (wrap64 (Int.tmod 5 8 * 64) + shl .i64 (wrap64 (wrap64 (Int.tdiv 5 8) * 512)) 2) = ((320 : Nat) : Int) from by decide +kernel, text_f 320 (by decide), Option.bind_some, if_pos (by decide +kernel), if_pos (by decide +kernel), if_pos (by rw [text_size]; decide +kernel), show (modeText 320).extract (wrap64 (6 - wrap64 (3 * 2)) : Int).toNat (wrap64 (9 - wrap64 (3 * 2)) : Int).toNat = grp 2 5 from by decide +kernel, show wrap64 (5 + 1) = 6 from by decide +kernel]
  unfold step
  by_cases h : (grp 2 5).toList = p.toList
  · rw [if_pos h, if_pos h]
    rfl
  · rw [if_neg h, if_neg h]
theorem ref2_6 (n : Nat) (a p : ByteArray) (s : Int × Bool) : creelref_ModeOf.l1 (n + 5) a s.1 2 p s.2 6 = creelref_ModeOf.l1 (n + 4) a (step 2 p s 6).1 2 p (step 2 p s 6).2 7 := by
  rw [show n + 5 = (n + 4) + 1 from rfl, creelref_ModeOf.l1, if_pos (by decide), pow2, Option.bind_some, if_pos (by decide), show wrap64 (wrap64 (Int.tmod 6 8 * 64) + shl .i64 (wrap64 (wrap64 (Int.tdiv 6 8) * 512)) 2) = ((384 : Nat) : Int) from by decide +kernel, text_f 384 (by decide), Option.bind_some, if_pos (by decide +kernel), if_pos (by decide +kernel), if_pos (by rw [text_size]; decide +kernel), show (modeText 384).extract (wrap64 (6 - wrap64 (3 * 2)) : Int).toNat (wrap64 (9 - wrap64 (3 * 2)) : Int).toNat = grp 2 6 from by decide +kernel, show wrap64 (6 + 1) = 7 from by decide +kernel]
  unfold step
  by_cases h : (grp 2 6).toList = p.toList
  · rw [if_pos h, if_pos h]
    rfl
  · rw [if_neg h, if_neg h]
theorem ref2_7 (n : Nat) (a p : ByteArray) (s : Int × Bool) : creelref_ModeOf.l1 (n + 5) a s.1 2 p s.2 7 = creelref_ModeOf.l1 (n + 4) a (step 2 p s 7).1 2 p (step 2 p s 7).2 8 := by
  rw [show n + 5 = (n + 4) + 1 from rfl, creelref_ModeOf.l1, if_pos (by decide), pow2, Option.bind_some, if_pos (by decide), show wrap64 (wrap64 (Int.tmod 7 8 * 64) + shl .i64 (wrap64 (wrap64 (Int.tdiv 7 8) * 512)) 2) = ((448 : Nat) : Int) from by decide +kernel, text_f 448 (by decide), Option.bind_some, if_pos (by decide +kernel), if_pos (by decide +kernel), if_pos (by rw [text_size]; decide +kernel), show (modeText 448).extract (wrap64 (6 - wrap64 (3 * 2)) : Int).toNat (wrap64 (9 - wrap64 (3 * 2)) : Int).toNat = grp 2 7 from by decide +kernel, show wrap64 (7 + 1) = 8 from by decide +kernel]
  unfold step
  by_cases h : (grp 2 7).toList = p.toList
  · rw [if_pos h, if_pos h]
    rfl
  · rw [if_neg h, if_neg h]
theorem ref2_8 (n : Nat) (a p : ByteArray) (s : Int × Bool) : creelref_ModeOf.l1 (n + 5) a s.1 2 p s.2 8 = creelref_ModeOf.l1 (n + 4) a (step 2 p s 8).1 2 p (step 2 p s 8).2 9 := by
  rw [show n + 5 = (n + 4) + 1 from rfl, creelref_ModeOf.l1, if_pos (by decide), pow2, Option.bind_some, if_pos (by decide), show wrap64 (wrap64 (Int.tmod 8 8 * 64) + shl .i64 (wrap64 (wrap64 (Int.tdiv 8 8) * 512)) 2) = ((2048 : Nat) : Int) from by decide +kernel, text_f 2048 (by decide), Option.bind_some, if_pos (by decide +kernel), if_pos (by decide +kernel), if_pos (by rw [text_size]; decide +kernel), show (modeText 2048).extract (wrap64 (6 - wrap64 (3 * 2)) : Int).toNat (wrap64 (9 - wrap64 (3 * 2)) : Int).toNat = grp 2 8 from by decide +kernel, show wrap64 (8 + 1) = 9 from by decide +kernel]
  unfold step
  by_cases h : (grp 2 8).toList = p.toList
  · rw [if_pos h, if_pos h]
    rfl
  · rw [if_neg h, if_neg h]
theorem ref2_9 (n : Nat) (a p : ByteArray) (s : Int × Bool) : creelref_ModeOf.l1 (n + 5) a s.1 2 p s.2 9 = creelref_ModeOf.l1 (n + 4) a (step 2 p s 9).1 2 p (step 2 p s 9).2 10 := by
  rw [show n + 5 = (n + 4) + 1 from rfl, creelref_ModeOf.l1, if_pos (by decide), pow2, Option.bind_some, if_pos (by decide), show wrap64 (wrap64 (Int.tmod 9 8 * 64) + shl .i64 (wrap64 (wrap64 (Int.tdiv 9 8) * 512)) 2) = ((2112 : Nat) : Int) from by decide +kernel, text_f 2112 (by decide), Option.bind_some, if_pos (by decide +kernel), if_pos (by decide +kernel), if_pos (by rw [text_size]; decide +kernel), show (modeText 2112).extract (wrap64 (6 - wrap64 (3 * 2)) : Int).toNat (wrap64 (9 - wrap64 (3 * 2)) : Int).toNat = grp 2 9 from by decide +kernel, show wrap64 (9 + 1) = 10 from by decide +kernel]
  unfold step
  by_cases h : (grp 2 9).toList = p.toList
  · rw [if_pos h, if_pos h]
    rfl
  · rw [if_neg h, if_neg h]
theorem ref2_10 (n : Nat) (a p : ByteArray) (s : Int × Bool) : creelref_ModeOf.l1 (n + 5) a s.1 2 p s.2 10 = creelref_ModeOf.l1 (n + 4) a (step 2 p s 10).1 2 p (step 2 p s 10).2 11 := by
  rw [show n + 5 = (n + 4) + 1 from rfl, creelref_ModeOf.l1, if_pos (by decide), pow2, Option.bind_some, if_pos (by decide), show wrap64 (wrap64 (Int.tmod 10 8 * 64) + shl .i64 (wrap64 (wrap64 (Int.tdiv 10 8) * 512)) 2) = ((2176 : Nat) : Int) from by decide +kernel, text_f 2176 (by decide), Option.bind_some, if_pos (by decide +kernel), if_pos (by decide +kernel), if_pos (by rw [text_size]; decide +kernel), show (modeText 2176).extract (wrap64 (6 - wrap64 (3 * 2)) : Int).toNat (wrap64 (9 - wrap64 (3 * 2)) : Int).toNat = grp 2 10 from by decide +kernel, show wrap64 (10 + 1) = 11 from by decide +kernel]
  unfold step
  by_cases h : (grp 2 10).toList = p.toList
  · rw [if_pos h, if_pos h]
    rfl
  · rw [if_neg h, if_neg h]
theorem ref2_11 (n : Nat) (a p : ByteArray) (s : Int × Bool) : creelref_ModeOf.l1 (n + 5) a s.1 2 p s.2 11 = creelref_ModeOf.l1 (n + 4) a (step 2 p s 11).1 2 p (step 2 p s 11).2 12 := by
  rw [show n + 5 = (n + 4) + 1 from rfl, creelref_ModeOf.l1, if_pos (by decide), pow2, Option.bind_some, if_pos (by decide), show wrap64 (wrap64 (Int.tmod 11 8 * 64) + shl .i64 (wrap64 (wrap64 (Int.tdiv 11 8) * 512)) 2) = ((2240 : Nat) : Int) from by decide +kernel, text_f 2240 (by decide), Option.bind_some, if_pos (by decide +kernel), if_pos (by decide +kernel), if_pos (by rw [text_size]; decide +kernel), show (modeText 2240).extract (wrap64 (6 - wrap64 (3 * 2)) : Int).toNat (wrap64 (9 - wrap64 (3 * 2)) : Int).toNat = grp 2 11 from by decide +kernel, show wrap64 (11 + 1) = 12 from by decide +kernel]
  unfold step
  by_cases h : (grp 2 11).toList = p.toList
  · rw [if_pos h, if_pos h]
    rfl
  · rw [if_neg h, if_neg h]
theorem ref2_12 (n : Nat) (a p : ByteArray) (s : Int × Bool) : creelref_ModeOf.l1 (n + 5) a s.1 2 p s.2 12 = creelref_ModeOf.l1 (n + 4) a (step 2 p s 12).1 2 p (step 2 p s 12).2 13 := by
  rw [show n + 5 = (n + 4) + 1 from rfl, creelref_ModeOf.l1, if_pos (by decide), pow2, Option.bind_some, if_pos (by decide), show wrap64 (wrap64 (Int.tmod 12 8 * 64) + shl .i64 (wrap64 (wrap64 (Int.tdiv 12 8) * 512)) 2) = ((2304 : Nat) : Int) from by decide +kernel, text_f 2304 (by decide), Option.bind_some, if_pos (by decide +kernel), if_pos (by decide +kernel), if_pos (by rw [text_size]; decide +kernel), show (modeText 2304).extract (wrap64 (6 - wrap64 (3 * 2)) : Int).toNat (wrap64 (9 - wrap64 (3 * 2)) : Int).toNat = grp 2 12 from by decide +kernel, show wrap64 (12 + 1) = 13 from by decide +kernel]
  unfold step
  by_cases h : (grp 2 12).toList = p.toList
  · rw [if_pos h, if_pos h]
    rfl
  · rw [if_neg h, if_neg h]
theorem ref2_13 (n : Nat) (a p : ByteArray) (s : Int × Bool) : creelref_ModeOf.l1 (n + 5) a s.1 2 p s.2 13 = creelref_ModeOf.l1 (n + 4) a (step 2 p s 13).1 2 p (step 2 p s 13).2 14 := by
  rw [show n + 5 = (n + 4) + 1 from rfl, creelref_ModeOf.l1, if_pos (by decide), pow2, Option.bind_some, if_pos (by decide), show wrap64 (wrap64 (Int.tmod 13 8 * 64) + shl .i64 (wrap64 (wrap64 (Int.tdiv 13 8) * 512)) 2) = ((2368 : Nat) : Int) from by decide +kernel, text_f 2368 (by decide), Option.bind_some, if_pos (by decide +kernel), if_pos (by decide +kernel), if_pos (by rw [text_size]; decide +kernel), show (modeText 2368).extract (wrap64 (6 - wrap64 (3 * 2)) : Int).toNat (wrap64 (9 - wrap64 (3 * 2)) : Int).toNat = grp 2 13 from by decide +kernel, show wrap64 (13 + 1) = 14 from by decide +kernel]
  unfold step
  by_cases h : (grp 2 13).toList = p.toList
  · rw [if_pos h, if_pos h]
    rfl
  · rw [if_neg h, if_neg h]
theorem ref2_14 (n : Nat) (a p : ByteArray) (s : Int × Bool) : creelref_ModeOf.l1 (n + 5) a s.1 2 p s.2 14 = creelref_ModeOf.l1 (n + 4) a (step 2 p s 14).1 2 p (step 2 p s 14).2 15 := by
  rw [show n + 5 = (n + 4) + 1 from rfl, creelref_ModeOf.l1, if_pos (by decide), pow2, Option.bind_some, if_pos (by decide), show wrap64 (wrap64 (Int.tmod 14 8 * 64) + shl .i64 (wrap64 (wrap64 (Int.tdiv 14 8) * 512)) 2) = ((2432 : Nat) : Int) from by decide +kernel, text_f 2432 (by decide), Option.bind_some, if_pos (by decide +kernel), if_pos (by decide +kernel), if_pos (by rw [text_size]; decide +kernel), show (modeText 2432).extract (wrap64 (6 - wrap64 (3 * 2)) : Int).toNat (wrap64 (9 - wrap64 (3 * 2)) : Int).toNat = grp 2 14 from by decide +kernel, show wrap64 (14 + 1) = 15 from by decide +kernel]
  unfold step
  by_cases h : (grp 2 14).toList = p.toList
  · rw [if_pos h, if_pos h]
    rfl
  · rw [if_neg h, if_neg h]
theorem ref2_15 (n : Nat) (a p : ByteArray) (s : Int × Bool) : creelref_ModeOf.l1 (n + 5) a s.1 2 p s.2 15 = creelref_ModeOf.l1 (n + 4) a (step 2 p s 15).1 2 p (step 2 p s 15).2 16 := by
  rw [show n + 5 = (n + 4) + 1 from rfl, creelref_ModeOf.l1, if_pos (by decide), pow2, Option.bind_some, if_pos (by decide), show wrap64 (wrap64 (Int.tmod 15 8 * 64) + shl .i64 (wrap64 (wrap64 (Int.tdiv 15 8) * 512)) 2) = ((2496 : Nat) : Int) from by decide +kernel, text_f 2496 (by decide), Option.bind_some, if_pos (by decide +kernel), if_pos (by decide +kernel), if_pos (by rw [text_size]; decide +kernel), show (modeText 2496).extract (wrap64 (6 - wrap64 (3 * 2)) : Int).toNat (wrap64 (9 - wrap64 (3 * 2)) : Int).toNat = grp 2 15 from by decide +kernel, show wrap64 (15 + 1) = 16 from by decide +kernel]
  unfold step
  by_cases h : (grp 2 15).toList = p.toList
  · rw [if_pos h, if_pos h]
    rfl
  · rw [if_neg h, if_neg h]
theorem refs2 (n : Nat) (a p : ByteArray) (s : Int × Bool) : creelref_ModeOf.l1 (n + 20) a s.1 2 p s.2 0 = creelref_ModeOf.l1 (n + 4) a ((List.range 16).foldl (step 2 p) s).1 2 p ((List.range 16).foldl (step 2 p) s).2 16 := by
  have e (f : Int × Bool → Nat → Int × Bool) : (List.range 16).foldl f s = f (f (f (f (f (f (f (f (f (f (f (f (f (f (f (f s 0) 1) 2) 3) 4) 5) 6) 7) 8) 9) 10) 11) 12) 13) 14) 15 := rfl
  rw [e, show n + 20 = (n + 15) + 5 from rfl, ref2_0, show n + 19 = (n + 14) + 5 from rfl, ref2_1, show n + 18 = (n + 13) + 5 from rfl, ref2_2, show n + 17 = (n + 12) + 5 from rfl, ref2_3, show n + 16 = (n + 11) + 5 from rfl, ref2_4, show n + 15 = (n + 10) + 5 from rfl, ref2_5, show n + 14 = (n + 9) + 5 from rfl, ref2_6, show n + 13 = (n + 8) + 5 from rfl, ref2_7, show n + 12 = (n + 7) + 5 from rfl, ref2_8, show n + 11 = (n + 6) + 5 from rfl, ref2_9, show n + 10 = (n + 5) + 5 from rfl, ref2_10, show n + 9 = (n + 4) + 5 from rfl, ref2_11, show n + 8 = (n + 3) + 5 from rfl, ref2_12, show n + 7 = (n + 2) + 5 from rfl, ref2_13, show n + 6 = (n + 1) + 5 from rfl, ref2_14, show n + 5 = (n + 0) + 5 from rfl, ref2_15]
theorem ig0 (k : Nat) (a : ByteArray) (M : Nat) (r : Int × Int) (hs : a.size = 9) (hJ : M < 4096 ∧ M % 512 = 0 ∧ M / 512 % 8 = 0) (d0 d1 d2 : Nat) (h0 : dig 114 115 83 false (bt a 0) 256 2048 = some d0) (h1 : dig 119 115 83 false (bt a 1) 128 2048 = some d1) (h2 : dig 120 115 83 true (bt a 2) 64 2048 = some d2) (h : (M + (d0 + d1 + d2)) < 4096 ∧ (M + (d0 + d1 + d2)) % 64 = 0 ∧ (M + (d0 + d1 + d2)) / 512 % 4 = 0 → meta_Parse.l0 k a ((M + (d0 + d1 + d2) : Nat) : Int) 9 3 = some r) : meta_Parse.l0 (k + 12) a (M : Int) 9 0 = some r :=
  some0 (k + 8) a M d0 r hs hJ h0 fun J1 => some1 (k + 4) a (M + d0) d1 r hs J1 h1 fun J2 => some2 k a (M + d0 + d1) d2 r hs J2 h2 fun J3 => by
    rw [show M + d0 + d1 + d2 = M + (d0 + d1 + d2) from by omega] at J3 ⊢
    exact h J3
theorem ign0 (k : Nat) (a : ByteArray) (M : Nat) (hs : a.size = 9) (hJ : M < 4096 ∧ M % 512 = 0 ∧ M / 512 % 8 = 0) (hn : dig 114 115 83 false (bt a 0) 256 2048 = none ∨ dig 119 115 83 false (bt a 1) 128 2048 = none ∨ dig 120 115 83 true (bt a 2) 64 2048 = none) : meta_Parse.l0 (k + 12) a (M : Int) 9 0 = some (0, 3) := by
  cases h0 : dig 114 115 83 false (bt a 0) 256 2048 with
  | none => exact none0 (k + 8) a M hs h0
  | some d0 =>
    refine some0 (k + 8) a M d0 _ hs hJ h0 fun J1 => ?_
    cases h1 : dig 119 115 83 false (bt a 1) 128 2048 with
    | none => exact none1 (k + 4) a (M + d0) hs h1
    | some d1 =>
      refine some1 (k + 4) a (M + d0) d1 _ hs J1 h1 fun J2 => ?_
      rw [h0, h1] at hn
      exact none2 k a (M + d0 + d1) hs (by rcases hn with h | h | h; cases h; cases h; exact h)
theorem g0 (c0 c1 c2 : UInt8) : (∃ x, x < 16 ∧ ∃ d0 d1 d2, dig 114 115 83 false ((c0.toNat : Int)) 256 2048 = some d0 ∧ dig 119 115 83 false ((c1.toNat : Int)) 128 2048 = some d1 ∧ dig 120 115 83 true ((c2.toNat : Int)) 64 2048 = some d2 ∧ d0 + d1 + d2 = mm 2 x ∧ (grp 2 x).toList = (⟨#[c0, c1, c2]⟩ : ByteArray).toList) ∨ ((dig 114 115 83 false ((c0.toNat : Int)) 256 2048 = none ∨ dig 119 115 83 false ((c1.toNat : Int)) 128 2048 = none ∨ dig 120 115 83 true ((c2.toNat : Int)) 64 2048 = none) ∧ ∀ x, x < 16 → (grp 2 x).toList ≠ (⟨#[c0, c1, c2]⟩ : ByteArray).toList) := by
  have key : ∀ x, (grp 2 x).toList = (⟨#[c0, c1, c2]⟩ : ByteArray).toList → (c0 = 114 ∨ c0 = 45) ∧ (c1 = 119 ∨ c1 = 45) ∧ (c2 = 120 ∨ c2 = 115 ∨ c2 = 83 ∨ c2 = 45) := by
    intro x hx
    rw [toList_data, toList_data] at hx
    unfold grp third at hx
    simp only [List.cons.injEq] at hx
    obtain ⟨e0, e1, e2, _⟩ := hx
    refine ⟨?_, ?_, ?_⟩
    · rw [← e0]; split <;> simp
    · rw [← e1]; split <;> simp
    · rw [← e2]; repeat' split
      all_goals first | (simp; done) | (exfalso; omega)
  by_cases a0 : (c0.toNat : Int) = 114 ∨ (c0.toNat : Int) = 45
  · by_cases a1 : (c1.toNat : Int) = 119 ∨ (c1.toNat : Int) = 45
    · by_cases a2 : (c2.toNat : Int) = 120 ∨ (c2.toNat : Int) = 115 ∨ (c2.toNat : Int) = 83 ∨ (c2.toNat : Int) = 45
      · left
        rcases a0 with a0 | a0 <;> rcases a1 with a1 | a1 <;> rcases a2 with a2 | a2 | a2 | a2
        · obtain rfl : c0 = 114 := UInt8.toNat_inj.1 (by show c0.toNat = 114; omega)
          obtain rfl : c1 = 119 := UInt8.toNat_inj.1 (by show c1.toNat = 119; omega)
          obtain rfl : c2 = 120 := UInt8.toNat_inj.1 (by show c2.toNat = 120; omega)
          exact ⟨7, by decide, 256, 128, 64, by decide +kernel, by decide +kernel, by decide +kernel, by decide +kernel, rfl⟩
        · obtain rfl : c0 = 114 := UInt8.toNat_inj.1 (by show c0.toNat = 114; omega)
          obtain rfl : c1 = 119 := UInt8.toNat_inj.1 (by show c1.toNat = 119; omega)
          obtain rfl : c2 = 115 := UInt8.toNat_inj.1 (by show c2.toNat = 115; omega)
          exact ⟨15, by decide, 256, 128, 2112, by decide +kernel, by decide +kernel, by decide +kernel, by decide +kernel, rfl⟩
        · obtain rfl : c0 = 114 := UInt8.toNat_inj.1 (by show c0.toNat = 114; omega)
          obtain rfl : c1 = 119 := UInt8.toNat_inj.1 (by show c1.toNat = 119; omega)
          obtain rfl : c2 = 83 := UInt8.toNat_inj.1 (by show c2.toNat = 83; omega)
          exact ⟨14, by decide, 256, 128, 2048, by decide +kernel, by decide +kernel, by decide +kernel, by decide +kernel, rfl⟩
        · obtain rfl : c0 = 114 := UInt8.toNat_inj.1 (by show c0.toNat = 114; omega)
          obtain rfl : c1 = 119 := UInt8.toNat_inj.1 (by show c1.toNat = 119; omega)
          obtain rfl : c2 = 45 := UInt8.toNat_inj.1 (by show c2.toNat = 45; omega)
          exact ⟨6, by decide, 256, 128, 0, by decide +kernel, by decide +kernel, by decide +kernel, by decide +kernel, rfl⟩
        · obtain rfl : c0 = 114 := UInt8.toNat_inj.1 (by show c0.toNat = 114; omega)
          obtain rfl : c1 = 45 := UInt8.toNat_inj.1 (by show c1.toNat = 45; omega)
          obtain rfl : c2 = 120 := UInt8.toNat_inj.1 (by show c2.toNat = 120; omega)
          exact ⟨5, by decide, 256, 0, 64, by decide +kernel, by decide +kernel, by decide +kernel, by decide +kernel, rfl⟩
        · obtain rfl : c0 = 114 := UInt8.toNat_inj.1 (by show c0.toNat = 114; omega)
          obtain rfl : c1 = 45 := UInt8.toNat_inj.1 (by show c1.toNat = 45; omega)
          obtain rfl : c2 = 115 := UInt8.toNat_inj.1 (by show c2.toNat = 115; omega)
          exact ⟨13, by decide, 256, 0, 2112, by decide +kernel, by decide +kernel, by decide +kernel, by decide +kernel, rfl⟩
        · obtain rfl : c0 = 114 := UInt8.toNat_inj.1 (by show c0.toNat = 114; omega)
          obtain rfl : c1 = 45 := UInt8.toNat_inj.1 (by show c1.toNat = 45; omega)
          obtain rfl : c2 = 83 := UInt8.toNat_inj.1 (by show c2.toNat = 83; omega)
          exact ⟨12, by decide, 256, 0, 2048, by decide +kernel, by decide +kernel, by decide +kernel, by decide +kernel, rfl⟩
        · obtain rfl : c0 = 114 := UInt8.toNat_inj.1 (by show c0.toNat = 114; omega)
          obtain rfl : c1 = 45 := UInt8.toNat_inj.1 (by show c1.toNat = 45; omega)
          obtain rfl : c2 = 45 := UInt8.toNat_inj.1 (by show c2.toNat = 45; omega)
          exact ⟨4, by decide, 256, 0, 0, by decide +kernel, by decide +kernel, by decide +kernel, by decide +kernel, rfl⟩
        · obtain rfl : c0 = 45 := UInt8.toNat_inj.1 (by show c0.toNat = 45; omega)
          obtain rfl : c1 = 119 := UInt8.toNat_inj.1 (by show c1.toNat = 119; omega)
          obtain rfl : c2 = 120 := UInt8.toNat_inj.1 (by show c2.toNat = 120; omega)
          exact ⟨3, by decide, 0, 128, 64, by decide +kernel, by decide +kernel, by decide +kernel, by decide +kernel, rfl⟩
        · obtain rfl : c0 = 45 := UInt8.toNat_inj.1 (by show c0.toNat = 45; omega)
          obtain rfl : c1 = 119 := UInt8.toNat_inj.1 (by show c1.toNat = 119; omega)
          obtain rfl : c2 = 115 := UInt8.toNat_inj.1 (by show c2.toNat = 115; omega)
          exact ⟨11, by decide, 0, 128, 2112, by decide +kernel, by decide +kernel, by decide +kernel, by decide +kernel, rfl⟩
        · obtain rfl : c0 = 45 := UInt8.toNat_inj.1 (by show c0.toNat = 45; omega)
          obtain rfl : c1 = 119 := UInt8.toNat_inj.1 (by show c1.toNat = 119; omega)
          obtain rfl : c2 = 83 := UInt8.toNat_inj.1 (by show c2.toNat = 83; omega)
          exact ⟨10, by decide, 0, 128, 2048, by decide +kernel, by decide +kernel, by decide +kernel, by decide +kernel, rfl⟩
        · obtain rfl : c0 = 45 := UInt8.toNat_inj.1 (by show c0.toNat = 45; omega)
          obtain rfl : c1 = 119 := UInt8.toNat_inj.1 (by show c1.toNat = 119; omega)
          obtain rfl : c2 = 45 := UInt8.toNat_inj.1 (by show c2.toNat = 45; omega)
          exact ⟨2, by decide, 0, 128, 0, by decide +kernel, by decide +kernel, by decide +kernel, by decide +kernel, rfl⟩
        · obtain rfl : c0 = 45 := UInt8.toNat_inj.1 (by show c0.toNat = 45; omega)
          obtain rfl : c1 = 45 := UInt8.toNat_inj.1 (by show c1.toNat = 45; omega)
          obtain rfl : c2 = 120 := UInt8.toNat_inj.1 (by show c2.toNat = 120; omega)
          exact ⟨1, by decide, 0, 0, 64, by decide +kernel, by decide +kernel, by decide +kernel, by decide +kernel, rfl⟩
        · obtain rfl : c0 = 45 := UInt8.toNat_inj.1 (by show c0.toNat = 45; omega)
          obtain rfl : c1 = 45 := UInt8.toNat_inj.1 (by show c1.toNat = 45; omega)
          obtain rfl : c2 = 115 := UInt8.toNat_inj.1 (by show c2.toNat = 115; omega)
          exact ⟨9, by decide, 0, 0, 2112, by decide +kernel, by decide +kernel, by decide +kernel, by decide +kernel, rfl⟩
        · obtain rfl : c0 = 45 := UInt8.toNat_inj.1 (by show c0.toNat = 45; omega)
          obtain rfl : c1 = 45 := UInt8.toNat_inj.1 (by show c1.toNat = 45; omega)
          obtain rfl : c2 = 83 := UInt8.toNat_inj.1 (by show c2.toNat = 83; omega)
          exact ⟨8, by decide, 0, 0, 2048, by decide +kernel, by decide +kernel, by decide +kernel, by decide +kernel, rfl⟩
        · obtain rfl : c0 = 45 := UInt8.toNat_inj.1 (by show c0.toNat = 45; omega)
          obtain rfl : c1 = 45 := UInt8.toNat_inj.1 (by show c1.toNat = 45; omega)
          obtain rfl : c2 = 45 := UInt8.toNat_inj.1 (by show c2.toNat = 45; omega)
          exact ⟨0, by decide, 0, 0, 0, by decide +kernel, by decide +kernel, by decide +kernel, by decide +kernel, rfl⟩
      · right
        refine ⟨Or.inr (Or.inr ?_), fun x _ hx => a2 ?_⟩
        · unfold dig
          rw [if_neg (by omega), if_neg (by rintro ⟨_, q⟩; omega), if_neg (by rintro ⟨_, q⟩; omega), if_neg (by omega)]
        · rcases (key x hx).2.2 with rfl | rfl | rfl | rfl <;> simp
    · right
      refine ⟨Or.inr (Or.inl ?_), fun x _ hx => a1 ?_⟩
      · unfold dig
        rw [if_neg (by omega), if_neg (by simp), if_neg (by simp), if_neg (by omega)]
      · rcases (key x hx).2.1 with rfl | rfl <;> simp
  · right
    refine ⟨Or.inl ?_, fun x _ hx => a0 ?_⟩
    · unfold dig
      rw [if_neg (by omega), if_neg (by simp), if_neg (by simp), if_neg (by omega)]
    · rcases (key x hx).1 with rfl | rfl <;> simp
theorem ig1 (k : Nat) (a : ByteArray) (M : Nat) (r : Int × Int) (hs : a.size = 9) (hJ : M < 4096 ∧ M % 64 = 0 ∧ M / 512 % 4 = 0) (d0 d1 d2 : Nat) (h0 : dig 114 115 83 false (bt a 3) 32 1024 = some d0) (h1 : dig 119 115 83 false (bt a 4) 16 1024 = some d1) (h2 : dig 120 115 83 true (bt a 5) 8 1024 = some d2) (h : (M + (d0 + d1 + d2)) < 4096 ∧ (M + (d0 + d1 + d2)) % 8 = 0 ∧ (M + (d0 + d1 + d2)) / 512 % 2 = 0 → meta_Parse.l0 k a ((M + (d0 + d1 + d2) : Nat) : Int) 9 6 = some r) : meta_Parse.l0 (k + 12) a (M : Int) 9 3 = some r :=
  some3 (k + 8) a M d0 r hs hJ h0 fun J1 => some4 (k + 4) a (M + d0) d1 r hs J1 h1 fun J2 => some5 k a (M + d0 + d1) d2 r hs J2 h2 fun J3 => by
    rw [show M + d0 + d1 + d2 = M + (d0 + d1 + d2) from by omega] at J3 ⊢
    exact h J3
theorem ign1 (k : Nat) (a : ByteArray) (M : Nat) (hs : a.size = 9) (hJ : M < 4096 ∧ M % 64 = 0 ∧ M / 512 % 4 = 0) (hn : dig 114 115 83 false (bt a 3) 32 1024 = none ∨ dig 119 115 83 false (bt a 4) 16 1024 = none ∨ dig 120 115 83 true (bt a 5) 8 1024 = none) : meta_Parse.l0 (k + 12) a (M : Int) 9 3 = some (0, 3) := by
  cases h0 : dig 114 115 83 false (bt a 3) 32 1024 with
  | none => exact none3 (k + 8) a M hs h0
  | some d0 =>
    refine some3 (k + 8) a M d0 _ hs hJ h0 fun J1 => ?_
    cases h1 : dig 119 115 83 false (bt a 4) 16 1024 with
    | none => exact none4 (k + 4) a (M + d0) hs h1
    | some d1 =>
      refine some4 (k + 4) a (M + d0) d1 _ hs J1 h1 fun J2 => ?_
      rw [h0, h1] at hn
      exact none5 k a (M + d0 + d1) hs (by rcases hn with h | h | h; cases h; cases h; exact h)
theorem g1 (c0 c1 c2 : UInt8) : (∃ x, x < 16 ∧ ∃ d0 d1 d2, dig 114 115 83 false ((c0.toNat : Int)) 32 1024 = some d0 ∧ dig 119 115 83 false ((c1.toNat : Int)) 16 1024 = some d1 ∧ dig 120 115 83 true ((c2.toNat : Int)) 8 1024 = some d2 ∧ d0 + d1 + d2 = mm 1 x ∧ (grp 1 x).toList = (⟨#[c0, c1, c2]⟩ : ByteArray).toList) ∨ ((dig 114 115 83 false ((c0.toNat : Int)) 32 1024 = none ∨ dig 119 115 83 false ((c1.toNat : Int)) 16 1024 = none ∨ dig 120 115 83 true ((c2.toNat : Int)) 8 1024 = none) ∧ ∀ x, x < 16 → (grp 1 x).toList ≠ (⟨#[c0, c1, c2]⟩ : ByteArray).toList) := by
  have key : ∀ x, (grp 1 x).toList = (⟨#[c0, c1, c2]⟩ : ByteArray).toList → (c0 = 114 ∨ c0 = 45) ∧ (c1 = 119 ∨ c1 = 45) ∧ (c2 = 120 ∨ c2 = 115 ∨ c2 = 83 ∨ c2 = 45) := by
    intro x hx
    rw [toList_data, toList_data] at hx
    unfold grp third at hx
    simp only [List.cons.injEq] at hx
    obtain ⟨e0, e1, e2, _⟩ := hx
    refine ⟨?_, ?_, ?_⟩
    · rw [← e0]; split <;> simp
    · rw [← e1]; split <;> simp
    · rw [← e2]; repeat' split
      all_goals first | (simp; done) | (exfalso; omega)
  by_cases a0 : (c0.toNat : Int) = 114 ∨ (c0.toNat : Int) = 45
  · by_cases a1 : (c1.toNat : Int) = 119 ∨ (c1.toNat : Int) = 45
    · by_cases a2 : (c2.toNat : Int) = 120 ∨ (c2.toNat : Int) = 115 ∨ (c2.toNat : Int) = 83 ∨ (c2.toNat : Int) = 45
      · left
        rcases a0 with a0 | a0 <;> rcases a1 with a1 | a1 <;> rcases a2 with a2 | a2 | a2 | a2
        · obtain rfl : c0 = 114 := UInt8.toNat_inj.1 (by show c0.toNat = 114; omega)
          obtain rfl : c1 = 119 := UInt8.toNat_inj.1 (by show c1.toNat = 119; omega)
          obtain rfl : c2 = 120 := UInt8.toNat_inj.1 (by show c2.toNat = 120; omega)
          exact ⟨7, by decide, 32, 16, 8, by decide +kernel, by decide +kernel, by decide +kernel, by decide +kernel, rfl⟩
        · obtain rfl : c0 = 114 := UInt8.toNat_inj.1 (by show c0.toNat = 114; omega)
          obtain rfl : c1 = 119 := UInt8.toNat_inj.1 (by show c1.toNat = 119; omega)
          obtain rfl : c2 = 115 := UInt8.toNat_inj.1 (by show c2.toNat = 115; omega)
          exact ⟨15, by decide, 32, 16, 1032, by decide +kernel, by decide +kernel, by decide +kernel, by decide +kernel, rfl⟩
        · obtain rfl : c0 = 114 := UInt8.toNat_inj.1 (by show c0.toNat = 114; omega)
          obtain rfl : c1 = 119 := UInt8.toNat_inj.1 (by show c1.toNat = 119; omega)
          obtain rfl : c2 = 83 := UInt8.toNat_inj.1 (by show c2.toNat = 83; omega)
          exact ⟨14, by decide, 32, 16, 1024, by decide +kernel, by decide +kernel, by decide +kernel, by decide +kernel, rfl⟩
        · obtain rfl : c0 = 114 := UInt8.toNat_inj.1 (by show c0.toNat = 114; omega)
          obtain rfl : c1 = 119 := UInt8.toNat_inj.1 (by show c1.toNat = 119; omega)
          obtain rfl : c2 = 45 := UInt8.toNat_inj.1 (by show c2.toNat = 45; omega)
          exact ⟨6, by decide, 32, 16, 0, by decide +kernel, by decide +kernel, by decide +kernel, by decide +kernel, rfl⟩
        · obtain rfl : c0 = 114 := UInt8.toNat_inj.1 (by show c0.toNat = 114; omega)
          obtain rfl : c1 = 45 := UInt8.toNat_inj.1 (by show c1.toNat = 45; omega)
          obtain rfl : c2 = 120 := UInt8.toNat_inj.1 (by show c2.toNat = 120; omega)
          exact ⟨5, by decide, 32, 0, 8, by decide +kernel, by decide +kernel, by decide +kernel, by decide +kernel, rfl⟩
        · obtain rfl : c0 = 114 := UInt8.toNat_inj.1 (by show c0.toNat = 114; omega)
          obtain rfl : c1 = 45 := UInt8.toNat_inj.1 (by show c1.toNat = 45; omega)
          obtain rfl : c2 = 115 := UInt8.toNat_inj.1 (by show c2.toNat = 115; omega)
          exact ⟨13, by decide, 32, 0, 1032, by decide +kernel, by decide +kernel, by decide +kernel, by decide +kernel, rfl⟩
        · obtain rfl : c0 = 114 := UInt8.toNat_inj.1 (by show c0.toNat = 114; omega)
          obtain rfl : c1 = 45 := UInt8.toNat_inj.1 (by show c1.toNat = 45; omega)
          obtain rfl : c2 = 83 := UInt8.toNat_inj.1 (by show c2.toNat = 83; omega)
          exact ⟨12, by decide, 32, 0, 1024, by decide +kernel, by decide +kernel, by decide +kernel, by decide +kernel, rfl⟩
        · obtain rfl : c0 = 114 := UInt8.toNat_inj.1 (by show c0.toNat = 114; omega)
          obtain rfl : c1 = 45 := UInt8.toNat_inj.1 (by show c1.toNat = 45; omega)
          obtain rfl : c2 = 45 := UInt8.toNat_inj.1 (by show c2.toNat = 45; omega)
          exact ⟨4, by decide, 32, 0, 0, by decide +kernel, by decide +kernel, by decide +kernel, by decide +kernel, rfl⟩
        · obtain rfl : c0 = 45 := UInt8.toNat_inj.1 (by show c0.toNat = 45; omega)
          obtain rfl : c1 = 119 := UInt8.toNat_inj.1 (by show c1.toNat = 119; omega)
          obtain rfl : c2 = 120 := UInt8.toNat_inj.1 (by show c2.toNat = 120; omega)
          exact ⟨3, by decide, 0, 16, 8, by decide +kernel, by decide +kernel, by decide +kernel, by decide +kernel, rfl⟩
        · obtain rfl : c0 = 45 := UInt8.toNat_inj.1 (by show c0.toNat = 45; omega)
          obtain rfl : c1 = 119 := UInt8.toNat_inj.1 (by show c1.toNat = 119; omega)
          obtain rfl : c2 = 115 := UInt8.toNat_inj.1 (by show c2.toNat = 115; omega)
          exact ⟨11, by decide, 0, 16, 1032, by decide +kernel, by decide +kernel, by decide +kernel, by decide +kernel, rfl⟩
        · obtain rfl : c0 = 45 := UInt8.toNat_inj.1 (by show c0.toNat = 45; omega)
          obtain rfl : c1 = 119 := UInt8.toNat_inj.1 (by show c1.toNat = 119; omega)
          obtain rfl : c2 = 83 := UInt8.toNat_inj.1 (by show c2.toNat = 83; omega)
          exact ⟨10, by decide, 0, 16, 1024, by decide +kernel, by decide +kernel, by decide +kernel, by decide +kernel, rfl⟩
        · obtain rfl : c0 = 45 := UInt8.toNat_inj.1 (by show c0.toNat = 45; omega)
          obtain rfl : c1 = 119 := UInt8.toNat_inj.1 (by show c1.toNat = 119; omega)
          obtain rfl : c2 = 45 := UInt8.toNat_inj.1 (by show c2.toNat = 45; omega)
          exact ⟨2, by decide, 0, 16, 0, by decide +kernel, by decide +kernel, by decide +kernel, by decide +kernel, rfl⟩
        · obtain rfl : c0 = 45 := UInt8.toNat_inj.1 (by show c0.toNat = 45; omega)
          obtain rfl : c1 = 45 := UInt8.toNat_inj.1 (by show c1.toNat = 45; omega)
          obtain rfl : c2 = 120 := UInt8.toNat_inj.1 (by show c2.toNat = 120; omega)
          exact ⟨1, by decide, 0, 0, 8, by decide +kernel, by decide +kernel, by decide +kernel, by decide +kernel, rfl⟩
        · obtain rfl : c0 = 45 := UInt8.toNat_inj.1 (by show c0.toNat = 45; omega)
          obtain rfl : c1 = 45 := UInt8.toNat_inj.1 (by show c1.toNat = 45; omega)
          obtain rfl : c2 = 115 := UInt8.toNat_inj.1 (by show c2.toNat = 115; omega)
          exact ⟨9, by decide, 0, 0, 1032, by decide +kernel, by decide +kernel, by decide +kernel, by decide +kernel, rfl⟩
        · obtain rfl : c0 = 45 := UInt8.toNat_inj.1 (by show c0.toNat = 45; omega)
          obtain rfl : c1 = 45 := UInt8.toNat_inj.1 (by show c1.toNat = 45; omega)
          obtain rfl : c2 = 83 := UInt8.toNat_inj.1 (by show c2.toNat = 83; omega)
          exact ⟨8, by decide, 0, 0, 1024, by decide +kernel, by decide +kernel, by decide +kernel, by decide +kernel, rfl⟩
        · obtain rfl : c0 = 45 := UInt8.toNat_inj.1 (by show c0.toNat = 45; omega)
          obtain rfl : c1 = 45 := UInt8.toNat_inj.1 (by show c1.toNat = 45; omega)
          obtain rfl : c2 = 45 := UInt8.toNat_inj.1 (by show c2.toNat = 45; omega)
          exact ⟨0, by decide, 0, 0, 0, by decide +kernel, by decide +kernel, by decide +kernel, by decide +kernel, rfl⟩
      · right
        refine ⟨Or.inr (Or.inr ?_), fun x _ hx => a2 ?_⟩
        · unfold dig
          rw [if_neg (by omega), if_neg (by rintro ⟨_, q⟩; omega), if_neg (by rintro ⟨_, q⟩; omega), if_neg (by omega)]
        · rcases (key x hx).2.2 with rfl | rfl | rfl | rfl <;> simp
    · right
      refine ⟨Or.inr (Or.inl ?_), fun x _ hx => a1 ?_⟩
      · unfold dig
        rw [if_neg (by omega), if_neg (by simp), if_neg (by simp), if_neg (by omega)]
      · rcases (key x hx).2.1 with rfl | rfl <;> simp
  · right
    refine ⟨Or.inl ?_, fun x _ hx => a0 ?_⟩
    · unfold dig
      rw [if_neg (by omega), if_neg (by simp), if_neg (by simp), if_neg (by omega)]
    · rcases (key x hx).1 with rfl | rfl <;> simp
theorem ig2 (k : Nat) (a : ByteArray) (M : Nat) (r : Int × Int) (hs : a.size = 9) (hJ : M < 4096 ∧ M % 8 = 0 ∧ M / 512 % 2 = 0) (d0 d1 d2 : Nat) (h0 : dig 114 115 83 false (bt a 6) 4 512 = some d0) (h1 : dig 119 115 83 false (bt a 7) 2 512 = some d1) (h2 : dig 120 116 84 true (bt a 8) 1 512 = some d2) (h : (M + (d0 + d1 + d2)) < 4096 ∧ (M + (d0 + d1 + d2)) % 1 = 0 ∧ (M + (d0 + d1 + d2)) / 512 % 1 = 0 → meta_Parse.l0 k a ((M + (d0 + d1 + d2) : Nat) : Int) 9 9 = some r) : meta_Parse.l0 (k + 12) a (M : Int) 9 6 = some r :=
  some6 (k + 8) a M d0 r hs hJ h0 fun J1 => some7 (k + 4) a (M + d0) d1 r hs J1 h1 fun J2 => some8 k a (M + d0 + d1) d2 r hs J2 h2 fun J3 => by
    rw [show M + d0 + d1 + d2 = M + (d0 + d1 + d2) from by omega] at J3 ⊢
    exact h J3
theorem ign2 (k : Nat) (a : ByteArray) (M : Nat) (hs : a.size = 9) (hJ : M < 4096 ∧ M % 8 = 0 ∧ M / 512 % 2 = 0) (hn : dig 114 115 83 false (bt a 6) 4 512 = none ∨ dig 119 115 83 false (bt a 7) 2 512 = none ∨ dig 120 116 84 true (bt a 8) 1 512 = none) : meta_Parse.l0 (k + 12) a (M : Int) 9 6 = some (0, 3) := by
  cases h0 : dig 114 115 83 false (bt a 6) 4 512 with
  | none => exact none6 (k + 8) a M hs h0
  | some d0 =>
    refine some6 (k + 8) a M d0 _ hs hJ h0 fun J1 => ?_
    cases h1 : dig 119 115 83 false (bt a 7) 2 512 with
    | none => exact none7 (k + 4) a (M + d0) hs h1
    | some d1 =>
      refine some7 (k + 4) a (M + d0) d1 _ hs J1 h1 fun J2 => ?_
      rw [h0, h1] at hn
      exact none8 k a (M + d0 + d1) hs (by rcases hn with h | h | h; cases h; cases h; exact h)
theorem g2 (c0 c1 c2 : UInt8) : (∃ x, x < 16 ∧ ∃ d0 d1 d2, dig 114 115 83 false ((c0.toNat : Int)) 4 512 = some d0 ∧ dig 119 115 83 false ((c1.toNat : Int)) 2 512 = some d1 ∧ dig 120 116 84 true ((c2.toNat : Int)) 1 512 = some d2 ∧ d0 + d1 + d2 = mm 0 x ∧ (grp 0 x).toList = (⟨#[c0, c1, c2]⟩ : ByteArray).toList) ∨ ((dig 114 115 83 false ((c0.toNat : Int)) 4 512 = none ∨ dig 119 115 83 false ((c1.toNat : Int)) 2 512 = none ∨ dig 120 116 84 true ((c2.toNat : Int)) 1 512 = none) ∧ ∀ x, x < 16 → (grp 0 x).toList ≠ (⟨#[c0, c1, c2]⟩ : ByteArray).toList) := by
  have key : ∀ x, (grp 0 x).toList = (⟨#[c0, c1, c2]⟩ : ByteArray).toList → (c0 = 114 ∨ c0 = 45) ∧ (c1 = 119 ∨ c1 = 45) ∧ (c2 = 120 ∨ c2 = 116 ∨ c2 = 84 ∨ c2 = 45) := by
    intro x hx
    rw [toList_data, toList_data] at hx
    unfold grp third at hx
    simp only [List.cons.injEq] at hx
    obtain ⟨e0, e1, e2, _⟩ := hx
    refine ⟨?_, ?_, ?_⟩
    · rw [← e0]; split <;> simp
    · rw [← e1]; split <;> simp
    · rw [← e2]; repeat' split
      all_goals first | (simp; done) | (exfalso; omega)
  by_cases a0 : (c0.toNat : Int) = 114 ∨ (c0.toNat : Int) = 45
  · by_cases a1 : (c1.toNat : Int) = 119 ∨ (c1.toNat : Int) = 45
    · by_cases a2 : (c2.toNat : Int) = 120 ∨ (c2.toNat : Int) = 116 ∨ (c2.toNat : Int) = 84 ∨ (c2.toNat : Int) = 45
      · left
        rcases a0 with a0 | a0 <;> rcases a1 with a1 | a1 <;> rcases a2 with a2 | a2 | a2 | a2
        · obtain rfl : c0 = 114 := UInt8.toNat_inj.1 (by show c0.toNat = 114; omega)
          obtain rfl : c1 = 119 := UInt8.toNat_inj.1 (by show c1.toNat = 119; omega)
          obtain rfl : c2 = 120 := UInt8.toNat_inj.1 (by show c2.toNat = 120; omega)
          exact ⟨7, by decide, 4, 2, 1, by decide +kernel, by decide +kernel, by decide +kernel, by decide +kernel, rfl⟩
        · obtain rfl : c0 = 114 := UInt8.toNat_inj.1 (by show c0.toNat = 114; omega)
          obtain rfl : c1 = 119 := UInt8.toNat_inj.1 (by show c1.toNat = 119; omega)
          obtain rfl : c2 = 116 := UInt8.toNat_inj.1 (by show c2.toNat = 116; omega)
          exact ⟨15, by decide, 4, 2, 513, by decide +kernel, by decide +kernel, by decide +kernel, by decide +kernel, rfl⟩
        · obtain rfl : c0 = 114 := UInt8.toNat_inj.1 (by show c0.toNat = 114; omega)
          obtain rfl : c1 = 119 := UInt8.toNat_inj.1 (by show c1.toNat = 119; omega)
          obtain rfl : c2 = 84 := UInt8.toNat_inj.1 (by show c2.toNat = 84; omega)
          exact ⟨14, by decide, 4, 2, 512, by decide +kernel, by decide +kernel, by decide +kernel, by decide +kernel, rfl⟩
        · obtain rfl : c0 = 114 := UInt8.toNat_inj.1 (by show c0.toNat = 114; omega)
          obtain rfl : c1 = 119 := UInt8.toNat_inj.1 (by show c1.toNat = 119; omega)
          obtain rfl : c2 = 45 := UInt8.toNat_inj.1 (by show c2.toNat = 45; omega)
          exact ⟨6, by decide, 4, 2, 0, by decide +kernel, by decide +kernel, by decide +kernel, by decide +kernel, rfl⟩
        · obtain rfl : c0 = 114 := UInt8.toNat_inj.1 (by show c0.toNat = 114; omega)
          obtain rfl : c1 = 45 := UInt8.toNat_inj.1 (by show c1.toNat = 45; omega)
          obtain rfl : c2 = 120 := UInt8.toNat_inj.1 (by show c2.toNat = 120; omega)
          exact ⟨5, by decide, 4, 0, 1, by decide +kernel, by decide +kernel, by decide +kernel, by decide +kernel, rfl⟩
        · obtain rfl : c0 = 114 := UInt8.toNat_inj.1 (by show c0.toNat = 114; omega)
          obtain rfl : c1 = 45 := UInt8.toNat_inj.1 (by show c1.toNat = 45; omega)
          obtain rfl : c2 = 116 := UInt8.toNat_inj.1 (by show c2.toNat = 116; omega)
          exact ⟨13, by decide, 4, 0, 513, by decide +kernel, by decide +kernel, by decide +kernel, by decide +kernel, rfl⟩
        · obtain rfl : c0 = 114 := UInt8.toNat_inj.1 (by show c0.toNat = 114; omega)
          obtain rfl : c1 = 45 := UInt8.toNat_inj.1 (by show c1.toNat = 45; omega)
          obtain rfl : c2 = 84 := UInt8.toNat_inj.1 (by show c2.toNat = 84; omega)
          exact ⟨12, by decide, 4, 0, 512, by decide +kernel, by decide +kernel, by decide +kernel, by decide +kernel, rfl⟩
        · obtain rfl : c0 = 114 := UInt8.toNat_inj.1 (by show c0.toNat = 114; omega)
          obtain rfl : c1 = 45 := UInt8.toNat_inj.1 (by show c1.toNat = 45; omega)
          obtain rfl : c2 = 45 := UInt8.toNat_inj.1 (by show c2.toNat = 45; omega)
          exact ⟨4, by decide, 4, 0, 0, by decide +kernel, by decide +kernel, by decide +kernel, by decide +kernel, rfl⟩
        · obtain rfl : c0 = 45 := UInt8.toNat_inj.1 (by show c0.toNat = 45; omega)
          obtain rfl : c1 = 119 := UInt8.toNat_inj.1 (by show c1.toNat = 119; omega)
          obtain rfl : c2 = 120 := UInt8.toNat_inj.1 (by show c2.toNat = 120; omega)
          exact ⟨3, by decide, 0, 2, 1, by decide +kernel, by decide +kernel, by decide +kernel, by decide +kernel, rfl⟩
        · obtain rfl : c0 = 45 := UInt8.toNat_inj.1 (by show c0.toNat = 45; omega)
          obtain rfl : c1 = 119 := UInt8.toNat_inj.1 (by show c1.toNat = 119; omega)
          obtain rfl : c2 = 116 := UInt8.toNat_inj.1 (by show c2.toNat = 116; omega)
          exact ⟨11, by decide, 0, 2, 513, by decide +kernel, by decide +kernel, by decide +kernel, by decide +kernel, rfl⟩
        · obtain rfl : c0 = 45 := UInt8.toNat_inj.1 (by show c0.toNat = 45; omega)
          obtain rfl : c1 = 119 := UInt8.toNat_inj.1 (by show c1.toNat = 119; omega)
          obtain rfl : c2 = 84 := UInt8.toNat_inj.1 (by show c2.toNat = 84; omega)
          exact ⟨10, by decide, 0, 2, 512, by decide +kernel, by decide +kernel, by decide +kernel, by decide +kernel, rfl⟩
        · obtain rfl : c0 = 45 := UInt8.toNat_inj.1 (by show c0.toNat = 45; omega)
          obtain rfl : c1 = 119 := UInt8.toNat_inj.1 (by show c1.toNat = 119; omega)
          obtain rfl : c2 = 45 := UInt8.toNat_inj.1 (by show c2.toNat = 45; omega)
          exact ⟨2, by decide, 0, 2, 0, by decide +kernel, by decide +kernel, by decide +kernel, by decide +kernel, rfl⟩
        · obtain rfl : c0 = 45 := UInt8.toNat_inj.1 (by show c0.toNat = 45; omega)
          obtain rfl : c1 = 45 := UInt8.toNat_inj.1 (by show c1.toNat = 45; omega)
          obtain rfl : c2 = 120 := UInt8.toNat_inj.1 (by show c2.toNat = 120; omega)
          exact ⟨1, by decide, 0, 0, 1, by decide +kernel, by decide +kernel, by decide +kernel, by decide +kernel, rfl⟩
        · obtain rfl : c0 = 45 := UInt8.toNat_inj.1 (by show c0.toNat = 45; omega)
          obtain rfl : c1 = 45 := UInt8.toNat_inj.1 (by show c1.toNat = 45; omega)
          obtain rfl : c2 = 116 := UInt8.toNat_inj.1 (by show c2.toNat = 116; omega)
          exact ⟨9, by decide, 0, 0, 513, by decide +kernel, by decide +kernel, by decide +kernel, by decide +kernel, rfl⟩
        · obtain rfl : c0 = 45 := UInt8.toNat_inj.1 (by show c0.toNat = 45; omega)
          obtain rfl : c1 = 45 := UInt8.toNat_inj.1 (by show c1.toNat = 45; omega)
          obtain rfl : c2 = 84 := UInt8.toNat_inj.1 (by show c2.toNat = 84; omega)
          exact ⟨8, by decide, 0, 0, 512, by decide +kernel, by decide +kernel, by decide +kernel, by decide +kernel, rfl⟩
        · obtain rfl : c0 = 45 := UInt8.toNat_inj.1 (by show c0.toNat = 45; omega)
          obtain rfl : c1 = 45 := UInt8.toNat_inj.1 (by show c1.toNat = 45; omega)
          obtain rfl : c2 = 45 := UInt8.toNat_inj.1 (by show c2.toNat = 45; omega)
          exact ⟨0, by decide, 0, 0, 0, by decide +kernel, by decide +kernel, by decide +kernel, by decide +kernel, rfl⟩
      · right
        refine ⟨Or.inr (Or.inr ?_), fun x _ hx => a2 ?_⟩
        · unfold dig
          rw [if_neg (by omega), if_neg (by rintro ⟨_, q⟩; omega), if_neg (by rintro ⟨_, q⟩; omega), if_neg (by omega)]
        · rcases (key x hx).2.2 with rfl | rfl | rfl | rfl <;> simp
    · right
      refine ⟨Or.inr (Or.inl ?_), fun x _ hx => a1 ?_⟩
      · unfold dig
        rw [if_neg (by omega), if_neg (by simp), if_neg (by simp), if_neg (by omega)]
      · rcases (key x hx).2.1 with rfl | rfl <;> simp
  · right
    refine ⟨Or.inl ?_, fun x _ hx => a0 ?_⟩
    · unfold dig
      rw [if_neg (by omega), if_neg (by simp), if_neg (by simp), if_neg (by omega)]
    · rcases (key x hx).1 with rfl | rfl <;> simp
theorem fold_miss (kk : Nat) (p : ByteArray) (l : List Nat) (s : Int × Bool) (h : ∀ x, x ∈ l → (grp kk x).toList ≠ p.toList) : l.foldl (step kk p) s = s := by
  induction l generalizing s with
  | nil => rfl
  | cons x l ih =>
    rw [List.foldl_cons, show step kk p s x = s from by unfold step; rw [if_neg (h x (.head _))]]
    exact ih s fun y hy => h y (.tail _ hy)
theorem fold_hit (kk : Nat) (p : ByteArray) (x0 : Nat) (hx : (grp kk x0).toList = p.toList) (M : Int) (l : List Nat) (hn : l.Nodup) (hin : x0 ∈ l) (hinj : ∀ x, x ∈ l → (grp kk x).toList = (grp kk x0).toList → x = x0) : l.foldl (step kk p) (M, false) = (wrap64 (M + mm kk x0), true) := by
  induction l with
  | nil => cases hin
  | cons x l ih =>
    rw [List.nodup_cons] at hn
    rw [List.foldl_cons]
    by_cases e : x = x0
    · subst e
      rw [show step kk p (M, false) x = (wrap64 (M + mm kk x), true) from by unfold step; rw [if_pos hx]]
      exact fold_miss kk p l _ fun y hy q => hn.1 (hinj y (.tail _ hy) (q.trans hx.symm) ▸ hy)
    · rw [show step kk p (M, false) x = (M, false) from by unfold step; rw [if_neg fun q => e (hinj x (.head _) (q.trans hx.symm))]]
      refine ih hn.2 ?_ fun y hy => hinj y (.tail _ hy)
      cases hin with
      | head => exact absurd rfl e
      | tail _ h => exact h
theorem inj (kk : Nat) (hk : kk < 3) (x y : Nat) (hx : x < 16) (hy : y < 16) (h : (grp kk x).toList = (grp kk y).toList) : x = y := by
  rw [toList_data, toList_data] at h
  have key : ∀ kk, kk < 3 → ∀ x, x < 16 → ∀ y, y < 16 → (grp kk x).data.toList = (grp kk y).data.toList → x = y := by decide +kernel
  exact key kk hk x hx y hy h
theorem rg2 (n : Nat) (a p : ByteArray) (M : Int) (hs : a.size = 9) (hp : a.extract 0 3 = p) : (∀ x0, x0 < 16 → (grp 2 x0).toList = p.toList → creelref_ModeOf.l0 (n + 21) a M 2 = creelref_ModeOf.l0 (n + 3) a (wrap64 (M + mm 2 x0)) 1) ∧ ((∀ x, x < 16 → (grp 2 x).toList ≠ p.toList) → creelref_ModeOf.l0 (n + 21) a M 2 = some (0, 3)) := by
  have e : creelref_ModeOf.l0 (n + 21) a M 2 = (if ((List.range 16).foldl (step 2 p) (M, false)).2 = true then creelref_ModeOf.l0 (n + 3) a ((List.range 16).foldl (step 2 p) (M, false)).1 1 else some (0, 3)) := by
    rw [show n + 21 = (n + 20) + 1 from rfl, creelref_ModeOf.l0, if_pos (by decide), if_pos (by decide +kernel), if_pos (by decide +kernel), if_pos (by rw [hs]; decide +kernel), show (wrap64 (6 - wrap64 (3 * 2)) : Int).toNat = 0 from by decide +kernel, show (wrap64 (9 - wrap64 (3 * 2)) : Int).toNat = 3 from by decide +kernel, hp]
    refine (refs2 n a p (M, false)).trans ?_
    rw [show n + 4 = (n + 3) + 1 from rfl, creelref_ModeOf.l1, if_neg (by decide), show wrap64 (2 - 1) = 1 from by decide +kernel]
  constructor
  · intro x0 h0 hx
    rw [e, fold_hit 2 p x0 hx M (List.range 16) List.nodup_range (List.mem_range.2 h0) fun x h q => inj 2 (by decide) x x0 (List.mem_range.1 h) h0 q, if_pos rfl]
  · intro h
    rw [e, fold_miss 2 p (List.range 16) _ fun x hx => h x (List.mem_range.1 hx)]
    rfl
theorem rg1 (n : Nat) (a p : ByteArray) (M : Int) (hs : a.size = 9) (hp : a.extract 3 6 = p) : (∀ x0, x0 < 16 → (grp 1 x0).toList = p.toList → creelref_ModeOf.l0 (n + 21) a M 1 = creelref_ModeOf.l0 (n + 3) a (wrap64 (M + mm 1 x0)) 0) ∧ ((∀ x, x < 16 → (grp 1 x).toList ≠ p.toList) → creelref_ModeOf.l0 (n + 21) a M 1 = some (0, 3)) := by
  have e : creelref_ModeOf.l0 (n + 21) a M 1 = (if ((List.range 16).foldl (step 1 p) (M, false)).2 = true then creelref_ModeOf.l0 (n + 3) a ((List.range 16).foldl (step 1 p) (M, false)).1 0 else some (0, 3)) := by
    rw [show n + 21 = (n + 20) + 1 from rfl, creelref_ModeOf.l0, if_pos (by decide), if_pos (by decide +kernel), if_pos (by decide +kernel), if_pos (by rw [hs]; decide +kernel), show (wrap64 (6 - wrap64 (3 * 1)) : Int).toNat = 3 from by decide +kernel, show (wrap64 (9 - wrap64 (3 * 1)) : Int).toNat = 6 from by decide +kernel, hp]
    refine (refs1 n a p (M, false)).trans ?_
    rw [show n + 4 = (n + 3) + 1 from rfl, creelref_ModeOf.l1, if_neg (by decide), show wrap64 (1 - 1) = 0 from by decide +kernel]
  constructor
  · intro x0 h0 hx
    rw [e, fold_hit 1 p x0 hx M (List.range 16) List.nodup_range (List.mem_range.2 h0) fun x h q => inj 1 (by decide) x x0 (List.mem_range.1 h) h0 q, if_pos rfl]
  · intro h
    rw [e, fold_miss 1 p (List.range 16) _ fun x hx => h x (List.mem_range.1 hx)]
    rfl
theorem rg0 (n : Nat) (a p : ByteArray) (M : Int) (hs : a.size = 9) (hp : a.extract 6 9 = p) : (∀ x0, x0 < 16 → (grp 0 x0).toList = p.toList → creelref_ModeOf.l0 (n + 21) a M 0 = creelref_ModeOf.l0 (n + 3) a (wrap64 (M + mm 0 x0)) (-1)) ∧ ((∀ x, x < 16 → (grp 0 x).toList ≠ p.toList) → creelref_ModeOf.l0 (n + 21) a M 0 = some (0, 3)) := by
  have e : creelref_ModeOf.l0 (n + 21) a M 0 = (if ((List.range 16).foldl (step 0 p) (M, false)).2 = true then creelref_ModeOf.l0 (n + 3) a ((List.range 16).foldl (step 0 p) (M, false)).1 (-1) else some (0, 3)) := by
    rw [show n + 21 = (n + 20) + 1 from rfl, creelref_ModeOf.l0, if_pos (by decide), if_pos (by decide +kernel), if_pos (by decide +kernel), if_pos (by rw [hs]; decide +kernel), show (wrap64 (6 - wrap64 (3 * 0)) : Int).toNat = 6 from by decide +kernel, show (wrap64 (9 - wrap64 (3 * 0)) : Int).toNat = 9 from by decide +kernel, hp]
    refine (refs0 n a p (M, false)).trans ?_
    rw [show n + 4 = (n + 3) + 1 from rfl, creelref_ModeOf.l1, if_neg (by decide), show wrap64 (0 - 1) = (-1) from by decide +kernel]
  constructor
  · intro x0 h0 hx
    rw [e, fold_hit 0 p x0 hx M (List.range 16) List.nodup_range (List.mem_range.2 h0) fun x h q => inj 0 (by decide) x x0 (List.mem_range.1 h) h0 q, if_pos rfl]
  · intro h
    rw [e, fold_miss 0 p (List.range 16) _ fun x hx => h x (List.mem_range.1 hx)]
    rfl
theorem mm_lt (kk x : Nat) (hk : kk < 3) (hx : x < 16) : mm kk x < 4096 := by
  have key : ∀ kk, kk < 3 → ∀ x, x < 16 → mm kk x < 4096 := by decide +kernel
  exact key kk hk x hx
theorem l0_end (n : Nat) (a : ByteArray) (M : Int) : creelref_ModeOf.l0 (n + 1) a M (-1) = some (M, 0) := by
  rw [creelref_ModeOf.l0, if_neg (by decide)]
theorem l0_last (k : Nat) (a : ByteArray) (M : Int) : meta_Parse.l0 (k + 1) a M 9 9 = some (M, 0) := by
  rw [meta_Parse.l0, if_neg (by decide)]
theorem nine (c0 c1 c2 c3 c4 c5 c6 c7 c8 : UInt8) (a : ByteArray) (ha : a = ⟨#[c0, c1, c2, c3, c4, c5, c6, c7, c8]⟩) : ∃ r, meta_Parse.f 100 a = some r ∧ creelref_ModeOf.f 100 a = some r := by
  have hs : a.size = 9 := by rw [ha]; rfl
  have b0 : bt a 0 = (c0.toNat : Int) := by rw [ha]; rfl
  have b1 : bt a 1 = (c1.toNat : Int) := by rw [ha]; rfl
  have b2 : bt a 2 = (c2.toNat : Int) := by rw [ha]; rfl
  have b3 : bt a 3 = (c3.toNat : Int) := by rw [ha]; rfl
  have b4 : bt a 4 = (c4.toNat : Int) := by rw [ha]; rfl
  have b5 : bt a 5 = (c5.toNat : Int) := by rw [ha]; rfl
  have b6 : bt a 6 = (c6.toNat : Int) := by rw [ha]; rfl
  have b7 : bt a 7 = (c7.toNat : Int) := by rw [ha]; rfl
  have b8 : bt a 8 = (c8.toNat : Int) := by rw [ha]; rfl
  have p2 : a.extract 0 3 = ⟨#[c0, c1, c2]⟩ := by rw [ha]; apply ByteArray.ext; rw [ByteArray.data_extract]; rfl
  have p1 : a.extract 3 6 = ⟨#[c3, c4, c5]⟩ := by rw [ha]; apply ByteArray.ext; rw [ByteArray.data_extract]; rfl
  have p0 : a.extract 6 9 = ⟨#[c6, c7, c8]⟩ := by rw [ha]; apply ByteArray.ext; rw [ByteArray.data_extract]; rfl
  have fI : meta_Parse.f 100 a = meta_Parse.l0 100 a ((0 : Nat) : Int) 9 0 := by
    unfold meta_Parse.f
    rw [if_pos (by omega), hs]
    rfl
  have fR : creelref_ModeOf.f 100 a = creelref_ModeOf.l0 100 a 0 2 := by
    unfold creelref_ModeOf.f
    rw [if_pos (by omega)]
  rw [fI, fR]
  clear fI fR ha
  have hw : ∀ x : Int, 0 ≤ x → x < 100000 → wrap64 x = x := by intro x h1 h2; unfold wrap64; omega
  rcases g0 c0 c1 c2 with ⟨x, hx, d0, d1, d2, e0, e1, e2, ed, eg⟩ | ⟨hn, hm⟩
  · rw [(rg2 79 a _ 0 hs p2).1 x hx eg, hw _ (by omega) (by have := mm_lt 2 x (by decide) hx; omega)]
    have hx2 := mm_lt 2 x (by decide) hx
    rcases g1 c3 c4 c5 with ⟨y, hy, f0, f1, f2, i0, i1, i2, id, ig⟩ | ⟨hn, hm⟩
    · have hy2 := mm_lt 1 y (by decide) hy
      rw [(rg1 61 a _ _ hs p1).1 y hy ig, hw _ (by omega) (by omega)]
      rcases g2 c6 c7 c8 with ⟨z, hz, j0, j1, j2, k0, k1, k2, kd, kg⟩ | ⟨hn, hm⟩
      · have hz2 := mm_lt 0 z (by decide) hz
        rw [(rg0 43 a _ _ hs p0).1 z hz kg, hw _ (by omega) (by omega), l0_end]
        refine ⟨_, ?_, rfl⟩
        refine ig0 88 a 0 _ hs (by decide) d0 d1 d2 (by rw [b0]; exact e0) (by rw [b1]; exact e1) (by rw [b2]; exact e2) fun J1 => ?_
        refine ig1 76 a _ _ hs J1 f0 f1 f2 (by rw [b3]; exact i0) (by rw [b4]; exact i1) (by rw [b5]; exact i2) fun J2 => ?_
        refine ig2 64 a _ _ hs J2 j0 j1 j2 (by rw [b6]; exact k0) (by rw [b7]; exact k1) (by rw [b8]; exact k2) fun J3 => ?_
        rw [l0_last 63, ed, id, kd]
        congr 2
        try (push_cast; omega)
      · rw [(rg0 43 a _ _ hs p0).2 hm]
        refine ⟨_, ?_, rfl⟩
        refine ig0 88 a 0 _ hs (by decide) d0 d1 d2 (by rw [b0]; exact e0) (by rw [b1]; exact e1) (by rw [b2]; exact e2) fun J1 => ?_
        refine ig1 76 a _ _ hs J1 f0 f1 f2 (by rw [b3]; exact i0) (by rw [b4]; exact i1) (by rw [b5]; exact i2) fun J2 => ?_
        exact ign2 64 a _ hs J2 (by rw [b6, b7, b8]; exact hn)
    · rw [(rg1 61 a _ _ hs p1).2 hm]
      refine ⟨_, ?_, rfl⟩
      refine ig0 88 a 0 _ hs (by decide) d0 d1 d2 (by rw [b0]; exact e0) (by rw [b1]; exact e1) (by rw [b2]; exact e2) fun J1 => ?_
      exact ign1 76 a _ hs J1 (by rw [b3, b4, b5]; exact hn)
  · rw [(rg2 79 a _ 0 hs p2).2 hm]
    refine ⟨_, ?_, rfl⟩
    exact ign0 88 a 0 hs (by decide) (by rw [b0, b1, b2]; exact hn)
theorem pure : Pure := by
  intro a ha
  refine ⟨100, ?_⟩
  unfold creellaw_MetaParses.f
  by_cases hs : a.size = 9
  · have : ∃ r, meta_Parse.f 100 a = some r ∧ creelref_ModeOf.f 100 a = some r := by
      obtain ⟨⟨l⟩⟩ := a
      replace hs : l.length = 9 := hs
      match l, hs with
      | [c0, c1, c2, c3, c4, c5, c6, c7, c8], _ => exact nine c0 c1 c2 c3 c4 c5 c6 c7 c8 _ rfl
    obtain ⟨r, h1, h2⟩ := this
    rw [h1, Option.bind_some, h2, Option.bind_some]
    simp
  · have h1 : meta_Parse.f 100 a = some (0, 1) := by
      unfold meta_Parse.f
      rw [if_neg (by omega)]
    have h2 : creelref_ModeOf.f 100 a = some (0, 1) := by
      unfold creelref_ModeOf.f
      rw [if_neg (by omega)]
    rw [h1, Option.bind_some, h2, Option.bind_some]
    simp
end Go.Proofs.Ytmcofelbcjgagaa.PuMetaParses
