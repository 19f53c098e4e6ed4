/- The plain law of PaxWrites: what the walks compute answers true at every input that the row admits. No condition of its own. -/
import Derived.Test.YtcipaajdmpkdfaaDoorGPaxWrites
import Derived.Test.YtcipaajdmpkdfaaDoorWPureBase
import Derived.Test.YtcipaajdmpkdfaaDoorQDigits
import Derived.Test.YtcipaajdmpkdfaaDoorQHas
import Derived.Test.YtcipaajdmpkdfaaDoorQRecord
import Derived.Test.YtcipaajdmpkdfaaDoorQPaxC
namespace Go.Proofs.YtcipaajdmpkdfaaDoor.PuPaxWrites
set_option linter.unusedVariables false
set_option linter.unusedSimpArgs false
open Go.RowKit Go.Proofs.YtcipaajdmpkdfaaDoor.All Go.Proofs.YtcipaajdmpkdfaaDoor.GPaxWrites Go.Proofs.YtcipaajdmpkdfaaDoorW.PrintWords Go.Proofs.YtcipaajdmpkdfaaDoorW.PrintLast Go.Proofs.YtcipaajdmpkdfaaDoorW.PrintMore Go.Proofs.YtcipaajdmpkdfaaDoorW.PureBase Go.Proofs.YtcipaajdmpkdfaaDoor.Q

/- pax.Check and pax.Write, the reference's PaxFault and PaxText tell the same. No condition. -/
-- USES Digits Has Record PaxC
-- FN pax_Write creelref_PaxText pax_Check creelref_PaxFault
def cat (g : Nat → ByteArray) : Nat → Nat → ByteArray
  | _, 0 => ⟨#[]⟩
  | i, d + 1 => g i ++ cat g (i + 1) d
theorem app_nil (x : ByteArray) : x ++ (⟨#[]⟩ : ByteArray) = x := by
  apply ext_list
  simp [ByteArray.data_append]
theorem nil_app (x : ByteArray) : (⟨#[]⟩ : ByteArray) ++ x = x := by
  apply ext_list
  simp [ByteArray.data_append]
theorem app_app (x y z : ByteArray) : x ++ y ++ z = x ++ (y ++ z) := by
  apply ext_list
  simp [ByteArray.data_append]
theorem cat_snoc (g : Nat → ByteArray) (d : Nat) : ∀ i, cat g i (d + 1) = cat g i d ++ g (i + d) := by
  induction d with
  | zero => intro i; show g i ++ ⟨#[]⟩ = ⟨#[]⟩ ++ g (i + 0); rw [app_nil, nil_app, Nat.add_zero]
  | succ d ih =>
    intro i
    show g i ++ cat g (i + 1) (d + 1) = (g i ++ cat g (i + 1) d) ++ g (i + (d + 1))
    rw [ih (i + 1), app_app, show i + 1 + d = i + (d + 1) from by omega]
theorem rt_small (key value : ByteArray) : (rt key value).1.size ≤ 1000 := by
  unfold rt
  by_cases h : chk key value = 0
  · rw [if_pos h]
    have hsz : ¬ (key.size < 1 ∨ 60 < key.size ∨ 500 < value.size) := by
      intro h'
      rw [show chk key value = 1 from if_pos h'] at h
      exact absurd h (by decide)
    have hlen := rbody_len key value
    obtain ⟨n1, n2, n3, _⟩ := num_fix (rbody key value).length (by omega) (by omega)
    rw [tx_size, List.length_append, Lib.decDigits_length]
    omega
  · rw [if_neg h]
    exact Nat.zero_le _
def gT (l : List S26) (i : Nat) : ByteArray := (rt (rd_T26 l (i : Int)).f0 (rd_T26 l (i : Int)).f1).1
theorem wr_loop (l : List S26) (hl : l.length ≤ 12) (d : Nat) : ∀ (k i : Nat) (acc : ByteArray), i + d = l.length → acc.size ≤ i * 1000 → d + 1100 < k → pax_Write.l0 k l acc (i : Int) = some (acc ++ cat (gT l) i d, 0) := by
  induction d with
  | zero =>
    intro k i acc hi ha hk
    obtain ⟨k, rfl⟩ : ∃ q, k = q + 1 := ⟨k - 1, by omega⟩
    rw [pax_Write.l0, if_neg (by omega)]
    show _ = some (acc ++ ⟨#[]⟩, 0)
    rw [app_nil]
  | succ d ih =>
    intro k i acc hi ha hk
    obtain ⟨k, rfl⟩ : ∃ q, k = q + 1 := ⟨k - 1, by omega⟩
    have hr := (rt_val (rd_T26 l (i : Int)).f0 (rd_T26 l (i : Int)).f1 k (by omega)).1
    have hs := rt_small (rd_T26 l (i : Int)).f0 (rd_T26 l (i : Int)).f1
    have e1 : wrap64 ((i : Int) + 1) = ((i + 1 : Nat) : Int) := by rw [wrap_nat (by omega) (by omega)]; rfl
    rw [pax_Write.l0, if_pos (by omega), if_pos (by omega), hr, Option.bind_some, if_pos (by omega), e1]
    clear e1
    rw [ih k (i + 1) _ (by omega) (by rw [ByteArray.size_append]; omega) (by omega)]
    show some (acc ++ gT l i ++ cat (gT l) (i + 1) d, (0 : Int)) = some (acc ++ (gT l i ++ cat (gT l) (i + 1) d), 0)
    rw [app_app]
theorem tx_loop (l : List S26) (hl : l.length ≤ 12) (i : Nat) : ∀ (k : Nat) (acc : ByteArray), i ≤ l.length → acc.size + i * 1000 ≤ 20000 → i + 1100 < k → creelref_PaxText.l0 k l acc ((i : Int) - 1) = some (cat (gT l) 0 i ++ acc, 0) := by
  induction i with
  | zero =>
    intro k acc hi ha hk
    obtain ⟨k, rfl⟩ : ∃ q, k = q + 1 := ⟨k - 1, by omega⟩
    rw [creelref_PaxText.l0, if_neg (by omega)]
    show _ = some ((⟨#[]⟩ : ByteArray) ++ acc, (0 : Int))
    rw [nil_app]
  | succ i ih =>
    intro k acc hi ha hk
    obtain ⟨k, rfl⟩ : ∃ q, k = q + 1 := ⟨k - 1, by omega⟩
    have hr := (rt_val (rd_T26 l (i : Int)).f0 (rd_T26 l (i : Int)).f1 k (by omega)).2
    have hs := rt_small (rd_T26 l (i : Int)).f0 (rd_T26 l (i : Int)).f1
    have e1 : wrap64 ((i : Int) - 1) = (i : Int) - 1 := by unfold wrap64; omega
    rw [show (((i + 1 : Nat) : Int) - 1) = (i : Int) from by omega, creelref_PaxText.l0, if_pos (by omega), if_pos (by omega), if_pos (by omega), hr, Option.bind_some, if_pos (by omega), e1]
    clear e1
    rw [ih k _ (by omega) (by rw [ByteArray.size_append]; omega) (by omega), cat_snoc, Nat.zero_add, app_app]
    rfl
theorem pure : Pure := by
  intro l _
  obtain ⟨t, h1, h2, h3⟩ := paxchk l 2000 (by omega)
  refine ⟨2000, ?_⟩
  unfold creellaw_PaxWrites.f pax_Write.f creelref_PaxText.f
  rw [h1, h2]
  simp only [Option.bind_some]
  by_cases h0 : t = 0
  · have hl := h3 h0
    have hw := wr_loop l hl l.length 2000 0 ⟨#[]⟩ (by omega) (Nat.zero_le _) (by omega)
    have e1 : wrap64 ((l.length : Int) - 1) = (l.length : Int) - 1 := by unfold wrap64; omega
    have ht := tx_loop l hl l.length 2000 ⟨#[]⟩ (by omega) (by show 0 + _ ≤ _; omega) (by omega)
    rw [if_pos h0, if_pos h0, e1, ht]
    rw [show ((0 : Nat) : Int) = 0 from rfl] at hw
    rw [hw, nil_app, app_nil]
    simp
  · rw [if_neg h0, if_neg h0]
    simp
end Go.Proofs.YtcipaajdmpkdfaaDoor.PuPaxWrites
