/- The plain law of ListDays: the functions that print.sh wrote for it answer true at every input that the row admits; no condition of its own. -/
import Derived.Test.YtpokjdkckdajeaaPListDaysx1
namespace Go.Proofs.Ytpokjdkckdajeaa.Pure
open Go.RowKit Go.Proofs.Ytpokjdkckdajeaa.PListDays Go.Proofs.YtpokjdkckdajeaaW.PrintWords Go.Proofs.YtpokjdkckdajeaaW.PrintLast

-- BODY
theorem wrap_mid {x : Int} (h0 : -10000000000000 ≤ x) (h : x ≤ 10000000000000) : wrap64 x = x := by unfold wrap64; omega

/-- 1 in a leap year. -/
def lp (y : Int) : Int := if y % 4 = 0 then (if y % 100 = 0 then (if y % 400 = 0 then 1 else 0) else 1) else 0
theorem lp_is (y : Int) : lp y = (y / 4 - (y - 1) / 4) - (y / 100 - (y - 1) / 100) + (y / 400 - (y - 1) / 400) := by
  unfold lp
  by_cases h4 : y % 4 = 0
  · rw [if_pos h4]
    by_cases h100 : y % 100 = 0
    · rw [if_pos h100]
      by_cases h400 : y % 400 = 0
      · rw [if_pos h400]; omega
      · rw [if_neg h400]; omega
    · rw [if_neg h100]; omega
  · rw [if_neg h4]; omega
theorem lp_01 (y : Int) : lp y = 0 ∨ lp y = 1 := by
  unfold lp
  by_cases h4 : y % 4 = 0
  · rw [if_pos h4]
    by_cases h100 : y % 100 = 0
    · rw [if_pos h100]
      by_cases h400 : y % 400 = 0
      · rw [if_pos h400]; exact .inr rfl
      · rw [if_neg h400]; exact .inl rfl
    · rw [if_neg h100]; exact .inr rfl
  · rw [if_neg h4]; exact .inl rfl
theorem lp_one (y : Int) (h : lp y = 1) : y % 4 = 0 ∧ (y % 100 ≠ 0 ∨ y % 400 = 0) := by
  unfold lp at h
  by_cases h4 : y % 4 = 0
  · refine ⟨h4, ?_⟩
    by_cases h100 : y % 100 = 0
    · rw [if_pos h4, if_pos h100] at h
      by_cases h400 : y % 400 = 0
      · exact .inr h400
      · rw [if_neg h400] at h; omega
    · exact .inl h100
  · rw [if_neg h4] at h; omega

/-- Days from 1970 to a year's first, within a round of 400 years. -/
def ny (y : Int) : Int := 365 * (y - 1970) + (y - 1) / 4 - (y - 1) / 100 + (y - 1) / 400 - 477
theorem ny_succ (y : Int) : ny (y + 1) = ny y + 365 + lp y := by
  rw [lp_is]; unfold ny; omega

/-- Days of a year ahead of a month. -/
def cum (y m : Int) : Int :=
  if m ≤ 1 then 0 else if m ≤ 2 then 31 else if m ≤ 3 then 59 + lp y else if m ≤ 4 then 90 + lp y else if m ≤ 5 then 120 + lp y else if m ≤ 6 then 151 + lp y else if m ≤ 7 then 181 + lp y else if m ≤ 8 then 212 + lp y else if m ≤ 9 then 243 + lp y else if m ≤ 10 then 273 + lp y else if m ≤ 11 then 304 + lp y else if m ≤ 12 then 334 + lp y else 365 + lp y
/-- Days of a month. -/
def dim (y m : Int) : Int := if m = 2 then 28 + lp y else if m = 4 then 30 else if m = 6 then 30 else if m = 9 then 30 else if m = 11 then 30 else 31
theorem mon (m : Int) (h1 : 1 ≤ m) (h2 : m ≤ 12) : m = 1 ∨ m = 2 ∨ m = 3 ∨ m = 4 ∨ m = 5 ∨ m = 6 ∨ m = 7 ∨ m = 8 ∨ m = 9 ∨ m = 10 ∨ m = 11 ∨ m = 12 := by omega
theorem cum_succ (y m : Int) (h1 : 1 ≤ m) (h2 : m ≤ 12) : cum y (m + 1) = cum y m + dim y m := by
  rcases mon m h1 h2 with rfl | rfl | rfl | rfl | rfl | rfl | rfl | rfl | rfl | rfl | rfl | rfl <;> simp [cum, dim] <;> omega

theorem year_of (o B c r q doy : Int) (hc : 0 ≤ c ∧ c ≤ 3) (hr : 0 ≤ r ∧ r ≤ 3) (hq : 0 ≤ q ∧ q ≤ 24) (hB : B = 100 * c + 4 * q + r) (h0 : 0 ≤ doy) (h1 : doy ≤ 365)
    (hl : doy = 365 → r = 3 ∧ (q ≠ 24 ∨ c = 3)) (ho : o = 36524 * c + 1461 * q + 365 * r + doy) : (o - o / 1460 + o / 36524 - o / 146096) / 365 = B := by
  obtain ⟨hc0, hc3⟩ := hc
  obtain ⟨hr0, hr3⟩ := hr
  obtain ⟨hq0, hq24⟩ := hq
  by_cases hx : 1460 ≤ 24 * c + q + 365 * r + doy
  · have e1 : o / 1460 = 25 * c + q + 1 := by omega
    by_cases hl5 : q = 24 ∧ r = 3 ∧ doy = 365
    · obtain ⟨rfl, rfl, rfl⟩ := hl5
      have hc3' : c = 3 := by
        have := (hl rfl).2
        omega
      subst hc3'
      subst ho
      subst hB
      decide
    · have e2 : o / 36524 = c := by omega
      have e3 : o / 146096 = 0 := by omega
      rw [e1, e2, e3]
      have hr : r = 3 := by omega
      omega
  · have e1 : o / 1460 = 25 * c + q := by omega
    have h365 : doy ≠ 365 := by
      intro h
      have := (hl h).1
      omega
    have e2 : o / 36524 = c := by omega
    have e3 : o / 146096 = 0 := by omega
    rw [e1, e2, e3]
    omega

theorem tdiv_low (z : Int) (h : z < 0) : Int.tdiv (z - 146096) 146097 = z / 146097 := by
  rw [show z - 146096 = -(146096 - z) from by omega, Int.neg_tdiv, Int.tdiv_eq_ediv_of_nonneg (by omega)]
  omega

def dS6 (mp doy B E : Int) : Option (Int × Int × Int) := if mp < 10 then (some (wrap64 (B + (wrap64 (400 * E))), wrap64 (mp + 3), wrap64 ((wrap64 (doy - (wrap64 (Int.tdiv (wrap64 ((wrap64 (153 * mp)) + 2)) 5)))) + 1))) else (some (wrap64 ((wrap64 (B + (wrap64 (400 * E)))) + 1), wrap64 (mp - 9), wrap64 ((wrap64 (doy - (wrap64 (Int.tdiv (wrap64 ((wrap64 (153 * mp)) + 2)) 5)))) + 1)))
def dS5 (doy B E : Int) : Option (Int × Int × Int) := dS6 (wrap64 (Int.tdiv (wrap64 ((wrap64 (5 * doy)) + 2)) 153)) doy B E
def dS4 (B o E : Int) : Option (Int × Int × Int) := dS5 (wrap64 (o - (wrap64 ((wrap64 ((wrap64 (365 * B)) + (wrap64 (Int.tdiv B 4)))) - (wrap64 (Int.tdiv B 100)))))) B E
def dS3 (o E : Int) : Option (Int × Int × Int) := dS4 (wrap64 (Int.tdiv (wrap64 ((wrap64 ((wrap64 (o - (wrap64 (Int.tdiv o 1460)))) + (wrap64 (Int.tdiv o 36524)))) - (wrap64 (Int.tdiv o 146096)))) 365)) o E
def dS2 (z E : Int) : Option (Int × Int × Int) := dS3 (wrap64 (z - (wrap64 (146097 * E)))) E
def dS1 (z : Int) : Option (Int × Int × Int) := if z < 0 then dS2 z (wrap64 (Int.tdiv (wrap64 (z - 146096)) 146097)) else dS2 z (wrap64 (Int.tdiv z 146097))
theorem date_stages (a : Int) : list_date.f a = dS1 (wrap64 (a + 719468)) := rfl

theorem s6 (mp doy B E : Int) (hm0 : 0 ≤ mp) (hm1 : mp ≤ 20) (hd0 : 0 ≤ doy) (hd1 : doy ≤ 365) (hB0 : 0 ≤ B) (hB1 : B ≤ 399) (hE0 : -1000000 ≤ E) (hE1 : E ≤ 1000000) :
    dS6 mp doy B E = some (if mp < 10 then (B + 400 * E, mp + 3, doy - (153 * mp + 2) / 5 + 1) else (B + 400 * E + 1, mp - 9, doy - (153 * mp + 2) / 5 + 1)) := by
  unfold dS6
  rw [wrap_mid (x := 400 * E) (by omega) (by omega), wrap_mid (x := B + 400 * E) (by omega) (by omega), wrap_mid (x := 153 * mp) (by omega) (by omega), wrap_mid (x := 153 * mp + 2) (by omega) (by omega),
    Int.tdiv_eq_ediv_of_nonneg (a := 153 * mp + 2) (by omega), wrap_mid (x := (153 * mp + 2) / 5) (by omega) (by omega), wrap_mid (x := doy - (153 * mp + 2) / 5) (by omega) (by omega), wrap_mid (x := doy - (153 * mp + 2) / 5 + 1) (by omega) (by omega),
    wrap_mid (x := mp + 3) (by omega) (by omega), wrap_mid (x := mp - 9) (by omega) (by omega), wrap_mid (x := B + 400 * E + 1) (by omega) (by omega)]
  by_cases h : mp < 10
  · rw [if_pos h, if_pos h]
  · rw [if_neg h, if_neg h]
theorem s5 (doy B E : Int) (hd0 : 0 ≤ doy) (hd1 : doy ≤ 365) : dS5 doy B E = dS6 ((5 * doy + 2) / 153) doy B E := by
  unfold dS5
  rw [wrap_mid (x := 5 * doy) (by omega) (by omega), wrap_mid (x := 5 * doy + 2) (by omega) (by omega), Int.tdiv_eq_ediv_of_nonneg (by omega), wrap_mid (by omega) (by omega)]
theorem s4 (B o E : Int) (hB0 : 0 ≤ B) (hB1 : B ≤ 399) (ho0 : 0 ≤ o) (ho1 : o < 146097) : dS4 B o E = dS5 (o - (365 * B + B / 4 - B / 100)) B E := by
  unfold dS4
  rw [wrap_mid (x := 365 * B) (by omega) (by omega), Int.tdiv_eq_ediv_of_nonneg hB0, Int.tdiv_eq_ediv_of_nonneg hB0, wrap_mid (x := B / 4) (by omega) (by omega), wrap_mid (x := B / 100) (by omega) (by omega), wrap_mid (x := 365 * B + B / 4) (by omega) (by omega), wrap_mid (x := 365 * B + B / 4 - B / 100) (by omega) (by omega), wrap_mid (by omega) (by omega)]
theorem s3 (o E : Int) (ho0 : 0 ≤ o) (ho1 : o < 146097) : dS3 o E = dS4 ((o - o / 1460 + o / 36524 - o / 146096) / 365) o E := by
  unfold dS3
  have e : o / 1460 ≤ o := by omega
  obtain ⟨a, ha⟩ : ∃ a, a = o / 1460 := ⟨_, rfl⟩
  obtain ⟨b, hb⟩ : ∃ b, b = o / 36524 := ⟨_, rfl⟩
  obtain ⟨c, hc⟩ : ∃ c, c = o / 146096 := ⟨_, rfl⟩
  have hcb : c ≤ b := by omega
  rw [Int.tdiv_eq_ediv_of_nonneg ho0, Int.tdiv_eq_ediv_of_nonneg ho0, Int.tdiv_eq_ediv_of_nonneg ho0, ← ha, ← hb, ← hc]
  have ha0 : 0 ≤ a ∧ a ≤ o := by omega
  have hb0 : 0 ≤ b ∧ b ≤ o := by omega
  have hc0 : 0 ≤ c := by omega
  clear ha hb hc e
  rw [wrap_mid (x := a) (by omega) (by omega), wrap_mid (x := b) (by omega) (by omega), wrap_mid (x := c) (by omega) (by omega), wrap_mid (x := o - a) (by omega) (by omega), wrap_mid (x := o - a + b) (by omega) (by omega), wrap_mid (x := o - a + b - c) (by omega) (by omega), Int.tdiv_eq_ediv_of_nonneg (by omega), wrap_mid (by omega) (by omega)]
theorem s1 (z E o : Int) (hE0 : -1000000 ≤ E) (hE1 : E ≤ 1000000) (hz : z = 146097 * E + o) (ho0 : 0 ≤ o) (ho1 : o < 146097) : dS1 z = dS3 o E := by
  unfold dS1 dS2
  have f5 : wrap64 (146097 * E) = 146097 * E := wrap_mid (by omega) (by omega)
  have f6 : wrap64 (z - 146097 * E) = o := by rw [wrap_mid (by omega) (by omega)]; omega
  by_cases hneg : z < 0
  · rw [if_pos hneg, wrap_mid (x := z - 146096) (by omega) (by omega), tdiv_low z hneg, show z / 146097 = E from by omega, wrap_mid (x := E) (by omega) (by omega), f5, f6]
  · rw [if_neg hneg, Int.tdiv_eq_ediv_of_nonneg (by omega), show z / 146097 = E from by omega, wrap_mid (x := E) (by omega) (by omega), f5, f6]

theorem date_parts (a E o B doy mp : Int) (hE0 : -1000000 ≤ E) (hE1 : E ≤ 1000000) (hz : a + 719468 = 146097 * E + o) (ho0 : 0 ≤ o) (ho1 : o < 146097) (hB : (o - o / 1460 + o / 36524 - o / 146096) / 365 = B) (hB0 : 0 ≤ B) (hB1 : B ≤ 399)
    (hd : o - (365 * B + B / 4 - B / 100) = doy) (hd0 : 0 ≤ doy) (hd1 : doy ≤ 365) (hm : (5 * doy + 2) / 153 = mp) :
    list_date.f a = some (if mp < 10 then (B + 400 * E, mp + 3, doy - (153 * mp + 2) / 5 + 1) else (B + 400 * E + 1, mp - 9, doy - (153 * mp + 2) / 5 + 1)) := by
  rw [date_stages, wrap_mid (by omega) (by omega), s1 _ E o hE0 hE1 hz ho0 ho1, s3 o E ho0 ho1, hB, s4 B o E hB0 hB1 ho0 ho1, hd, s5 doy B E hd0 hd1, hm, s6 mp doy B E (by omega) (by omega) hd0 hd1 hB0 hB1 hE0 hE1]

set_option maxHeartbeats 1000000 in
/-- The year that begins in March: as of the program. -/
theorem march (a R y doy mp A : Int) (hR0 : -1000 ≤ R) (hR1 : R ≤ 1000) (hA0 : 1969 ≤ A) (hA1 : A ≤ 2369) (hd0 : 0 ≤ doy) (hd1 : doy ≤ 365) (hl : doy = 365 → lp (A + 1) = 1)
    (ha : a + 719468 = 146097 * R + (365 * A + A / 4 - A / 100 + A / 400) + doy) (hm : (5 * doy + 2) / 153 = mp) (hy : y = A) :
    list_date.f a = some (if mp < 10 then (y + 400 * R, mp + 3, doy - (153 * mp + 2) / 5 + 1) else (y + 400 * R + 1, mp - 9, doy - (153 * mp + 2) / 5 + 1)) := by
  subst hy
  obtain ⟨Q, hQ⟩ : ∃ Q, Q = y / 400 := ⟨_, rfl⟩
  obtain ⟨B, hB⟩ : ∃ B, B = y % 400 := ⟨_, rfl⟩
  obtain ⟨c, hc⟩ : ∃ c, c = B / 100 := ⟨_, rfl⟩
  obtain ⟨q, hq⟩ : ∃ q, q = B % 100 / 4 := ⟨_, rfl⟩
  obtain ⟨r, hr⟩ : ∃ r, r = B % 4 := ⟨_, rfl⟩
  have hBc : B = 100 * c + 4 * q + r := by omega
  have hl2 : doy = 365 → r = 3 ∧ (q ≠ 24 ∨ c = 3) := by
    intro h
    obtain ⟨h4, h5⟩ := lp_one _ (hl h)
    refine ⟨by omega, ?_⟩
    rcases h5 with h5 | h5
    · left; omega
    · right; omega
  obtain ⟨o, ho⟩ : ∃ o, o = 36524 * c + 1461 * q + 365 * r + doy := ⟨_, rfl⟩
  have hyo := year_of o B c r q doy ⟨by omega, by omega⟩ ⟨by omega, by omega⟩ ⟨by omega, by omega⟩ hBc hd0 hd1 hl2 ho
  have hoo : o = 365 * B + B / 4 - B / 100 + doy := by omega
  have ho2 : o < 146097 := by
    by_cases h : doy = 365
    · obtain ⟨h3, h4⟩ := hl2 h
      omega
    · omega
  have u1 : y / 4 = 100 * Q + B / 4 := by omega
  have u2 : y / 100 = 4 * Q + B / 100 := by omega
  have u3 : a + 719468 = 146097 * (R + Q) + o := by clear hyo; omega
  rw [date_parts a (R + Q) o B doy mp (by omega) (by omega) u3 (by omega) ho2 hyo (by omega) (by omega) (by omega) hd0 hd1 hm]
  have e : B + 400 * (R + Q) = y + 400 * R := by omega
  rw [e]

theorem trip {a a' b b' c c' : Int} (h : a = a') (k : b = b') (l : c = c') : some (a, b, c) = some (a', b', c') := by rw [h, k, l]
set_option maxHeartbeats 4000000 in
theorem date_is (a R y m e : Int) (hR0 : -1000 ≤ R) (hR1 : R ≤ 1000) (hy0 : 1970 ≤ y) (hy1 : y ≤ 2369) (hm0 : 1 ≤ m) (hm1 : m ≤ 12) (he0 : 0 ≤ e) (he1 : e < dim y m) (ha : a = 146097 * R + ny y + cum y m + e) :
    list_date.f a = some (y + 400 * R, m, e + 1) := by
  have hL := lp_01 y
  have hL2 := lp_is y
  unfold ny at ha
  rcases mon m hm0 hm1 with rfl | rfl | rfl | rfl | rfl | rfl | rfl | rfl | rfl | rfl | rfl | rfl
  · simp [dim] at he1; simp [cum] at ha
    rw [march a R (y - 1) (306 + e) 10 (y - 1) hR0 hR1 (by omega) (by omega) (by omega) (by omega) (by omega) (by omega) (by omega) rfl, if_neg (by omega)]
    exact trip (by omega) (by omega) (by omega)
  · simp [dim] at he1; simp [cum] at ha
    rw [march a R (y - 1) (337 + e) 11 (y - 1) hR0 hR1 (by omega) (by omega) (by omega) (by omega) (by rw [show y - 1 + 1 = y from by omega]; omega) (by omega) (by omega) rfl, if_neg (by omega)]
    exact trip (by omega) (by omega) (by omega)
  · simp [dim] at he1; simp [cum] at ha
    rw [march a R y e 0 y hR0 hR1 (by omega) (by omega) (by omega) (by omega) (by omega) (by omega) (by omega) rfl, if_pos (by omega)]
    exact trip (by omega) (by omega) (by omega)
  · simp [dim] at he1; simp [cum] at ha
    rw [march a R y (31 + e) 1 y hR0 hR1 (by omega) (by omega) (by omega) (by omega) (by omega) (by omega) (by omega) rfl, if_pos (by omega)]
    exact trip (by omega) (by omega) (by omega)
  · simp [dim] at he1; simp [cum] at ha
    rw [march a R y (61 + e) 2 y hR0 hR1 (by omega) (by omega) (by omega) (by omega) (by omega) (by omega) (by omega) rfl, if_pos (by omega)]
    exact trip (by omega) (by omega) (by omega)
  · simp [dim] at he1; simp [cum] at ha
    rw [march a R y (92 + e) 3 y hR0 hR1 (by omega) (by omega) (by omega) (by omega) (by omega) (by omega) (by omega) rfl, if_pos (by omega)]
    exact trip (by omega) (by omega) (by omega)
  · simp [dim] at he1; simp [cum] at ha
    rw [march a R y (122 + e) 4 y hR0 hR1 (by omega) (by omega) (by omega) (by omega) (by omega) (by omega) (by omega) rfl, if_pos (by omega)]
    exact trip (by omega) (by omega) (by omega)
  · simp [dim] at he1; simp [cum] at ha
    rw [march a R y (153 + e) 5 y hR0 hR1 (by omega) (by omega) (by omega) (by omega) (by omega) (by omega) (by omega) rfl, if_pos (by omega)]
    exact trip (by omega) (by omega) (by omega)
  · simp [dim] at he1; simp [cum] at ha
    rw [march a R y (184 + e) 6 y hR0 hR1 (by omega) (by omega) (by omega) (by omega) (by omega) (by omega) (by omega) rfl, if_pos (by omega)]
    exact trip (by omega) (by omega) (by omega)
  · simp [dim] at he1; simp [cum] at ha
    rw [march a R y (214 + e) 7 y hR0 hR1 (by omega) (by omega) (by omega) (by omega) (by omega) (by omega) (by omega) rfl, if_pos (by omega)]
    exact trip (by omega) (by omega) (by omega)
  · simp [dim] at he1; simp [cum] at ha
    rw [march a R y (245 + e) 8 y hR0 hR1 (by omega) (by omega) (by omega) (by omega) (by omega) (by omega) (by omega) rfl, if_pos (by omega)]
    exact trip (by omega) (by omega) (by omega)
  · simp [dim] at he1; simp [cum] at ha
    rw [march a R y (275 + e) 9 y hR0 hR1 (by omega) (by omega) (by omega) (by omega) (by omega) (by omega) (by omega) rfl, if_pos (by omega)]
    exact trip (by omega) (by omega) (by omega)

theorem leap_is (y : Int) (h : 0 ≤ y) : creelref_leap.f y = some (decide (lp y = 1)) := by
  unfold creelref_leap.f lp
  rw [Int.tmod_eq_emod_of_nonneg h, Int.tmod_eq_emod_of_nonneg h, Int.tmod_eq_emod_of_nonneg h]
  by_cases h4 : y % 4 = 0
  · rw [if_pos h4, if_pos h4]
    by_cases h100 : y % 100 = 0
    · rw [if_pos h100, if_pos h100]
      by_cases h400 : y % 400 = 0
      · rw [if_pos h400, h400]; rfl
      · rw [if_neg h400, show ((y % 400 == 0) = false) from beq_eq_false_iff_ne.mpr h400]; rfl
    · rw [if_neg h100, if_neg h100]; rfl
  · rw [if_neg h4, if_neg h4]; rfl

theorem months (R y : Int) (hy : 0 ≤ y) (hy1 : y ≤ 100000) (hR0 : -1000 ≤ R) (hR1 : R ≤ 1000) (d : Nat) : ∀ (k : Nat) (x m : Int), 1 ≤ m → m ≤ 13 → 13 - m = d → 2 * d + 3 ≤ k → 0 ≤ x → x + cum y m < 365 + lp y →
    ∃ m' e, 1 ≤ m' ∧ m' ≤ 12 ∧ 0 ≤ e ∧ e < dim y m' ∧ cum y m' + e = cum y m + x ∧ creelref_DayOf.l1 k x R y m = some (y + 400 * R, m', e + 1, 0) := by
  have hL := lp_01 y
  induction d with
  | zero =>
    intro k x m h0 h1 hd hk hx hc
    obtain rfl : m = 13 := by omega
    simp [cum] at hc; omega
  | succ d ih =>
    intro k x m h0 h1 hd hk hx hc
    obtain ⟨k, rfl⟩ : ∃ j, k = j + 2 := ⟨k - 2, by omega⟩
    have hm12 : m ≤ 12 := by omega
    have hcs := cum_succ y m h0 hm12
    have wR : wrap64 (400 * R) = 400 * R := wrap_mid (by omega) (by omega)
    have wy : wrap64 (y + 400 * R) = y + 400 * R := wrap_mid (by omega) (by omega)
    have wm : wrap64 (m - 1) = m - 1 := wrap_mid (by omega) (by omega)
    have wm1 : wrap64 (m + 1) = m + 1 := wrap_mid (by omega) (by omega)
    have hcm : 0 ≤ cum y m ∧ cum y m ≤ 400 := by
      rcases mon m h0 hm12 with rfl | rfl | rfl | rfl | rfl | rfl | rfl | rfl | rfl | rfl | rfl | rfl <;> simp [cum] <;> omega
    have hdim : dim y m ≤ 31 ∧ 28 ≤ dim y m := by unfold dim; split <;> (try split) <;> (try split) <;> (try split) <;> (try split) <;> omega
    have wx : wrap64 (x + 1) = x + 1 := wrap_mid (by omega) (by omega)
    have key : ∃ (n : Int) (b : Bool), (if b = true then 29 else n) = dim y m ∧ creelref_DayOf.l1 (k + 2) x R y m = creelref_DayOf.j5 (k + 1) x R y m n b := by
      have hl := leap_is y hy
      simp only [creelref_DayOf.l1, Option.bind_some, wm]
      rcases mon m h0 hm12 with rfl | rfl | rfl | rfl | rfl | rfl | rfl | rfl | rfl | rfl | rfl | rfl
      · refine ⟨31, false, by simp [dim], ?_⟩; rw [if_pos (by decide), if_pos (by decide), if_neg (by decide)]; rfl
      · refine ⟨28, decide (lp y = 1), by rcases hL with h | h <;> simp [dim, h], ?_⟩; rw [if_pos (by decide), if_pos (by decide), if_pos rfl, hl]; rfl
      · refine ⟨31, false, by simp [dim], ?_⟩; rw [if_pos (by decide), if_pos (by decide), if_neg (by decide)]; rfl
      · refine ⟨30, false, by simp [dim], ?_⟩; rw [if_pos (by decide), if_pos (by decide), if_neg (by decide)]; rfl
      · refine ⟨31, false, by simp [dim], ?_⟩; rw [if_pos (by decide), if_pos (by decide), if_neg (by decide)]; rfl
      · refine ⟨30, false, by simp [dim], ?_⟩; rw [if_pos (by decide), if_pos (by decide), if_neg (by decide)]; rfl
      · refine ⟨31, false, by simp [dim], ?_⟩; rw [if_pos (by decide), if_pos (by decide), if_neg (by decide)]; rfl
      · refine ⟨31, false, by simp [dim], ?_⟩; rw [if_pos (by decide), if_pos (by decide), if_neg (by decide)]; rfl
      · refine ⟨30, false, by simp [dim], ?_⟩; rw [if_pos (by decide), if_pos (by decide), if_neg (by decide)]; rfl
      · refine ⟨31, false, by simp [dim], ?_⟩; rw [if_pos (by decide), if_pos (by decide), if_neg (by decide)]; rfl
      · refine ⟨30, false, by simp [dim], ?_⟩; rw [if_pos (by decide), if_pos (by decide), if_neg (by decide)]; rfl
      · refine ⟨31, false, by simp [dim], ?_⟩; rw [if_pos (by decide), if_pos (by decide), if_neg (by decide)]; rfl
    obtain ⟨n, b, hn, hk1⟩ := key
    rw [hk1]
    by_cases hlt : x < dim y m
    · refine ⟨m, x, h0, hm12, hx, hlt, rfl, ?_⟩
      simp only [creelref_DayOf.j5, wR, wy, wx]
      cases b with
      | true => simp only [if_true] at hn ⊢; rw [if_pos (by omega)]
      | false => rw [if_neg (by simp)] at hn ⊢; rw [if_pos (by omega)]
    · obtain ⟨m', e, g1, g2, g3, g4, g5, g6⟩ := ih k (x - dim y m) (m + 1) (by omega) (by omega) (by omega) (by omega) (by omega) (by omega)
      refine ⟨m', e, g1, g2, g3, g4, by omega, ?_⟩
      have wd : wrap64 (x - dim y m) = x - dim y m := wrap_mid (by omega) (by omega)
      simp only [creelref_DayOf.j5, wR, wy, wx, wm1]
      cases b with
      | true => simp only [if_true] at hn ⊢; rw [if_neg (by omega), hn, wd]; exact g6
      | false => rw [if_neg (by simp)] at hn ⊢; rw [if_neg (by omega), hn, wd]; exact g6

theorem years (R D : Int) (hD : D < 146097) (hR0 : -1000 ≤ R) (hR1 : R ≤ 1000) (d : Nat) : ∀ (k : Nat) (x y : Int), 1970 ≤ y → y ≤ 2370 → 2370 - y = d → 2 * d + 40 ≤ k → 0 ≤ x → x + ny y = D →
    ∃ y' m' e, 1970 ≤ y' ∧ y' ≤ 2369 ∧ 1 ≤ m' ∧ m' ≤ 12 ∧ 0 ≤ e ∧ e < dim y' m' ∧ ny y' + cum y' m' + e = D ∧ creelref_DayOf.l0 k x R y = some (y' + 400 * R, m', e + 1, 0) := by
  induction d with
  | zero =>
    intro k x y h0 h1 hd hk hx hN
    obtain rfl : y = 2370 := by omega
    simp [ny] at hN; omega
  | succ d ih =>
    intro k x y h0 h1 hd hk hx hN
    obtain ⟨k, rfl⟩ : ∃ j, k = j + 2 := ⟨k - 2, by omega⟩
    have hL := lp_01 y
    have hs := ny_succ y
    have w1 : wrap64 (y + 1) = y + 1 := wrap_mid (by omega) (by omega)
    have hnb : -10 ≤ ny y := by unfold ny; omega
    have w2 : wrap64 (x - 366) = x - 366 := wrap_mid (by omega) (by omega)
    have w3 : wrap64 (x - 365) = x - 365 := wrap_mid (by omega) (by omega)
    by_cases hlt : x < 365 + lp y
    · obtain ⟨m', e, g1, g2, g3, g4, g5, g6⟩ := months R y (by omega) (by omega) hR0 hR1 12 k x 1 (by omega) (by omega) (by omega) (by omega) hx (by simp [cum]; omega)
      simp [cum] at g5
      refine ⟨y, m', e, h0, by omega, g1, g2, g3, g4, by simp [cum]; omega, ?_⟩
      have g7 : creelref_DayOf.l0 (k + 2) x R y = creelref_DayOf.j3 (k + 1) x R y := by
        simp only [creelref_DayOf.l0]
        rw [leap_is y (by omega)]; simp only [Option.bind_some]
        rcases hL with h | h
        · rw [if_neg (by simp [h]), if_pos (by omega)]
        · rw [if_pos (by simp [h]), if_pos (by omega)]
      rw [g7]; simp only [creelref_DayOf.j3]; exact g6
    · have hy : y ≠ 2369 := by rintro rfl; simp [ny, lp] at hN hlt; omega
      obtain ⟨y', m', e, g1, g2, g3, g4, g5, g6, g7, g8⟩ := ih (k + 1) (x - 365 - lp y) (y + 1) (by omega) (by omega) (by omega) (by omega) (by omega) (by omega)
      refine ⟨y', m', e, g1, g2, g3, g4, g5, g6, g7, ?_⟩
      rw [← g8]; simp only [creelref_DayOf.l0]
      rw [leap_is y (by omega)]; simp only [Option.bind_some, w1]
      rcases hL with h | h
      · rw [if_neg (by simp [h]), if_neg (by omega), w3, h]; simp only [Int.sub_zero]
      · rw [if_pos (by simp [h]), if_neg (by omega), w2, h, show x - 365 - 1 = x - 366 from by omega]

theorem round_is (s : Int) (h0 : -1099511627776 ≤ s) (h1 : s ≤ 1099511627776) : wrap64 (Int.tdiv (wrap64 (s - (Int.tmod (wrap64 ((Int.tmod s 86400) + 86400)) 86400))) 86400) = s / 86400 := by
  have hm : Int.tmod (wrap64 ((Int.tmod s 86400) + 86400)) 86400 = s % 86400 := by
    by_cases h : 0 ≤ s
    · rw [Int.tmod_eq_emod_of_nonneg h, wrap_mid (by omega) (by omega), Int.tmod_eq_emod_of_nonneg (by omega)]; omega
    · have e : Int.tmod s 86400 = -((-s) % 86400) := by
        have := Int.neg_tmod (-s) 86400
        rw [Int.neg_neg] at this
        rw [this, Int.tmod_eq_emod_of_nonneg (by omega)]
      rw [e, wrap_mid (by omega) (by omega), Int.tmod_eq_emod_of_nonneg (by omega)]; omega
  rw [hm, wrap_mid (x := s - s % 86400) (by omega) (by omega)]
  by_cases h : 0 ≤ s
  · rw [Int.tdiv_eq_ediv_of_nonneg (by omega), wrap_mid (by omega) (by omega)]; omega
  · rw [show s - s % 86400 = -(s % 86400 - s) from by omega, Int.neg_tdiv, Int.tdiv_eq_ediv_of_nonneg (by omega), wrap_mid (by omega) (by omega)]; omega

theorem day_low (s : Int) (h0 : -1099511627776 ≤ s) (h1 : s ≤ 1099511627776) :
    (if (Int.tmod s 86400) < 0 then (wrap64 ((wrap64 (Int.tdiv s 86400)) - 1)) else (wrap64 (Int.tdiv s 86400))) = s / 86400 := by
  by_cases h : 0 ≤ s
  · rw [Int.tmod_eq_emod_of_nonneg h, if_neg (by omega), Int.tdiv_eq_ediv_of_nonneg h, wrap_mid (by omega) (by omega)]
  · have e : Int.tmod s 86400 = -((-s) % 86400) := by
      have := Int.neg_tmod (-s) 86400
      rw [Int.neg_neg] at this
      rw [this, Int.tmod_eq_emod_of_nonneg (by omega)]
    have e2 : Int.tdiv s 86400 = -((-s) / 86400) := by
      have := Int.neg_tdiv (-s) 86400
      rw [Int.neg_neg] at this
      rw [this, Int.tdiv_eq_ediv_of_nonneg (by omega)]
    rw [e, e2, wrap_mid (x := -((-s) / 86400)) (by omega) (by omega)]
    by_cases c : -((-s) % 86400) < 0
    · rw [if_pos c, wrap_mid (by omega) (by omega)]; omega
    · rw [if_neg c]; omega

theorem era_low (q : Int) (h0 : -20000000 ≤ q) (h1 : q ≤ 20000000) :
    (if (Int.tmod q 146097) < 0 then (wrap64 ((wrap64 (Int.tdiv q 146097)) - 1)) else (wrap64 (Int.tdiv q 146097))) = q / 146097 := by
  by_cases h : 0 ≤ q
  · rw [Int.tmod_eq_emod_of_nonneg h, if_neg (by omega), Int.tdiv_eq_ediv_of_nonneg h, wrap_mid (by omega) (by omega)]
  · have e : Int.tmod q 146097 = -((-q) % 146097) := by
      have := Int.neg_tmod (-q) 146097
      rw [Int.neg_neg] at this
      rw [this, Int.tmod_eq_emod_of_nonneg (by omega)]
    have e2 : Int.tdiv q 146097 = -((-q) / 146097) := by
      have := Int.neg_tdiv (-q) 146097
      rw [Int.neg_neg] at this
      rw [this, Int.tdiv_eq_ediv_of_nonneg (by omega)]
    rw [e, e2, wrap_mid (x := -((-q) / 146097)) (by omega) (by omega)]
    by_cases c : -((-q) % 146097) < 0
    · rw [if_pos c, wrap_mid (by omega) (by omega)]; omega
    · rw [if_neg c]; omega

theorem ListDays : creellaw_ListDays.Pure := by
  intro s _
  refine ⟨1000, ?_⟩
  by_cases c : -1099511627776 ≤ s ∧ s ≤ 1099511627776
  · obtain ⟨h0, h1⟩ := c
    obtain ⟨q, hq⟩ : ∃ q, q = s / 86400 := ⟨_, rfl⟩
    obtain ⟨R, hR⟩ : ∃ R, R = q / 146097 := ⟨_, rfl⟩
    obtain ⟨y, m, e, g1, g2, g3, g4, g5, g6, g7, g8⟩ := years R (q - 146097 * R) (by omega) (by omega) (by omega) 400 998 (q - 146097 * R) 1970 (by omega) (by omega) (by omega) (by omega) (by omega) (by simp [ny])
    have hdate := date_is q R y m e (by omega) (by omega) g1 g2 g3 g4 g5 g6 (by omega)
    have hdl := day_low s h0 h1
    have hel := era_low q (by omega) (by omega)
    have e1 : list_Day.f 1000 s = some (y + 400 * R, m, e + 1, 0) := by
      unfold list_Day.f
      rw [if_neg (by omega), decide_eq_false (show ¬ s > 1099511627776 by omega)]
      simp only [list_Day.j0]
      rw [if_neg (by simp)]
      by_cases cz : Int.tmod s 86400 < 0
      · rw [if_pos cz] at hdl ⊢; rw [hdl, ← hq, hdate]; rfl
      · rw [if_neg cz] at hdl ⊢; rw [hdl, ← hq, hdate]; rfl
    have e2 : creelref_DayOf.f 1000 s = some (y + 400 * R, m, e + 1, 0) := by
      unfold creelref_DayOf.f
      rw [if_neg (by omega), decide_eq_false (show ¬ s > 1099511627776 by omega)]
      simp only [creelref_DayOf.j0]
      rw [if_neg (by simp), round_is s h0 h1, ← hq]
      have wa : wrap64 (146097 * R) = 146097 * R := wrap_mid (by omega) (by omega)
      have wb : wrap64 (q - 146097 * R) = q - 146097 * R := wrap_mid (by omega) (by omega)
      by_cases cz : Int.tmod q 146097 < 0
      · rw [if_pos cz] at hel ⊢; rw [hel, ← hR]; simp only [creelref_DayOf.j1]; rw [wa, wb]; exact g8
      · rw [if_neg cz] at hel ⊢; rw [hel, ← hR]; simp only [creelref_DayOf.j1]; rw [wa, wb]; exact g8
    unfold creellaw_ListDays.f
    rw [e1, e2]; simp
  · have e1 : list_Day.f 1000 s = some (0, 0, 0, 4) := by
      unfold list_Day.f
      by_cases cz : s < -1099511627776
      · rw [if_pos cz]; rfl
      · rw [if_neg cz, decide_eq_true (show s > 1099511627776 by omega)]; rfl
    have e2 : creelref_DayOf.f 1000 s = some (0, 0, 0, 4) := by
      unfold creelref_DayOf.f
      by_cases cz : s < -1099511627776
      · rw [if_pos cz]; rfl
      · rw [if_neg cz, decide_eq_true (show s > 1099511627776 by omega)]; rfl
    unfold creellaw_ListDays.f
    rw [e1, e2]; simp

end Go.Proofs.Ytpokjdkckdajeaa.Pure
