/- record.Read and the reference's RecordOf read the same. Condition: a text that a row admits. -/
import Derived.Test.YtmeffcjjfiebdaaDoorWPureBase
import Derived.Test.YtmeffcjjfiebdaaDoorFRecordRead
import Derived.Test.YtmeffcjjfiebdaaDoorFJoined
import Derived.Test.YtmeffcjjfiebdaaDoorFCreelrefRecordOf
import Derived.Test.YtmeffcjjfiebdaaDoorFRecordCheck
import Derived.Test.YtmeffcjjfiebdaaDoorFRecordWrite
import Derived.Test.YtmeffcjjfiebdaaDoorFCreelrefRecordFault
import Derived.Test.YtmeffcjjfiebdaaDoorFCreelrefRecordText
import Derived.Test.YtmeffcjjfiebdaaDoorQDigits
import Derived.Test.YtmeffcjjfiebdaaDoorQCutB
import Derived.Test.YtmeffcjjfiebdaaDoorQRecord
namespace Go.Proofs.YtmeffcjjfiebdaaDoor.Q
set_option linter.unusedVariables false
set_option linter.unusedSimpArgs false
open Go.RowKit Go.Proofs.YtmeffcjjfiebdaaDoor.All Go.Proofs.YtmeffcjjfiebdaaDoorW.PrintWords Go.Proofs.YtmeffcjjfiebdaaDoorW.PrintLast Go.Proofs.YtmeffcjjfiebdaaDoorW.PrintMore Go.Proofs.YtmeffcjjfiebdaaDoorW.PureBase

-- USES Digits CutB Record
-- FN record_Read record_Read_1 creelref_RecordOf creelref_RecordOf_1 record_Check record_Write creelref_RecordFault creelref_RecordText strings_Cut strings_Trim strconv_Atoi_65
/-- Is a byte a digit? -/
def isD (c : UInt8) : Bool := decide (48 ≤ c.toNat ∧ c.toNat ≤ 57)
/-- The value of digits, behind a number. -/
def val (n : Nat) (l : List UInt8) : Nat := l.foldl (fun n c => 10 * n + (c.toNat - 48)) n
theorem val_cons (n : Nat) (c : UInt8) (l : List UInt8) : val n (c :: l) = val (10 * n + (c.toNat - 48)) l := by unfold val; rw [List.foldl_cons]
theorem val_lt (l : List UInt8) (hl : ∀ c ∈ l, isD c = true) : ∀ n, val n l < (n + 1) * 10 ^ l.length := by
  induction l with
  | nil => intro n; show n < (n + 1) * 10 ^ 0; omega
  | cons c l ih =>
    intro n
    have hc := of_decide_eq_true (hl c (List.mem_cons_self ..))
    have := ih (fun x hx => hl x (List.mem_cons_of_mem _ hx)) (10 * n + (c.toNat - 48))
    rw [val_cons]
    refine Nat.lt_of_lt_of_le this ?_
    rw [List.length_cons, Nat.pow_succ]
    calc (10 * n + (c.toNat - 48) + 1) * 10 ^ l.length ≤ (10 * (n + 1)) * 10 ^ l.length := Nat.mul_le_mul_right _ (by omega)
      _ = (n + 1) * (10 ^ l.length * 10) := by rw [Nat.mul_comm 10 (n + 1), Nat.mul_assoc, Nat.mul_comm 10]
theorem dec_val (l : List UInt8) (hl : ∀ c ∈ l, isD c = true) : ∀ n, Lib.decFrom n l = some (val n l) := by
  induction l with
  | nil => intro n; rfl
  | cons c l ih =>
    intro n
    have hc := of_decide_eq_true (hl c (List.mem_cons_self ..))
    have hd : Lib.digitVal c = some (c.toNat - 48) := if_pos hc
    rw [Lib.decFrom, hd, val_cons]
    simp only
    rw [ih (fun x hx => hl x (List.mem_cons_of_mem _ hx)), Nat.mul_comm n 10]
theorem atoi_D (c : UInt8) (l : List UInt8) (hl : ∀ x ∈ c :: l, isD x = true) : Lib.atoi (c :: l) = some (val 0 (c :: l) : Int) := by
  have hc := of_decide_eq_true (hl c (List.mem_cons_self ..))
  have h1 : (c == 45) = false := by
    refine beq_eq_false_iff_ne.2 fun e => ?_
    rw [e] at hc
    exact absurd hc.1 (by decide)
  have h2 : (c == 43) = false := by
    refine beq_eq_false_iff_ne.2 fun e => ?_
    rw [e] at hc
    exact absurd hc.1 (by decide)
  have h3 : Lib.decNat (c :: l) = some (val 0 (c :: l)) := by
    unfold Lib.decNat
    rw [if_neg (by simp), dec_val _ hl]
  rw [Lib.atoi, h1, h2, h3]
  rfl
theorem dw_nil {p : UInt8 → Bool} : ∀ {l : List UInt8}, l.dropWhile p = [] → ∀ c ∈ l, p c = true
  | [], _, c, hc => by simp at hc
  | a :: l, h, c, hc => by
    rw [List.dropWhile_cons] at h
    by_cases ha : p a = true
    · rw [if_pos ha] at h
      rcases List.mem_cons.1 hc with rfl | hc
      · exact ha
      · exact dw_nil h c hc
    · rw [if_neg ha] at h
      exact absurd h (by simp)
theorem dw_all {p : UInt8 → Bool} : ∀ {l : List UInt8}, (∀ c ∈ l, p c = true) → l.dropWhile p = []
  | [], _ => rfl
  | a :: l, h => by
    rw [List.dropWhile_cons, if_pos (h a (List.mem_cons_self ..))]
    exact dw_all fun c hc => h c (List.mem_cons_of_mem _ hc)
theorem tw_all {p : UInt8 → Bool} : ∀ {l : List UInt8} (c : UInt8), c ∈ l.takeWhile p → p c = true
  | [], c, hc => by simp at hc
  | a :: l, c, hc => by
    rw [List.takeWhile_cons] at hc
    by_cases ha : p a = true
    · rw [if_pos ha] at hc
      rcases List.mem_cons.1 hc with rfl | hc
      · exact ha
      · exact tw_all c hc
    · rw [if_neg ha] at hc
      exact absurd hc (by simp)
theorem set_D (c : UInt8) : ([48, 49, 50, 51, 52, 53, 54, 55, 56, 57] : List UInt8).contains c = isD c := by
  unfold isD
  rw [Bool.eq_iff_iff, decide_eq_true_iff]
  simp only [List.contains_cons, List.contains_nil, Bool.or_false, Bool.or_eq_true, beq_iff_eq]
  constructor
  · rintro (rfl | rfl | rfl | rfl | rfl | rfl | rfl | rfl | rfl | rfl) <;> decide
  · rintro ⟨h1, h2⟩
    have h : c.toNat = 48 ∨ c.toNat = 49 ∨ c.toNat = 50 ∨ c.toNat = 51 ∨ c.toNat = 52 ∨ c.toNat = 53 ∨ c.toNat = 54 ∨ c.toNat = 55 ∨ c.toNat = 56 ∨ c.toNat = 57 := by omega
    rcases h with h | h | h | h | h | h | h | h | h | h
    · exact .inl (UInt8.toNat_inj.1 h)
    · exact .inr (.inl (UInt8.toNat_inj.1 h))
    · exact .inr (.inr (.inl (UInt8.toNat_inj.1 h)))
    · exact .inr (.inr (.inr (.inl (UInt8.toNat_inj.1 h))))
    · exact .inr (.inr (.inr (.inr (.inl (UInt8.toNat_inj.1 h)))))
    · exact .inr (.inr (.inr (.inr (.inr (.inl (UInt8.toNat_inj.1 h))))))
    · exact .inr (.inr (.inr (.inr (.inr (.inr (.inl (UInt8.toNat_inj.1 h)))))))
    · exact .inr (.inr (.inr (.inr (.inr (.inr (.inr (.inl (UInt8.toNat_inj.1 h))))))))
    · exact .inr (.inr (.inr (.inr (.inr (.inr (.inr (.inr (.inl (UInt8.toNat_inj.1 h)))))))))
    · exact .inr (.inr (.inr (.inr (.inr (.inr (.inr (.inr (.inr (UInt8.toNat_inj.1 h)))))))))
/-- strings.Trim by all digits: nothing is left just if all are digits. -/
theorem trim_D (l : List UInt8) : ∃ t, strings_Trim.f (tx l) (⟨#[48, 49, 50, 51, 52, 53, 54, 55, 56, 57]⟩ : ByteArray) = (if l.length ≤ 9223372036854775807 then some t else none) ∧ (t.toList = ([] : List UInt8) ↔ ∀ c ∈ l, isD c = true) := by
  refine ⟨⟨(Lib.trimS l [48, 49, 50, 51, 52, 53, 54, 55, 56, 57]).toArray⟩, ?_, ?_⟩
  · have : strings_Trim.f (tx l) (⟨#[48, 49, 50, 51, 52, 53, 54, 55, 56, 57]⟩ : ByteArray) = (if ([48, 49, 50, 51, 52, 53, 54, 55, 56, 57] : List UInt8).all (fun b => decide (b.toNat < 128)) = true ∧ ([48, 49, 50, 51, 52, 53, 54, 55, 56, 57] : List UInt8).length < 4294967281 ∧ (tx l).size ≤ 9223372036854775807 then some (⟨(Lib.trimS (tx l).data.toList [48, 49, 50, 51, 52, 53, 54, 55, 56, 57]).toArray⟩ : ByteArray) else none) := rfl
    rw [this, tx_data]
    by_cases h : l.length ≤ 9223372036854775807
    · rw [if_pos h, if_pos ⟨by decide, by decide, by rw [tx_size]; exact h⟩]
    · rw [if_neg h, if_neg (fun h' => h (by have := h'.2.2; rwa [tx_size] at this))]
  · rw [toList_data]
    show Lib.trimS l _ = [] ↔ _
    have hp : (fun c => ([48, 49, 50, 51, 52, 53, 54, 55, 56, 57] : List UInt8).contains c) = isD := by funext c; exact set_D c
    unfold Lib.trimS Lib.trimLeftS Lib.trimRightS
    rw [hp]
    constructor
    · intro h c hc
      have h1 := dw_nil h
      by_cases he : l.reverse.dropWhile isD = []
      · exact dw_nil he c (List.mem_reverse.2 hc)
      · obtain ⟨x, xs, hx⟩ := List.exists_cons_of_ne_nil he
        have hx0 := List.head_dropWhile_not isD he
        have hm : isD x = true := h1 x (by rw [hx]; simp)
        simp only [hx, List.head_cons] at hx0
        rw [hm] at hx0
        cases hx0
    · intro h
      have : l.reverse.dropWhile isD = [] := dw_all fun c hc => h c (List.mem_reverse.1 hc)
      rw [this]; rfl
def form : ByteArray × ByteArray × ByteArray × Int := ((⟨#[]⟩ : ByteArray), (⟨#[]⟩ : ByteArray), (⟨#[]⟩ : ByteArray), 3)
/-- The text begins with a number, and a blank. -/
def Begins (l D R : List UInt8) : Prop := l = D ++ 32 :: R ∧ 1 ≤ D.length ∧ D.length ≤ 4 ∧ (∀ c ∈ D, isD c = true) ∧ D.head? ≠ some 48
/-- What follows it. -/
def after (s : ByteArray) (D R : List UInt8) (n : Nat) : ByteArray × ByteArray × ByteArray × Int :=
  if s.size < n then ((⟨#[]⟩ : ByteArray), (⟨#[]⟩ : ByteArray), (⟨#[]⟩ : ByteArray), 7) else
  if n ≤ D.length + 1 then form else
  if s.data.toList[n - 1]? ≠ some 10 then form else
  if 0 ≤ Lib.indexByte ((s.data.toList.take (n - 1)).drop (D.length + 1)) 61 then
    (let mid := (s.data.toList.take (n - 1)).drop (D.length + 1)
     let o := (Lib.indexByte mid 61).toNat
     let r := rt (tx (mid.take o)) (tx (mid.drop (o + 1)))
     if r.2 = 0 then (if r.1.data.toList = s.data.toList.take n then (tx (mid.take o), tx (mid.drop (o + 1)), tx (s.data.toList.drop n), 0) else form)
     else ((⟨#[]⟩ : ByteArray), (⟨#[]⟩ : ByteArray), (⟨#[]⟩ : ByteArray), r.2))
  else form
theorem D_no32 (D : List UInt8) (h : ∀ c ∈ D, isD c = true) : (32 : UInt8) ∉ D := fun hm => absurd (h _ hm) (by decide)
theorem no_f (e : Int) : record_Read_1.f e = some ((⟨#[]⟩ : ByteArray), (⟨#[]⟩ : ByteArray), (⟨#[]⟩ : ByteArray), e) := rfl
theorem noR_f (e : Int) : creelref_RecordOf_1.f e = some ((⟨#[]⟩ : ByteArray), (⟨#[]⟩ : ByteArray), (⟨#[]⟩ : ByteArray), e) := rfl
theorem pj0_yes (k : Nat) (s x : ByteArray) : record_Read.j0 (k + 1) s x true = some form := by
  simp only [record_Read.j0, no_f, Option.bind_some, if_true]
  rfl
theorem pj1_yes (k : Nat) (s x : ByteArray) (n : Int) : record_Read.j1 (k + 1) s x n true = some form := by
  simp only [record_Read.j1, no_f, Option.bind_some, if_true]
  rfl
theorem cut_mid (mid : List UInt8) (hs : mid.length < 100000000000000) : (Lib.indexByte mid 61 = -1 ∧ strings_Cut.f (tx mid) (⟨#[61]⟩ : ByteArray) = some (tx mid, (⟨#[]⟩ : ByteArray), false)) ∨
    ∃ o : Nat, o < mid.length ∧ Lib.indexByte mid 61 = o ∧ strings_Cut.f (tx mid) (⟨#[61]⟩ : ByteArray) = some (tx (mid.take o), tx (mid.drop (o + 1)), true) := by
  rcases split_at 61 mid with h | ⟨K, V, e, h⟩
  · exact .inl ⟨idx_no mid 61 h, cutB_no 61 mid h⟩
  · refine .inr ⟨K.length, by rw [e]; simp, by rw [e]; exact idx_at K V 61 h, ?_⟩
    have hl : mid.length = K.length + V.length + 1 := by rw [e]; simp; omega
    have h1 : mid.take K.length = K := by rw [e, List.take_left]
    have h2 : mid.drop (K.length + 1) = V := by rw [e, show K ++ 61 :: V = (K ++ [61]) ++ V by simp, show K.length + 1 = (K ++ [(61 : UInt8)]).length by simp, List.drop_left]
    rw [h1, h2, e]
    exact cutB_at 61 K V h (by omega)
theorem P_after (s : ByteArray) (D R : List UInt8) (hs : s.size ≤ 140737488351232) (h : Begins s.data.toList D R) (k : Nat) (hk : 1100 < k) : record_Read.j0 k s (tx D) false = some (after s D R (val 0 D)) := by
  obtain ⟨hl, h1, h4, hD, hne⟩ := h
  obtain ⟨k, rfl⟩ : ∃ q, k = q + 2 := ⟨k - 2, by omega⟩
  obtain ⟨c, D', rfl⟩ : ∃ c D', D = c :: D' := by
    cases D with
    | nil => simp at h1
    | cons c D' => exact ⟨c, D', rfl⟩
  obtain ⟨n, hn⟩ : ∃ n, val 0 (c :: D') = n := ⟨_, rfl⟩
  have hn4 : n < 10000 := by
    have h := val_lt (c :: D') hD 0
    rw [hn] at h
    have : 10 ^ (c :: D').length ≤ 10 ^ 4 := Nat.pow_le_pow_right (by omega) h4
    omega
  have hA : strconv_Atoi_65.f (tx (c :: D')) = some ((n : Int), none) := by
    unfold strconv_Atoi_65.f
    rw [if_pos (by rw [tx_size]; omega), tx_data, atoi_D c D' hD, hn]
    rfl
  have hsz : (tx (c :: D')).size = (c :: D').length := tx_size _
  rw [hn]
  generalize c :: D' = D at h1 h4 hl hD hne hA hsz
  unfold after
  simp only [record_Read.j0, hA, no_f, Option.bind_some, Bool.false_eq_true, if_false]
  by_cases c1 : s.size < n
  · rw [if_pos c1, if_pos (by omega)]
  · rw [if_neg c1, if_neg (by omega)]
    have e1 : wrap64 (((tx D).size : Int) + 1) = ((D.length + 1 : Nat) : Int) := by rw [hsz, wrap_nat (by omega) (by omega)]; rfl
    rw [e1]
    clear e1
    by_cases c2 : n ≤ D.length + 1
    · rw [if_pos c2, if_pos (by omega)]
      exact pj1_yes k s (tx D) _
    · rw [if_neg c2, if_neg (by omega)]
      have e2 : wrap64 ((n : Int) - 1) = ((n - 1 : Nat) : Int) := by rw [wrap_nat (by omega) (by omega)]; omega
      rw [e2, if_pos (by omega), if_pos (by omega)]
      have hb := bt_eq_iff s (n - 1) (by omega) 10 (by omega) (by omega)
      rw [show (10 : Int).toNat.toUInt8 = (10 : UInt8) from rfl] at hb
      by_cases c3 : s.data.toList[n - 1]? = some 10
      · have e3 : (bt s ((n - 1 : Nat) : Int) != 10) = false := by rw [hb.2 c3]; rfl
        rw [e3, if_neg (by simpa using c3)]
        have e1 : wrap64 (((tx D).size : Int) + 1) = ((D.length + 1 : Nat) : Int) := by clear e2; rw [hsz, wrap_nat (by omega) (by omega)]; rfl
        simp only [record_Read.j1, no_f, Bool.false_eq_true, if_false]
        rw [e1, e2]
        clear e1 e2
        rw [if_pos (by omega), if_pos (by omega), if_pos (by omega), Int.toNat_natCast, Int.toNat_natCast, Int.toNat_natCast]
        have hmid : s.extract (D.length + 1) (n - 1) = tx ((s.data.toList.take (n - 1)).drop (D.length + 1)) := by
          conv => lhs; rw [list_tx s]
          rw [tx_extract]
        have hmlen : ((s.data.toList.take (n - 1)).drop (D.length + 1)).length < 100000000000000 := by
          rw [List.length_drop, List.length_take]
          omega
        rw [hmid]
        rcases cut_mid _ hmlen with ⟨i1, i2⟩ | ⟨o, ho, i1, i2⟩
        · rw [i2, i1, if_neg (by omega)]
          simp only [Option.bind_some, Bool.false_eq_true, if_false]
          rfl
        · rw [i2, i1, if_pos (by omega)]
          simp only [Option.bind_some, if_true, Int.toNat_natCast]
          generalize (s.data.toList.take (n - 1)).drop (D.length + 1) = mid at *
          have hc := (chk_val (tx (mid.take o)) (tx (mid.drop (o + 1))) k (by omega)).1
          have hw := (rt_val (tx (mid.take o)) (tx (mid.drop (o + 1))) k (by omega)).1
          rw [hc]
          simp only [Option.bind_some]
          by_cases h0 : chk (tx (mid.take o)) (tx (mid.drop (o + 1))) = 0
          · have hr2 : (rt (tx (mid.take o)) (tx (mid.drop (o + 1)))).2 = 0 := by unfold rt; rw [if_pos h0]
            have he1 : s.extract 0 n = tx (s.data.toList.take n) := by
              conv => lhs; rw [list_tx s]
              rw [tx_extract, List.drop_zero]
            have he2 : s.extract n s.size = tx (s.data.toList.drop n) := by
              conv => lhs; rw [list_tx s]
              rw [tx_extract, tx_size, List.take_length]
            rw [if_pos h0, hw, if_pos hr2]
            simp only [Option.bind_some]
            rw [if_pos (by omega), if_pos (by omega), he1, he2, toList_data, toList_data, tx_data]
            split
            · rfl
            · rfl
          · have hr2 : (rt (tx (mid.take o)) (tx (mid.drop (o + 1)))).2 = chk (tx (mid.take o)) (tx (mid.drop (o + 1))) := by unfold rt; rw [if_neg h0]
            rw [if_neg h0, hr2, if_neg h0]
      · have e3 : (bt s ((n - 1 : Nat) : Int) != 10) = true := by
          simp only [bne_iff_ne, ne_eq]
          exact fun e => c3 (hb.1 e)
        rw [e3, if_pos c3]
        exact pj1_yes k s (tx D) _
theorem P_read (s : ByteArray) (hs : s.size ≤ 140737488351232) (k : Nat) (hk : 1100 < k) : (∃ D R, Begins s.data.toList D R ∧ record_Read.f k s = some (after s D R (val 0 D))) ∨ ((∀ D R, ¬ Begins s.data.toList D R) ∧ record_Read.f k s = some form) := by
  have hno : ∀ D R D' R', Begins s.data.toList D R → s.data.toList = D' ++ 32 :: R' → (32 : UInt8) ∉ D' → D = D' := by
    intro D R D' R' hB e' h'
    have e1 := idx_at D R 32 (D_no32 D hB.2.2.2.1)
    have e2 := idx_at D' R' 32 h'
    rw [← hB.1] at e1
    rw [← e', e1] at e2
    have hlen : D.length = D'.length := by omega
    have := hB.1.symm.trans e'
    exact (List.append_inj this hlen).1
  obtain ⟨k, rfl⟩ : ∃ q, k = q + 1 := ⟨k - 1, by omega⟩
  rcases split_at 32 s.data.toList with h | ⟨D, R, e, h⟩
  · refine .inr ⟨fun D R hB => h (by rw [hB.1]; simp), ?_⟩
    have hc := cutB_no 32 _ h
    rw [of_tx] at hc
    unfold record_Read.f
    rw [hc]
    simp only [Option.bind_some, Bool.false_eq_true, if_false]
    exact pj0_yes k s _
  · have hl : s.size = D.length + R.length + 1 := by rw [← size_list, e]; simp; omega
    have hc := cutB_at 32 D R h (by omega)
    rw [← e, of_tx] at hc
    have hsz : (tx D).size = D.length := tx_size _
    have hN : (∀ D' R', Begins s.data.toList D' R' → False) → record_Read.j0 (k + 1) s (tx D) true = some form := fun _ => pj0_yes k s _
    unfold record_Read.f
    rw [hc]
    simp only [Option.bind_some, if_true]
    by_cases c1 : D.length < 1
    · right
      rw [if_pos (by omega)]
      refine ⟨fun D' R' hB => ?_, pj0_yes k s _⟩
      have := hno D' R' D R hB e h
      have := hB.2.1
      subst_vars
      omega
    · rw [if_neg (by omega)]
      by_cases c2 : 4 < D.length
      · right
        rw [if_pos (by omega)]
        refine ⟨fun D' R' hB => ?_, pj0_yes k s _⟩
        have := hno D' R' D R hB e h
        have := hB.2.2.1
        subst_vars
        omega
      · rw [if_neg (by omega), if_pos (by omega)]
        obtain ⟨c, D0, hD0⟩ : ∃ c D0, D = c :: D0 := by
          cases D with
          | nil => simp at c1
          | cons c D0 => exact ⟨c, D0, rfl⟩
        have hb : bt (tx D) ((0 : Nat) : Int) = (c.toNat : Int) := bt_at (tx D) [] D0 c (by rw [tx_data, hD0]; rfl)
        have hb : bt (tx D) 0 = (c.toNat : Int) := hb
        have h48 : c = 48 ↔ (c.toNat : Int) = 48 := by
          constructor
          · rintro rfl; rfl
          · intro hh; apply UInt8.toNat_inj.1; have h3 : (48 : UInt8).toNat = 48 := rfl; omega
        rw [hb]
        by_cases c3 : c = 48
        · right
          rw [if_pos (h48.1 c3)]
          refine ⟨fun D' R' hB => ?_, pj0_yes k s _⟩
          have e2 := hno D' R' D R hB e h
          have := hB.2.2.2.2
          rw [e2, hD0, c3] at this
          exact this rfl
        · rw [if_neg (fun hh => c3 (h48.2 hh))]
          obtain ⟨t, ht, ht2⟩ := trim_D D
          rw [if_pos (by omega)] at ht
          rw [ht]
          simp only [Option.bind_some]
          by_cases c4 : ∀ x ∈ D, isD x = true
          · have e4 : (t.toList != ([] : List UInt8)) = false := by rw [ht2.2 c4]; rfl
            rw [e4]
            have hB : Begins s.data.toList D R := ⟨e, by omega, by omega, c4, by rw [hD0]; simpa using c3⟩
            exact .inl ⟨D, R, hB, P_after s D R hs hB (k + 1) (by omega)⟩
          · have e4 : (t.toList != ([] : List UInt8)) = true := by
              simp only [bne_iff_ne, ne_eq]
              exact fun hh => c4 (ht2.1 hh)
            rw [e4]
            right
            refine ⟨fun D' R' hB => ?_, pj0_yes k s _⟩
            have e2 := hno D' R' D R hB e h
            exact c4 (by rw [← e2]; exact hB.2.2.2.1)
/-! The reference. -/
theorem rj2_yes (k : Nat) (s : ByteArray) (i n : Int) : creelref_RecordOf.j2 (k + 1) s i n true = some form := by
  simp only [creelref_RecordOf.j2, noR_f, Option.bind_some, if_true]
  rfl
theorem rj3_yes (k : Nat) (s : ByteArray) (i n : Int) : creelref_RecordOf.j3 (k + 1) s i n true = some form := by
  simp only [creelref_RecordOf.j3, noR_f, Option.bind_some, if_true]
  rfl
/-- The digits that a text begins with, at most 5. -/
theorem loop_D (m : Nat) : ∀ (k N : Nat) (s : ByteArray) (pre D post : List UInt8), s.data.toList = pre ++ D ++ post → D.length = m → (∀ c ∈ D, isD c = true) → pre.length + m ≤ 5 → (N + 1) * 10 ^ m ≤ 1000000000 →
    creelref_RecordOf.l0 (k + m) s (pre.length : Int) (N : Int) = creelref_RecordOf.l0 k s ((pre.length + m : Nat) : Int) (val N D : Int) := by
  induction m with
  | zero =>
    intro k N s pre D post _ hm _ _ _
    obtain rfl : D = [] := List.length_eq_zero_iff.1 hm
    rw [Nat.add_zero, Nat.add_zero]
    rfl
  | succ m ih =>
    intro k N s pre D post h hm hD hp hN
    obtain ⟨c, D, rfl⟩ : ∃ c D', D = c :: D' := by
      cases D with
      | nil => simp at hm
      | cons c D' => exact ⟨c, D', rfl⟩
    have hc := of_decide_eq_true (hD c (List.mem_cons_self ..))
    have hs : pre.length < s.size := by rw [← size_list, h]; simp
    have hb := bt_at s pre (D ++ post) c (by rw [h]; simp)
    obtain ⟨q, hq, hqc⟩ : ∃ q, q < 10 ∧ c.toNat = 48 + q := ⟨c.toNat - 48, by omega, by omega⟩
    rw [hqc] at hb
    have hX : 1 ≤ 10 ^ m := Nat.pow_pos (by omega)
    have hN2 : (10 * N + q + 1) * 10 ^ m ≤ 1000000000 := by
      refine Nat.le_trans (Nat.mul_le_mul_right _ (show 10 * N + q + 1 ≤ 10 * (N + 1) by omega)) ?_
      rw [Nat.pow_succ] at hN
      rw [Nat.mul_comm 10 (N + 1), Nat.mul_assoc, Nat.mul_comm 10 (10 ^ m)]
      exact hN
    have hN3 : 10 * N + q + 1 ≤ 1000000000 := Nat.le_trans (Nat.le_mul_of_pos_right _ hX) hN2
    have H := ih k (10 * N + q) s (pre ++ [c]) D post (by rw [h]; simp) (by simpa using hm) (fun x hx => hD x (List.mem_cons_of_mem _ hx)) (by simp; omega) hN2
    have e1 : wrap64 (10 * (N : Int)) = 10 * (N : Int) := by rw [wrap_nat (by omega) (by omega)]
    have e2 : wrap64 (10 * (N : Int) + (((48 + q : Nat) : Int) - 48) % 256) = ((10 * N + q : Nat) : Int) := by clear e1; rw [wrap_nat (by omega) (by omega)]; omega
    have e3 : wrap64 ((pre.length : Int) + 1) = ((pre ++ [c]).length : Int) := by clear e1 e2; rw [wrap_nat (by omega) (by omega)]; simp
    show creelref_RecordOf.l0 (k + m + 1) s (pre.length : Int) (N : Int) = _
    simp only [creelref_RecordOf.l0]
    rw [hb, e1, e2, e3]
    clear e1 e2 e3
    rw [if_pos (by omega), if_pos (by omega), if_pos (by omega), if_pos (by omega), if_pos (by omega), H, val_cons, hqc]
    rw [show 48 + q - 48 = q by omega]
    congr 2
    simp
    omega
theorem l0_end (k : Nat) (s : ByteArray) (i : Nat) (n : Int) (h : i = 5 ∨ s.size ≤ i ∨ ∃ c, s.data.toList[i]? = some c ∧ isD c = false) : creelref_RecordOf.l0 (k + 1) s (i : Int) n = creelref_RecordOf.j1 k s (i : Int) n := by
  simp only [creelref_RecordOf.l0]
  by_cases c1 : s.size ≤ i
  · rw [if_neg (by omega)]
  · rw [if_pos (by omega), if_pos (by omega)]
    rcases h with rfl | h | ⟨c, hc, hd⟩
    · split
      · split
        · rw [if_neg (by omega)]
        · rfl
      · rfl
    · exact absurd h c1
    · have hb : bt s (i : Int) = (c.toNat : Int) := (bt_eq_iff s i (by omega) _ (by omega) (by have := UInt8.toNat_lt c; omega)).2 (by rw [hc]; simp)
      have hd := of_decide_eq_false hd
      rw [hb]
      split
      · split
        · exact absurd (show 48 ≤ c.toNat ∧ c.toNat ≤ 57 by omega) hd
        · rfl
      · rfl
/-- It looks for the sign '='. -/
theorem loop_eq (m : Nat) : ∀ (k i : Nat) (s : ByteArray) (n : Nat) (x6 : Int) (pre mid post : List UInt8), s.data.toList = pre ++ mid ++ post → mid.length = m → (61 : UInt8) ∉ mid → pre.length = i → i + m ≤ n - 1 → n < 20000 → 1 ≤ n →
    creelref_RecordOf.l1 (k + m) s x6 (n : Int) (i : Int) = creelref_RecordOf.l1 k s x6 (n : Int) ((i + m : Nat) : Int) := by
  induction m with
  | zero => intro k i s n x6 pre mid post _ _ _ _ _ _ _; rw [Nat.add_zero, Nat.add_zero]
  | succ m ih =>
    intro k i s n x6 pre mid post h hm hno hi hin hn hn1
    obtain ⟨c, mid, rfl⟩ : ∃ c D', mid = c :: D' := by
      cases mid with
      | nil => simp at hm
      | cons c D' => exact ⟨c, D', rfl⟩
    have hs : i < s.size := by rw [← size_list, h, ← hi]; simp
    have hb := bt_at s pre (mid ++ post) c (by rw [h]; simp)
    rw [hi] at hb
    have hc : (c.toNat : Int) ≠ 61 := by
      intro e
      apply hno
      have : c = 61 := by apply UInt8.toNat_inj.1; have h3 : (61 : UInt8).toNat = 61 := rfl; omega
      rw [this]
      exact List.mem_cons_self ..
    have H := ih k (i + 1) s n x6 (pre ++ [c]) mid post (by rw [h]; simp) (by simpa using hm) (fun hx => hno (List.mem_cons_of_mem _ hx)) (by simp; omega) (by omega) hn hn1
    have e1 : wrap64 ((n : Int) - 1) = ((n - 1 : Nat) : Int) := by rw [wrap_nat (by omega) (by omega)]; omega
    have e2 : wrap64 ((i : Int) + 1) = ((i + 1 : Nat) : Int) := by clear e1; rw [wrap_nat (by omega) (by omega)]; rfl
    show creelref_RecordOf.l1 (k + m + 1) s x6 (n : Int) (i : Int) = _
    simp only [creelref_RecordOf.l1]
    rw [hb, e1, e2]
    clear e1 e2
    rw [if_pos (by omega), if_pos (by omega), if_pos (by omega), if_neg hc, H]
    congr 2
    omega
theorem R_after (s : ByteArray) (D R : List UInt8) (hs : s.size ≤ 140737488351232) (h : Begins s.data.toList D R) (k : Nat) (hk : 30000 < k) : creelref_RecordOf.f k s = some (after s D R (val 0 D)) := by
  obtain ⟨hl, h1, h4, hD, hne⟩ := h
  have hn4 : val 0 D < 10000 := by
    have h := val_lt D hD 0
    have : 10 ^ D.length ≤ 10 ^ 4 := Nat.pow_le_pow_right (by omega) h4
    omega
  have hsz : s.size = D.length + R.length + 1 := by rw [← size_list, hl]; simp; omega
  have hat : s.data.toList[D.length]? = some 32 := by rw [hl]; simp
  obtain ⟨k, rfl⟩ : ∃ q, k = q + 4 + D.length := ⟨k - 4 - D.length, by omega⟩
  have hb32 : bt s (D.length : Int) = 32 := (bt_eq_iff s D.length (by omega) 32 (by omega) (by omega)).2 hat
  obtain ⟨c, D0, hD0⟩ : ∃ c D0, D = c :: D0 := by
    cases D with
    | nil => simp at h1
    | cons c D0 => exact ⟨c, D0, rfl⟩
  have hb0 : bt s ((0 : Nat) : Int) = (c.toNat : Int) := bt_at s [] (D0 ++ 32 :: R) c (by rw [hl, hD0]; rfl)
  have hb0 : bt s 0 = (c.toNat : Int) := hb0
  have hc48 : (c.toNat : Int) ≠ 48 := by
    intro e
    apply hne
    rw [hD0]
    have : c = 48 := by apply UInt8.toNat_inj.1; have h3 : (48 : UInt8).toNat = 48 := rfl; omega
    rw [this]; rfl
  have hL := loop_D D.length (k + 4) 0 s [] D (32 :: R) (by rw [hl]; simp) rfl hD (by simp; omega) (by
    have : 10 ^ D.length ≤ 10 ^ 4 := Nat.pow_le_pow_right (by omega) h4
    omega)
  rw [List.length_nil, Nat.zero_add] at hL
  unfold creelref_RecordOf.f
  refine Eq.trans hL ?_
  rw [show k + 4 = (k + 3) + 1 from rfl, l0_end (k + 3) s D.length _ (.inr (.inr ⟨32, hat, by decide⟩))]
  generalize val 0 D = n at hn4 ⊢
  simp only [creelref_RecordOf.j1]
  rw [if_neg (by omega), if_neg (by omega), if_pos (by omega), hb0, if_neg hc48, if_neg (by omega), if_pos (by omega), if_pos (by omega), hb32]
  rw [show ((32 : Int) != 32) = false from rfl]
  unfold after
  simp only [creelref_RecordOf.j2, noR_f, Option.bind_some, Bool.false_eq_true, if_false]
  by_cases c1 : s.size < n
  · rw [if_pos c1, if_pos (by omega)]
  · rw [if_neg c1, if_neg (by omega)]
    have e2 : wrap64 ((D.length : Int) + 2) = ((D.length + 2 : Nat) : Int) := by rw [wrap_nat (by omega) (by omega)]; rfl
    rw [e2]
    clear e2
    by_cases c2 : n ≤ D.length + 1
    · rw [if_pos c2, if_pos (by omega)]
      exact rj3_yes k s _ _
    · rw [if_neg c2, if_neg (by omega)]
      have e2 : wrap64 ((n : Int) - 1) = ((n - 1 : Nat) : Int) := by rw [wrap_nat (by omega) (by omega)]; omega
      rw [e2, if_pos (by omega), if_pos (by omega)]
      have hb := bt_eq_iff s (n - 1) (by omega) 10 (by omega) (by omega)
      rw [show (10 : Int).toNat.toUInt8 = (10 : UInt8) from rfl] at hb
      by_cases c3 : s.data.toList[n - 1]? = some 10
      · have e3 : (bt s ((n - 1 : Nat) : Int) != 10) = false := by rw [hb.2 c3]; rfl
        rw [e3, if_neg (by simpa using c3)]
        have e1 : wrap64 ((D.length : Int) + 1) = ((D.length + 1 : Nat) : Int) := by clear e2; rw [wrap_nat (by omega) (by omega)]; rfl
        simp only [creelref_RecordOf.j3, noR_f, Bool.false_eq_true, if_false]
        rw [e1]
        clear e1 e2
        obtain ⟨mid, hmd⟩ : ∃ mid, (s.data.toList.take (n - 1)).drop (D.length + 1) = mid := ⟨_, rfl⟩
        have hmlen : mid.length = n - 1 - (D.length + 1) := by
          rw [← hmd, List.length_drop, List.length_take, size_list]
          omega
        have hparts : s.data.toList = s.data.toList.take (D.length + 1) ++ mid ++ s.data.toList.drop (n - 1) := by
          rw [← hmd]
          have hx : s.data.toList.take (D.length + 1) = (s.data.toList.take (n - 1)).take (D.length + 1) := by
            rw [List.take_take, Nat.min_eq_left (by omega)]
          rw [hx, List.take_append_drop, List.take_append_drop]
        have hpre : (s.data.toList.take (D.length + 1)).length = D.length + 1 := by rw [List.length_take, size_list]; omega
        rw [hmd]
        rcases split_at 61 mid with hno | ⟨K, V, hKV, hno⟩
        · rw [idx_no mid 61 hno, if_neg (by omega)]
          obtain ⟨q, hq⟩ : ∃ q, k = q + 2 + mid.length := ⟨k - 2 - mid.length, by omega⟩
          rw [hq, loop_eq mid.length (q + 2) (D.length + 1) s n _ _ mid _ hparts rfl hno hpre (by omega) (by omega) (by omega)]
          have e2 : wrap64 ((n : Int) - 1) = ((n - 1 : Nat) : Int) := by rw [wrap_nat (by omega) (by omega)]; omega
          simp only [creelref_RecordOf.l1]
          rw [e2, if_neg (by omega)]
          simp only [creelref_RecordOf.j5, noR_f]
          rw [e2, if_pos (by omega)]
          rfl
        · have hKl : mid.length = K.length + V.length + 1 := by rw [hKV]; simp; omega
          have hidx := idx_at K V 61 hno
          rw [← hKV] at hidx
          rw [hidx, if_pos (by omega)]
          simp only [Int.toNat_natCast]
          have ht1 : mid.take K.length = K := by rw [hKV, List.take_left]
          have ht2 : mid.drop (K.length + 1) = V := by rw [hKV, show K ++ 61 :: V = (K ++ [61]) ++ V by simp, show K.length + 1 = (K ++ [(61 : UInt8)]).length by simp, List.drop_left]
          rw [ht1, ht2]
          have hb61 := bt_at s (s.data.toList.take (D.length + 1) ++ K) (V ++ s.data.toList.drop (n - 1)) 61 (by
            conv => lhs; rw [hparts, hKV]
            simp)
          rw [List.length_append, hpre] at hb61
          have hb61 : bt s ((D.length + 1 + K.length : Nat) : Int) = 61 := hb61
          obtain ⟨q, hq⟩ : ∃ q, k = q + 2 + K.length := ⟨k - 2 - K.length, by omega⟩
          rw [hq, loop_eq K.length (q + 2) (D.length + 1) s n _ (s.data.toList.take (D.length + 1)) K (61 :: (V ++ s.data.toList.drop (n - 1))) (by
            conv => lhs; rw [hparts, hKV]
            simp) rfl hno hpre (by omega) (by omega) (by omega)]
          have e2 : wrap64 ((n : Int) - 1) = ((n - 1 : Nat) : Int) := by rw [wrap_nat (by omega) (by omega)]; omega
          simp only [creelref_RecordOf.l1]
          rw [e2, if_pos (by omega), if_pos (by omega), if_pos (by omega), hb61, if_pos rfl]
          have e4 : wrap64 (((D.length + 1 + K.length : Nat) : Int) + 1) = ((D.length + 1 + K.length + 1 : Nat) : Int) := by clear e2; rw [wrap_nat (by omega) (by omega)]; rfl
          have e1 : wrap64 ((D.length : Int) + 1) = ((D.length + 1 : Nat) : Int) := by clear e2 e4; rw [wrap_nat (by omega) (by omega)]; rfl
          simp only [creelref_RecordOf.j5, noR_f]
          rw [e1, e2, e4]
          clear e1 e2 e4
          rw [if_neg (by omega), if_pos (by omega), if_pos (by omega), if_pos (by omega), if_pos (by omega), if_pos (by omega), if_pos (by omega), Int.toNat_natCast, Int.toNat_natCast, Int.toNat_natCast, Int.toNat_natCast, Int.toNat_natCast]
          have hm2 : mid = (s.data.toList.drop (D.length + 1)).take (n - 1 - (D.length + 1)) := by rw [← hmd, List.drop_take]
          have hK2 : (s.data.toList.drop (D.length + 1)).take K.length = K := by
            have h := ht1
            rw [hm2, List.take_take, Nat.min_eq_left (by omega)] at h
            exact h
          have hk1 : s.extract (D.length + 1) (D.length + 1 + K.length) = tx K := by
            conv => lhs; rw [list_tx s]
            rw [tx_extract, List.drop_take, show D.length + 1 + K.length - (D.length + 1) = K.length by omega, hK2]
          have hk2 : s.extract (D.length + 1 + K.length + 1) (n - 1) = tx V := by
            conv => lhs; rw [list_tx s]
            rw [tx_extract, ← ht2, ← hmd, List.drop_drop]
            congr 2
          rw [hk1, hk2, (rt_val (tx K) (tx V) q (by omega)).2]
          have he1 : s.extract 0 n = tx (s.data.toList.take n) := by
            conv => lhs; rw [list_tx s]
            rw [tx_extract, List.drop_zero]
          have he2 : s.extract n s.size = tx (s.data.toList.drop n) := by
            conv => lhs; rw [list_tx s]
            rw [tx_extract, tx_size, List.take_length]
          simp only [Option.bind_some]
          by_cases h0 : (rt (tx K) (tx V)).2 = 0
          · rw [if_pos h0, if_pos h0, if_pos (by omega), if_pos (by omega), he1, he2, toList_data, toList_data, tx_data]
            split
            · rfl
            · rfl
          · rw [if_neg h0, if_neg h0]
      · have e3 : (bt s ((n - 1 : Nat) : Int) != 10) = true := by
          simp only [bne_iff_ne, ne_eq]
          exact fun e => c3 (hb.1 e)
        rw [e3, if_pos c3]
        exact rj3_yes k s _ _
theorem R_form (s : ByteArray) (hs : s.size ≤ 140737488351232) (h : ∀ D R, ¬ Begins s.data.toList D R) (k : Nat) (hk : 30000 < k) : creelref_RecordOf.f k s = some form := by
  obtain ⟨D, post, hl, hD, hend⟩ : ∃ D post, s.data.toList = D ++ post ∧ (∀ c ∈ D, isD c = true) ∧ (post = [] ∨ ∃ c r, post = c :: r ∧ isD c = false) := by
    refine ⟨s.data.toList.takeWhile isD, s.data.toList.dropWhile isD, (List.takeWhile_append_dropWhile).symm, fun c hc => tw_all c hc, ?_⟩
    by_cases he : s.data.toList.dropWhile isD = []
    · exact .inl he
    · obtain ⟨c, r, hcr⟩ := List.exists_cons_of_ne_nil he
      have := List.head_dropWhile_not isD he
      simp only [hcr, List.head_cons] at this
      exact .inr ⟨c, r, hcr, this⟩
  have hsz : s.size = D.length + post.length := by rw [← size_list, hl]; simp
  have J2 : ∀ k i n, creelref_RecordOf.j2 (k + 1) s i n true = some form := fun k i n => rj2_yes k s i n
  unfold creelref_RecordOf.f
  by_cases c5 : 5 ≤ D.length
  · have hD5 : D = D.take 5 ++ D.drop 5 := (List.take_append_drop 5 D).symm
    have hl5 : (D.take 5).length = 5 := by rw [List.length_take]; omega
    obtain ⟨k, rfl⟩ : ∃ q, k = q + 3 + 5 := ⟨k - 8, by omega⟩
    have hL := loop_D 5 (k + 3) 0 s [] (D.take 5) (D.drop 5 ++ post) (by rw [hl, List.nil_append, ← List.append_assoc, List.take_append_drop]) hl5 (fun c hc => hD c (List.mem_of_mem_take hc)) (by simp) (by decide)
    refine Eq.trans hL ?_
    rw [List.length_nil, Nat.zero_add, show k + 3 = (k + 2) + 1 from rfl, l0_end (k + 2) s 5 _ (.inl rfl)]
    simp only [creelref_RecordOf.j1]
    rw [if_neg (by omega), if_pos (by omega)]
    exact J2 _ _ _
  · obtain ⟨k, rfl⟩ : ∃ q, k = q + 3 + D.length := ⟨k - 3 - D.length, by omega⟩
    have hL := loop_D D.length (k + 3) 0 s [] D post (by rw [hl]; simp) rfl hD (by simp; omega) (by
      have : 10 ^ D.length ≤ 10 ^ 4 := Nat.pow_le_pow_right (by omega) (by omega)
      omega)
    refine Eq.trans hL ?_
    rw [List.length_nil, Nat.zero_add, show k + 3 = (k + 2) + 1 from rfl, l0_end (k + 2) s D.length _ (by
      rcases hend with rfl | ⟨c, r, rfl, hc⟩
      · right; left; simp at hsz; omega
      · right; right; exact ⟨c, by rw [hl]; simp, hc⟩)]
    simp only [creelref_RecordOf.j1]
    by_cases c0 : D.length = 0
    · rw [if_pos (by omega)]
      exact J2 _ _ _
    · rw [if_neg (by omega), if_neg (by omega), if_pos (by omega)]
      obtain ⟨c, D0, hD0⟩ : ∃ c D0, D = c :: D0 := by
        cases D with
        | nil => simp at c0
        | cons c D0 => exact ⟨c, D0, rfl⟩
      have hb0 : bt s ((0 : Nat) : Int) = (c.toNat : Int) := bt_at s [] (D0 ++ post) c (by rw [hl, hD0]; rfl)
      have hb0 : bt s 0 = (c.toNat : Int) := hb0
      rw [hb0]
      by_cases c48 : (c.toNat : Int) = 48
      · rw [if_pos c48]
        exact J2 _ _ _
      · rw [if_neg c48]
        rcases hend with rfl | ⟨c', r, rfl, hc'⟩
        · rw [if_pos (by simp at hsz; omega)]
          exact J2 _ _ _
        · have hlen : s.size = D.length + r.length + 1 := by rw [hsz]; simp; omega
          rw [if_neg (by omega), if_pos (by omega), if_pos (by omega)]
          have hb := bt_at s D r c' hl
          rw [hb]
          by_cases c32 : c' = 32
          · exfalso
            refine h D r ⟨by rw [hl, c32], by omega, by omega, hD, ?_⟩
            rw [hD0]
            intro e
            have : c = 48 := by simpa using e
            apply c48
            rw [this]; rfl
          · have e3 : ((c'.toNat : Int) != 32) = true := by
              simp only [bne_iff_ne, ne_eq]
              intro e
              apply c32
              apply UInt8.toNat_inj.1
              have h3 : (32 : UInt8).toNat = 32 := rfl
              omega
            rw [e3]
            exact J2 _ _ _
theorem rt_ok (key value : ByteArray) (h : (rt key value).2 = 0) : chk key value = 0 ∧ key.size ≤ 60 ∧ value.size ≤ 500 := by
  have hc : chk key value = 0 := by
    by_cases hc : chk key value = 0
    · exact hc
    · unfold rt at h
      rw [if_neg hc] at h
      exact h
  refine ⟨hc, ?_⟩
  have hsz : ¬ (key.size < 1 ∨ 60 < key.size ∨ 500 < value.size) := by
    intro h'
    rw [show chk key value = 1 from if_pos h'] at hc
    exact absurd hc (by decide)
  omega
theorem after_good (s : ByteArray) (D R : List UInt8) (n : Nat) (h0 : (after s D R n).2.2.2 = 0) : chk (after s D R n).1 (after s D R n).2.1 = 0 ∧ (after s D R n).2.2.1.size < s.size ∧ (after s D R n).1.size ≤ 60 ∧ (after s D R n).2.1.size ≤ 500 := by
  unfold after at h0 ⊢
  by_cases c1 : s.size < n
  · rw [if_pos c1] at h0
    exact absurd h0 (by decide)
  · rw [if_neg c1] at h0 ⊢
    by_cases c2 : n ≤ D.length + 1
    · rw [if_pos c2] at h0
      exact absurd h0 (by decide)
    · rw [if_neg c2] at h0 ⊢
      by_cases c3 : s.data.toList[n - 1]? ≠ some 10
      · rw [if_pos c3] at h0
        exact absurd h0 (by decide)
      · rw [if_neg c3] at h0 ⊢
        by_cases c4 : 0 ≤ Lib.indexByte ((s.data.toList.take (n - 1)).drop (D.length + 1)) 61
        · rw [if_pos c4] at h0 ⊢
          simp only at h0 ⊢
          generalize (s.data.toList.take (n - 1)).drop (D.length + 1) = mid at *
          generalize (Lib.indexByte mid 61).toNat = o at *
          by_cases c5 : (rt (tx (mid.take o)) (tx (mid.drop (o + 1)))).2 = 0
          · obtain ⟨g1, g2, g3⟩ := rt_ok _ _ c5
            rw [if_pos c5] at h0 ⊢
            split at h0
            · rename_i c6
              rw [if_pos c6]
              refine ⟨g1, ?_, g2, g3⟩
              show (tx (s.data.toList.drop n)).size < s.size
              rw [tx_size, List.length_drop, size_list]
              omega
            · exact absurd h0 (by decide)
          · rw [if_neg c5] at h0
            exact absurd h0 c5
        · rw [if_neg c4] at h0
          exact absurd h0 (by decide)
/-- Both read the same. -/
theorem read_same (s : ByteArray) (hs : s.size ≤ 140737488351232) (k : Nat) (hk : 30000 < k) : ∃ r, record_Read.f k s = some r ∧ creelref_RecordOf.f k s = some r ∧ (r.2.2.2 = 0 → chk r.1 r.2.1 = 0 ∧ r.2.2.1.size < s.size ∧ r.1.size ≤ 60 ∧ r.2.1.size ≤ 500) := by
  rcases P_read s hs k (by omega) with ⟨D, R, hB, h⟩ | ⟨hno, h⟩
  · exact ⟨_, h, R_after s D R hs hB k hk, after_good s D R _⟩
  · exact ⟨form, h, R_form s hs hno k hk, fun h0 => absurd h0 (by decide)⟩
end Go.Proofs.YtmeffcjjfiebdaaDoor.Q
