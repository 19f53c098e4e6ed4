/- Made by programs of the prover: walks of Go functions, the words that they use, and plain laws, each text in a section of its own; no condition of its own. -/
import Derived.Test.YtenbelecmmpdgaaDoorZMemberPacks2
section
namespace Go.Proofs.YtenbelecmmpdgaaDoor.All
open Go.RowKit Go.Proofs.YtenbelecmmpdgaaDoorW.PrintWords Go.Proofs.YtenbelecmmpdgaaDoorW.PrintLast Go.Proofs.YtenbelecmmpdgaaDoorW.PrintMore
open Go.Proofs.YtenbelecmmpdgaaDoorW.Mine
attribute [local go_sem] gtr_string leq_string geq_string
attribute [local go_sem] max2_int min2_int max_two min_two max_three min_three max_four min_four
set_option linter.unusedVariables false
set_option linter.unusedSimpArgs false
def strconv_Itoa_15.f (a0:Int):Option ByteArray:=if -9223372036854775808 ≤ a0∧a0 ≤ 9223372036854775807 then some ⟨(Lib.itoa a0).toArray⟩ else none
theorem strconv_Itoa_15.calls (a0:Int) (r:ByteArray) (w:World) (HT0:Aside0 (Tab w)) (h:strconv_Itoa_15.f a0 = some r) :
 Calls Tryd.prog 15 #[.int .i64 a0] w fun e w'=>e = .returned (.string r)∧Below w.heap.size w w':=by
 unfold strconv_Itoa_15.f at h;split at h
 ·rename_i hc
  obtain rfl:=Option.some.inj h;refine (Tryd.strconv_Itoa a0 hc.1 hc.2 w HT0.out).mono ?_;rintro e w' ⟨he,k,os,rfl⟩;exact ⟨he,Lib.below_grow _ _ (Nat.le_refl _) _ _⟩
 ·cases h
def octal_Most.f (a0:Int):Option (Int × Int):=if a0 < 2 then (some (0,4)) else (if a0 > 12 then (some (0,4)) else (if 0 ≤ (wrap64 (3 * (wrap64 (a0 - 1)))) then (some (wrap64 ((shl .i64 1 (wrap64 (3 * (wrap64 (a0 - 1))))) - 1),0)) else (none)))
set_option maxHeartbeats 8000000 in
set_option maxRecDepth 100000 in
theorem octal_Most.calls (a0:Int) (r1:Int) (r2:Int) (w:World) (h:octal_Most.f a0 = some (r1,r2)) :
 Calls Tryd.prog 22 #[.int .i64 a0] w fun e w'=>e = .returned (.tuple #[.int .i64 r1,.int .i64 r2])∧Drawn0 w w':=by
 have H:(if a0 < 2 then (some (0,4)) else (if a0 > 12 then (some (0,4)) else (if 0 ≤ (wrap64 (3 * (wrap64 (a0 - 1)))) then (some (wrap64 ((shl .i64 1 (wrap64 (3 * (wrap64 (a0 - 1))))) - 1),0)) else (none)))) = some (r1,r2):=h;clear h;by_cases c2:a0 < 2
 ·rw [if_pos c2] at H;have c2b0:decide (a0 < 2) = true:=decide_eq_true c2;clear c2;simp only [Option.some.injEq,Prod.mk.injEq] at H;obtain ⟨rfl,rfl⟩:=H;go_enter Tryd.func22,Tryd.ntmps22;go_wp2;go_ret2
  exact ⟨by first|rfl|(simp;done)|(simp [*];done),by repeat (first|exact Drawn0.refl _|apply Drawn0.step)⟩
 ·rw [if_neg c2] at H;have c2b0:decide (a0 < 2) = false:=decide_eq_false c2;clear c2;by_cases c3:a0 > 12
  ·rw [if_pos c3] at H;have c3b0:decide (12 < a0) = true:=decide_eq_true c3;clear c3;simp only [Option.some.injEq,Prod.mk.injEq] at H;obtain ⟨rfl,rfl⟩:=H;go_enter Tryd.func22,Tryd.ntmps22;go_wp2;go_ret2
   exact ⟨by first|rfl|(simp;done)|(simp [*];done),by repeat (first|exact Drawn0.refl _|apply Drawn0.step)⟩
  ·rw [if_neg c3] at H;have c3b0:decide (12 < a0) = false:=decide_eq_false c3;clear c3;obtain ⟨ji4,hji4⟩:∃ j_:Int,(wrap64 (3 * (wrap64 (a0 - 1)))) = j_:=⟨_,rfl⟩
   replace H:(if 0 ≤ (ji4) then (some (wrap64 ((shl .i64 1 (ji4)) - 1),0)) else (none)) = some (r1,r2):=by first|(rw [hji4] at H;exact H)|(simp only [hji4] at H ⊢;exact H)
   have hji4w:(IntKind.i64.wrap (3 * (wrap64 (a0 - 1)))) = ji4:=(i64_w _).trans hji4;by_cases c5:0 ≤ (ji4)
   ·rw [if_pos c5] at H;have c5b0:=eq_true c5;have c5b1:decide (0 ≤ (ji4)) = true:=decide_eq_true c5;clear c5;obtain ⟨ji6,hji6⟩:∃ j_:Int,(shl .i64 1 (ji4)) = j_:=⟨_,rfl⟩
    replace H:(some (wrap64 ((ji6) - 1),0)) = some (r1,r2):=by first|(rw [hji6] at H;exact H)|(simp only [hji6] at H ⊢;exact H)
    have hji6_:(IntKind.i64.wrap (1 * 2 ^ min (ji4).toNat 64)) = ji6:=hji6;have hji6z:(ji4) ≤ 64→(IntKind.i64.wrap (1 * 2 ^ (ji4).toNat)) = ji6:=shl_small hji6;have hji6u:(IntKind.i64.wrap (2 ^ min (ji4).toNat 64)) = ji6:=by have h_:=hji6_;rw [Int.one_mul] at h_;exact h_
    have hji6v:(ji4) ≤ 64→(IntKind.i64.wrap (2 ^ (ji4).toNat)) = ji6:=fun hle_=>by have h_:=hji6z hle_;rw [Int.one_mul] at h_;exact h_
    have hji6y:(wrap64 (1 * 2 ^ min (ji4).toNat 64)) = ji6:=(i64_w _).symm.trans hji6_;have hji6x:(ji4) ≤ 64→(wrap64 (1 * 2 ^ (ji4).toNat)) = ji6:=fun h_=>(i64_w _).symm.trans (hji6z h_)
    simp only [Option.some.injEq,Prod.mk.injEq] at H;obtain ⟨rfl,rfl⟩:=H;go_enter Tryd.func22,Tryd.ntmps22;go_wp2;go_ret2
    exact ⟨by first|rfl|(simp;done)|(simp only [← hji4,← hji6] <;> (first|rfl|simp))|(simp [*];done),by repeat (first|exact Drawn0.refl _|apply Drawn0.step)⟩
   ·rw [if_neg c5] at H;exact absurd H (by simp)
def strings_Repeat.f (a0:ByteArray) (a1:Int):Option ByteArray:=if 0 ≤ a1∧a1 ≤ 9223372036854775807∧a0.size * a1.toNat ≤ 140737488355328 then some ⟨(Lib.repeatL a0.data.toList a1.toNat).toArray⟩ else none
theorem strings_Repeat.calls (a0:ByteArray) (a1:Int) (r:ByteArray) (w:World) (h:strings_Repeat.f a0 a1 = some r) :
 Calls Tryd.prog 34 #[.string a0,.int .i64 a1] w fun e w'=>e = .returned (.string r)∧Below w.heap.size w w':=by
 unfold strings_Repeat.f at h;split at h
 ·rename_i hc
  obtain ⟨h0,h1,h2⟩:=hc;obtain rfl:=Option.some.inj h;obtain ⟨n,rfl⟩:=Int.eq_ofNat_of_zero_le h0;exact Tryd.strings_Repeat a0 n w (by omega) (by simpa using h2)
 ·cases h
def strings_TrimRight.f (a0:ByteArray) (a1:ByteArray):Option ByteArray:=match a1 with
 | ⟨⟨[c]⟩⟩=>if c.toNat < 128∧a0.size ≤ 9223372036854775807 then some ⟨(Lib.trimRightB a0.data.toList c).toArray⟩ else none
 | _=>none
theorem strings_TrimRight.calls (a0:ByteArray) (a1:ByteArray) (r:ByteArray) (w:World) (h:strings_TrimRight.f a0 a1 = some r) :
 Calls Tryd.prog 35 #[.string a0,.string a1] w fun e w'=>e = .returned (.string r)∧Drawn0 w w':=by
 unfold strings_TrimRight.f at h;split at h
 ·rename_i c
  split at h
  ·rename_i hc
   obtain rfl:=Option.some.inj h;refine (Tryd.strings_TrimRight_one a0 c hc.1 w hc.2).mono ?_;rintro e w' ⟨rfl,hw⟩;refine ⟨rfl,?_⟩;first
    | (subst hw;exact Drawn0.refl _)
    | (rcases hw with rfl|rfl <;> first|exact Drawn0.refl _|exact Drawn0.step (Drawn0.refl _) 1)
  ·cases h
 ·cases h
def stamp_Text.j0:Nat→Int→Int→ByteArray→Option (ByteArray × Int)
 | 0,_,_,_=>none
 | k + 1,x0,x1,x7=>(strconv_Itoa_15.f x0).bind fun t102=>(if x7.size + t102.size ≤ 9223372036854775807 then (if x1 = 0 then (some (x7 ++ t102,0)) else ((strconv_Itoa_15.f x1).bind fun t103=>((strings_Repeat.f (⟨#[48]⟩:ByteArray) (wrap64 (9 - (t103.size:Int)))).bind fun t104=>(if t104.size + t103.size ≤ 9223372036854775807 then (if (x7 ++ t102).size + 1 ≤ 9223372036854775807 then ((strings_TrimRight.f (t104 ++ t103) (⟨#[48]⟩:ByteArray)).bind fun t105=>(if ((x7 ++ t102) ++ (⟨#[46]⟩:ByteArray)).size + t105.size ≤ 9223372036854775807 then (some (((x7 ++ t102) ++ (⟨#[46]⟩:ByteArray)) ++ t105,0)) else (none))) else (none)) else (none))))) else (none))
def stamp_Text.f (k:Nat) (a0:Int) (a1:Int):Option (ByteArray × Int):=(stamp_Check.f a0 a1).bind fun t101=>(if t101 = 0 then (if a0 < 0 then (if a1 > 0 then (stamp_Text.j0 k (wrap64 ((wrap64 (-a0)) - 1)) (wrap64 (1000000000 - a1)) (⟨#[45]⟩:ByteArray)) else (stamp_Text.j0 k (wrap64 (-a0)) a1 (⟨#[45]⟩:ByteArray))) else (stamp_Text.j0 k a0 a1 (⟨#[]⟩:ByteArray))) else (some ((⟨#[]⟩:ByteArray),t101)))
set_option maxHeartbeats 8000000 in
set_option maxRecDepth 100000 in
theorem stamp_Text.calls (k:Nat) (a0:Int) (a1:Int) (r1:ByteArray) (r2:Int) (w:World) (HT0:Aside0 (Tab w)) (h:stamp_Text.f k a0 a1 = some (r1,r2)) :
 Calls Tryd.prog 23 #[.int .i64 a0,.int .i64 a1] w fun e w'=>e = .returned (.tuple #[.string r1,.int .i64 r2])∧Below w.heap.size w w':=by
 have HB:=Aside0.mk (Below.refl w.heap.size w);have H:((stamp_Check.f a0 a1).bind fun t101=>(if t101 = 0 then (if a0 < 0 then (if a1 > 0 then (stamp_Text.j0 k (wrap64 ((wrap64 (-a0)) - 1)) (wrap64 (1000000000 - a1)) (⟨#[45]⟩:ByteArray)) else (stamp_Text.j0 k (wrap64 (-a0)) a1 (⟨#[45]⟩:ByteArray))) else (stamp_Text.j0 k a0 a1 (⟨#[]⟩:ByteArray))) else (some ((⟨#[]⟩:ByteArray),t101)))) = some (r1,r2):=h;clear h;replace H:=Option.bind_eq_some_iff.mp H;obtain ⟨t101,A30,H⟩:=H;replace H:(if t101 = 0 then (if a0 < 0 then (if a1 > 0 then (stamp_Text.j0 k (wrap64 ((wrap64 (-a0)) - 1)) (wrap64 (1000000000 - a1)) (⟨#[45]⟩:ByteArray)) else (stamp_Text.j0 k (wrap64 (-a0)) a1 (⟨#[45]⟩:ByteArray))) else (stamp_Text.j0 k a0 a1 (⟨#[]⟩:ByteArray))) else (some ((⟨#[]⟩:ByteArray),t101))) = some (r1,r2):=H;have A3:=Aside0.mk A30;clear A30;by_cases c4:t101 = 0
 ·rw [if_pos c4] at H;have c4b0:(t101 == 0) = true:=beq_iff_eq.mpr c4;have c4b1:(t101 != 0) = false:=bne_eq_false_iff_eq.mpr c4;clear c4;have HC5:=Aside0.mk H;clear H;go_enter Tryd.func23,Tryd.ntmps23;go_upto_if 17 with (first|((with_reducible refine gate_callee (f:=32) rfl ?_);refine goesL_ (some 12) rfl rfl Tryd.func32 (by kernel_rfl) rfl #[.int .i64 a0,.int .i64 a1] rfl (by (try simp only [List.map_toArray,List.map_cons,List.map_nil]);first|done|rfl|(simp only [List.length_drop,List.length_take];rfl)) ?_;(with_reducible refine (stamp_Check.calls a0 a1 t101 _ A3.out).mono ?_);rintro e w' ⟨rfl,⟨nd,rfl⟩⟩;refine ⟨_,rfl,?_⟩))
  (try simp only [Act.put,List.setIfInBounds_toArray,List.set_cons_zero,List.set_cons_succ]);go_cut [0,1,7] (fun v0 v1 v7 wc=>∃ (kq:Nat) (x0_4:Int) (x1_4:Int) (x7_4:ByteArray),v0 = .int .i64 x0_4∧v1 = .int .i64 x1_4∧v7 = .string x7_4∧Aside0 (stamp_Text.j0 kq x0_4 x1_4 x7_4 = some (r1,r2))∧Aside0 (kq ≤ k)∧Aside0 (Below w.heap.size w wc))
  case first =>
   have H:=HC5.out;clear HC5;by_cases c6:a0 < 0
   ·rw [if_pos c6] at H;have c6b0:decide (a0 < 0) = true:=decide_eq_true c6;clear c6;(first|rw [c6b0]|(simp only [i64_w,i32_w];rw [c6b0])|skip);by_cases c7:a1 > 0
    ·rw [if_pos c7] at H;have c7b0:decide (0 < a1) = true:=decide_eq_true c7;clear c7;have H':=Aside0.mk H;clear H;go_wp2;go_meet
     case rel=>exact ⟨_,(wrap64 ((wrap64 (-a0)) - 1)),(wrap64 (1000000000 - a1)),((⟨#[45]⟩:ByteArray)),(by first|rfl|(simp;done)|(simp [*];done)),(by first|rfl|(simp;done)|(simp [*];done)),(by first|rfl|(simp;done)|(simp [*];done)),H',⟨by first|omega|exact Nat.le_refl _⟩,⟨by repeat (first|(with_reducible first|exact HB.out|apply bwA|apply pwbN|apply bw1)|exact HB.out)⟩⟩
    ·rw [if_neg c7] at H;have c7b0:decide (0 < a1) = false:=decide_eq_false c7;clear c7;have H':=Aside0.mk H;clear H;go_wp2;go_meet
     case rel=>exact ⟨_,(wrap64 (-a0)),(a1),((⟨#[45]⟩:ByteArray)),(by first|rfl|(simp;done)|(simp [*];done)),(by first|rfl|(simp;done)|(simp [*];done)),(by first|rfl|(simp;done)|(simp [*];done)),H',⟨by first|omega|exact Nat.le_refl _⟩,⟨by repeat (first|(with_reducible first|exact HB.out|apply bwA|apply pwbN|apply bw1)|exact HB.out)⟩⟩
   ·rw [if_neg c6] at H;have c6b0:decide (a0 < 0) = false:=decide_eq_false c6;clear c6;(first|rw [c6b0]|(simp only [i64_w,i32_w];rw [c6b0])|skip);have H':=Aside0.mk H;clear H;go_wp2;go_meet
    case rel=>exact ⟨_,(a0),(a1),((⟨#[]⟩:ByteArray)),(by first|rfl|(simp;done)|(simp [*];done)),(by first|rfl|(simp;done)|(simp [*];done)),(by first|rfl|(simp;done)|(simp [*];done)),H',⟨by first|omega|exact Nat.le_refl _⟩,⟨by repeat (first|(with_reducible first|exact HB.out|apply bwA|apply pwbN|apply bw1)|exact HB.out)⟩⟩
  case rest =>
   clear HC5;repeat first|clear c4|clear c4b0|clear c4b1
   obtain ⟨kq,x0_4,x1_4,x7_4,rfl,rfl,rfl,HA,HJ4,HB⟩:=hcut;cases kq with
   | zero=>exact absurd HA.out (by simp [stamp_Text.j0])
   | succ kj4 =>
    have H:=HA.out;clear HA;simp only [stamp_Text.j0] at H;replace H:=Option.bind_eq_some_iff.mp H;obtain ⟨t102,A80,H⟩:=H;replace H:(if x7_4.size + t102.size ≤ 9223372036854775807 then (if x1_4 = 0 then (some (x7_4 ++ t102,0)) else ((strconv_Itoa_15.f x1_4).bind fun t103=>((strings_Repeat.f (⟨#[48]⟩:ByteArray) (wrap64 (9 - (t103.size:Int)))).bind fun t104=>(if t104.size + t103.size ≤ 9223372036854775807 then (if (x7_4 ++ t102).size + 1 ≤ 9223372036854775807 then ((strings_TrimRight.f (t104 ++ t103) (⟨#[48]⟩:ByteArray)).bind fun t105=>(if ((x7_4 ++ t102) ++ (⟨#[46]⟩:ByteArray)).size + t105.size ≤ 9223372036854775807 then (some (((x7_4 ++ t102) ++ (⟨#[46]⟩:ByteArray)) ++ t105,0)) else (none))) else (none)) else (none))))) else (none)) = some (r1,r2):=H;have A8:=Aside0.mk A80;clear A80;by_cases c9:x7_4.size + t102.size ≤ 9223372036854775807
    ·rw [if_pos c9] at H;have c9b0:=eq_true c9;have c9b1:decide (x7_4.size + t102.size ≤ 9223372036854775807) = true:=decide_eq_true c9;try have c9b2:(9223372036854775807 < x7_4.size + t102.size) = False:=eq_false (Nat.not_lt.2 c9)
     by_cases c10:x1_4 = 0
     ·rw [if_pos c10] at H;have c10b0:(x1_4 == 0) = true:=beq_iff_eq.mpr c10;have c10b1:(x1_4 != 0) = false:=bne_eq_false_iff_eq.mpr c10;clear c10;simp only [Option.some.injEq,Prod.mk.injEq] at H;obtain ⟨rfl,rfl⟩:=H;go_wp2_with (first|((with_reducible refine gate_callee (f:=15) rfl ?_);refine goesL_ (some 28) rfl rfl Tryd.func15 (by kernel_rfl) rfl #[.int .i64 x0_4] rfl (by (try simp only [List.map_toArray,List.map_cons,List.map_nil]);first|done|rfl|(simp only [List.length_drop,List.length_take];rfl)) ?_;(with_reducible refine (strconv_Itoa_15.calls x0_4 t102 _ (by first|exact HT0|exact ⟨tab_on HT0.out HB.out⟩|exact ⟨tab_on HT0.out (by repeat (first|(with_reducible first|exact HB.out|apply bwA|apply pwbN|apply bw1)|exact HB.out|exact Below.refl _ _))⟩) A8.out).mono ?_);rintro e w11 ⟨rfl,hb⟩;refine ⟨_,rfl,?_⟩;have n0_:=Aside0.mk (below_step (by repeat (first|(with_reducible first|exact HB.out|apply bwA|apply pwbN|apply bw1)|exact HB.out)) hb);clear HB;have HB:=n0_;clear n0_;(try clear hb);(try clear hb2);(try clear hk);(try clear hi)))
      go_ret2
      exact ⟨by first|rfl|(simp [errW_none,errW_some] <;> rfl)|(simp [*,errW_none,errW_some] <;> rfl),by repeat (first|(with_reducible first|exact HB.out|apply bwA|apply pwbN|apply bw1)|exact HB.out)⟩
     ·rw [if_neg c10] at H;have c10b0:(x1_4 == 0) = false:=beq_eq_false_iff_ne.mpr c10;have c10b1:(x1_4 != 0) = true:=bne_iff_ne.mpr c10;replace H:=Option.bind_eq_some_iff.mp H;obtain ⟨t103,A120,H⟩:=H;replace H:((strings_Repeat.f (⟨#[48]⟩:ByteArray) (wrap64 (9 - (t103.size:Int)))).bind fun t104=>(if t104.size + t103.size ≤ 9223372036854775807 then (if (x7_4 ++ t102).size + 1 ≤ 9223372036854775807 then ((strings_TrimRight.f (t104 ++ t103) (⟨#[48]⟩:ByteArray)).bind fun t105=>(if ((x7_4 ++ t102) ++ (⟨#[46]⟩:ByteArray)).size + t105.size ≤ 9223372036854775807 then (some (((x7_4 ++ t102) ++ (⟨#[46]⟩:ByteArray)) ++ t105,0)) else (none))) else (none)) else (none))) = some (r1,r2):=H;have A12:=Aside0.mk A120;clear A120;replace H:=Option.bind_eq_some_iff.mp H;obtain ⟨t104,A130,H⟩:=H;replace H:(if t104.size + t103.size ≤ 9223372036854775807 then (if (x7_4 ++ t102).size + 1 ≤ 9223372036854775807 then ((strings_TrimRight.f (t104 ++ t103) (⟨#[48]⟩:ByteArray)).bind fun t105=>(if ((x7_4 ++ t102) ++ (⟨#[46]⟩:ByteArray)).size + t105.size ≤ 9223372036854775807 then (some (((x7_4 ++ t102) ++ (⟨#[46]⟩:ByteArray)) ++ t105,0)) else (none))) else (none)) else (none)) = some (r1,r2):=H;have A13:=Aside0.mk A130;clear A130;by_cases c14:t104.size + t103.size ≤ 9223372036854775807
      ·rw [if_pos c14] at H;have c14b0:=eq_true c14;have c14b1:decide (t104.size + t103.size ≤ 9223372036854775807) = true:=decide_eq_true c14;try have c14b2:(9223372036854775807 < t104.size + t103.size) = False:=eq_false (Nat.not_lt.2 c14)
       by_cases c15:(x7_4 ++ t102).size + 1 ≤ 9223372036854775807
       ·rw [if_pos c15] at H;have c15b0:=eq_true c15;have c15b1:decide ((x7_4 ++ t102).size + 1 ≤ 9223372036854775807) = true:=decide_eq_true c15;try have c15b2:(9223372036854775807 < (x7_4 ++ t102).size + 1) = False:=eq_false (Nat.not_lt.2 c15)
        have c15b9_:(9223372036854775807 < x7_4.size + t102.size + 1) = False:=eq_false (by have h_:=c15;simp only [ByteArray.size_append] at h_;first|omega|(have h1_:∀ b:UInt8,(⟨#[b]⟩:ByteArray).size = 1:=fun _=>rfl;simp only [h1_] at h_;omega));replace H:=Option.bind_eq_some_iff.mp H;obtain ⟨t105,A160,H⟩:=H;replace H:(if ((x7_4 ++ t102) ++ (⟨#[46]⟩:ByteArray)).size + t105.size ≤ 9223372036854775807 then (some (((x7_4 ++ t102) ++ (⟨#[46]⟩:ByteArray)) ++ t105,0)) else (none)) = some (r1,r2):=H;have A16:=Aside0.mk A160;clear A160;by_cases c17:((x7_4 ++ t102) ++ (⟨#[46]⟩:ByteArray)).size + t105.size ≤ 9223372036854775807
        ·rw [if_pos c17] at H;have c17b0:=eq_true c17;have c17b1:decide (((x7_4 ++ t102) ++ (⟨#[46]⟩:ByteArray)).size + t105.size ≤ 9223372036854775807) = true:=decide_eq_true c17;try have c17b2:(9223372036854775807 < ((x7_4 ++ t102) ++ (⟨#[46]⟩:ByteArray)).size + t105.size) = False:=eq_false (Nat.not_lt.2 c17)
         have c17b9_:(9223372036854775807 < x7_4.size + t102.size + 1 + t105.size) = False:=eq_false (by have h_:=c17;simp only [ByteArray.size_append] at h_;first|omega|(have h1_:∀ b:UInt8,(⟨#[b]⟩:ByteArray).size = 1:=fun _=>rfl;simp only [h1_] at h_;omega));simp only [Option.some.injEq,Prod.mk.injEq] at H;obtain ⟨rfl,rfl⟩:=H;go_wp2_with (first|((with_reducible refine gate_callee (f:=15) rfl ?_);refine goesL_ (some 28) rfl rfl Tryd.func15 (by kernel_rfl) rfl #[.int .i64 x0_4] rfl (by (try simp only [List.map_toArray,List.map_cons,List.map_nil]);first|done|rfl|(simp only [List.length_drop,List.length_take];rfl)) ?_;(with_reducible refine (strconv_Itoa_15.calls x0_4 t102 _ (by first|exact HT0|exact ⟨tab_on HT0.out HB.out⟩|exact ⟨tab_on HT0.out (by repeat (first|(with_reducible first|exact HB.out|apply bwA|apply pwbN|apply bw1)|exact HB.out|exact Below.refl _ _))⟩) A8.out).mono ?_);rintro e w18 ⟨rfl,hb⟩;refine ⟨_,rfl,?_⟩;have n0_:=Aside0.mk (below_step (by repeat (first|(with_reducible first|exact HB.out|apply bwA|apply pwbN|apply bw1)|exact HB.out)) hb);clear HB;have HB:=n0_;clear n0_;(try clear hb);(try clear hb2);(try clear hk);(try clear hi))|((with_reducible refine gate_callee (f:=15) rfl ?_);refine goesL_ (some 34) rfl rfl Tryd.func15 (by kernel_rfl) rfl #[.int .i64 x1_4] rfl (by (try simp only [List.map_toArray,List.map_cons,List.map_nil]);first|done|rfl|(simp only [List.length_drop,List.length_take];rfl)) ?_;(with_reducible refine (strconv_Itoa_15.calls x1_4 t103 _ (by first|exact HT0|exact ⟨tab_on HT0.out HB.out⟩|exact ⟨tab_on HT0.out (by repeat (first|(with_reducible first|exact HB.out|apply bwA|apply pwbN|apply bw1)|exact HB.out|exact Below.refl _ _))⟩) A12.out).mono ?_);rintro e w19 ⟨rfl,hb⟩;refine ⟨_,rfl,?_⟩;have n0_:=Aside0.mk (below_step (by repeat (first|(with_reducible first|exact HB.out|apply bwA|apply pwbN|apply bw1)|exact HB.out)) hb);clear HB;have HB:=n0_;clear n0_;(try clear hb);(try clear hb2);(try clear hk);(try clear hi))|((with_reducible refine gate_callee (f:=34) rfl ?_);refine goesL_ (some 38) rfl rfl Tryd.func34 (by kernel_rfl) rfl #[.string (⟨#[48]⟩:ByteArray),.int .i64 (wrap64 (9 - (t103.size:Int)))] rfl (by (have hw9_:wrap64 (9 - (t103.size:Int)) = 9 - (t103.size:Int):=by unfold wrap64;omega);(try rw [hw9_]);(try simp only [List.map_toArray,List.map_cons,List.map_nil]);first|done|rfl|(simp only [List.length_drop,List.length_take];rfl)) ?_;(with_reducible refine (strings_Repeat.calls (⟨#[48]⟩:ByteArray) (wrap64 (9 - (t103.size:Int))) t104 _ A13.out).mono ?_);rintro e w20 ⟨rfl,hb⟩;refine ⟨_,rfl,?_⟩;have n0_:=Aside0.mk (below_step (by repeat (first|(with_reducible first|exact HB.out|apply bwA|apply pwbN|apply bw1)|exact HB.out)) hb);clear HB;have HB:=n0_;clear n0_;(try clear hb);(try clear hb2);(try clear hk);(try clear hi))|((with_reducible refine gate_callee (f:=35) rfl ?_);refine goesL_ (some 44) rfl rfl Tryd.func35 (by kernel_rfl) rfl #[.string (t104 ++ t103),.string (⟨#[48]⟩:ByteArray)] rfl (by (try simp only [List.map_toArray,List.map_cons,List.map_nil]);first|done|rfl|(simp only [List.length_drop,List.length_take];rfl)) ?_;(with_reducible refine (strings_TrimRight.calls (t104 ++ t103) (⟨#[48]⟩:ByteArray) t105 _ A16.out).mono ?_);rintro e w' ⟨rfl,⟨nd,rfl⟩⟩;refine ⟨_,rfl,?_⟩))
         go_ret2
         exact ⟨by first|rfl|(simp [errW_none,errW_some] <;> rfl)|(simp [*,errW_none,errW_some] <;> rfl),by repeat (first|(with_reducible first|exact HB.out|apply bwA|apply pwbN|apply bw1)|exact HB.out)⟩
        ·rw [if_neg c17] at H;exact absurd H (by simp)
       ·rw [if_neg c15] at H;exact absurd H (by simp)
      ·rw [if_neg c14] at H;exact absurd H (by simp)
    ·rw [if_neg c9] at H;exact absurd H (by simp)
 ·rw [if_neg c4] at H;have c4b0:(t101 == 0) = false:=beq_eq_false_iff_ne.mpr c4;have c4b1:(t101 != 0) = true:=bne_iff_ne.mpr c4;simp only [Option.some.injEq,Prod.mk.injEq] at H;obtain ⟨rfl,rfl⟩:=H;go_enter Tryd.func23,Tryd.ntmps23;go_wp2_with (first|((with_reducible refine gate_callee (f:=32) rfl ?_);refine goesL_ (some 12) rfl rfl Tryd.func32 (by kernel_rfl) rfl #[.int .i64 a0,.int .i64 a1] rfl (by (try simp only [List.map_toArray,List.map_cons,List.map_nil]);first|done|rfl|(simp only [List.length_drop,List.length_take];rfl)) ?_;(with_reducible refine (stamp_Check.calls a0 a1 t101 _ A3.out).mono ?_);rintro e w' ⟨rfl,⟨nd,rfl⟩⟩;refine ⟨_,rfl,?_⟩))
  go_ret2
  exact ⟨by first|rfl|(simp [errW_none,errW_some] <;> rfl)|(simp [*,errW_none,errW_some] <;> rfl),by repeat (first|(with_reducible first|exact HB.out|apply bwA|apply pwbN|apply bw1)|exact HB.out)⟩
def cut_Two.here (s:ByteArray) (i:Nat):Bool:=bt s i == 47 && decide (0 < i) && decide (i ≤ 155) && decide (i + 1 < s.size) && decide (s.size ≤ i + 101)
def cut_Two.l0:Nat→ByteArray→Nat→Option (ByteArray × ByteArray × Int)
 | 0,_,_=>none
 | k + 1,s,i=>if i < s.size then (if cut_Two.here s i = true then some (s.extract 0 i,s.extract (i + 1) s.size,0) else cut_Two.l0 k s (i + (Utf8.decode s i).2)) else some ((⟨#[]⟩:ByteArray),(⟨#[]⟩:ByteArray),1)
def cut_Two.f (k:Nat) (a0:ByteArray):Option (ByteArray × ByteArray × Int):=if a0.size ≤ 9223372036854775807 then (if a0.toList = ([]:List UInt8) then some ((⟨#[]⟩:ByteArray),(⟨#[]⟩:ByteArray),3) else ((strings_IndexByte.f a0 0).bind fun t=>(if t ≥ 0 then some ((⟨#[]⟩:ByteArray),(⟨#[]⟩:ByteArray),3) else if (a0.size:Int) ≤ 100 then some ((⟨#[]⟩:ByteArray),a0,0) else cut_Two.l0 k a0 0))) else none
set_option maxHeartbeats 4000000 in
set_option maxRecDepth 100000 in
theorem cut_Two.calls (k:Nat) (a0:ByteArray) (r1:ByteArray) (r2:ByteArray) (r3:Int) (w:World) (h:cut_Two.f k a0 = some (r1,r2,r3)) :
 Calls Tryd.prog 25 #[.string a0] w fun e w'=>e = .returned (.tuple #[.string r1,.string r2,.int .i64 r3])∧Below w.heap.size w w':=by
 unfold cut_Two.f at h;by_cases hsz:a0.size ≤ 9223372036854775807
 rotate_left
 ·rw [if_neg hsz] at h;cases h
 rw [if_pos hsz] at h;have cI:=fun t (A:strings_IndexByte.f a0 0 = some t) (W:World)=>strings_IndexByte.calls a0 0 t W A
 by_cases c1:a0.toList = ([]:List UInt8)
 ·rw [if_pos c1] at h;simp only [Option.some.injEq,Prod.mk.injEq] at h;obtain ⟨rfl,rfl,rfl⟩:=h;go_enter Tryd.func25,Tryd.ntmps25;go_wp2_with fail
  go_ret3
  exact ⟨rfl,Below.refl _ _⟩
 ·rw [if_neg c1] at h;have c1a:(a0.toList == ([]:List UInt8)) = false:=beq_eq_false_iff_ne.2 c1;have c1b:a0.toList.isEmpty = false:=by simpa using c1
  obtain ⟨t,A0,h⟩:=Option.bind_eq_some_iff.1 h;have A:=Aside0.mk A0;clear A0;by_cases c2:t ≥ 0
  ·rw [if_pos c2] at h;simp only [Option.some.injEq,Prod.mk.injEq] at h;obtain ⟨rfl,rfl,rfl⟩:=h;have c2b:decide (0 ≤ t) = true:=decide_eq_true c2;clear c1;go_enter Tryd.func25,Tryd.ntmps25;go_wp2_with (go_at_call 19;refine (cI t A.out _).mono ?_;rintro e w' ⟨rfl,⟨nd,rfl⟩⟩)
   go_ret3
   exact ⟨rfl,pwbN (Below.refl _ _) _⟩
  ·rw [if_neg c2] at h;have c2b:decide (0 ≤ t) = false:=decide_eq_false c2;clear c1 c2;by_cases c3:(a0.size:Int) ≤ 100
   ·rw [if_pos c3] at h;simp only [Option.some.injEq,Prod.mk.injEq] at h;obtain ⟨rfl,rfl,rfl⟩:=h;have c3b:decide ((a0.size:Int) ≤ 100) = true:=decide_eq_true c3;go_enter Tryd.func25,Tryd.ntmps25;go_wp2_with (go_at_call 19;refine (cI t A.out _).mono ?_;rintro e w' ⟨rfl,⟨nd,rfl⟩⟩)
    go_ret3
    exact ⟨rfl,pwbN (Below.refl _ _) _⟩
   ·rw [if_neg c3] at h;have c3b:decide ((a0.size:Int) ≤ 100) = false:=decide_eq_false c3;have H:=Aside0.mk h;clear h;go_enter Tryd.func25,Tryd.ntmps25;go_wp2_with (go_at_call 19;refine (cI t A.out _).mono ?_;rintro e w' ⟨rfl,⟨nd,rfl⟩⟩)
    clear cI A c2b c3b c1a c1b;go_loopg [] k (fun kq wx=>∃ pos:Nat,wx.heap[w.heap.size]? = some (.stringIter a0 pos)∧Aside0 (cut_Two.l0 kq a0 pos = some (r1,r2,r3))∧Aside0 (Below w.heap.size w wx))
    case atStart=>exact ⟨0,by simpa using World.iter_heap (w.drewN nd) a0 0,H,⟨(pwbN (Below.refl _ _) _).alloc (by simp) _⟩⟩
    case round =>
     clear H;obtain ⟨pos,hit,HA,HB⟩:=hrel;cases gk with
     | zero=>exact absurd HA.out (by simp [cut_Two.l0])
     | succ k1 =>
      have h:=HA.out;clear HA;simp only [cut_Two.l0] at h;by_cases hps:pos < a0.size
      ·rw [if_pos hps] at h;have hwd:=Lib.width_pos a0 pos;have hnx:∀ ty,(Instr.next (.pointer (some ⟨w.heap.size,0,none⟩)) true ty).run Tryd.prog wr = _:=fun ty=>Lib.run_next_any_at wr w.heap.size a0 pos ty hit hps
       obtain ⟨R,hR⟩:∃ R,(Utf8.decode a0 pos).1 = R:=⟨_,rfl⟩
       obtain ⟨K,hK⟩:∃ K,(Utf8.decode a0 pos).2 = K:=⟨_,rfl⟩
       rw [hR,hK] at hnx;rw [hK] at hwd h;clear hR hK;have hit2:=Lib.iterAt_heap wr w.heap.size a0 pos (pos + K) hit;have HB2:=Aside0.mk (Lib.below_iterAt HB.out (k:=w.heap.size) (Nat.le_refl _) a0 (pos + K));clear HB hit;obtain ⟨W,hWd⟩:∃ W,wr.iterAt w.heap.size a0 (pos + K) = W:=⟨_,rfl⟩
       rw [hWd] at hnx hit2 HB2;clear hWd;obtain ⟨B,hB⟩:∃ B,bt a0 (pos:Int) = B:=⟨_,rfl⟩
       have hbt:((a0[pos]'hps).toNat:Int) = B:=by rw [← hB];exact bt_at a0 pos (by simpa using hps)
       have hH:cut_Two.here a0 pos = (B == 47 && decide (0 < pos) && decide (pos ≤ 155) && decide (pos + 1 < a0.size) && decide (a0.size ≤ pos + 101)):=by unfold cut_Two.here;rw [hB]
       rw [hH] at h;clear hH hB;have e1:IntKind.i64.wrap ((a0.size:Int) - (pos:Int)) = (a0.size:Int) - pos:=by rw [i64_w];unfold wrap64;omega
       by_cases t1:B = 47
       ·have t1b:(B == 47) = true:=beq_iff_eq.2 t1;clear t1;by_cases t2:0 < pos
        ·have t2b:decide ((0:Int) < (pos:Int)) = true:=decide_eq_true (by omega);by_cases t3:pos ≤ 155
         ·have t3b:decide ((pos:Int) ≤ 155) = true:=decide_eq_true (by omega);by_cases t4:pos + 1 < a0.size
          ·have t4b:decide ((0:Int) < (a0.size:Int) - (pos:Int) - 1) = true:=decide_eq_true (by omega);by_cases t5:a0.size ≤ pos + 101
           ·have t5b:decide ((a0.size:Int) - (pos:Int) - 1 ≤ 100) = true:=decide_eq_true (by omega);have h':=h;rw [t1b,decide_eq_true t2,decide_eq_true t3,decide_eq_true t4,decide_eq_true t5] at h';simp only [Bool.and_self,if_true,Option.some.injEq,Prod.mk.injEq] at h';obtain ⟨rfl,rfl,rfl⟩:=h';clear h;go_wp2;go_quiet (fail)
            go_wp2;go_ret3
            exact ⟨by simp,pwbN HB2.out _⟩
           ·have t5b:decide ((a0.size:Int) - (pos:Int) - 1 ≤ 100) = false:=decide_eq_false (by omega);rw [t1b,decide_eq_true t2,decide_eq_true t3,decide_eq_true t4,decide_eq_false t5] at h;simp only [Bool.and_false,Bool.false_and,Bool.false_eq_true,if_false] at h;have h':=Aside0.mk h;clear h;go_wp2;go_roundg k1
            case measure=>omega
            case rel=>exact ⟨pos + K,hit2,h',HB2⟩
          ·have t4b:decide ((0:Int) < (a0.size:Int) - (pos:Int) - 1) = false:=decide_eq_false (by omega);rw [t1b,decide_eq_true t2,decide_eq_true t3,decide_eq_false t4] at h;simp only [Bool.and_false,Bool.false_and,Bool.false_eq_true,if_false] at h;have h':=Aside0.mk h;clear h;go_wp2;go_roundg k1
           case measure=>omega
           case rel=>exact ⟨pos + K,hit2,h',HB2⟩
         ·have t3b:decide ((pos:Int) ≤ 155) = false:=decide_eq_false (by omega);rw [t1b,decide_eq_true t2,decide_eq_false t3] at h;simp only [Bool.and_false,Bool.false_and,Bool.false_eq_true,if_false] at h;have h':=Aside0.mk h;clear h;go_wp2;go_roundg k1
          case measure=>omega
          case rel=>exact ⟨pos + K,hit2,h',HB2⟩
        ·have t2b:decide ((0:Int) < (pos:Int)) = false:=decide_eq_false (by omega);rw [t1b,decide_eq_false t2] at h;simp only [Bool.and_false,Bool.false_and,Bool.false_eq_true,if_false] at h;have h':=Aside0.mk h;clear h;go_wp2;go_roundg k1
         case measure=>omega
         case rel=>exact ⟨pos + K,hit2,h',HB2⟩
       ·have t1b:(B == 47) = false:=beq_eq_false_iff_ne.2 t1;rw [t1b] at h;simp only [Bool.and_false,Bool.false_and,Bool.false_eq_true,if_false] at h;have h':=Aside0.mk h;clear h t1;go_wp2;go_roundg k1
        case measure=>omega
        case rel=>exact ⟨pos + K,hit2,h',HB2⟩
      ·rw [if_neg hps] at h;simp only [Option.some.injEq,Prod.mk.injEq] at h;obtain ⟨rfl,rfl,rfl⟩:=h;have hnx:∀ ty,(Instr.next (.pointer (some ⟨w.heap.size,0,none⟩)) true ty).run Tryd.prog wr = _:=fun ty=>Lib.run_next_end_at wr w.heap.size a0 pos ty hit hps
       go_wp2;go_ret3
       exact ⟨rfl,HB.out⟩
end Go.Proofs.YtenbelecmmpdgaaDoor.All
end
section
namespace Go.Proofs.YtenbelecmmpdgaaDoor.All
open Go.RowKit Go.Proofs.YtenbelecmmpdgaaDoorW.PrintWords Go.Proofs.YtenbelecmmpdgaaDoorW.PrintLast Go.Proofs.YtenbelecmmpdgaaDoorW.PrintMore
open Go.Proofs.YtenbelecmmpdgaaDoorW.Mine
attribute [local go_sem] gtr_string leq_string geq_string
attribute [local go_sem] max2_int min2_int max_two min_two max_three min_three max_four min_four
set_option linter.unusedVariables false
set_option linter.unusedSimpArgs false
open Go.Proofs.YtenbelecmmpdgaaDoorW.MapOwn
theorem member_pack.szR:(Tryd.prog.info? 27).map (·.size) = some 1:=by kernel_rfl
theorem member_pack.infoR:(Tryd.prog.info? 43).map (fun i=>(i.zero,i.size,i.bytes)) = some (some (.agg #[.string (⟨#[]⟩:ByteArray),.string (⟨#[]⟩:ByteArray)]),2,32):=by kernel_rfl
theorem member_pack.builtR (a b:ByteArray):Tryd.prog.built 43 [(0,.string a),(1,.string b)] = some #[.string a,.string b]:=by kernel_rfl
theorem member_pack.set_event {P:Program} {ops:Array Oper} {rest:List Oper} {o:Oper} {a:Act} {Q:Exit→Act→World→Prop} {W:World} (hgd:o.guard = none) (hd:o.dst = none) {t:TypeId} {x y:Operand} (ho:o.op = .store t x y) {g j:Nat} {v:Value} {cs:Array Value} {T:TypeId} (hx:a.eval x = .pointer (some ⟨g,j,none⟩)) (hy:a.eval y = v) (hok:(match v with|.int _ _=>true|.string _=>true|.slice _ _ _=>true|.bool _=>true|_=>false) = true) (hsz:(P.info? t).map (·.size) = some 1) (hg:W.heap[g]? = some (.cells cs T (0,0))) (hj:j < cs.size) (h:∀ W',W'.heap[g]? = some (.cells (cs.setIfInBounds j v) T (0,0))→W.grownBy W' (some g)→wpList P ops Q rest a W'):wpList P ops Q (o :: rest) a W:=by
 refine wpList_plain hgd fun K hK=>?_
 obtain ⟨i0,hi0,hi1⟩:=Option.map_eq_some_iff.1 hsz;have hc:W.cell? ⟨g,j,none⟩ = some (cs[j]):=(blk_cell hg j).trans (by simp [hj]);have hrun:(Instr.storeAt t (.pointer (some ⟨g,j,none⟩)) v).run P W = .ok () (W.setCell ⟨g,j,none⟩ v):=by
  cases v <;> first|(simp [Instr.storeAt,Instr.sureAddr,storeVar,sizeOf,typeInfo,hi0,hi1,Value.cells,storeCells,go_sem,hc,blkF hg j];done)|(exfalso;revert hok;simp)
 unfold Oper.wp execOp;simp only [ho,hx,hy,Sem.run_bind,hrun,Result.andThen_ok];refine hK _ _ ?_;rw [hd];exact h _ (blk_put hg j _ rfl) (Go.Proofs.YtenbelecmmpdgaaDoorW.Blks.grownBy_setCell W g j _)
theorem member_pack.build_event {P:Program} {ops:Array Oper} {rest:List Oper} {o:Oper} {a:Act} {Q:Exit→Act→World→Prop} {W:World} (hgd:o.guard = none) {t:TypeId} {parts:Array (Nat × Operand)} (ho:o.op = .build t parts) {cells:Array Value} (hp:P.built t (parts.map fun (i,x)=>(i,a.eval x)).toList = some cells) (h:wpList P ops Q rest (a.put o.dst (.agg cells)) W):wpList P ops Q (o :: rest) a W:=by
 refine wpList_build hgd t parts ho (by rw [hp];rfl) ?_;rw [hp];exact h
theorem member_pack.say (gp base:Nat) (cells:Array Value) (v:Value) (recs:List (S43)) (key val:ByteArray) (W:World) (hg:W.heap[gp]? = some (.cells cells 39 (0,0))) (hsz:cells.size = 12) (hv:cells[11]? = some v) (hgb:base ≤ gp) (hr:Kd.R k43 43 W base (fun _=>True) v recs) (hb:base ≤ W.heap.size) (hl:recs.length < 1000000000000) :
 Calls Tryd.prog 24 #[.pointer (some ⟨gp,0,none⟩),.string key,.string val] W fun e w'=>e = .returned (.tuple #[])∧∃ v',w'.heap[gp]? = some (.cells (cells.setIfInBounds 11 v') 39 (0,0))∧Kd.R k43 43 w' base (fun _=>True) v' (recs ++ [(⟨key,val⟩:S43)])∧Below base W w':=by
 have HG:=Aside0.mk hg;have HSZ:=Aside0.mk hsz;have HGB:=Aside0.mk hgb;have HR:=Aside0.mk hr;have HBA:=Aside0.mk hb;have HL:=Aside0.mk hl;have HNE:=Aside0.mk (Kd.R_ne hr hg (by decide));have hc11:W.cell? ⟨gp,11,none⟩ = some v:=(blk_cell hg 11).trans hv;obtain ⟨A0,c0,e0⟩:=Kd.R_slice hr;subst e0;clear hg hsz hv hgb hr hb hl;go_enter Tryd.func24,Tryd.ntmps24;go_wp2_with (first|((with_reducible refine gate_dst (N:=13) rfl ?_);refine member_pack.build_event rfl rfl (by (try simp only [List.map_toArray,List.map_cons,List.map_nil]);exact member_pack.builtR _ _) ?_)|((with_reducible refine gate_builtin (b := .append) (xs:=#[.tmp 10,.tmp 14]) rfl ?_);at_builtin;refine Kd.R_append k43 (w0:=W) base rfl (.tmp 10) (.tmp 14) 27 43 (.agg #[.string (⟨#[]⟩:ByteArray),.string (⟨#[]⟩:ByteArray)]) 32 rfl Tryd.underlying27 member_pack.infoR rfl (by decide) (by omega) _ recs (⟨key,val⟩:S43) [.string key,.string val] (fun _=>True) (fun _=>False) rfl (by first|(go_simp;done)|(go_simp;rfl)) (k43_mkM _ _ _ (⟨key,val⟩:S43)) (fun _ hk=>hk.elim) (fun _ _=>trivial) HR.out (Below.refl base W) HBA.out (by have:=HL.out;omega) ?_;intro v1 w1 ho hb hg hat;obtain ⟨A1,c1,e1⟩:=Kd.R_slice ho;rw [List.length_append,List.length_singleton] at e1;subst e1;have HR1:=Aside0.mk ho;have HB1:=Aside0.mk hb;have HG1:=Aside0.mk (blk_grown HG.out hg HNE.out);clear ho hb hg hat hc11)|((with_reducible refine gate_store (t:=27) (p:=17) rfl ?_);refine member_pack.set_event rfl rfl rfl rfl rfl rfl member_pack.szR HG1.out (by rw [HSZ.out];omega) ?_;intro w2 hk3 hg3;have HG2:=Aside0.mk hk3;have HB2:=Aside0.mk (below_grown HB1.out hg3 HGB.out (blk_lt HG1.out));have HR2:=Aside0.mk (Kd.R_grown1 HR1.out rfl hg3 (fun e_=>Kd.R_ne HR1.out HG1.out (by decide) e_));clear hk3 hg3))
 go_end0
 exact ⟨rfl,_,HG2.out,HR2.out,HB2.out⟩
structure member_pack.Pk (w W:World) (gp:Nat) (H:List Value) (v:Value) (recs:List (S43)):Prop where
 blk:W.heap[gp]? = some (.cells (H ++ [v]).toArray 39 (0,0))
 len:H.length = 11
 ge:w.heap.size ≤ gp
 row:Kd.R k43 43 W w.heap.size (fun _=>True) v recs
 below:Below w.heap.size w W
section
variable {w W W':World} {gp:Nat} {H:List Value} {v:Value} {recs:List (S43)}
theorem member_pack.Pk.step (h:member_pack.Pk w W gp H v recs) (hb:Below W.heap.size W W'):member_pack.Pk w W' gp H v recs:=⟨blk_below h.blk hb,h.len,h.ge,Kd.R_below h.row hb,below_step h.below hb⟩
theorem member_pack.Pk.drewN (h:member_pack.Pk w W gp H v recs) (q:Nat):member_pack.Pk w (W.drewN q) gp H v recs:=h.step (pwbN (Below.refl _ _) q)
theorem member_pack.set_head (H:List Value) (v u:Value) (j:Nat) (hj:j < H.length):(H ++ [v]).toArray.setIfInBounds j u = (H.set j u ++ [v]).toArray:=by
 rw [List.setIfInBounds_toArray,List.set_append_left _ _ hj]
theorem member_pack.set_last (H:List Value) (v u:Value) (hl:H.length = 11):(H ++ [v]).toArray.setIfInBounds 11 u = (H ++ [u]).toArray:=by
 rw [List.setIfInBounds_toArray,List.set_append_right _ _ (by omega),hl];rfl
theorem member_pack.Pk.set (h:member_pack.Pk w W gp H v recs) {j:Nat} {u:Value} (hj:j < 11) (hk:W'.heap[gp]? = some (.cells ((H ++ [v]).toArray.setIfInBounds j u) 39 (0,0))) (hg:W.grownBy W' (some gp)):member_pack.Pk w W' gp (H.set j u) v recs:=by
 rw [member_pack.set_head H v u j (by rw [h.len];exact hj)] at hk;exact ⟨hk,by rw [List.length_set];exact h.len,h.ge,Kd.R_grown1 h.row rfl hg (fun e_=>Kd.R_ne h.row h.blk (by decide) e_),below_grown h.below hg h.ge (blk_lt h.blk)⟩
theorem member_pack.say2 (h:member_pack.Pk w W gp H v recs) (key val:ByteArray) (hl:recs.length < 1000000000000) :
 Calls Tryd.prog 24 #[.pointer (some ⟨gp,0,none⟩),.string key,.string val] W fun e w'=>e = .returned (.tuple #[])∧∃ v',member_pack.Pk w w' gp H v' (recs ++ [(⟨key,val⟩:S43)]):=by
 refine (member_pack.say gp w.heap.size (H ++ [v]).toArray v recs key val W h.blk (by simp [h.len]) (by rw [List.getElem?_toArray,List.getElem?_append_right (by rw [h.len];exact Nat.le_refl _),h.len];rfl) h.ge h.row (below_size h.below) hl).mono ?_;rintro e w' ⟨rfl,v',h1,h2,h3⟩;rw [member_pack.set_last H v v' h.len] at h1;exact ⟨rfl,v',h1,h.len,h.ge,h2,h.below.trans h3⟩
end
def member_pack.num (recs:List (S43)) (key:ByteArray) (n width:Int):Option (Int × List (S43)):=(octal_Most.f width).bind fun m=>if n < 0 ∨ m.1 < n then (strconv_Itoa_15.f n).bind fun s=>if recs.length < 1000000000000 then some (0,recs ++ [⟨key,s⟩]) else none else some (n,recs)
def member_pack.txt (recs:List (S43)) (key s:ByteArray) (most:Int) (instead:ByteArray):Option (ByteArray × List (S43)):=if most < (s.size:Int) then (if recs.length < 1000000000000 then some (instead,recs ++ [⟨key,s⟩]) else none) else some (s,recs)
set_option maxHeartbeats 8000000 in
set_option maxRecDepth 100000 in
theorem member_pack.number (w W:World) (gp:Nat) (H:List Value) (v:Value) (recs:List (S43)) (key:ByteArray) (n width:Int) (r:Int) (recs':List (S43)) (hp:member_pack.Pk w W gp H v recs) (HT0:Aside0 (Tab w)) (h:member_pack.num recs key n width = some (r,recs')) :
 Calls Tryd.prog 20 #[.pointer (some ⟨gp,0,none⟩),.string key,.int .i64 n,.int .i64 width] W fun e w'=>e = .returned (.int .i64 r)∧∃ v',member_pack.Pk w w' gp H v' recs':=by
 have HP:=Aside0.mk hp;clear hp;unfold member_pack.num at h;obtain ⟨⟨m1,m2⟩,hm,h⟩:=Option.bind_eq_some_iff.1 h;have HM:=Aside0.mk hm;clear hm;by_cases c1:n < 0 ∨ m1 < n
 ·rw [if_pos c1] at h;obtain ⟨s,hs,h⟩:=Option.bind_eq_some_iff.1 h;have HS:=Aside0.mk hs;by_cases c2:recs.length < 1000000000000
  ·rw [if_pos c2] at h;obtain ⟨rfl,rfl⟩:=Prod.mk.inj (Option.some.inj h);have HL:=Aside0.mk c2;clear h hs c2;by_cases c3:n < 0
   ·have c3b:decide (n < 0) = true:=decide_eq_true c3;clear c1 c3;go_enter Tryd.func20,Tryd.ntmps20;go_wp2_with (first|(go_at_call 22;refine (octal_Most.calls width m1 m2 _ HM.out).mono ?_;rintro e w1 ⟨rfl,⟨nd,rfl⟩⟩;have HP1:=Aside0.mk (HP.out.drewN nd);clear HP;have HP:=HP1;clear HP1)|(go_at_call 15;refine (strconv_Itoa_15.calls n s _ (by first|exact ⟨tab_on HT0.out HP.out.below⟩) HS.out).mono ?_;rintro e w2 ⟨rfl,hb2⟩;have HP2:=Aside0.mk (HP.out.step hb2);clear HP hb2;have HP:=HP2;clear HP2)|(go_at_call 24;refine (member_pack.say2 HP.out key s HL.out).mono ?_;rintro e w3 ⟨rfl,v3,hp3⟩;have HP3:=Aside0.mk hp3;clear HP hp3;have HP:=HP3;clear HP3))
    go_ret
    exact ⟨rfl,_,HP.out⟩
   ·have c3b:decide (n < 0) = false:=decide_eq_false c3;have c4b:decide (m1 < n) = true:=decide_eq_true (by omega);clear c1 c3;go_enter Tryd.func20,Tryd.ntmps20;go_wp2_with (first|(go_at_call 22;refine (octal_Most.calls width m1 m2 _ HM.out).mono ?_;rintro e w1 ⟨rfl,⟨nd,rfl⟩⟩;have HP1:=Aside0.mk (HP.out.drewN nd);clear HP;have HP:=HP1;clear HP1)|(go_at_call 15;refine (strconv_Itoa_15.calls n s _ (by first|exact ⟨tab_on HT0.out HP.out.below⟩) HS.out).mono ?_;rintro e w2 ⟨rfl,hb2⟩;have HP2:=Aside0.mk (HP.out.step hb2);clear HP hb2;have HP:=HP2;clear HP2)|(go_at_call 24;refine (member_pack.say2 HP.out key s HL.out).mono ?_;rintro e w3 ⟨rfl,v3,hp3⟩;have HP3:=Aside0.mk hp3;clear HP hp3;have HP:=HP3;clear HP3))
    go_ret
    exact ⟨rfl,_,HP.out⟩
  ·rw [if_neg c2] at h;cases h
 ·rw [if_neg c1] at h;obtain ⟨rfl,rfl⟩:=Prod.mk.inj (Option.some.inj h);have c3b:decide (n < 0) = false:=decide_eq_false (by omega);have c4b:decide (m1 < n) = false:=decide_eq_false (by omega);clear h c1;go_enter Tryd.func20,Tryd.ntmps20;go_wp2_with (go_at_call 22;refine (octal_Most.calls width m1 m2 _ HM.out).mono ?_;rintro e w1 ⟨rfl,⟨nd,rfl⟩⟩;have HP1:=Aside0.mk (HP.out.drewN nd);clear HP;have HP:=HP1;clear HP1)
  go_ret
  exact ⟨rfl,_,HP.out⟩
set_option maxHeartbeats 8000000 in
set_option maxRecDepth 100000 in
theorem member_pack.text (w W:World) (gp:Nat) (H:List Value) (v:Value) (recs:List (S43)) (key s:ByteArray) (most:Int) (instead r:ByteArray) (recs':List (S43)) (hp:member_pack.Pk w W gp H v recs) (h:member_pack.txt recs key s most instead = some (r,recs')) :
 Calls Tryd.prog 21 #[.pointer (some ⟨gp,0,none⟩),.string key,.string s,.int .i64 most,.string instead] W fun e w'=>e = .returned (.string r)∧∃ v',member_pack.Pk w w' gp H v' recs':=by
 have HP:=Aside0.mk hp;clear hp;unfold member_pack.txt at h;by_cases c1:most < (s.size:Int)
 ·rw [if_pos c1] at h;have c1b:decide (most < (s.size:Int)) = true:=decide_eq_true c1;by_cases c2:recs.length < 1000000000000
  ·rw [if_pos c2] at h;obtain ⟨rfl,rfl⟩:=Prod.mk.inj (Option.some.inj h);have HL:=Aside0.mk c2;clear h c1 c2;go_enter Tryd.func21,Tryd.ntmps21;go_wp2_with (go_at_call 24;refine (member_pack.say2 HP.out key s HL.out).mono ?_;rintro e w3 ⟨rfl,v3,hp3⟩;have HP3:=Aside0.mk hp3;clear HP hp3;have HP:=HP3;clear HP3)
   go_ret
   exact ⟨rfl,_,HP.out⟩
  ·rw [if_neg c2] at h;cases h
 ·rw [if_neg c1] at h;obtain ⟨rfl,rfl⟩:=Prod.mk.inj (Option.some.inj h);have c1b:decide (most < (s.size:Int)) = false:=decide_eq_false c1;clear h c1;go_enter Tryd.func21,Tryd.ntmps21;go_wp2;go_ret
  exact ⟨rfl,_,HP.out⟩
def member_pack.tim (k:Nat) (recs:List (S43)) (sec nano:Int):Option (Int × List (S43)):=(octal_Most.f 12).bind fun m=>if 0 < nano ∨ sec < 0 ∨ m.1 < sec then (stamp_Text.f k sec nano).bind fun s=>if recs.length < 1000000000000 then some (0,recs ++ [⟨(⟨#[109,116,105,109,101]⟩:ByteArray),s.1⟩]) else none else some (sec,recs)
def member_pack.nam (k:Nat) (recs:List (S43)) (p:ByteArray):Option (ByteArray × ByteArray × List (S43)):=(cut_Two.f k p).bind fun c=>if c.2.2 = 0 then some (c.1,c.2.1,recs) else if recs.length < 1000000000000 then some (c.1,(⟨#[64,108,111,110,103]⟩:ByteArray),recs ++ [⟨(⟨#[112,97,116,104]⟩:ByteArray),p⟩]) else none
def member_pack.f (k:Nat) (a0:ByteArray) (a1:Int) (a2:ByteArray) (a3 a4 a5:Int) (a6 a7:ByteArray) (a8 a9:Int) (l0:List Int):Option (S32 × List (S43)) :=
 if 0 ≤ a1∧a1 < 5 then (member_pack.num [] (⟨#[103,105,100]⟩:ByteArray) a5 8).bind fun g=>(member_pack.txt g.2 (⟨#[103,110,97,109,101]⟩:ByteArray) a7 31 (⟨#[]⟩:ByteArray)).bind fun gr=>(member_pack.txt gr.2 (⟨#[108,105,110,107,112,97,116,104]⟩:ByteArray) a2 100 (⟨#[64,108,111,110,103]⟩:ByteArray)).bind fun ln=>(member_pack.tim k ln.2 a8 a9).bind fun tm=>(member_pack.nam k tm.2 a0).bind fun nm=>(member_pack.num nm.2.2 (⟨#[117,105,100]⟩:ByteArray) a4 8).bind fun u=>(member_pack.txt u.2 (⟨#[117,110,97,109,101]⟩:ByteArray) a6 31 (⟨#[]⟩:ByteArray)).bind fun us=>some (⟨nm.2.1,nm.1,ln.1,a3,u.1,g.1,(l0.length:Int),tm.1,bt (⟨#[63,48,53,50,49]⟩:ByteArray) a1,us.1,gr.1⟩,us.2) else none
def member_pack.hd (x:S32):List Value:=[.string x.f0,.string x.f1,.string x.f2,.int .i64 x.f3,.int .i64 x.f4,.int .i64 x.f5,.int .i64 x.f6,.int .i64 x.f7,.int .u8 x.f8,.string x.f9,.string x.f10]
theorem member_pack.szS:(Tryd.prog.info? 9).map (·.size) = some 1:=by kernel_rfl
theorem member_pack.szI:(Tryd.prog.info? 3).map (·.size) = some 1:=by kernel_rfl
set_option maxHeartbeats 16000000 in
set_option maxRecDepth 100000 in
theorem member_pack.calls (k:Nat) (a0:ByteArray) (a1:Int) (a2:ByteArray) (a3 a4 a5:Int) (a6 a7:ByteArray) (a8 a9:Int) (A0:Option Addr) (c0:Nat) (l0:List Int) (r1:S32) (r2:List (S43)) (w:World) (HT0:Aside0 (Tab w)) (h:member_pack.f k a0 a1 a2 a3 a4 a5 a6 a7 a8 a9 l0 = some (r1,r2)) :
 Calls Tryd.prog 10 #[.agg #[.string a0,.int .i64 a1,.string a2,.int .i64 a3,.int .i64 a4,.int .i64 a5,.string a6,.string a7,.int .i64 a8,.int .i64 a9,.slice A0 l0.length c0]] w fun e w'=>∃ gp v,e = .returned (.pointer (some ⟨gp,0,none⟩))∧member_pack.Pk w w' gp (member_pack.hd r1) v r2:=by
 have hu26:=Tryd.underlying26;unfold member_pack.f at h;have c1:0 ≤ a1∧a1 < 5:=by
  by_cases c:0 ≤ a1∧a1 < 5
  ·exact c
  ·rw [if_neg c] at h;cases h
 rw [if_pos c1] at h;obtain ⟨⟨gi,re1⟩,h1,hq⟩:=Option.bind_eq_some_iff.1 h;clear h;have h:=hq;clear hq;have H1:=Aside0.mk h1;clear h1;obtain ⟨⟨gn,re2⟩,h2,hq⟩:=Option.bind_eq_some_iff.1 h;clear h;have h:=hq;clear hq;have H2:=Aside0.mk h2;clear h2;obtain ⟨⟨lk,re3⟩,h3,hq⟩:=Option.bind_eq_some_iff.1 h;clear h;have h:=hq;clear hq;have H3:=Aside0.mk h3;clear h3;obtain ⟨⟨tm,re4⟩,h4,hq⟩:=Option.bind_eq_some_iff.1 h;clear h;have h:=hq;clear hq;have H4:=Aside0.mk h4;clear h4;obtain ⟨⟨px,nm,re5⟩,h5,hq⟩:=Option.bind_eq_some_iff.1 h;clear h;have h:=hq;clear hq;have H5:=Aside0.mk h5;clear h5;obtain ⟨⟨ui,re6⟩,h6,hq⟩:=Option.bind_eq_some_iff.1 h;clear h;have h:=hq;clear hq;have H6:=Aside0.mk h6;clear h6;obtain ⟨⟨un,re7⟩,h7,hq⟩:=Option.bind_eq_some_iff.1 h;clear h;have h:=hq;clear hq;have H7:=Aside0.mk h7;clear h7;obtain ⟨rfl,rfl⟩:=Prod.mk.inj (Option.some.inj h);have p0:(0 ≤ a1) = True:=eq_true c1.1;have p1:(a1 < 5) = True:=eq_true c1.2;have HI:=Aside0.mk c1;have hbt:=bt_at (⟨#[63,48,53,50,49]⟩:ByteArray) a1;clear c1 h;go_enter Tryd.func10,Tryd.ntmps10;go_upto_region 1 with ((with_reducible refine gate_dst (N:=1) rfl ?_);refine box_event ?hg (N:=1) ?hd (cs:=#[.string a0,.int .i64 a1,.string a2,.int .i64 a3,.int .i64 a4,.int .i64 a5,.string a6,.string a7,.int .i64 a8,.int .i64 a9,.slice A0 l0.length c0]) (t:=26) ?hr ?_;(case hd=>rfl);(case hg=>rfl);(case hr=>first|(go_simp;done)|(go_simp;rfl));intro gx hg w1 hbox hb1;have HKX:=Aside0.mk hbox;have HB1:=Aside0.mk hb1;clear hg hbox hb1)
 have hc3:=blk_cell HKX.out 3;have hc10:=blk_cell HKX.out 10;have hc1:=blk_cell HKX.out 1;go_region_held3 (fun w'=>w'.cell? ⟨gx,3,none⟩ = some (.int .i64 a3)∧w'.cell? ⟨gx,10,none⟩ = some (.slice A0 l0.length c0)∧w'.cell? ⟨gx,1,none⟩ = some (.int .i64 a1)) (go_keep) (fail)
 clear hc3 hc10 hc1 p0 p1 hbt;have HTX:=Aside0.mk (tab_on HT0.out HB1.out);have hp0:member_pack.Pk w1 (w1.alloc (.cells #[.string (⟨#[]⟩:ByteArray),.string (⟨#[]⟩:ByteArray),.string (⟨#[]⟩:ByteArray),.int .i64 a3,.int .i64 0,.int .i64 0,.int .i64 (l0.length:Int),.int .i64 0,.int .u8 (bt (⟨#[63,48,53,50,49]⟩:ByteArray) a1),.string (⟨#[]⟩:ByteArray),.string (⟨#[]⟩:ByteArray),.slice none 0 0] 39)).drew w1.heap.size (member_pack.hd ⟨(⟨#[]⟩:ByteArray),(⟨#[]⟩:ByteArray),(⟨#[]⟩:ByteArray),a3,0,0,(l0.length:Int),0,bt (⟨#[63,48,53,50,49]⟩:ByteArray) a1,(⟨#[]⟩:ByteArray),(⟨#[]⟩:ByteArray)⟩) (.slice none 0 0) []:=⟨heap_alloc_new w1 _,rfl,Nat.le_refl _,Kd.R_nil _ _ _ _ _,below_drew (bwA (Below.refl _ _) _)⟩
 have HP:=Aside0.mk hp0;clear hp0;generalize hgp:w1.heap.size = gp at *;clear hgp;have hx5:=blk_cell (blk_below HKX.out HP.out.below) 5;go_upto_region 4 with (first|(go_at_call 20;refine (member_pack.number w1 _ _ _ _ _ _ _ _ _ _ HP.out HTX H1.out).mono ?_;rintro e w3 ⟨rfl,v3,hp3⟩;have HP3:=Aside0.mk hp3;clear hp3;clear HP;have HP:=HP3;clear HP3)|((with_reducible refine gate_store (t:=3) (p:=34) rfl ?_);refine member_pack.set_event rfl rfl rfl rfl rfl rfl member_pack.szI HP.out.blk (by simp [HP.out.len]) ?_;intro w4 hk3 hg3;have HP3:=Aside0.mk (show member_pack.Pk w1 w4 gp (member_pack.hd ⟨(⟨#[]⟩:ByteArray),(⟨#[]⟩:ByteArray),(⟨#[]⟩:ByteArray),a3,0,gi,(l0.length:Int),0,bt (⟨#[63,48,53,50,49]⟩:ByteArray) a1,(⟨#[]⟩:ByteArray),(⟨#[]⟩:ByteArray)⟩) _ _ from HP.out.set (j:=5) (u := .int .i64 gi) (by decide) hk3 hg3);clear hk3 hg3;clear HP;have HP:=HP3;clear HP3))
 have hx7:=blk_cell (blk_below HKX.out HP.out.below) 7;go_upto_region 5 with (first|(go_at_call 21;refine (member_pack.text w1 _ _ _ _ _ _ _ _ _ _ _ HP.out H2.out).mono ?_;rintro e w3 ⟨rfl,v3,hp3⟩;have HP3:=Aside0.mk hp3;clear hp3;clear HP;have HP:=HP3;clear HP3)|((with_reducible refine gate_store (t:=9) (p:=42) rfl ?_);refine member_pack.set_event rfl rfl rfl rfl rfl rfl member_pack.szS HP.out.blk (by simp [HP.out.len]) ?_;intro w4 hk3 hg3;have HP3:=Aside0.mk (show member_pack.Pk w1 w4 gp (member_pack.hd ⟨(⟨#[]⟩:ByteArray),(⟨#[]⟩:ByteArray),(⟨#[]⟩:ByteArray),a3,0,gi,(l0.length:Int),0,bt (⟨#[63,48,53,50,49]⟩:ByteArray) a1,(⟨#[]⟩:ByteArray),gn⟩) _ _ from HP.out.set (j:=10) (u := .string gn) (by decide) hk3 hg3);clear hk3 hg3;clear HP;have HP:=HP3;clear HP3))
 have hx2:=blk_cell (blk_below HKX.out HP.out.below) 2;go_upto_region 6 with (first|(go_at_call 21;refine (member_pack.text w1 _ _ _ _ _ _ _ _ _ _ _ HP.out H3.out).mono ?_;rintro e w3 ⟨rfl,v3,hp3⟩;have HP3:=Aside0.mk hp3;clear hp3;clear HP;have HP:=HP3;clear HP3)|((with_reducible refine gate_store (t:=9) (p:=49) rfl ?_);refine member_pack.set_event rfl rfl rfl rfl rfl rfl member_pack.szS HP.out.blk (by simp [HP.out.len]) ?_;intro w4 hk3 hg3;have HP3:=Aside0.mk (show member_pack.Pk w1 w4 gp (member_pack.hd ⟨(⟨#[]⟩:ByteArray),(⟨#[]⟩:ByteArray),lk,a3,0,gi,(l0.length:Int),0,bt (⟨#[63,48,53,50,49]⟩:ByteArray) a1,(⟨#[]⟩:ByteArray),gn⟩) _ _ from HP.out.set (j:=2) (u := .string lk) (by decide) hk3 hg3);clear hk3 hg3;clear HP;have HP:=HP3;clear HP3))
 have H:=H4.out;unfold member_pack.tim at H;obtain ⟨⟨m1,m2⟩,hm,hq⟩:=Option.bind_eq_some_iff.1 H;have HM:=Aside0.mk hm;have H4:=Aside0.mk hq;clear H hm hq;have hx8:=blk_cell (blk_below HKX.out HP.out.below) 8;have hx9:=blk_cell (blk_below HKX.out HP.out.below) 9;go_upto_region 7 with (go_at_call 22;refine (octal_Most.calls 12 m1 m2 _ HM.out).mono ?_;rintro e w1_ ⟨rfl,⟨nd,rfl⟩⟩;have HP3:=Aside0.mk (HP.out.drewN nd);clear HP;have HP:=HP3;clear HP3;have hx8:=blk_cell (blk_below HKX.out HP.out.below) 8;have hx9:=blk_cell (blk_below HKX.out HP.out.below) 9)
 go_cut [70] (fun v70 wc=>v70 = .bool (decide (0 < a9 ∨ a8 < 0 ∨ m1 < a8))∧Aside0 (member_pack.Pk w1 wc gp (member_pack.hd ⟨(⟨#[]⟩:ByteArray),(⟨#[]⟩:ByteArray),lk,a3,0,gi,(l0.length:Int),0,bt (⟨#[63,48,53,50,49]⟩:ByteArray) a1,(⟨#[]⟩:ByteArray),gn⟩) v3 re3))
 case first =>
  by_cases t1:0 < a9
  ·have t1b:decide (0 < a9) = true:=decide_eq_true t1;have td:decide (0 < a9 ∨ a8 < 0 ∨ m1 < a8) = true:=decide_eq_true (Or.inl t1);clear t1;go_wp2;go_meet
   case rel=>exact ⟨congrArg Value.bool td.symm,HP⟩
  ·have t1b:decide (0 < a9) = false:=decide_eq_false t1;by_cases t2:a8 < 0
   ·have t2b:decide (a8 < 0) = true:=decide_eq_true t2;have td:decide (0 < a9 ∨ a8 < 0 ∨ m1 < a8) = true:=decide_eq_true (Or.inr (Or.inl t2));clear t1 t2;go_wp2;go_meet
    case rel=>exact ⟨congrArg Value.bool td.symm,HP⟩
   ·have t2b:decide (a8 < 0) = false:=decide_eq_false t2;have td:decide (0 < a9 ∨ a8 < 0 ∨ m1 < a8) = decide (m1 < a8):=by rw [decide_eq_decide];exact ⟨fun h=>h.elim (fun h=>absurd h t1) (fun h=>h.elim (fun h=>absurd h t2) id),fun h=>Or.inr (Or.inr h)⟩
    clear t1 t2;go_wp2;go_meet
    case rel=>exact ⟨congrArg Value.bool td.symm,HP⟩
 case rest =>
 clear HP;obtain ⟨rfl,HP⟩:=hcut;have hx8:=blk_cell (blk_below HKX.out HP.out.below) 8;have hx9:=blk_cell (blk_below HKX.out HP.out.below) 9;go_upto_if 70 with (fail)
 go_cut [] (fun wc=>∃ vq,Aside0 (member_pack.Pk w1 wc gp (member_pack.hd ⟨(⟨#[]⟩:ByteArray),(⟨#[]⟩:ByteArray),lk,a3,0,gi,(l0.length:Int),tm,bt (⟨#[63,48,53,50,49]⟩:ByteArray) a1,(⟨#[]⟩:ByteArray),gn⟩) vq re4))
 case first =>
  have H:=H4.out;by_cases d:0 < a9 ∨ a8 < 0 ∨ m1 < a8
  ·have db:decide (0 < a9 ∨ a8 < 0 ∨ m1 < a8) = true:=decide_eq_true d;rw [if_pos d] at H;obtain ⟨⟨s1,s2⟩,hs,hq⟩:=Option.bind_eq_some_iff.1 H;have HS:=Aside0.mk hs;clear H hs d;have H:=hq;clear hq;by_cases d2:re3.length < 1000000000000
   ·rw [if_pos d2] at H;obtain ⟨rfl,rfl⟩:=Prod.mk.inj (Option.some.inj H);have HL:=Aside0.mk d2;clear H d2;try rw [db]
    go_wp2_with (first|(go_at_call 23;refine (stamp_Text.calls k a8 a9 s1 s2 _ ⟨tab_on HTX.out HP.out.below⟩ HS.out).mono ?_;rintro e w2 ⟨rfl,hb2⟩;have HP3:=Aside0.mk (HP.out.step hb2);clear HP hb2;have HP:=HP3;clear HP3)|(go_at_call 24;refine (member_pack.say2 HP.out (⟨#[109,116,105,109,101]⟩:ByteArray) s1 HL.out).mono ?_;rintro e w3 ⟨rfl,v3,hp3⟩;have HP3:=Aside0.mk hp3;clear HP hp3;have HP:=HP3;clear HP3))
    go_meet
    case rel=>exact ⟨_,HP⟩
   ·rw [if_neg d2] at H;cases H
  ·have db:decide (0 < a9 ∨ a8 < 0 ∨ m1 < a8) = false:=decide_eq_false d;rw [if_neg d] at H;obtain ⟨rfl,rfl⟩:=Prod.mk.inj (Option.some.inj H);clear H d;try rw [db]
   go_wp2_with ((with_reducible refine gate_store (t:=3) (p:=89) rfl ?_);refine member_pack.set_event rfl rfl rfl rfl rfl rfl member_pack.szI HP.out.blk (by simp [HP.out.len]) ?_;intro w4 hk3 hg3;have HP3:=Aside0.mk (show member_pack.Pk w1 w4 gp (member_pack.hd ⟨(⟨#[]⟩:ByteArray),(⟨#[]⟩:ByteArray),lk,a3,0,gi,(l0.length:Int),a8,bt (⟨#[63,48,53,50,49]⟩:ByteArray) a1,(⟨#[]⟩:ByteArray),gn⟩) _ _ from HP.out.set (j:=7) (u := .int .i64 a8) (by decide) hk3 hg3);clear hk3 hg3;clear HP;have HP:=HP3;clear HP3)
   go_meet
   case rel=>exact ⟨_,HP⟩
 case rest =>
 clear HP H4 HM;obtain ⟨vq,HP⟩:=hcut;have H:=H5.out;unfold member_pack.nam at H;obtain ⟨⟨q1,q2,q3⟩,hc,hq⟩:=Option.bind_eq_some_iff.1 H;have HC:=Aside0.mk hc;have H5:=Aside0.mk hq;clear H hc hq;have hx0:=blk_cell (blk_below HKX.out HP.out.below) 0;go_upto_region 13 with (first|(go_at_call 25;refine (cut_Two.calls k a0 q1 q2 q3 _ HC.out).mono ?_;rintro e w2 ⟨rfl,hb2⟩;have HP3:=Aside0.mk (HP.out.step hb2);clear HP hb2;have HP:=HP3;clear HP3)|((with_reducible refine gate_store (t:=9) (p:=102) rfl ?_);refine member_pack.set_event rfl rfl rfl rfl rfl rfl member_pack.szS HP.out.blk (by simp [HP.out.len]) ?_;intro w4 hk3 hg3;have HP3:=Aside0.mk (show member_pack.Pk w1 w4 gp (member_pack.hd ⟨(⟨#[]⟩:ByteArray),q1,lk,a3,0,gi,(l0.length:Int),tm,bt (⟨#[63,48,53,50,49]⟩:ByteArray) a1,(⟨#[]⟩:ByteArray),gn⟩) _ _ from HP.out.set (j:=1) (u := .string q1) (by decide) hk3 hg3);clear hk3 hg3;clear HP;have HP:=HP3;clear HP3)|((with_reducible refine gate_store (t:=9) (p:=104) rfl ?_);refine member_pack.set_event rfl rfl rfl rfl rfl rfl member_pack.szS HP.out.blk (by simp [HP.out.len]) ?_;intro w4 hk3 hg3;have HP3:=Aside0.mk (show member_pack.Pk w1 w4 gp (member_pack.hd ⟨q2,q1,lk,a3,0,gi,(l0.length:Int),tm,bt (⟨#[63,48,53,50,49]⟩:ByteArray) a1,(⟨#[]⟩:ByteArray),gn⟩) _ _ from HP.out.set (j:=0) (u := .string q2) (by decide) hk3 hg3);clear hk3 hg3;clear HP;have HP:=HP3;clear HP3))
 have hx0:=blk_cell (blk_below HKX.out HP.out.below) 0;go_upto_if 106 with (fail)
 go_cut [] (fun wc=>∃ vq2,Aside0 (member_pack.Pk w1 wc gp (member_pack.hd ⟨nm,px,lk,a3,0,gi,(l0.length:Int),tm,bt (⟨#[63,48,53,50,49]⟩:ByteArray) a1,(⟨#[]⟩:ByteArray),gn⟩) vq2 re5))
 case first =>
  have H:=H5.out;by_cases d:q3 = 0
  ·have db:(q3 != 0) = false:=bne_eq_false_iff_eq.mpr d;rw [if_pos d] at H;obtain ⟨rfl,hq⟩:=Prod.mk.inj (Option.some.inj H);obtain ⟨rfl,rfl⟩:=Prod.mk.inj hq;clear H d;try rw [db]
   go_wp2;go_meet
   case rel=>exact ⟨_,HP⟩
  ·have db:(q3 != 0) = true:=bne_iff_ne.mpr d;rw [if_neg d] at H;by_cases d2:re4.length < 1000000000000
   ·rw [if_pos d2] at H;obtain ⟨rfl,hq⟩:=Prod.mk.inj (Option.some.inj H);obtain ⟨rfl,rfl⟩:=Prod.mk.inj hq;have HL:=Aside0.mk d2;clear H d d2;try rw [db]
    go_wp2_with (first|((with_reducible refine gate_store (t:=9) (p:=109) rfl ?_);refine member_pack.set_event rfl rfl rfl rfl rfl rfl member_pack.szS HP.out.blk (by simp [HP.out.len]) ?_;intro w4 hk3 hg3;have HP3:=Aside0.mk (show member_pack.Pk w1 w4 gp (member_pack.hd ⟨(⟨#[64,108,111,110,103]⟩:ByteArray),q1,lk,a3,0,gi,(l0.length:Int),tm,bt (⟨#[63,48,53,50,49]⟩:ByteArray) a1,(⟨#[]⟩:ByteArray),gn⟩) _ _ from HP.out.set (j:=0) (u := .string (⟨#[64,108,111,110,103]⟩:ByteArray)) (by decide) hk3 hg3);clear hk3 hg3;clear HP;have HP:=HP3;clear HP3;have hx0:=blk_cell (blk_below HKX.out HP.out.below) 0)|(go_at_call 24;refine (member_pack.say2 HP.out (⟨#[112,97,116,104]⟩:ByteArray) a0 HL.out).mono ?_;rintro e w3 ⟨rfl,v3,hp3⟩;have HP3:=Aside0.mk hp3;clear HP hp3;have HP:=HP3;clear HP3))
    go_meet
    case rel=>exact ⟨_,HP⟩
   ·rw [if_neg d2] at H;cases H
 case rest =>
 clear HP H5 HC;obtain ⟨vq2,HP⟩:=hcut;have hx4:=blk_cell (blk_below HKX.out HP.out.below) 4;go_upto_region 17 with (first|(go_at_call 20;refine (member_pack.number w1 _ _ _ _ _ _ _ _ _ _ HP.out HTX H6.out).mono ?_;rintro e w3 ⟨rfl,v3,hp3⟩;have HP3:=Aside0.mk hp3;clear hp3;clear HP;have HP:=HP3;clear HP3)|((with_reducible refine gate_store (t:=3) (p:=121) rfl ?_);refine member_pack.set_event rfl rfl rfl rfl rfl rfl member_pack.szI HP.out.blk (by simp [HP.out.len]) ?_;intro w4 hk3 hg3;have HP3:=Aside0.mk (show member_pack.Pk w1 w4 gp (member_pack.hd ⟨nm,px,lk,a3,ui,gi,(l0.length:Int),tm,bt (⟨#[63,48,53,50,49]⟩:ByteArray) a1,(⟨#[]⟩:ByteArray),gn⟩) _ _ from HP.out.set (j:=4) (u := .int .i64 ui) (by decide) hk3 hg3);clear hk3 hg3;clear HP;have HP:=HP3;clear HP3))
 have hx6:=blk_cell (blk_below HKX.out HP.out.below) 6;go_wp2_with (first|(go_at_call 21;refine (member_pack.text w1 _ _ _ _ _ _ _ _ _ _ _ HP.out H7.out).mono ?_;rintro e w3 ⟨rfl,v3,hp3⟩;have HP3:=Aside0.mk hp3;clear hp3;clear HP;have HP:=HP3;clear HP3)|((with_reducible refine gate_store (t:=9) (p:=129) rfl ?_);refine member_pack.set_event rfl rfl rfl rfl rfl rfl member_pack.szS HP.out.blk (by simp [HP.out.len]) ?_;intro w4 hk3 hg3;have HP3:=Aside0.mk (show member_pack.Pk w1 w4 gp (member_pack.hd ⟨nm,px,lk,a3,ui,gi,(l0.length:Int),tm,bt (⟨#[63,48,53,50,49]⟩:ByteArray) a1,un,gn⟩) _ _ from HP.out.set (j:=9) (u := .string un) (by decide) hk3 hg3);clear hk3 hg3;clear HP;have HP:=HP3;clear HP3))
 go_ret
 exact ⟨gp,_,rfl,HP.out.blk,rfl,Nat.le_trans (below_size HB1.out) HP.out.ge,Kd.R_lower HP.out.row (below_size HB1.out),below_step HB1.out HP.out.below⟩
end Go.Proofs.YtenbelecmmpdgaaDoor.All
end
section
namespace Go.Proofs.YtenbelecmmpdgaaDoor.All
open Go.RowKit Go.Proofs.YtenbelecmmpdgaaDoorW.PrintWords Go.Proofs.YtenbelecmmpdgaaDoorW.PrintLast Go.Proofs.YtenbelecmmpdgaaDoorW.PrintMore
open Go.Proofs.YtenbelecmmpdgaaDoorW.Mine
attribute [local go_sem] gtr_string leq_string geq_string
attribute [local go_sem] max2_int min2_int max_two min_two max_three min_three max_four min_four
set_option linter.unusedVariables false
set_option linter.unusedSimpArgs false
open Go.Proofs.YtenbelecmmpdgaaDoorW.MapOwn
def member_Records.f (k:Nat) (a0:ByteArray) (a1:Int) (a2:ByteArray) (a3 a4 a5:Int) (a6 a7:ByteArray) (a8 a9:Int) (l0:List Int):Option (List (S43) × Int):=(plan_Right.f k a0 a1 a2 a3 a4 a5 a6 a7 a8 a9 l0).bind fun e=>if e = 0 then (member_pack.f k a0 a1 a2 a3 a4 a5 a6 a7 a8 a9 l0).bind fun p=>some (p.2,0) else some ([],e)
set_option maxHeartbeats 8000000 in
set_option maxRecDepth 100000 in
theorem member_Records.calls (k:Nat) (a0:ByteArray) (a1:Int) (a2:ByteArray) (a3 a4 a5:Int) (a6 a7:ByteArray) (a8 a9:Int) (A0:Option Addr) (c0:Nat) (l0:List Int) (r1:List (S43)) (r2:Int) (w:World) (hr0:Kd.C (Kd.int .u8) w A0 l0.length l0) (hc0:l0.length ≤ c0) (HT0:Aside0 (Tab w)) (h:member_Records.f k a0 a1 a2 a3 a4 a5 a6 a7 a8 a9 l0 = some (r1,r2)) :
 Calls Tryd.prog 4 #[.agg #[.string a0,.int .i64 a1,.string a2,.int .i64 a3,.int .i64 a4,.int .i64 a5,.string a6,.string a7,.int .i64 a8,.int .i64 a9,.slice A0 l0.length c0]] w fun e w'=>∃ v0_:Value,e = .returned (.tuple #[v0_,.int .i64 r2])∧Kd.R k43 43 w' w.heap.size (fun _=>True) v0_ r1∧Below w.heap.size w w':=by
 have hu26:=Tryd.underlying26;have hu32:=Tryd.underlying32;have HR0:=Aside0.mk hr0;have HC0:=Aside0.mk hc0;clear hr0 hc0;unfold member_Records.f at h;obtain ⟨e1,h1,hq⟩:=Option.bind_eq_some_iff.1 h;clear h;have h:=hq;clear hq;have H1:=Aside0.mk h1;clear h1;by_cases c1:e1 = 0
 ·subst c1;rw [if_pos rfl] at h;obtain ⟨⟨hd_,rs⟩,h2,hq⟩:=Option.bind_eq_some_iff.1 h;clear h;have h:=hq;clear hq;have H2:=Aside0.mk h2;clear h2;obtain ⟨rfl,rfl⟩:=Prod.mk.inj (Option.some.inj h);clear h;go_enter Tryd.func4,Tryd.ntmps4;go_wp2_with (first|((with_reducible refine gate_dst (N:=1) rfl ?_);refine box_event ?hg (N:=1) ?hd (cs:=#[.string a0,.int .i64 a1,.string a2,.int .i64 a3,.int .i64 a4,.int .i64 a5,.string a6,.string a7,.int .i64 a8,.int .i64 a9,.slice A0 l0.length c0]) (t:=26) ?hr ?_;(case hd=>rfl);(case hg=>rfl);(case hr=>first|(go_simp;done)|(go_simp;rfl));intro gx hg w1 hbox hb1;have HKX:=Aside0.mk hbox;have HB1:=Aside0.mk hb1;clear hg hbox hb1)|((with_reducible refine gate_dst (N:=5) rfl ?_);refine load_event rfl rfl hu26 rfl rfl (cs:=[.string a0,.int .i64 a1,.string a2,.int .i64 a3,.int .i64 a4,.int .i64 a5,.string a6,.string a7,.int .i64 a8,.int .i64 a9,.slice A0 l0.length c0]) sz26 (cells_of_blk (cs:=[.string a0,.int .i64 a1,.string a2,.int .i64 a3,.int .i64 a4,.int .i64 a5,.string a6,.string a7,.int .i64 a8,.int .i64 a9,.slice A0 l0.length c0]) HKX.out) ?_)|(go_at_call 9;refine (plan_Right.calls k a0 a1 a2 a3 a4 a5 a6 a7 a8 a9 A0 c0 l0 0 _ (Kd.C_below HR0.out HB1.out) HC0.out H1.out).mono ?_;rintro e w2 ⟨rfl,hb2⟩;have HB2:=Aside0.mk (below_step HB1.out hb2);have HKX2:=Aside0.mk (blk_below HKX.out hb2);clear HKX hb2;have HKX:=HKX2;clear HKX2)|((with_reducible refine gate_dst (N:=10) rfl ?_);refine load_event rfl rfl hu26 rfl rfl (cs:=[.string a0,.int .i64 a1,.string a2,.int .i64 a3,.int .i64 a4,.int .i64 a5,.string a6,.string a7,.int .i64 a8,.int .i64 a9,.slice A0 l0.length c0]) sz26 (cells_of_blk (cs:=[.string a0,.int .i64 a1,.string a2,.int .i64 a3,.int .i64 a4,.int .i64 a5,.string a6,.string a7,.int .i64 a8,.int .i64 a9,.slice A0 l0.length c0]) HKX.out) ?_)|(go_at_call 10;refine (member_pack.calls k a0 a1 a2 a3 a4 a5 a6 a7 a8 a9 A0 c0 l0 hd_ rs _ ⟨tab_on HT0.out HB2.out⟩ H2.out).mono ?_;rintro e w3 ⟨gp,vr,rfl,hp⟩;have HP:=Aside0.mk hp;clear hp;have hc11:w3.cell? ⟨gp,11,none⟩ = some vr:=(blk_cell HP.out.blk 11).trans rfl))
  go_ret2
  exact ⟨_,rfl,Kd.R_lower HP.out.row (below_size HB2.out),below_step HB2.out HP.out.below⟩
 ·rw [if_neg c1] at h;obtain ⟨rfl,rfl⟩:=Prod.mk.inj (Option.some.inj h);have c1b:(e1 != 0) = true:=bne_iff_ne.mpr c1;clear c1 h;go_enter Tryd.func4,Tryd.ntmps4;go_wp2_with (first|((with_reducible refine gate_dst (N:=1) rfl ?_);refine box_event ?hg (N:=1) ?hd (cs:=#[.string a0,.int .i64 a1,.string a2,.int .i64 a3,.int .i64 a4,.int .i64 a5,.string a6,.string a7,.int .i64 a8,.int .i64 a9,.slice A0 l0.length c0]) (t:=26) ?hr ?_;(case hd=>rfl);(case hg=>rfl);(case hr=>first|(go_simp;done)|(go_simp;rfl));intro gx hg w1 hbox hb1;have HKX:=Aside0.mk hbox;have HB1:=Aside0.mk hb1;clear hg hbox hb1)|((with_reducible refine gate_dst (N:=5) rfl ?_);refine load_event rfl rfl hu26 rfl rfl (cs:=[.string a0,.int .i64 a1,.string a2,.int .i64 a3,.int .i64 a4,.int .i64 a5,.string a6,.string a7,.int .i64 a8,.int .i64 a9,.slice A0 l0.length c0]) sz26 (cells_of_blk (cs:=[.string a0,.int .i64 a1,.string a2,.int .i64 a3,.int .i64 a4,.int .i64 a5,.string a6,.string a7,.int .i64 a8,.int .i64 a9,.slice A0 l0.length c0]) HKX.out) ?_)|(go_at_call 9;refine (plan_Right.calls k a0 a1 a2 a3 a4 a5 a6 a7 a8 a9 A0 c0 l0 e1 _ (Kd.C_below HR0.out HB1.out) HC0.out H1.out).mono ?_;rintro e w2 ⟨rfl,hb2⟩;have HB2:=Aside0.mk (below_step HB1.out hb2);have HKX2:=Aside0.mk (blk_below HKX.out hb2);clear HKX hb2;have HKX:=HKX2;clear HKX2))
  go_ret2
  exact ⟨_,rfl,Kd.R_nil _ _ _ _ _,HB2.out⟩
theorem member_Head.szH:(Tryd.prog.info? 32).map (·.size) = some 11:=by kernel_rfl
theorem member_Head.cells_at {W:World} {g o:Nat} {cs:List Value} {t:TypeId} (h:W.heap[g]? = some (.cells cs.toArray t (0,0))):∀ j v,(cs.drop o)[j]? = some v→W.cell? ((⟨g,o,none⟩:Addr).add j) = some v:=by
 intro j v hj;have:=cells_of_blk h (o + j) v (by rw [List.getElem?_drop] at hj;exact hj);rw [← this];congr 1
 by_cases h0:j = 0
 ·subst h0;by_cases h1:o = 0
  ·subst h1;rfl
  ·simp [Addr.add,h1]
 ·have:o + j ≠ 0:=by omega
  simp [Addr.add,h0,this]
def member_Head.f (k:Nat) (a0:ByteArray) (a1:Int) (a2:ByteArray) (a3 a4 a5:Int) (a6 a7:ByteArray) (a8 a9:Int) (l0:List Int):Option (ByteArray × ByteArray × ByteArray × Int × Int × Int × Int × Int × Int × ByteArray × ByteArray × Int):=(plan_Right.f k a0 a1 a2 a3 a4 a5 a6 a7 a8 a9 l0).bind fun e=>if e = 0 then (member_pack.f k a0 a1 a2 a3 a4 a5 a6 a7 a8 a9 l0).bind fun p=>some (p.1.f0,p.1.f1,p.1.f2,p.1.f3,p.1.f4,p.1.f5,p.1.f6,p.1.f7,p.1.f8,p.1.f9,p.1.f10,0) else some ((⟨#[]⟩:ByteArray),(⟨#[]⟩:ByteArray),(⟨#[]⟩:ByteArray),0,0,0,0,0,0,(⟨#[]⟩:ByteArray),(⟨#[]⟩:ByteArray),e)
theorem member_Head.build0:Tryd.prog.built 32 [] = some #[.string (⟨#[]⟩:ByteArray),.string (⟨#[]⟩:ByteArray),.string (⟨#[]⟩:ByteArray),.int .i64 0,.int .i64 0,.int .i64 0,.int .i64 0,.int .i64 0,.int .u8 0,.string (⟨#[]⟩:ByteArray),.string (⟨#[]⟩:ByteArray)]:=by kernel_rfl
theorem member_Head.build_event {P:Program} {ops:Array Oper} {rest:List Oper} {o:Oper} {a:Act} {Q:Exit→Act→World→Prop} {W:World} (hgd:o.guard = none) {t:TypeId} {parts:Array (Nat × Operand)} (ho:o.op = .build t parts) {cells:Array Value} (hp:P.built t (parts.map fun (i,p)=>(i,a.eval p)).toList = some cells) (h:wpList P ops Q rest (a.put o.dst (.agg cells)) W):wpList P ops Q (o :: rest) a W:=by
 refine wpList_build hgd t parts ho (by rw [hp];rfl) ?_;rw [hp];exact h
set_option maxHeartbeats 8000000 in
set_option maxRecDepth 100000 in
theorem member_Head.calls (k:Nat) (a0:ByteArray) (a1:Int) (a2:ByteArray) (a3 a4 a5:Int) (a6 a7:ByteArray) (a8 a9:Int) (A0:Option Addr) (c0:Nat) (l0:List Int) (r1:ByteArray) (r2:ByteArray) (r3:ByteArray) (r4:Int) (r5:Int) (r6:Int) (r7:Int) (r8:Int) (r9:Int) (r10:ByteArray) (r11:ByteArray) (r12:Int) (w:World) (hr0:Kd.C (Kd.int .u8) w A0 l0.length l0) (hc0:l0.length ≤ c0) (HT0:Aside0 (Tab w)) (h:member_Head.f k a0 a1 a2 a3 a4 a5 a6 a7 a8 a9 l0 = some (r1,r2,r3,r4,r5,r6,r7,r8,r9,r10,r11,r12)) :
 Calls Tryd.prog 5 #[.agg #[.string a0,.int .i64 a1,.string a2,.int .i64 a3,.int .i64 a4,.int .i64 a5,.string a6,.string a7,.int .i64 a8,.int .i64 a9,.slice A0 l0.length c0]] w fun e w'=>e = .returned (.tuple #[.agg #[.string r1,.string r2,.string r3,.int .i64 r4,.int .i64 r5,.int .i64 r6,.int .i64 r7,.int .i64 r8,.int .u8 r9,.string r10,.string r11],.int .i64 r12])∧Below w.heap.size w w':=by
 have hu26:=Tryd.underlying26;have hu32:=Tryd.underlying32;have HR0:=Aside0.mk hr0;have HC0:=Aside0.mk hc0;clear hr0 hc0;unfold member_Head.f at h;obtain ⟨e1,h1,hq⟩:=Option.bind_eq_some_iff.1 h;clear h;have h:=hq;clear hq;have H1:=Aside0.mk h1;clear h1;by_cases c1:e1 = 0
 ·subst c1;rw [if_pos rfl] at h;obtain ⟨⟨hd_,rs⟩,h2,hq⟩:=Option.bind_eq_some_iff.1 h;clear h;have h:=hq;clear hq;have H2:=Aside0.mk h2;clear h2;simp only [Option.some.injEq,Prod.mk.injEq] at h;obtain ⟨rfl,rfl,rfl,rfl,rfl,rfl,rfl,rfl,rfl,rfl,rfl,rfl⟩:=h;go_enter Tryd.func5,Tryd.ntmps5;go_upto_region 1 with ((with_reducible refine gate_dst (N:=1) rfl ?_);refine box_event ?hg (N:=1) ?hd (cs:=#[.string a0,.int .i64 a1,.string a2,.int .i64 a3,.int .i64 a4,.int .i64 a5,.string a6,.string a7,.int .i64 a8,.int .i64 a9,.slice A0 l0.length c0]) (t:=26) ?hr ?_;(case hd=>rfl);(case hg=>rfl);(case hr=>first|(go_simp;done)|(go_simp;rfl));intro gx hg w1 hbox hb1;have HKX:=Aside0.mk hbox;have HB1:=Aside0.mk hb1;clear hg hbox hb1)
  have hgo:=heap_alloc_new w1 (.cells #[.string (⟨#[]⟩:ByteArray),.string (⟨#[]⟩:ByteArray),.string (⟨#[]⟩:ByteArray),.int .i64 0,.int .i64 0,.int .i64 0,.int .i64 0,.int .i64 0,.int .u8 0,.string (⟨#[]⟩:ByteArray),.string (⟨#[]⟩:ByteArray)] 32);have hb:=bwA (Below.refl w1.heap.size w1) (.cells #[.string (⟨#[]⟩:ByteArray),.string (⟨#[]⟩:ByteArray),.string (⟨#[]⟩:ByteArray),.int .i64 0,.int .i64 0,.int .i64 0,.int .i64 0,.int .i64 0,.int .u8 0,.string (⟨#[]⟩:ByteArray),.string (⟨#[]⟩:ByteArray)] 32);have HGE:=Aside0.mk (below_size HB1.out);have HGR:=Aside0.mk hgo;have HKX9:=Aside0.mk (blk_below HKX.out hb);have HB9:=Aside0.mk (below_step HB1.out hb);clear HKX HB1 hgo hb;generalize w1.alloc (Obj.cells #[.string (⟨#[]⟩:ByteArray),.string (⟨#[]⟩:ByteArray),.string (⟨#[]⟩:ByteArray),.int .i64 0,.int .i64 0,.int .i64 0,.int .i64 0,.int .i64 0,.int .u8 0,.string (⟨#[]⟩:ByteArray),.string (⟨#[]⟩:ByteArray)] 32) = wb at *;generalize w1.heap.size = gr at *;have HKX:=HKX9;have HB1:=HB9;clear HKX9 HB9;go_wp2_with (first|((with_reducible refine gate_dst (N:=5) rfl ?_);refine load_event rfl rfl hu26 rfl rfl (cs:=[.string a0,.int .i64 a1,.string a2,.int .i64 a3,.int .i64 a4,.int .i64 a5,.string a6,.string a7,.int .i64 a8,.int .i64 a9,.slice A0 l0.length c0]) sz26 (cells_of_blk (cs:=[.string a0,.int .i64 a1,.string a2,.int .i64 a3,.int .i64 a4,.int .i64 a5,.string a6,.string a7,.int .i64 a8,.int .i64 a9,.slice A0 l0.length c0]) HKX.out) ?_)|(go_at_call 9;refine (plan_Right.calls k a0 a1 a2 a3 a4 a5 a6 a7 a8 a9 A0 c0 l0 0 _ (Kd.C_below HR0.out HB1.out) HC0.out H1.out).mono ?_;rintro e w2 ⟨rfl,hb2⟩;have HGR9:=Aside0.mk (blk_below HGR.out hb2);clear HGR;have HGR:=HGR9;clear HGR9;have HB2:=Aside0.mk (below_step HB1.out hb2);have HKX2:=Aside0.mk (blk_below HKX.out hb2);clear HKX hb2;have HKX:=HKX2;clear HKX2)|((with_reducible refine gate_dst (N:=11) rfl ?_);refine load_event rfl rfl hu26 rfl rfl (cs:=[.string a0,.int .i64 a1,.string a2,.int .i64 a3,.int .i64 a4,.int .i64 a5,.string a6,.string a7,.int .i64 a8,.int .i64 a9,.slice A0 l0.length c0]) sz26 (cells_of_blk (cs:=[.string a0,.int .i64 a1,.string a2,.int .i64 a3,.int .i64 a4,.int .i64 a5,.string a6,.string a7,.int .i64 a8,.int .i64 a9,.slice A0 l0.length c0]) HKX.out) ?_)|(go_at_call 10;refine (member_pack.calls k a0 a1 a2 a3 a4 a5 a6 a7 a8 a9 A0 c0 l0 hd_ rs _ ⟨tab_on HT0.out HB2.out⟩ H2.out).mono ?_;rintro e w3 ⟨gp,vr,rfl,hp⟩;have HP:=Aside0.mk hp;clear hp)|((with_reducible refine gate_dst (N:=15) rfl ?_);refine load_event rfl rfl hu32 rfl rfl (cs:=[.string hd_.f0,.string hd_.f1,.string hd_.f2,.int .i64 hd_.f3,.int .i64 hd_.f4,.int .i64 hd_.f5,.int .i64 hd_.f6,.int .i64 hd_.f7,.int .u8 hd_.f8,.string hd_.f9,.string hd_.f10]) member_Head.szH (fun j v hv=>member_Head.cells_at (o:=0) (cs:=[.string hd_.f0,.string hd_.f1,.string hd_.f2,.int .i64 hd_.f3,.int .i64 hd_.f4,.int .i64 hd_.f5,.int .i64 hd_.f6,.int .i64 hd_.f7,.int .u8 hd_.f8,.string hd_.f9,.string hd_.f10,vr]) HP.out.blk j v (by rcases j with _|_|_|_|_|_|_|_|_|_|_|j <;> first|exact hv|(exact absurd hv (by simp)))) ?_)|((with_reducible refine gate_store (t:=32) (p:=2) rfl ?_);refine put_event rfl rfl rfl rfl rfl (blk_below HGR.out HP.out.below) member_Head.szH rfl rfl ?_;intro w9 hk3 hg3;have HRR:=Aside0.mk hk3;have HBR:=Aside0.mk (below_grown (below_step HB2.out HP.out.below) hg3 HGE.out (blk_lt (blk_below HGR.out HP.out.below)));clear hk3 hg3))
  refine bodyPost_ret (results_ct rfl _ _ gr 32 #[.string hd_.f0,.string hd_.f1,.string hd_.f2,.int .i64 hd_.f3,.int .i64 hd_.f4,.int .i64 hd_.f5,.int .i64 hd_.f6,.int .i64 hd_.f7,.int .u8 hd_.f8,.string hd_.f9,.string hd_.f10] (0,0) _ rfl HRR.out Tryd.underlying32 rfl (by kernel_rfl)) rfl ?_;exact ⟨rfl,HBR.out⟩
 ·rw [if_neg c1] at h;simp only [Option.some.injEq,Prod.mk.injEq] at h;obtain ⟨rfl,rfl,rfl,rfl,rfl,rfl,rfl,rfl,rfl,rfl,rfl,rfl⟩:=h;have c1b:(e1 != 0) = true:=bne_iff_ne.mpr c1;clear c1;go_enter Tryd.func5,Tryd.ntmps5;go_upto_region 1 with ((with_reducible refine gate_dst (N:=1) rfl ?_);refine box_event ?hg (N:=1) ?hd (cs:=#[.string a0,.int .i64 a1,.string a2,.int .i64 a3,.int .i64 a4,.int .i64 a5,.string a6,.string a7,.int .i64 a8,.int .i64 a9,.slice A0 l0.length c0]) (t:=26) ?hr ?_;(case hd=>rfl);(case hg=>rfl);(case hr=>first|(go_simp;done)|(go_simp;rfl));intro gx hg w1 hbox hb1;have HKX:=Aside0.mk hbox;have HB1:=Aside0.mk hb1;clear hg hbox hb1)
  have hgo:=heap_alloc_new w1 (.cells #[.string (⟨#[]⟩:ByteArray),.string (⟨#[]⟩:ByteArray),.string (⟨#[]⟩:ByteArray),.int .i64 0,.int .i64 0,.int .i64 0,.int .i64 0,.int .i64 0,.int .u8 0,.string (⟨#[]⟩:ByteArray),.string (⟨#[]⟩:ByteArray)] 32);have hb:=bwA (Below.refl w1.heap.size w1) (.cells #[.string (⟨#[]⟩:ByteArray),.string (⟨#[]⟩:ByteArray),.string (⟨#[]⟩:ByteArray),.int .i64 0,.int .i64 0,.int .i64 0,.int .i64 0,.int .i64 0,.int .u8 0,.string (⟨#[]⟩:ByteArray),.string (⟨#[]⟩:ByteArray)] 32);have HGE:=Aside0.mk (below_size HB1.out);have HGR:=Aside0.mk hgo;have HKX9:=Aside0.mk (blk_below HKX.out hb);have HB9:=Aside0.mk (below_step HB1.out hb);clear HKX HB1 hgo hb;generalize w1.alloc (Obj.cells #[.string (⟨#[]⟩:ByteArray),.string (⟨#[]⟩:ByteArray),.string (⟨#[]⟩:ByteArray),.int .i64 0,.int .i64 0,.int .i64 0,.int .i64 0,.int .i64 0,.int .u8 0,.string (⟨#[]⟩:ByteArray),.string (⟨#[]⟩:ByteArray)] 32) = wb at *;generalize w1.heap.size = gr at *;have HKX:=HKX9;have HB1:=HB9;clear HKX9 HB9;go_wp2_with (first|((with_reducible refine gate_dst (N:=5) rfl ?_);refine load_event rfl rfl hu26 rfl rfl (cs:=[.string a0,.int .i64 a1,.string a2,.int .i64 a3,.int .i64 a4,.int .i64 a5,.string a6,.string a7,.int .i64 a8,.int .i64 a9,.slice A0 l0.length c0]) sz26 (cells_of_blk (cs:=[.string a0,.int .i64 a1,.string a2,.int .i64 a3,.int .i64 a4,.int .i64 a5,.string a6,.string a7,.int .i64 a8,.int .i64 a9,.slice A0 l0.length c0]) HKX.out) ?_)|(go_at_call 9;refine (plan_Right.calls k a0 a1 a2 a3 a4 a5 a6 a7 a8 a9 A0 c0 l0 e1 _ (Kd.C_below HR0.out HB1.out) HC0.out H1.out).mono ?_;rintro e w2 ⟨rfl,hb2⟩;have HGR9:=Aside0.mk (blk_below HGR.out hb2);clear HGR;have HGR:=HGR9;clear HGR9;have HB2:=Aside0.mk (below_step HB1.out hb2);have HKX2:=Aside0.mk (blk_below HKX.out hb2);clear HKX hb2;have HKX:=HKX2;clear HKX2)|((with_reducible refine gate_dst (N:=9) rfl ?_);refine member_Head.build_event rfl rfl (by (try simp only [List.map_toArray,List.map_cons,List.map_nil]);exact member_Head.build0) ?_)|((with_reducible refine gate_store (t:=32) (p:=2) rfl ?_);refine put_event rfl rfl rfl rfl rfl HGR.out member_Head.szH rfl rfl ?_;intro w9 hk3 hg3;have HRR:=Aside0.mk hk3;have HBR:=Aside0.mk (below_grown (HB2.out) hg3 HGE.out (blk_lt HGR.out));clear hk3 hg3))
  refine bodyPost_ret (results_ct rfl _ _ gr 32 #[.string (⟨#[]⟩:ByteArray),.string (⟨#[]⟩:ByteArray),.string (⟨#[]⟩:ByteArray),.int .i64 0,.int .i64 0,.int .i64 0,.int .i64 0,.int .i64 0,.int .u8 0,.string (⟨#[]⟩:ByteArray),.string (⟨#[]⟩:ByteArray)] (0,0) _ rfl HRR.out Tryd.underlying32 rfl (by kernel_rfl)) rfl ?_;exact ⟨rfl,HBR.out⟩
end Go.Proofs.YtenbelecmmpdgaaDoor.All
end
section
namespace Go.Proofs.YtenbelecmmpdgaaDoor.All
open Go.RowKit Go.Proofs.YtenbelecmmpdgaaDoorW.PrintWords Go.Proofs.YtenbelecmmpdgaaDoorW.PrintLast Go.Proofs.YtenbelecmmpdgaaDoorW.PrintMore
open Go.Proofs.YtenbelecmmpdgaaDoorW.Mine
attribute [local go_sem] gtr_string leq_string geq_string
attribute [local go_sem] max2_int min2_int max_two min_two max_three min_three max_four min_four
set_option linter.unusedVariables false
set_option linter.unusedSimpArgs false
def creelref_has.l0:Nat→ByteArray→Int→Int→Option (Bool)
 | 0,_,_,_=>none
 | k + 1,x0,x1,x5=>if x5 < (x0.size:Int) then (if 0 ≤ x5 then (if (bt x0 x5) = x1 then (some true) else (creelref_has.l0 k x0 x1 (wrap64 (x5 + 1)))) else (none)) else (some false)
def creelref_has.f (k:Nat) (a0:ByteArray) (a1:Int):Option (Bool):=creelref_has.l0 k a0 a1 0
set_option maxHeartbeats 8000000 in
set_option maxRecDepth 100000 in
theorem creelref_has.calls (k:Nat) (a0:ByteArray) (a1:Int) (r:Bool) (w:World) (h:creelref_has.f k a0 a1 = some r) :
 Calls Tryd.prog 28 #[.string a0,.int .u8 a1] w fun e w'=>e = .returned (.bool r)∧Drawn0 w w':=by
 have H:(creelref_has.l0 k a0 a1 0) = some r:=h;clear h;have H':=Aside0.mk H;clear H;go_enter Tryd.func28,Tryd.ntmps28;go_wp2;go_loopg [5] k (fun kq v5 w'=>∃ (x5_1:Int),v5 = .int .i64 x5_1∧Aside0 (creelref_has.l0 kq a0 a1 x5_1 = some r)∧Aside0 (kq ≤ k)∧Drawn0 w w')
 case atStart=>exact ⟨(0),(by first|rfl|(simp;done)|(simp [*];done)),H',⟨Nat.le_refl _⟩,by repeat (first|exact Drawn0.refl _|apply Drawn0.step)⟩
 case round =>
  clear H';obtain ⟨x5_1,rfl,HA,HK1,⟨m1,rfl⟩⟩:=hrel;cases gk with
  | zero=>exact absurd HA.out (by simp [creelref_has.l0])
  | succ k1 =>
   have H:=HA.out;clear HA;simp only [creelref_has.l0] at H;by_cases c3:x5_1 < (a0.size:Int)
   ·rw [if_pos c3] at H;have c3b0:decide (x5_1 < (a0.size:Int)) = true:=decide_eq_true c3;clear c3;by_cases c4:0 ≤ x5_1
    ·rw [if_pos c4] at H;have c4b0:decide (0 ≤ x5_1) = true:=decide_eq_true c4;clear c4;by_cases c6:(bt a0 x5_1) = a1
     ·rw [if_pos c6] at H;have c6b0:((bt a0 x5_1) == a1) = true:=beq_iff_eq.mpr c6;have c6b1:((bt a0 x5_1) != a1) = false:=bne_eq_false_iff_eq.mpr c6;clear c6;obtain rfl:=Option.some.inj H;have p5:0 ≤ (x5_1:Int):=of_decide_eq_true (by first|(with_reducible assumption)|assumption);have q5:x5_1 < (a0.size:Int):=of_decide_eq_true (by first|(with_reducible assumption)|assumption);have hx5:=bt_at a0 x5_1;replace p5:=eq_true p5;replace q5:=eq_true q5;go_wp2;go_ret
      exact ⟨by first|rfl|(simp;done)|(simp [*];done),by repeat (first|exact Drawn0.refl _|apply Drawn0.step)⟩
     ·rw [if_neg c6] at H;have c6b0:((bt a0 x5_1) == a1) = false:=beq_eq_false_iff_ne.mpr c6;have c6b1:((bt a0 x5_1) != a1) = true:=bne_iff_ne.mpr c6;have H':=Aside0.mk H;clear H;have p5:0 ≤ (x5_1:Int):=of_decide_eq_true (by first|(with_reducible assumption)|assumption);have q5:x5_1 < (a0.size:Int):=of_decide_eq_true (by first|(with_reducible assumption)|assumption);have hx5:=bt_at a0 x5_1;replace p5:=eq_true p5;replace q5:=eq_true q5;go_wp2;go_roundg k1
      case measure=>have:=HK1.out;omega
      case rel=>exact ⟨(wrap64 (x5_1 + 1)),(by first|rfl|(simp;done)|(simp [*];done)),H',⟨by have:=HK1.out;omega⟩,by repeat (first|exact Drawn0.refl _|apply Drawn0.step)⟩
    ·rw [if_neg c4] at H;exact absurd H (by simp)
   ·rw [if_neg c3] at H;have c3b0:decide (x5_1 < (a0.size:Int)) = false:=decide_eq_false c3;clear c3;obtain rfl:=Option.some.inj H;go_wp2;go_ret
    exact ⟨by first|rfl|(simp;done)|(simp [*];done),by repeat (first|exact Drawn0.refl _|apply Drawn0.step)⟩
def creelref_parts.l0:Nat→ByteArray→Int→List ByteArray→Int→Option (List ByteArray)
 | 0,_,_,_,_=>none
 | k + 1,x0,x1,x5,x6=>if x6 < (x0.size:Int) then (if 0 ≤ x6 then (if (bt x0 x6) = x1 then (if x5.length < 8796093022208 then (creelref_parts.l0 k x0 x1 (x5 ++ [(⟨#[]⟩:ByteArray)]) (wrap64 (x6 + 1))) else (none)) else (if 0 ≤ (wrap64 ((x5.length:Int) - 1)) then (if (wrap64 ((x5.length:Int) - 1)) < (x5.length:Int) then (if x6 ≤ (wrap64 (x6 + 1)) then (if (wrap64 (x6 + 1)) ≤ (x0.size:Int) then (if (rdOf ByteArray.empty x5 (wrap64 ((x5.length:Int) - 1))).size + (x0.extract (x6:Int).toNat ((wrap64 (x6 + 1)):Int).toNat).size ≤ 9223372036854775807 then (creelref_parts.l0 k x0 x1 (x5.set ((wrap64 ((x5.length:Int) - 1)):Int).toNat ((rdOf ByteArray.empty x5 (wrap64 ((x5.length:Int) - 1))) ++ (x0.extract (x6:Int).toNat ((wrap64 (x6 + 1)):Int).toNat))) (wrap64 (x6 + 1))) else (none)) else (none)) else (none)) else (none)) else (none))) else (none)) else (some x5)
def creelref_parts.f (k:Nat) (a0:ByteArray) (a1:Int):Option (List ByteArray):=creelref_parts.l0 k a0 a1 (([(⟨#[]⟩:ByteArray)]:List ByteArray)) 0
def creelref_parts.T7:Bool × List (List Nat × List Nat):=(true,[([],[]),([],[]),([1],[1]),([2],[2]),([0,3],[0,3]),([4],[4]),([],[]),([],[]),([],[]),([8],[8]),([6,7,9],[6,7,9]),([5,10],[5,10]),([0,3,0,1,2,3,4,5,6,7,8,9,10,11],[0,3]),([12,11,0,1,2,3,4,5,6,7,8,9,10,11],[11,12])])
def creelref_parts.B7:List Nat:=[0,0,2,6,15,31,0,0,0,256,960,2047,4095,8191]
theorem creelref_parts.tab7:rtab .any (opsOf Tryd.f36 7) = creelref_parts.T7:=by kernel_rfl
theorem creelref_parts.bits7:waitsOk creelref_parts.T7.2 creelref_parts.B7 = true:=by kernel_rfl
set_option maxHeartbeats 8000000 in
set_option maxRecDepth 100000 in
theorem creelref_parts.calls (k:Nat) (a0:ByteArray) (a1:Int) (r:List ByteArray) (w:World) (h:creelref_parts.f k a0 a1 = some r) :
 Calls Tryd.prog 36 #[.string a0,.int .u8 a1] w fun e w'=>∃ v0_:Value,e = .returned (v0_)∧Kd.R Kd.string 9 w' w.heap.size (fun _=>True) v0_ r∧Below w.heap.size w w':=by
 have HB:=Aside0.mk (Below.refl w.heap.size w);have H:(creelref_parts.l0 k a0 a1 (([(⟨#[]⟩:ByteArray)]:List ByteArray)) 0) = some r:=h;clear h;obtain ⟨y101,hy101⟩:∃ y_:List ByteArray,y_ = (([(⟨#[]⟩:ByteArray)]:List ByteArray)):=⟨_,rfl⟩
 replace H:(creelref_parts.l0 k a0 a1 y101 0) = some r:=by first|(rw [hy101];with_reducible exact H)|(have H2_:=(Option.bind_some _ _).symm.trans H;rw [hy101];with_reducible exact H2_)|(have H2_:=(Option.bind_some _ _).symm.trans H;with_reducible exact H2_)|with_reducible exact H|(rw [hy101];exact H)|exact H
 have Ny101:=Aside0.mk hy101;clear hy101;have H':=Aside0.mk H;clear H;go_enter Tryd.func36,Tryd.ntmps36;go_wp2_with (first|((with_reducible refine gate_dst (N:=7) rfl ?_);refine Kd.R_lit Kd.string _ 9 ?hg (N:=7) ?hd (xs:=([(⟨#[]⟩:ByteArray)]:List ByteArray)) (inner:=[.string (⟨#[]⟩:ByteArray)]) (ok:=fun _=>True) (okp:=fun _=>True) ?hr ?hp (fun _ hk=>hk) trivial (Below.refl _ _) (Nat.le_refl _) (by simp) ?_;(case hd=>rfl);(case hg=>rfl);(case hr=>first|(go_simp;done)|(go_simp;rfl));(case hp=>exact (Reps.one (show Kd.M Kd.string _ _ _ (⟨#[]⟩:ByteArray) [.string (⟨#[]⟩:ByteArray)] from rfl) (Reps.none _ _)));intro v102 w3 ho4 hb hg_ hnew_;clear hg_ hnew_;(first|rw [← Ny101.out] at ho4|(simp only [Int.reduceToNat] at ho4;rw [← Ny101.out] at ho4));have n0_:=Aside0.mk (Kd.R_lower ho4 (below_size (by repeat (first|(with_reducible first|exact HB.out|apply bwA|apply pwbN|apply bw1)|exact HB.out))));have n1_:=Aside0.mk (below_step (by repeat (first|(with_reducible first|exact HB.out|apply bwA|apply pwbN|apply bw1)|exact HB.out)) hb);clear HB;have HO103:=n0_;have HB:=n1_;clear n0_ n1_;clear hb ho4))
 go_loopg [5,6] k (fun kq v5 v6 w'=>∃ (x5_1:List ByteArray) (x6_1:Int),v6 = .int .i64 x6_1∧Aside0 (creelref_parts.l0 kq a0 a1 x5_1 x6_1 = some r)∧Aside0 (kq ≤ k)∧Aside0 (Kd.R Kd.string 9 w' w.heap.size (fun _=>True) v5 x5_1)∧Aside0 (Below w.heap.size w w'))
 case atStart=>exact ⟨(y101),(0),(by first|rfl|(simp;done)|(simp [*];done)),H',⟨Nat.le_refl _⟩,⟨by (with_reducible repeat (first|apply Kd.R_alloc|apply Kd.R_drewN|apply Kd.R_drew));exact HO103.out⟩,⟨by repeat (first|(with_reducible first|exact HB.out|apply bwA|apply pwbN|apply bw1)|exact HB.out)⟩⟩
 case round =>
  clear H';obtain ⟨x5_1,x6_1,rfl,HA,HK1,HO_5,HB⟩:=hrel;cases gk with
  | zero=>exact absurd HA.out (by simp [creelref_parts.l0])
  | succ k1 =>
   have H:=HA.out;clear HA;simp only [creelref_parts.l0] at H;by_cases c5:x6_1 < (a0.size:Int)
   ·rw [if_pos c5] at H;have c5b0:decide (x6_1 < (a0.size:Int)) = true:=decide_eq_true c5;clear c5;by_cases c6:0 ≤ x6_1
    ·rw [if_pos c6] at H;have c6b0:decide (0 ≤ x6_1) = true:=decide_eq_true c6;clear c6;by_cases c8:(bt a0 x6_1) = a1
     ·rw [if_pos c8] at H;have c8b0:((bt a0 x6_1) == a1) = true:=beq_iff_eq.mpr c8;have c8b1:((bt a0 x6_1) != a1) = false:=bne_eq_false_iff_eq.mpr c8;clear c8;by_cases c9:x5_1.length < 8796093022208
      ·rw [if_pos c9] at H;have LMc9:=Aside0.mk c9;clear c9;obtain ⟨y104,hy104⟩:∃ y_:List ByteArray,y_ = (x5_1 ++ [(⟨#[]⟩:ByteArray)]):=⟨_,rfl⟩
       replace H:(creelref_parts.l0 k1 a0 a1 y104 (wrap64 (x6_1 + 1))) = some r:=by first|(rw [hy104];with_reducible exact H)|(have H2_:=(Option.bind_some _ _).symm.trans H;rw [hy104];with_reducible exact H2_)|(have H2_:=(Option.bind_some _ _).symm.trans H;with_reducible exact H2_)|with_reducible exact H|(rw [hy104];exact H)|exact H
       have Ny104:=Aside0.mk hy104;clear hy104;have H':=Aside0.mk H;clear H;have p7:0 ≤ (x6_1:Int):=of_decide_eq_true (by first|(with_reducible assumption)|assumption);have q7:x6_1 < (a0.size:Int):=of_decide_eq_true (by first|(with_reducible assumption)|assumption);have hx7:=bt_at a0 x6_1;replace p7:=eq_true p7;replace q7:=eq_true q7;go_wp2_with (first|((with_reducible refine gate_builtin (b := .append) (xs:=#[.tmp 19,.tmp 20]) rfl ?_);at_builtin;refine Kd.R_append Kd.string (w0:=w) w.heap.size rfl (.tmp 19) (.tmp 20) 61 9 (.string ⟨#[]⟩) 16 rfl Tryd.underlying61 info9 rfl (by decide) (by omega) u5 x5_1 (⟨#[]⟩:ByteArray) [.string (⟨#[]⟩:ByteArray)] (fun _=>True) (fun _=>False) rfl rfl ?aP (fun _ hk=>hk.elim) ?aF ?aO ?aB ?aS ?aL ?_;(case aP=>exact rfl);(case aB=>exact (by repeat (first|(with_reducible first|exact HB.out|apply bwA|apply pwbN|apply bw1)|exact HB.out)));(case aF=>exact (fun _ _=>trivial));(case aO=>exact (by (with_reducible repeat (first|apply Kd.R_alloc|apply Kd.R_drewN|apply Kd.R_drew));exact HO_5.out));(case aS=>exact (below_size (by repeat (first|(with_reducible first|exact HB.out|apply bwA|apply pwbN|apply bw1)|exact HB.out))));(case aL=>have:=LMc9.out;omega);intro v105 w10 ho hb hg hat;rw [← Ny104.out] at ho;have n0_:=Aside0.mk (hb);have n1_:=Aside0.mk (ho);clear HB;clear HO_5;have HB:=n0_;have HO106:=n1_;clear n0_ n1_;clear ho hb hg hat))
       go_roundg k1
       case measure=>have:=HK1.out;omega
       case rel=>exact ⟨(y104),(wrap64 (x6_1 + 1)),(by first|rfl|(simp;done)|(simp [*];done)),H',⟨by have:=HK1.out;omega⟩,⟨by (with_reducible repeat (first|apply Kd.R_alloc|apply Kd.R_drewN|apply Kd.R_drew));exact HO106.out⟩,⟨by repeat (first|(with_reducible first|exact HB.out|apply bwA|apply pwbN|apply bw1)|exact HB.out)⟩⟩
      ·rw [if_neg c9] at H;exact absurd H (by simp)
     ·rw [if_neg c8] at H;have c8b0:((bt a0 x6_1) == a1) = false:=beq_eq_false_iff_ne.mpr c8;have c8b1:((bt a0 x6_1) != a1) = true:=bne_iff_ne.mpr c8;obtain ⟨ji11,hji11⟩:∃ j_:Int,(wrap64 ((x5_1.length:Int) - 1)) = j_:=⟨_,rfl⟩
      replace H:(if 0 ≤ (ji11) then (if (ji11) < (x5_1.length:Int) then (if x6_1 ≤ (wrap64 (x6_1 + 1)) then (if (wrap64 (x6_1 + 1)) ≤ (a0.size:Int) then (if (rdOf ByteArray.empty x5_1 (ji11)).size + (a0.extract (x6_1:Int).toNat ((wrap64 (x6_1 + 1)):Int).toNat).size ≤ 9223372036854775807 then (creelref_parts.l0 k1 a0 a1 (x5_1.set ((ji11):Int).toNat ((rdOf ByteArray.empty x5_1 (ji11)) ++ (a0.extract (x6_1:Int).toNat ((wrap64 (x6_1 + 1)):Int).toNat))) (wrap64 (x6_1 + 1))) else (none)) else (none)) else (none)) else (none)) else (none)) = some r:=by first|(rw [hji11] at H;exact H)|(simp only [hji11] at H ⊢;exact H)
      have hji11w:(IntKind.i64.wrap ((x5_1.length:Int) - 1)) = ji11:=(i64_w _).trans hji11;by_cases c12:0 ≤ (ji11)
      ·rw [if_pos c12] at H;have c12b0:decide (0 ≤ (ji11)) = true:=decide_eq_true c12;clear c12;by_cases c13:(ji11) < (x5_1.length:Int)
       ·rw [if_pos c13] at H;have c13b0:decide ((ji11) < (x5_1.length:Int)) = true:=decide_eq_true c13;clear c13;have c14b0:=eq_true (of_decide_eq_true (by first|(with_reducible assumption)|assumption):0 ≤ x6_1);by_cases c15:x6_1 ≤ (wrap64 (x6_1 + 1))
        ·rw [if_pos c15] at H;have c15b0:=eq_true c15;have c15b1:decide (x6_1 ≤ (wrap64 (x6_1 + 1))) = true:=decide_eq_true c15;by_cases c16:(wrap64 (x6_1 + 1)) ≤ (a0.size:Int)
         ·rw [if_pos c16] at H;have c16b0:=eq_true c16;have c16b1:decide ((wrap64 (x6_1 + 1)) ≤ (a0.size:Int)) = true:=decide_eq_true c16;by_cases c17:(rdOf ByteArray.empty x5_1 (ji11)).size + (a0.extract (x6_1:Int).toNat ((wrap64 (x6_1 + 1)):Int).toNat).size ≤ 9223372036854775807
          ·rw [if_pos c17] at H;have c17b0:=eq_true c17;have c17b1:decide ((rdOf ByteArray.empty x5_1 (ji11)).size + (a0.extract (x6_1:Int).toNat ((wrap64 (x6_1 + 1)):Int).toNat).size ≤ 9223372036854775807) = true:=decide_eq_true c17;try have c17b2:(9223372036854775807 < (rdOf ByteArray.empty x5_1 (ji11)).size + (a0.extract (x6_1:Int).toNat ((wrap64 (x6_1 + 1)):Int).toNat).size) = False:=eq_false (Nat.not_lt.2 c17)
           try have c17b3:(9223372036854775807 < (rdOf ByteArray.empty x5_1 (ji11)).size + (((wrap64 (x6_1 + 1))).toNat - (x6_1).toNat)) = False:=eq_false (by have h_:=c17;simp only [ByteArray.size_extract] at h_;omega)
           obtain ⟨y108,hy108⟩:∃ y_:List ByteArray,y_ = (x5_1.set ((ji11):Int).toNat ((rdOf ByteArray.empty x5_1 (ji11)) ++ (a0.extract (x6_1:Int).toNat ((wrap64 (x6_1 + 1)):Int).toNat))):=⟨_,rfl⟩
           replace H:(creelref_parts.l0 k1 a0 a1 y108 (wrap64 (x6_1 + 1))) = some r:=by first|(rw [hy108];with_reducible exact H)|(have H2_:=(Option.bind_some _ _).symm.trans H;rw [hy108];with_reducible exact H2_)|(have H2_:=(Option.bind_some _ _).symm.trans H;with_reducible exact H2_)|with_reducible exact H|(rw [hy108];exact H)|exact H
           have Ny108:=Aside0.mk hy108;clear hy108;have H':=Aside0.mk H;clear H;have p7:0 ≤ (x6_1:Int):=of_decide_eq_true (by first|(with_reducible assumption)|assumption);have q7:x6_1 < (a0.size:Int):=of_decide_eq_true (by first|(with_reducible assumption)|assumption);have hx7:=bt_at a0 x6_1;replace p7:=eq_true p7;replace q7:=eq_true q7;try go_wp2
           have n0_:=Aside0.mk (Kd.R_drew HO_5.out);have n1_:=Aside0.mk (bw1 HB.out);clear HO_5;clear HB;have HO_5:=n0_;have HB:=n1_;clear n0_ n1_;obtain ⟨Ao20,co20,eo20⟩:=Kd.R_slice HO_5.out;(first|subst eo20|(injection eo20 with f1_ f2_ f3_;have f4_:=f1_.symm;have f5_:=f3_.symm;clear f1_ f2_ f3_;subst f4_;subst f5_));have p107:0 ≤ ((ji11):Int):=of_decide_eq_true (by first|(with_reducible assumption)|assumption);have q107:(ji11) < (x5_1.length:Int):=of_decide_eq_true (by first|(with_reducible assumption)|assumption);obtain ⟨ad107,e107,hx107_0⟩:=Kd.at_string (Kd.R_reads' HO_5.out).2.2 (ji11) p107 q107;cases e107;replace p107:=eq_true p107;replace q107:=eq_true q107;have p18:0 ≤ ((ji11):Int):=of_decide_eq_true (by first|(with_reducible assumption)|assumption);have q18:((ji11):Int) < ((x5_1.length:Int):Int):=of_decide_eq_true (by first|(with_reducible assumption)|assumption);obtain ⟨go18,co18,eo18,gb18,gl18,cl18,HG18⟩:=Kd.R_form HO_5.out (by omega);(first|cases eo18|(injection eo18 with ea_ en_ ec_;(first|subst ea_|(injection ea_ with ea_;subst ea_));subst ec_;clear en_));have GB18:=Aside0.mk gb18;have GG18:=Aside0.mk HG18;clear gb18 gl18 HG18;(first|simp only [add_plain] at hx107_0|skip);obtain ⟨hx18_0,hf18_0⟩:=Kd.R_celln (⟨#[]⟩:ByteArray) HO_5.out ((ji11):Int) p18 q18;replace p18:=eq_true p18;replace q18:=eq_true q18;have HP21:=Kd.R_putn HO_5.out ((ji11):Int) ((rdOf ByteArray.empty x5_1 (ji11)) ++ (a0.extract (x6_1:Int).toNat ((wrap64 (x6_1 + 1)):Int).toNat));rw [← Ny108.out] at HP21;have HQ21:=Aside0.mk HP21;clear HP21;refine start_ (n:=14) (S:=fun w'=>w'.cell? ⟨go18,((ji11)).toNat,none⟩ = some (.string (rdOf ByteArray.empty x5_1 (ji11)))) (ds:=[13]) #[false,false,false,false,false,false,false,false,false,false,false,false,false,false] (by kernel_rfl) rfl rfl (hx107_0) (fun hHeld=>?_);refine with_tabW creelref_parts.tab7 creelref_parts.bits7 (fun HT_ HW_=>?_);generalize wr.drew = w19 at HO_5 HB GG18 HQ21 hf18_0 hx107_0 hx18_0 hHeld ⊢;refine pure_ (i:=0) (N:=some 22) (v:=?_) (a':=?_) #[true,false,false,false,false,false,false,false,false,false,false,false,false,false] rfl rfl (any_of HT_.out (by kernel_rfl)) (fun _ _ _ h=>h) (Or.inl ⟨by rfl,?_⟩) ?_ ?_;rotate_left
           ·intro w';go_simp
            with_reducible rfl
           rotate_left
           ·simp only [Act.put,List.setIfInBounds_toArray,List.set_cons_zero,List.set_cons_succ,i64_w,i32_w];rfl
           refine pure_ (i:=1) (N:=some 23) (v:=?_) (a':=?_) #[true,true,false,false,false,false,false,false,false,false,false,false,false,false] rfl rfl (any_of HT_.out (by kernel_rfl)) (fun _ _ _ h=>h) (Or.inl ⟨by rfl,?_⟩) ?_ ?_;rotate_left
           ·intro w';go_simp
            with_reducible rfl
           rotate_left
           ·simp only [Act.put,List.setIfInBounds_toArray,List.set_cons_zero,List.set_cons_succ,i64_w,i32_w];rfl
           refine pure_ (i:=2) (N:=some 24) (v:=?_) (a':=?_) #[true,true,true,false,false,false,false,false,false,false,false,false,false,false] rfl rfl (any_of HT_.out (by kernel_rfl)) (fun _ _ _ h=>h) (Or.inl ⟨by rfl,?_⟩) ?_ ?_;rotate_left
           ·intro w';go_simp
            with_reducible rfl
           rotate_left
           ·simp only [Act.put,List.setIfInBounds_toArray,List.set_cons_zero,List.set_cons_succ,i64_w,i32_w];rfl
           refine pure_ (i:=3) (N:=some 25) (v:=?_) (a':=?_) #[true,true,true,true,false,false,false,false,false,false,false,false,false,false] rfl rfl (any_of HT_.out (by kernel_rfl)) (fun _ _ _ h=>h) (Or.inl ⟨by rfl,?_⟩) ?_ ?_;rotate_left
           ·intro w';go_simp
            with_reducible rfl
           rotate_left
           ·simp only [Act.put,List.setIfInBounds_toArray,List.set_cons_zero,List.set_cons_succ,i64_w,i32_w];rfl
           refine pure_ (i:=4) (N:=some 26) (v:=?_) (a':=?_) #[true,true,true,true,true,false,false,false,false,false,false,false,false,false] rfl rfl (any_of HT_.out (by kernel_rfl)) (fun _ _ _ h=>h) (Or.inl ⟨by rfl,?_⟩) ?_ ?_;rotate_left
           ·intro w';go_simp
            with_reducible rfl
           rotate_left
           ·simp only [Act.put,List.setIfInBounds_toArray,List.set_cons_zero,List.set_cons_succ,i64_w,i32_w];rfl
           refine pure_ (i:=6) (N:=some 28) (v:=?_) (a':=?_) #[true,true,true,true,true,false,true,false,false,false,false,false,false,false] rfl rfl (any_of HT_.out (by kernel_rfl)) (fun _ _ _ h=>h) (Or.inl ⟨by rfl,?_⟩) ?_ ?_;rotate_left
           ·intro w';go_simp
            with_reducible rfl
           rotate_left
           ·simp only [Act.put,List.setIfInBounds_toArray,List.set_cons_zero,List.set_cons_succ,i64_w,i32_w];rfl
           refine pure_ (i:=7) (N:=some 29) (v:=?_) (a':=?_) #[true,true,true,true,true,false,true,true,false,false,false,false,false,false] rfl rfl (any_of HT_.out (by kernel_rfl)) (fun _ _ _ h=>h) (Or.inl ⟨by rfl,?_⟩) ?_ ?_;rotate_left
           ·intro w';go_simp
            with_reducible rfl
           rotate_left
           ·simp only [Act.put,List.setIfInBounds_toArray,List.set_cons_zero,List.set_cons_succ,i64_w,i32_w];rfl
           refine pure_ (i:=8) (N:=some 30) (v:=?_) (a':=?_) #[true,true,true,true,true,false,true,true,true,false,false,false,false,false] rfl rfl (any_of HT_.out (by kernel_rfl)) (fun _ _ _ h=>h) (Or.inl ⟨by rfl,?_⟩) ?_ ?_;rotate_left
           ·intro w';go_simp
            with_reducible rfl
           rotate_left
           ·simp only [Act.put,List.setIfInBounds_toArray,List.set_cons_zero,List.set_cons_succ,i64_w,i32_w];rfl
           refine pure_ (i:=9) (N:=some 31) (v:=?_) (a':=?_) #[true,true,true,true,true,false,true,true,true,true,false,false,false,false] rfl rfl (any_of HT_.out (by kernel_rfl)) (fun _ _ _ h=>h) (Or.inl ⟨by rfl,?_⟩) ?_ ?_;rotate_left
           ·intro w';go_simp
            with_reducible rfl
           rotate_left
           ·simp only [Act.put,List.setIfInBounds_toArray,List.set_cons_zero,List.set_cons_succ,i64_w,i32_w];rfl
           refine pure_ (i:=10) (N:=some 32) (v:=?_) (a':=?_) #[true,true,true,true,true,false,true,true,true,true,true,false,false,false] rfl rfl (any_of HT_.out (by kernel_rfl)) (fun _ _ _ h=>h) (Or.inl ⟨by rfl,?_⟩) ?_ ?_;rotate_left
           ·intro w';go_simp
            with_reducible rfl
           rotate_left
           ·simp only [Act.put,List.setIfInBounds_toArray,List.set_cons_zero,List.set_cons_succ,i64_w,i32_w];rfl
           refine take_ (i:=5) (N:=some 27) (v:=?_) (a':=?_) #[true,true,true,true,true,true,true,true,true,true,true,false,false,false] rfl rfl (take_ofW HT_.out HW_.out (by kernel_rfl)) (fun _ _ _ h=>h) (Or.inl ⟨by rfl,?_⟩) hHeld ?_ ?_;rotate_left
           ·intro w' s0;go_simp
            with_reducible rfl
           rotate_left
           ·simp only [Act.put,List.setIfInBounds_toArray,List.set_cons_zero,List.set_cons_succ,i64_w,i32_w];rfl
           refine pure_ (i:=11) (N:=some 33) (v:=?_) (a':=?_) #[true,true,true,true,true,true,true,true,true,true,true,true,false,false] rfl rfl (any_of HT_.out (by kernel_rfl)) (fun _ _ _ h=>h) (Or.inl ⟨by rfl,?_⟩) ?_ ?_;rotate_left
           ·intro w';go_simp
            with_reducible rfl
           rotate_left
           ·simp only [Act.put,List.setIfInBounds_toArray,List.set_cons_zero,List.set_cons_succ,i64_w,i32_w];rfl
           refine pure_ (i:=12) (N:=some 34) (v:=?_) (a':=?_) #[true,true,true,true,true,true,true,true,true,true,true,true,true,false] rfl rfl (any_of HT_.out (by kernel_rfl)) (fun _ _ _ h=>h) (Or.inl ⟨by rfl,?_⟩) ?_ ?_;rotate_left
           ·intro w';go_simp
            with_reducible rfl
           rotate_left
           ·simp only [Act.put,List.setIfInBounds_toArray,List.set_cons_zero,List.set_cons_succ,i64_w,i32_w];rfl
           refine last_ (i:=13) (N:=none) #[true,true,true,true,true,true,true,true,true,true,true,true,true,true] rfl rfl (one_of HT_.out (by kernel_rfl)) (by decide) (fun K hK=>?_);refine skip_ (w1:=?_) (by rfl) rfl ?_ ?_;rotate_left
           ·go_simp
            rfl
           refine hK.out _ _ ?_;clear hK K;refine done_ (done_of HT_.out (by kernel_rfl)) ?_;try go_wp2
           go_roundg k1
           case measure=>have:=HK1.out;omega
           case rel=>exact ⟨(y108),(wrap64 (x6_1 + 1)),(by first|rfl|(simp;done)|(simp [*];done)),H',⟨by have:=HK1.out;omega⟩,⟨by (with_reducible repeat (first|apply Kd.R_alloc|apply Kd.R_drewN|apply Kd.R_drew));exact HQ21.out⟩,⟨by repeat (first|(with_reducible first|exact HB.out|apply bwA|apply pwbN|apply bw1|refine below_set ?_ GB18.out)|exact HB.out)⟩⟩
          ·rw [if_neg c17] at H;exact absurd H (by simp)
         ·rw [if_neg c16] at H;exact absurd H (by simp)
        ·rw [if_neg c15] at H;exact absurd H (by simp)
       ·rw [if_neg c13] at H;exact absurd H (by simp)
      ·rw [if_neg c12] at H;exact absurd H (by simp)
    ·rw [if_neg c6] at H;exact absurd H (by simp)
   ·rw [if_neg c5] at H;have c5b0:decide (x6_1 < (a0.size:Int)) = false:=decide_eq_false c5;clear c5;obtain rfl:=Option.some.inj H;go_wp2;go_ret
    exact ⟨_,by first|rfl|(simp [errW_none,errW_some] <;> rfl)|(simp [*,errW_none,errW_some] <;> rfl),by (with_reducible repeat (first|apply Kd.R_alloc|apply Kd.R_drewN|apply Kd.R_drew));exact HO_5.out,by repeat (first|(with_reducible first|exact HB.out|apply bwA|apply pwbN|apply bw1)|exact HB.out)⟩
end Go.Proofs.YtenbelecmmpdgaaDoor.All
end
section
namespace Go.Proofs.YtenbelecmmpdgaaDoor.All
open Go.RowKit Go.Proofs.YtenbelecmmpdgaaDoorW.PrintWords Go.Proofs.YtenbelecmmpdgaaDoorW.PrintLast Go.Proofs.YtenbelecmmpdgaaDoorW.PrintMore
open Go.Proofs.YtenbelecmmpdgaaDoorW.Mine
attribute [local go_sem] gtr_string leq_string geq_string
attribute [local go_sem] max2_int min2_int max_two min_two max_three min_three max_four min_four
set_option linter.unusedVariables false
set_option linter.unusedSimpArgs false
mutual
def creelref_PathFault.j0:Nat→ByteArray→Bool→Option (Int)
 | 0,_,_=>none
 | k + 1,x0,x11=>if x11 = true then (some 1) else ((creelref_has.f k x0 0).bind fun t101=>(if t101 = true then (some 3) else ((creelref_parts.f k x0 47).bind fun t102=>(creelref_PathFault.l0 k t102 (t102.length:Int) 0))))
def creelref_PathFault.l0:Nat→List ByteArray→Int→Int→Option (Int)
 | 0,_,_,_=>none
 | k + 1,x15,x16,x17=>if x17 < x16 then (if 0 ≤ x17 then (if x17 < (x15.length:Int) then (if (rdOf ByteArray.empty x15 x17).toList = ([]:List UInt8) then (some 9) else (if (rdOf ByteArray.empty x15 x17).toList = ([46]:List UInt8) then (some 9) else (if (rdOf ByteArray.empty x15 x17).toList = ([46,46]:List UInt8) then (some 9) else (creelref_PathFault.l0 k x15 x16 (wrap64 (x17 + 1)))))) else (none)) else (none)) else (some 0)
end
def creelref_PathFault.f (k:Nat) (a0:ByteArray):Option (Int):=if a0.toList = ([]:List UInt8) then (creelref_PathFault.j0 k a0 true) else (creelref_PathFault.j0 k a0 (decide ((a0.size:Int) > 400)))
set_option maxHeartbeats 8000000 in
set_option maxRecDepth 100000 in
theorem creelref_PathFault.calls (k:Nat) (a0:ByteArray) (r:Int) (w:World) (h:creelref_PathFault.f k a0 = some r) :
 Calls Tryd.prog 26 #[.string a0] w fun e w'=>e = .returned (.int .i64 r)∧Below w.heap.size w w':=by
 have HB:=Aside0.mk (Below.refl w.heap.size w);have H:(if a0.toList = ([]:List UInt8) then (creelref_PathFault.j0 k a0 true) else (creelref_PathFault.j0 k a0 (decide ((a0.size:Int) > 400)))) = some r:=h;clear h;have HC2:=Aside0.mk H;clear H;go_enter Tryd.func26,Tryd.ntmps26;go_upto_region 1 with (fail)
 go_cut [11] (fun v11 wc=>∃ (kq:Nat) (x11_1:Bool),v11 = .bool x11_1∧Aside0 (creelref_PathFault.j0 kq a0 x11_1 = some r)∧Aside0 (kq ≤ k)∧Aside0 (Below w.heap.size w wc))
 case first =>
  have H:=HC2.out;clear HC2;by_cases c3:a0.toList = ([]:List UInt8)
  ·rw [if_pos c3] at H;have c3b0:(a0.toList == ([]:List UInt8)) = true:=beq_iff_eq.mpr c3;have c3b1:(a0.toList != ([]:List UInt8)) = false:=bne_eq_false_iff_eq.mpr c3;clear c3;(first|rw [c3b0]|(simp only [i64_w,i32_w];rw [c3b0])|skip);have H':=Aside0.mk H;clear H;go_wp2;go_meet
   case rel=>exact ⟨_,(true),(by first|rfl|(simp;done)|(simp [*];done)),H',⟨by first|omega|exact Nat.le_refl _⟩,⟨by repeat (first|(with_reducible first|exact HB.out|apply bwA|apply pwbN|apply bw1)|exact HB.out)⟩⟩
  ·rw [if_neg c3] at H;have c3b0:(a0.toList == ([]:List UInt8)) = false:=beq_eq_false_iff_ne.mpr c3;have c3b1:(a0.toList != ([]:List UInt8)) = true:=bne_iff_ne.mpr c3;(first|rw [c3b0]|(simp only [i64_w,i32_w];rw [c3b0])|skip);have H':=Aside0.mk H;clear H;go_wp2;go_meet
   case rel=>exact ⟨_,(decide ((a0.size:Int) > 400)),(by first|rfl|(simp;done)|(simp [*];done)),H',⟨by first|omega|exact Nat.le_refl _⟩,⟨by repeat (first|(with_reducible first|exact HB.out|apply bwA|apply pwbN|apply bw1)|exact HB.out)⟩⟩
 case rest =>
  clear HC2;obtain ⟨kq,x11_1,rfl,HA,HJ1,HB⟩:=hcut;cases kq with
  | zero=>exact absurd HA.out (by simp [creelref_PathFault.j0])
  | succ kj1 =>
   have H:=HA.out;clear HA;simp only [creelref_PathFault.j0] at H;by_cases c4:x11_1 = true
   ·subst c4;have H1:(some 1) = some r:=by rw [if_pos rfl] at H;exact H
    clear H;have H:=H1;clear H1;obtain rfl:=Option.some.inj H;go_wp2;go_ret
    exact ⟨by first|rfl|(simp [errW_none,errW_some] <;> rfl)|(simp [*,errW_none,errW_some] <;> rfl),by repeat (first|(with_reducible first|exact HB.out|apply bwA|apply pwbN|apply bw1)|exact HB.out)⟩
   ·replace c4:=Bool.eq_false_iff.mpr c4;subst c4;have H1:((creelref_has.f kj1 a0 0).bind fun t101=>(if t101 = true then (some 3) else ((creelref_parts.f kj1 a0 47).bind fun t102=>(creelref_PathFault.l0 kj1 t102 (t102.length:Int) 0)))) = some r:=by rw [if_neg (show ¬ (false = true) by decide)] at H;exact H
    clear H;have H:=H1;clear H1;replace H:=Option.bind_eq_some_iff.mp H;obtain ⟨t101,A50,H⟩:=H;replace H:(if t101 = true then (some 3) else ((creelref_parts.f kj1 a0 47).bind fun t102=>(creelref_PathFault.l0 kj1 t102 (t102.length:Int) 0))) = some r:=H;have A5:=Aside0.mk A50;clear A50;by_cases c6:t101 = true
    ·subst c6;have H1:(some 3) = some r:=by rw [if_pos rfl] at H;exact H
     clear H;have H:=H1;clear H1;obtain rfl:=Option.some.inj H;go_wp2_with (first|((with_reducible refine gate_callee (f:=28) rfl ?_);refine goesL_ (some 13) rfl rfl Tryd.func28 (by kernel_rfl) rfl #[.string a0,.int .u8 0] rfl (by (try simp only [List.map_toArray,List.map_cons,List.map_nil]);first|done|rfl|(simp only [List.length_drop,List.length_take];rfl)) ?_;(with_reducible refine (creelref_has.calls kj1 a0 0 true _ A5.out).mono ?_);rintro e w' ⟨rfl,⟨nd,rfl⟩⟩;refine ⟨_,rfl,?_⟩))
     go_ret
     exact ⟨by first|rfl|(simp [errW_none,errW_some] <;> rfl)|(simp [*,errW_none,errW_some] <;> rfl),by repeat (first|(with_reducible first|exact HB.out|apply bwA|apply pwbN|apply bw1)|exact HB.out)⟩
    ·replace c6:=Bool.eq_false_iff.mpr c6;subst c6;have H1:((creelref_parts.f kj1 a0 47).bind fun t102=>(creelref_PathFault.l0 kj1 t102 (t102.length:Int) 0)) = some r:=by rw [if_neg (show ¬ (false = true) by decide)] at H;exact H
     clear H;have H:=H1;clear H1;replace H:=Option.bind_eq_some_iff.mp H;obtain ⟨t102,A70,H⟩:=H;replace H:(creelref_PathFault.l0 kj1 t102 (t102.length:Int) 0) = some r:=H;have A7:=Aside0.mk A70;clear A70;have H':=Aside0.mk H;clear H;go_wp2_with (first|((with_reducible refine gate_callee (f:=28) rfl ?_);refine goesL_ (some 13) rfl rfl Tryd.func28 (by kernel_rfl) rfl #[.string a0,.int .u8 0] rfl (by (try simp only [List.map_toArray,List.map_cons,List.map_nil]);first|done|rfl|(simp only [List.length_drop,List.length_take];rfl)) ?_;(with_reducible refine (creelref_has.calls kj1 a0 0 false _ A5.out).mono ?_);rintro e w' ⟨rfl,⟨nd,rfl⟩⟩;refine ⟨_,rfl,?_⟩)|((with_reducible refine gate_callee (f:=36) rfl ?_);refine goesL_ (some 15) rfl rfl Tryd.func36 (by kernel_rfl) rfl #[.string a0,.int .u8 47] rfl (by (try simp only [List.map_toArray,List.map_cons,List.map_nil]);first|done|rfl|(simp only [List.length_drop,List.length_take];rfl)) ?_;(with_reducible refine (creelref_parts.calls kj1 a0 47 t102 _ A7.out).mono ?_);rintro e w8 ⟨v103,rfl,ho0,hb⟩;refine ⟨_,rfl,?_⟩;have n0_:=Aside0.mk (Kd.R_lower ho0 (below_size (by repeat (first|(with_reducible first|exact HB.out|apply bwA|apply pwbN|apply bw1)|exact HB.out))));have n1_:=Aside0.mk (below_step (by repeat (first|(with_reducible first|exact HB.out|apply bwA|apply pwbN|apply bw1)|exact HB.out)) hb);clear HB;have HO104:=n0_;have HB:=n1_;clear n0_ n1_;(try clear hb);(try clear hb2);(try clear hk);(try clear hi);(try clear ho0);obtain ⟨Ao9,co9,eo9⟩:=Kd.R_slice HO104.out;subst eo9))
     go_loopg [17] kj1 (fun kq v17 w'=>∃ (x17_2:Int),v17 = .int .i64 x17_2∧Aside0 (creelref_PathFault.l0 kq t102 (t102.length:Int) x17_2 = some r)∧Aside0 (kq ≤ kj1)∧Aside0 (Kd.R Kd.string 9 w' w.heap.size (fun _=>True) (.slice Ao9 t102.length co9) t102)∧Aside0 (Below w.heap.size w w'))
     case atStart=>exact ⟨(0),(by first|rfl|(simp;done)|(simp [*];done)),H',⟨Nat.le_refl _⟩,⟨by (with_reducible repeat (first|apply Kd.R_alloc|apply Kd.R_drewN|apply Kd.R_drew));exact HO104.out⟩,⟨by repeat (first|(with_reducible first|exact HB.out|apply bwA|apply pwbN|apply bw1)|exact HB.out)⟩⟩
     case round =>
      clear H';try clear c4
      try clear c6
      obtain ⟨x17_2,rfl,HA,HK2,HO_15,HB⟩:=hrel;cases gk with
      | zero=>exact absurd HA.out (by simp [creelref_PathFault.l0])
      | succ k2 =>
       have H:=HA.out;clear HA;simp only [creelref_PathFault.l0] at H;by_cases c10:x17_2 < (t102.length:Int)
       ·rw [if_pos c10] at H;have c10b0:decide (x17_2 < (t102.length:Int)) = true:=decide_eq_true c10;clear c10;by_cases c11:0 ≤ x17_2
        ·rw [if_pos c11] at H;have c11b0:decide (0 ≤ x17_2) = true:=decide_eq_true c11;clear c11;by_cases c12:x17_2 < (t102.length:Int)
         ·rw [if_pos c12] at H;have c12b0:decide (x17_2 < (t102.length:Int)) = true:=decide_eq_true c12;clear c12;by_cases c13:(rdOf ByteArray.empty t102 x17_2).toList = ([]:List UInt8)
          ·rw [if_pos c13] at H;have c13b0:((rdOf ByteArray.empty t102 x17_2).toList == ([]:List UInt8)) = true:=beq_iff_eq.mpr c13;have c13b1:((rdOf ByteArray.empty t102 x17_2).toList != ([]:List UInt8)) = false:=bne_eq_false_iff_eq.mpr c13;clear c13;obtain rfl:=Option.some.inj H;have p105:0 ≤ (x17_2:Int):=of_decide_eq_true (by first|(with_reducible assumption)|assumption);have q105:x17_2 < (t102.length:Int):=of_decide_eq_true (by first|(with_reducible assumption)|assumption);obtain ⟨ad105,e105,hx105_0⟩:=Kd.at_string (Kd.R_reads' HO_15.out).2.2 x17_2 p105 q105;cases e105;replace p105:=eq_true p105;replace q105:=eq_true q105;go_wp2;go_ret
           exact ⟨by first|rfl|(simp [errW_none,errW_some] <;> rfl)|(simp [*,errW_none,errW_some] <;> rfl),by repeat (first|(with_reducible first|exact HB.out|apply bwA|apply pwbN|apply bw1)|exact HB.out)⟩
          ·rw [if_neg c13] at H;have c13b0:((rdOf ByteArray.empty t102 x17_2).toList == ([]:List UInt8)) = false:=beq_eq_false_iff_ne.mpr c13;have c13b1:((rdOf ByteArray.empty t102 x17_2).toList != ([]:List UInt8)) = true:=bne_iff_ne.mpr c13;by_cases c14:(rdOf ByteArray.empty t102 x17_2).toList = ([46]:List UInt8)
           ·rw [if_pos c14] at H;have c14b0:((rdOf ByteArray.empty t102 x17_2).toList == ([46]:List UInt8)) = true:=beq_iff_eq.mpr c14;have c14b1:((rdOf ByteArray.empty t102 x17_2).toList != ([46]:List UInt8)) = false:=bne_eq_false_iff_eq.mpr c14;clear c14;obtain rfl:=Option.some.inj H;have p105:0 ≤ (x17_2:Int):=of_decide_eq_true (by first|(with_reducible assumption)|assumption);have q105:x17_2 < (t102.length:Int):=of_decide_eq_true (by first|(with_reducible assumption)|assumption);obtain ⟨ad105,e105,hx105_0⟩:=Kd.at_string (Kd.R_reads' HO_15.out).2.2 x17_2 p105 q105;cases e105;replace p105:=eq_true p105;replace q105:=eq_true q105;go_wp2;go_ret
            exact ⟨by first|rfl|(simp [errW_none,errW_some] <;> rfl)|(simp [*,errW_none,errW_some] <;> rfl),by repeat (first|(with_reducible first|exact HB.out|apply bwA|apply pwbN|apply bw1)|exact HB.out)⟩
           ·rw [if_neg c14] at H;have c14b0:((rdOf ByteArray.empty t102 x17_2).toList == ([46]:List UInt8)) = false:=beq_eq_false_iff_ne.mpr c14;have c14b1:((rdOf ByteArray.empty t102 x17_2).toList != ([46]:List UInt8)) = true:=bne_iff_ne.mpr c14;by_cases c15:(rdOf ByteArray.empty t102 x17_2).toList = ([46,46]:List UInt8)
            ·rw [if_pos c15] at H;have c15b0:((rdOf ByteArray.empty t102 x17_2).toList == ([46,46]:List UInt8)) = true:=beq_iff_eq.mpr c15;have c15b1:((rdOf ByteArray.empty t102 x17_2).toList != ([46,46]:List UInt8)) = false:=bne_eq_false_iff_eq.mpr c15;clear c15;obtain rfl:=Option.some.inj H;have p105:0 ≤ (x17_2:Int):=of_decide_eq_true (by first|(with_reducible assumption)|assumption);have q105:x17_2 < (t102.length:Int):=of_decide_eq_true (by first|(with_reducible assumption)|assumption);obtain ⟨ad105,e105,hx105_0⟩:=Kd.at_string (Kd.R_reads' HO_15.out).2.2 x17_2 p105 q105;cases e105;replace p105:=eq_true p105;replace q105:=eq_true q105;go_wp2;go_ret
             exact ⟨by first|rfl|(simp [errW_none,errW_some] <;> rfl)|(simp [*,errW_none,errW_some] <;> rfl),by repeat (first|(with_reducible first|exact HB.out|apply bwA|apply pwbN|apply bw1)|exact HB.out)⟩
            ·rw [if_neg c15] at H;have c15b0:((rdOf ByteArray.empty t102 x17_2).toList == ([46,46]:List UInt8)) = false:=beq_eq_false_iff_ne.mpr c15;have c15b1:((rdOf ByteArray.empty t102 x17_2).toList != ([46,46]:List UInt8)) = true:=bne_iff_ne.mpr c15;have H':=Aside0.mk H;clear H;have p105:0 ≤ (x17_2:Int):=of_decide_eq_true (by first|(with_reducible assumption)|assumption);have q105:x17_2 < (t102.length:Int):=of_decide_eq_true (by first|(with_reducible assumption)|assumption);obtain ⟨ad105,e105,hx105_0⟩:=Kd.at_string (Kd.R_reads' HO_15.out).2.2 x17_2 p105 q105;cases e105;replace p105:=eq_true p105;replace q105:=eq_true q105;go_wp2;go_roundg k2
             case measure=>have:=HJ1.out;have:=HK2.out;omega
             case rel=>exact ⟨(wrap64 (x17_2 + 1)),(by first|rfl|(simp;done)|(simp [*];done)),H',⟨by have:=HJ1.out;have:=HK2.out;omega⟩,⟨by (with_reducible repeat (first|apply Kd.R_alloc|apply Kd.R_drewN|apply Kd.R_drew));exact HO_15.out⟩,⟨by repeat (first|(with_reducible first|exact HB.out|apply bwA|apply pwbN|apply bw1)|exact HB.out)⟩⟩
         ·rw [if_neg c12] at H;exact absurd H (by simp)
        ·rw [if_neg c11] at H;exact absurd H (by simp)
       ·rw [if_neg c10] at H;have c10b0:decide (x17_2 < (t102.length:Int)) = false:=decide_eq_false c10;clear c10;obtain rfl:=Option.some.inj H;go_wp2;go_ret
        exact ⟨by first|rfl|(simp [errW_none,errW_some] <;> rfl)|(simp [*,errW_none,errW_some] <;> rfl),by repeat (first|(with_reducible first|exact HB.out|apply bwA|apply pwbN|apply bw1)|exact HB.out)⟩
end Go.Proofs.YtenbelecmmpdgaaDoor.All
end
section
namespace Go.Proofs.YtenbelecmmpdgaaDoor.All
open Go.RowKit Go.Proofs.YtenbelecmmpdgaaDoorW.PrintWords Go.Proofs.YtenbelecmmpdgaaDoorW.PrintLast Go.Proofs.YtenbelecmmpdgaaDoorW.PrintMore
open Go.Proofs.YtenbelecmmpdgaaDoorW.Mine
attribute [local go_sem] gtr_string leq_string geq_string
attribute [local go_sem] max2_int min2_int max_two min_two max_three min_three max_four min_four
set_option linter.unusedVariables false
set_option linter.unusedSimpArgs false
def creelref_TimeFault.f (a0:Int) (a1:Int):Option (Int):=if a0 < (-1099511627776) then (some 4) else (if a0 > 1099511627776 then (some 4) else (if a1 < 0 then (some 4) else (if a1 ≥ 1000000000 then (some 4) else (some 0))))
set_option maxHeartbeats 8000000 in
set_option maxRecDepth 100000 in
theorem creelref_TimeFault.calls (a0:Int) (a1:Int) (r:Int) (w:World) (h:creelref_TimeFault.f a0 a1 = some r) :
 Calls Tryd.prog 29 #[.int .i64 a0,.int .i64 a1] w fun e w'=>e = .returned (.int .i64 r)∧Drawn0 w w':=by
 have H:(if a0 < (-1099511627776) then (some 4) else (if a0 > 1099511627776 then (some 4) else (if a1 < 0 then (some 4) else (if a1 ≥ 1000000000 then (some 4) else (some 0))))) = some r:=h;clear h;by_cases c3:a0 < (-1099511627776)
 ·rw [if_pos c3] at H;have c3b0:decide (a0 < (-1099511627776)) = true:=decide_eq_true c3;clear c3;obtain rfl:=Option.some.inj H;go_enter Tryd.func29,Tryd.ntmps29;go_wp2;go_ret
  exact ⟨by first|rfl|(simp;done)|(simp [*];done),by repeat (first|exact Drawn0.refl _|apply Drawn0.step)⟩
 ·rw [if_neg c3] at H;have c3b0:decide (a0 < (-1099511627776)) = false:=decide_eq_false c3;clear c3;by_cases c4:a0 > 1099511627776
  ·rw [if_pos c4] at H;have c4b0:decide (1099511627776 < a0) = true:=decide_eq_true c4;clear c4;obtain rfl:=Option.some.inj H;go_enter Tryd.func29,Tryd.ntmps29;go_wp2;go_ret
   exact ⟨by first|rfl|(simp;done)|(simp [*];done),by repeat (first|exact Drawn0.refl _|apply Drawn0.step)⟩
  ·rw [if_neg c4] at H;have c4b0:decide (1099511627776 < a0) = false:=decide_eq_false c4;clear c4;by_cases c5:a1 < 0
   ·rw [if_pos c5] at H;have c5b0:decide (a1 < 0) = true:=decide_eq_true c5;clear c5;obtain rfl:=Option.some.inj H;go_enter Tryd.func29,Tryd.ntmps29;go_wp2;go_ret
    exact ⟨by first|rfl|(simp;done)|(simp [*];done),by repeat (first|exact Drawn0.refl _|apply Drawn0.step)⟩
   ·rw [if_neg c5] at H;have c5b0:decide (a1 < 0) = false:=decide_eq_false c5;clear c5;by_cases c6:a1 ≥ 1000000000
    ·rw [if_pos c6] at H;have c6b0:decide (1000000000 ≤ a1) = true:=decide_eq_true c6;clear c6;obtain rfl:=Option.some.inj H;go_enter Tryd.func29,Tryd.ntmps29;go_wp2;go_ret
     exact ⟨by first|rfl|(simp;done)|(simp [*];done),by repeat (first|exact Drawn0.refl _|apply Drawn0.step)⟩
    ·rw [if_neg c6] at H;have c6b0:decide (1000000000 ≤ a1) = false:=decide_eq_false c6;clear c6;obtain rfl:=Option.some.inj H;go_enter Tryd.func29,Tryd.ntmps29;go_wp2;go_ret
     exact ⟨by first|rfl|(simp;done)|(simp [*];done),by repeat (first|exact Drawn0.refl _|apply Drawn0.step)⟩
end Go.Proofs.YtenbelecmmpdgaaDoor.All
end
