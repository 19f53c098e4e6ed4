/- Made by programs of the prover: walks of Go functions, the words that they use, and plain laws, each text in a section of its own; no condition of its own. -/
import Derived.Test.YtenbelecmmpdgaaGreatDoorZWriteArchives2
import Derived.Test.YtenbelecmmpdgaaGreatDoorZWriteArchives3
section
namespace Go.Proofs.YtenbelecmmpdgaaGreatDoor.All
open Go.RowKit Go.Proofs.YtenbelecmmpdgaaGreatDoorW.PrintWords Go.Proofs.YtenbelecmmpdgaaGreatDoorW.PrintLast Go.Proofs.YtenbelecmmpdgaaGreatDoorW.PrintMore
open Go.Proofs.YtenbelecmmpdgaaGreatDoorW.Mine
attribute [local go_sem] gtr_string leq_string geq_string
attribute [local go_sem] max2_int min2_int max_two min_two max_three min_three max_four min_four
set_option linter.unusedVariables false
set_option linter.unusedSimpArgs false
def octal_Most.f (a0:Int):Option (Int × Int):=if a0 < 2 then (some (0,4)) else (if a0 > 12 then (some (0,4)) else (if 0 ≤ (wrap64 (3 * (wrap64 (a0 - 1)))) then (some (wrap64 ((shl .i64 1 (wrap64 (3 * (wrap64 (a0 - 1))))) - 1),0)) else (none)))
set_option maxHeartbeats 8000000 in
set_option maxRecDepth 100000 in
theorem octal_Most.calls (a0:Int) (r1:Int) (r2:Int) (w:World) (h:octal_Most.f a0 = some (r1,r2)) :
 Calls Tryz.prog 59 #[.int .i64 a0] w fun e w'=>e = .returned (.tuple #[.int .i64 r1,.int .i64 r2])∧Drawn0 w w':=by
 have H:(if a0 < 2 then (some (0,4)) else (if a0 > 12 then (some (0,4)) else (if 0 ≤ (wrap64 (3 * (wrap64 (a0 - 1)))) then (some (wrap64 ((shl .i64 1 (wrap64 (3 * (wrap64 (a0 - 1))))) - 1),0)) else (none)))) = some (r1,r2):=h;clear h;by_cases c2:a0 < 2
 ·rw [if_pos c2] at H;have c2b0:decide (a0 < 2) = true:=decide_eq_true c2;clear c2;simp only [Option.some.injEq,Prod.mk.injEq] at H;obtain ⟨rfl,rfl⟩:=H;go_enter Tryz.func59,Tryz.ntmps59;go_wp2;go_ret2
  exact ⟨by first|rfl|(simp;done)|(simp [*];done),by repeat (first|exact Drawn0.refl _|apply Drawn0.step)⟩
 ·rw [if_neg c2] at H;have c2b0:decide (a0 < 2) = false:=decide_eq_false c2;clear c2;by_cases c3:a0 > 12
  ·rw [if_pos c3] at H;have c3b0:decide (12 < a0) = true:=decide_eq_true c3;clear c3;simp only [Option.some.injEq,Prod.mk.injEq] at H;obtain ⟨rfl,rfl⟩:=H;go_enter Tryz.func59,Tryz.ntmps59;go_wp2;go_ret2
   exact ⟨by first|rfl|(simp;done)|(simp [*];done),by repeat (first|exact Drawn0.refl _|apply Drawn0.step)⟩
  ·rw [if_neg c3] at H;have c3b0:decide (12 < a0) = false:=decide_eq_false c3;clear c3;obtain ⟨ji4,hji4⟩:∃ j_:Int,(wrap64 (3 * (wrap64 (a0 - 1)))) = j_:=⟨_,rfl⟩
   replace H:(if 0 ≤ (ji4) then (some (wrap64 ((shl .i64 1 (ji4)) - 1),0)) else (none)) = some (r1,r2):=by first|(rw [hji4] at H;exact H)|(simp only [hji4] at H ⊢;exact H)
   have hji4w:(IntKind.i64.wrap (3 * (wrap64 (a0 - 1)))) = ji4:=(i64_w _).trans hji4;by_cases c5:0 ≤ (ji4)
   ·rw [if_pos c5] at H;have c5b0:=eq_true c5;have c5b1:decide (0 ≤ (ji4)) = true:=decide_eq_true c5;clear c5;obtain ⟨ji6,hji6⟩:∃ j_:Int,(shl .i64 1 (ji4)) = j_:=⟨_,rfl⟩
    replace H:(some (wrap64 ((ji6) - 1),0)) = some (r1,r2):=by first|(rw [hji6] at H;exact H)|(simp only [hji6] at H ⊢;exact H)
    have hji6_:(IntKind.i64.wrap (1 * 2 ^ min (ji4).toNat 64)) = ji6:=hji6;have hji6z:(ji4) ≤ 64→(IntKind.i64.wrap (1 * 2 ^ (ji4).toNat)) = ji6:=shl_small hji6;have hji6u:(IntKind.i64.wrap (2 ^ min (ji4).toNat 64)) = ji6:=by have h_:=hji6_;rw [Int.one_mul] at h_;exact h_
    have hji6v:(ji4) ≤ 64→(IntKind.i64.wrap (2 ^ (ji4).toNat)) = ji6:=fun hle_=>by have h_:=hji6z hle_;rw [Int.one_mul] at h_;exact h_
    have hji6y:(wrap64 (1 * 2 ^ min (ji4).toNat 64)) = ji6:=(i64_w _).symm.trans hji6_;have hji6x:(ji4) ≤ 64→(wrap64 (1 * 2 ^ (ji4).toNat)) = ji6:=fun h_=>(i64_w _).symm.trans (hji6z h_)
    simp only [Option.some.injEq,Prod.mk.injEq] at H;obtain ⟨rfl,rfl⟩:=H;go_enter Tryz.func59,Tryz.ntmps59;go_wp2;go_ret2
    exact ⟨by first|rfl|(simp;done)|(simp only [← hji4,← hji6] <;> (first|rfl|simp))|(simp [*];done),by repeat (first|exact Drawn0.refl _|apply Drawn0.step)⟩
   ·rw [if_neg c5] at H;exact absurd H (by simp)
def strconv_Itoa_76.f (a0:Int):Option ByteArray:=if -9223372036854775808 ≤ a0∧a0 ≤ 9223372036854775807 then some ⟨(Lib.itoa a0).toArray⟩ else none
theorem strconv_Itoa_76.calls (a0:Int) (r:ByteArray) (w:World) (HT0:Aside0 (Tab w)) (h:strconv_Itoa_76.f a0 = some r) :
 Calls Tryz.prog 76 #[.int .i64 a0] w fun e w'=>e = .returned (.string r)∧Below w.heap.size w w':=by
 unfold strconv_Itoa_76.f at h;split at h
 ·rename_i hc
  obtain rfl:=Option.some.inj h;refine (Tryz.strconv_Itoa a0 hc.1 hc.2 w HT0.out).mono ?_;rintro e w' ⟨he,k,os,rfl⟩;exact ⟨he,Lib.below_grow _ _ (Nat.le_refl _) _ _⟩
 ·cases h
def strings_Repeat.f (a0:ByteArray) (a1:Int):Option ByteArray:=if 0 ≤ a1∧a1 ≤ 9223372036854775807∧a0.size * a1.toNat ≤ 140737488355328 then some ⟨(Lib.repeatL a0.data.toList a1.toNat).toArray⟩ else none
theorem strings_Repeat.calls (a0:ByteArray) (a1:Int) (r:ByteArray) (w:World) (h:strings_Repeat.f a0 a1 = some r) :
 Calls Tryz.prog 70 #[.string a0,.int .i64 a1] w fun e w'=>e = .returned (.string r)∧Below w.heap.size w w':=by
 unfold strings_Repeat.f at h;split at h
 ·rename_i hc
  obtain ⟨h0,h1,h2⟩:=hc;obtain rfl:=Option.some.inj h;obtain ⟨n,rfl⟩:=Int.eq_ofNat_of_zero_le h0;exact Tryz.strings_Repeat a0 n w (by omega) (by simpa using h2)
 ·cases h
def strings_TrimRight.f (a0:ByteArray) (a1:ByteArray):Option ByteArray:=match a1 with
 | ⟨⟨[c]⟩⟩=>if c.toNat < 128∧a0.size ≤ 9223372036854775807 then some ⟨(Lib.trimRightB a0.data.toList c).toArray⟩ else none
 | _=>none
theorem strings_TrimRight.calls (a0:ByteArray) (a1:ByteArray) (r:ByteArray) (w:World) (h:strings_TrimRight.f a0 a1 = some r) :
 Calls Tryz.prog 106 #[.string a0,.string a1] w fun e w'=>e = .returned (.string r)∧Drawn0 w w':=by
 unfold strings_TrimRight.f at h;split at h
 ·rename_i c
  split at h
  ·rename_i hc
   obtain rfl:=Option.some.inj h;refine (Tryz.strings_TrimRight_one a0 c hc.1 w hc.2).mono ?_;rintro e w' ⟨rfl,hw⟩;refine ⟨rfl,?_⟩;first
    | (subst hw;exact Drawn0.refl _)
    | (rcases hw with rfl|rfl <;> first|exact Drawn0.refl _|exact Drawn0.step (Drawn0.refl _) 1)
  ·cases h
 ·cases h
def stamp_Text.j0:Nat→Int→Int→ByteArray→Option (ByteArray × Int)
 | 0,_,_,_=>none
 | k + 1,x0,x1,x7=>(strconv_Itoa_76.f x0).bind fun t102=>(if x7.size + t102.size ≤ 9223372036854775807 then (if x1 = 0 then (some (x7 ++ t102,0)) else ((strconv_Itoa_76.f x1).bind fun t103=>((strings_Repeat.f (⟨#[48]⟩:ByteArray) (wrap64 (9 - (t103.size:Int)))).bind fun t104=>(if t104.size + t103.size ≤ 9223372036854775807 then (if (x7 ++ t102).size + 1 ≤ 9223372036854775807 then ((strings_TrimRight.f (t104 ++ t103) (⟨#[48]⟩:ByteArray)).bind fun t105=>(if ((x7 ++ t102) ++ (⟨#[46]⟩:ByteArray)).size + t105.size ≤ 9223372036854775807 then (some (((x7 ++ t102) ++ (⟨#[46]⟩:ByteArray)) ++ t105,0)) else (none))) else (none)) else (none))))) else (none))
def stamp_Text.f (k:Nat) (a0:Int) (a1:Int):Option (ByteArray × Int):=(stamp_Check.f a0 a1).bind fun t101=>(if t101 = 0 then (if a0 < 0 then (if a1 > 0 then (stamp_Text.j0 k (wrap64 ((wrap64 (-a0)) - 1)) (wrap64 (1000000000 - a1)) (⟨#[45]⟩:ByteArray)) else (stamp_Text.j0 k (wrap64 (-a0)) a1 (⟨#[45]⟩:ByteArray))) else (stamp_Text.j0 k a0 a1 (⟨#[]⟩:ByteArray))) else (some ((⟨#[]⟩:ByteArray),t101)))
set_option maxHeartbeats 8000000 in
set_option maxRecDepth 100000 in
theorem stamp_Text.calls (k:Nat) (a0:Int) (a1:Int) (r1:ByteArray) (r2:Int) (w:World) (HT0:Aside0 (Tab w)) (h:stamp_Text.f k a0 a1 = some (r1,r2)) :
 Calls Tryz.prog 60 #[.int .i64 a0,.int .i64 a1] w fun e w'=>e = .returned (.tuple #[.string r1,.int .i64 r2])∧Below w.heap.size w w':=by
 have HB:=Aside0.mk (Below.refl w.heap.size w);have H:((stamp_Check.f a0 a1).bind fun t101=>(if t101 = 0 then (if a0 < 0 then (if a1 > 0 then (stamp_Text.j0 k (wrap64 ((wrap64 (-a0)) - 1)) (wrap64 (1000000000 - a1)) (⟨#[45]⟩:ByteArray)) else (stamp_Text.j0 k (wrap64 (-a0)) a1 (⟨#[45]⟩:ByteArray))) else (stamp_Text.j0 k a0 a1 (⟨#[]⟩:ByteArray))) else (some ((⟨#[]⟩:ByteArray),t101)))) = some (r1,r2):=h;clear h;replace H:=Option.bind_eq_some_iff.mp H;obtain ⟨t101,A30,H⟩:=H;replace H:(if t101 = 0 then (if a0 < 0 then (if a1 > 0 then (stamp_Text.j0 k (wrap64 ((wrap64 (-a0)) - 1)) (wrap64 (1000000000 - a1)) (⟨#[45]⟩:ByteArray)) else (stamp_Text.j0 k (wrap64 (-a0)) a1 (⟨#[45]⟩:ByteArray))) else (stamp_Text.j0 k a0 a1 (⟨#[]⟩:ByteArray))) else (some ((⟨#[]⟩:ByteArray),t101))) = some (r1,r2):=H;have A3:=Aside0.mk A30;clear A30;by_cases c4:t101 = 0
 ·rw [if_pos c4] at H;have c4b0:(t101 == 0) = true:=beq_iff_eq.mpr c4;have c4b1:(t101 != 0) = false:=bne_eq_false_iff_eq.mpr c4;clear c4;have HC5:=Aside0.mk H;clear H;go_enter Tryz.func60,Tryz.ntmps60;go_upto_if 17 with (first|((with_reducible refine gate_callee (f:=104) rfl ?_);refine goesL_ (some 12) rfl rfl Tryz.func104 (by kernel_rfl) rfl #[.int .i64 a0,.int .i64 a1] rfl (by (try simp only [List.map_toArray,List.map_cons,List.map_nil]);first|done|rfl|(simp only [List.length_drop,List.length_take];rfl)) ?_;(with_reducible refine (stamp_Check.calls a0 a1 t101 _ A3.out).mono ?_);rintro e w' ⟨rfl,⟨nd,rfl⟩⟩;refine ⟨_,rfl,?_⟩))
  (try simp only [Act.put,List.setIfInBounds_toArray,List.set_cons_zero,List.set_cons_succ]);go_cut [0,1,7] (fun v0 v1 v7 wc=>∃ (kq:Nat) (x0_4:Int) (x1_4:Int) (x7_4:ByteArray),v0 = .int .i64 x0_4∧v1 = .int .i64 x1_4∧v7 = .string x7_4∧Aside0 (stamp_Text.j0 kq x0_4 x1_4 x7_4 = some (r1,r2))∧Aside0 (kq ≤ k)∧Aside0 (Below w.heap.size w wc))
  case first =>
   have H:=HC5.out;clear HC5;by_cases c6:a0 < 0
   ·rw [if_pos c6] at H;have c6b0:decide (a0 < 0) = true:=decide_eq_true c6;clear c6;(first|rw [c6b0]|(simp only [i64_w,i32_w];rw [c6b0])|skip);by_cases c7:a1 > 0
    ·rw [if_pos c7] at H;have c7b0:decide (0 < a1) = true:=decide_eq_true c7;clear c7;have H':=Aside0.mk H;clear H;go_wp2;go_meet
     case rel=>exact ⟨_,(wrap64 ((wrap64 (-a0)) - 1)),(wrap64 (1000000000 - a1)),((⟨#[45]⟩:ByteArray)),(by first|rfl|(simp;done)|(simp [*];done)),(by first|rfl|(simp;done)|(simp [*];done)),(by first|rfl|(simp;done)|(simp [*];done)),H',⟨by first|omega|exact Nat.le_refl _⟩,⟨by repeat (first|(with_reducible first|exact HB.out|apply bwA|apply pwbN|apply bw1)|exact HB.out)⟩⟩
    ·rw [if_neg c7] at H;have c7b0:decide (0 < a1) = false:=decide_eq_false c7;clear c7;have H':=Aside0.mk H;clear H;go_wp2;go_meet
     case rel=>exact ⟨_,(wrap64 (-a0)),(a1),((⟨#[45]⟩:ByteArray)),(by first|rfl|(simp;done)|(simp [*];done)),(by first|rfl|(simp;done)|(simp [*];done)),(by first|rfl|(simp;done)|(simp [*];done)),H',⟨by first|omega|exact Nat.le_refl _⟩,⟨by repeat (first|(with_reducible first|exact HB.out|apply bwA|apply pwbN|apply bw1)|exact HB.out)⟩⟩
   ·rw [if_neg c6] at H;have c6b0:decide (a0 < 0) = false:=decide_eq_false c6;clear c6;(first|rw [c6b0]|(simp only [i64_w,i32_w];rw [c6b0])|skip);have H':=Aside0.mk H;clear H;go_wp2;go_meet
    case rel=>exact ⟨_,(a0),(a1),((⟨#[]⟩:ByteArray)),(by first|rfl|(simp;done)|(simp [*];done)),(by first|rfl|(simp;done)|(simp [*];done)),(by first|rfl|(simp;done)|(simp [*];done)),H',⟨by first|omega|exact Nat.le_refl _⟩,⟨by repeat (first|(with_reducible first|exact HB.out|apply bwA|apply pwbN|apply bw1)|exact HB.out)⟩⟩
  case rest =>
   clear HC5;repeat first|clear c4|clear c4b0|clear c4b1
   obtain ⟨kq,x0_4,x1_4,x7_4,rfl,rfl,rfl,HA,HJ4,HB⟩:=hcut;cases kq with
   | zero=>exact absurd HA.out (by simp [stamp_Text.j0])
   | succ kj4 =>
    have H:=HA.out;clear HA;simp only [stamp_Text.j0] at H;replace H:=Option.bind_eq_some_iff.mp H;obtain ⟨t102,A80,H⟩:=H;replace H:(if x7_4.size + t102.size ≤ 9223372036854775807 then (if x1_4 = 0 then (some (x7_4 ++ t102,0)) else ((strconv_Itoa_76.f x1_4).bind fun t103=>((strings_Repeat.f (⟨#[48]⟩:ByteArray) (wrap64 (9 - (t103.size:Int)))).bind fun t104=>(if t104.size + t103.size ≤ 9223372036854775807 then (if (x7_4 ++ t102).size + 1 ≤ 9223372036854775807 then ((strings_TrimRight.f (t104 ++ t103) (⟨#[48]⟩:ByteArray)).bind fun t105=>(if ((x7_4 ++ t102) ++ (⟨#[46]⟩:ByteArray)).size + t105.size ≤ 9223372036854775807 then (some (((x7_4 ++ t102) ++ (⟨#[46]⟩:ByteArray)) ++ t105,0)) else (none))) else (none)) else (none))))) else (none)) = some (r1,r2):=H;have A8:=Aside0.mk A80;clear A80;by_cases c9:x7_4.size + t102.size ≤ 9223372036854775807
    ·rw [if_pos c9] at H;have c9b0:=eq_true c9;have c9b1:decide (x7_4.size + t102.size ≤ 9223372036854775807) = true:=decide_eq_true c9;try have c9b2:(9223372036854775807 < x7_4.size + t102.size) = False:=eq_false (Nat.not_lt.2 c9)
     by_cases c10:x1_4 = 0
     ·rw [if_pos c10] at H;have c10b0:(x1_4 == 0) = true:=beq_iff_eq.mpr c10;have c10b1:(x1_4 != 0) = false:=bne_eq_false_iff_eq.mpr c10;clear c10;simp only [Option.some.injEq,Prod.mk.injEq] at H;obtain ⟨rfl,rfl⟩:=H;go_wp2_with (first|((with_reducible refine gate_callee (f:=76) rfl ?_);refine goesL_ (some 28) rfl rfl Tryz.func76 (by kernel_rfl) rfl #[.int .i64 x0_4] rfl (by (try simp only [List.map_toArray,List.map_cons,List.map_nil]);first|done|rfl|(simp only [List.length_drop,List.length_take];rfl)) ?_;(with_reducible refine (strconv_Itoa_76.calls x0_4 t102 _ (by first|exact HT0|exact ⟨tab_on HT0.out HB.out⟩|exact ⟨tab_on HT0.out (by repeat (first|(with_reducible first|exact HB.out|apply bwA|apply pwbN|apply bw1)|exact HB.out|exact Below.refl _ _))⟩) A8.out).mono ?_);rintro e w11 ⟨rfl,hb⟩;refine ⟨_,rfl,?_⟩;have n0_:=Aside0.mk (below_step (by repeat (first|(with_reducible first|exact HB.out|apply bwA|apply pwbN|apply bw1)|exact HB.out)) hb);clear HB;have HB:=n0_;clear n0_;(try clear hb);(try clear hb2);(try clear hk);(try clear hi)))
      go_ret2
      exact ⟨by first|rfl|(simp [errW_none,errW_some] <;> rfl)|(simp [*,errW_none,errW_some] <;> rfl),by repeat (first|(with_reducible first|exact HB.out|apply bwA|apply pwbN|apply bw1)|exact HB.out)⟩
     ·rw [if_neg c10] at H;have c10b0:(x1_4 == 0) = false:=beq_eq_false_iff_ne.mpr c10;have c10b1:(x1_4 != 0) = true:=bne_iff_ne.mpr c10;replace H:=Option.bind_eq_some_iff.mp H;obtain ⟨t103,A120,H⟩:=H;replace H:((strings_Repeat.f (⟨#[48]⟩:ByteArray) (wrap64 (9 - (t103.size:Int)))).bind fun t104=>(if t104.size + t103.size ≤ 9223372036854775807 then (if (x7_4 ++ t102).size + 1 ≤ 9223372036854775807 then ((strings_TrimRight.f (t104 ++ t103) (⟨#[48]⟩:ByteArray)).bind fun t105=>(if ((x7_4 ++ t102) ++ (⟨#[46]⟩:ByteArray)).size + t105.size ≤ 9223372036854775807 then (some (((x7_4 ++ t102) ++ (⟨#[46]⟩:ByteArray)) ++ t105,0)) else (none))) else (none)) else (none))) = some (r1,r2):=H;have A12:=Aside0.mk A120;clear A120;replace H:=Option.bind_eq_some_iff.mp H;obtain ⟨t104,A130,H⟩:=H;replace H:(if t104.size + t103.size ≤ 9223372036854775807 then (if (x7_4 ++ t102).size + 1 ≤ 9223372036854775807 then ((strings_TrimRight.f (t104 ++ t103) (⟨#[48]⟩:ByteArray)).bind fun t105=>(if ((x7_4 ++ t102) ++ (⟨#[46]⟩:ByteArray)).size + t105.size ≤ 9223372036854775807 then (some (((x7_4 ++ t102) ++ (⟨#[46]⟩:ByteArray)) ++ t105,0)) else (none))) else (none)) else (none)) = some (r1,r2):=H;have A13:=Aside0.mk A130;clear A130;by_cases c14:t104.size + t103.size ≤ 9223372036854775807
      ·rw [if_pos c14] at H;have c14b0:=eq_true c14;have c14b1:decide (t104.size + t103.size ≤ 9223372036854775807) = true:=decide_eq_true c14;try have c14b2:(9223372036854775807 < t104.size + t103.size) = False:=eq_false (Nat.not_lt.2 c14)
       by_cases c15:(x7_4 ++ t102).size + 1 ≤ 9223372036854775807
       ·rw [if_pos c15] at H;have c15b0:=eq_true c15;have c15b1:decide ((x7_4 ++ t102).size + 1 ≤ 9223372036854775807) = true:=decide_eq_true c15;try have c15b2:(9223372036854775807 < (x7_4 ++ t102).size + 1) = False:=eq_false (Nat.not_lt.2 c15)
        have c15b9_:(9223372036854775807 < x7_4.size + t102.size + 1) = False:=eq_false (by have h_:=c15;simp only [ByteArray.size_append] at h_;first|omega|(have h1_:∀ b:UInt8,(⟨#[b]⟩:ByteArray).size = 1:=fun _=>rfl;simp only [h1_] at h_;omega));replace H:=Option.bind_eq_some_iff.mp H;obtain ⟨t105,A160,H⟩:=H;replace H:(if ((x7_4 ++ t102) ++ (⟨#[46]⟩:ByteArray)).size + t105.size ≤ 9223372036854775807 then (some (((x7_4 ++ t102) ++ (⟨#[46]⟩:ByteArray)) ++ t105,0)) else (none)) = some (r1,r2):=H;have A16:=Aside0.mk A160;clear A160;by_cases c17:((x7_4 ++ t102) ++ (⟨#[46]⟩:ByteArray)).size + t105.size ≤ 9223372036854775807
        ·rw [if_pos c17] at H;have c17b0:=eq_true c17;have c17b1:decide (((x7_4 ++ t102) ++ (⟨#[46]⟩:ByteArray)).size + t105.size ≤ 9223372036854775807) = true:=decide_eq_true c17;try have c17b2:(9223372036854775807 < ((x7_4 ++ t102) ++ (⟨#[46]⟩:ByteArray)).size + t105.size) = False:=eq_false (Nat.not_lt.2 c17)
         have c17b9_:(9223372036854775807 < x7_4.size + t102.size + 1 + t105.size) = False:=eq_false (by have h_:=c17;simp only [ByteArray.size_append] at h_;first|omega|(have h1_:∀ b:UInt8,(⟨#[b]⟩:ByteArray).size = 1:=fun _=>rfl;simp only [h1_] at h_;omega));simp only [Option.some.injEq,Prod.mk.injEq] at H;obtain ⟨rfl,rfl⟩:=H;go_wp2_with (first|((with_reducible refine gate_callee (f:=76) rfl ?_);refine goesL_ (some 28) rfl rfl Tryz.func76 (by kernel_rfl) rfl #[.int .i64 x0_4] rfl (by (try simp only [List.map_toArray,List.map_cons,List.map_nil]);first|done|rfl|(simp only [List.length_drop,List.length_take];rfl)) ?_;(with_reducible refine (strconv_Itoa_76.calls x0_4 t102 _ (by first|exact HT0|exact ⟨tab_on HT0.out HB.out⟩|exact ⟨tab_on HT0.out (by repeat (first|(with_reducible first|exact HB.out|apply bwA|apply pwbN|apply bw1)|exact HB.out|exact Below.refl _ _))⟩) A8.out).mono ?_);rintro e w18 ⟨rfl,hb⟩;refine ⟨_,rfl,?_⟩;have n0_:=Aside0.mk (below_step (by repeat (first|(with_reducible first|exact HB.out|apply bwA|apply pwbN|apply bw1)|exact HB.out)) hb);clear HB;have HB:=n0_;clear n0_;(try clear hb);(try clear hb2);(try clear hk);(try clear hi))|((with_reducible refine gate_callee (f:=76) rfl ?_);refine goesL_ (some 34) rfl rfl Tryz.func76 (by kernel_rfl) rfl #[.int .i64 x1_4] rfl (by (try simp only [List.map_toArray,List.map_cons,List.map_nil]);first|done|rfl|(simp only [List.length_drop,List.length_take];rfl)) ?_;(with_reducible refine (strconv_Itoa_76.calls x1_4 t103 _ (by first|exact HT0|exact ⟨tab_on HT0.out HB.out⟩|exact ⟨tab_on HT0.out (by repeat (first|(with_reducible first|exact HB.out|apply bwA|apply pwbN|apply bw1)|exact HB.out|exact Below.refl _ _))⟩) A12.out).mono ?_);rintro e w19 ⟨rfl,hb⟩;refine ⟨_,rfl,?_⟩;have n0_:=Aside0.mk (below_step (by repeat (first|(with_reducible first|exact HB.out|apply bwA|apply pwbN|apply bw1)|exact HB.out)) hb);clear HB;have HB:=n0_;clear n0_;(try clear hb);(try clear hb2);(try clear hk);(try clear hi))|((with_reducible refine gate_callee (f:=70) rfl ?_);refine goesL_ (some 38) rfl rfl Tryz.func70 (by kernel_rfl) rfl #[.string (⟨#[48]⟩:ByteArray),.int .i64 (wrap64 (9 - (t103.size:Int)))] rfl (by (have hw9_:wrap64 (9 - (t103.size:Int)) = 9 - (t103.size:Int):=by unfold wrap64;omega);(try rw [hw9_]);(try simp only [List.map_toArray,List.map_cons,List.map_nil]);first|done|rfl|(simp only [List.length_drop,List.length_take];rfl)) ?_;(with_reducible refine (strings_Repeat.calls (⟨#[48]⟩:ByteArray) (wrap64 (9 - (t103.size:Int))) t104 _ A13.out).mono ?_);rintro e w20 ⟨rfl,hb⟩;refine ⟨_,rfl,?_⟩;have n0_:=Aside0.mk (below_step (by repeat (first|(with_reducible first|exact HB.out|apply bwA|apply pwbN|apply bw1)|exact HB.out)) hb);clear HB;have HB:=n0_;clear n0_;(try clear hb);(try clear hb2);(try clear hk);(try clear hi))|((with_reducible refine gate_callee (f:=106) rfl ?_);refine goesL_ (some 44) rfl rfl Tryz.func106 (by kernel_rfl) rfl #[.string (t104 ++ t103),.string (⟨#[48]⟩:ByteArray)] rfl (by (try simp only [List.map_toArray,List.map_cons,List.map_nil]);first|done|rfl|(simp only [List.length_drop,List.length_take];rfl)) ?_;(with_reducible refine (strings_TrimRight.calls (t104 ++ t103) (⟨#[48]⟩:ByteArray) t105 _ A16.out).mono ?_);rintro e w' ⟨rfl,⟨nd,rfl⟩⟩;refine ⟨_,rfl,?_⟩))
         go_ret2
         exact ⟨by first|rfl|(simp [errW_none,errW_some] <;> rfl)|(simp [*,errW_none,errW_some] <;> rfl),by repeat (first|(with_reducible first|exact HB.out|apply bwA|apply pwbN|apply bw1)|exact HB.out)⟩
        ·rw [if_neg c17] at H;exact absurd H (by simp)
       ·rw [if_neg c15] at H;exact absurd H (by simp)
      ·rw [if_neg c14] at H;exact absurd H (by simp)
    ·rw [if_neg c9] at H;exact absurd H (by simp)
 ·rw [if_neg c4] at H;have c4b0:(t101 == 0) = false:=beq_eq_false_iff_ne.mpr c4;have c4b1:(t101 != 0) = true:=bne_iff_ne.mpr c4;simp only [Option.some.injEq,Prod.mk.injEq] at H;obtain ⟨rfl,rfl⟩:=H;go_enter Tryz.func60,Tryz.ntmps60;go_wp2_with (first|((with_reducible refine gate_callee (f:=104) rfl ?_);refine goesL_ (some 12) rfl rfl Tryz.func104 (by kernel_rfl) rfl #[.int .i64 a0,.int .i64 a1] rfl (by (try simp only [List.map_toArray,List.map_cons,List.map_nil]);first|done|rfl|(simp only [List.length_drop,List.length_take];rfl)) ?_;(with_reducible refine (stamp_Check.calls a0 a1 t101 _ A3.out).mono ?_);rintro e w' ⟨rfl,⟨nd,rfl⟩⟩;refine ⟨_,rfl,?_⟩))
  go_ret2
  exact ⟨by first|rfl|(simp [errW_none,errW_some] <;> rfl)|(simp [*,errW_none,errW_some] <;> rfl),by repeat (first|(with_reducible first|exact HB.out|apply bwA|apply pwbN|apply bw1)|exact HB.out)⟩
def cut_Two.here (s:ByteArray) (i:Nat):Bool:=bt s i == 47 && decide (0 < i) && decide (i ≤ 155) && decide (i + 1 < s.size) && decide (s.size ≤ i + 101)
def cut_Two.l0:Nat→ByteArray→Nat→Option (ByteArray × ByteArray × Int)
 | 0,_,_=>none
 | k + 1,s,i=>if i < s.size then (if cut_Two.here s i = true then some (s.extract 0 i,s.extract (i + 1) s.size,0) else cut_Two.l0 k s (i + (Utf8.decode s i).2)) else some ((⟨#[]⟩:ByteArray),(⟨#[]⟩:ByteArray),1)
def cut_Two.f (k:Nat) (a0:ByteArray):Option (ByteArray × ByteArray × Int):=if a0.size ≤ 9223372036854775807 then (if a0.toList = ([]:List UInt8) then some ((⟨#[]⟩:ByteArray),(⟨#[]⟩:ByteArray),3) else ((strings_IndexByte.f a0 0).bind fun t=>(if t ≥ 0 then some ((⟨#[]⟩:ByteArray),(⟨#[]⟩:ByteArray),3) else if (a0.size:Int) ≤ 100 then some ((⟨#[]⟩:ByteArray),a0,0) else cut_Two.l0 k a0 0))) else none
set_option maxHeartbeats 4000000 in
set_option maxRecDepth 100000 in
theorem cut_Two.calls (k:Nat) (a0:ByteArray) (r1:ByteArray) (r2:ByteArray) (r3:Int) (w:World) (h:cut_Two.f k a0 = some (r1,r2,r3)) :
 Calls Tryz.prog 62 #[.string a0] w fun e w'=>e = .returned (.tuple #[.string r1,.string r2,.int .i64 r3])∧Below w.heap.size w w':=by
 unfold cut_Two.f at h;by_cases hsz:a0.size ≤ 9223372036854775807
 rotate_left
 ·rw [if_neg hsz] at h;cases h
 rw [if_pos hsz] at h;have cI:=fun t (A:strings_IndexByte.f a0 0 = some t) (W:World)=>strings_IndexByte.calls a0 0 t W A
 by_cases c1:a0.toList = ([]:List UInt8)
 ·rw [if_pos c1] at h;simp only [Option.some.injEq,Prod.mk.injEq] at h;obtain ⟨rfl,rfl,rfl⟩:=h;go_enter Tryz.func62,Tryz.ntmps62;go_wp2_with fail
  go_ret3
  exact ⟨rfl,Below.refl _ _⟩
 ·rw [if_neg c1] at h;have c1a:(a0.toList == ([]:List UInt8)) = false:=beq_eq_false_iff_ne.2 c1;have c1b:a0.toList.isEmpty = false:=by simpa using c1
  obtain ⟨t,A0,h⟩:=Option.bind_eq_some_iff.1 h;have A:=Aside0.mk A0;clear A0;by_cases c2:t ≥ 0
  ·rw [if_pos c2] at h;simp only [Option.some.injEq,Prod.mk.injEq] at h;obtain ⟨rfl,rfl,rfl⟩:=h;have c2b:decide (0 ≤ t) = true:=decide_eq_true c2;clear c1;go_enter Tryz.func62,Tryz.ntmps62;go_wp2_with (go_at_call 56;refine (cI t A.out _).mono ?_;rintro e w' ⟨rfl,⟨nd,rfl⟩⟩)
   go_ret3
   exact ⟨rfl,pwbN (Below.refl _ _) _⟩
  ·rw [if_neg c2] at h;have c2b:decide (0 ≤ t) = false:=decide_eq_false c2;clear c1 c2;by_cases c3:(a0.size:Int) ≤ 100
   ·rw [if_pos c3] at h;simp only [Option.some.injEq,Prod.mk.injEq] at h;obtain ⟨rfl,rfl,rfl⟩:=h;have c3b:decide ((a0.size:Int) ≤ 100) = true:=decide_eq_true c3;go_enter Tryz.func62,Tryz.ntmps62;go_wp2_with (go_at_call 56;refine (cI t A.out _).mono ?_;rintro e w' ⟨rfl,⟨nd,rfl⟩⟩)
    go_ret3
    exact ⟨rfl,pwbN (Below.refl _ _) _⟩
   ·rw [if_neg c3] at h;have c3b:decide ((a0.size:Int) ≤ 100) = false:=decide_eq_false c3;have H:=Aside0.mk h;clear h;go_enter Tryz.func62,Tryz.ntmps62;go_wp2_with (go_at_call 56;refine (cI t A.out _).mono ?_;rintro e w' ⟨rfl,⟨nd,rfl⟩⟩)
    clear cI A c2b c3b c1a c1b;go_loopg [] k (fun kq wx=>∃ pos:Nat,wx.heap[w.heap.size]? = some (.stringIter a0 pos)∧Aside0 (cut_Two.l0 kq a0 pos = some (r1,r2,r3))∧Aside0 (Below w.heap.size w wx))
    case atStart=>exact ⟨0,by simpa using World.iter_heap (w.drewN nd) a0 0,H,⟨(pwbN (Below.refl _ _) _).alloc (by simp) _⟩⟩
    case round =>
     clear H;obtain ⟨pos,hit,HA,HB⟩:=hrel;cases gk with
     | zero=>exact absurd HA.out (by simp [cut_Two.l0])
     | succ k1 =>
      have h:=HA.out;clear HA;simp only [cut_Two.l0] at h;by_cases hps:pos < a0.size
      ·rw [if_pos hps] at h;have hwd:=Lib.width_pos a0 pos;have hnx:∀ ty,(Instr.next (.pointer (some ⟨w.heap.size,0,none⟩)) true ty).run Tryz.prog wr = _:=fun ty=>Lib.run_next_any_at wr w.heap.size a0 pos ty hit hps
       obtain ⟨R,hR⟩:∃ R,(Utf8.decode a0 pos).1 = R:=⟨_,rfl⟩
       obtain ⟨K,hK⟩:∃ K,(Utf8.decode a0 pos).2 = K:=⟨_,rfl⟩
       rw [hR,hK] at hnx;rw [hK] at hwd h;clear hR hK;have hit2:=Lib.iterAt_heap wr w.heap.size a0 pos (pos + K) hit;have HB2:=Aside0.mk (Lib.below_iterAt HB.out (k:=w.heap.size) (Nat.le_refl _) a0 (pos + K));clear HB hit;obtain ⟨W,hWd⟩:∃ W,wr.iterAt w.heap.size a0 (pos + K) = W:=⟨_,rfl⟩
       rw [hWd] at hnx hit2 HB2;clear hWd;obtain ⟨B,hB⟩:∃ B,bt a0 (pos:Int) = B:=⟨_,rfl⟩
       have hbt:((a0[pos]'hps).toNat:Int) = B:=by rw [← hB];exact bt_at a0 pos (by simpa using hps)
       have hH:cut_Two.here a0 pos = (B == 47 && decide (0 < pos) && decide (pos ≤ 155) && decide (pos + 1 < a0.size) && decide (a0.size ≤ pos + 101)):=by unfold cut_Two.here;rw [hB]
       rw [hH] at h;clear hH hB;have e1:IntKind.i64.wrap ((a0.size:Int) - (pos:Int)) = (a0.size:Int) - pos:=by rw [i64_w];unfold wrap64;omega
       by_cases t1:B = 47
       ·have t1b:(B == 47) = true:=beq_iff_eq.2 t1;clear t1;by_cases t2:0 < pos
        ·have t2b:decide ((0:Int) < (pos:Int)) = true:=decide_eq_true (by omega);by_cases t3:pos ≤ 155
         ·have t3b:decide ((pos:Int) ≤ 155) = true:=decide_eq_true (by omega);by_cases t4:pos + 1 < a0.size
          ·have t4b:decide ((0:Int) < (a0.size:Int) - (pos:Int) - 1) = true:=decide_eq_true (by omega);by_cases t5:a0.size ≤ pos + 101
           ·have t5b:decide ((a0.size:Int) - (pos:Int) - 1 ≤ 100) = true:=decide_eq_true (by omega);have h':=h;rw [t1b,decide_eq_true t2,decide_eq_true t3,decide_eq_true t4,decide_eq_true t5] at h';simp only [Bool.and_self,if_true,Option.some.injEq,Prod.mk.injEq] at h';obtain ⟨rfl,rfl,rfl⟩:=h';clear h;go_wp2;go_quiet (fail)
            go_wp2;go_ret3
            exact ⟨by simp,pwbN HB2.out _⟩
           ·have t5b:decide ((a0.size:Int) - (pos:Int) - 1 ≤ 100) = false:=decide_eq_false (by omega);rw [t1b,decide_eq_true t2,decide_eq_true t3,decide_eq_true t4,decide_eq_false t5] at h;simp only [Bool.and_false,Bool.false_and,Bool.false_eq_true,if_false] at h;have h':=Aside0.mk h;clear h;go_wp2;go_roundg k1
            case measure=>omega
            case rel=>exact ⟨pos + K,hit2,h',HB2⟩
          ·have t4b:decide ((0:Int) < (a0.size:Int) - (pos:Int) - 1) = false:=decide_eq_false (by omega);rw [t1b,decide_eq_true t2,decide_eq_true t3,decide_eq_false t4] at h;simp only [Bool.and_false,Bool.false_and,Bool.false_eq_true,if_false] at h;have h':=Aside0.mk h;clear h;go_wp2;go_roundg k1
           case measure=>omega
           case rel=>exact ⟨pos + K,hit2,h',HB2⟩
         ·have t3b:decide ((pos:Int) ≤ 155) = false:=decide_eq_false (by omega);rw [t1b,decide_eq_true t2,decide_eq_false t3] at h;simp only [Bool.and_false,Bool.false_and,Bool.false_eq_true,if_false] at h;have h':=Aside0.mk h;clear h;go_wp2;go_roundg k1
          case measure=>omega
          case rel=>exact ⟨pos + K,hit2,h',HB2⟩
        ·have t2b:decide ((0:Int) < (pos:Int)) = false:=decide_eq_false (by omega);rw [t1b,decide_eq_false t2] at h;simp only [Bool.and_false,Bool.false_and,Bool.false_eq_true,if_false] at h;have h':=Aside0.mk h;clear h;go_wp2;go_roundg k1
         case measure=>omega
         case rel=>exact ⟨pos + K,hit2,h',HB2⟩
       ·have t1b:(B == 47) = false:=beq_eq_false_iff_ne.2 t1;rw [t1b] at h;simp only [Bool.and_false,Bool.false_and,Bool.false_eq_true,if_false] at h;have h':=Aside0.mk h;clear h t1;go_wp2;go_roundg k1
        case measure=>omega
        case rel=>exact ⟨pos + K,hit2,h',HB2⟩
      ·rw [if_neg hps] at h;simp only [Option.some.injEq,Prod.mk.injEq] at h;obtain ⟨rfl,rfl,rfl⟩:=h;have hnx:∀ ty,(Instr.next (.pointer (some ⟨w.heap.size,0,none⟩)) true ty).run Tryz.prog wr = _:=fun ty=>Lib.run_next_end_at wr w.heap.size a0 pos ty hit hps
       go_wp2;go_ret3
       exact ⟨rfl,HB.out⟩
end Go.Proofs.YtenbelecmmpdgaaGreatDoor.All
end
section
namespace Go.Proofs.YtenbelecmmpdgaaGreatDoor.All
open Go.RowKit Go.Proofs.YtenbelecmmpdgaaGreatDoorW.PrintWords Go.Proofs.YtenbelecmmpdgaaGreatDoorW.PrintLast Go.Proofs.YtenbelecmmpdgaaGreatDoorW.PrintMore
open Go.Proofs.YtenbelecmmpdgaaGreatDoorW.Mine
attribute [local go_sem] gtr_string leq_string geq_string
attribute [local go_sem] max2_int min2_int max_two min_two max_three min_three max_four min_four
set_option linter.unusedVariables false
set_option linter.unusedSimpArgs false
open Go.Proofs.YtenbelecmmpdgaaGreatDoorW.MapOwn
theorem member_pack.szR:(Tryz.prog.info? 56).map (·.size) = some 1:=by kernel_rfl
theorem member_pack.infoR:(Tryz.prog.info? 78).map (fun i=>(i.zero,i.size,i.bytes)) = some (some (.agg #[.string (⟨#[]⟩:ByteArray),.string (⟨#[]⟩:ByteArray)]),2,32):=by kernel_rfl
theorem member_pack.builtR (a b:ByteArray):Tryz.prog.built 78 [(0,.string a),(1,.string b)] = some #[.string a,.string b]:=by kernel_rfl
theorem member_pack.set_event {P:Program} {ops:Array Oper} {rest:List Oper} {o:Oper} {a:Act} {Q:Exit→Act→World→Prop} {W:World} (hgd:o.guard = none) (hd:o.dst = none) {t:TypeId} {x y:Operand} (ho:o.op = .store t x y) {g j:Nat} {v:Value} {cs:Array Value} {T:TypeId} (hx:a.eval x = .pointer (some ⟨g,j,none⟩)) (hy:a.eval y = v) (hok:(match v with|.int _ _=>true|.string _=>true|.slice _ _ _=>true|.bool _=>true|_=>false) = true) (hsz:(P.info? t).map (·.size) = some 1) (hg:W.heap[g]? = some (.cells cs T (0,0))) (hj:j < cs.size) (h:∀ W',W'.heap[g]? = some (.cells (cs.setIfInBounds j v) T (0,0))→W.grownBy W' (some g)→wpList P ops Q rest a W'):wpList P ops Q (o :: rest) a W:=by
 refine wpList_plain hgd fun K hK=>?_
 obtain ⟨i0,hi0,hi1⟩:=Option.map_eq_some_iff.1 hsz;have hc:W.cell? ⟨g,j,none⟩ = some (cs[j]):=(blk_cell hg j).trans (by simp [hj]);have hrun:(Instr.storeAt t (.pointer (some ⟨g,j,none⟩)) v).run P W = .ok () (W.setCell ⟨g,j,none⟩ v):=by
  cases v <;> first|(simp [Instr.storeAt,Instr.sureAddr,storeVar,sizeOf,typeInfo,hi0,hi1,Value.cells,storeCells,go_sem,hc,blkF hg j];done)|(exfalso;revert hok;simp)
 unfold Oper.wp execOp;simp only [ho,hx,hy,Sem.run_bind,hrun,Result.andThen_ok];refine hK _ _ ?_;rw [hd];exact h _ (blk_put hg j _ rfl) (Go.Proofs.YtenbelecmmpdgaaGreatDoorW.Blks.grownBy_setCell W g j _)
theorem member_pack.build_event {P:Program} {ops:Array Oper} {rest:List Oper} {o:Oper} {a:Act} {Q:Exit→Act→World→Prop} {W:World} (hgd:o.guard = none) {t:TypeId} {parts:Array (Nat × Operand)} (ho:o.op = .build t parts) {cells:Array Value} (hp:P.built t (parts.map fun (i,x)=>(i,a.eval x)).toList = some cells) (h:wpList P ops Q rest (a.put o.dst (.agg cells)) W):wpList P ops Q (o :: rest) a W:=by
 refine wpList_build hgd t parts ho (by rw [hp];rfl) ?_;rw [hp];exact h
theorem member_pack.say (gp base:Nat) (cells:Array Value) (v:Value) (recs:List (S78)) (key val:ByteArray) (W:World) (hg:W.heap[gp]? = some (.cells cells 58 (0,0))) (hsz:cells.size = 12) (hv:cells[11]? = some v) (hgb:base ≤ gp) (hr:Kd.R k78 78 W base (fun _=>True) v recs) (hb:base ≤ W.heap.size) (hl:recs.length < 1000000000000) :
 Calls Tryz.prog 61 #[.pointer (some ⟨gp,0,none⟩),.string key,.string val] W fun e w'=>e = .returned (.tuple #[])∧∃ v',w'.heap[gp]? = some (.cells (cells.setIfInBounds 11 v') 58 (0,0))∧Kd.R k78 78 w' base (fun _=>True) v' (recs ++ [(⟨key,val⟩:S78)])∧Below base W w':=by
 have HG:=Aside0.mk hg;have HSZ:=Aside0.mk hsz;have HGB:=Aside0.mk hgb;have HR:=Aside0.mk hr;have HBA:=Aside0.mk hb;have HL:=Aside0.mk hl;have HNE:=Aside0.mk (Kd.R_ne hr hg (by decide));have hc11:W.cell? ⟨gp,11,none⟩ = some v:=(blk_cell hg 11).trans hv;obtain ⟨A0,c0,e0⟩:=Kd.R_slice hr;subst e0;clear hg hsz hv hgb hr hb hl;go_enter Tryz.func61,Tryz.ntmps61;go_wp2_with (first|((with_reducible refine gate_dst (N:=13) rfl ?_);refine member_pack.build_event rfl rfl (by (try simp only [List.map_toArray,List.map_cons,List.map_nil]);exact member_pack.builtR _ _) ?_)|((with_reducible refine gate_builtin (b := .append) (xs:=#[.tmp 10,.tmp 14]) rfl ?_);at_builtin;refine Kd.R_append k78 (w0:=W) base rfl (.tmp 10) (.tmp 14) 56 78 (.agg #[.string (⟨#[]⟩:ByteArray),.string (⟨#[]⟩:ByteArray)]) 32 rfl Tryz.underlying56 member_pack.infoR rfl (by decide) (by omega) _ recs (⟨key,val⟩:S78) [.string key,.string val] (fun _=>True) (fun _=>False) rfl (by first|(go_simp;done)|(go_simp;rfl)) (k78_mkM _ _ _ (⟨key,val⟩:S78)) (fun _ hk=>hk.elim) (fun _ _=>trivial) HR.out (Below.refl base W) HBA.out (by have:=HL.out;omega) ?_;intro v1 w1 ho hb hg hat;obtain ⟨A1,c1,e1⟩:=Kd.R_slice ho;rw [List.length_append,List.length_singleton] at e1;subst e1;have HR1:=Aside0.mk ho;have HB1:=Aside0.mk hb;have HG1:=Aside0.mk (blk_grown HG.out hg HNE.out);clear ho hb hg hat hc11)|((with_reducible refine gate_store (t:=56) (p:=17) rfl ?_);refine member_pack.set_event rfl rfl rfl rfl rfl rfl member_pack.szR HG1.out (by rw [HSZ.out];omega) ?_;intro w2 hk3 hg3;have HG2:=Aside0.mk hk3;have HB2:=Aside0.mk (below_grown HB1.out hg3 HGB.out (blk_lt HG1.out));have HR2:=Aside0.mk (Kd.R_grown1 HR1.out rfl hg3 (fun e_=>Kd.R_ne HR1.out HG1.out (by decide) e_));clear hk3 hg3))
 go_end0
 exact ⟨rfl,_,HG2.out,HR2.out,HB2.out⟩
structure member_pack.Pk (w W:World) (gp:Nat) (H:List Value) (v:Value) (recs:List (S78)):Prop where
 blk:W.heap[gp]? = some (.cells (H ++ [v]).toArray 58 (0,0))
 len:H.length = 11
 ge:w.heap.size ≤ gp
 row:Kd.R k78 78 W w.heap.size (fun _=>True) v recs
 below:Below w.heap.size w W
section
variable {w W W':World} {gp:Nat} {H:List Value} {v:Value} {recs:List (S78)}
theorem member_pack.Pk.step (h:member_pack.Pk w W gp H v recs) (hb:Below W.heap.size W W'):member_pack.Pk w W' gp H v recs:=⟨blk_below h.blk hb,h.len,h.ge,Kd.R_below h.row hb,below_step h.below hb⟩
theorem member_pack.Pk.drewN (h:member_pack.Pk w W gp H v recs) (q:Nat):member_pack.Pk w (W.drewN q) gp H v recs:=h.step (pwbN (Below.refl _ _) q)
theorem member_pack.set_head (H:List Value) (v u:Value) (j:Nat) (hj:j < H.length):(H ++ [v]).toArray.setIfInBounds j u = (H.set j u ++ [v]).toArray:=by
 rw [List.setIfInBounds_toArray,List.set_append_left _ _ hj]
theorem member_pack.set_last (H:List Value) (v u:Value) (hl:H.length = 11):(H ++ [v]).toArray.setIfInBounds 11 u = (H ++ [u]).toArray:=by
 rw [List.setIfInBounds_toArray,List.set_append_right _ _ (by omega),hl];rfl
theorem member_pack.Pk.set (h:member_pack.Pk w W gp H v recs) {j:Nat} {u:Value} (hj:j < 11) (hk:W'.heap[gp]? = some (.cells ((H ++ [v]).toArray.setIfInBounds j u) 58 (0,0))) (hg:W.grownBy W' (some gp)):member_pack.Pk w W' gp (H.set j u) v recs:=by
 rw [member_pack.set_head H v u j (by rw [h.len];exact hj)] at hk;exact ⟨hk,by rw [List.length_set];exact h.len,h.ge,Kd.R_grown1 h.row rfl hg (fun e_=>Kd.R_ne h.row h.blk (by decide) e_),below_grown h.below hg h.ge (blk_lt h.blk)⟩
theorem member_pack.say2 (h:member_pack.Pk w W gp H v recs) (key val:ByteArray) (hl:recs.length < 1000000000000) :
 Calls Tryz.prog 61 #[.pointer (some ⟨gp,0,none⟩),.string key,.string val] W fun e w'=>e = .returned (.tuple #[])∧∃ v',member_pack.Pk w w' gp H v' (recs ++ [(⟨key,val⟩:S78)]):=by
 refine (member_pack.say gp w.heap.size (H ++ [v]).toArray v recs key val W h.blk (by simp [h.len]) (by rw [List.getElem?_toArray,List.getElem?_append_right (by rw [h.len];exact Nat.le_refl _),h.len];rfl) h.ge h.row (below_size h.below) hl).mono ?_;rintro e w' ⟨rfl,v',h1,h2,h3⟩;rw [member_pack.set_last H v v' h.len] at h1;exact ⟨rfl,v',h1,h.len,h.ge,h2,h.below.trans h3⟩
end
def member_pack.num (recs:List (S78)) (key:ByteArray) (n width:Int):Option (Int × List (S78)):=(octal_Most.f width).bind fun m=>if n < 0 ∨ m.1 < n then (strconv_Itoa_76.f n).bind fun s=>if recs.length < 1000000000000 then some (0,recs ++ [⟨key,s⟩]) else none else some (n,recs)
def member_pack.txt (recs:List (S78)) (key s:ByteArray) (most:Int) (instead:ByteArray):Option (ByteArray × List (S78)):=if most < (s.size:Int) then (if recs.length < 1000000000000 then some (instead,recs ++ [⟨key,s⟩]) else none) else some (s,recs)
set_option maxHeartbeats 8000000 in
set_option maxRecDepth 100000 in
theorem member_pack.number (w W:World) (gp:Nat) (H:List Value) (v:Value) (recs:List (S78)) (key:ByteArray) (n width:Int) (r:Int) (recs':List (S78)) (hp:member_pack.Pk w W gp H v recs) (HT0:Aside0 (Tab w)) (h:member_pack.num recs key n width = some (r,recs')) :
 Calls Tryz.prog 57 #[.pointer (some ⟨gp,0,none⟩),.string key,.int .i64 n,.int .i64 width] W fun e w'=>e = .returned (.int .i64 r)∧∃ v',member_pack.Pk w w' gp H v' recs':=by
 have HP:=Aside0.mk hp;clear hp;unfold member_pack.num at h;obtain ⟨⟨m1,m2⟩,hm,h⟩:=Option.bind_eq_some_iff.1 h;have HM:=Aside0.mk hm;clear hm;by_cases c1:n < 0 ∨ m1 < n
 ·rw [if_pos c1] at h;obtain ⟨s,hs,h⟩:=Option.bind_eq_some_iff.1 h;have HS:=Aside0.mk hs;by_cases c2:recs.length < 1000000000000
  ·rw [if_pos c2] at h;obtain ⟨rfl,rfl⟩:=Prod.mk.inj (Option.some.inj h);have HL:=Aside0.mk c2;clear h hs c2;by_cases c3:n < 0
   ·have c3b:decide (n < 0) = true:=decide_eq_true c3;clear c1 c3;go_enter Tryz.func57,Tryz.ntmps57;go_wp2_with (first|(go_at_call 59;refine (octal_Most.calls width m1 m2 _ HM.out).mono ?_;rintro e w1 ⟨rfl,⟨nd,rfl⟩⟩;have HP1:=Aside0.mk (HP.out.drewN nd);clear HP;have HP:=HP1;clear HP1)|(go_at_call 76;refine (strconv_Itoa_76.calls n s _ (by first|exact ⟨tab_on HT0.out HP.out.below⟩) HS.out).mono ?_;rintro e w2 ⟨rfl,hb2⟩;have HP2:=Aside0.mk (HP.out.step hb2);clear HP hb2;have HP:=HP2;clear HP2)|(go_at_call 61;refine (member_pack.say2 HP.out key s HL.out).mono ?_;rintro e w3 ⟨rfl,v3,hp3⟩;have HP3:=Aside0.mk hp3;clear HP hp3;have HP:=HP3;clear HP3))
    go_ret
    exact ⟨rfl,_,HP.out⟩
   ·have c3b:decide (n < 0) = false:=decide_eq_false c3;have c4b:decide (m1 < n) = true:=decide_eq_true (by omega);clear c1 c3;go_enter Tryz.func57,Tryz.ntmps57;go_wp2_with (first|(go_at_call 59;refine (octal_Most.calls width m1 m2 _ HM.out).mono ?_;rintro e w1 ⟨rfl,⟨nd,rfl⟩⟩;have HP1:=Aside0.mk (HP.out.drewN nd);clear HP;have HP:=HP1;clear HP1)|(go_at_call 76;refine (strconv_Itoa_76.calls n s _ (by first|exact ⟨tab_on HT0.out HP.out.below⟩) HS.out).mono ?_;rintro e w2 ⟨rfl,hb2⟩;have HP2:=Aside0.mk (HP.out.step hb2);clear HP hb2;have HP:=HP2;clear HP2)|(go_at_call 61;refine (member_pack.say2 HP.out key s HL.out).mono ?_;rintro e w3 ⟨rfl,v3,hp3⟩;have HP3:=Aside0.mk hp3;clear HP hp3;have HP:=HP3;clear HP3))
    go_ret
    exact ⟨rfl,_,HP.out⟩
  ·rw [if_neg c2] at h;cases h
 ·rw [if_neg c1] at h;obtain ⟨rfl,rfl⟩:=Prod.mk.inj (Option.some.inj h);have c3b:decide (n < 0) = false:=decide_eq_false (by omega);have c4b:decide (m1 < n) = false:=decide_eq_false (by omega);clear h c1;go_enter Tryz.func57,Tryz.ntmps57;go_wp2_with (go_at_call 59;refine (octal_Most.calls width m1 m2 _ HM.out).mono ?_;rintro e w1 ⟨rfl,⟨nd,rfl⟩⟩;have HP1:=Aside0.mk (HP.out.drewN nd);clear HP;have HP:=HP1;clear HP1)
  go_ret
  exact ⟨rfl,_,HP.out⟩
set_option maxHeartbeats 8000000 in
set_option maxRecDepth 100000 in
theorem member_pack.text (w W:World) (gp:Nat) (H:List Value) (v:Value) (recs:List (S78)) (key s:ByteArray) (most:Int) (instead r:ByteArray) (recs':List (S78)) (hp:member_pack.Pk w W gp H v recs) (h:member_pack.txt recs key s most instead = some (r,recs')) :
 Calls Tryz.prog 58 #[.pointer (some ⟨gp,0,none⟩),.string key,.string s,.int .i64 most,.string instead] W fun e w'=>e = .returned (.string r)∧∃ v',member_pack.Pk w w' gp H v' recs':=by
 have HP:=Aside0.mk hp;clear hp;unfold member_pack.txt at h;by_cases c1:most < (s.size:Int)
 ·rw [if_pos c1] at h;have c1b:decide (most < (s.size:Int)) = true:=decide_eq_true c1;by_cases c2:recs.length < 1000000000000
  ·rw [if_pos c2] at h;obtain ⟨rfl,rfl⟩:=Prod.mk.inj (Option.some.inj h);have HL:=Aside0.mk c2;clear h c1 c2;go_enter Tryz.func58,Tryz.ntmps58;go_wp2_with (go_at_call 61;refine (member_pack.say2 HP.out key s HL.out).mono ?_;rintro e w3 ⟨rfl,v3,hp3⟩;have HP3:=Aside0.mk hp3;clear HP hp3;have HP:=HP3;clear HP3)
   go_ret
   exact ⟨rfl,_,HP.out⟩
  ·rw [if_neg c2] at h;cases h
 ·rw [if_neg c1] at h;obtain ⟨rfl,rfl⟩:=Prod.mk.inj (Option.some.inj h);have c1b:decide (most < (s.size:Int)) = false:=decide_eq_false c1;clear h c1;go_enter Tryz.func58,Tryz.ntmps58;go_wp2;go_ret
  exact ⟨rfl,_,HP.out⟩
def member_pack.tim (k:Nat) (recs:List (S78)) (sec nano:Int):Option (Int × List (S78)):=(octal_Most.f 12).bind fun m=>if 0 < nano ∨ sec < 0 ∨ m.1 < sec then (stamp_Text.f k sec nano).bind fun s=>if recs.length < 1000000000000 then some (0,recs ++ [⟨(⟨#[109,116,105,109,101]⟩:ByteArray),s.1⟩]) else none else some (sec,recs)
def member_pack.nam (k:Nat) (recs:List (S78)) (p:ByteArray):Option (ByteArray × ByteArray × List (S78)):=(cut_Two.f k p).bind fun c=>if c.2.2 = 0 then some (c.1,c.2.1,recs) else if recs.length < 1000000000000 then some (c.1,(⟨#[64,108,111,110,103]⟩:ByteArray),recs ++ [⟨(⟨#[112,97,116,104]⟩:ByteArray),p⟩]) else none
def member_pack.f (k:Nat) (a0:ByteArray) (a1:Int) (a2:ByteArray) (a3 a4 a5:Int) (a6 a7:ByteArray) (a8 a9:Int) (l0:List Int):Option (S55 × List (S78)) :=
 if 0 ≤ a1∧a1 < 5 then (member_pack.num [] (⟨#[103,105,100]⟩:ByteArray) a5 8).bind fun g=>(member_pack.txt g.2 (⟨#[103,110,97,109,101]⟩:ByteArray) a7 31 (⟨#[]⟩:ByteArray)).bind fun gr=>(member_pack.txt gr.2 (⟨#[108,105,110,107,112,97,116,104]⟩:ByteArray) a2 100 (⟨#[64,108,111,110,103]⟩:ByteArray)).bind fun ln=>(member_pack.tim k ln.2 a8 a9).bind fun tm=>(member_pack.nam k tm.2 a0).bind fun nm=>(member_pack.num nm.2.2 (⟨#[117,105,100]⟩:ByteArray) a4 8).bind fun u=>(member_pack.txt u.2 (⟨#[117,110,97,109,101]⟩:ByteArray) a6 31 (⟨#[]⟩:ByteArray)).bind fun us=>some (⟨nm.2.1,nm.1,ln.1,a3,u.1,g.1,(l0.length:Int),tm.1,bt (⟨#[63,48,53,50,49]⟩:ByteArray) a1,us.1,gr.1⟩,us.2) else none
def member_pack.hd (x:S55):List Value:=[.string x.f0,.string x.f1,.string x.f2,.int .i64 x.f3,.int .i64 x.f4,.int .i64 x.f5,.int .i64 x.f6,.int .i64 x.f7,.int .u8 x.f8,.string x.f9,.string x.f10]
theorem member_pack.szS:(Tryz.prog.info? 9).map (·.size) = some 1:=by kernel_rfl
theorem member_pack.szI:(Tryz.prog.info? 3).map (·.size) = some 1:=by kernel_rfl
set_option maxHeartbeats 16000000 in
set_option maxRecDepth 100000 in
theorem member_pack.calls (k:Nat) (a0:ByteArray) (a1:Int) (a2:ByteArray) (a3 a4 a5:Int) (a6 a7:ByteArray) (a8 a9:Int) (A0:Option Addr) (c0:Nat) (l0:List Int) (r1:S55) (r2:List (S78)) (w:World) (HT0:Aside0 (Tab w)) (h:member_pack.f k a0 a1 a2 a3 a4 a5 a6 a7 a8 a9 l0 = some (r1,r2)) :
 Calls Tryz.prog 27 #[.agg #[.string a0,.int .i64 a1,.string a2,.int .i64 a3,.int .i64 a4,.int .i64 a5,.string a6,.string a7,.int .i64 a8,.int .i64 a9,.slice A0 l0.length c0]] w fun e w'=>∃ gp v,e = .returned (.pointer (some ⟨gp,0,none⟩))∧member_pack.Pk w w' gp (member_pack.hd r1) v r2:=by
 have hu26:=Tryz.underlying26;unfold member_pack.f at h;have c1:0 ≤ a1∧a1 < 5:=by
  by_cases c:0 ≤ a1∧a1 < 5
  ·exact c
  ·rw [if_neg c] at h;cases h
 rw [if_pos c1] at h;obtain ⟨⟨gi,re1⟩,h1,hq⟩:=Option.bind_eq_some_iff.1 h;clear h;have h:=hq;clear hq;have H1:=Aside0.mk h1;clear h1;obtain ⟨⟨gn,re2⟩,h2,hq⟩:=Option.bind_eq_some_iff.1 h;clear h;have h:=hq;clear hq;have H2:=Aside0.mk h2;clear h2;obtain ⟨⟨lk,re3⟩,h3,hq⟩:=Option.bind_eq_some_iff.1 h;clear h;have h:=hq;clear hq;have H3:=Aside0.mk h3;clear h3;obtain ⟨⟨tm,re4⟩,h4,hq⟩:=Option.bind_eq_some_iff.1 h;clear h;have h:=hq;clear hq;have H4:=Aside0.mk h4;clear h4;obtain ⟨⟨px,nm,re5⟩,h5,hq⟩:=Option.bind_eq_some_iff.1 h;clear h;have h:=hq;clear hq;have H5:=Aside0.mk h5;clear h5;obtain ⟨⟨ui,re6⟩,h6,hq⟩:=Option.bind_eq_some_iff.1 h;clear h;have h:=hq;clear hq;have H6:=Aside0.mk h6;clear h6;obtain ⟨⟨un,re7⟩,h7,hq⟩:=Option.bind_eq_some_iff.1 h;clear h;have h:=hq;clear hq;have H7:=Aside0.mk h7;clear h7;obtain ⟨rfl,rfl⟩:=Prod.mk.inj (Option.some.inj h);have p0:(0 ≤ a1) = True:=eq_true c1.1;have p1:(a1 < 5) = True:=eq_true c1.2;have HI:=Aside0.mk c1;have hbt:=bt_at (⟨#[63,48,53,50,49]⟩:ByteArray) a1;clear c1 h;go_enter Tryz.func27,Tryz.ntmps27;go_upto_region 1 with ((with_reducible refine gate_dst (N:=1) rfl ?_);refine box_event ?hg (N:=1) ?hd (cs:=#[.string a0,.int .i64 a1,.string a2,.int .i64 a3,.int .i64 a4,.int .i64 a5,.string a6,.string a7,.int .i64 a8,.int .i64 a9,.slice A0 l0.length c0]) (t:=26) ?hr ?_;(case hd=>rfl);(case hg=>rfl);(case hr=>first|(go_simp;done)|(go_simp;rfl));intro gx hg w1 hbox hb1;have HKX:=Aside0.mk hbox;have HB1:=Aside0.mk hb1;clear hg hbox hb1)
 have hc3:=blk_cell HKX.out 3;have hc10:=blk_cell HKX.out 10;have hc1:=blk_cell HKX.out 1;go_region_held3 (fun w'=>w'.cell? ⟨gx,3,none⟩ = some (.int .i64 a3)∧w'.cell? ⟨gx,10,none⟩ = some (.slice A0 l0.length c0)∧w'.cell? ⟨gx,1,none⟩ = some (.int .i64 a1)) (go_keep) (fail)
 clear hc3 hc10 hc1 p0 p1 hbt;have HTX:=Aside0.mk (tab_on HT0.out HB1.out);have hp0:member_pack.Pk w1 (w1.alloc (.cells #[.string (⟨#[]⟩:ByteArray),.string (⟨#[]⟩:ByteArray),.string (⟨#[]⟩:ByteArray),.int .i64 a3,.int .i64 0,.int .i64 0,.int .i64 (l0.length:Int),.int .i64 0,.int .u8 (bt (⟨#[63,48,53,50,49]⟩:ByteArray) a1),.string (⟨#[]⟩:ByteArray),.string (⟨#[]⟩:ByteArray),.slice none 0 0] 58)).drew w1.heap.size (member_pack.hd ⟨(⟨#[]⟩:ByteArray),(⟨#[]⟩:ByteArray),(⟨#[]⟩:ByteArray),a3,0,0,(l0.length:Int),0,bt (⟨#[63,48,53,50,49]⟩:ByteArray) a1,(⟨#[]⟩:ByteArray),(⟨#[]⟩:ByteArray)⟩) (.slice none 0 0) []:=⟨heap_alloc_new w1 _,rfl,Nat.le_refl _,Kd.R_nil _ _ _ _ _,below_drew (bwA (Below.refl _ _) _)⟩
 have HP:=Aside0.mk hp0;clear hp0;generalize hgp:w1.heap.size = gp at *;clear hgp;have hx5:=blk_cell (blk_below HKX.out HP.out.below) 5;go_upto_region 4 with (first|(go_at_call 57;refine (member_pack.number w1 _ _ _ _ _ _ _ _ _ _ HP.out HTX H1.out).mono ?_;rintro e w3 ⟨rfl,v3,hp3⟩;have HP3:=Aside0.mk hp3;clear hp3;clear HP;have HP:=HP3;clear HP3)|((with_reducible refine gate_store (t:=3) (p:=34) rfl ?_);refine member_pack.set_event rfl rfl rfl rfl rfl rfl member_pack.szI HP.out.blk (by simp [HP.out.len]) ?_;intro w4 hk3 hg3;have HP3:=Aside0.mk (show member_pack.Pk w1 w4 gp (member_pack.hd ⟨(⟨#[]⟩:ByteArray),(⟨#[]⟩:ByteArray),(⟨#[]⟩:ByteArray),a3,0,gi,(l0.length:Int),0,bt (⟨#[63,48,53,50,49]⟩:ByteArray) a1,(⟨#[]⟩:ByteArray),(⟨#[]⟩:ByteArray)⟩) _ _ from HP.out.set (j:=5) (u := .int .i64 gi) (by decide) hk3 hg3);clear hk3 hg3;clear HP;have HP:=HP3;clear HP3))
 have hx7:=blk_cell (blk_below HKX.out HP.out.below) 7;go_upto_region 5 with (first|(go_at_call 58;refine (member_pack.text w1 _ _ _ _ _ _ _ _ _ _ _ HP.out H2.out).mono ?_;rintro e w3 ⟨rfl,v3,hp3⟩;have HP3:=Aside0.mk hp3;clear hp3;clear HP;have HP:=HP3;clear HP3)|((with_reducible refine gate_store (t:=9) (p:=42) rfl ?_);refine member_pack.set_event rfl rfl rfl rfl rfl rfl member_pack.szS HP.out.blk (by simp [HP.out.len]) ?_;intro w4 hk3 hg3;have HP3:=Aside0.mk (show member_pack.Pk w1 w4 gp (member_pack.hd ⟨(⟨#[]⟩:ByteArray),(⟨#[]⟩:ByteArray),(⟨#[]⟩:ByteArray),a3,0,gi,(l0.length:Int),0,bt (⟨#[63,48,53,50,49]⟩:ByteArray) a1,(⟨#[]⟩:ByteArray),gn⟩) _ _ from HP.out.set (j:=10) (u := .string gn) (by decide) hk3 hg3);clear hk3 hg3;clear HP;have HP:=HP3;clear HP3))
 have hx2:=blk_cell (blk_below HKX.out HP.out.below) 2;go_upto_region 6 with (first|(go_at_call 58;refine (member_pack.text w1 _ _ _ _ _ _ _ _ _ _ _ HP.out H3.out).mono ?_;rintro e w3 ⟨rfl,v3,hp3⟩;have HP3:=Aside0.mk hp3;clear hp3;clear HP;have HP:=HP3;clear HP3)|((with_reducible refine gate_store (t:=9) (p:=49) rfl ?_);refine member_pack.set_event rfl rfl rfl rfl rfl rfl member_pack.szS HP.out.blk (by simp [HP.out.len]) ?_;intro w4 hk3 hg3;have HP3:=Aside0.mk (show member_pack.Pk w1 w4 gp (member_pack.hd ⟨(⟨#[]⟩:ByteArray),(⟨#[]⟩:ByteArray),lk,a3,0,gi,(l0.length:Int),0,bt (⟨#[63,48,53,50,49]⟩:ByteArray) a1,(⟨#[]⟩:ByteArray),gn⟩) _ _ from HP.out.set (j:=2) (u := .string lk) (by decide) hk3 hg3);clear hk3 hg3;clear HP;have HP:=HP3;clear HP3))
 have H:=H4.out;unfold member_pack.tim at H;obtain ⟨⟨m1,m2⟩,hm,hq⟩:=Option.bind_eq_some_iff.1 H;have HM:=Aside0.mk hm;have H4:=Aside0.mk hq;clear H hm hq;have hx8:=blk_cell (blk_below HKX.out HP.out.below) 8;have hx9:=blk_cell (blk_below HKX.out HP.out.below) 9;go_upto_region 7 with (go_at_call 59;refine (octal_Most.calls 12 m1 m2 _ HM.out).mono ?_;rintro e w1_ ⟨rfl,⟨nd,rfl⟩⟩;have HP3:=Aside0.mk (HP.out.drewN nd);clear HP;have HP:=HP3;clear HP3;have hx8:=blk_cell (blk_below HKX.out HP.out.below) 8;have hx9:=blk_cell (blk_below HKX.out HP.out.below) 9)
 go_cut [70] (fun v70 wc=>v70 = .bool (decide (0 < a9 ∨ a8 < 0 ∨ m1 < a8))∧Aside0 (member_pack.Pk w1 wc gp (member_pack.hd ⟨(⟨#[]⟩:ByteArray),(⟨#[]⟩:ByteArray),lk,a3,0,gi,(l0.length:Int),0,bt (⟨#[63,48,53,50,49]⟩:ByteArray) a1,(⟨#[]⟩:ByteArray),gn⟩) v3 re3))
 case first =>
  by_cases t1:0 < a9
  ·have t1b:decide (0 < a9) = true:=decide_eq_true t1;have td:decide (0 < a9 ∨ a8 < 0 ∨ m1 < a8) = true:=decide_eq_true (Or.inl t1);clear t1;go_wp2;go_meet
   case rel=>exact ⟨congrArg Value.bool td.symm,HP⟩
  ·have t1b:decide (0 < a9) = false:=decide_eq_false t1;by_cases t2:a8 < 0
   ·have t2b:decide (a8 < 0) = true:=decide_eq_true t2;have td:decide (0 < a9 ∨ a8 < 0 ∨ m1 < a8) = true:=decide_eq_true (Or.inr (Or.inl t2));clear t1 t2;go_wp2;go_meet
    case rel=>exact ⟨congrArg Value.bool td.symm,HP⟩
   ·have t2b:decide (a8 < 0) = false:=decide_eq_false t2;have td:decide (0 < a9 ∨ a8 < 0 ∨ m1 < a8) = decide (m1 < a8):=by rw [decide_eq_decide];exact ⟨fun h=>h.elim (fun h=>absurd h t1) (fun h=>h.elim (fun h=>absurd h t2) id),fun h=>Or.inr (Or.inr h)⟩
    clear t1 t2;go_wp2;go_meet
    case rel=>exact ⟨congrArg Value.bool td.symm,HP⟩
 case rest =>
 clear HP;obtain ⟨rfl,HP⟩:=hcut;have hx8:=blk_cell (blk_below HKX.out HP.out.below) 8;have hx9:=blk_cell (blk_below HKX.out HP.out.below) 9;go_upto_if 70 with (fail)
 go_cut [] (fun wc=>∃ vq,Aside0 (member_pack.Pk w1 wc gp (member_pack.hd ⟨(⟨#[]⟩:ByteArray),(⟨#[]⟩:ByteArray),lk,a3,0,gi,(l0.length:Int),tm,bt (⟨#[63,48,53,50,49]⟩:ByteArray) a1,(⟨#[]⟩:ByteArray),gn⟩) vq re4))
 case first =>
  have H:=H4.out;by_cases d:0 < a9 ∨ a8 < 0 ∨ m1 < a8
  ·have db:decide (0 < a9 ∨ a8 < 0 ∨ m1 < a8) = true:=decide_eq_true d;rw [if_pos d] at H;obtain ⟨⟨s1,s2⟩,hs,hq⟩:=Option.bind_eq_some_iff.1 H;have HS:=Aside0.mk hs;clear H hs d;have H:=hq;clear hq;by_cases d2:re3.length < 1000000000000
   ·rw [if_pos d2] at H;obtain ⟨rfl,rfl⟩:=Prod.mk.inj (Option.some.inj H);have HL:=Aside0.mk d2;clear H d2;try rw [db]
    go_wp2_with (first|(go_at_call 60;refine (stamp_Text.calls k a8 a9 s1 s2 _ ⟨tab_on HTX.out HP.out.below⟩ HS.out).mono ?_;rintro e w2 ⟨rfl,hb2⟩;have HP3:=Aside0.mk (HP.out.step hb2);clear HP hb2;have HP:=HP3;clear HP3)|(go_at_call 61;refine (member_pack.say2 HP.out (⟨#[109,116,105,109,101]⟩:ByteArray) s1 HL.out).mono ?_;rintro e w3 ⟨rfl,v3,hp3⟩;have HP3:=Aside0.mk hp3;clear HP hp3;have HP:=HP3;clear HP3))
    go_meet
    case rel=>exact ⟨_,HP⟩
   ·rw [if_neg d2] at H;cases H
  ·have db:decide (0 < a9 ∨ a8 < 0 ∨ m1 < a8) = false:=decide_eq_false d;rw [if_neg d] at H;obtain ⟨rfl,rfl⟩:=Prod.mk.inj (Option.some.inj H);clear H d;try rw [db]
   go_wp2_with ((with_reducible refine gate_store (t:=3) (p:=89) rfl ?_);refine member_pack.set_event rfl rfl rfl rfl rfl rfl member_pack.szI HP.out.blk (by simp [HP.out.len]) ?_;intro w4 hk3 hg3;have HP3:=Aside0.mk (show member_pack.Pk w1 w4 gp (member_pack.hd ⟨(⟨#[]⟩:ByteArray),(⟨#[]⟩:ByteArray),lk,a3,0,gi,(l0.length:Int),a8,bt (⟨#[63,48,53,50,49]⟩:ByteArray) a1,(⟨#[]⟩:ByteArray),gn⟩) _ _ from HP.out.set (j:=7) (u := .int .i64 a8) (by decide) hk3 hg3);clear hk3 hg3;clear HP;have HP:=HP3;clear HP3)
   go_meet
   case rel=>exact ⟨_,HP⟩
 case rest =>
 clear HP H4 HM;obtain ⟨vq,HP⟩:=hcut;have H:=H5.out;unfold member_pack.nam at H;obtain ⟨⟨q1,q2,q3⟩,hc,hq⟩:=Option.bind_eq_some_iff.1 H;have HC:=Aside0.mk hc;have H5:=Aside0.mk hq;clear H hc hq;have hx0:=blk_cell (blk_below HKX.out HP.out.below) 0;go_upto_region 13 with (first|(go_at_call 62;refine (cut_Two.calls k a0 q1 q2 q3 _ HC.out).mono ?_;rintro e w2 ⟨rfl,hb2⟩;have HP3:=Aside0.mk (HP.out.step hb2);clear HP hb2;have HP:=HP3;clear HP3)|((with_reducible refine gate_store (t:=9) (p:=102) rfl ?_);refine member_pack.set_event rfl rfl rfl rfl rfl rfl member_pack.szS HP.out.blk (by simp [HP.out.len]) ?_;intro w4 hk3 hg3;have HP3:=Aside0.mk (show member_pack.Pk w1 w4 gp (member_pack.hd ⟨(⟨#[]⟩:ByteArray),q1,lk,a3,0,gi,(l0.length:Int),tm,bt (⟨#[63,48,53,50,49]⟩:ByteArray) a1,(⟨#[]⟩:ByteArray),gn⟩) _ _ from HP.out.set (j:=1) (u := .string q1) (by decide) hk3 hg3);clear hk3 hg3;clear HP;have HP:=HP3;clear HP3)|((with_reducible refine gate_store (t:=9) (p:=104) rfl ?_);refine member_pack.set_event rfl rfl rfl rfl rfl rfl member_pack.szS HP.out.blk (by simp [HP.out.len]) ?_;intro w4 hk3 hg3;have HP3:=Aside0.mk (show member_pack.Pk w1 w4 gp (member_pack.hd ⟨q2,q1,lk,a3,0,gi,(l0.length:Int),tm,bt (⟨#[63,48,53,50,49]⟩:ByteArray) a1,(⟨#[]⟩:ByteArray),gn⟩) _ _ from HP.out.set (j:=0) (u := .string q2) (by decide) hk3 hg3);clear hk3 hg3;clear HP;have HP:=HP3;clear HP3))
 have hx0:=blk_cell (blk_below HKX.out HP.out.below) 0;go_upto_if 106 with (fail)
 go_cut [] (fun wc=>∃ vq2,Aside0 (member_pack.Pk w1 wc gp (member_pack.hd ⟨nm,px,lk,a3,0,gi,(l0.length:Int),tm,bt (⟨#[63,48,53,50,49]⟩:ByteArray) a1,(⟨#[]⟩:ByteArray),gn⟩) vq2 re5))
 case first =>
  have H:=H5.out;by_cases d:q3 = 0
  ·have db:(q3 != 0) = false:=bne_eq_false_iff_eq.mpr d;rw [if_pos d] at H;obtain ⟨rfl,hq⟩:=Prod.mk.inj (Option.some.inj H);obtain ⟨rfl,rfl⟩:=Prod.mk.inj hq;clear H d;try rw [db]
   go_wp2;go_meet
   case rel=>exact ⟨_,HP⟩
  ·have db:(q3 != 0) = true:=bne_iff_ne.mpr d;rw [if_neg d] at H;by_cases d2:re4.length < 1000000000000
   ·rw [if_pos d2] at H;obtain ⟨rfl,hq⟩:=Prod.mk.inj (Option.some.inj H);obtain ⟨rfl,rfl⟩:=Prod.mk.inj hq;have HL:=Aside0.mk d2;clear H d d2;try rw [db]
    go_wp2_with (first|((with_reducible refine gate_store (t:=9) (p:=109) rfl ?_);refine member_pack.set_event rfl rfl rfl rfl rfl rfl member_pack.szS HP.out.blk (by simp [HP.out.len]) ?_;intro w4 hk3 hg3;have HP3:=Aside0.mk (show member_pack.Pk w1 w4 gp (member_pack.hd ⟨(⟨#[64,108,111,110,103]⟩:ByteArray),q1,lk,a3,0,gi,(l0.length:Int),tm,bt (⟨#[63,48,53,50,49]⟩:ByteArray) a1,(⟨#[]⟩:ByteArray),gn⟩) _ _ from HP.out.set (j:=0) (u := .string (⟨#[64,108,111,110,103]⟩:ByteArray)) (by decide) hk3 hg3);clear hk3 hg3;clear HP;have HP:=HP3;clear HP3;have hx0:=blk_cell (blk_below HKX.out HP.out.below) 0)|(go_at_call 61;refine (member_pack.say2 HP.out (⟨#[112,97,116,104]⟩:ByteArray) a0 HL.out).mono ?_;rintro e w3 ⟨rfl,v3,hp3⟩;have HP3:=Aside0.mk hp3;clear HP hp3;have HP:=HP3;clear HP3))
    go_meet
    case rel=>exact ⟨_,HP⟩
   ·rw [if_neg d2] at H;cases H
 case rest =>
 clear HP H5 HC;obtain ⟨vq2,HP⟩:=hcut;have hx4:=blk_cell (blk_below HKX.out HP.out.below) 4;go_upto_region 17 with (first|(go_at_call 57;refine (member_pack.number w1 _ _ _ _ _ _ _ _ _ _ HP.out HTX H6.out).mono ?_;rintro e w3 ⟨rfl,v3,hp3⟩;have HP3:=Aside0.mk hp3;clear hp3;clear HP;have HP:=HP3;clear HP3)|((with_reducible refine gate_store (t:=3) (p:=121) rfl ?_);refine member_pack.set_event rfl rfl rfl rfl rfl rfl member_pack.szI HP.out.blk (by simp [HP.out.len]) ?_;intro w4 hk3 hg3;have HP3:=Aside0.mk (show member_pack.Pk w1 w4 gp (member_pack.hd ⟨nm,px,lk,a3,ui,gi,(l0.length:Int),tm,bt (⟨#[63,48,53,50,49]⟩:ByteArray) a1,(⟨#[]⟩:ByteArray),gn⟩) _ _ from HP.out.set (j:=4) (u := .int .i64 ui) (by decide) hk3 hg3);clear hk3 hg3;clear HP;have HP:=HP3;clear HP3))
 have hx6:=blk_cell (blk_below HKX.out HP.out.below) 6;go_wp2_with (first|(go_at_call 58;refine (member_pack.text w1 _ _ _ _ _ _ _ _ _ _ _ HP.out H7.out).mono ?_;rintro e w3 ⟨rfl,v3,hp3⟩;have HP3:=Aside0.mk hp3;clear hp3;clear HP;have HP:=HP3;clear HP3)|((with_reducible refine gate_store (t:=9) (p:=129) rfl ?_);refine member_pack.set_event rfl rfl rfl rfl rfl rfl member_pack.szS HP.out.blk (by simp [HP.out.len]) ?_;intro w4 hk3 hg3;have HP3:=Aside0.mk (show member_pack.Pk w1 w4 gp (member_pack.hd ⟨nm,px,lk,a3,ui,gi,(l0.length:Int),tm,bt (⟨#[63,48,53,50,49]⟩:ByteArray) a1,un,gn⟩) _ _ from HP.out.set (j:=9) (u := .string un) (by decide) hk3 hg3);clear hk3 hg3;clear HP;have HP:=HP3;clear HP3))
 go_ret
 exact ⟨gp,_,rfl,HP.out.blk,rfl,Nat.le_trans (below_size HB1.out) HP.out.ge,Kd.R_lower HP.out.row (below_size HB1.out),below_step HB1.out HP.out.below⟩
end Go.Proofs.YtenbelecmmpdgaaGreatDoor.All
end
section
namespace Go.Proofs.YtenbelecmmpdgaaGreatDoor.All
open Go.RowKit Go.Proofs.YtenbelecmmpdgaaGreatDoorW.PrintWords Go.Proofs.YtenbelecmmpdgaaGreatDoorW.PrintLast Go.Proofs.YtenbelecmmpdgaaGreatDoorW.PrintMore
open Go.Proofs.YtenbelecmmpdgaaGreatDoorW.Mine
attribute [local go_sem] gtr_string leq_string geq_string
attribute [local go_sem] max2_int min2_int max_two min_two max_three min_three max_four min_four
set_option linter.unusedVariables false
set_option linter.unusedSimpArgs false
def strings_ContainsAny.f (a0:ByteArray) (a1:ByteArray):Option Bool:=match a1 with
 | ⟨⟨[c,d]⟩⟩=>if c.toNat < 128∧d.toNat < 128∧a0.size < 4294967281 then some (Lib.containsAny a0.data.toList [c,d]) else none
 | _=>none
theorem strings_ContainsAny.encoded (r:Int) (hv:Lib.validRune r = true) (h128:128 ≤ r) :
 2 ≤ (Utf8.encode r).size∧(Utf8.encode r).size ≤ 4∧∀ h:(Utf8.encode r).size - 1 < (Utf8.encode r).size,128 ≤ ((Utf8.encode r)[(Utf8.encode r).size - 1]'h).toNat:=by
 refine encode_facts r ?_ h128;unfold Lib.validRune at hv;have:=of_decide_eq_true hv;simp [Utf8.valid]
 omega
theorem strings_ContainsAny.quiet2 {P:Program} {f:FuncId} {args:Array Value} {v:Value} (c:∀ W:World,Calls P f args W fun e w'=>e = .returned v∧w' = W) (w:World) (a n:Nat) :
 Calls P f args (w.drewN (a + n)) fun e w''=>e = .returned v∧∃ m,w'' = w.drewN (a + m):=(c _).mono fun _ _ ⟨he,hm⟩=>⟨he,n,hm⟩
set_option maxHeartbeats 2000000 in
set_option maxRecDepth 100000 in
theorem strings_ContainsAny.rune (c d:UInt8) (hc:c.toNat < 128) (hd:d.toNat < 128) (r:Int) (h0:128 ≤ r) (w:World) :
 Calls Tryz.prog 191 #[.string ⟨#[c,d]⟩,.int .i32 r] w fun e w'=>e = .returned (.int .i64 (-1))∧Below w.heap.size w w':=by
 have k1:decide (0 ≤ r) = true:=decide_eq_true (by omega);have k2:decide (r < 128) = false:=decide_eq_false (by omega);by_cases hE:r = 65533
 ·subst hE;clear k1 k2 h0;go_enter Tryz.func191,Tryz.ntmps191;go_wp2;go_loopg [5,6] 2 (fun g _ _ wx=>∃ i:Nat,i + g = 2∧wx = w.iter ⟨#[c,d]⟩ i)
  case atStart=>exact ⟨0,by omega,rfl⟩
  case round =>
   obtain ⟨i,hig,rfl⟩:=hrel;have hsz:(⟨#[c,d]⟩:ByteArray).size = 2:=rfl;cases gk with
   | zero =>
    obtain rfl:i = 2:=by omega
    have hnx:=run_next_end (P:=Tryz.prog) w ⟨#[c,d]⟩ 2;go_wp2;go_ret
    exact ⟨rfl,(Below.refl _ _).alloc (Nat.le_refl _) _⟩
   | succ g =>
    have hi:i < (⟨#[c,d]⟩:ByteArray).size:=by rw [hsz];omega
    have hx128:((⟨#[c,d]⟩:ByteArray)[i]'hi).toNat < 128:=by
     rcases (show i = 0 ∨ i = 1 by omega) with rfl|rfl
     ·exact hc
     ·exact hd
    have hnx:=fun ty=>run_next_ascii (P:=Tryz.prog) w ⟨#[c,d]⟩ i ty hi hx128
    obtain ⟨x,hx⟩:∃ x:UInt8,(⟨#[c,d]⟩:ByteArray)[i]'hi = x:=⟨_,rfl⟩
    rw [hx] at hnx hx128;have hne:((x.toNat:Int) == 65533) = false:=beq_eq_false_iff_ne.2 (by omega);go_wp2;go_roundg g
    case measure=>omega
    case rel=>exact ⟨i + 1,by omega,rfl⟩
 ·have k3:(r == 65533) = false:=beq_eq_false_iff_ne.2 hE;cases hv:Lib.validRune r
  ·go_enter Tryz.func191,Tryz.ntmps191;go_wp2_with (go_at_call 204;refine (Tryz.utf8_ValidRune r _).mono ?_;rintro e w' ⟨rfl,hw⟩;rw [hw,hv])
   go_ret
   exact ⟨rfl,Below.refl _ _⟩
  ·obtain ⟨e1,e2,e3⟩:=strings_ContainsAny.encoded r hv h0;obtain ⟨rs,hen⟩:∃ rs,Utf8.encode r = rs:=⟨_,rfl⟩
   rw [hen] at e1 e2 e3;have hcase:rs.size = 2 ∨ rs.size = 3 ∨ rs.size = 4:=by omega
   clear e1 e2;rcases hcase with hsz|hsz|hsz
   ·have h1s:1 < rs.size:=by omega
    have hx:128 ≤ (rs[1]'h1s).toNat:=by
     have h:=e3 (by omega);simpa [hsz] using h
    obtain ⟨x,hxe⟩:∃ x,rs[1]'h1s = x:=⟨_,rfl⟩
    rw [hxe] at hx;have hne:((d.toNat:Int) != (x.toNat:Int)) = true:=by
     simp only [bne_iff_ne,ne_eq];omega
    have hcd:∀ h:1 < (⟨#[c,d]⟩:ByteArray).size,(⟨#[c,d]⟩:ByteArray)[1]'h = d:=fun _=>rfl
    have hI:∀ W:World,Calls Tryz.prog 56 #[.string ((⟨#[c,d]⟩:ByteArray).extract 2 2),.int .u8 (x.toNat:Int)] W fun e w'=>e = .returned (.int .i64 (-1))∧w' = W:=fun W=>Tryz.strings_IndexByte ((⟨#[c,d]⟩:ByteArray).extract 2 2) (x.toNat:Int) W
    clear e3;go_enter Tryz.func191,Tryz.ntmps191;go_wp2_with (go_at_call 204;refine (Tryz.utf8_ValidRune r _).mono ?_;rintro e w' ⟨rfl,hw⟩;rw [hw,hv])
    go_step3
    go_wp2;refine wp_loop_rounds 1 ?_;rw [rounds_succ];go_wp2;go_step3
    go_wp2;go_quiet (fail)
    go_wp2;go_quiet ((go_at_call 56;exact strings_ContainsAny.quiet2 hI _ _ _))
    go_wp2;rw [Exit.noGoto_ret];go_wp2;rw [Exit.noGoto_ret];go_ret
    exact ⟨rfl,pwbN (Below.refl _ _) _⟩
   ·clear e3;go_enter Tryz.func191,Tryz.ntmps191;go_wp2_with (go_at_call 204;refine (Tryz.utf8_ValidRune r _).mono ?_;rintro e w' ⟨rfl,hw⟩;rw [hw,hv])
    go_step3
    go_wp2;refine wp_loop_rounds 1 ?_;rw [rounds_succ];go_wp2;rw [Exit.noGoto_ret];go_ret
    exact ⟨rfl,Below.refl _ _⟩
   ·clear e3;go_enter Tryz.func191,Tryz.ntmps191;go_wp2_with (go_at_call 204;refine (Tryz.utf8_ValidRune r _).mono ?_;rintro e w' ⟨rfl,hw⟩;rw [hw,hv])
    go_step3
    go_wp2;refine wp_loop_rounds 1 ?_;rw [rounds_succ];go_wp2;rw [Exit.noGoto_ret];go_ret
    exact ⟨rfl,Below.refl _ _⟩
theorem strings_ContainsAny.wide (s:ByteArray) (pos:Nat) (h:pos < s.size) (hb:128 ≤ (s[pos]'h).toNat):128 ≤ (Utf8.decode s pos).1∧∀ j,j < pos + (Utf8.decode s pos).2→pos ≤ j→∀ b,s.data.toList[j]? = some b→128 ≤ b.toNat:=by
 have hg:∀ j b,s.data.toList[j]? = some b→s.get! j = b:=by
  intro j b hj;have hlt:j < s.size:=by
   have:=(List.getElem?_eq_some_iff.1 hj).1;simpa using this
  have e:s.get! j = s[j]'hlt:=by
   simp [ByteArray.get!,getElem!_pos,hlt]
   rfl
  rw [e];have:=Lib.data_getElem? s j hlt;rw [hj] at this;exact (Option.some.inj this).symm
 have h0:s.get! pos = s[pos]'h:=hg pos _ (Lib.data_getElem? s pos h);rw [Lib.decode_at,h0];have hge:128 ≤ (Lib.decodeN (s.size - pos) (s[pos]'h).toNat (s.get! (pos + 1)).toNat (s.get! (pos + 2)).toNat (s.get! (pos + 3)).toNat).1:=by
  unfold Lib.decodeN;repeat' split
  all_goals (simp only;omega)
 refine ⟨hge,?_⟩;have hconts:∀ n b0 b1 b2 b3:Nat,(2 ≤ (Lib.decodeN n b0 b1 b2 b3).2→b1 / 64 = 2)∧(3 ≤ (Lib.decodeN n b0 b1 b2 b3).2→b2 / 64 = 2)∧(4 ≤ (Lib.decodeN n b0 b1 b2 b3).2→b3 / 64 = 2)∧(Lib.decodeN n b0 b1 b2 b3).2 ≤ 4:=by
  intro n b0 b1 b2 b3;unfold Lib.decodeN;repeat' split
  all_goals (simp only;omega)
 obtain ⟨c2,c3,c4,c5⟩:=hconts (s.size - pos) (s[pos]'h).toNat (s.get! (pos + 1)).toNat (s.get! (pos + 2)).toNat (s.get! (pos + 3)).toNat;intro j hj1 hj2 b hjb;generalize (Lib.decodeN (s.size - pos) (s[pos]'h).toNat (s.get! (pos + 1)).toNat (s.get! (pos + 2)).toNat (s.get! (pos + 3)).toNat).2 = K at *;have hcase:j = pos ∨ j = pos + 1 ∨ j = pos + 2 ∨ j = pos + 3:=by omega
 rcases hcase with rfl|rfl|rfl|rfl
 ·rw [Lib.data_getElem? s j h] at hjb;rw [← Option.some.inj hjb];exact hb
 ·have:=c2 (by omega);rw [hg _ _ hjb] at this;omega
 ·have:=c3 (by omega);rw [hg _ _ hjb] at this;omega
 ·have:=c4 (by omega);rw [hg _ _ hjb] at this;omega
set_option maxHeartbeats 4000000 in
set_option maxRecDepth 100000 in
theorem strings_ContainsAny.short (a0:ByteArray) (c d:UInt8) (hc:c.toNat < 128) (hd:d.toNat < 128) (h8:a0.size ≤ 8) (w:World) :
 Calls Tryz.prog 180 #[.string a0,.string ⟨#[c,d]⟩] w fun e w'=>e = .returned (.int .i64 (Lib.indexAny a0.data.toList [c,d]))∧Below w.heap.size w w':=by
 have h8z:decide ((8:Int) < (a0.size:Int)) = false:=decide_eq_false (by omega);have hsz:(⟨#[c,d]⟩:ByteArray).size = 2:=rfl;have hemp:(⟨#[c,d]⟩:ByteArray).toList.isEmpty = false:=by rw [Lib.toList_data];rfl
 go_enter Tryz.func180,Tryz.ntmps180;go_wp2_with (go_at_call 195;refine (Tryz.strings_shouldUseASCIISet _ _).mono ?_;rintro e w' ⟨rfl,hw⟩;rw [hw,h8z])
 clear h8z hemp hsz;go_loopg [9,10] a0.size (fun g _ _ wx=>∃ pos:Nat,a0.size ≤ pos + g∧wx.heap[w.heap.size]? = some (.stringIter a0 pos)∧Aside0 (Lib.NoAny a0.data.toList [c,d] pos)∧Aside0 (Below w.heap.size w wx))
 case atStart=>exact ⟨0,by omega,by simpa using World.iter_heap w a0 0,⟨Lib.NoAny.zero _ _⟩,⟨(Below.refl _ _).alloc (Nat.le_refl _) _⟩⟩
 case round =>
  obtain ⟨pos,hpg,hit,HN,HB⟩:=hrel;by_cases hps:pos < a0.size
  ·cases gk with
   | zero=>exact absurd hpg (by omega)
   | succ g =>
    have hwd:=Lib.width_pos a0 pos;have hit2:=fun q=>Lib.iterAt_heap wr w.heap.size a0 pos q hit
    have HB2:=fun q=>Aside0.mk (Lib.below_iterAt HB.out (k:=w.heap.size) (Nat.le_refl _) a0 q)
    by_cases hb:(a0[pos]'hps).toNat < 128
    ·have hnx:∀ ty,(Instr.next (.pointer (some ⟨w.heap.size,0,none⟩)) true ty).run Tryz.prog wr = _:=fun ty=>Lib.run_next_ascii_at wr w.heap.size a0 pos ty hit hps hb
     obtain ⟨x,hx⟩:∃ x,a0[pos]'hps = x:=⟨_,rfl⟩
     have hxl:a0.data.toList[pos]? = some x:=by rw [← hx];exact Lib.data_getElem? a0 pos hps
     rw [hx] at hnx hb;have HX:=Aside0.mk hxl;have hback:((x.toNat:Int)).toNat.toUInt8 = x:=by simp
     have hcon:=Lib.contains_iff_indexByte [c,d] x;have hR:=fun W=>Tryz.strings_IndexRune_ascii ⟨#[c,d]⟩ (x.toNat:Int) W (by omega) (by omega)
     rw [hback] at hR;have hl:(⟨#[c,d]⟩:ByteArray).data.toList = [c,d]:=rfl;rw [hl] at hR;obtain ⟨t,ht⟩:∃ t,Lib.indexByte [c,d] x = t:=⟨_,rfl⟩
     rw [ht] at hR hcon;have hi3:=hit2 (pos + 1);have HB3:=HB2 (pos + 1);clear hx hxl hback hl ht hwd hit2 HB2 hit HB;obtain ⟨W,hWd⟩:∃ W,wr.iterAt w.heap.size a0 (pos + 1) = W:=⟨_,rfl⟩
     rw [hWd] at hnx hi3 HB3;clear hWd;by_cases h0:0 ≤ t
     ·have h0b:decide (0 ≤ t) = true:=decide_eq_true h0;rw [h0b] at hcon;have HC:=Aside0.mk hcon;clear hcon h0;go_wp2_with (go_at_call 191;refine (hR _).mono ?_;rintro e w' ⟨rfl,hw⟩;rw [hw])
      go_ret
      exact ⟨by rw [Lib.indexAny_hit HN.out HX.out HC.out];rfl,HB3.out⟩
     ·have h0b:decide (0 ≤ t) = false:=decide_eq_false h0;rw [h0b] at hcon;have HC:=Aside0.mk hcon;clear hcon h0;go_wp2_with (go_at_call 191;refine (hR _).mono ?_;rintro e w' ⟨rfl,hw⟩;rw [hw])
      go_roundg g
      case measure=>omega
      case rel=>exact ⟨pos + 1,by omega,hi3,⟨HN.out.succ HX.out HC.out⟩,HB3⟩
    ·have hnx:∀ ty,(Instr.next (.pointer (some ⟨w.heap.size,0,none⟩)) true ty).run Tryz.prog wr = _:=fun ty=>Lib.run_next_any_at wr w.heap.size a0 pos ty hit hps
     obtain ⟨g1,g2⟩:=strings_ContainsAny.wide a0 pos hps (by omega);have hN2:Lib.NoAny a0.data.toList [c,d] (pos + (Utf8.decode a0 pos).2):=by
      intro j b hj hjb;by_cases hjp:j < pos
      ·exact HN.out j b hjp hjb
      ·have h128:=g2 j hj (by omega) b hjb;have h1:b ≠ c:=by rintro rfl;omega
       have h2:b ≠ d:=by rintro rfl;omega
       simp [h1,h2]
     obtain ⟨R,hR⟩:∃ R,(Utf8.decode a0 pos).1 = R:=⟨_,rfl⟩
     obtain ⟨K,hK⟩:∃ K,(Utf8.decode a0 pos).2 = K:=⟨_,rfl⟩
     rw [hR,hK] at hnx;rw [hK] at hwd hN2;rw [hR] at g1;have hi3:=hit2 (pos + K);have HB3:=HB2 (pos + K);have HN3:=Aside0.mk hN2;have hRn:=fun W=>strings_ContainsAny.rune c d hc hd (R:Int) (by omega) W
     clear hR hK hit2 HB2 hit HB hN2 g2 HN hb;obtain ⟨W,hWd⟩:∃ W,wr.iterAt w.heap.size a0 (pos + K) = W:=⟨_,rfl⟩
     rw [hWd] at hnx hi3 HB3;clear hWd;go_wp2_with (go_at_call 191;refine (hRn _).mono ?_;rintro e w' ⟨rfl,hw⟩;(have HW:=Aside0.mk hw);(have hsz3:=(Array.getElem?_eq_some_iff.1 hi3).1);(have hi4:=(hw.block w.heap.size hsz3).trans hi3);clear hw)
     go_roundg g
     case measure=>omega
     case rel=>exact ⟨pos + K,by omega,by assumption,HN3,⟨HB3.out.trans ((‹Aside0 (Below W.heap.size W _)› : Aside0 (Below W.heap.size W _)).out.mono (by have:=HB3.out.size;omega))⟩⟩
  ·have hnx:∀ ty,(Instr.next (.pointer (some ⟨w.heap.size,0,none⟩)) true ty).run Tryz.prog wr = _:=fun ty=>Lib.run_next_end_at wr w.heap.size a0 pos ty hit hps
   have hno:Lib.indexAny a0.data.toList [c,d] = -1:=Lib.indexAny_none (fun j b hj hjb=>HN.out j b (by simp at hj;omega) hjb);have HNo:=Aside0.mk hno;clear hno;go_wp2;go_ret
   exact ⟨by rw [HNo.out];rfl,HB.out⟩
set_option maxHeartbeats 2000000 in
set_option maxRecDepth 100000 in
theorem strings_ContainsAny.calls (a0:ByteArray) (a1:ByteArray) (r:Bool) (w:World) (h:strings_ContainsAny.f a0 a1 = some r) :
 Calls Tryz.prog 157 #[.string a0,.string a1] w fun e w'=>e = .returned (.bool r)∧Below w.heap.size w w':=by
 unfold strings_ContainsAny.f at h;split at h
 ·rename_i c d
  split at h
  ·rename_i hh
   obtain ⟨hc,hd,hs⟩:=hh;obtain rfl:=Option.some.inj h;have hI:∀ W:World,Calls Tryz.prog 180 #[.string a0,.string ⟨#[c,d]⟩] W fun e w'=>e = .returned (.int .i64 (Lib.indexAny a0.data.toList [c,d]))∧Below W.heap.size W w':=by
    intro W;by_cases h8:a0.size ≤ 8
    ·exact strings_ContainsAny.short a0 c d hc hd h8 W
    ·have hz:(Tryz.prog.info? 175).map (fun i=>(i.zero,i.size)) = some (some (.agg (Array.replicate 256 (.bool false))),256):=by kernel_rfl
     refine (Tryz.strings_IndexAny_long (zero_of_info hz).1 a0 ⟨#[c,d]⟩ W (Nat.le_refl 2) (by omega) hs (show 2 < 4294967281 by decide) (by
      intro j b hj;have hj:[c,d][j]? = some b:=hj;rcases j with _|_|j
      ·rw [← Option.some.inj hj];exact hc
      ·rw [← Option.some.inj hj];exact hd
      ·simp at hj)).mono ?_
     rintro e w' ⟨rfl,rfl⟩;exact ⟨rfl,((Below.refl _ _).alloc (Nat.le_refl _) _).alloc (by simp) _⟩
   unfold Lib.containsAny;generalize Lib.indexAny a0.data.toList [c,d] = t at hI;go_enter Tryz.func157,Tryz.ntmps157;go_wp2_with (go_at_call 180;refine (hI _).mono ?_;rintro e w' ⟨rfl,hw⟩)
   go_ret
   exact ⟨rfl,‹_›⟩
  ·cases h
 ·cases h
def record_Check.j0:Nat→Bool→ByteArray→ByteArray→Option (Int)
 | 0,_,_,_=>none
 | k + 1,x18,x102000,x102001=>if x18 = true then (some 1) else ((strings_ContainsAny.f x102000 (⟨#[61,10]⟩:ByteArray)).bind fun t102=>(if t102 = true then (some 3) else ((strings_IndexByte.f x102001 0).bind fun t103=>(if t103 ≥ 0 then (some 3) else (some 0)))))
def record_Check.f (k:Nat) (a0_0:ByteArray) (a0_1:ByteArray):Option (Int):=if (a0_0.size:Int) < 1 then (record_Check.j0 k true a0_0 a0_1) else (if (a0_0.size:Int) > 60 then (record_Check.j0 k true a0_0 a0_1) else (record_Check.j0 k (decide ((a0_1.size:Int) > 500)) a0_0 a0_1))
theorem record_Check.mono_l:∀ k,(∀ y0 y1 y2,LeO (record_Check.j0 k y0 y1 y2) (record_Check.j0 (k + 1) y0 y1 y2))
 | 0=>fun _ _ _ r h=>by simp [record_Check.j0] at h
 | k + 1=>by
  have ih0:=record_Check.mono_l k
  ·intro y0 y1 y2
   unfold record_Check.j0
   repeat' first
   | (with_reducible exact ih0 _ _ _)
   | (with_reducible exact LeO.refl _)
   | (with_reducible exact LeO.none _)
   | (with_reducible refine LeO.ite ?_ ?_)
   | (with_reducible refine LeO.bind ?_ (fun _=>?_))
   | exact ih0 _ _ _
   | exact LeO.none _
   | refine LeO.ite ?_ ?_
   | refine LeO.bind ?_ (fun _=>?_)
theorem record_Check.mono:∀ a0 a1 k,LeO (record_Check.f k a0 a1) (record_Check.f (k + 1) a0 a1):=by
 intro a0 a1 k;have ih0:=record_Check.mono_l k;unfold record_Check.f;repeat' first
  | (with_reducible exact ih0 _ _ _)
  | (with_reducible exact LeO.refl _)
  | (with_reducible exact LeO.none _)
  | (with_reducible refine LeO.ite ?_ ?_)
  | (with_reducible refine LeO.bind ?_ (fun _=>?_))
  | exact ih0 _ _ _
  | exact LeO.none _
  | refine LeO.ite ?_ ?_
  | refine LeO.bind ?_ (fun _=>?_)
set_option maxHeartbeats 8000000 in
set_option maxRecDepth 100000 in
theorem record_Check.calls (k:Nat) (a0_0:ByteArray) (a0_1:ByteArray) (r:Int) (w:World) (h:record_Check.f k a0_0 a0_1 = some r) :
 Calls Tryz.prog 107 #[.agg #[.string a0_0,.string a0_1]] w fun e w'=>e = .returned (.int .i64 r)∧Below w.heap.size w w':=by
 have hu78:=Tryz.underlying78;have HB:=Aside0.mk (Below.refl w.heap.size w);have H:(if (a0_0.size:Int) < 1 then (record_Check.j0 k true a0_0 a0_1) else (if (a0_0.size:Int) > 60 then (record_Check.j0 k true a0_0 a0_1) else (record_Check.j0 k (decide ((a0_1.size:Int) > 500)) a0_0 a0_1))) = some r:=h;clear h;have HC2:=Aside0.mk H;clear H;go_enter Tryz.func107,Tryz.ntmps107;go_upto_region 1 with (first|((with_reducible refine gate_dst (N:=1) rfl ?_);(try (refine gate_guard (by rfl) ?_;dsimp only));refine box_event ?hg (N:=1) ?hd (cs:=#[.string a0_0,.string a0_1]) (t:=78) ?hr ?_;(case hd=>rfl);(case hg=>rfl);(case hr=>first|(go_simp;done)|(go_simp;rfl));intro gb101 hg w3 hbox hb;have n0_:=Aside0.mk (below_step (by repeat (first|(with_reducible first|exact HB.out|apply bwA|apply pwbN|apply bw1)|exact HB.out)) hb);have n1_:=Aside0.mk (hbox);have n2_:=Aside0.mk ((by rw [hg];exact (below_size (by repeat (first|(with_reducible first|exact HB.out|apply bwA|apply pwbN|apply bw1)|exact HB.out))):w.heap.size ≤ gb101));have n3_:=Aside0.mk ((by rw [hg];exact (below_size (by repeat (first|(with_reducible first|exact HB.out|apply bwA|apply pwbN|apply bw1)|exact HB.out))):w.heap.size ≤ gb101));clear HB;have HB:=n0_;have BK101:=n1_;have GW101:=n2_;have GE101:=n3_;clear n0_ n1_ n2_ n3_;clear hb hbox hg))
 (try simp only [Act.put,List.setIfInBounds_toArray,List.set_cons_zero,List.set_cons_succ]);go_cut [18] (fun v18 wc=>∃ (kq:Nat) (x18_1:Bool),v18 = .bool x18_1∧Aside0 (record_Check.j0 kq x18_1 a0_0 a0_1 = some r)∧Aside0 (kq ≤ k)∧Aside0 (wc.heap[gb101]? = some (.cells #[.string a0_0,.string a0_1] 78 (0,0)))∧Aside0 (Below w.heap.size w wc))
 case first =>
  have H:=HC2.out;clear HC2;by_cases c4:(a0_0.size:Int) < 1
  ·rw [if_pos c4] at H;have c4b0:decide ((a0_0.size:Int) < 1) = true:=decide_eq_true c4;have c4b1:decide (a0_0.size < 1) = true:=decide_eq_true (by omega);clear c4;(first|rw [c4b0]|(simp only [i64_w,i32_w];rw [c4b0])|skip);have H':=Aside0.mk H;clear H;obtain ⟨_,_,_,_⟩:=blkA2 BK101.out;go_wp2;go_meet
   case rel=>exact ⟨_,(true),(by first|rfl|(simp;done)|(simp [*];done)),H',⟨by first|omega|exact Nat.le_refl _⟩,⟨by (with_reducible repeat (first|refine blk_drewN ?_ _|refine blk_drew ?_|refine blk_alloc ?_ _));exact BK101.out⟩,⟨by repeat (first|(with_reducible first|exact HB.out|apply bwA|apply pwbN|apply bw1|refine below_set ?_ GE101.out)|exact HB.out)⟩⟩
  ·rw [if_neg c4] at H;have c4b0:decide ((a0_0.size:Int) < 1) = false:=decide_eq_false c4;have c4b1:decide (a0_0.size < 1) = false:=decide_eq_false (by omega);clear c4;(first|rw [c4b0]|(simp only [i64_w,i32_w];rw [c4b0])|skip);by_cases c6:(a0_0.size:Int) > 60
   ·rw [if_pos c6] at H;have c6b0:decide (60 < (a0_0.size:Int)) = true:=decide_eq_true c6;have c6b1:decide (60 < a0_0.size) = true:=decide_eq_true (by omega);clear c6;have H':=Aside0.mk H;clear H;obtain ⟨_,_,_,_⟩:=blkA2 BK101.out;go_wp2;go_meet
    case rel=>exact ⟨_,(true),(by first|rfl|(simp;done)|(simp [*];done)),H',⟨by first|omega|exact Nat.le_refl _⟩,⟨by (with_reducible repeat (first|refine blk_drewN ?_ _|refine blk_drew ?_|refine blk_alloc ?_ _));exact BK101.out⟩,⟨by repeat (first|(with_reducible first|exact HB.out|apply bwA|apply pwbN|apply bw1|refine below_set ?_ GE101.out)|exact HB.out)⟩⟩
   ·rw [if_neg c6] at H;have c6b0:decide (60 < (a0_0.size:Int)) = false:=decide_eq_false c6;have c6b1:decide (60 < a0_0.size) = false:=decide_eq_false (by omega);clear c6;have H':=Aside0.mk H;clear H;obtain ⟨_,_,_,_⟩:=blkA2 BK101.out;go_wp2;go_meet
    case rel=>exact ⟨_,(decide ((a0_1.size:Int) > 500)),(by first|rfl|(simp;done)|(simp [*];done)),H',⟨by first|omega|exact Nat.le_refl _⟩,⟨by (with_reducible repeat (first|refine blk_drewN ?_ _|refine blk_drew ?_|refine blk_alloc ?_ _));exact BK101.out⟩,⟨by repeat (first|(with_reducible first|exact HB.out|apply bwA|apply pwbN|apply bw1|refine below_set ?_ GE101.out)|exact HB.out)⟩⟩
 case rest =>
  clear HC2;obtain ⟨kq,x18_1,rfl,HA,HJ1,BK101,HB⟩:=hcut;cases kq with
  | zero=>exact absurd HA.out (by simp [record_Check.j0])
  | succ kj1 =>
   have H:=HA.out;clear HA;simp only [record_Check.j0] at H;by_cases c9:x18_1 = true
   ·subst c9;have H1:(some 1) = some r:=by rw [if_pos rfl] at H;exact H
    clear H;have H:=H1;clear H1;obtain rfl:=Option.some.inj H;go_wp2;go_ret
    exact ⟨by first|rfl|(simp [errW_none,errW_some] <;> rfl)|(simp [*,errW_none,errW_some] <;> rfl),by repeat (first|(with_reducible first|exact HB.out|apply bwA|apply pwbN|apply bw1|refine below_set ?_ GE101.out)|exact HB.out)⟩
   ·replace c9:=Bool.eq_false_iff.mpr c9;subst c9;have H1:((strings_ContainsAny.f a0_0 (⟨#[61,10]⟩:ByteArray)).bind fun t102=>(if t102 = true then (some 3) else ((strings_IndexByte.f a0_1 0).bind fun t103=>(if t103 ≥ 0 then (some 3) else (some 0))))) = some r:=by rw [if_neg (show ¬ (false = true) by decide)] at H;exact H
    clear H;have H:=H1;clear H1;replace H:=Option.bind_eq_some_iff.mp H;obtain ⟨t102,A100,H⟩:=H;replace H:(if t102 = true then (some 3) else ((strings_IndexByte.f a0_1 0).bind fun t103=>(if t103 ≥ 0 then (some 3) else (some 0)))) = some r:=H;have A10:=Aside0.mk A100;clear A100;by_cases c11:t102 = true
    ·subst c11;have H1:(some 3) = some r:=by rw [if_pos rfl] at H;exact H
     clear H;have H:=H1;clear H1;obtain rfl:=Option.some.inj H;obtain ⟨_,_,_,_⟩:=blkA2 BK101.out;go_wp2_with (first|((with_reducible refine gate_callee (f:=157) rfl ?_);refine goesL_ (some 21) rfl rfl Tryz.func157 (by kernel_rfl) rfl #[.string a0_0,.string (⟨#[61,10]⟩:ByteArray)] rfl (by (try simp only [List.map_toArray,List.map_cons,List.map_nil]);first|done|rfl|(simp only [List.length_drop,List.length_take];rfl)) ?_;(with_reducible refine (strings_ContainsAny.calls a0_0 (⟨#[61,10]⟩:ByteArray) true _ A10.out).mono ?_);rintro e w13 ⟨rfl,hb⟩;refine ⟨_,rfl,?_⟩;have n0_:=Aside0.mk (blk_below (g:=gb101) (o := .cells #[.string a0_0,.string a0_1] 78 (0,0)) (by (with_reducible repeat (first|refine blk_drewN ?_ _|refine blk_drew ?_|refine blk_alloc ?_ _));exact BK101.out) hb);have n1_:=Aside0.mk (below_step (by repeat (first|(with_reducible first|exact HB.out|apply bwA|apply pwbN|apply bw1|refine below_set ?_ GE101.out)|exact HB.out)) hb);clear BK101;clear HB;have BK101:=n0_;have HB:=n1_;clear n0_ n1_;(try clear hb);(try clear hb2);(try clear hk);(try clear hi)))
     go_ret
     exact ⟨by first|rfl|(simp [errW_none,errW_some] <;> rfl)|(simp [*,errW_none,errW_some] <;> rfl),by repeat (first|(with_reducible first|exact HB.out|apply bwA|apply pwbN|apply bw1|refine below_set ?_ GE101.out)|exact HB.out)⟩
    ·replace c11:=Bool.eq_false_iff.mpr c11;subst c11;have H1:((strings_IndexByte.f a0_1 0).bind fun t103=>(if t103 ≥ 0 then (some 3) else (some 0))) = some r:=by rw [if_neg (show ¬ (false = true) by decide)] at H;exact H
     clear H;have H:=H1;clear H1;replace H:=Option.bind_eq_some_iff.mp H;obtain ⟨t103,A140,H⟩:=H;replace H:(if t103 ≥ 0 then (some 3) else (some 0)) = some r:=H;have A14:=Aside0.mk A140;clear A140;by_cases c15:t103 ≥ 0
     ·rw [if_pos c15] at H;have c15b0:decide (0 ≤ t103) = true:=decide_eq_true c15;clear c15;obtain rfl:=Option.some.inj H;obtain ⟨_,_,_,_⟩:=blkA2 BK101.out;go_wp2_with (first|((with_reducible refine gate_callee (f:=157) rfl ?_);refine goesL_ (some 21) rfl rfl Tryz.func157 (by kernel_rfl) rfl #[.string a0_0,.string (⟨#[61,10]⟩:ByteArray)] rfl (by (try simp only [List.map_toArray,List.map_cons,List.map_nil]);first|done|rfl|(simp only [List.length_drop,List.length_take];rfl)) ?_;(with_reducible refine (strings_ContainsAny.calls a0_0 (⟨#[61,10]⟩:ByteArray) false _ A10.out).mono ?_);rintro e w17 ⟨rfl,hb⟩;refine ⟨_,rfl,?_⟩;have n0_:=Aside0.mk (blk_below (g:=gb101) (o := .cells #[.string a0_0,.string a0_1] 78 (0,0)) (by (with_reducible repeat (first|refine blk_drewN ?_ _|refine blk_drew ?_|refine blk_alloc ?_ _));exact BK101.out) hb);have n1_:=Aside0.mk (below_step (by repeat (first|(with_reducible first|exact HB.out|apply bwA|apply pwbN|apply bw1|refine below_set ?_ GE101.out)|exact HB.out)) hb);clear BK101;clear HB;have BK101:=n0_;have HB:=n1_;clear n0_ n1_;(try clear hb);(try clear hb2);(try clear hk);(try clear hi);obtain ⟨_,_,_,_⟩:=blkA2 BK101.out)|(go_at_call 56;(with_reducible refine (strings_IndexByte.calls a0_1 0 t103 _ A14.out).mono ?_);rintro e w' ⟨rfl,⟨nd,rfl⟩⟩))
      go_ret
      exact ⟨by first|rfl|(simp [errW_none,errW_some] <;> rfl)|(simp [*,errW_none,errW_some] <;> rfl),by repeat (first|(with_reducible first|exact HB.out|apply bwA|apply pwbN|apply bw1|refine below_set ?_ GE101.out)|exact HB.out)⟩
     ·rw [if_neg c15] at H;have c15b0:decide (0 ≤ t103) = false:=decide_eq_false c15;clear c15;obtain rfl:=Option.some.inj H;obtain ⟨_,_,_,_⟩:=blkA2 BK101.out;go_wp2_with (first|((with_reducible refine gate_callee (f:=157) rfl ?_);refine goesL_ (some 21) rfl rfl Tryz.func157 (by kernel_rfl) rfl #[.string a0_0,.string (⟨#[61,10]⟩:ByteArray)] rfl (by (try simp only [List.map_toArray,List.map_cons,List.map_nil]);first|done|rfl|(simp only [List.length_drop,List.length_take];rfl)) ?_;(with_reducible refine (strings_ContainsAny.calls a0_0 (⟨#[61,10]⟩:ByteArray) false _ A10.out).mono ?_);rintro e w20 ⟨rfl,hb⟩;refine ⟨_,rfl,?_⟩;have n0_:=Aside0.mk (blk_below (g:=gb101) (o := .cells #[.string a0_0,.string a0_1] 78 (0,0)) (by (with_reducible repeat (first|refine blk_drewN ?_ _|refine blk_drew ?_|refine blk_alloc ?_ _));exact BK101.out) hb);have n1_:=Aside0.mk (below_step (by repeat (first|(with_reducible first|exact HB.out|apply bwA|apply pwbN|apply bw1|refine below_set ?_ GE101.out)|exact HB.out)) hb);clear BK101;clear HB;have BK101:=n0_;have HB:=n1_;clear n0_ n1_;(try clear hb);(try clear hb2);(try clear hk);(try clear hi);obtain ⟨_,_,_,_⟩:=blkA2 BK101.out)|(go_at_call 56;(with_reducible refine (strings_IndexByte.calls a0_1 0 t103 _ A14.out).mono ?_);rintro e w' ⟨rfl,⟨nd,rfl⟩⟩))
      go_ret
      exact ⟨by first|rfl|(simp [errW_none,errW_some] <;> rfl)|(simp [*,errW_none,errW_some] <;> rfl),by repeat (first|(with_reducible first|exact HB.out|apply bwA|apply pwbN|apply bw1|refine below_set ?_ GE101.out)|exact HB.out)⟩
def pax_Check.l0:Nat→List (S78)→List (S78)→Int→Int→Option (Int)
 | 0,_,_,_,_=>none
 | k + 1,x0,x9,x10,x11=>if x11 < x10 then (if 0 ≤ x11 then (if x11 < (x9.length:Int) then ((record_Check.f k ((rd_T78 x9 x11).f0) ((rd_T78 x9 x11).f1)).bind fun t103=>(if t103 = 0 then (if x11 > 0 then (if 0 ≤ (wrap64 (x11 - 1)) then (if (wrap64 (x11 - 1)) < (x0.length:Int) then (if ((Op.bytesLess (((rd_T78 x0 (wrap64 (x11 - 1))).f0).toList) (((rd_T78 x9 x11).f0).toList)) = true) then (pax_Check.l0 k x0 x9 x10 (wrap64 (x11 + 1))) else (some 6)) else (none)) else (none)) else (pax_Check.l0 k x0 x9 x10 (wrap64 (x11 + 1)))) else (some t103))) else (none)) else (none)) else (some 0)
def pax_Check.f (k:Nat) (l0:List (S78)):Option (Int):=if (l0.length:Int) > 12 then (some 1) else (pax_Check.l0 k l0 l0 (l0.length:Int) 0)
theorem pax_Check.mono_l:∀ k,(∀ y0 y1 y2 y3,LeO (pax_Check.l0 k y0 y1 y2 y3) (pax_Check.l0 (k + 1) y0 y1 y2 y3))
 | 0=>fun _ _ _ _ r h=>by simp [pax_Check.l0] at h
 | k + 1=>by
  have ih0:=pax_Check.mono_l k
  ·intro y0 y1 y2 y3
   unfold pax_Check.l0
   repeat' first
   | (with_reducible exact ih0 _ _ _ _)
   | (with_reducible exact record_Check.mono _ _ _)
   | (with_reducible exact LeO.refl _)
   | (with_reducible exact LeO.none _)
   | (with_reducible refine LeO.ite ?_ ?_)
   | (with_reducible refine LeO.bind ?_ (fun _=>?_))
   | exact ih0 _ _ _ _
   | exact record_Check.mono _ _ _
   | exact LeO.none _
   | refine LeO.ite ?_ ?_
   | refine LeO.bind ?_ (fun _=>?_)
theorem pax_Check.mono:∀ a0 k,LeO (pax_Check.f k a0) (pax_Check.f (k + 1) a0):=by
 intro a0 k;have ih0:=pax_Check.mono_l k;unfold pax_Check.f;repeat' first
  | (with_reducible exact ih0 _ _ _ _)
  | (with_reducible exact record_Check.mono _ _ _)
  | (with_reducible exact LeO.refl _)
  | (with_reducible exact LeO.none _)
  | (with_reducible refine LeO.ite ?_ ?_)
  | (with_reducible refine LeO.bind ?_ (fun _=>?_))
  | exact ih0 _ _ _ _
  | exact record_Check.mono _ _ _
  | exact LeO.none _
  | refine LeO.ite ?_ ?_
  | refine LeO.bind ?_ (fun _=>?_)
set_option maxHeartbeats 8000000 in
set_option maxRecDepth 100000 in
theorem pax_Check.calls (k:Nat) (A0:Option Addr) (c0:Nat) (l0:List (S78)) (r:Int) (w:World) (hr0:Kd.C k78 w A0 l0.length l0) (hc0:l0.length ≤ c0) (h:pax_Check.f k l0 = some r) :
 Calls Tryz.prog 63 #[.slice A0 l0.length c0] w fun e w'=>e = .returned (.int .i64 r)∧Below w.heap.size w w':=by
 have hu78:=Tryz.underlying78;have HR0:=Aside0.mk hr0;have HC0:=Aside0.mk hc0;clear hr0 hc0;have HB:=Aside0.mk (Below.refl w.heap.size w);have H:(if (l0.length:Int) > 12 then (some 1) else (pax_Check.l0 k l0 l0 (l0.length:Int) 0)) = some r:=h;clear h;by_cases c2:(l0.length:Int) > 12
 ·rw [if_pos c2] at H;have c2b0:decide (12 < (l0.length:Int)) = true:=decide_eq_true c2;have c2b1:decide (12 < l0.length) = true:=decide_eq_true (by omega);clear c2;obtain rfl:=Option.some.inj H;go_enter Tryz.func63,Tryz.ntmps63;go_wp2;repeat (go_quiet (fail);try go_wp2)
  go_ret
  exact ⟨by first|rfl|(simp [errW_none,errW_some] <;> rfl)|(simp [*,errW_none,errW_some] <;> rfl),by repeat (first|(with_reducible first|exact HB.out|apply bwA|apply pwbN|apply bw1)|exact HB.out)⟩
 ·rw [if_neg c2] at H;have c2b0:decide (12 < (l0.length:Int)) = false:=decide_eq_false c2;have c2b1:decide (12 < l0.length) = false:=decide_eq_false (by omega);clear c2;have H':=Aside0.mk H;clear H;go_enter Tryz.func63,Tryz.ntmps63;go_wp2;repeat (go_quiet (fail);try go_wp2)
  go_loopg [11] k (fun kq v11 w'=>∃ (x11_1:Int),v11 = .int .i64 x11_1∧Aside0 (pax_Check.l0 kq l0 l0 (l0.length:Int) x11_1 = some r)∧Aside0 (kq ≤ k)∧Aside0 (Below w.heap.size w w'))
  case atStart=>exact ⟨(0),(by first|rfl|(simp;done)|(simp [*];done)),H',⟨Nat.le_refl _⟩,⟨by repeat (first|(with_reducible first|exact HB.out|apply bwA|apply pwbN|apply bw1)|exact HB.out)⟩⟩
  case round =>
   clear H';repeat first|clear c2|clear c2b0|clear c2b1
   obtain ⟨x11_1,rfl,HA,HK1,HB⟩:=hrel;cases gk with
   | zero=>exact absurd HA.out (by simp [pax_Check.l0])
   | succ k1 =>
    have H:=HA.out;clear HA;simp only [pax_Check.l0] at H;by_cases c3:x11_1 < (l0.length:Int)
    ·rw [if_pos c3] at H;have c3b0:decide (x11_1 < (l0.length:Int)) = true:=decide_eq_true c3;clear c3;by_cases c4:0 ≤ x11_1
     ·rw [if_pos c4] at H;have c4b0:decide (0 ≤ x11_1) = true:=decide_eq_true c4;clear c4;by_cases c5:x11_1 < (l0.length:Int)
      ·rw [if_pos c5] at H;have c5b0:decide (x11_1 < (l0.length:Int)) = true:=decide_eq_true c5;clear c5;replace H:=Option.bind_eq_some_iff.mp H;obtain ⟨t103,A60,H⟩:=H;replace H:(if t103 = 0 then (if x11_1 > 0 then (if 0 ≤ (wrap64 (x11_1 - 1)) then (if (wrap64 (x11_1 - 1)) < (l0.length:Int) then (if ((Op.bytesLess (((rd_T78 l0 (wrap64 (x11_1 - 1))).f0).toList) (((rd_T78 l0 x11_1).f0).toList)) = true) then (pax_Check.l0 k1 l0 l0 (l0.length:Int) (wrap64 (x11_1 + 1))) else (some 6)) else (none)) else (none)) else (pax_Check.l0 k1 l0 l0 (l0.length:Int) (wrap64 (x11_1 + 1)))) else (some t103)) = some r:=H;have A6:=Aside0.mk A60;clear A60;by_cases c7:t103 = 0
       ·rw [if_pos c7] at H;have c7b0:(t103 == 0) = true:=beq_iff_eq.mpr c7;have c7b1:(t103 != 0) = false:=bne_eq_false_iff_eq.mpr c7;clear c7;by_cases c8:x11_1 > 0
        ·rw [if_pos c8] at H;have c8b0:decide (0 < x11_1) = true:=decide_eq_true c8;clear c8;obtain ⟨ji9,hji9⟩:∃ j_:Int,(wrap64 (x11_1 - 1)) = j_:=⟨_,rfl⟩
         replace H:(if 0 ≤ (ji9) then (if (ji9) < (l0.length:Int) then (if ((Op.bytesLess (((rd_T78 l0 (ji9)).f0).toList) (((rd_T78 l0 x11_1).f0).toList)) = true) then (pax_Check.l0 k1 l0 l0 (l0.length:Int) (wrap64 (x11_1 + 1))) else (some 6)) else (none)) else (none)) = some r:=by first|(rw [hji9] at H;exact H)|(simp only [hji9] at H ⊢;exact H)
         (try rw [hji9] at A6);have hji9w:(IntKind.i64.wrap (x11_1 - 1)) = ji9:=(i64_w _).trans hji9;by_cases c10:0 ≤ (ji9)
         ·rw [if_pos c10] at H;have c10b0:decide (0 ≤ (ji9)) = true:=decide_eq_true c10;clear c10;by_cases c11:(ji9) < (l0.length:Int)
          ·rw [if_pos c11] at H;have c11b0:decide ((ji9) < (l0.length:Int)) = true:=decide_eq_true c11;clear c11;by_cases c12:((Op.bytesLess (((rd_T78 l0 (ji9)).f0).toList) (((rd_T78 l0 x11_1).f0).toList)) = true)
           ·rw [if_pos c12] at H;have c12b0:(Op.bytesLess (((rd_T78 l0 (ji9)).f0).toList) (((rd_T78 l0 x11_1).f0).toList)) = true:=c12;clear c12;have H':=Aside0.mk H;clear H;have p101:0 ≤ (x11_1:Int):=of_decide_eq_true (by first|(with_reducible assumption)|assumption);have q101:x11_1 < (l0.length:Int):=of_decide_eq_true (by first|(with_reducible assumption)|assumption);obtain ⟨ad101,e101,hx101_0,hx101_1⟩:=at_T78 HR0.out x11_1 p101 q101;cases e101;replace hx101_0:=(HB.out.cell (World.block_lt_of_cell? w _ hx101_0)).trans hx101_0;replace hx101_1:=(HB.out.cell (World.block_lt_of_cell? w _ hx101_1)).trans hx101_1;replace p101:=eq_true p101;replace q101:=eq_true q101;go_wp2_with (first|((with_reducible refine gate_dst (N:=4) rfl ?_);refine box_event ?hg (N:=4) ?hd (cs:=#[.string (⟨#[]⟩:ByteArray),.string (⟨#[]⟩:ByteArray)]) (t:=78) ?hr ?_;(case hd=>rfl);(case hg=>rfl);(case hr=>first|(go_simp;done)|(go_simp;rfl));intro gb102 hg w13 hbox hb;have n0_:=Aside0.mk (below_step (by repeat (first|(with_reducible first|exact HB.out|apply bwA|apply pwbN|apply bw1)|exact HB.out)) hb);have n1_:=Aside0.mk (hbox);have n2_:=Aside0.mk ((by rw [hg];exact (below_size (by repeat (first|(with_reducible first|exact HB.out|apply bwA|apply pwbN|apply bw1)|exact HB.out))):w.heap.size ≤ gb102));have n3_:=Aside0.mk ((by rw [hg];exact (below_size (by repeat (first|(with_reducible first|exact HB.out|apply bwA|apply pwbN|apply bw1)|exact HB.out))):w.heap.size ≤ gb102));clear HB;have HB:=n0_;have BK102:=n1_;have GW102:=n2_;have GE102:=n3_;clear n0_ n1_ n2_ n3_;clear hb hbox hg;obtain ⟨hcz14_0,hcz14_1,hfz14_0,hfz14_1⟩:=blkA2 BK102.out)|(go_at_call 107;(with_reducible refine (record_Check.calls k1 ((rd_T78 l0 x11_1).f0) ((rd_T78 l0 x11_1).f1) t103 _ A6.out).mono ?_);rintro e w15 ⟨rfl,hb⟩;have n0_:=Aside0.mk (blk_below (g:=gb102) (o := .cells #[.string ((rd_T78 l0 x11_1).f0),.string ((rd_T78 l0 x11_1).f1)] 78 (0,0)) (by (with_reducible repeat (first|refine blk_drewN ?_ _|refine blk_drew ?_|refine blk_alloc ?_ _));refine blk_put (cs:=#[.string ((rd_T78 l0 x11_1).f0),.string (⟨#[]⟩:ByteArray)]) ?_ 1 _ rfl;(with_reducible repeat (first|refine blk_drewN ?_ _|refine blk_drew ?_|refine blk_alloc ?_ _));refine blk_put (cs:=#[.string (⟨#[]⟩:ByteArray),.string (⟨#[]⟩:ByteArray)]) ?_ 0 _ rfl;(with_reducible repeat (first|refine blk_drewN ?_ _|refine blk_drew ?_|refine blk_alloc ?_ _));exact BK102.out) hb);have n1_:=Aside0.mk (below_step (by repeat (first|(with_reducible first|exact HB.out|apply bwA|apply pwbN|apply bw1|refine below_set ?_ GE102.out)|exact HB.out)) hb);clear BK102;clear HB;have BK102:=n0_;have HB:=n1_;clear n0_ n1_;(try clear hb);(try clear hb2);(try clear hk);(try clear hi);obtain ⟨hcz16_0,hcz16_1,hfz16_0,hfz16_1⟩:=blkA2 BK102.out;have p104:0 ≤ ((ji9):Int):=of_decide_eq_true (by first|(with_reducible assumption)|assumption);have q104:(ji9) < (l0.length:Int):=of_decide_eq_true (by first|(with_reducible assumption)|assumption);obtain ⟨ad104,e104,hx104_0,hx104_1⟩:=at_T78 HR0.out (ji9) p104 q104;obtain rfl:ad101 = ad104:=(by injection e104);replace hx104_0:=(HB.out.cell (World.block_lt_of_cell? w _ hx104_0)).trans hx104_0;replace hx104_1:=(HB.out.cell (World.block_lt_of_cell? w _ hx104_1)).trans hx104_1;replace p104:=eq_true p104;replace q104:=eq_true q104))
            repeat (go_quiet (first|((with_reducible refine gate_dst (N:=4) rfl ?_);refine box_event ?hg (N:=4) ?hd (cs:=#[.string (⟨#[]⟩:ByteArray),.string (⟨#[]⟩:ByteArray)]) (t:=78) ?hr ?_;(case hd=>rfl);(case hg=>rfl);(case hr=>first|(go_simp;done)|(go_simp;rfl));intro gb102 hg w13 hbox hb;have n0_:=Aside0.mk (below_step (by repeat (first|(with_reducible first|exact HB.out|apply bwA|apply pwbN|apply bw1)|exact HB.out)) hb);have n1_:=Aside0.mk (hbox);have n2_:=Aside0.mk ((by rw [hg];exact (below_size (by repeat (first|(with_reducible first|exact HB.out|apply bwA|apply pwbN|apply bw1)|exact HB.out))):w.heap.size ≤ gb102));have n3_:=Aside0.mk ((by rw [hg];exact (below_size (by repeat (first|(with_reducible first|exact HB.out|apply bwA|apply pwbN|apply bw1)|exact HB.out))):w.heap.size ≤ gb102));clear HB;have HB:=n0_;have BK102:=n1_;have GW102:=n2_;have GE102:=n3_;clear n0_ n1_ n2_ n3_;clear hb hbox hg;obtain ⟨hcz14_0,hcz14_1,hfz14_0,hfz14_1⟩:=blkA2 BK102.out)|(go_at_call 107;(with_reducible refine (record_Check.calls k1 ((rd_T78 l0 x11_1).f0) ((rd_T78 l0 x11_1).f1) t103 _ A6.out).mono ?_);rintro e w15 ⟨rfl,hb⟩;have n0_:=Aside0.mk (blk_below (g:=gb102) (o := .cells #[.string ((rd_T78 l0 x11_1).f0),.string ((rd_T78 l0 x11_1).f1)] 78 (0,0)) (by (with_reducible repeat (first|refine blk_drewN ?_ _|refine blk_drew ?_|refine blk_alloc ?_ _));refine blk_put (cs:=#[.string ((rd_T78 l0 x11_1).f0),.string (⟨#[]⟩:ByteArray)]) ?_ 1 _ rfl;(with_reducible repeat (first|refine blk_drewN ?_ _|refine blk_drew ?_|refine blk_alloc ?_ _));refine blk_put (cs:=#[.string (⟨#[]⟩:ByteArray),.string (⟨#[]⟩:ByteArray)]) ?_ 0 _ rfl;(with_reducible repeat (first|refine blk_drewN ?_ _|refine blk_drew ?_|refine blk_alloc ?_ _));exact BK102.out) hb);have n1_:=Aside0.mk (below_step (by repeat (first|(with_reducible first|exact HB.out|apply bwA|apply pwbN|apply bw1|refine below_set ?_ GE102.out)|exact HB.out)) hb);clear BK102;clear HB;have BK102:=n0_;have HB:=n1_;clear n0_ n1_;(try clear hb);(try clear hb2);(try clear hk);(try clear hi);obtain ⟨hcz16_0,hcz16_1,hfz16_0,hfz16_1⟩:=blkA2 BK102.out;have p104:0 ≤ ((ji9):Int):=of_decide_eq_true (by first|(with_reducible assumption)|assumption);have q104:(ji9) < (l0.length:Int):=of_decide_eq_true (by first|(with_reducible assumption)|assumption);obtain ⟨ad104,e104,hx104_0,hx104_1⟩:=at_T78 HR0.out (ji9) p104 q104;obtain rfl:ad101 = ad104:=(by injection e104);replace hx104_0:=(HB.out.cell (World.block_lt_of_cell? w _ hx104_0)).trans hx104_0;replace hx104_1:=(HB.out.cell (World.block_lt_of_cell? w _ hx104_1)).trans hx104_1;replace p104:=eq_true p104;replace q104:=eq_true q104));try go_wp2_with (first|((with_reducible refine gate_dst (N:=4) rfl ?_);refine box_event ?hg (N:=4) ?hd (cs:=#[.string (⟨#[]⟩:ByteArray),.string (⟨#[]⟩:ByteArray)]) (t:=78) ?hr ?_;(case hd=>rfl);(case hg=>rfl);(case hr=>first|(go_simp;done)|(go_simp;rfl));intro gb102 hg w13 hbox hb;have n0_:=Aside0.mk (below_step (by repeat (first|(with_reducible first|exact HB.out|apply bwA|apply pwbN|apply bw1)|exact HB.out)) hb);have n1_:=Aside0.mk (hbox);have n2_:=Aside0.mk ((by rw [hg];exact (below_size (by repeat (first|(with_reducible first|exact HB.out|apply bwA|apply pwbN|apply bw1)|exact HB.out))):w.heap.size ≤ gb102));have n3_:=Aside0.mk ((by rw [hg];exact (below_size (by repeat (first|(with_reducible first|exact HB.out|apply bwA|apply pwbN|apply bw1)|exact HB.out))):w.heap.size ≤ gb102));clear HB;have HB:=n0_;have BK102:=n1_;have GW102:=n2_;have GE102:=n3_;clear n0_ n1_ n2_ n3_;clear hb hbox hg;obtain ⟨hcz14_0,hcz14_1,hfz14_0,hfz14_1⟩:=blkA2 BK102.out)|(go_at_call 107;(with_reducible refine (record_Check.calls k1 ((rd_T78 l0 x11_1).f0) ((rd_T78 l0 x11_1).f1) t103 _ A6.out).mono ?_);rintro e w15 ⟨rfl,hb⟩;have n0_:=Aside0.mk (blk_below (g:=gb102) (o := .cells #[.string ((rd_T78 l0 x11_1).f0),.string ((rd_T78 l0 x11_1).f1)] 78 (0,0)) (by (with_reducible repeat (first|refine blk_drewN ?_ _|refine blk_drew ?_|refine blk_alloc ?_ _));refine blk_put (cs:=#[.string ((rd_T78 l0 x11_1).f0),.string (⟨#[]⟩:ByteArray)]) ?_ 1 _ rfl;(with_reducible repeat (first|refine blk_drewN ?_ _|refine blk_drew ?_|refine blk_alloc ?_ _));refine blk_put (cs:=#[.string (⟨#[]⟩:ByteArray),.string (⟨#[]⟩:ByteArray)]) ?_ 0 _ rfl;(with_reducible repeat (first|refine blk_drewN ?_ _|refine blk_drew ?_|refine blk_alloc ?_ _));exact BK102.out) hb);have n1_:=Aside0.mk (below_step (by repeat (first|(with_reducible first|exact HB.out|apply bwA|apply pwbN|apply bw1|refine below_set ?_ GE102.out)|exact HB.out)) hb);clear BK102;clear HB;have BK102:=n0_;have HB:=n1_;clear n0_ n1_;(try clear hb);(try clear hb2);(try clear hk);(try clear hi);obtain ⟨hcz16_0,hcz16_1,hfz16_0,hfz16_1⟩:=blkA2 BK102.out;have p104:0 ≤ ((ji9):Int):=of_decide_eq_true (by first|(with_reducible assumption)|assumption);have q104:(ji9) < (l0.length:Int):=of_decide_eq_true (by first|(with_reducible assumption)|assumption);obtain ⟨ad104,e104,hx104_0,hx104_1⟩:=at_T78 HR0.out (ji9) p104 q104;obtain rfl:ad101 = ad104:=(by injection e104);replace hx104_0:=(HB.out.cell (World.block_lt_of_cell? w _ hx104_0)).trans hx104_0;replace hx104_1:=(HB.out.cell (World.block_lt_of_cell? w _ hx104_1)).trans hx104_1;replace p104:=eq_true p104;replace q104:=eq_true q104)))
            go_roundg k1
            case measure=>have:=HK1.out;omega
            case rel=>exact ⟨(wrap64 (x11_1 + 1)),(by first|rfl|(simp;done)|(simp [*];done)),H',⟨by have:=HK1.out;omega⟩,⟨by repeat (first|(with_reducible first|exact HB.out|apply bwA|apply pwbN|apply bw1|refine below_set ?_ GE102.out)|exact HB.out)⟩⟩
           ·rw [if_neg c12] at H;have c12b0:(Op.bytesLess (((rd_T78 l0 (ji9)).f0).toList) (((rd_T78 l0 x11_1).f0).toList)) = false:=by simpa using c12
            clear c12;obtain rfl:=Option.some.inj H;have p101:0 ≤ (x11_1:Int):=of_decide_eq_true (by first|(with_reducible assumption)|assumption);have q101:x11_1 < (l0.length:Int):=of_decide_eq_true (by first|(with_reducible assumption)|assumption);obtain ⟨ad101,e101,hx101_0,hx101_1⟩:=at_T78 HR0.out x11_1 p101 q101;cases e101;replace hx101_0:=(HB.out.cell (World.block_lt_of_cell? w _ hx101_0)).trans hx101_0;replace hx101_1:=(HB.out.cell (World.block_lt_of_cell? w _ hx101_1)).trans hx101_1;replace p101:=eq_true p101;replace q101:=eq_true q101;go_wp2_with (first|((with_reducible refine gate_dst (N:=4) rfl ?_);refine box_event ?hg (N:=4) ?hd (cs:=#[.string (⟨#[]⟩:ByteArray),.string (⟨#[]⟩:ByteArray)]) (t:=78) ?hr ?_;(case hd=>rfl);(case hg=>rfl);(case hr=>first|(go_simp;done)|(go_simp;rfl));intro gb102 hg w17 hbox hb;have n0_:=Aside0.mk (below_step (by repeat (first|(with_reducible first|exact HB.out|apply bwA|apply pwbN|apply bw1)|exact HB.out)) hb);have n1_:=Aside0.mk (hbox);have n2_:=Aside0.mk ((by rw [hg];exact (below_size (by repeat (first|(with_reducible first|exact HB.out|apply bwA|apply pwbN|apply bw1)|exact HB.out))):w.heap.size ≤ gb102));have n3_:=Aside0.mk ((by rw [hg];exact (below_size (by repeat (first|(with_reducible first|exact HB.out|apply bwA|apply pwbN|apply bw1)|exact HB.out))):w.heap.size ≤ gb102));clear HB;have HB:=n0_;have BK102:=n1_;have GW102:=n2_;have GE102:=n3_;clear n0_ n1_ n2_ n3_;clear hb hbox hg;obtain ⟨hcz18_0,hcz18_1,hfz18_0,hfz18_1⟩:=blkA2 BK102.out)|(go_at_call 107;(with_reducible refine (record_Check.calls k1 ((rd_T78 l0 x11_1).f0) ((rd_T78 l0 x11_1).f1) t103 _ A6.out).mono ?_);rintro e w19 ⟨rfl,hb⟩;have n0_:=Aside0.mk (blk_below (g:=gb102) (o := .cells #[.string ((rd_T78 l0 x11_1).f0),.string ((rd_T78 l0 x11_1).f1)] 78 (0,0)) (by (with_reducible repeat (first|refine blk_drewN ?_ _|refine blk_drew ?_|refine blk_alloc ?_ _));refine blk_put (cs:=#[.string ((rd_T78 l0 x11_1).f0),.string (⟨#[]⟩:ByteArray)]) ?_ 1 _ rfl;(with_reducible repeat (first|refine blk_drewN ?_ _|refine blk_drew ?_|refine blk_alloc ?_ _));refine blk_put (cs:=#[.string (⟨#[]⟩:ByteArray),.string (⟨#[]⟩:ByteArray)]) ?_ 0 _ rfl;(with_reducible repeat (first|refine blk_drewN ?_ _|refine blk_drew ?_|refine blk_alloc ?_ _));exact BK102.out) hb);have n1_:=Aside0.mk (below_step (by repeat (first|(with_reducible first|exact HB.out|apply bwA|apply pwbN|apply bw1|refine below_set ?_ GE102.out)|exact HB.out)) hb);clear BK102;clear HB;have BK102:=n0_;have HB:=n1_;clear n0_ n1_;(try clear hb);(try clear hb2);(try clear hk);(try clear hi);obtain ⟨hcz20_0,hcz20_1,hfz20_0,hfz20_1⟩:=blkA2 BK102.out;have p104:0 ≤ ((ji9):Int):=of_decide_eq_true (by first|(with_reducible assumption)|assumption);have q104:(ji9) < (l0.length:Int):=of_decide_eq_true (by first|(with_reducible assumption)|assumption);obtain ⟨ad104,e104,hx104_0,hx104_1⟩:=at_T78 HR0.out (ji9) p104 q104;obtain rfl:ad101 = ad104:=(by injection e104);replace hx104_0:=(HB.out.cell (World.block_lt_of_cell? w _ hx104_0)).trans hx104_0;replace hx104_1:=(HB.out.cell (World.block_lt_of_cell? w _ hx104_1)).trans hx104_1;replace p104:=eq_true p104;replace q104:=eq_true q104))
            repeat (go_quiet (first|((with_reducible refine gate_dst (N:=4) rfl ?_);refine box_event ?hg (N:=4) ?hd (cs:=#[.string (⟨#[]⟩:ByteArray),.string (⟨#[]⟩:ByteArray)]) (t:=78) ?hr ?_;(case hd=>rfl);(case hg=>rfl);(case hr=>first|(go_simp;done)|(go_simp;rfl));intro gb102 hg w17 hbox hb;have n0_:=Aside0.mk (below_step (by repeat (first|(with_reducible first|exact HB.out|apply bwA|apply pwbN|apply bw1)|exact HB.out)) hb);have n1_:=Aside0.mk (hbox);have n2_:=Aside0.mk ((by rw [hg];exact (below_size (by repeat (first|(with_reducible first|exact HB.out|apply bwA|apply pwbN|apply bw1)|exact HB.out))):w.heap.size ≤ gb102));have n3_:=Aside0.mk ((by rw [hg];exact (below_size (by repeat (first|(with_reducible first|exact HB.out|apply bwA|apply pwbN|apply bw1)|exact HB.out))):w.heap.size ≤ gb102));clear HB;have HB:=n0_;have BK102:=n1_;have GW102:=n2_;have GE102:=n3_;clear n0_ n1_ n2_ n3_;clear hb hbox hg;obtain ⟨hcz18_0,hcz18_1,hfz18_0,hfz18_1⟩:=blkA2 BK102.out)|(go_at_call 107;(with_reducible refine (record_Check.calls k1 ((rd_T78 l0 x11_1).f0) ((rd_T78 l0 x11_1).f1) t103 _ A6.out).mono ?_);rintro e w19 ⟨rfl,hb⟩;have n0_:=Aside0.mk (blk_below (g:=gb102) (o := .cells #[.string ((rd_T78 l0 x11_1).f0),.string ((rd_T78 l0 x11_1).f1)] 78 (0,0)) (by (with_reducible repeat (first|refine blk_drewN ?_ _|refine blk_drew ?_|refine blk_alloc ?_ _));refine blk_put (cs:=#[.string ((rd_T78 l0 x11_1).f0),.string (⟨#[]⟩:ByteArray)]) ?_ 1 _ rfl;(with_reducible repeat (first|refine blk_drewN ?_ _|refine blk_drew ?_|refine blk_alloc ?_ _));refine blk_put (cs:=#[.string (⟨#[]⟩:ByteArray),.string (⟨#[]⟩:ByteArray)]) ?_ 0 _ rfl;(with_reducible repeat (first|refine blk_drewN ?_ _|refine blk_drew ?_|refine blk_alloc ?_ _));exact BK102.out) hb);have n1_:=Aside0.mk (below_step (by repeat (first|(with_reducible first|exact HB.out|apply bwA|apply pwbN|apply bw1|refine below_set ?_ GE102.out)|exact HB.out)) hb);clear BK102;clear HB;have BK102:=n0_;have HB:=n1_;clear n0_ n1_;(try clear hb);(try clear hb2);(try clear hk);(try clear hi);obtain ⟨hcz20_0,hcz20_1,hfz20_0,hfz20_1⟩:=blkA2 BK102.out;have p104:0 ≤ ((ji9):Int):=of_decide_eq_true (by first|(with_reducible assumption)|assumption);have q104:(ji9) < (l0.length:Int):=of_decide_eq_true (by first|(with_reducible assumption)|assumption);obtain ⟨ad104,e104,hx104_0,hx104_1⟩:=at_T78 HR0.out (ji9) p104 q104;obtain rfl:ad101 = ad104:=(by injection e104);replace hx104_0:=(HB.out.cell (World.block_lt_of_cell? w _ hx104_0)).trans hx104_0;replace hx104_1:=(HB.out.cell (World.block_lt_of_cell? w _ hx104_1)).trans hx104_1;replace p104:=eq_true p104;replace q104:=eq_true q104));try go_wp2_with (first|((with_reducible refine gate_dst (N:=4) rfl ?_);refine box_event ?hg (N:=4) ?hd (cs:=#[.string (⟨#[]⟩:ByteArray),.string (⟨#[]⟩:ByteArray)]) (t:=78) ?hr ?_;(case hd=>rfl);(case hg=>rfl);(case hr=>first|(go_simp;done)|(go_simp;rfl));intro gb102 hg w17 hbox hb;have n0_:=Aside0.mk (below_step (by repeat (first|(with_reducible first|exact HB.out|apply bwA|apply pwbN|apply bw1)|exact HB.out)) hb);have n1_:=Aside0.mk (hbox);have n2_:=Aside0.mk ((by rw [hg];exact (below_size (by repeat (first|(with_reducible first|exact HB.out|apply bwA|apply pwbN|apply bw1)|exact HB.out))):w.heap.size ≤ gb102));have n3_:=Aside0.mk ((by rw [hg];exact (below_size (by repeat (first|(with_reducible first|exact HB.out|apply bwA|apply pwbN|apply bw1)|exact HB.out))):w.heap.size ≤ gb102));clear HB;have HB:=n0_;have BK102:=n1_;have GW102:=n2_;have GE102:=n3_;clear n0_ n1_ n2_ n3_;clear hb hbox hg;obtain ⟨hcz18_0,hcz18_1,hfz18_0,hfz18_1⟩:=blkA2 BK102.out)|(go_at_call 107;(with_reducible refine (record_Check.calls k1 ((rd_T78 l0 x11_1).f0) ((rd_T78 l0 x11_1).f1) t103 _ A6.out).mono ?_);rintro e w19 ⟨rfl,hb⟩;have n0_:=Aside0.mk (blk_below (g:=gb102) (o := .cells #[.string ((rd_T78 l0 x11_1).f0),.string ((rd_T78 l0 x11_1).f1)] 78 (0,0)) (by (with_reducible repeat (first|refine blk_drewN ?_ _|refine blk_drew ?_|refine blk_alloc ?_ _));refine blk_put (cs:=#[.string ((rd_T78 l0 x11_1).f0),.string (⟨#[]⟩:ByteArray)]) ?_ 1 _ rfl;(with_reducible repeat (first|refine blk_drewN ?_ _|refine blk_drew ?_|refine blk_alloc ?_ _));refine blk_put (cs:=#[.string (⟨#[]⟩:ByteArray),.string (⟨#[]⟩:ByteArray)]) ?_ 0 _ rfl;(with_reducible repeat (first|refine blk_drewN ?_ _|refine blk_drew ?_|refine blk_alloc ?_ _));exact BK102.out) hb);have n1_:=Aside0.mk (below_step (by repeat (first|(with_reducible first|exact HB.out|apply bwA|apply pwbN|apply bw1|refine below_set ?_ GE102.out)|exact HB.out)) hb);clear BK102;clear HB;have BK102:=n0_;have HB:=n1_;clear n0_ n1_;(try clear hb);(try clear hb2);(try clear hk);(try clear hi);obtain ⟨hcz20_0,hcz20_1,hfz20_0,hfz20_1⟩:=blkA2 BK102.out;have p104:0 ≤ ((ji9):Int):=of_decide_eq_true (by first|(with_reducible assumption)|assumption);have q104:(ji9) < (l0.length:Int):=of_decide_eq_true (by first|(with_reducible assumption)|assumption);obtain ⟨ad104,e104,hx104_0,hx104_1⟩:=at_T78 HR0.out (ji9) p104 q104;obtain rfl:ad101 = ad104:=(by injection e104);replace hx104_0:=(HB.out.cell (World.block_lt_of_cell? w _ hx104_0)).trans hx104_0;replace hx104_1:=(HB.out.cell (World.block_lt_of_cell? w _ hx104_1)).trans hx104_1;replace p104:=eq_true p104;replace q104:=eq_true q104)))
            go_ret
            exact ⟨by first|rfl|(simp [errW_none,errW_some] <;> rfl)|(simp only [← hji9];first|rfl|(simp [errW_none,errW_some] <;> rfl))|(simp [*,errW_none,errW_some] <;> rfl),by repeat (first|(with_reducible first|exact HB.out|apply bwA|apply pwbN|apply bw1|refine below_set ?_ GE102.out)|exact HB.out)⟩
          ·rw [if_neg c11] at H;exact absurd H (by simp)
         ·rw [if_neg c10] at H;exact absurd H (by simp)
        ·rw [if_neg c8] at H;have c8b0:decide (0 < x11_1) = false:=decide_eq_false c8;clear c8;have H':=Aside0.mk H;clear H;have p101:0 ≤ (x11_1:Int):=of_decide_eq_true (by first|(with_reducible assumption)|assumption);have q101:x11_1 < (l0.length:Int):=of_decide_eq_true (by first|(with_reducible assumption)|assumption);obtain ⟨ad101,e101,hx101_0,hx101_1⟩:=at_T78 HR0.out x11_1 p101 q101;cases e101;replace hx101_0:=(HB.out.cell (World.block_lt_of_cell? w _ hx101_0)).trans hx101_0;replace hx101_1:=(HB.out.cell (World.block_lt_of_cell? w _ hx101_1)).trans hx101_1;replace p101:=eq_true p101;replace q101:=eq_true q101;go_wp2_with (first|((with_reducible refine gate_dst (N:=4) rfl ?_);refine box_event ?hg (N:=4) ?hd (cs:=#[.string (⟨#[]⟩:ByteArray),.string (⟨#[]⟩:ByteArray)]) (t:=78) ?hr ?_;(case hd=>rfl);(case hg=>rfl);(case hr=>first|(go_simp;done)|(go_simp;rfl));intro gb102 hg w21 hbox hb;have n0_:=Aside0.mk (below_step (by repeat (first|(with_reducible first|exact HB.out|apply bwA|apply pwbN|apply bw1)|exact HB.out)) hb);have n1_:=Aside0.mk (hbox);have n2_:=Aside0.mk ((by rw [hg];exact (below_size (by repeat (first|(with_reducible first|exact HB.out|apply bwA|apply pwbN|apply bw1)|exact HB.out))):w.heap.size ≤ gb102));have n3_:=Aside0.mk ((by rw [hg];exact (below_size (by repeat (first|(with_reducible first|exact HB.out|apply bwA|apply pwbN|apply bw1)|exact HB.out))):w.heap.size ≤ gb102));clear HB;have HB:=n0_;have BK102:=n1_;have GW102:=n2_;have GE102:=n3_;clear n0_ n1_ n2_ n3_;clear hb hbox hg;obtain ⟨hcz22_0,hcz22_1,hfz22_0,hfz22_1⟩:=blkA2 BK102.out)|(go_at_call 107;(with_reducible refine (record_Check.calls k1 ((rd_T78 l0 x11_1).f0) ((rd_T78 l0 x11_1).f1) t103 _ A6.out).mono ?_);rintro e w23 ⟨rfl,hb⟩;have n0_:=Aside0.mk (blk_below (g:=gb102) (o := .cells #[.string ((rd_T78 l0 x11_1).f0),.string ((rd_T78 l0 x11_1).f1)] 78 (0,0)) (by (with_reducible repeat (first|refine blk_drewN ?_ _|refine blk_drew ?_|refine blk_alloc ?_ _));refine blk_put (cs:=#[.string ((rd_T78 l0 x11_1).f0),.string (⟨#[]⟩:ByteArray)]) ?_ 1 _ rfl;(with_reducible repeat (first|refine blk_drewN ?_ _|refine blk_drew ?_|refine blk_alloc ?_ _));refine blk_put (cs:=#[.string (⟨#[]⟩:ByteArray),.string (⟨#[]⟩:ByteArray)]) ?_ 0 _ rfl;(with_reducible repeat (first|refine blk_drewN ?_ _|refine blk_drew ?_|refine blk_alloc ?_ _));exact BK102.out) hb);have n1_:=Aside0.mk (below_step (by repeat (first|(with_reducible first|exact HB.out|apply bwA|apply pwbN|apply bw1|refine below_set ?_ GE102.out)|exact HB.out)) hb);clear BK102;clear HB;have BK102:=n0_;have HB:=n1_;clear n0_ n1_;(try clear hb);(try clear hb2);(try clear hk);(try clear hi)))
         repeat (go_quiet (first|((with_reducible refine gate_dst (N:=4) rfl ?_);refine box_event ?hg (N:=4) ?hd (cs:=#[.string (⟨#[]⟩:ByteArray),.string (⟨#[]⟩:ByteArray)]) (t:=78) ?hr ?_;(case hd=>rfl);(case hg=>rfl);(case hr=>first|(go_simp;done)|(go_simp;rfl));intro gb102 hg w21 hbox hb;have n0_:=Aside0.mk (below_step (by repeat (first|(with_reducible first|exact HB.out|apply bwA|apply pwbN|apply bw1)|exact HB.out)) hb);have n1_:=Aside0.mk (hbox);have n2_:=Aside0.mk ((by rw [hg];exact (below_size (by repeat (first|(with_reducible first|exact HB.out|apply bwA|apply pwbN|apply bw1)|exact HB.out))):w.heap.size ≤ gb102));have n3_:=Aside0.mk ((by rw [hg];exact (below_size (by repeat (first|(with_reducible first|exact HB.out|apply bwA|apply pwbN|apply bw1)|exact HB.out))):w.heap.size ≤ gb102));clear HB;have HB:=n0_;have BK102:=n1_;have GW102:=n2_;have GE102:=n3_;clear n0_ n1_ n2_ n3_;clear hb hbox hg;obtain ⟨hcz22_0,hcz22_1,hfz22_0,hfz22_1⟩:=blkA2 BK102.out)|(go_at_call 107;(with_reducible refine (record_Check.calls k1 ((rd_T78 l0 x11_1).f0) ((rd_T78 l0 x11_1).f1) t103 _ A6.out).mono ?_);rintro e w23 ⟨rfl,hb⟩;have n0_:=Aside0.mk (blk_below (g:=gb102) (o := .cells #[.string ((rd_T78 l0 x11_1).f0),.string ((rd_T78 l0 x11_1).f1)] 78 (0,0)) (by (with_reducible repeat (first|refine blk_drewN ?_ _|refine blk_drew ?_|refine blk_alloc ?_ _));refine blk_put (cs:=#[.string ((rd_T78 l0 x11_1).f0),.string (⟨#[]⟩:ByteArray)]) ?_ 1 _ rfl;(with_reducible repeat (first|refine blk_drewN ?_ _|refine blk_drew ?_|refine blk_alloc ?_ _));refine blk_put (cs:=#[.string (⟨#[]⟩:ByteArray),.string (⟨#[]⟩:ByteArray)]) ?_ 0 _ rfl;(with_reducible repeat (first|refine blk_drewN ?_ _|refine blk_drew ?_|refine blk_alloc ?_ _));exact BK102.out) hb);have n1_:=Aside0.mk (below_step (by repeat (first|(with_reducible first|exact HB.out|apply bwA|apply pwbN|apply bw1|refine below_set ?_ GE102.out)|exact HB.out)) hb);clear BK102;clear HB;have BK102:=n0_;have HB:=n1_;clear n0_ n1_;(try clear hb);(try clear hb2);(try clear hk);(try clear hi)));try go_wp2_with (first|((with_reducible refine gate_dst (N:=4) rfl ?_);refine box_event ?hg (N:=4) ?hd (cs:=#[.string (⟨#[]⟩:ByteArray),.string (⟨#[]⟩:ByteArray)]) (t:=78) ?hr ?_;(case hd=>rfl);(case hg=>rfl);(case hr=>first|(go_simp;done)|(go_simp;rfl));intro gb102 hg w21 hbox hb;have n0_:=Aside0.mk (below_step (by repeat (first|(with_reducible first|exact HB.out|apply bwA|apply pwbN|apply bw1)|exact HB.out)) hb);have n1_:=Aside0.mk (hbox);have n2_:=Aside0.mk ((by rw [hg];exact (below_size (by repeat (first|(with_reducible first|exact HB.out|apply bwA|apply pwbN|apply bw1)|exact HB.out))):w.heap.size ≤ gb102));have n3_:=Aside0.mk ((by rw [hg];exact (below_size (by repeat (first|(with_reducible first|exact HB.out|apply bwA|apply pwbN|apply bw1)|exact HB.out))):w.heap.size ≤ gb102));clear HB;have HB:=n0_;have BK102:=n1_;have GW102:=n2_;have GE102:=n3_;clear n0_ n1_ n2_ n3_;clear hb hbox hg;obtain ⟨hcz22_0,hcz22_1,hfz22_0,hfz22_1⟩:=blkA2 BK102.out)|(go_at_call 107;(with_reducible refine (record_Check.calls k1 ((rd_T78 l0 x11_1).f0) ((rd_T78 l0 x11_1).f1) t103 _ A6.out).mono ?_);rintro e w23 ⟨rfl,hb⟩;have n0_:=Aside0.mk (blk_below (g:=gb102) (o := .cells #[.string ((rd_T78 l0 x11_1).f0),.string ((rd_T78 l0 x11_1).f1)] 78 (0,0)) (by (with_reducible repeat (first|refine blk_drewN ?_ _|refine blk_drew ?_|refine blk_alloc ?_ _));refine blk_put (cs:=#[.string ((rd_T78 l0 x11_1).f0),.string (⟨#[]⟩:ByteArray)]) ?_ 1 _ rfl;(with_reducible repeat (first|refine blk_drewN ?_ _|refine blk_drew ?_|refine blk_alloc ?_ _));refine blk_put (cs:=#[.string (⟨#[]⟩:ByteArray),.string (⟨#[]⟩:ByteArray)]) ?_ 0 _ rfl;(with_reducible repeat (first|refine blk_drewN ?_ _|refine blk_drew ?_|refine blk_alloc ?_ _));exact BK102.out) hb);have n1_:=Aside0.mk (below_step (by repeat (first|(with_reducible first|exact HB.out|apply bwA|apply pwbN|apply bw1|refine below_set ?_ GE102.out)|exact HB.out)) hb);clear BK102;clear HB;have BK102:=n0_;have HB:=n1_;clear n0_ n1_;(try clear hb);(try clear hb2);(try clear hk);(try clear hi))))
         go_roundg k1
         case measure=>have:=HK1.out;omega
         case rel=>exact ⟨(wrap64 (x11_1 + 1)),(by first|rfl|(simp;done)|(simp [*];done)),H',⟨by have:=HK1.out;omega⟩,⟨by repeat (first|(with_reducible first|exact HB.out|apply bwA|apply pwbN|apply bw1|refine below_set ?_ GE102.out)|exact HB.out)⟩⟩
       ·rw [if_neg c7] at H;have c7b0:(t103 == 0) = false:=beq_eq_false_iff_ne.mpr c7;have c7b1:(t103 != 0) = true:=bne_iff_ne.mpr c7;obtain rfl:=Option.some.inj H;have p101:0 ≤ (x11_1:Int):=of_decide_eq_true (by first|(with_reducible assumption)|assumption);have q101:x11_1 < (l0.length:Int):=of_decide_eq_true (by first|(with_reducible assumption)|assumption);obtain ⟨ad101,e101,hx101_0,hx101_1⟩:=at_T78 HR0.out x11_1 p101 q101;cases e101;replace hx101_0:=(HB.out.cell (World.block_lt_of_cell? w _ hx101_0)).trans hx101_0;replace hx101_1:=(HB.out.cell (World.block_lt_of_cell? w _ hx101_1)).trans hx101_1;replace p101:=eq_true p101;replace q101:=eq_true q101;go_wp2_with (first|((with_reducible refine gate_dst (N:=4) rfl ?_);refine box_event ?hg (N:=4) ?hd (cs:=#[.string (⟨#[]⟩:ByteArray),.string (⟨#[]⟩:ByteArray)]) (t:=78) ?hr ?_;(case hd=>rfl);(case hg=>rfl);(case hr=>first|(go_simp;done)|(go_simp;rfl));intro gb102 hg w24 hbox hb;have n0_:=Aside0.mk (below_step (by repeat (first|(with_reducible first|exact HB.out|apply bwA|apply pwbN|apply bw1)|exact HB.out)) hb);have n1_:=Aside0.mk (hbox);have n2_:=Aside0.mk ((by rw [hg];exact (below_size (by repeat (first|(with_reducible first|exact HB.out|apply bwA|apply pwbN|apply bw1)|exact HB.out))):w.heap.size ≤ gb102));have n3_:=Aside0.mk ((by rw [hg];exact (below_size (by repeat (first|(with_reducible first|exact HB.out|apply bwA|apply pwbN|apply bw1)|exact HB.out))):w.heap.size ≤ gb102));clear HB;have HB:=n0_;have BK102:=n1_;have GW102:=n2_;have GE102:=n3_;clear n0_ n1_ n2_ n3_;clear hb hbox hg;obtain ⟨hcz25_0,hcz25_1,hfz25_0,hfz25_1⟩:=blkA2 BK102.out)|(go_at_call 107;(with_reducible refine (record_Check.calls k1 ((rd_T78 l0 x11_1).f0) ((rd_T78 l0 x11_1).f1) t103 _ A6.out).mono ?_);rintro e w26 ⟨rfl,hb⟩;have n0_:=Aside0.mk (blk_below (g:=gb102) (o := .cells #[.string ((rd_T78 l0 x11_1).f0),.string ((rd_T78 l0 x11_1).f1)] 78 (0,0)) (by (with_reducible repeat (first|refine blk_drewN ?_ _|refine blk_drew ?_|refine blk_alloc ?_ _));refine blk_put (cs:=#[.string ((rd_T78 l0 x11_1).f0),.string (⟨#[]⟩:ByteArray)]) ?_ 1 _ rfl;(with_reducible repeat (first|refine blk_drewN ?_ _|refine blk_drew ?_|refine blk_alloc ?_ _));refine blk_put (cs:=#[.string (⟨#[]⟩:ByteArray),.string (⟨#[]⟩:ByteArray)]) ?_ 0 _ rfl;(with_reducible repeat (first|refine blk_drewN ?_ _|refine blk_drew ?_|refine blk_alloc ?_ _));exact BK102.out) hb);have n1_:=Aside0.mk (below_step (by repeat (first|(with_reducible first|exact HB.out|apply bwA|apply pwbN|apply bw1|refine below_set ?_ GE102.out)|exact HB.out)) hb);clear BK102;clear HB;have BK102:=n0_;have HB:=n1_;clear n0_ n1_;(try clear hb);(try clear hb2);(try clear hk);(try clear hi)))
        repeat (go_quiet (first|((with_reducible refine gate_dst (N:=4) rfl ?_);refine box_event ?hg (N:=4) ?hd (cs:=#[.string (⟨#[]⟩:ByteArray),.string (⟨#[]⟩:ByteArray)]) (t:=78) ?hr ?_;(case hd=>rfl);(case hg=>rfl);(case hr=>first|(go_simp;done)|(go_simp;rfl));intro gb102 hg w24 hbox hb;have n0_:=Aside0.mk (below_step (by repeat (first|(with_reducible first|exact HB.out|apply bwA|apply pwbN|apply bw1)|exact HB.out)) hb);have n1_:=Aside0.mk (hbox);have n2_:=Aside0.mk ((by rw [hg];exact (below_size (by repeat (first|(with_reducible first|exact HB.out|apply bwA|apply pwbN|apply bw1)|exact HB.out))):w.heap.size ≤ gb102));have n3_:=Aside0.mk ((by rw [hg];exact (below_size (by repeat (first|(with_reducible first|exact HB.out|apply bwA|apply pwbN|apply bw1)|exact HB.out))):w.heap.size ≤ gb102));clear HB;have HB:=n0_;have BK102:=n1_;have GW102:=n2_;have GE102:=n3_;clear n0_ n1_ n2_ n3_;clear hb hbox hg;obtain ⟨hcz25_0,hcz25_1,hfz25_0,hfz25_1⟩:=blkA2 BK102.out)|(go_at_call 107;(with_reducible refine (record_Check.calls k1 ((rd_T78 l0 x11_1).f0) ((rd_T78 l0 x11_1).f1) t103 _ A6.out).mono ?_);rintro e w26 ⟨rfl,hb⟩;have n0_:=Aside0.mk (blk_below (g:=gb102) (o := .cells #[.string ((rd_T78 l0 x11_1).f0),.string ((rd_T78 l0 x11_1).f1)] 78 (0,0)) (by (with_reducible repeat (first|refine blk_drewN ?_ _|refine blk_drew ?_|refine blk_alloc ?_ _));refine blk_put (cs:=#[.string ((rd_T78 l0 x11_1).f0),.string (⟨#[]⟩:ByteArray)]) ?_ 1 _ rfl;(with_reducible repeat (first|refine blk_drewN ?_ _|refine blk_drew ?_|refine blk_alloc ?_ _));refine blk_put (cs:=#[.string (⟨#[]⟩:ByteArray),.string (⟨#[]⟩:ByteArray)]) ?_ 0 _ rfl;(with_reducible repeat (first|refine blk_drewN ?_ _|refine blk_drew ?_|refine blk_alloc ?_ _));exact BK102.out) hb);have n1_:=Aside0.mk (below_step (by repeat (first|(with_reducible first|exact HB.out|apply bwA|apply pwbN|apply bw1|refine below_set ?_ GE102.out)|exact HB.out)) hb);clear BK102;clear HB;have BK102:=n0_;have HB:=n1_;clear n0_ n1_;(try clear hb);(try clear hb2);(try clear hk);(try clear hi)));try go_wp2_with (first|((with_reducible refine gate_dst (N:=4) rfl ?_);refine box_event ?hg (N:=4) ?hd (cs:=#[.string (⟨#[]⟩:ByteArray),.string (⟨#[]⟩:ByteArray)]) (t:=78) ?hr ?_;(case hd=>rfl);(case hg=>rfl);(case hr=>first|(go_simp;done)|(go_simp;rfl));intro gb102 hg w24 hbox hb;have n0_:=Aside0.mk (below_step (by repeat (first|(with_reducible first|exact HB.out|apply bwA|apply pwbN|apply bw1)|exact HB.out)) hb);have n1_:=Aside0.mk (hbox);have n2_:=Aside0.mk ((by rw [hg];exact (below_size (by repeat (first|(with_reducible first|exact HB.out|apply bwA|apply pwbN|apply bw1)|exact HB.out))):w.heap.size ≤ gb102));have n3_:=Aside0.mk ((by rw [hg];exact (below_size (by repeat (first|(with_reducible first|exact HB.out|apply bwA|apply pwbN|apply bw1)|exact HB.out))):w.heap.size ≤ gb102));clear HB;have HB:=n0_;have BK102:=n1_;have GW102:=n2_;have GE102:=n3_;clear n0_ n1_ n2_ n3_;clear hb hbox hg;obtain ⟨hcz25_0,hcz25_1,hfz25_0,hfz25_1⟩:=blkA2 BK102.out)|(go_at_call 107;(with_reducible refine (record_Check.calls k1 ((rd_T78 l0 x11_1).f0) ((rd_T78 l0 x11_1).f1) t103 _ A6.out).mono ?_);rintro e w26 ⟨rfl,hb⟩;have n0_:=Aside0.mk (blk_below (g:=gb102) (o := .cells #[.string ((rd_T78 l0 x11_1).f0),.string ((rd_T78 l0 x11_1).f1)] 78 (0,0)) (by (with_reducible repeat (first|refine blk_drewN ?_ _|refine blk_drew ?_|refine blk_alloc ?_ _));refine blk_put (cs:=#[.string ((rd_T78 l0 x11_1).f0),.string (⟨#[]⟩:ByteArray)]) ?_ 1 _ rfl;(with_reducible repeat (first|refine blk_drewN ?_ _|refine blk_drew ?_|refine blk_alloc ?_ _));refine blk_put (cs:=#[.string (⟨#[]⟩:ByteArray),.string (⟨#[]⟩:ByteArray)]) ?_ 0 _ rfl;(with_reducible repeat (first|refine blk_drewN ?_ _|refine blk_drew ?_|refine blk_alloc ?_ _));exact BK102.out) hb);have n1_:=Aside0.mk (below_step (by repeat (first|(with_reducible first|exact HB.out|apply bwA|apply pwbN|apply bw1|refine below_set ?_ GE102.out)|exact HB.out)) hb);clear BK102;clear HB;have BK102:=n0_;have HB:=n1_;clear n0_ n1_;(try clear hb);(try clear hb2);(try clear hk);(try clear hi))))
        go_ret
        exact ⟨by first|rfl|(simp [errW_none,errW_some] <;> rfl)|(simp [*,errW_none,errW_some] <;> rfl),by repeat (first|(with_reducible first|exact HB.out|apply bwA|apply pwbN|apply bw1|refine below_set ?_ GE102.out)|exact HB.out)⟩
      ·rw [if_neg c5] at H;exact absurd H (by simp)
     ·rw [if_neg c4] at H;exact absurd H (by simp)
    ·rw [if_neg c3] at H;have c3b0:decide (x11_1 < (l0.length:Int)) = false:=decide_eq_false c3;clear c3;obtain rfl:=Option.some.inj H;go_wp2;repeat (go_quiet (fail);try go_wp2)
     go_ret
     exact ⟨by first|rfl|(simp [errW_none,errW_some] <;> rfl)|(simp [*,errW_none,errW_some] <;> rfl),by repeat (first|(with_reducible first|exact HB.out|apply bwA|apply pwbN|apply bw1)|exact HB.out)⟩
end Go.Proofs.YtenbelecmmpdgaaGreatDoor.All
end
