/- Made by programs of the prover: walks of Go functions, the words that they use, and plain laws, each text in a section of its own; no condition of its own. -/
import Derived.Test.YtenbelecmmpdgaaGreatDoorZWriteArchives2
import Derived.Test.YtenbelecmmpdgaaGreatDoorZWriteArchives7
import Derived.Test.YtenbelecmmpdgaaGreatDoorZWriteArchives8
section
namespace Go.Proofs.YtenbelecmmpdgaaGreatDoor.All
open Go.RowKit Go.Proofs.YtenbelecmmpdgaaGreatDoorW.PrintWords Go.Proofs.YtenbelecmmpdgaaGreatDoorW.PrintLast Go.Proofs.YtenbelecmmpdgaaGreatDoorW.PrintMore
open Go.Proofs.YtenbelecmmpdgaaGreatDoorW.Mine
attribute [local go_sem] gtr_string leq_string geq_string
attribute [local go_sem] max2_int min2_int max_two min_two max_three min_three max_four min_four
set_option linter.unusedVariables false
set_option linter.unusedSimpArgs false
mutual
def creelref_FieldText.j0:Nat→ByteArray→Int→Bool→Bool→Option (ByteArray × Int)
 | 0,_,_,_,_=>none
 | k + 1,x0,x1,x2,x13=>if x13 = true then (some ((⟨#[]⟩:ByteArray),4)) else (if (x0.size:Int) > x1 then (creelref_FieldText.j1 k x0 x1 true) else (if x2 = true then (creelref_FieldText.j1 k x0 x1 false) else (creelref_FieldText.j1 k x0 x1 ((x0.size:Int) == x1))))
def creelref_FieldText.j1:Nat→ByteArray→Int→Bool→Option (ByteArray × Int)
 | 0,_,_,_=>none
 | k + 1,x0,x1,x27=>if x27 = true then (some ((⟨#[]⟩:ByteArray),1)) else ((creelref_has.f k x0 0).bind fun t101=>(if t101 = true then (some ((⟨#[]⟩:ByteArray),3)) else ((creelref_zeros.f k (wrap64 (x1 - (x0.size:Int)))).bind fun t102=>(if x0.size + t102.size ≤ 9223372036854775807 then (some (x0 ++ t102,0)) else (none)))))
end
def creelref_FieldText.f (k:Nat) (a0:ByteArray) (a1:Int) (a2:Bool):Option (ByteArray × Int):=if a1 < 1 then (creelref_FieldText.j0 k a0 a1 a2 true) else (creelref_FieldText.j0 k a0 a1 a2 (decide (a1 > 512)))
set_option maxHeartbeats 8000000 in
set_option maxRecDepth 100000 in
theorem creelref_FieldText.calls (k:Nat) (a0:ByteArray) (a1:Int) (a2:Bool) (r1:ByteArray) (r2:Int) (w:World) (h:creelref_FieldText.f k a0 a1 a2 = some (r1,r2)) :
 Calls Tryz.prog 79 #[.string a0,.int .i64 a1,.bool a2] w fun e w'=>e = .returned (.tuple #[.string r1,.int .i64 r2])∧Drawn0 w w':=by
 have H:(if a1 < 1 then (creelref_FieldText.j0 k a0 a1 a2 true) else (creelref_FieldText.j0 k a0 a1 a2 (decide (a1 > 512)))) = some (r1,r2):=h;clear h;have HC4:=Aside0.mk H;clear H;go_enter Tryz.func79,Tryz.ntmps79;go_upto_region 1 with (fail)
 go_cut [13] (fun v13 wc=>∃ (kq:Nat) (x13_3:Bool),v13 = .bool x13_3∧Aside0 (creelref_FieldText.j0 kq a0 a1 a2 x13_3 = some (r1,r2))∧Aside0 (kq ≤ k)∧Drawn0 w wc)
 case first =>
  have H:=HC4.out;clear HC4;by_cases c5:a1 < 1
  ·rw [if_pos c5] at H;have c5b0:decide (a1 < 1) = true:=decide_eq_true c5;clear c5;(first|rw [c5b0]|(simp only [i64_w,i32_w];rw [c5b0])|skip);have H':=Aside0.mk H;clear H;go_wp2;go_meet
   case rel=>exact ⟨_,(true),(by first|rfl|(simp;done)|(simp [*];done)),H',⟨by first|omega|exact Nat.le_refl _⟩,by repeat (first|exact Drawn0.refl _|apply Drawn0.step)⟩
  ·rw [if_neg c5] at H;have c5b0:decide (a1 < 1) = false:=decide_eq_false c5;clear c5;(first|rw [c5b0]|(simp only [i64_w,i32_w];rw [c5b0])|skip);have H':=Aside0.mk H;clear H;go_wp2;go_meet
   case rel=>exact ⟨_,(decide (a1 > 512)),(by first|rfl|(simp;done)|(simp [*];done)),H',⟨by first|omega|exact Nat.le_refl _⟩,by repeat (first|exact Drawn0.refl _|apply Drawn0.step)⟩
 case rest =>
  clear HC4;obtain ⟨kq,x13_3,rfl,HA,HJ3,⟨mc3,rfl⟩⟩:=hcut;cases kq with
  | zero=>exact absurd HA.out (by simp [creelref_FieldText.j0])
  | succ kj3 =>
   have H:=HA.out;clear HA;simp only [creelref_FieldText.j0] at H;by_cases c6:x13_3 = true
   ·subst c6;have H1:(some ((⟨#[]⟩:ByteArray),4)) = some (r1,r2):=by rw [if_pos rfl] at H;exact H
    clear H;have H:=H1;clear H1;simp only [Option.some.injEq,Prod.mk.injEq] at H;obtain ⟨rfl,rfl⟩:=H;go_wp2;go_ret2
    exact ⟨by first|rfl|(simp;done)|(simp [*];done),by repeat (first|exact Drawn0.refl _|apply Drawn0.step)⟩
   ·replace c6:=Bool.eq_false_iff.mpr c6;subst c6;have H1:(if (a0.size:Int) > a1 then (creelref_FieldText.j1 kj3 a0 a1 true) else (if a2 = true then (creelref_FieldText.j1 kj3 a0 a1 false) else (creelref_FieldText.j1 kj3 a0 a1 ((a0.size:Int) == a1)))) = some (r1,r2):=by rw [if_neg (show ¬ (false = true) by decide)] at H;exact H
    clear H;have H:=H1;clear H1;have HC7:=Aside0.mk H;clear H;go_upto_region 3 with (fail)
    go_cut [27] (fun v27 wc=>∃ (kq:Nat) (x27_6:Bool),v27 = .bool x27_6∧Aside0 (creelref_FieldText.j1 kq a0 a1 x27_6 = some (r1,r2))∧Aside0 (kq ≤ kj3)∧Drawn0 w wc)
    case first =>
     have H:=HC7.out;clear HC7;by_cases c8:(a0.size:Int) > a1
     ·rw [if_pos c8] at H;have c8b0:decide (a1 < (a0.size:Int)) = true:=decide_eq_true c8;clear c8;(first|rw [c8b0]|(simp only [i64_w,i32_w];rw [c8b0])|skip);have H':=Aside0.mk H;clear H;go_wp2;go_meet
      case rel=>exact ⟨_,(true),(by first|rfl|(simp;done)|(simp [*];done)),H',⟨by have:=HJ3.out;first|omega|exact Nat.le_refl _⟩,by repeat (first|exact Drawn0.refl _|apply Drawn0.step)⟩
     ·rw [if_neg c8] at H;have c8b0:decide (a1 < (a0.size:Int)) = false:=decide_eq_false c8;clear c8;(first|rw [c8b0]|(simp only [i64_w,i32_w];rw [c8b0])|skip);by_cases c9:a2 = true
      ·subst c9;have H1:(creelref_FieldText.j1 kj3 a0 a1 false) = some (r1,r2):=by rw [if_pos rfl] at H;exact H
       clear H;have H:=H1;clear H1;have H':=Aside0.mk H;clear H;go_wp2;go_meet
       case rel=>exact ⟨_,(false),(by first|rfl|(simp;done)|(simp [*];done)),H',⟨by have:=HJ3.out;first|omega|exact Nat.le_refl _⟩,by repeat (first|exact Drawn0.refl _|apply Drawn0.step)⟩
      ·replace c9:=Bool.eq_false_iff.mpr c9;subst c9;have H1:(creelref_FieldText.j1 kj3 a0 a1 ((a0.size:Int) == a1)) = some (r1,r2):=by rw [if_neg (show ¬ (false = true) by decide)] at H;exact H
       clear H;have H:=H1;clear H1;have H':=Aside0.mk H;clear H;go_wp2;go_meet
       case rel=>exact ⟨_,(((a0.size:Int) == a1)),(by first|rfl|(simp;done)|(simp [*];done)),H',⟨by have:=HJ3.out;first|omega|exact Nat.le_refl _⟩,by repeat (first|exact Drawn0.refl _|apply Drawn0.step)⟩
    case rest =>
     clear HC7;try clear c6
     obtain ⟨kq,x27_6,rfl,HA,HJ6,⟨mc6,rfl⟩⟩:=hcut;cases kq with
     | zero=>exact absurd HA.out (by simp [creelref_FieldText.j1])
     | succ kj6 =>
      have H:=HA.out;clear HA;simp only [creelref_FieldText.j1] at H;by_cases c10:x27_6 = true
      ·subst c10;have H1:(some ((⟨#[]⟩:ByteArray),1)) = some (r1,r2):=by rw [if_pos rfl] at H;exact H
       clear H;have H:=H1;clear H1;simp only [Option.some.injEq,Prod.mk.injEq] at H;obtain ⟨rfl,rfl⟩:=H;go_wp2;go_ret2
       exact ⟨by first|rfl|(simp;done)|(simp [*];done),by repeat (first|exact Drawn0.refl _|apply Drawn0.step)⟩
      ·replace c10:=Bool.eq_false_iff.mpr c10;subst c10;have H1:((creelref_has.f kj6 a0 0).bind fun t101=>(if t101 = true then (some ((⟨#[]⟩:ByteArray),3)) else ((creelref_zeros.f kj6 (wrap64 (a1 - (a0.size:Int)))).bind fun t102=>(if a0.size + t102.size ≤ 9223372036854775807 then (some (a0 ++ t102,0)) else (none))))) = some (r1,r2):=by rw [if_neg (show ¬ (false = true) by decide)] at H;exact H
       clear H;have H:=H1;clear H1;replace H:=Option.bind_eq_some_iff.mp H;obtain ⟨t101,A110,H⟩:=H;replace H:(if t101 = true then (some ((⟨#[]⟩:ByteArray),3)) else ((creelref_zeros.f kj6 (wrap64 (a1 - (a0.size:Int)))).bind fun t102=>(if a0.size + t102.size ≤ 9223372036854775807 then (some (a0 ++ t102,0)) else (none)))) = some (r1,r2):=H;have A11:=Aside0.mk A110;clear A110;by_cases c12:t101 = true
       ·subst c12;have H1:(some ((⟨#[]⟩:ByteArray),3)) = some (r1,r2):=by rw [if_pos rfl] at H;exact H
        clear H;have H:=H1;clear H1;simp only [Option.some.injEq,Prod.mk.injEq] at H;obtain ⟨rfl,rfl⟩:=H;go_wp2_with (first|((with_reducible refine gate_callee (f:=77) rfl ?_);refine goesL_ (some 29) rfl rfl Tryz.func77 (by kernel_rfl) rfl #[.string a0,.int .u8 0] rfl (by (try simp only [List.map_toArray,List.map_cons,List.map_nil]);first|done|rfl|(simp only [List.length_drop,List.length_take];rfl)) ?_;(with_reducible refine (creelref_has.calls kj6 a0 0 true _ A11.out).mono ?_);rintro e w' ⟨rfl,⟨nd,rfl⟩⟩;refine ⟨_,rfl,?_⟩))
        go_ret2
        exact ⟨by first|rfl|(simp;done)|(simp [*];done),by repeat (first|exact Drawn0.refl _|apply Drawn0.step)⟩
       ·replace c12:=Bool.eq_false_iff.mpr c12;subst c12;have H1:((creelref_zeros.f kj6 (wrap64 (a1 - (a0.size:Int)))).bind fun t102=>(if a0.size + t102.size ≤ 9223372036854775807 then (some (a0 ++ t102,0)) else (none))) = some (r1,r2):=by rw [if_neg (show ¬ (false = true) by decide)] at H;exact H
        clear H;have H:=H1;clear H1;replace H:=Option.bind_eq_some_iff.mp H;obtain ⟨t102,A130,H⟩:=H;replace H:(if a0.size + t102.size ≤ 9223372036854775807 then (some (a0 ++ t102,0)) else (none)) = some (r1,r2):=H;have A13:=Aside0.mk A130;clear A130;by_cases c14:a0.size + t102.size ≤ 9223372036854775807
        ·rw [if_pos c14] at H;have c14b0:=eq_true c14;have c14b1:decide (a0.size + t102.size ≤ 9223372036854775807) = true:=decide_eq_true c14;try have c14b2:(9223372036854775807 < a0.size + t102.size) = False:=eq_false (Nat.not_lt.2 c14)
         simp only [Option.some.injEq,Prod.mk.injEq] at H;obtain ⟨rfl,rfl⟩:=H;go_wp2_with (first|((with_reducible refine gate_callee (f:=77) rfl ?_);refine goesL_ (some 29) rfl rfl Tryz.func77 (by kernel_rfl) rfl #[.string a0,.int .u8 0] rfl (by (try simp only [List.map_toArray,List.map_cons,List.map_nil]);first|done|rfl|(simp only [List.length_drop,List.length_take];rfl)) ?_;(with_reducible refine (creelref_has.calls kj6 a0 0 false _ A11.out).mono ?_);rintro e w' ⟨rfl,⟨nd,rfl⟩⟩;refine ⟨_,rfl,?_⟩)|((with_reducible refine gate_callee (f:=50) rfl ?_);refine goesL_ (some 35) rfl rfl Tryz.func50 (by kernel_rfl) rfl #[.int .i64 (wrap64 (a1 - (a0.size:Int)))] rfl (by (try simp only [List.map_toArray,List.map_cons,List.map_nil]);first|done|rfl|(simp only [List.length_drop,List.length_take];rfl)) ?_;(with_reducible refine (creelref_zeros.calls kj6 (wrap64 (a1 - (a0.size:Int))) t102 _ A13.out).mono ?_);rintro e w' ⟨rfl,⟨nd,rfl⟩⟩;refine ⟨_,rfl,?_⟩))
         go_ret2
         exact ⟨by first|rfl|(simp;done)|(simp [*];done),by repeat (first|exact Drawn0.refl _|apply Drawn0.step)⟩
        ·rw [if_neg c14] at H;exact absurd H (by simp)
end Go.Proofs.YtenbelecmmpdgaaGreatDoor.All
end
section
namespace Go.Proofs.YtenbelecmmpdgaaGreatDoor.All
open Go.RowKit Go.Proofs.YtenbelecmmpdgaaGreatDoorW.PrintWords Go.Proofs.YtenbelecmmpdgaaGreatDoorW.PrintLast Go.Proofs.YtenbelecmmpdgaaGreatDoorW.PrintMore
open Go.Proofs.YtenbelecmmpdgaaGreatDoorW.Mine
attribute [local go_sem] gtr_string leq_string geq_string
attribute [local go_sem] max2_int min2_int max_two min_two max_three min_three max_four min_four
set_option linter.unusedVariables false
set_option linter.unusedSimpArgs false
def creelref_power.l0:Nat→Int→Int→Int→Option (Int)
 | 0,_,_,_=>none
 | k + 1,x0,x3,x4=>if x4 < x0 then (creelref_power.l0 k x0 (wrap64 (x3 * 8)) (wrap64 (x4 + 1))) else (some x3)
def creelref_power.f (k:Nat) (a0:Int):Option (Int):=creelref_power.l0 k a0 1 0
theorem creelref_power.mono_l:∀ k,(∀ y0 y1 y2,LeO (creelref_power.l0 k y0 y1 y2) (creelref_power.l0 (k + 1) y0 y1 y2))
 | 0=>fun _ _ _ r h=>by simp [creelref_power.l0] at h
 | k + 1=>by
  have ih0:=creelref_power.mono_l k
  ·intro y0 y1 y2
   unfold creelref_power.l0
   repeat' first
   | (with_reducible exact ih0 _ _ _)
   | (with_reducible exact LeO.refl _)
   | (with_reducible exact LeO.none _)
   | (with_reducible refine LeO.ite ?_ ?_)
   | (with_reducible refine LeO.bind ?_ (fun _=>?_))
   | exact ih0 _ _ _
   | exact LeO.none _
   | refine LeO.ite ?_ ?_
   | refine LeO.bind ?_ (fun _=>?_)
theorem creelref_power.mono:∀ a0 k,LeO (creelref_power.f k a0) (creelref_power.f (k + 1) a0):=by
 intro a0 k;have ih0:=creelref_power.mono_l k;unfold creelref_power.f;repeat' first
  | (with_reducible exact ih0 _ _ _)
  | (with_reducible exact LeO.refl _)
  | (with_reducible exact LeO.none _)
  | (with_reducible refine LeO.ite ?_ ?_)
  | (with_reducible refine LeO.bind ?_ (fun _=>?_))
  | exact ih0 _ _ _
  | exact LeO.none _
  | refine LeO.ite ?_ ?_
  | refine LeO.bind ?_ (fun _=>?_)
set_option maxHeartbeats 8000000 in
set_option maxRecDepth 100000 in
theorem creelref_power.calls (k:Nat) (a0:Int) (r:Int) (w:World) (h:creelref_power.f k a0 = some r) :
 Calls Tryz.prog 164 #[.int .i64 a0] w fun e w'=>e = .returned (.int .i64 r)∧Drawn0 w w':=by
 have H:(creelref_power.l0 k a0 1 0) = some r:=h;clear h;have H':=Aside0.mk H;clear H;go_enter Tryz.func164,Tryz.ntmps164;go_wp2;go_loopg [3,4] k (fun kq v3 v4 w'=>∃ (x3_1:Int) (x4_1:Int),v3 = .int .i64 x3_1∧v4 = .int .i64 x4_1∧Aside0 (creelref_power.l0 kq a0 x3_1 x4_1 = some r)∧Aside0 (kq ≤ k)∧Drawn0 w w')
 case atStart=>exact ⟨(1),(0),(by first|rfl|(simp;done)|(simp [*];done)),(by first|rfl|(simp;done)|(simp [*];done)),H',⟨Nat.le_refl _⟩,by repeat (first|exact Drawn0.refl _|apply Drawn0.step)⟩
 case round =>
  clear H';obtain ⟨x3_1,x4_1,rfl,rfl,HA,HK1,⟨m1,rfl⟩⟩:=hrel;cases gk with
  | zero=>exact absurd HA.out (by simp [creelref_power.l0])
  | succ k1 =>
   have H:=HA.out;clear HA;simp only [creelref_power.l0] at H;by_cases c2:x4_1 < a0
   ·rw [if_pos c2] at H;have c2b0:decide (x4_1 < a0) = true:=decide_eq_true c2;clear c2;have H':=Aside0.mk H;clear H;go_wp2;go_roundg k1
    case measure=>have:=HK1.out;omega
    case rel=>exact ⟨(wrap64 (x3_1 * 8)),(wrap64 (x4_1 + 1)),(by first|rfl|(simp;done)|(simp [*];done)),(by first|rfl|(simp;done)|(simp [*];done)),H',⟨by have:=HK1.out;omega⟩,by repeat (first|exact Drawn0.refl _|apply Drawn0.step)⟩
   ·rw [if_neg c2] at H;have c2b0:decide (x4_1 < a0) = false:=decide_eq_false c2;clear c2;obtain rfl:=Option.some.inj H;go_wp2;go_ret
    exact ⟨by first|rfl|(simp;done)|(simp [*];done),by repeat (first|exact Drawn0.refl _|apply Drawn0.step)⟩
def creelref_OctalMost.f (k:Nat) (a0:Int):Option (Int × Int):=if a0 < 2 then (some (0,4)) else (if a0 > 12 then (some (0,4)) else ((creelref_power.f k (wrap64 (a0 - 1))).bind fun t101=>(some (wrap64 (t101 - 1),0))))
theorem creelref_OctalMost.mono:∀ a0 k,LeO (creelref_OctalMost.f k a0) (creelref_OctalMost.f (k + 1) a0):=by
 intro a0 k;unfold creelref_OctalMost.f;repeat' first
  | (with_reducible exact creelref_power.mono _ _)
  | (with_reducible exact LeO.refl _)
  | (with_reducible exact LeO.none _)
  | (with_reducible refine LeO.ite ?_ ?_)
  | (with_reducible refine LeO.bind ?_ (fun _=>?_))
  | exact creelref_power.mono _ _
  | exact LeO.none _
  | refine LeO.ite ?_ ?_
  | refine LeO.bind ?_ (fun _=>?_)
set_option maxHeartbeats 8000000 in
set_option maxRecDepth 100000 in
theorem creelref_OctalMost.calls (k:Nat) (a0:Int) (r1:Int) (r2:Int) (w:World) (h:creelref_OctalMost.f k a0 = some (r1,r2)) :
 Calls Tryz.prog 117 #[.int .i64 a0] w fun e w'=>e = .returned (.tuple #[.int .i64 r1,.int .i64 r2])∧Drawn0 w w':=by
 have H:(if a0 < 2 then (some (0,4)) else (if a0 > 12 then (some (0,4)) else ((creelref_power.f k (wrap64 (a0 - 1))).bind fun t101=>(some (wrap64 (t101 - 1),0))))) = some (r1,r2):=h;clear h;by_cases c2:a0 < 2
 ·rw [if_pos c2] at H;have c2b0:decide (a0 < 2) = true:=decide_eq_true c2;clear c2;simp only [Option.some.injEq,Prod.mk.injEq] at H;obtain ⟨rfl,rfl⟩:=H;go_enter Tryz.func117,Tryz.ntmps117;go_wp2;go_ret2
  exact ⟨by first|rfl|(simp;done)|(simp [*];done),by repeat (first|exact Drawn0.refl _|apply Drawn0.step)⟩
 ·rw [if_neg c2] at H;have c2b0:decide (a0 < 2) = false:=decide_eq_false c2;clear c2;by_cases c3:a0 > 12
  ·rw [if_pos c3] at H;have c3b0:decide (12 < a0) = true:=decide_eq_true c3;clear c3;simp only [Option.some.injEq,Prod.mk.injEq] at H;obtain ⟨rfl,rfl⟩:=H;go_enter Tryz.func117,Tryz.ntmps117;go_wp2;go_ret2
   exact ⟨by first|rfl|(simp;done)|(simp [*];done),by repeat (first|exact Drawn0.refl _|apply Drawn0.step)⟩
  ·rw [if_neg c3] at H;have c3b0:decide (12 < a0) = false:=decide_eq_false c3;clear c3;replace H:=Option.bind_eq_some_iff.mp H;obtain ⟨t101,A40,H⟩:=H;replace H:(some (wrap64 (t101 - 1),0)) = some (r1,r2):=H;have A4:=Aside0.mk A40;clear A40;simp only [Option.some.injEq,Prod.mk.injEq] at H;obtain ⟨rfl,rfl⟩:=H;go_enter Tryz.func117,Tryz.ntmps117;go_wp2_with (first|((with_reducible refine gate_callee (f:=164) rfl ?_);refine goesL_ (some 12) rfl rfl Tryz.func164 (by kernel_rfl) rfl #[.int .i64 (wrap64 (a0 - 1))] rfl (by (try simp only [List.map_toArray,List.map_cons,List.map_nil]);first|done|rfl|(simp only [List.length_drop,List.length_take];rfl)) ?_;(with_reducible refine (creelref_power.calls k (wrap64 (a0 - 1)) t101 _ A4.out).mono ?_);rintro e w' ⟨rfl,⟨nd,rfl⟩⟩;refine ⟨_,rfl,?_⟩))
   go_ret2
   exact ⟨by first|rfl|(simp;done)|(simp [*];done),by repeat (first|exact Drawn0.refl _|apply Drawn0.step)⟩
end Go.Proofs.YtenbelecmmpdgaaGreatDoor.All
end
section
namespace Go.Proofs.YtenbelecmmpdgaaGreatDoor.All
open Go.RowKit Go.Proofs.YtenbelecmmpdgaaGreatDoorW.PrintWords Go.Proofs.YtenbelecmmpdgaaGreatDoorW.PrintLast Go.Proofs.YtenbelecmmpdgaaGreatDoorW.PrintMore
open Go.Proofs.YtenbelecmmpdgaaGreatDoorW.Mine
attribute [local go_sem] gtr_string leq_string geq_string
attribute [local go_sem] max2_int min2_int max_two min_two max_three min_three max_four min_four
set_option linter.unusedVariables false
set_option linter.unusedSimpArgs false
mutual
def creelref_OctalText.j0:Nat→Int→Int→Bool→Option (ByteArray × Int)
 | 0,_,_,_=>none
 | k + 1,x0,x1,x23=>if x23 = true then (some ((⟨#[]⟩:ByteArray),4)) else (creelref_OctalText.l0 k x0 x1 (⟨#[]⟩:ByteArray))
def creelref_OctalText.l0:Nat→Int→Int→ByteArray→Option (ByteArray × Int)
 | 0,_,_,_=>none
 | k + 1,x0,x1,x8=>if (x8.size:Int) < (wrap64 (x1 - 1)) then (if 0 ≤ (Int.tmod x0 8) then (if (Int.tmod x0 8) ≤ (wrap64 ((Int.tmod x0 8) + 1)) then (if (wrap64 ((Int.tmod x0 8) + 1)) ≤ 8 then (if ((⟨#[48,49,50,51,52,53,54,55]⟩:ByteArray).extract ((Int.tmod x0 8):Int).toNat ((wrap64 ((Int.tmod x0 8) + 1)):Int).toNat).size + x8.size ≤ 9223372036854775807 then (creelref_OctalText.l0 k (wrap64 (Int.tdiv x0 8)) x1 (((⟨#[48,49,50,51,52,53,54,55]⟩:ByteArray).extract ((Int.tmod x0 8):Int).toNat ((wrap64 ((Int.tmod x0 8) + 1)):Int).toNat) ++ x8)) else (none)) else (none)) else (none)) else (none)) else (if x8.size + 1 ≤ 9223372036854775807 then (some (x8 ++ (⟨#[0]⟩:ByteArray),0)) else (none))
end
def creelref_OctalText.f (k:Nat) (a0:Int) (a1:Int):Option (ByteArray × Int):=(creelref_OctalMost.f k a1).bind fun bt101=>(if bt101.2 = 0 then (if a0 < 0 then (creelref_OctalText.j0 k a0 a1 true) else (creelref_OctalText.j0 k a0 a1 (decide (a0 > bt101.1)))) else (some ((⟨#[]⟩:ByteArray),bt101.2)))
theorem creelref_OctalText.mono_l:∀ k,(∀ y0 y1 y2,LeO (creelref_OctalText.j0 k y0 y1 y2) (creelref_OctalText.j0 (k + 1) y0 y1 y2))∧(∀ y0 y1 y2,LeO (creelref_OctalText.l0 k y0 y1 y2) (creelref_OctalText.l0 (k + 1) y0 y1 y2))
 | 0=>⟨fun _ _ _ r h=>by simp [creelref_OctalText.j0] at h,fun _ _ _ r h=>by simp [creelref_OctalText.l0] at h⟩
 | k + 1=>by
  obtain ⟨ih0,ih1⟩:=creelref_OctalText.mono_l k
  refine ⟨?_,?_⟩
  ·intro y0 y1 y2
   unfold creelref_OctalText.j0
   repeat' first
   | (with_reducible exact ih0 _ _ _)
   | (with_reducible exact ih1 _ _ _)
   | (with_reducible exact creelref_OctalMost.mono _ _)
   | (with_reducible exact LeO.refl _)
   | (with_reducible exact LeO.none _)
   | (with_reducible refine LeO.ite ?_ ?_)
   | (with_reducible refine LeO.bind ?_ (fun _=>?_))
   | exact ih0 _ _ _
   | exact ih1 _ _ _
   | exact creelref_OctalMost.mono _ _
   | exact LeO.none _
   | refine LeO.ite ?_ ?_
   | refine LeO.bind ?_ (fun _=>?_)
  ·intro y0 y1 y2
   unfold creelref_OctalText.l0
   repeat' first
   | (with_reducible exact ih0 _ _ _)
   | (with_reducible exact ih1 _ _ _)
   | (with_reducible exact creelref_OctalMost.mono _ _)
   | (with_reducible exact LeO.refl _)
   | (with_reducible exact LeO.none _)
   | (with_reducible refine LeO.ite ?_ ?_)
   | (with_reducible refine LeO.bind ?_ (fun _=>?_))
   | exact ih0 _ _ _
   | exact ih1 _ _ _
   | exact creelref_OctalMost.mono _ _
   | exact LeO.none _
   | refine LeO.ite ?_ ?_
   | refine LeO.bind ?_ (fun _=>?_)
theorem creelref_OctalText.mono:∀ a0 a1 k,LeO (creelref_OctalText.f k a0 a1) (creelref_OctalText.f (k + 1) a0 a1):=by
 intro a0 a1 k;obtain ⟨ih0,ih1⟩:=creelref_OctalText.mono_l k;unfold creelref_OctalText.f;repeat' first
  | (with_reducible exact ih0 _ _ _)
  | (with_reducible exact ih1 _ _ _)
  | (with_reducible exact creelref_OctalMost.mono _ _)
  | (with_reducible exact LeO.refl _)
  | (with_reducible exact LeO.none _)
  | (with_reducible refine LeO.ite ?_ ?_)
  | (with_reducible refine LeO.bind ?_ (fun _=>?_))
  | exact ih0 _ _ _
  | exact ih1 _ _ _
  | exact creelref_OctalMost.mono _ _
  | exact LeO.none _
  | refine LeO.ite ?_ ?_
  | refine LeO.bind ?_ (fun _=>?_)
set_option maxHeartbeats 8000000 in
set_option maxRecDepth 100000 in
theorem creelref_OctalText.calls (k:Nat) (a0:Int) (a1:Int) (r1:ByteArray) (r2:Int) (w:World) (h:creelref_OctalText.f k a0 a1 = some (r1,r2)) :
 Calls Tryz.prog 81 #[.int .i64 a0,.int .i64 a1] w fun e w'=>e = .returned (.tuple #[.string r1,.int .i64 r2])∧Drawn0 w w':=by
 have H:((creelref_OctalMost.f k a1).bind fun bt101=>(if bt101.2 = 0 then (if a0 < 0 then (creelref_OctalText.j0 k a0 a1 true) else (creelref_OctalText.j0 k a0 a1 (decide (a0 > bt101.1)))) else (some ((⟨#[]⟩:ByteArray),bt101.2)))) = some (r1,r2):=h;clear h;replace H:=Option.bind_eq_some_iff.mp H;obtain ⟨⟨t101,t102⟩,A30,H⟩:=H;replace H:(if t102 = 0 then (if a0 < 0 then (creelref_OctalText.j0 k a0 a1 true) else (creelref_OctalText.j0 k a0 a1 (decide (a0 > t101)))) else (some ((⟨#[]⟩:ByteArray),t102))) = some (r1,r2):=H;have A3:=Aside0.mk A30;clear A30;by_cases c4:t102 = 0
 ·rw [if_pos c4] at H;have c4b0:(t102 == 0) = true:=beq_iff_eq.mpr c4;have c4b1:(t102 != 0) = false:=bne_eq_false_iff_eq.mpr c4;clear c4;have HC5:=Aside0.mk H;clear H;go_enter Tryz.func81,Tryz.ntmps81;go_upto_region 4 with (first|((with_reducible refine gate_callee (f:=117) rfl ?_);refine goesL_ (some 11) rfl rfl Tryz.func117 (by kernel_rfl) rfl #[.int .i64 a1] rfl (by (try simp only [List.map_toArray,List.map_cons,List.map_nil]);first|done|rfl|(simp only [List.length_drop,List.length_take];rfl)) ?_;(with_reducible refine (creelref_OctalMost.calls k a1 t101 t102 _ A3.out).mono ?_);rintro e w' ⟨rfl,⟨nd,rfl⟩⟩;refine ⟨_,rfl,?_⟩))
  (try simp only [Act.put,List.setIfInBounds_toArray,List.set_cons_zero,List.set_cons_succ]);go_cut [23] (fun v23 wc=>∃ (kq:Nat) (x23_4:Bool),v23 = .bool x23_4∧Aside0 (creelref_OctalText.j0 kq a0 a1 x23_4 = some (r1,r2))∧Aside0 (kq ≤ k)∧Drawn0 w wc)
  case first =>
   have H:=HC5.out;clear HC5;by_cases c6:a0 < 0
   ·rw [if_pos c6] at H;have c6b0:decide (a0 < 0) = true:=decide_eq_true c6;clear c6;(first|rw [c6b0]|(simp only [i64_w,i32_w];rw [c6b0])|skip);have H':=Aside0.mk H;clear H;go_wp2;go_meet
    case rel=>exact ⟨_,(true),(by first|rfl|(simp;done)|(simp [*];done)),H',⟨by first|omega|exact Nat.le_refl _⟩,by repeat (first|exact Drawn0.refl _|apply Drawn0.step)⟩
   ·rw [if_neg c6] at H;have c6b0:decide (a0 < 0) = false:=decide_eq_false c6;clear c6;(first|rw [c6b0]|(simp only [i64_w,i32_w];rw [c6b0])|skip);have H':=Aside0.mk H;clear H;go_wp2;go_meet
    case rel=>exact ⟨_,(decide (a0 > t101)),(by first|rfl|(simp;done)|(simp [*];done)),H',⟨by first|omega|exact Nat.le_refl _⟩,by repeat (first|exact Drawn0.refl _|apply Drawn0.step)⟩
  case rest =>
   clear HC5;repeat first|clear c4|clear c4b0|clear c4b1
   obtain ⟨kq,x23_4,rfl,HA,HJ4,⟨mc4,rfl⟩⟩:=hcut;cases kq with
   | zero=>exact absurd HA.out (by simp [creelref_OctalText.j0])
   | succ kj4 =>
    have H:=HA.out;clear HA;simp only [creelref_OctalText.j0] at H;by_cases c7:x23_4 = true
    ·subst c7;have H1:(some ((⟨#[]⟩:ByteArray),4)) = some (r1,r2):=by rw [if_pos rfl] at H;exact H
     clear H;have H:=H1;clear H1;simp only [Option.some.injEq,Prod.mk.injEq] at H;obtain ⟨rfl,rfl⟩:=H;go_wp2;go_ret2
     exact ⟨by first|rfl|(simp;done)|(simp [*];done),by repeat (first|exact Drawn0.refl _|apply Drawn0.step)⟩
    ·replace c7:=Bool.eq_false_iff.mpr c7;subst c7;have H1:(creelref_OctalText.l0 kj4 a0 a1 (⟨#[]⟩:ByteArray)) = some (r1,r2):=by rw [if_neg (show ¬ (false = true) by decide)] at H;exact H
     clear H;have H:=H1;clear H1;have H':=Aside0.mk H;clear H;go_wp2;go_loopg [0,8] kj4 (fun kq v0 v8 w'=>∃ (x0_2:Int) (x8_2:ByteArray),v0 = .int .i64 x0_2∧v8 = .string x8_2∧Aside0 (creelref_OctalText.l0 kq x0_2 a1 x8_2 = some (r1,r2))∧Aside0 (kq ≤ kj4)∧Drawn0 w w')
     case atStart=>exact ⟨(a0),((⟨#[]⟩:ByteArray)),(by first|rfl|(simp;done)|(simp [*];done)),(by first|rfl|(simp;done)|(simp [*];done)),H',⟨Nat.le_refl _⟩,by repeat (first|exact Drawn0.refl _|apply Drawn0.step)⟩
     case round =>
      clear H';repeat first|clear c4|clear c4b0|clear c4b1|clear c7
      obtain ⟨x0_2,x8_2,rfl,rfl,HA,HK2,⟨m2,rfl⟩⟩:=hrel;cases gk with
      | zero=>exact absurd HA.out (by simp [creelref_OctalText.l0])
      | succ k2 =>
       have H:=HA.out;clear HA;simp only [creelref_OctalText.l0] at H;by_cases c8:(x8_2.size:Int) < (wrap64 (a1 - 1))
       ·rw [if_pos c8] at H;have c8b0:decide ((x8_2.size:Int) < (wrap64 (a1 - 1))) = true:=decide_eq_true c8;clear c8;obtain ⟨ji9,hji9⟩:∃ j_:Int,(Int.tmod x0_2 8) = j_:=⟨_,rfl⟩
        replace H:(if 0 ≤ (ji9) then (if (ji9) ≤ (wrap64 ((ji9) + 1)) then (if (wrap64 ((ji9) + 1)) ≤ 8 then (if ((⟨#[48,49,50,51,52,53,54,55]⟩:ByteArray).extract ((ji9):Int).toNat ((wrap64 ((ji9) + 1)):Int).toNat).size + x8_2.size ≤ 9223372036854775807 then (creelref_OctalText.l0 k2 (wrap64 (Int.tdiv x0_2 8)) a1 (((⟨#[48,49,50,51,52,53,54,55]⟩:ByteArray).extract ((ji9):Int).toNat ((wrap64 ((ji9) + 1)):Int).toNat) ++ x8_2)) else (none)) else (none)) else (none)) else (none)) = some (r1,r2):=by first|(rw [hji9] at H;exact H)|(simp only [hji9] at H ⊢;exact H)
        by_cases c10:0 ≤ (ji9)
        ·rw [if_pos c10] at H;have c10b0:=eq_true c10;have c10b1:decide (0 ≤ (ji9)) = true:=decide_eq_true c10;clear c10;by_cases c11:(ji9) ≤ (wrap64 ((ji9) + 1))
         ·rw [if_pos c11] at H;have c11b0:=eq_true c11;have c11b1:decide ((ji9) ≤ (wrap64 ((ji9) + 1))) = true:=decide_eq_true c11;by_cases c12:(wrap64 ((ji9) + 1)) ≤ 8
          ·rw [if_pos c12] at H;have c12b0:=eq_true c12;have c12b1:decide ((wrap64 ((ji9) + 1)) ≤ 8) = true:=decide_eq_true c12;by_cases c13:((⟨#[48,49,50,51,52,53,54,55]⟩:ByteArray).extract ((ji9):Int).toNat ((wrap64 ((ji9) + 1)):Int).toNat).size + x8_2.size ≤ 9223372036854775807
           ·rw [if_pos c13] at H;have c13b0:=eq_true c13;have c13b1:decide (((⟨#[48,49,50,51,52,53,54,55]⟩:ByteArray).extract ((ji9):Int).toNat ((wrap64 ((ji9) + 1)):Int).toNat).size + x8_2.size ≤ 9223372036854775807) = true:=decide_eq_true c13;try have c13b2:(9223372036854775807 < ((⟨#[48,49,50,51,52,53,54,55]⟩:ByteArray).extract ((ji9):Int).toNat ((wrap64 ((ji9) + 1)):Int).toNat).size + x8_2.size) = False:=eq_false (Nat.not_lt.2 c13)
            have H':=Aside0.mk H;clear H;go_wp2;go_roundg k2
            case measure=>have:=HJ4.out;have:=HK2.out;omega
            case rel=>exact ⟨(wrap64 (Int.tdiv x0_2 8)),(((⟨#[48,49,50,51,52,53,54,55]⟩:ByteArray).extract ((ji9):Int).toNat ((wrap64 ((ji9) + 1)):Int).toNat) ++ x8_2),(by first|rfl|(simp;done)|(simp [*];done)),(by first|rfl|(simp;done)|(simp only [← hji9] <;> (first|rfl|simp))|(simp [*];done)),H',⟨by have:=HJ4.out;have:=HK2.out;omega⟩,by repeat (first|exact Drawn0.refl _|apply Drawn0.step)⟩
           ·rw [if_neg c13] at H;exact absurd H (by simp)
          ·rw [if_neg c12] at H;exact absurd H (by simp)
         ·rw [if_neg c11] at H;exact absurd H (by simp)
        ·rw [if_neg c10] at H;exact absurd H (by simp)
       ·rw [if_neg c8] at H;have c8b0:decide ((x8_2.size:Int) < (wrap64 (a1 - 1))) = false:=decide_eq_false c8;clear c8;by_cases c14:x8_2.size + 1 ≤ 9223372036854775807
        ·rw [if_pos c14] at H;have c14b0:=eq_true c14;have c14b1:decide (x8_2.size + 1 ≤ 9223372036854775807) = true:=decide_eq_true c14;try have c14b2:(9223372036854775807 < x8_2.size + 1) = False:=eq_false (Nat.not_lt.2 c14)
         simp only [Option.some.injEq,Prod.mk.injEq] at H;obtain ⟨rfl,rfl⟩:=H;go_wp2;go_ret2
         exact ⟨by first|rfl|(simp;done)|(simp [*];done),by repeat (first|exact Drawn0.refl _|apply Drawn0.step)⟩
        ·rw [if_neg c14] at H;exact absurd H (by simp)
 ·rw [if_neg c4] at H;have c4b0:(t102 == 0) = false:=beq_eq_false_iff_ne.mpr c4;have c4b1:(t102 != 0) = true:=bne_iff_ne.mpr c4;simp only [Option.some.injEq,Prod.mk.injEq] at H;obtain ⟨rfl,rfl⟩:=H;go_enter Tryz.func81,Tryz.ntmps81;go_wp2_with (first|((with_reducible refine gate_callee (f:=117) rfl ?_);refine goesL_ (some 11) rfl rfl Tryz.func117 (by kernel_rfl) rfl #[.int .i64 a1] rfl (by (try simp only [List.map_toArray,List.map_cons,List.map_nil]);first|done|rfl|(simp only [List.length_drop,List.length_take];rfl)) ?_;(with_reducible refine (creelref_OctalMost.calls k a1 t101 t102 _ A3.out).mono ?_);rintro e w' ⟨rfl,⟨nd,rfl⟩⟩;refine ⟨_,rfl,?_⟩))
  go_ret2
  exact ⟨by first|rfl|(simp;done)|(simp [*];done),by repeat (first|exact Drawn0.refl _|apply Drawn0.step)⟩
end Go.Proofs.YtenbelecmmpdgaaGreatDoor.All
end
section
namespace Go.Proofs.YtenbelecmmpdgaaGreatDoor.All
open Go.RowKit Go.Proofs.YtenbelecmmpdgaaGreatDoorW.PrintWords Go.Proofs.YtenbelecmmpdgaaGreatDoorW.PrintLast Go.Proofs.YtenbelecmmpdgaaGreatDoorW.PrintMore
open Go.Proofs.YtenbelecmmpdgaaGreatDoorW.Mine
attribute [local go_sem] gtr_string leq_string geq_string
attribute [local go_sem] max2_int min2_int max_two min_two max_three min_three max_four min_four
set_option linter.unusedVariables false
set_option linter.unusedSimpArgs false
def creelref_HeadSum.l0:Nat→ByteArray→Int→Int→Option (Int × Int)
 | 0,_,_,_=>none
 | k + 1,x0,x4,x5=>if x5 < 512 then (if x5 ≥ 148 then (if x5 < 156 then (creelref_HeadSum.l0 k x0 (wrap64 (x4 + 32)) (wrap64 (x5 + 1))) else (if 0 ≤ x5 then (if x5 < (x0.size:Int) then (creelref_HeadSum.l0 k x0 (wrap64 (x4 + (wrap64 (bt x0 x5)))) (wrap64 (x5 + 1))) else (none)) else (none))) else (if 0 ≤ x5 then (if x5 < (x0.size:Int) then (creelref_HeadSum.l0 k x0 (wrap64 (x4 + (wrap64 (bt x0 x5)))) (wrap64 (x5 + 1))) else (none)) else (none))) else (some (x4,0))
def creelref_HeadSum.f (k:Nat) (a0:ByteArray):Option (Int × Int):=if (a0.size:Int) = 512 then (creelref_HeadSum.l0 k a0 0 0) else (some (0,1))
theorem creelref_HeadSum.mono_l:∀ k,(∀ y0 y1 y2,LeO (creelref_HeadSum.l0 k y0 y1 y2) (creelref_HeadSum.l0 (k + 1) y0 y1 y2))
 | 0=>fun _ _ _ r h=>by simp [creelref_HeadSum.l0] at h
 | k + 1=>by
  have ih0:=creelref_HeadSum.mono_l k
  ·intro y0 y1 y2
   unfold creelref_HeadSum.l0
   repeat' first
   | (with_reducible exact ih0 _ _ _)
   | (with_reducible exact LeO.refl _)
   | (with_reducible exact LeO.none _)
   | (with_reducible refine LeO.ite ?_ ?_)
   | (with_reducible refine LeO.bind ?_ (fun _=>?_))
   | exact ih0 _ _ _
   | exact LeO.none _
   | refine LeO.ite ?_ ?_
   | refine LeO.bind ?_ (fun _=>?_)
theorem creelref_HeadSum.mono:∀ a0 k,LeO (creelref_HeadSum.f k a0) (creelref_HeadSum.f (k + 1) a0):=by
 intro a0 k;have ih0:=creelref_HeadSum.mono_l k;unfold creelref_HeadSum.f;repeat' first
  | (with_reducible exact ih0 _ _ _)
  | (with_reducible exact LeO.refl _)
  | (with_reducible exact LeO.none _)
  | (with_reducible refine LeO.ite ?_ ?_)
  | (with_reducible refine LeO.bind ?_ (fun _=>?_))
  | exact ih0 _ _ _
  | exact LeO.none _
  | refine LeO.ite ?_ ?_
  | refine LeO.bind ?_ (fun _=>?_)
set_option maxHeartbeats 8000000 in
set_option maxRecDepth 100000 in
theorem creelref_HeadSum.calls (k:Nat) (a0:ByteArray) (r1:Int) (r2:Int) (w:World) (h:creelref_HeadSum.f k a0 = some (r1,r2)) :
 Calls Tryz.prog 82 #[.string a0] w fun e w'=>e = .returned (.tuple #[.int .i64 r1,.int .i64 r2])∧Drawn0 w w':=by
 have H:(if (a0.size:Int) = 512 then (creelref_HeadSum.l0 k a0 0 0) else (some (0,1))) = some (r1,r2):=h;clear h;by_cases c2:(a0.size:Int) = 512
 ·rw [if_pos c2] at H;have c2b0:((a0.size:Int) == 512) = true:=beq_iff_eq.mpr c2;have c2b1:((a0.size:Int) != 512) = false:=bne_eq_false_iff_eq.mpr c2;clear c2;have H':=Aside0.mk H;clear H;go_enter Tryz.func82,Tryz.ntmps82;go_wp2;go_loopg [4,5] k (fun kq v4 v5 w'=>∃ (x4_1:Int) (x5_1:Int),v4 = .int .i64 x4_1∧v5 = .int .i64 x5_1∧Aside0 (creelref_HeadSum.l0 kq a0 x4_1 x5_1 = some (r1,r2))∧Aside0 (kq ≤ k)∧Drawn0 w w')
  case atStart=>exact ⟨(0),(0),(by first|rfl|(simp;done)|(simp [*];done)),(by first|rfl|(simp;done)|(simp [*];done)),H',⟨Nat.le_refl _⟩,by repeat (first|exact Drawn0.refl _|apply Drawn0.step)⟩
  case round =>
   clear H';repeat first|clear c2|clear c2b0|clear c2b1
   obtain ⟨x4_1,x5_1,rfl,rfl,HA,HK1,⟨m1,rfl⟩⟩:=hrel;cases gk with
   | zero=>exact absurd HA.out (by simp [creelref_HeadSum.l0])
   | succ k1 =>
    have H:=HA.out;clear HA;simp only [creelref_HeadSum.l0] at H;by_cases c3:x5_1 < 512
    ·rw [if_pos c3] at H;have c3b0:decide (x5_1 < 512) = true:=decide_eq_true c3;clear c3;by_cases c4:x5_1 ≥ 148
     ·rw [if_pos c4] at H;have c4b0:decide (148 ≤ x5_1) = true:=decide_eq_true c4;clear c4;by_cases c5:x5_1 < 156
      ·rw [if_pos c5] at H;have c5b0:decide (x5_1 < 156) = true:=decide_eq_true c5;clear c5;have H':=Aside0.mk H;clear H;go_wp2;go_roundg k1
       case measure=>have:=HK1.out;omega
       case rel=>exact ⟨(wrap64 (x4_1 + 32)),(wrap64 (x5_1 + 1)),(by first|rfl|(simp;done)|(simp [*];done)),(by first|rfl|(simp;done)|(simp [*];done)),H',⟨by have:=HK1.out;omega⟩,by repeat (first|exact Drawn0.refl _|apply Drawn0.step)⟩
      ·rw [if_neg c5] at H;have c5b0:decide (x5_1 < 156) = false:=decide_eq_false c5;clear c5;by_cases c6:0 ≤ x5_1
       ·rw [if_pos c6] at H;have c6b0:decide (0 ≤ x5_1) = true:=decide_eq_true c6;clear c6;by_cases c7:x5_1 < (a0.size:Int)
        ·rw [if_pos c7] at H;have c7b0:decide (x5_1 < (a0.size:Int)) = true:=decide_eq_true c7;clear c7;have H':=Aside0.mk H;clear H;have p8:0 ≤ (x5_1:Int):=of_decide_eq_true (by first|(with_reducible assumption)|assumption);have q8:x5_1 < (a0.size:Int):=of_decide_eq_true (by first|(with_reducible assumption)|assumption);have hx8:=bt_at a0 x5_1;replace p8:=eq_true p8;replace q8:=eq_true q8;go_wp2;go_roundg k1
         case measure=>have:=HK1.out;omega
         case rel=>exact ⟨(wrap64 (x4_1 + (wrap64 (bt a0 x5_1)))),(wrap64 (x5_1 + 1)),(by first|rfl|(simp;done)|(simp [*];done)),(by first|rfl|(simp;done)|(simp [*];done)),H',⟨by have:=HK1.out;omega⟩,by repeat (first|exact Drawn0.refl _|apply Drawn0.step)⟩
        ·rw [if_neg c7] at H;exact absurd H (by simp)
       ·rw [if_neg c6] at H;exact absurd H (by simp)
     ·rw [if_neg c4] at H;have c4b0:decide (148 ≤ x5_1) = false:=decide_eq_false c4;clear c4;by_cases c9:0 ≤ x5_1
      ·rw [if_pos c9] at H;have c9b0:decide (0 ≤ x5_1) = true:=decide_eq_true c9;clear c9;by_cases c10:x5_1 < (a0.size:Int)
       ·rw [if_pos c10] at H;have c10b0:decide (x5_1 < (a0.size:Int)) = true:=decide_eq_true c10;clear c10;have H':=Aside0.mk H;clear H;have p11:0 ≤ (x5_1:Int):=of_decide_eq_true (by first|(with_reducible assumption)|assumption);have q11:x5_1 < (a0.size:Int):=of_decide_eq_true (by first|(with_reducible assumption)|assumption);have hx11:=bt_at a0 x5_1;replace p11:=eq_true p11;replace q11:=eq_true q11;go_wp2;go_roundg k1
        case measure=>have:=HK1.out;omega
        case rel=>exact ⟨(wrap64 (x4_1 + (wrap64 (bt a0 x5_1)))),(wrap64 (x5_1 + 1)),(by first|rfl|(simp;done)|(simp [*];done)),(by first|rfl|(simp;done)|(simp [*];done)),H',⟨by have:=HK1.out;omega⟩,by repeat (first|exact Drawn0.refl _|apply Drawn0.step)⟩
       ·rw [if_neg c10] at H;exact absurd H (by simp)
      ·rw [if_neg c9] at H;exact absurd H (by simp)
    ·rw [if_neg c3] at H;have c3b0:decide (x5_1 < 512) = false:=decide_eq_false c3;clear c3;simp only [Option.some.injEq,Prod.mk.injEq] at H;obtain ⟨rfl,rfl⟩:=H;go_wp2;go_ret2
     exact ⟨by first|rfl|(simp;done)|(simp [*];done),by repeat (first|exact Drawn0.refl _|apply Drawn0.step)⟩
 ·rw [if_neg c2] at H;have c2b0:((a0.size:Int) == 512) = false:=beq_eq_false_iff_ne.mpr c2;have c2b1:((a0.size:Int) != 512) = true:=bne_iff_ne.mpr c2;simp only [Option.some.injEq,Prod.mk.injEq] at H;obtain ⟨rfl,rfl⟩:=H;go_enter Tryz.func82,Tryz.ntmps82;go_wp2;go_ret2
  exact ⟨by first|rfl|(simp;done)|(simp [*];done),by repeat (first|exact Drawn0.refl _|apply Drawn0.step)⟩
end Go.Proofs.YtenbelecmmpdgaaGreatDoor.All
end
section
namespace Go.Proofs.YtenbelecmmpdgaaGreatDoor.All
open Go.RowKit Go.Proofs.YtenbelecmmpdgaaGreatDoorW.PrintWords Go.Proofs.YtenbelecmmpdgaaGreatDoorW.PrintLast Go.Proofs.YtenbelecmmpdgaaGreatDoorW.PrintMore
open Go.Proofs.YtenbelecmmpdgaaGreatDoorW.Mine
attribute [local go_sem] gtr_string leq_string geq_string
attribute [local go_sem] max2_int min2_int max_two min_two max_three min_three max_four min_four
set_option linter.unusedVariables false
set_option linter.unusedSimpArgs false
open Go.Proofs.YtenbelecmmpdgaaGreatDoorW.MapOwn
set_option maxHeartbeats 2000000 in
set_option maxRecDepth 100000 in
theorem creelref_HeadText.text (B gw gs:Nat) (x:Int) (s t:ByteArray) (width:Int) (whole:Bool) (f:ByteArray) (e1:Int) (w:World) (hw:w.heap[gw]? = some (.cells #[.int .i64 x] 27 (0,0))) (hs:w.heap[gs]? = some (.cells #[.string s] 9 (0,0))) (hne:gw ≠ gs) (hBw:B ≤ gw) (hBs:B ≤ gs) (hB:B ≤ w.heap.size)
 (hF:∀ W:World,Calls Tryz.prog 79 #[.string t,.int .i64 width,.bool whole] W fun e w'=>e = .returned (.tuple #[.string f,.int .i64 e1])∧Below W.heap.size W w') (hlen:s.size + f.size ≤ 9223372036854775807) :
 Calls Tryz.prog 78 #[.string t,.int .i64 width,.bool whole,.pointer (some ⟨gw,0,none⟩),.pointer (some ⟨gs,0,none⟩)] w fun e w'=>e = .returned (.tuple #[])∧(w'.heap[gw]? = some (.cells #[.int .i64 (if x = 0 then e1 else x)] 27 (0,0))∧w'.heap[gs]? = some (.cells #[.string (s ++ f)] 9 (0,0))∧(∀ i,i < w.heap.size→i ≠ gw→i ≠ gs→w'.heap[i]? = w.heap[i]?)∧Below B w w'):=by
 have hlw:=(Array.getElem?_eq_some_iff.1 hw).1;have hls:=(Array.getElem?_eq_some_iff.1 hs).1;have HF:=Aside0.mk hF;clear hF;by_cases hx:x = 0
 ·subst hx;rw [if_pos rfl];go_enter Tryz.func78,Tryz.ntmps78;go_wp2_with (go_at_call 79;refine (HF.out _).mono ?_;rintro e w1 ⟨rfl,hb1⟩;have hw1:=(hb1.block gw hlw).trans hw;have hs1:=(hb1.block gs hls).trans hs;have hcw:w1.cell? ⟨gw,0,none⟩ = some (.int .i64 0):=(by rw [Lib.cell_of_heap hw1];rfl);have hcs:w1.cell? ⟨gs,0,none⟩ = some (.string s):=(by rw [Lib.cell_of_heap hs1];rfl);have hfw:w1.frozen? ⟨gw,0,none⟩ = false:=Lib.frozen_of_heap hw1 0;have hfs:w1.frozen? ⟨gs,0,none⟩ = false:=Lib.frozen_of_heap hs1 0)
  go_end0
  refine ⟨rfl,?_,?_,?_,?_⟩
  ·simp [World.setCell,Array.getElem?_modify,hw1,hne,hne.symm]
  ·simp [World.setCell,Array.getElem?_modify,hs1,hne,hne.symm]
  ·intro i hi h1 h2;exact (Below.heap_setCell _ _ _ _ h2).trans ((Below.heap_setCell _ _ _ _ h1).trans (hb1.block i hi))
  ·exact ((hb1.mono hB).setCell (p:=⟨gw,0,none⟩) hBw _).setCell (p:=⟨gs,0,none⟩) hBs _
 ·rw [if_neg hx];have hx0:(x == 0) = false:=beq_eq_false_iff_ne.2 hx;go_enter Tryz.func78,Tryz.ntmps78;go_wp2_with (go_at_call 79;refine (HF.out _).mono ?_;rintro e w1 ⟨rfl,hb1⟩;have hw1:=(hb1.block gw hlw).trans hw;have hs1:=(hb1.block gs hls).trans hs;have hcw:w1.cell? ⟨gw,0,none⟩ = some (.int .i64 x):=(by rw [Lib.cell_of_heap hw1];rfl);have hcs:w1.cell? ⟨gs,0,none⟩ = some (.string s):=(by rw [Lib.cell_of_heap hs1];rfl);have hfw:w1.frozen? ⟨gw,0,none⟩ = false:=Lib.frozen_of_heap hw1 0;have hfs:w1.frozen? ⟨gs,0,none⟩ = false:=Lib.frozen_of_heap hs1 0)
  go_end0
  refine ⟨rfl,?_,?_,?_,?_⟩
  ·simp [World.setCell,Array.getElem?_modify,hw1,hne,hne.symm]
  ·simp [World.setCell,Array.getElem?_modify,hs1,hne,hne.symm]
  ·intro i hi h1 h2;exact (Below.heap_setCell _ _ _ _ h2).trans (hb1.block i hi)
  ·exact (hb1.mono hB).setCell (p:=⟨gs,0,none⟩) hBs _
set_option maxHeartbeats 2000000 in
set_option maxRecDepth 100000 in
theorem creelref_HeadText.number (B gw gs:Nat) (x:Int) (s:ByteArray) (n width:Int) (f:ByteArray) (e1:Int) (w:World) (hw:w.heap[gw]? = some (.cells #[.int .i64 x] 27 (0,0))) (hs:w.heap[gs]? = some (.cells #[.string s] 9 (0,0))) (hne:gw ≠ gs) (hBw:B ≤ gw) (hBs:B ≤ gs) (hB:B ≤ w.heap.size)
 (hF:∀ W:World,Calls Tryz.prog 81 #[.int .i64 n,.int .i64 width] W fun e w'=>e = .returned (.tuple #[.string f,.int .i64 e1])∧Below W.heap.size W w') (hlen:s.size + f.size ≤ 9223372036854775807) :
 Calls Tryz.prog 80 #[.int .i64 n,.int .i64 width,.pointer (some ⟨gw,0,none⟩),.pointer (some ⟨gs,0,none⟩)] w fun e w'=>e = .returned (.tuple #[])∧(w'.heap[gw]? = some (.cells #[.int .i64 (if x = 0 then e1 else x)] 27 (0,0))∧w'.heap[gs]? = some (.cells #[.string (s ++ f)] 9 (0,0))∧(∀ i,i < w.heap.size→i ≠ gw→i ≠ gs→w'.heap[i]? = w.heap[i]?)∧Below B w w'):=by
 have hlw:=(Array.getElem?_eq_some_iff.1 hw).1;have hls:=(Array.getElem?_eq_some_iff.1 hs).1;have HF:=Aside0.mk hF;clear hF;by_cases hx:x = 0
 ·subst hx;rw [if_pos rfl];go_enter Tryz.func80,Tryz.ntmps80;go_wp2_with (go_at_call 81;refine (HF.out _).mono ?_;rintro e w1 ⟨rfl,hb1⟩;have hw1:=(hb1.block gw hlw).trans hw;have hs1:=(hb1.block gs hls).trans hs;have hcw:w1.cell? ⟨gw,0,none⟩ = some (.int .i64 0):=(by rw [Lib.cell_of_heap hw1];rfl);have hcs:w1.cell? ⟨gs,0,none⟩ = some (.string s):=(by rw [Lib.cell_of_heap hs1];rfl);have hfw:w1.frozen? ⟨gw,0,none⟩ = false:=Lib.frozen_of_heap hw1 0;have hfs:w1.frozen? ⟨gs,0,none⟩ = false:=Lib.frozen_of_heap hs1 0)
  go_end0
  refine ⟨rfl,?_,?_,?_,?_⟩
  ·simp [World.setCell,Array.getElem?_modify,hw1,hne,hne.symm]
  ·simp [World.setCell,Array.getElem?_modify,hs1,hne,hne.symm]
  ·intro i hi h1 h2;exact (Below.heap_setCell _ _ _ _ h2).trans ((Below.heap_setCell _ _ _ _ h1).trans (hb1.block i hi))
  ·exact ((hb1.mono hB).setCell (p:=⟨gw,0,none⟩) hBw _).setCell (p:=⟨gs,0,none⟩) hBs _
 ·rw [if_neg hx];have hx0:(x == 0) = false:=beq_eq_false_iff_ne.2 hx;go_enter Tryz.func80,Tryz.ntmps80;go_wp2_with (go_at_call 81;refine (HF.out _).mono ?_;rintro e w1 ⟨rfl,hb1⟩;have hw1:=(hb1.block gw hlw).trans hw;have hs1:=(hb1.block gs hls).trans hs;have hcw:w1.cell? ⟨gw,0,none⟩ = some (.int .i64 x):=(by rw [Lib.cell_of_heap hw1];rfl);have hcs:w1.cell? ⟨gs,0,none⟩ = some (.string s):=(by rw [Lib.cell_of_heap hs1];rfl);have hfw:w1.frozen? ⟨gw,0,none⟩ = false:=Lib.frozen_of_heap hw1 0;have hfs:w1.frozen? ⟨gs,0,none⟩ = false:=Lib.frozen_of_heap hs1 0)
  go_end0
  refine ⟨rfl,?_,?_,?_,?_⟩
  ·simp [World.setCell,Array.getElem?_modify,hw1,hne,hne.symm]
  ·simp [World.setCell,Array.getElem?_modify,hs1,hne,hne.symm]
  ·intro i hi h1 h2;exact (Below.heap_setCell _ _ _ _ h2).trans (hb1.block i hi)
  ·exact (hb1.mono hB).setCell (p:=⟨gs,0,none⟩) hBs _
def creelref_HeadText.more (q:Int × ByteArray) (r:ByteArray × Int):Int × ByteArray:=(if q.1 = 0 then r.2 else q.1,q.2 ++ r.1)
def creelref_HeadText.app (q:Int × ByteArray) (t:ByteArray):Int × ByteArray:=(q.1,q.2 ++ t)
def creelref_HeadText.blank (t:Int):ByteArray:=(⟨#[32,32,32,32,32,32,32,32]⟩:ByteArray) ++ strOfNums [t]
def creelref_HeadText.tail (k:Nat) (q:Int × ByteArray):Option (ByteArray × Int):=if q.1 = 0 then ((creelref_HeadSum.f k q.2).bind fun n=>(creelref_OctalText.f k n.1 7).bind fun u=>if 156 ≤ q.2.size∧u.1.size ≤ 10000∧q.2.size ≤ 1000000 then some (q.2.extract 0 148 ++ u.1 ++ (⟨#[32]⟩:ByteArray) ++ q.2.extract 156 q.2.size,0) else none) else some ((⟨#[]⟩:ByteArray),q.1)
def creelref_HeadText.f (k:Nat) (a0_0:ByteArray) (a0_1:ByteArray) (a0_2:ByteArray) (a0_3:Int) (a0_4:Int) (a0_5:Int) (a0_6:Int) (a0_7:Int) (a0_8:Int) (a0_9:ByteArray) (a0_10:ByteArray):Option (ByteArray × Int):=(creelref_has.f k (⟨#[48,49,50,53,120]⟩:ByteArray) a0_8).bind fun b=>if b = true then ((creelref_FieldText.f k a0_0 100 true).bind fun r1=>(creelref_OctalText.f k a0_3 8).bind fun r2=>(creelref_OctalText.f k a0_4 8).bind fun r3=>(creelref_OctalText.f k a0_5 8).bind fun r4=>(creelref_OctalText.f k a0_6 12).bind fun r5=>(creelref_OctalText.f k a0_7 12).bind fun r6=>(creelref_FieldText.f k a0_2 100 true).bind fun r7=>(creelref_FieldText.f k a0_9 32 false).bind fun r8=>(creelref_FieldText.f k a0_10 32 false).bind fun r9=>(creelref_OctalText.f k 0 8).bind fun r10=>(creelref_FieldText.f k a0_1 155 true).bind fun r11=>(creelref_zeros.f k 1).bind fun z1=>(creelref_zeros.f k 12).bind fun z2=>if r1.1.size + r2.1.size + r3.1.size + r4.1.size + r5.1.size + r6.1.size + r7.1.size + r8.1.size + r9.1.size + r10.1.size + r11.1.size + r10.1.size + z1.size + z2.size ≤ 100000 then creelref_HeadText.tail k (creelref_HeadText.app (creelref_HeadText.more (creelref_HeadText.more (creelref_HeadText.more (creelref_HeadText.more (creelref_HeadText.more (creelref_HeadText.app (creelref_HeadText.more (creelref_HeadText.app (creelref_HeadText.more (creelref_HeadText.more (creelref_HeadText.more (creelref_HeadText.more (creelref_HeadText.more (creelref_HeadText.more ((0,(⟨#[]⟩:ByteArray)):Int × ByteArray) r1) r2) r3) r4) r5) r6) (creelref_HeadText.blank a0_8)) r7) ((⟨#[117,115,116,97,114]⟩:ByteArray) ++ z1 ++ (⟨#[48,48]⟩:ByteArray))) r8) r9) r10) r10) r11) z2) else none) else some ((⟨#[]⟩:ByteArray),2)
def creelref_HeadText.St (w W:World) (H:Array Value) (gb gw gs:Nat) (q:Int × ByteArray):Prop :=
 (w.heap.size ≤ gb∧w.heap.size ≤ gw∧w.heap.size ≤ gs∧gb ≠ gw∧gb ≠ gs∧gw ≠ gs)∧W.heap[gb]? = some (.cells H 55 (0,0))∧W.heap[gw]? = some (.cells #[.int .i64 q.1] 27 (0,0))∧W.heap[gs]? = some (.cells #[.string q.2] 9 (0,0))∧Below w.heap.size w W
theorem creelref_HeadText.St.step {w W W':World} {H:Array Value} {gb gw gs:Nat} {q:Int × ByteArray} (h:creelref_HeadText.St w W H gb gw gs q) (hb:Below W.heap.size W W'):creelref_HeadText.St w W' H gb gw gs q:=by
 obtain ⟨h0,h1,h2,h3,h4⟩:=h;exact ⟨h0,blk_below h1 hb,blk_below h2 hb,blk_below h3 hb,below_step h4 hb⟩
theorem creelref_HeadText.St.put {w W W':World} {H:Array Value} {gb gw gs:Nat} {q:Int × ByteArray} (h:creelref_HeadText.St w W H gb gw gs q) (hb:Below W.heap.size W W') (t:ByteArray):creelref_HeadText.St w (W'.setCell ⟨gs,0,none⟩ (.string t)) H gb gw gs (q.1,t):=by
 obtain ⟨h0,h1,h2,h3,h4⟩:=h.step hb;refine ⟨h0,blk_far h1 (p:=⟨gs,0,none⟩) h0.2.2.2.2.1 _,blk_far h2 (p:=⟨gs,0,none⟩) h0.2.2.2.2.2 _,blk_put h3 0 _ rfl,h4.setCell (p:=⟨gs,0,none⟩) h0.2.2.1 _⟩
theorem creelref_HeadText.St.start {w w1 w3 w4:World} {H:Array Value} {gb gw gs nd:Nat} (hg:gb = w.heap.size) (hk:w1.heap[gb]? = some (.cells H 55 (0,0))) (hb:Below w.heap.size w w1) (hg3:gw = (w1.drewN nd).heap.size) (hk3:w3.heap[gw]? = some (.cells #[.int .i64 0] 27 (0,0))) (hb3:Below (w1.drewN nd).heap.size (w1.drewN nd) w3)
 (hg4:gs = (w3.setCell ⟨gw,0,none⟩ (.int .i64 0)).heap.size) (hk4:w4.heap[gs]? = some (.cells #[.string (⟨#[]⟩:ByteArray)] 9 (0,0))) (hb4:Below (w3.setCell ⟨gw,0,none⟩ (.int .i64 0)).heap.size (w3.setCell ⟨gw,0,none⟩ (.int .i64 0)) w4):creelref_HeadText.St w (w4.setCell ⟨gs,0,none⟩ (.string (⟨#[]⟩:ByteArray))) H gb gw gs (0,(⟨#[]⟩:ByteArray)):=by
 have l1:gb < w1.heap.size:=blk_lt hk;have l3:gw < w3.heap.size:=blk_lt hk3;have s3:(w3.setCell ⟨gw,0,none⟩ (.int .i64 0)).heap.size = w3.heap.size:=by simp [World.setCell]
 have g3:gw = w1.heap.size:=hg3;have n1:gb ≠ gw:=by omega
 have n2:gb ≠ gs:=by have:gb < w3.heap.size:=Nat.lt_of_lt_of_le l1 (by have:=hb3.size;exact this);omega
 have n3:gw ≠ gs:=by omega
 have k1:(w3.setCell ⟨gw,0,none⟩ (.int .i64 0)).heap[gb]? = some (.cells H 55 (0,0)):=blk_far (blk_below (show (w1.drewN nd).heap[gb]? = _ from hk) hb3) (p:=⟨gw,0,none⟩) n1 _;have k3:(w3.setCell ⟨gw,0,none⟩ (.int .i64 0)).heap[gw]? = some (.cells #[.int .i64 0] 27 (0,0)):=blk_put hk3 0 _ rfl;have z:=hb.size;have b3:Below w.heap.size w (w3.setCell ⟨gw,0,none⟩ (.int .i64 0)):=(below_step (pwbN hb nd) hb3).setCell (p:=⟨gw,0,none⟩) (by show w.heap.size ≤ gw;omega) _;refine ⟨⟨by omega,by omega,by omega,n1,n2,n3⟩,blk_far (blk_below k1 hb4) (p:=⟨gs,0,none⟩) n2 _,blk_far (blk_below k3 hb4) (p:=⟨gs,0,none⟩) n3 _,blk_put hk4 0 _ rfl,(below_step b3 hb4).setCell (p:=⟨gs,0,none⟩) (by show w.heap.size ≤ gs;omega) _⟩
theorem creelref_HeadText.textS (w W:World) (H:Array Value) (gb gw gs:Nat) (q:Int × ByteArray) (t:ByteArray) (width:Int) (whole:Bool) (r:ByteArray × Int) (hS:creelref_HeadText.St w W H gb gw gs q)
 (hF:∀ W:World,Calls Tryz.prog 79 #[.string t,.int .i64 width,.bool whole] W fun e w'=>e = .returned (.tuple #[.string r.1,.int .i64 r.2])∧Below W.heap.size W w') (hlen:q.2.size + r.1.size ≤ 9223372036854775807) :
 Calls Tryz.prog 78 #[.string t,.int .i64 width,.bool whole,.pointer (some ⟨gw,0,none⟩),.pointer (some ⟨gs,0,none⟩)] W fun e w'=>e = .returned (.tuple #[])∧creelref_HeadText.St w w' H gb gw gs (creelref_HeadText.more q r):=by
 obtain ⟨⟨b1,b2,b3,n1,n2,n3⟩,h1,h2,h3,h4⟩:=hS;have l1:=(Array.getElem?_eq_some_iff.1 h1).1;refine (creelref_HeadText.text w.heap.size gw gs q.1 q.2 t width whole r.1 r.2 W h2 h3 n3 b2 b3 (by omega) hF hlen).mono ?_;rintro e w' ⟨rfl,k2,k3,k,hb⟩;exact ⟨rfl,⟨b1,b2,b3,n1,n2,n3⟩,(k gb l1 n1 n2).trans h1,k2,k3,h4.trans hb⟩
theorem creelref_HeadText.numberS (w W:World) (H:Array Value) (gb gw gs:Nat) (q:Int × ByteArray) (n width:Int) (r:ByteArray × Int) (hS:creelref_HeadText.St w W H gb gw gs q)
 (hF:∀ W:World,Calls Tryz.prog 81 #[.int .i64 n,.int .i64 width] W fun e w'=>e = .returned (.tuple #[.string r.1,.int .i64 r.2])∧Below W.heap.size W w') (hlen:q.2.size + r.1.size ≤ 9223372036854775807) :
 Calls Tryz.prog 80 #[.int .i64 n,.int .i64 width,.pointer (some ⟨gw,0,none⟩),.pointer (some ⟨gs,0,none⟩)] W fun e w'=>e = .returned (.tuple #[])∧creelref_HeadText.St w w' H gb gw gs (creelref_HeadText.more q r):=by
 obtain ⟨⟨b1,b2,b3,n1,n2,n3⟩,h1,h2,h3,h4⟩:=hS;have l1:=(Array.getElem?_eq_some_iff.1 h1).1;refine (creelref_HeadText.number w.heap.size gw gs q.1 q.2 n width r.1 r.2 W h2 h3 n3 b2 b3 (by omega) hF hlen).mono ?_;rintro e w' ⟨rfl,k2,k3,k,hb⟩;exact ⟨rfl,⟨b1,b2,b3,n1,n2,n3⟩,(k gb l1 n1 n2).trans h1,k2,k3,h4.trans hb⟩
theorem creelref_HeadText.conv1 (W:World) (x:Int):(convert 24 9 (.slice (some ⟨W.heap.size,0,none⟩) 1 1)).run Tryz.prog (W.alloc (.cells #[.int .u8 x] 5 (0,0))) = .ok (.string (strOfNums [x])) (W.alloc (.cells #[.int .u8 x] 5 (0,0))):=by
 refine string_of_reads (xs:=[x]) Tryz.underlying24 Tryz.underlying5 Tryz.underlying9 ⟨rfl,by decide,fun _=>⟨⟨W.heap.size,0,none⟩,rfl,fun j hj=>?_⟩⟩;obtain rfl:j = 0:=by omega
 exact (blk_cell (blk_new W _) 0).trans rfl
theorem creelref_HeadText.blank_size (t:Int):(creelref_HeadText.blank t).size = 9:=by simp [creelref_HeadText.blank,strOfNums,ByteArray.size_append];rfl
set_option maxHeartbeats 8000000 in
set_option maxRecDepth 100000 in
theorem creelref_HeadText.calls (k:Nat) (a0_0:ByteArray) (a0_1:ByteArray) (a0_2:ByteArray) (a0_3:Int) (a0_4:Int) (a0_5:Int) (a0_6:Int) (a0_7:Int) (a0_8:Int) (a0_9:ByteArray) (a0_10:ByteArray) (x1:ByteArray) (x2:Int) (w:World) (h:creelref_HeadText.f k a0_0 a0_1 a0_2 a0_3 a0_4 a0_5 a0_6 a0_7 a0_8 a0_9 a0_10 = some (x1,x2)) :
 Calls Tryz.prog 33 #[.agg #[.string a0_0,.string a0_1,.string a0_2,.int .i64 a0_3,.int .i64 a0_4,.int .i64 a0_5,.int .i64 a0_6,.int .i64 a0_7,.int .u8 a0_8,.string a0_9,.string a0_10]] w fun e w'=>e = .returned (.tuple #[.string x1,.int .i64 x2])∧Below w.heap.size w w':=by
 unfold creelref_HeadText.f at h;obtain ⟨b,A0,h2⟩:=Option.bind_eq_some_iff.mp h;clear h;have h:=h2;clear h2;have HA0:=Aside0.mk A0;clear A0;cases b with
 | false =>
  rw [if_neg (by decide)] at h;simp only [Option.some.injEq,Prod.mk.injEq] at h;obtain ⟨rfl,rfl⟩:=h;go_enter Tryz.func33,Tryz.ntmps33;go_wp2_with (first|((with_reducible refine gate_dst (N:=1) rfl ?_);refine box_event ?hg (N:=1) ?hd (cs:=#[.string a0_0,.string a0_1,.string a0_2,.int .i64 a0_3,.int .i64 a0_4,.int .i64 a0_5,.int .i64 a0_6,.int .i64 a0_7,.int .u8 a0_8,.string a0_9,.string a0_10]) (t:=55) ?hr ?_;(case hd=>rfl);(case hg=>rfl);(case hr=>first|(go_simp;done)|(go_simp;rfl));intro gb hg w1 hbox hb1;have HG:=Aside0.mk hg;have HK:=Aside0.mk hbox;have HB1:=Aside0.mk hb1;have hc8:w1.cell? ⟨gb,8,none⟩ = some (.int .u8 a0_8):=(blk_cell HK.out 8).trans rfl;clear hg hbox hb1)|(go_at_call 77;refine (creelref_has.calls k _ _ false _ HA0.out).mono ?_;rintro e w2 ⟨rfl,nd,rfl⟩))
  go_ret2
  exact ⟨rfl,pwbN HB1.out nd⟩
 | true =>
  rw [if_pos rfl] at h;obtain ⟨r1,A1,h2⟩:=Option.bind_eq_some_iff.mp h;clear h;have h:=h2;clear h2;obtain ⟨r2,A2,h2⟩:=Option.bind_eq_some_iff.mp h;clear h;have h:=h2;clear h2;obtain ⟨r3,A3,h2⟩:=Option.bind_eq_some_iff.mp h;clear h;have h:=h2;clear h2;obtain ⟨r4,A4,h2⟩:=Option.bind_eq_some_iff.mp h;clear h;have h:=h2;clear h2;obtain ⟨r5,A5,h2⟩:=Option.bind_eq_some_iff.mp h;clear h;have h:=h2;clear h2;obtain ⟨r6,A6,h2⟩:=Option.bind_eq_some_iff.mp h;clear h;have h:=h2;clear h2;obtain ⟨r7,A7,h2⟩:=Option.bind_eq_some_iff.mp h;clear h;have h:=h2;clear h2;obtain ⟨r8,A8,h2⟩:=Option.bind_eq_some_iff.mp h;clear h;have h:=h2;clear h2;obtain ⟨r9,A9,h2⟩:=Option.bind_eq_some_iff.mp h;clear h;have h:=h2;clear h2;obtain ⟨r10,A10,h2⟩:=Option.bind_eq_some_iff.mp h;clear h;have h:=h2;clear h2;obtain ⟨r11,A11,h2⟩:=Option.bind_eq_some_iff.mp h;clear h;have h:=h2;clear h2;obtain ⟨z1,Az1,h2⟩:=Option.bind_eq_some_iff.mp h;clear h;have h:=h2;clear h2;obtain ⟨z2,Az2,h2⟩:=Option.bind_eq_some_iff.mp h;clear h;have h:=h2;clear h2;by_cases hsz:r1.1.size + r2.1.size + r3.1.size + r4.1.size + r5.1.size + r6.1.size + r7.1.size + r8.1.size + r9.1.size + r10.1.size + r11.1.size + r10.1.size + z1.size + z2.size ≤ 100000
  ·rw [if_pos hsz] at h;have F1:Aside0 (∀ W:World,Calls Tryz.prog 79 #[.string a0_0,.int .i64 100,.bool true] W fun e w'=>e = .returned (.tuple #[.string r1.1,.int .i64 r1.2])∧Below W.heap.size W w'):=⟨fun W=>(creelref_FieldText.calls k a0_0 100 true r1.1 r1.2 W A1).mono (by rintro e w' ⟨rfl,nd,rfl⟩;exact ⟨rfl,pwbN (Below.refl _ _) nd⟩)⟩
   have F2:Aside0 (∀ W:World,Calls Tryz.prog 81 #[.int .i64 a0_3,.int .i64 8] W fun e w'=>e = .returned (.tuple #[.string r2.1,.int .i64 r2.2])∧Below W.heap.size W w'):=⟨fun W=>(creelref_OctalText.calls k a0_3 8 r2.1 r2.2 W A2).mono (by rintro e w' ⟨rfl,nd,rfl⟩;exact ⟨rfl,pwbN (Below.refl _ _) nd⟩)⟩
   have F3:Aside0 (∀ W:World,Calls Tryz.prog 81 #[.int .i64 a0_4,.int .i64 8] W fun e w'=>e = .returned (.tuple #[.string r3.1,.int .i64 r3.2])∧Below W.heap.size W w'):=⟨fun W=>(creelref_OctalText.calls k a0_4 8 r3.1 r3.2 W A3).mono (by rintro e w' ⟨rfl,nd,rfl⟩;exact ⟨rfl,pwbN (Below.refl _ _) nd⟩)⟩
   have F4:Aside0 (∀ W:World,Calls Tryz.prog 81 #[.int .i64 a0_5,.int .i64 8] W fun e w'=>e = .returned (.tuple #[.string r4.1,.int .i64 r4.2])∧Below W.heap.size W w'):=⟨fun W=>(creelref_OctalText.calls k a0_5 8 r4.1 r4.2 W A4).mono (by rintro e w' ⟨rfl,nd,rfl⟩;exact ⟨rfl,pwbN (Below.refl _ _) nd⟩)⟩
   have F5:Aside0 (∀ W:World,Calls Tryz.prog 81 #[.int .i64 a0_6,.int .i64 12] W fun e w'=>e = .returned (.tuple #[.string r5.1,.int .i64 r5.2])∧Below W.heap.size W w'):=⟨fun W=>(creelref_OctalText.calls k a0_6 12 r5.1 r5.2 W A5).mono (by rintro e w' ⟨rfl,nd,rfl⟩;exact ⟨rfl,pwbN (Below.refl _ _) nd⟩)⟩
   have F6:Aside0 (∀ W:World,Calls Tryz.prog 81 #[.int .i64 a0_7,.int .i64 12] W fun e w'=>e = .returned (.tuple #[.string r6.1,.int .i64 r6.2])∧Below W.heap.size W w'):=⟨fun W=>(creelref_OctalText.calls k a0_7 12 r6.1 r6.2 W A6).mono (by rintro e w' ⟨rfl,nd,rfl⟩;exact ⟨rfl,pwbN (Below.refl _ _) nd⟩)⟩
   have F7:Aside0 (∀ W:World,Calls Tryz.prog 79 #[.string a0_2,.int .i64 100,.bool true] W fun e w'=>e = .returned (.tuple #[.string r7.1,.int .i64 r7.2])∧Below W.heap.size W w'):=⟨fun W=>(creelref_FieldText.calls k a0_2 100 true r7.1 r7.2 W A7).mono (by rintro e w' ⟨rfl,nd,rfl⟩;exact ⟨rfl,pwbN (Below.refl _ _) nd⟩)⟩
   have F8:Aside0 (∀ W:World,Calls Tryz.prog 79 #[.string a0_9,.int .i64 32,.bool false] W fun e w'=>e = .returned (.tuple #[.string r8.1,.int .i64 r8.2])∧Below W.heap.size W w'):=⟨fun W=>(creelref_FieldText.calls k a0_9 32 false r8.1 r8.2 W A8).mono (by rintro e w' ⟨rfl,nd,rfl⟩;exact ⟨rfl,pwbN (Below.refl _ _) nd⟩)⟩
   have F9:Aside0 (∀ W:World,Calls Tryz.prog 79 #[.string a0_10,.int .i64 32,.bool false] W fun e w'=>e = .returned (.tuple #[.string r9.1,.int .i64 r9.2])∧Below W.heap.size W w'):=⟨fun W=>(creelref_FieldText.calls k a0_10 32 false r9.1 r9.2 W A9).mono (by rintro e w' ⟨rfl,nd,rfl⟩;exact ⟨rfl,pwbN (Below.refl _ _) nd⟩)⟩
   have F10:Aside0 (∀ W:World,Calls Tryz.prog 81 #[.int .i64 0,.int .i64 8] W fun e w'=>e = .returned (.tuple #[.string r10.1,.int .i64 r10.2])∧Below W.heap.size W w'):=⟨fun W=>(creelref_OctalText.calls k 0 8 r10.1 r10.2 W A10).mono (by rintro e w' ⟨rfl,nd,rfl⟩;exact ⟨rfl,pwbN (Below.refl _ _) nd⟩)⟩
   have F11:Aside0 (∀ W:World,Calls Tryz.prog 79 #[.string a0_1,.int .i64 155,.bool true] W fun e w'=>e = .returned (.tuple #[.string r11.1,.int .i64 r11.2])∧Below W.heap.size W w'):=⟨fun W=>(creelref_FieldText.calls k a0_1 155 true r11.1 r11.2 W A11).mono (by rintro e w' ⟨rfl,nd,rfl⟩;exact ⟨rfl,pwbN (Below.refl _ _) nd⟩)⟩
   have HH:=Aside0.mk h;have HZ:=Aside0.mk hsz;clear h hsz A1 A2 A3 A4 A5 A6 A7 A8 A9 A10 A11;have HAz1:=Aside0.mk Az1;have HAz2:=Aside0.mk Az2;clear Az1 Az2;go_enter Tryz.func33,Tryz.ntmps33;go_upto_region 7 with (first|((with_reducible refine gate_dst (N:=1) rfl ?_);refine box_event ?hg (N:=1) ?hd (cs:=#[.string a0_0,.string a0_1,.string a0_2,.int .i64 a0_3,.int .i64 a0_4,.int .i64 a0_5,.int .i64 a0_6,.int .i64 a0_7,.int .u8 a0_8,.string a0_9,.string a0_10]) (t:=55) ?hr ?_;(case hd=>rfl);(case hg=>rfl);(case hr=>first|(go_simp;done)|(go_simp;rfl));intro gb hg w1 hbox hb1;have HG:=Aside0.mk hg;have HK:=Aside0.mk hbox;have HB1:=Aside0.mk hb1;have hc8:w1.cell? ⟨gb,8,none⟩ = some (.int .u8 a0_8):=(blk_cell HK.out 8).trans rfl;clear hg hbox hb1)|(go_at_call 77;refine (creelref_has.calls k _ _ true _ HA0.out).mono ?_;rintro e w2 ⟨rfl,nd,rfl⟩)|((with_reducible refine gate_dst (N:=4) rfl ?_);refine box_event ?hg (N:=4) ?hd (cs:=#[.int .i64 0]) (t:=27) ?hr ?_;(case hd=>rfl);(case hg=>rfl);(case hr=>first|(go_simp;done)|(go_simp;rfl));intro gw hg w3 hbox3 hb3;have HG3:=Aside0.mk hg;have HK3:=Aside0.mk hbox3;have HB3:=Aside0.mk hb3;have hcc4:w3.cell? ⟨gw,0,none⟩ = some (.int .i64 0):=(blk_cell HK3.out 0).trans rfl;have hff4:=blkF HK3.out 0;clear hg hbox3 hb3)|((with_reducible refine gate_dst (N:=5) rfl ?_);refine box_event ?hg (N:=5) ?hd (cs:=#[.string (⟨#[]⟩:ByteArray)]) (t:=9) ?hr ?_;(case hd=>rfl);(case hg=>rfl);(case hr=>first|(go_simp;done)|(go_simp;rfl));intro gs hg w3 hbox3 hb3;have HG4:=Aside0.mk hg;have HK4:=Aside0.mk hbox3;have HB4:=Aside0.mk hb3;have hcc5:w3.cell? ⟨gs,0,none⟩ = some (.string (⟨#[]⟩:ByteArray)):=(blk_cell HK4.out 0).trans rfl;have hff5:=blkF HK4.out 0;clear hg hbox3 hb3))
   have HS:=Aside0.mk (creelref_HeadText.St.start HG.out HK.out HB1.out HG3.out HK3.out HB3.out HG4.out HK4.out HB4.out);clear HG HK HB1 HG3 HK3 HB3 HG4 HK4 HB4 HA0 hc8 hcc4 hff4 hcc5 hff5;have hv0:=blk_cell HS.out.2.1 0;have hv1:=blk_cell HS.out.2.1 1;have hv2:=blk_cell HS.out.2.1 2;have hv3:=blk_cell HS.out.2.1 3;have hv4:=blk_cell HS.out.2.1 4;have hv5:=blk_cell HS.out.2.1 5;have hv6:=blk_cell HS.out.2.1 6;have hv7:=blk_cell HS.out.2.1 7;have hv8:=blk_cell HS.out.2.1 8;have hv9:=blk_cell HS.out.2.1 9;have hv10:=blk_cell HS.out.2.1 10;go_upto_region 13 with (first|(go_at_call 78;(first|(with_reducible refine (creelref_HeadText.textS w _ #[.string a0_0,.string a0_1,.string a0_2,.int .i64 a0_3,.int .i64 a0_4,.int .i64 a0_5,.int .i64 a0_6,.int .i64 a0_7,.int .u8 a0_8,.string a0_9,.string a0_10] gb gw gs _ a0_0 100 true r1 HS.out F1.out ?hlen).mono ?_)|(with_reducible refine (creelref_HeadText.textS w _ #[.string a0_0,.string a0_1,.string a0_2,.int .i64 a0_3,.int .i64 a0_4,.int .i64 a0_5,.int .i64 a0_6,.int .i64 a0_7,.int .u8 a0_8,.string a0_9,.string a0_10] gb gw gs _ a0_2 100 true r7 HS.out F7.out ?hlen).mono ?_)|(with_reducible refine (creelref_HeadText.textS w _ #[.string a0_0,.string a0_1,.string a0_2,.int .i64 a0_3,.int .i64 a0_4,.int .i64 a0_5,.int .i64 a0_6,.int .i64 a0_7,.int .u8 a0_8,.string a0_9,.string a0_10] gb gw gs _ a0_9 32 false r8 HS.out F8.out ?hlen).mono ?_)|(with_reducible refine (creelref_HeadText.textS w _ #[.string a0_0,.string a0_1,.string a0_2,.int .i64 a0_3,.int .i64 a0_4,.int .i64 a0_5,.int .i64 a0_6,.int .i64 a0_7,.int .u8 a0_8,.string a0_9,.string a0_10] gb gw gs _ a0_10 32 false r9 HS.out F9.out ?hlen).mono ?_)|(with_reducible refine (creelref_HeadText.textS w _ #[.string a0_0,.string a0_1,.string a0_2,.int .i64 a0_3,.int .i64 a0_4,.int .i64 a0_5,.int .i64 a0_6,.int .i64 a0_7,.int .u8 a0_8,.string a0_9,.string a0_10] gb gw gs _ a0_1 155 true r11 HS.out F11.out ?hlen).mono ?_));(case hlen=>exact (by have h1:=HZ.out;have h2:(⟨#[]⟩:ByteArray).size = 0:=rfl;have h3:(⟨#[117,115,116,97,114]⟩:ByteArray).size = 5:=rfl;have h4:(⟨#[48,48]⟩:ByteArray).size = 2:=rfl;simp only [creelref_HeadText.more,creelref_HeadText.app,ByteArray.size_append,h2,h3,h4,creelref_HeadText.blank_size];omega));rintro e w9 ⟨rfl,hS⟩;have HS9:=Aside0.mk hS;clear HS hS;have HS:=HS9;clear HS9;have hv0:=blk_cell HS.out.2.1 0;have hv1:=blk_cell HS.out.2.1 1;have hv2:=blk_cell HS.out.2.1 2;have hv3:=blk_cell HS.out.2.1 3;have hv4:=blk_cell HS.out.2.1 4;have hv5:=blk_cell HS.out.2.1 5;have hv6:=blk_cell HS.out.2.1 6;have hv7:=blk_cell HS.out.2.1 7;have hv8:=blk_cell HS.out.2.1 8;have hv9:=blk_cell HS.out.2.1 9;have hv10:=blk_cell HS.out.2.1 10)|(go_at_call 80;(first|(with_reducible refine (creelref_HeadText.numberS w _ #[.string a0_0,.string a0_1,.string a0_2,.int .i64 a0_3,.int .i64 a0_4,.int .i64 a0_5,.int .i64 a0_6,.int .i64 a0_7,.int .u8 a0_8,.string a0_9,.string a0_10] gb gw gs _ a0_3 8 r2 HS.out F2.out ?hlen).mono ?_)|(with_reducible refine (creelref_HeadText.numberS w _ #[.string a0_0,.string a0_1,.string a0_2,.int .i64 a0_3,.int .i64 a0_4,.int .i64 a0_5,.int .i64 a0_6,.int .i64 a0_7,.int .u8 a0_8,.string a0_9,.string a0_10] gb gw gs _ a0_4 8 r3 HS.out F3.out ?hlen).mono ?_)|(with_reducible refine (creelref_HeadText.numberS w _ #[.string a0_0,.string a0_1,.string a0_2,.int .i64 a0_3,.int .i64 a0_4,.int .i64 a0_5,.int .i64 a0_6,.int .i64 a0_7,.int .u8 a0_8,.string a0_9,.string a0_10] gb gw gs _ a0_5 8 r4 HS.out F4.out ?hlen).mono ?_)|(with_reducible refine (creelref_HeadText.numberS w _ #[.string a0_0,.string a0_1,.string a0_2,.int .i64 a0_3,.int .i64 a0_4,.int .i64 a0_5,.int .i64 a0_6,.int .i64 a0_7,.int .u8 a0_8,.string a0_9,.string a0_10] gb gw gs _ a0_6 12 r5 HS.out F5.out ?hlen).mono ?_)|(with_reducible refine (creelref_HeadText.numberS w _ #[.string a0_0,.string a0_1,.string a0_2,.int .i64 a0_3,.int .i64 a0_4,.int .i64 a0_5,.int .i64 a0_6,.int .i64 a0_7,.int .u8 a0_8,.string a0_9,.string a0_10] gb gw gs _ a0_7 12 r6 HS.out F6.out ?hlen).mono ?_)|(with_reducible refine (creelref_HeadText.numberS w _ #[.string a0_0,.string a0_1,.string a0_2,.int .i64 a0_3,.int .i64 a0_4,.int .i64 a0_5,.int .i64 a0_6,.int .i64 a0_7,.int .u8 a0_8,.string a0_9,.string a0_10] gb gw gs _ 0 8 r10 HS.out F10.out ?hlen).mono ?_));(case hlen=>exact (by have h1:=HZ.out;have h2:(⟨#[]⟩:ByteArray).size = 0:=rfl;have h3:(⟨#[117,115,116,97,114]⟩:ByteArray).size = 5:=rfl;have h4:(⟨#[48,48]⟩:ByteArray).size = 2:=rfl;simp only [creelref_HeadText.more,creelref_HeadText.app,ByteArray.size_append,h2,h3,h4,creelref_HeadText.blank_size];omega));rintro e w9 ⟨rfl,hS⟩;have HS9:=Aside0.mk hS;clear HS hS;have HS:=HS9;clear HS9;have hv0:=blk_cell HS.out.2.1 0;have hv1:=blk_cell HS.out.2.1 1;have hv2:=blk_cell HS.out.2.1 2;have hv3:=blk_cell HS.out.2.1 3;have hv4:=blk_cell HS.out.2.1 4;have hv5:=blk_cell HS.out.2.1 5;have hv6:=blk_cell HS.out.2.1 6;have hv7:=blk_cell HS.out.2.1 7;have hv8:=blk_cell HS.out.2.1 8;have hv9:=blk_cell HS.out.2.1 9;have hv10:=blk_cell HS.out.2.1 10))
   (try simp only [Act.put,List.setIfInBounds_toArray,List.set_cons_zero,List.set_cons_succ]);go_cut [] (fun wc=>Aside0 (creelref_HeadText.St w wc #[.string a0_0,.string a0_1,.string a0_2,.int .i64 a0_3,.int .i64 a0_4,.int .i64 a0_5,.int .i64 a0_6,.int .i64 a0_7,.int .u8 a0_8,.string a0_9,.string a0_10] gb gw gs (creelref_HeadText.app (creelref_HeadText.more (creelref_HeadText.more (creelref_HeadText.more (creelref_HeadText.more (creelref_HeadText.more (creelref_HeadText.more ((0,(⟨#[]⟩:ByteArray)):Int × ByteArray) r1) r2) r3) r4) r5) r6) (creelref_HeadText.blank a0_8))))
   case first =>
    have hcv:=creelref_HeadText.conv1 w9 a0_8;have hgs0:w9.cell? ⟨gs,0,none⟩ = some (.string (creelref_HeadText.more (creelref_HeadText.more (creelref_HeadText.more (creelref_HeadText.more (creelref_HeadText.more (creelref_HeadText.more ((0,(⟨#[]⟩:ByteArray)):Int × ByteArray) r1) r2) r3) r4) r5) r6).2):=(blk_cell HS.out.2.2.2.1 0).trans rfl;have hgs:(w9.alloc (.cells #[.int .u8 a0_8] 5 (0,0))).cell? ⟨gs,0,none⟩ = some (.string (creelref_HeadText.more (creelref_HeadText.more (creelref_HeadText.more (creelref_HeadText.more (creelref_HeadText.more (creelref_HeadText.more ((0,(⟨#[]⟩:ByteArray)):Int × ByteArray) r1) r2) r3) r4) r5) r6).2):=(blk_cell (blk_alloc HS.out.2.2.2.1 _) 0).trans rfl;have hfs:(w9.alloc (.cells #[.int .u8 a0_8] 5 (0,0))).frozen? ⟨gs,0,none⟩ = false:=blkF (blk_alloc HS.out.2.2.2.1 _) 0;have hz1:(9223372036854775807 < 8 + (strOfNums [a0_8]).size) = False:=eq_false (Nat.not_lt.2 (by show 9 ≤ 9223372036854775807;decide));have hz2:(9223372036854775807 < (creelref_HeadText.more (creelref_HeadText.more (creelref_HeadText.more (creelref_HeadText.more (creelref_HeadText.more (creelref_HeadText.more ((0,(⟨#[]⟩:ByteArray)):Int × ByteArray) r1) r2) r3) r4) r5) r6).2.size + (8 + (strOfNums [a0_8]).size)) = False:=eq_false (Nat.not_lt.2 (by have h1:=HZ.out;have h2:(⟨#[]⟩:ByteArray).size = 0:=rfl;have h3:(⟨#[117,115,116,97,114]⟩:ByteArray).size = 5:=rfl;have h4:(⟨#[48,48]⟩:ByteArray).size = 2:=rfl;have h5:(strOfNums [a0_8]).size = 1:=rfl;simp only [creelref_HeadText.more,creelref_HeadText.app,ByteArray.size_append,h2,h3,h4,h5,creelref_HeadText.blank_size];omega));go_wp2;go_meet
    case rel=>exact ⟨creelref_HeadText.St.put HS.out (bwA (Below.refl _ _) _) _⟩
   case rest =>
    clear hv0 hv1 hv2 hv3 hv4 hv5 hv6 hv7 hv8 hv9 hv10 HS;have HS:=hcut;have hv0:=blk_cell HS.out.2.1 0;have hv1:=blk_cell HS.out.2.1 1;have hv2:=blk_cell HS.out.2.1 2;have hv3:=blk_cell HS.out.2.1 3;have hv4:=blk_cell HS.out.2.1 4;have hv5:=blk_cell HS.out.2.1 5;have hv6:=blk_cell HS.out.2.1 6;have hv7:=blk_cell HS.out.2.1 7;have hv8:=blk_cell HS.out.2.1 8;have hv9:=blk_cell HS.out.2.1 9;have hv10:=blk_cell HS.out.2.1 10;go_upto_region 15 with (first|(go_at_call 78;(first|(with_reducible refine (creelref_HeadText.textS w _ #[.string a0_0,.string a0_1,.string a0_2,.int .i64 a0_3,.int .i64 a0_4,.int .i64 a0_5,.int .i64 a0_6,.int .i64 a0_7,.int .u8 a0_8,.string a0_9,.string a0_10] gb gw gs _ a0_0 100 true r1 HS.out F1.out ?hlen).mono ?_)|(with_reducible refine (creelref_HeadText.textS w _ #[.string a0_0,.string a0_1,.string a0_2,.int .i64 a0_3,.int .i64 a0_4,.int .i64 a0_5,.int .i64 a0_6,.int .i64 a0_7,.int .u8 a0_8,.string a0_9,.string a0_10] gb gw gs _ a0_2 100 true r7 HS.out F7.out ?hlen).mono ?_)|(with_reducible refine (creelref_HeadText.textS w _ #[.string a0_0,.string a0_1,.string a0_2,.int .i64 a0_3,.int .i64 a0_4,.int .i64 a0_5,.int .i64 a0_6,.int .i64 a0_7,.int .u8 a0_8,.string a0_9,.string a0_10] gb gw gs _ a0_9 32 false r8 HS.out F8.out ?hlen).mono ?_)|(with_reducible refine (creelref_HeadText.textS w _ #[.string a0_0,.string a0_1,.string a0_2,.int .i64 a0_3,.int .i64 a0_4,.int .i64 a0_5,.int .i64 a0_6,.int .i64 a0_7,.int .u8 a0_8,.string a0_9,.string a0_10] gb gw gs _ a0_10 32 false r9 HS.out F9.out ?hlen).mono ?_)|(with_reducible refine (creelref_HeadText.textS w _ #[.string a0_0,.string a0_1,.string a0_2,.int .i64 a0_3,.int .i64 a0_4,.int .i64 a0_5,.int .i64 a0_6,.int .i64 a0_7,.int .u8 a0_8,.string a0_9,.string a0_10] gb gw gs _ a0_1 155 true r11 HS.out F11.out ?hlen).mono ?_));(case hlen=>exact (by have h1:=HZ.out;have h2:(⟨#[]⟩:ByteArray).size = 0:=rfl;have h3:(⟨#[117,115,116,97,114]⟩:ByteArray).size = 5:=rfl;have h4:(⟨#[48,48]⟩:ByteArray).size = 2:=rfl;simp only [creelref_HeadText.more,creelref_HeadText.app,ByteArray.size_append,h2,h3,h4,creelref_HeadText.blank_size];omega));rintro e w9 ⟨rfl,hS⟩;have HS9:=Aside0.mk hS;clear HS hS;have HS:=HS9;clear HS9;have hv0:=blk_cell HS.out.2.1 0;have hv1:=blk_cell HS.out.2.1 1;have hv2:=blk_cell HS.out.2.1 2;have hv3:=blk_cell HS.out.2.1 3;have hv4:=blk_cell HS.out.2.1 4;have hv5:=blk_cell HS.out.2.1 5;have hv6:=blk_cell HS.out.2.1 6;have hv7:=blk_cell HS.out.2.1 7;have hv8:=blk_cell HS.out.2.1 8;have hv9:=blk_cell HS.out.2.1 9;have hv10:=blk_cell HS.out.2.1 10)|(go_at_call 80;(first|(with_reducible refine (creelref_HeadText.numberS w _ #[.string a0_0,.string a0_1,.string a0_2,.int .i64 a0_3,.int .i64 a0_4,.int .i64 a0_5,.int .i64 a0_6,.int .i64 a0_7,.int .u8 a0_8,.string a0_9,.string a0_10] gb gw gs _ a0_3 8 r2 HS.out F2.out ?hlen).mono ?_)|(with_reducible refine (creelref_HeadText.numberS w _ #[.string a0_0,.string a0_1,.string a0_2,.int .i64 a0_3,.int .i64 a0_4,.int .i64 a0_5,.int .i64 a0_6,.int .i64 a0_7,.int .u8 a0_8,.string a0_9,.string a0_10] gb gw gs _ a0_4 8 r3 HS.out F3.out ?hlen).mono ?_)|(with_reducible refine (creelref_HeadText.numberS w _ #[.string a0_0,.string a0_1,.string a0_2,.int .i64 a0_3,.int .i64 a0_4,.int .i64 a0_5,.int .i64 a0_6,.int .i64 a0_7,.int .u8 a0_8,.string a0_9,.string a0_10] gb gw gs _ a0_5 8 r4 HS.out F4.out ?hlen).mono ?_)|(with_reducible refine (creelref_HeadText.numberS w _ #[.string a0_0,.string a0_1,.string a0_2,.int .i64 a0_3,.int .i64 a0_4,.int .i64 a0_5,.int .i64 a0_6,.int .i64 a0_7,.int .u8 a0_8,.string a0_9,.string a0_10] gb gw gs _ a0_6 12 r5 HS.out F5.out ?hlen).mono ?_)|(with_reducible refine (creelref_HeadText.numberS w _ #[.string a0_0,.string a0_1,.string a0_2,.int .i64 a0_3,.int .i64 a0_4,.int .i64 a0_5,.int .i64 a0_6,.int .i64 a0_7,.int .u8 a0_8,.string a0_9,.string a0_10] gb gw gs _ a0_7 12 r6 HS.out F6.out ?hlen).mono ?_)|(with_reducible refine (creelref_HeadText.numberS w _ #[.string a0_0,.string a0_1,.string a0_2,.int .i64 a0_3,.int .i64 a0_4,.int .i64 a0_5,.int .i64 a0_6,.int .i64 a0_7,.int .u8 a0_8,.string a0_9,.string a0_10] gb gw gs _ 0 8 r10 HS.out F10.out ?hlen).mono ?_));(case hlen=>exact (by have h1:=HZ.out;have h2:(⟨#[]⟩:ByteArray).size = 0:=rfl;have h3:(⟨#[117,115,116,97,114]⟩:ByteArray).size = 5:=rfl;have h4:(⟨#[48,48]⟩:ByteArray).size = 2:=rfl;simp only [creelref_HeadText.more,creelref_HeadText.app,ByteArray.size_append,h2,h3,h4,creelref_HeadText.blank_size];omega));rintro e w9 ⟨rfl,hS⟩;have HS9:=Aside0.mk hS;clear HS hS;have HS:=HS9;clear HS9;have hv0:=blk_cell HS.out.2.1 0;have hv1:=blk_cell HS.out.2.1 1;have hv2:=blk_cell HS.out.2.1 2;have hv3:=blk_cell HS.out.2.1 3;have hv4:=blk_cell HS.out.2.1 4;have hv5:=blk_cell HS.out.2.1 5;have hv6:=blk_cell HS.out.2.1 6;have hv7:=blk_cell HS.out.2.1 7;have hv8:=blk_cell HS.out.2.1 8;have hv9:=blk_cell HS.out.2.1 9;have hv10:=blk_cell HS.out.2.1 10))
    (try simp only [Act.put,List.setIfInBounds_toArray,List.set_cons_zero,List.set_cons_succ]);go_cut [] (fun wc=>Aside0 (creelref_HeadText.St w wc #[.string a0_0,.string a0_1,.string a0_2,.int .i64 a0_3,.int .i64 a0_4,.int .i64 a0_5,.int .i64 a0_6,.int .i64 a0_7,.int .u8 a0_8,.string a0_9,.string a0_10] gb gw gs (creelref_HeadText.app (creelref_HeadText.more (creelref_HeadText.app (creelref_HeadText.more (creelref_HeadText.more (creelref_HeadText.more (creelref_HeadText.more (creelref_HeadText.more (creelref_HeadText.more ((0,(⟨#[]⟩:ByteArray)):Int × ByteArray) r1) r2) r3) r4) r5) r6) (creelref_HeadText.blank a0_8)) r7) ((⟨#[117,115,116,97,114]⟩:ByteArray) ++ z1 ++ (⟨#[48,48]⟩:ByteArray)))))
    case first =>
     have hgs:w9.cell? ⟨gs,0,none⟩ = some (.string (creelref_HeadText.more (creelref_HeadText.app (creelref_HeadText.more (creelref_HeadText.more (creelref_HeadText.more (creelref_HeadText.more (creelref_HeadText.more (creelref_HeadText.more ((0,(⟨#[]⟩:ByteArray)):Int × ByteArray) r1) r2) r3) r4) r5) r6) (creelref_HeadText.blank a0_8)) r7).2):=(blk_cell HS.out.2.2.2.1 0).trans rfl;have hfs:w9.frozen? ⟨gs,0,none⟩ = false:=blkF HS.out.2.2.2.1 0;have hz1:(9223372036854775807 < 5 + z1.size) = False:=eq_false (Nat.not_lt.2 (by have:=HZ.out;omega));have hz2:(9223372036854775807 < 5 + z1.size + 2) = False:=eq_false (Nat.not_lt.2 (by have:=HZ.out;omega));have hz3:(9223372036854775807 < (creelref_HeadText.more (creelref_HeadText.app (creelref_HeadText.more (creelref_HeadText.more (creelref_HeadText.more (creelref_HeadText.more (creelref_HeadText.more (creelref_HeadText.more ((0,(⟨#[]⟩:ByteArray)):Int × ByteArray) r1) r2) r3) r4) r5) r6) (creelref_HeadText.blank a0_8)) r7).2.size + (5 + z1.size + 2)) = False:=eq_false (Nat.not_lt.2 (by have h1:=HZ.out;have h2:(⟨#[]⟩:ByteArray).size = 0:=rfl;have h3:(⟨#[117,115,116,97,114]⟩:ByteArray).size = 5:=rfl;have h4:(⟨#[48,48]⟩:ByteArray).size = 2:=rfl;simp only [creelref_HeadText.more,creelref_HeadText.app,ByteArray.size_append,h2,h3,h4,creelref_HeadText.blank_size];omega));go_region_with ((go_at_call 50;refine (creelref_zeros.calls k 1 z1 _ HAz1.out).mono ?_;rintro e w3 ⟨rfl,nd,rfl⟩))
     all_goals (go_wp2;go_meet;exact ⟨creelref_HeadText.St.put HS.out (pwbN (Below.refl _ _) _) _⟩)
    case rest =>
     clear hv0 hv1 hv2 hv3 hv4 hv5 hv6 hv7 hv8 hv9 hv10 HS;have HS:=hcut;have hv0:=blk_cell HS.out.2.1 0;have hv1:=blk_cell HS.out.2.1 1;have hv2:=blk_cell HS.out.2.1 2;have hv3:=blk_cell HS.out.2.1 3;have hv4:=blk_cell HS.out.2.1 4;have hv5:=blk_cell HS.out.2.1 5;have hv6:=blk_cell HS.out.2.1 6;have hv7:=blk_cell HS.out.2.1 7;have hv8:=blk_cell HS.out.2.1 8;have hv9:=blk_cell HS.out.2.1 9;have hv10:=blk_cell HS.out.2.1 10;go_upto_region 21 with (first|(go_at_call 78;(first|(with_reducible refine (creelref_HeadText.textS w _ #[.string a0_0,.string a0_1,.string a0_2,.int .i64 a0_3,.int .i64 a0_4,.int .i64 a0_5,.int .i64 a0_6,.int .i64 a0_7,.int .u8 a0_8,.string a0_9,.string a0_10] gb gw gs _ a0_0 100 true r1 HS.out F1.out ?hlen).mono ?_)|(with_reducible refine (creelref_HeadText.textS w _ #[.string a0_0,.string a0_1,.string a0_2,.int .i64 a0_3,.int .i64 a0_4,.int .i64 a0_5,.int .i64 a0_6,.int .i64 a0_7,.int .u8 a0_8,.string a0_9,.string a0_10] gb gw gs _ a0_2 100 true r7 HS.out F7.out ?hlen).mono ?_)|(with_reducible refine (creelref_HeadText.textS w _ #[.string a0_0,.string a0_1,.string a0_2,.int .i64 a0_3,.int .i64 a0_4,.int .i64 a0_5,.int .i64 a0_6,.int .i64 a0_7,.int .u8 a0_8,.string a0_9,.string a0_10] gb gw gs _ a0_9 32 false r8 HS.out F8.out ?hlen).mono ?_)|(with_reducible refine (creelref_HeadText.textS w _ #[.string a0_0,.string a0_1,.string a0_2,.int .i64 a0_3,.int .i64 a0_4,.int .i64 a0_5,.int .i64 a0_6,.int .i64 a0_7,.int .u8 a0_8,.string a0_9,.string a0_10] gb gw gs _ a0_10 32 false r9 HS.out F9.out ?hlen).mono ?_)|(with_reducible refine (creelref_HeadText.textS w _ #[.string a0_0,.string a0_1,.string a0_2,.int .i64 a0_3,.int .i64 a0_4,.int .i64 a0_5,.int .i64 a0_6,.int .i64 a0_7,.int .u8 a0_8,.string a0_9,.string a0_10] gb gw gs _ a0_1 155 true r11 HS.out F11.out ?hlen).mono ?_));(case hlen=>exact (by have h1:=HZ.out;have h2:(⟨#[]⟩:ByteArray).size = 0:=rfl;have h3:(⟨#[117,115,116,97,114]⟩:ByteArray).size = 5:=rfl;have h4:(⟨#[48,48]⟩:ByteArray).size = 2:=rfl;simp only [creelref_HeadText.more,creelref_HeadText.app,ByteArray.size_append,h2,h3,h4,creelref_HeadText.blank_size];omega));rintro e w9 ⟨rfl,hS⟩;have HS9:=Aside0.mk hS;clear HS hS;have HS:=HS9;clear HS9;have hv0:=blk_cell HS.out.2.1 0;have hv1:=blk_cell HS.out.2.1 1;have hv2:=blk_cell HS.out.2.1 2;have hv3:=blk_cell HS.out.2.1 3;have hv4:=blk_cell HS.out.2.1 4;have hv5:=blk_cell HS.out.2.1 5;have hv6:=blk_cell HS.out.2.1 6;have hv7:=blk_cell HS.out.2.1 7;have hv8:=blk_cell HS.out.2.1 8;have hv9:=blk_cell HS.out.2.1 9;have hv10:=blk_cell HS.out.2.1 10)|(go_at_call 80;(first|(with_reducible refine (creelref_HeadText.numberS w _ #[.string a0_0,.string a0_1,.string a0_2,.int .i64 a0_3,.int .i64 a0_4,.int .i64 a0_5,.int .i64 a0_6,.int .i64 a0_7,.int .u8 a0_8,.string a0_9,.string a0_10] gb gw gs _ a0_3 8 r2 HS.out F2.out ?hlen).mono ?_)|(with_reducible refine (creelref_HeadText.numberS w _ #[.string a0_0,.string a0_1,.string a0_2,.int .i64 a0_3,.int .i64 a0_4,.int .i64 a0_5,.int .i64 a0_6,.int .i64 a0_7,.int .u8 a0_8,.string a0_9,.string a0_10] gb gw gs _ a0_4 8 r3 HS.out F3.out ?hlen).mono ?_)|(with_reducible refine (creelref_HeadText.numberS w _ #[.string a0_0,.string a0_1,.string a0_2,.int .i64 a0_3,.int .i64 a0_4,.int .i64 a0_5,.int .i64 a0_6,.int .i64 a0_7,.int .u8 a0_8,.string a0_9,.string a0_10] gb gw gs _ a0_5 8 r4 HS.out F4.out ?hlen).mono ?_)|(with_reducible refine (creelref_HeadText.numberS w _ #[.string a0_0,.string a0_1,.string a0_2,.int .i64 a0_3,.int .i64 a0_4,.int .i64 a0_5,.int .i64 a0_6,.int .i64 a0_7,.int .u8 a0_8,.string a0_9,.string a0_10] gb gw gs _ a0_6 12 r5 HS.out F5.out ?hlen).mono ?_)|(with_reducible refine (creelref_HeadText.numberS w _ #[.string a0_0,.string a0_1,.string a0_2,.int .i64 a0_3,.int .i64 a0_4,.int .i64 a0_5,.int .i64 a0_6,.int .i64 a0_7,.int .u8 a0_8,.string a0_9,.string a0_10] gb gw gs _ a0_7 12 r6 HS.out F6.out ?hlen).mono ?_)|(with_reducible refine (creelref_HeadText.numberS w _ #[.string a0_0,.string a0_1,.string a0_2,.int .i64 a0_3,.int .i64 a0_4,.int .i64 a0_5,.int .i64 a0_6,.int .i64 a0_7,.int .u8 a0_8,.string a0_9,.string a0_10] gb gw gs _ 0 8 r10 HS.out F10.out ?hlen).mono ?_));(case hlen=>exact (by have h1:=HZ.out;have h2:(⟨#[]⟩:ByteArray).size = 0:=rfl;have h3:(⟨#[117,115,116,97,114]⟩:ByteArray).size = 5:=rfl;have h4:(⟨#[48,48]⟩:ByteArray).size = 2:=rfl;simp only [creelref_HeadText.more,creelref_HeadText.app,ByteArray.size_append,h2,h3,h4,creelref_HeadText.blank_size];omega));rintro e w9 ⟨rfl,hS⟩;have HS9:=Aside0.mk hS;clear HS hS;have HS:=HS9;clear HS9;have hv0:=blk_cell HS.out.2.1 0;have hv1:=blk_cell HS.out.2.1 1;have hv2:=blk_cell HS.out.2.1 2;have hv3:=blk_cell HS.out.2.1 3;have hv4:=blk_cell HS.out.2.1 4;have hv5:=blk_cell HS.out.2.1 5;have hv6:=blk_cell HS.out.2.1 6;have hv7:=blk_cell HS.out.2.1 7;have hv8:=blk_cell HS.out.2.1 8;have hv9:=blk_cell HS.out.2.1 9;have hv10:=blk_cell HS.out.2.1 10))
     (try simp only [Act.put,List.setIfInBounds_toArray,List.set_cons_zero,List.set_cons_succ]);go_cut [] (fun wc=>Aside0 (creelref_HeadText.St w wc #[.string a0_0,.string a0_1,.string a0_2,.int .i64 a0_3,.int .i64 a0_4,.int .i64 a0_5,.int .i64 a0_6,.int .i64 a0_7,.int .u8 a0_8,.string a0_9,.string a0_10] gb gw gs (creelref_HeadText.app (creelref_HeadText.more (creelref_HeadText.more (creelref_HeadText.more (creelref_HeadText.more (creelref_HeadText.more (creelref_HeadText.app (creelref_HeadText.more (creelref_HeadText.app (creelref_HeadText.more (creelref_HeadText.more (creelref_HeadText.more (creelref_HeadText.more (creelref_HeadText.more (creelref_HeadText.more ((0,(⟨#[]⟩:ByteArray)):Int × ByteArray) r1) r2) r3) r4) r5) r6) (creelref_HeadText.blank a0_8)) r7) ((⟨#[117,115,116,97,114]⟩:ByteArray) ++ z1 ++ (⟨#[48,48]⟩:ByteArray))) r8) r9) r10) r10) r11) z2)))
     case first =>
      have hgs:w9.cell? ⟨gs,0,none⟩ = some (.string (creelref_HeadText.more (creelref_HeadText.more (creelref_HeadText.more (creelref_HeadText.more (creelref_HeadText.more (creelref_HeadText.app (creelref_HeadText.more (creelref_HeadText.app (creelref_HeadText.more (creelref_HeadText.more (creelref_HeadText.more (creelref_HeadText.more (creelref_HeadText.more (creelref_HeadText.more ((0,(⟨#[]⟩:ByteArray)):Int × ByteArray) r1) r2) r3) r4) r5) r6) (creelref_HeadText.blank a0_8)) r7) ((⟨#[117,115,116,97,114]⟩:ByteArray) ++ z1 ++ (⟨#[48,48]⟩:ByteArray))) r8) r9) r10) r10) r11).2):=(blk_cell HS.out.2.2.2.1 0).trans rfl;have hfs:w9.frozen? ⟨gs,0,none⟩ = false:=blkF HS.out.2.2.2.1 0;have hz3:(9223372036854775807 < (creelref_HeadText.more (creelref_HeadText.more (creelref_HeadText.more (creelref_HeadText.more (creelref_HeadText.more (creelref_HeadText.app (creelref_HeadText.more (creelref_HeadText.app (creelref_HeadText.more (creelref_HeadText.more (creelref_HeadText.more (creelref_HeadText.more (creelref_HeadText.more (creelref_HeadText.more ((0,(⟨#[]⟩:ByteArray)):Int × ByteArray) r1) r2) r3) r4) r5) r6) (creelref_HeadText.blank a0_8)) r7) ((⟨#[117,115,116,97,114]⟩:ByteArray) ++ z1 ++ (⟨#[48,48]⟩:ByteArray))) r8) r9) r10) r10) r11).2.size + z2.size) = False:=eq_false (Nat.not_lt.2 (by have h1:=HZ.out;have h2:(⟨#[]⟩:ByteArray).size = 0:=rfl;have h3:(⟨#[117,115,116,97,114]⟩:ByteArray).size = 5:=rfl;have h4:(⟨#[48,48]⟩:ByteArray).size = 2:=rfl;simp only [creelref_HeadText.more,creelref_HeadText.app,ByteArray.size_append,h2,h3,h4,creelref_HeadText.blank_size];omega));go_region_with ((go_at_call 50;refine (creelref_zeros.calls k 12 z2 _ HAz2.out).mono ?_;rintro e w3 ⟨rfl,nd,rfl⟩))
      all_goals (go_wp2;go_meet;exact ⟨creelref_HeadText.St.put HS.out (pwbN (Below.refl _ _) _) _⟩)
     case rest =>
      clear hv0 hv1 hv2 hv3 hv4 hv5 hv6 hv7 hv8 hv9 hv10 HS;have HS:=hcut;have hQ:=HH.out;have hlt:(creelref_HeadText.app (creelref_HeadText.more (creelref_HeadText.more (creelref_HeadText.more (creelref_HeadText.more (creelref_HeadText.more (creelref_HeadText.app (creelref_HeadText.more (creelref_HeadText.app (creelref_HeadText.more (creelref_HeadText.more (creelref_HeadText.more (creelref_HeadText.more (creelref_HeadText.more (creelref_HeadText.more ((0,(⟨#[]⟩:ByteArray)):Int × ByteArray) r1) r2) r3) r4) r5) r6) (creelref_HeadText.blank a0_8)) r7) ((⟨#[117,115,116,97,114]⟩:ByteArray) ++ z1 ++ (⟨#[48,48]⟩:ByteArray))) r8) r9) r10) r10) r11) z2).2.size ≤ 1000000:=by have h1:=HZ.out;have h2:(⟨#[]⟩:ByteArray).size = 0:=rfl;have h3:(⟨#[117,115,116,97,114]⟩:ByteArray).size = 5:=rfl;have h4:(⟨#[48,48]⟩:ByteArray).size = 2:=rfl;simp only [creelref_HeadText.more,creelref_HeadText.app,ByteArray.size_append,h2,h3,h4,creelref_HeadText.blank_size];omega
      clear HH F1 F2 F3 F4 F5 F6 F7 F8 F9 F10 F11 HAz1 HAz2;generalize (creelref_HeadText.app (creelref_HeadText.more (creelref_HeadText.more (creelref_HeadText.more (creelref_HeadText.more (creelref_HeadText.more (creelref_HeadText.app (creelref_HeadText.more (creelref_HeadText.app (creelref_HeadText.more (creelref_HeadText.more (creelref_HeadText.more (creelref_HeadText.more (creelref_HeadText.more (creelref_HeadText.more ((0,(⟨#[]⟩:ByteArray)):Int × ByteArray) r1) r2) r3) r4) r5) r6) (creelref_HeadText.blank a0_8)) r7) ((⟨#[117,115,116,97,114]⟩:ByteArray) ++ z1 ++ (⟨#[48,48]⟩:ByteArray))) r8) r9) r10) r10) r11) z2) = q at *;have hgw:wc.cell? ⟨gw,0,none⟩ = some (.int .i64 q.1):=(blk_cell HS.out.2.2.1 0).trans rfl;have hgs:wc.cell? ⟨gs,0,none⟩ = some (.string q.2):=(blk_cell HS.out.2.2.2.1 0).trans rfl;unfold creelref_HeadText.tail at hQ;by_cases h0:q.1 = 0
      ·rw [if_pos h0] at hQ;obtain ⟨n,An,hQ2⟩:=Option.bind_eq_some_iff.mp hQ;obtain ⟨u,Au,hQ3⟩:=Option.bind_eq_some_iff.mp hQ2;by_cases h1:156 ≤ q.2.size∧u.1.size ≤ 10000∧q.2.size ≤ 1000000
       ·rw [if_pos h1] at hQ3;simp only [Option.some.injEq,Prod.mk.injEq] at hQ3;obtain ⟨rfl,rfl⟩:=hQ3;have HAn:=Aside0.mk An;have HAu:=Aside0.mk Au;have h0a:(q.1 == 0) = true:=beq_iff_eq.mpr h0;have h0b:(q.1 != 0) = false:=bne_eq_false_iff_eq.mpr h0;obtain ⟨hs1,hs2,hs3⟩:=h1;clear hQ hQ2 An Au h0;go_wp2_with (first|(go_at_call 82;refine (creelref_HeadSum.calls k q.2 n.1 n.2 _ HAn.out).mono ?_;rintro e w3 ⟨rfl,nd,rfl⟩)|(go_at_call 81;refine (creelref_OctalText.calls k n.1 7 u.1 u.2 _ HAu.out).mono ?_;rintro e w4 ⟨rfl,nd2,rfl⟩))
        have hi1:(148:Int) ≤ (q.2.size:Int):=by omega
        have hi2:(156:Int) ≤ (q.2.size:Int):=by omega
        have hi3:148 ≤ q.2.size:=by omega
        go_quiet (fail)
        go_wp2;go_ret2
        exact ⟨rfl,by first|exact pwbN HS.out.2.2.2.2 _|exact pwbN (pwbN HS.out.2.2.2.2 _) _⟩
       ·rw [if_neg h1] at hQ3;cases hQ3
      ·rw [if_neg h0] at hQ;simp only [Option.some.injEq,Prod.mk.injEq] at hQ;obtain ⟨rfl,rfl⟩:=hQ;have h0a:(q.1 == 0) = false:=beq_eq_false_iff_ne.mpr h0;have h0b:(q.1 != 0) = true:=bne_iff_ne.mpr h0;clear h0;go_wp2;go_quiet (fail)
       go_wp2;go_ret2
       exact ⟨rfl,pwbN HS.out.2.2.2.2 _⟩
  ·rw [if_neg hsz] at h;cases h
end Go.Proofs.YtenbelecmmpdgaaGreatDoor.All
end
section
namespace Go.Proofs.YtenbelecmmpdgaaGreatDoor.All
open Go.RowKit Go.Proofs.YtenbelecmmpdgaaGreatDoorW.PrintWords Go.Proofs.YtenbelecmmpdgaaGreatDoorW.PrintLast Go.Proofs.YtenbelecmmpdgaaGreatDoorW.PrintMore
open Go.Proofs.YtenbelecmmpdgaaGreatDoorW.Mine
attribute [local go_sem] gtr_string leq_string geq_string
attribute [local go_sem] max2_int min2_int max_two min_two max_three min_three max_four min_four
set_option linter.unusedVariables false
set_option linter.unusedSimpArgs false
def creelref_PadFill.l0:Nat→List Int→Option (List Int)
 | 0,_=>none
 | k + 1,x3=>if ((x3.length:Int) % 512) = 0 then (some x3) else (if x3.length < 140737488355328 then (creelref_PadFill.l0 k (x3 ++ [0])) else (none))
def creelref_PadFill.f (k:Nat) (l0:List Int):Option (List Int):=(some (([]:List Int):List Int)).bind fun y101=>(if y101.length + l0.length < 140737488355328 then (creelref_PadFill.l0 k (y101 ++ l0)) else (none))
set_option maxHeartbeats 8000000 in
set_option maxRecDepth 100000 in
theorem creelref_PadFill.calls (k:Nat) (A0:Option Addr) (c0:Nat) (l0:List Int) (r:List Int) (w:World) (hr0:Kd.C (Kd.int .u8) w A0 l0.length l0) (hc0:l0.length ≤ c0) (h:creelref_PadFill.f k l0 = some r) :
 Calls Tryz.prog 34 #[.slice A0 l0.length c0] w fun e w'=>∃ v0_:Value,e = .returned (v0_)∧Kd.R (Kd.int .u8) 5 w' w.heap.size (fun _=>True) v0_ r∧Below w.heap.size w w':=by
 have HR0:=Aside0.mk hr0;have HC0:=Aside0.mk hc0;clear hr0 hc0;have HB:=Aside0.mk (Below.refl w.heap.size w);have H:((some (([]:List Int):List Int)).bind fun y101=>(if y101.length + l0.length < 140737488355328 then (creelref_PadFill.l0 k (y101 ++ l0)) else (none))) = some r:=h;clear h;obtain ⟨y101,hy101⟩:∃ y_:List Int,y_ = (([]:List Int)):=⟨_,rfl⟩
 replace H:(if y101.length + l0.length < 140737488355328 then (creelref_PadFill.l0 k (y101 ++ l0)) else (none)) = some r:=by first|(rw [hy101];with_reducible exact H)|(have H2_:=(Option.bind_some _ _).symm.trans H;rw [hy101];with_reducible exact H2_)|(have H2_:=(Option.bind_some _ _).symm.trans H;with_reducible exact H2_)|with_reducible exact H|(rw [hy101];exact H)|exact H
 have Ny101:=Aside0.mk hy101;clear hy101;by_cases c2:y101.length + l0.length < 140737488355328
 ·rw [if_pos c2] at H;have LMc2:=Aside0.mk c2;clear c2;obtain ⟨y104,hy104⟩:∃ y_:List Int,y_ = (y101 ++ l0):=⟨_,rfl⟩
  replace H:(creelref_PadFill.l0 k y104) = some r:=by first|(rw [hy104];with_reducible exact H)|(have H2_:=(Option.bind_some _ _).symm.trans H;rw [hy104];with_reducible exact H2_)|(have H2_:=(Option.bind_some _ _).symm.trans H;with_reducible exact H2_)|with_reducible exact H|(rw [hy104];exact H)|exact H
  have Ny104:=Aside0.mk hy104;clear hy104;have H':=Aside0.mk H;clear H;go_enter Tryz.func34,Tryz.ntmps34;go_wp2_with (first|((with_reducible refine gate_dst (N:=4) rfl ?_);refine Kd.R_lit (Kd.int .u8) _ 5 ?hg (N:=4) ?hd (xs:=([]:List Int)) (inner:=[]) (ok:=fun _=>True) (okp:=fun _=>True) ?hr ?hp (fun _ hk=>hk) trivial (Below.refl _ _) (Nat.le_refl _) (by simp) ?_;(case hd=>rfl);(case hg=>rfl);(case hr=>first|(go_simp;done)|(go_simp;rfl));(case hp=>exact (Reps.none _ _));intro v102 w3 ho4 hb hg_ hnew_;clear hg_ hnew_;(first|rw [← Ny101.out] at ho4|(simp only [Int.reduceToNat] at ho4;rw [← Ny101.out] at ho4));have n0_:=Aside0.mk (Kd.R_lower ho4 (below_size (by repeat (first|(with_reducible first|exact HB.out|apply bwA|apply pwbN|apply bw1)|exact HB.out))));have n1_:=Aside0.mk (below_step (by repeat (first|(with_reducible first|exact HB.out|apply bwA|apply pwbN|apply bw1)|exact HB.out)) hb);clear HB;have HO103:=n0_;have HB:=n1_;clear n0_ n1_;clear hb ho4)|((with_reducible refine gate_builtin (b := .append) (xs:=#[.tmp 4,.tmp 5]) rfl ?_);at_builtin;refine Kd.R_append_rows (Kd.int .u8) (w0:=w) w.heap.size rfl (.tmp 4) (.tmp 5) 24 5 (.int .u8 0) 1 rfl Tryz.underlying24 info5 rfl (by decide) (by omega) v102 y101 l0 _ _ _ (fun _=>True) (fun _=>False) rfl rfl ?aO ?aR (fun _ _ h=>h) (fun _ h=>h.elim) ?aF ?aB ?aS ?aL ?_;(case aR=>repeat (first|exact (Kd.C_below HR0.out HB.out)|(with_reducible refine Kd.C_alloc ?_ _)|(with_reducible refine Kd.C_drewN ?_ _)|(with_reducible refine Kd.C_drew ?_)));(case aB=>exact (by repeat (first|(with_reducible first|exact HB.out|apply bwA|apply pwbN|apply bw1)|exact HB.out)));(case aF=>exact (fun _ _=>trivial));(case aO=>exact (by (with_reducible repeat (first|apply Kd.R_alloc|apply Kd.R_drewN|apply Kd.R_drew));exact HO103.out));(case aS=>exact (below_size (by repeat (first|(with_reducible first|exact HB.out|apply bwA|apply pwbN|apply bw1)|exact HB.out))));(case aL=>have:=LMc2.out;omega);intro v105 w5 ho hb hg hat;rw [← Ny104.out] at ho;have n0_:=Aside0.mk (hb);have n1_:=Aside0.mk (ho);clear HB;clear HO103;have HB:=n0_;have HO106:=n1_;clear n0_ n1_;clear ho hb hg hat))
  go_loopg [3] k (fun kq v3 w'=>∃ (x3_1:List Int),Aside0 (creelref_PadFill.l0 kq x3_1 = some r)∧Aside0 (kq ≤ k)∧Aside0 (Kd.R (Kd.int .u8) 5 w' w.heap.size (fun _=>True) v3 x3_1)∧Aside0 (Below w.heap.size w w'))
  case atStart=>exact ⟨(y104),H',⟨Nat.le_refl _⟩,⟨by (with_reducible repeat (first|apply Kd.R_alloc|apply Kd.R_drewN|apply Kd.R_drew));exact HO106.out⟩,⟨by repeat (first|(with_reducible first|exact HB.out|apply bwA|apply pwbN|apply bw1)|exact HB.out)⟩⟩
  case round =>
   clear H';try clear c2
   obtain ⟨x3_1,HA,HK1,HO_3,HB⟩:=hrel;cases gk with
   | zero=>exact absurd HA.out (by simp [creelref_PadFill.l0])
   | succ k1 =>
    have H:=HA.out;clear HA;simp only [creelref_PadFill.l0] at H;by_cases c6:((x3_1.length:Int) % 512) = 0
    ·rw [if_pos c6] at H;have c6b0:(((x3_1.length:Int) % 512) == 0) = true:=beq_iff_eq.mpr c6;have c6b1:(((x3_1.length:Int) % 512) != 0) = false:=bne_eq_false_iff_eq.mpr c6;clear c6;obtain rfl:=Option.some.inj H;obtain ⟨Ao7,co7,eo7⟩:=Kd.R_slice HO_3.out;subst eo7;go_wp2;go_ret
     exact ⟨_,by first|rfl|(simp [errW_none,errW_some] <;> rfl)|(simp [*,errW_none,errW_some] <;> rfl),by (with_reducible repeat (first|apply Kd.R_alloc|apply Kd.R_drewN|apply Kd.R_drew));exact HO_3.out,by repeat (first|(with_reducible first|exact HB.out|apply bwA|apply pwbN|apply bw1)|exact HB.out)⟩
    ·rw [if_neg c6] at H;have c6b0:(((x3_1.length:Int) % 512) == 0) = false:=beq_eq_false_iff_ne.mpr c6;have c6b1:(((x3_1.length:Int) % 512) != 0) = true:=bne_iff_ne.mpr c6;by_cases c8:x3_1.length < 140737488355328
     ·rw [if_pos c8] at H;have LMc8:=Aside0.mk c8;clear c8;obtain ⟨y107,hy107⟩:∃ y_:List Int,y_ = (x3_1 ++ [0]):=⟨_,rfl⟩
      replace H:(creelref_PadFill.l0 k1 y107) = some r:=by first|(rw [hy107];with_reducible exact H)|(have H2_:=(Option.bind_some _ _).symm.trans H;rw [hy107];with_reducible exact H2_)|(have H2_:=(Option.bind_some _ _).symm.trans H;with_reducible exact H2_)|with_reducible exact H|(rw [hy107];exact H)|exact H
      have Ny107:=Aside0.mk hy107;clear hy107;have H':=Aside0.mk H;clear H;obtain ⟨Ao9,co9,eo9⟩:=Kd.R_slice HO_3.out;subst eo9;go_wp2_with (first|((with_reducible refine gate_builtin (b := .append) (xs:=#[.tmp 11,.tmp 12]) rfl ?_);at_builtin;refine Kd.R_append (Kd.int .u8) (w0:=w) w.heap.size rfl (.tmp 11) (.tmp 12) 24 5 (.int .u8 0) 1 rfl Tryz.underlying24 info5 rfl (by decide) (by omega) (.slice Ao9 x3_1.length co9) x3_1 0 [.int .u8 0] (fun _=>True) (fun _=>False) rfl rfl ?aP (fun _ hk=>hk.elim) ?aF ?aO ?aB ?aS ?aL ?_;(case aP=>exact rfl);(case aB=>exact (by repeat (first|(with_reducible first|exact HB.out|apply bwA|apply pwbN|apply bw1)|exact HB.out)));(case aF=>exact (fun _ _=>trivial));(case aO=>exact (by (with_reducible repeat (first|apply Kd.R_alloc|apply Kd.R_drewN|apply Kd.R_drew));exact HO_3.out));(case aS=>exact (below_size (by repeat (first|(with_reducible first|exact HB.out|apply bwA|apply pwbN|apply bw1)|exact HB.out))));(case aL=>have:=LMc8.out;omega);intro v108 w10 ho hb hg hat;rw [← Ny107.out] at ho;have n0_:=Aside0.mk (hb);have n1_:=Aside0.mk (ho);clear HB;clear HO_3;have HB:=n0_;have HO109:=n1_;clear n0_ n1_;clear ho hb hg hat))
      go_roundg k1
      case measure=>have:=HK1.out;omega
      case rel=>exact ⟨(y107),H',⟨by have:=HK1.out;omega⟩,⟨by (with_reducible repeat (first|apply Kd.R_alloc|apply Kd.R_drewN|apply Kd.R_drew));exact HO109.out⟩,⟨by repeat (first|(with_reducible first|exact HB.out|apply bwA|apply pwbN|apply bw1)|exact HB.out)⟩⟩
     ·rw [if_neg c8] at H;exact absurd H (by simp)
 ·rw [if_neg c2] at H;exact absurd H (by simp)
def creelref_RecordFault.j0:Nat→Bool→ByteArray→ByteArray→Option (Int)
 | 0,_,_,_=>none
 | k + 1,x17,x102000,x102001=>if x17 = true then (some 1) else ((creelref_has.f k x102000 61).bind fun t102=>(if t102 = true then (some 3) else ((creelref_has.f k x102000 10).bind fun t103=>(if t103 = true then (some 3) else ((creelref_has.f k x102001 0).bind fun t104=>(if t104 = true then (some 3) else (some 0)))))))
def creelref_RecordFault.f (k:Nat) (a0_0:ByteArray) (a0_1:ByteArray):Option (Int):=if a0_0.toList = ([]:List UInt8) then (creelref_RecordFault.j0 k true a0_0 a0_1) else (if (a0_0.size:Int) > 60 then (creelref_RecordFault.j0 k true a0_0 a0_1) else (creelref_RecordFault.j0 k (decide ((a0_1.size:Int) > 500)) a0_0 a0_1))
theorem creelref_RecordFault.mono_l:∀ k,(∀ y0 y1 y2,LeO (creelref_RecordFault.j0 k y0 y1 y2) (creelref_RecordFault.j0 (k + 1) y0 y1 y2))
 | 0=>fun _ _ _ r h=>by simp [creelref_RecordFault.j0] at h
 | k + 1=>by
  have ih0:=creelref_RecordFault.mono_l k
  ·intro y0 y1 y2
   unfold creelref_RecordFault.j0
   repeat' first
   | (with_reducible exact ih0 _ _ _)
   | (with_reducible exact creelref_has.mono _ _ _)
   | (with_reducible exact LeO.refl _)
   | (with_reducible exact LeO.none _)
   | (with_reducible refine LeO.ite ?_ ?_)
   | (with_reducible refine LeO.bind ?_ (fun _=>?_))
   | exact ih0 _ _ _
   | exact creelref_has.mono _ _ _
   | exact LeO.none _
   | refine LeO.ite ?_ ?_
   | refine LeO.bind ?_ (fun _=>?_)
theorem creelref_RecordFault.mono:∀ a0 a1 k,LeO (creelref_RecordFault.f k a0 a1) (creelref_RecordFault.f (k + 1) a0 a1):=by
 intro a0 a1 k;have ih0:=creelref_RecordFault.mono_l k;unfold creelref_RecordFault.f;repeat' first
  | (with_reducible exact ih0 _ _ _)
  | (with_reducible exact creelref_has.mono _ _ _)
  | (with_reducible exact LeO.refl _)
  | (with_reducible exact LeO.none _)
  | (with_reducible refine LeO.ite ?_ ?_)
  | (with_reducible refine LeO.bind ?_ (fun _=>?_))
  | exact ih0 _ _ _
  | exact creelref_has.mono _ _ _
  | exact LeO.none _
  | refine LeO.ite ?_ ?_
  | refine LeO.bind ?_ (fun _=>?_)
set_option maxHeartbeats 8000000 in
set_option maxRecDepth 100000 in
theorem creelref_RecordFault.calls (k:Nat) (a0_0:ByteArray) (a0_1:ByteArray) (r:Int) (w:World) (h:creelref_RecordFault.f k a0_0 a0_1 = some r) :
 Calls Tryz.prog 118 #[.agg #[.string a0_0,.string a0_1]] w fun e w'=>e = .returned (.int .i64 r)∧Below w.heap.size w w':=by
 have hu78:=Tryz.underlying78;have HB:=Aside0.mk (Below.refl w.heap.size w);have H:(if a0_0.toList = ([]:List UInt8) then (creelref_RecordFault.j0 k true a0_0 a0_1) else (if (a0_0.size:Int) > 60 then (creelref_RecordFault.j0 k true a0_0 a0_1) else (creelref_RecordFault.j0 k (decide ((a0_1.size:Int) > 500)) a0_0 a0_1))) = some r:=h;clear h;have HC2:=Aside0.mk H;clear H;go_enter Tryz.func118,Tryz.ntmps118;go_upto_region 1 with (first|((with_reducible refine gate_dst (N:=1) rfl ?_);(try (refine gate_guard (by rfl) ?_;dsimp only));refine box_event ?hg (N:=1) ?hd (cs:=#[.string a0_0,.string a0_1]) (t:=78) ?hr ?_;(case hd=>rfl);(case hg=>rfl);(case hr=>first|(go_simp;done)|(go_simp;rfl));intro gb101 hg w3 hbox hb;have n0_:=Aside0.mk (below_step (by repeat (first|(with_reducible first|exact HB.out|apply bwA|apply pwbN|apply bw1)|exact HB.out)) hb);have n1_:=Aside0.mk (hbox);have n2_:=Aside0.mk ((by rw [hg];exact (below_size (by repeat (first|(with_reducible first|exact HB.out|apply bwA|apply pwbN|apply bw1)|exact HB.out))):w.heap.size ≤ gb101));have n3_:=Aside0.mk ((by rw [hg];exact (below_size (by repeat (first|(with_reducible first|exact HB.out|apply bwA|apply pwbN|apply bw1)|exact HB.out))):w.heap.size ≤ gb101));clear HB;have HB:=n0_;have BK101:=n1_;have GW101:=n2_;have GE101:=n3_;clear n0_ n1_ n2_ n3_;clear hb hbox hg))
 (try simp only [Act.put,List.setIfInBounds_toArray,List.set_cons_zero,List.set_cons_succ]);go_cut [17] (fun v17 wc=>∃ (kq:Nat) (x17_1:Bool),v17 = .bool x17_1∧Aside0 (creelref_RecordFault.j0 kq x17_1 a0_0 a0_1 = some r)∧Aside0 (kq ≤ k)∧Aside0 (wc.heap[gb101]? = some (.cells #[.string a0_0,.string a0_1] 78 (0,0)))∧Aside0 (Below w.heap.size w wc))
 case first =>
  have H:=HC2.out;clear HC2;by_cases c4:a0_0.toList = ([]:List UInt8)
  ·rw [if_pos c4] at H;have c4b0:(a0_0.toList == ([]:List UInt8)) = true:=beq_iff_eq.mpr c4;have c4b1:(a0_0.toList != ([]:List UInt8)) = false:=bne_eq_false_iff_eq.mpr c4;clear c4;(first|rw [c4b0]|(simp only [i64_w,i32_w];rw [c4b0])|skip);have H':=Aside0.mk H;clear H;obtain ⟨_,_,_,_⟩:=blkA2 BK101.out;go_wp2;go_meet
   case rel=>exact ⟨_,(true),(by first|rfl|(simp;done)|(simp [*];done)),H',⟨by first|omega|exact Nat.le_refl _⟩,⟨by (with_reducible repeat (first|refine blk_drewN ?_ _|refine blk_drew ?_|refine blk_alloc ?_ _));exact BK101.out⟩,⟨by repeat (first|(with_reducible first|exact HB.out|apply bwA|apply pwbN|apply bw1|refine below_set ?_ GE101.out)|exact HB.out)⟩⟩
  ·rw [if_neg c4] at H;have c4b0:(a0_0.toList == ([]:List UInt8)) = false:=beq_eq_false_iff_ne.mpr c4;have c4b1:(a0_0.toList != ([]:List UInt8)) = true:=bne_iff_ne.mpr c4;(first|rw [c4b0]|(simp only [i64_w,i32_w];rw [c4b0])|skip);by_cases c6:(a0_0.size:Int) > 60
   ·rw [if_pos c6] at H;have c6b0:decide (60 < (a0_0.size:Int)) = true:=decide_eq_true c6;have c6b1:decide (60 < a0_0.size) = true:=decide_eq_true (by omega);clear c6;have H':=Aside0.mk H;clear H;obtain ⟨_,_,_,_⟩:=blkA2 BK101.out;go_wp2;go_meet
    case rel=>exact ⟨_,(true),(by first|rfl|(simp;done)|(simp [*];done)),H',⟨by first|omega|exact Nat.le_refl _⟩,⟨by (with_reducible repeat (first|refine blk_drewN ?_ _|refine blk_drew ?_|refine blk_alloc ?_ _));exact BK101.out⟩,⟨by repeat (first|(with_reducible first|exact HB.out|apply bwA|apply pwbN|apply bw1|refine below_set ?_ GE101.out)|exact HB.out)⟩⟩
   ·rw [if_neg c6] at H;have c6b0:decide (60 < (a0_0.size:Int)) = false:=decide_eq_false c6;have c6b1:decide (60 < a0_0.size) = false:=decide_eq_false (by omega);clear c6;have H':=Aside0.mk H;clear H;obtain ⟨_,_,_,_⟩:=blkA2 BK101.out;go_wp2;go_meet
    case rel=>exact ⟨_,(decide ((a0_1.size:Int) > 500)),(by first|rfl|(simp;done)|(simp [*];done)),H',⟨by first|omega|exact Nat.le_refl _⟩,⟨by (with_reducible repeat (first|refine blk_drewN ?_ _|refine blk_drew ?_|refine blk_alloc ?_ _));exact BK101.out⟩,⟨by repeat (first|(with_reducible first|exact HB.out|apply bwA|apply pwbN|apply bw1|refine below_set ?_ GE101.out)|exact HB.out)⟩⟩
 case rest =>
  clear HC2;obtain ⟨kq,x17_1,rfl,HA,HJ1,BK101,HB⟩:=hcut;cases kq with
  | zero=>exact absurd HA.out (by simp [creelref_RecordFault.j0])
  | succ kj1 =>
   have H:=HA.out;clear HA;simp only [creelref_RecordFault.j0] at H;by_cases c9:x17_1 = true
   ·subst c9;have H1:(some 1) = some r:=by rw [if_pos rfl] at H;exact H
    clear H;have H:=H1;clear H1;obtain rfl:=Option.some.inj H;go_wp2;go_ret
    exact ⟨by first|rfl|(simp [errW_none,errW_some] <;> rfl)|(simp [*,errW_none,errW_some] <;> rfl),by repeat (first|(with_reducible first|exact HB.out|apply bwA|apply pwbN|apply bw1|refine below_set ?_ GE101.out)|exact HB.out)⟩
   ·replace c9:=Bool.eq_false_iff.mpr c9;subst c9;have H1:((creelref_has.f kj1 a0_0 61).bind fun t102=>(if t102 = true then (some 3) else ((creelref_has.f kj1 a0_0 10).bind fun t103=>(if t103 = true then (some 3) else ((creelref_has.f kj1 a0_1 0).bind fun t104=>(if t104 = true then (some 3) else (some 0))))))) = some r:=by rw [if_neg (show ¬ (false = true) by decide)] at H;exact H
    clear H;have H:=H1;clear H1;replace H:=Option.bind_eq_some_iff.mp H;obtain ⟨t102,A100,H⟩:=H;replace H:(if t102 = true then (some 3) else ((creelref_has.f kj1 a0_0 10).bind fun t103=>(if t103 = true then (some 3) else ((creelref_has.f kj1 a0_1 0).bind fun t104=>(if t104 = true then (some 3) else (some 0)))))) = some r:=H;have A10:=Aside0.mk A100;clear A100;by_cases c11:t102 = true
    ·subst c11;have H1:(some 3) = some r:=by rw [if_pos rfl] at H;exact H
     clear H;have H:=H1;clear H1;obtain rfl:=Option.some.inj H;obtain ⟨_,_,_,_⟩:=blkA2 BK101.out;go_wp2_with (first|((with_reducible refine gate_callee (f:=77) rfl ?_);refine goesL_ (some 20) rfl rfl Tryz.func77 (by kernel_rfl) rfl #[.string a0_0,.int .u8 61] rfl (by (try simp only [List.map_toArray,List.map_cons,List.map_nil]);first|done|rfl|(simp only [List.length_drop,List.length_take];rfl)) ?_;(with_reducible refine (creelref_has.calls kj1 a0_0 61 true _ A10.out).mono ?_);rintro e w' ⟨rfl,⟨nd,rfl⟩⟩;refine ⟨_,rfl,?_⟩))
     go_ret
     exact ⟨by first|rfl|(simp [errW_none,errW_some] <;> rfl)|(simp [*,errW_none,errW_some] <;> rfl),by repeat (first|(with_reducible first|exact HB.out|apply bwA|apply pwbN|apply bw1|refine below_set ?_ GE101.out)|exact HB.out)⟩
    ·replace c11:=Bool.eq_false_iff.mpr c11;subst c11;have H1:((creelref_has.f kj1 a0_0 10).bind fun t103=>(if t103 = true then (some 3) else ((creelref_has.f kj1 a0_1 0).bind fun t104=>(if t104 = true then (some 3) else (some 0))))) = some r:=by rw [if_neg (show ¬ (false = true) by decide)] at H;exact H
     clear H;have H:=H1;clear H1;replace H:=Option.bind_eq_some_iff.mp H;obtain ⟨t103,A130,H⟩:=H;replace H:(if t103 = true then (some 3) else ((creelref_has.f kj1 a0_1 0).bind fun t104=>(if t104 = true then (some 3) else (some 0)))) = some r:=H;have A13:=Aside0.mk A130;clear A130;by_cases c14:t103 = true
     ·subst c14;have H1:(some 3) = some r:=by rw [if_pos rfl] at H;exact H
      clear H;have H:=H1;clear H1;obtain rfl:=Option.some.inj H;obtain ⟨_,_,_,_⟩:=blkA2 BK101.out;go_wp2_with (first|((with_reducible refine gate_callee (f:=77) rfl ?_);refine goesL_ (some 20) rfl rfl Tryz.func77 (by kernel_rfl) rfl #[.string a0_0,.int .u8 61] rfl (by (try simp only [List.map_toArray,List.map_cons,List.map_nil]);first|done|rfl|(simp only [List.length_drop,List.length_take];rfl)) ?_;(with_reducible refine (creelref_has.calls kj1 a0_0 61 false _ A10.out).mono ?_);rintro e w' ⟨rfl,⟨nd,rfl⟩⟩;refine ⟨_,rfl,?_⟩)|(go_at_call 77;(with_reducible refine (creelref_has.calls kj1 a0_0 10 true _ A13.out).mono ?_);rintro e w' ⟨rfl,⟨nd,rfl⟩⟩))
      go_ret
      exact ⟨by first|rfl|(simp [errW_none,errW_some] <;> rfl)|(simp [*,errW_none,errW_some] <;> rfl),by repeat (first|(with_reducible first|exact HB.out|apply bwA|apply pwbN|apply bw1|refine below_set ?_ GE101.out)|exact HB.out)⟩
     ·replace c14:=Bool.eq_false_iff.mpr c14;subst c14;have H1:((creelref_has.f kj1 a0_1 0).bind fun t104=>(if t104 = true then (some 3) else (some 0))) = some r:=by rw [if_neg (show ¬ (false = true) by decide)] at H;exact H
      clear H;have H:=H1;clear H1;replace H:=Option.bind_eq_some_iff.mp H;obtain ⟨t104,A160,H⟩:=H;replace H:(if t104 = true then (some 3) else (some 0)) = some r:=H;have A16:=Aside0.mk A160;clear A160;by_cases c17:t104 = true
      ·subst c17;have H1:(some 3) = some r:=by rw [if_pos rfl] at H;exact H
       clear H;have H:=H1;clear H1;obtain rfl:=Option.some.inj H;obtain ⟨_,_,_,_⟩:=blkA2 BK101.out;go_wp2_with (first|((with_reducible refine gate_callee (f:=77) rfl ?_);refine goesL_ (some 20) rfl rfl Tryz.func77 (by kernel_rfl) rfl #[.string a0_0,.int .u8 61] rfl (by (try simp only [List.map_toArray,List.map_cons,List.map_nil]);first|done|rfl|(simp only [List.length_drop,List.length_take];rfl)) ?_;(with_reducible refine (creelref_has.calls kj1 a0_0 61 false _ A10.out).mono ?_);rintro e w' ⟨rfl,⟨nd,rfl⟩⟩;refine ⟨_,rfl,?_⟩)|(go_at_call 77;(with_reducible refine (creelref_has.calls kj1 a0_0 10 false _ A13.out).mono ?_);rintro e w' ⟨rfl,⟨nd,rfl⟩⟩)|(go_at_call 77;(with_reducible refine (creelref_has.calls kj1 a0_1 0 true _ A16.out).mono ?_);rintro e w' ⟨rfl,⟨nd,rfl⟩⟩))
       go_ret
       exact ⟨by first|rfl|(simp [errW_none,errW_some] <;> rfl)|(simp [*,errW_none,errW_some] <;> rfl),by repeat (first|(with_reducible first|exact HB.out|apply bwA|apply pwbN|apply bw1|refine below_set ?_ GE101.out)|exact HB.out)⟩
      ·replace c17:=Bool.eq_false_iff.mpr c17;subst c17;have H1:(some 0) = some r:=by rw [if_neg (show ¬ (false = true) by decide)] at H;exact H
       clear H;have H:=H1;clear H1;obtain rfl:=Option.some.inj H;obtain ⟨_,_,_,_⟩:=blkA2 BK101.out;go_wp2_with (first|((with_reducible refine gate_callee (f:=77) rfl ?_);refine goesL_ (some 20) rfl rfl Tryz.func77 (by kernel_rfl) rfl #[.string a0_0,.int .u8 61] rfl (by (try simp only [List.map_toArray,List.map_cons,List.map_nil]);first|done|rfl|(simp only [List.length_drop,List.length_take];rfl)) ?_;(with_reducible refine (creelref_has.calls kj1 a0_0 61 false _ A10.out).mono ?_);rintro e w' ⟨rfl,⟨nd,rfl⟩⟩;refine ⟨_,rfl,?_⟩)|(go_at_call 77;(with_reducible refine (creelref_has.calls kj1 a0_0 10 false _ A13.out).mono ?_);rintro e w' ⟨rfl,⟨nd,rfl⟩⟩)|(go_at_call 77;(with_reducible refine (creelref_has.calls kj1 a0_1 0 false _ A16.out).mono ?_);rintro e w' ⟨rfl,⟨nd,rfl⟩⟩))
       go_ret
       exact ⟨by first|rfl|(simp [errW_none,errW_some] <;> rfl)|(simp [*,errW_none,errW_some] <;> rfl),by repeat (first|(with_reducible first|exact HB.out|apply bwA|apply pwbN|apply bw1|refine below_set ?_ GE101.out)|exact HB.out)⟩
def creelref_PaxFault.l0:Nat→ByteArray→List (S78)→Int→Int→Option (Int)
 | 0,_,_,_,_=>none
 | k + 1,x3,x10,x11,x12=>if x12 < x11 then (if 0 ≤ x12 then (if x12 < (x10.length:Int) then ((creelref_RecordFault.f k ((rd_T78 x10 x12).f0) ((rd_T78 x10 x12).f1)).bind fun t103=>(if t103 = 0 then (if ((Op.bytesLess x3.toList (((rd_T78 x10 x12).f0).toList)) = true) then (creelref_PaxFault.l0 k ((rd_T78 x10 x12).f0) x10 x11 (wrap64 (x12 + 1))) else (some 6)) else (some t103))) else (none)) else (none)) else (some 0)
def creelref_PaxFault.f (k:Nat) (l0:List (S78)):Option (Int):=if (l0.length:Int) > 12 then (some 1) else (creelref_PaxFault.l0 k (⟨#[]⟩:ByteArray) l0 (l0.length:Int) 0)
theorem creelref_PaxFault.mono_l:∀ k,(∀ y0 y1 y2 y3,LeO (creelref_PaxFault.l0 k y0 y1 y2 y3) (creelref_PaxFault.l0 (k + 1) y0 y1 y2 y3))
 | 0=>fun _ _ _ _ r h=>by simp [creelref_PaxFault.l0] at h
 | k + 1=>by
  have ih0:=creelref_PaxFault.mono_l k
  ·intro y0 y1 y2 y3
   unfold creelref_PaxFault.l0
   repeat' first
   | (with_reducible exact ih0 _ _ _ _)
   | (with_reducible exact creelref_RecordFault.mono _ _ _)
   | (with_reducible exact LeO.refl _)
   | (with_reducible exact LeO.none _)
   | (with_reducible refine LeO.ite ?_ ?_)
   | (with_reducible refine LeO.bind ?_ (fun _=>?_))
   | exact ih0 _ _ _ _
   | exact creelref_RecordFault.mono _ _ _
   | exact LeO.none _
   | refine LeO.ite ?_ ?_
   | refine LeO.bind ?_ (fun _=>?_)
theorem creelref_PaxFault.mono:∀ a0 k,LeO (creelref_PaxFault.f k a0) (creelref_PaxFault.f (k + 1) a0):=by
 intro a0 k;have ih0:=creelref_PaxFault.mono_l k;unfold creelref_PaxFault.f;repeat' first
  | (with_reducible exact ih0 _ _ _ _)
  | (with_reducible exact creelref_RecordFault.mono _ _ _)
  | (with_reducible exact LeO.refl _)
  | (with_reducible exact LeO.none _)
  | (with_reducible refine LeO.ite ?_ ?_)
  | (with_reducible refine LeO.bind ?_ (fun _=>?_))
  | exact ih0 _ _ _ _
  | exact creelref_RecordFault.mono _ _ _
  | exact LeO.none _
  | refine LeO.ite ?_ ?_
  | refine LeO.bind ?_ (fun _=>?_)
set_option maxHeartbeats 8000000 in
set_option maxRecDepth 100000 in
theorem creelref_PaxFault.calls (k:Nat) (A0:Option Addr) (c0:Nat) (l0:List (S78)) (r:Int) (w:World) (hr0:Kd.C k78 w A0 l0.length l0) (hc0:l0.length ≤ c0) (h:creelref_PaxFault.f k l0 = some r) :
 Calls Tryz.prog 83 #[.slice A0 l0.length c0] w fun e w'=>e = .returned (.int .i64 r)∧Below w.heap.size w w':=by
 have hu78:=Tryz.underlying78;have HR0:=Aside0.mk hr0;have HC0:=Aside0.mk hc0;clear hr0 hc0;have HB:=Aside0.mk (Below.refl w.heap.size w);have H:(if (l0.length:Int) > 12 then (some 1) else (creelref_PaxFault.l0 k (⟨#[]⟩:ByteArray) l0 (l0.length:Int) 0)) = some r:=h;clear h;by_cases c2:(l0.length:Int) > 12
 ·rw [if_pos c2] at H;have c2b0:decide (12 < (l0.length:Int)) = true:=decide_eq_true c2;have c2b1:decide (12 < l0.length) = true:=decide_eq_true (by omega);clear c2;obtain rfl:=Option.some.inj H;go_enter Tryz.func83,Tryz.ntmps83;go_wp2;go_ret
  exact ⟨by first|rfl|(simp [errW_none,errW_some] <;> rfl)|(simp [*,errW_none,errW_some] <;> rfl),by repeat (first|(with_reducible first|exact HB.out|apply bwA|apply pwbN|apply bw1)|exact HB.out)⟩
 ·rw [if_neg c2] at H;have c2b0:decide (12 < (l0.length:Int)) = false:=decide_eq_false c2;have c2b1:decide (12 < l0.length) = false:=decide_eq_false (by omega);clear c2;have H':=Aside0.mk H;clear H;go_enter Tryz.func83,Tryz.ntmps83;go_wp2;go_loopg [3,12] k (fun kq v3 v12 w'=>∃ (x3_1:ByteArray) (x12_1:Int),v3 = .string x3_1∧v12 = .int .i64 x12_1∧Aside0 (creelref_PaxFault.l0 kq x3_1 l0 (l0.length:Int) x12_1 = some r)∧Aside0 (kq ≤ k)∧Aside0 (Below w.heap.size w w'))
  case atStart=>exact ⟨((⟨#[]⟩:ByteArray)),(0),(by first|rfl|(simp;done)|(simp [*];done)),(by first|rfl|(simp;done)|(simp [*];done)),H',⟨Nat.le_refl _⟩,⟨by repeat (first|(with_reducible first|exact HB.out|apply bwA|apply pwbN|apply bw1)|exact HB.out)⟩⟩
  case round =>
   clear H';repeat first|clear c2|clear c2b0|clear c2b1
   obtain ⟨x3_1,x12_1,rfl,rfl,HA,HK1,HB⟩:=hrel;cases gk with
   | zero=>exact absurd HA.out (by simp [creelref_PaxFault.l0])
   | succ k1 =>
    have H:=HA.out;clear HA;simp only [creelref_PaxFault.l0] at H;by_cases c3:x12_1 < (l0.length:Int)
    ·rw [if_pos c3] at H;have c3b0:decide (x12_1 < (l0.length:Int)) = true:=decide_eq_true c3;clear c3;by_cases c4:0 ≤ x12_1
     ·rw [if_pos c4] at H;have c4b0:decide (0 ≤ x12_1) = true:=decide_eq_true c4;clear c4;by_cases c5:x12_1 < (l0.length:Int)
      ·rw [if_pos c5] at H;have c5b0:decide (x12_1 < (l0.length:Int)) = true:=decide_eq_true c5;clear c5;replace H:=Option.bind_eq_some_iff.mp H;obtain ⟨t103,A60,H⟩:=H;replace H:(if t103 = 0 then (if ((Op.bytesLess x3_1.toList (((rd_T78 l0 x12_1).f0).toList)) = true) then (creelref_PaxFault.l0 k1 ((rd_T78 l0 x12_1).f0) l0 (l0.length:Int) (wrap64 (x12_1 + 1))) else (some 6)) else (some t103)) = some r:=H;have A6:=Aside0.mk A60;clear A60;by_cases c7:t103 = 0
       ·rw [if_pos c7] at H;have c7b0:(t103 == 0) = true:=beq_iff_eq.mpr c7;have c7b1:(t103 != 0) = false:=bne_eq_false_iff_eq.mpr c7;clear c7;by_cases c8:((Op.bytesLess x3_1.toList (((rd_T78 l0 x12_1).f0).toList)) = true)
        ·rw [if_pos c8] at H;have c8b0:(Op.bytesLess x3_1.toList (((rd_T78 l0 x12_1).f0).toList)) = true:=c8;clear c8;have H':=Aside0.mk H;clear H;have p101:0 ≤ (x12_1:Int):=of_decide_eq_true (by first|(with_reducible assumption)|assumption);have q101:x12_1 < (l0.length:Int):=of_decide_eq_true (by first|(with_reducible assumption)|assumption);obtain ⟨ad101,e101,hx101_0,hx101_1⟩:=at_T78 HR0.out x12_1 p101 q101;cases e101;replace hx101_0:=(HB.out.cell (World.block_lt_of_cell? w _ hx101_0)).trans hx101_0;replace hx101_1:=(HB.out.cell (World.block_lt_of_cell? w _ hx101_1)).trans hx101_1;replace p101:=eq_true p101;replace q101:=eq_true q101;go_wp2_with (first|((with_reducible refine gate_dst (N:=5) rfl ?_);refine box_event ?hg (N:=5) ?hd (cs:=#[.string (⟨#[]⟩:ByteArray),.string (⟨#[]⟩:ByteArray)]) (t:=78) ?hr ?_;(case hd=>rfl);(case hg=>rfl);(case hr=>first|(go_simp;done)|(go_simp;rfl));intro gb102 hg w9 hbox hb;have n0_:=Aside0.mk (below_step (by repeat (first|(with_reducible first|exact HB.out|apply bwA|apply pwbN|apply bw1)|exact HB.out)) hb);have n1_:=Aside0.mk (hbox);have n2_:=Aside0.mk ((by rw [hg];exact (below_size (by repeat (first|(with_reducible first|exact HB.out|apply bwA|apply pwbN|apply bw1)|exact HB.out))):w.heap.size ≤ gb102));have n3_:=Aside0.mk ((by rw [hg];exact (below_size (by repeat (first|(with_reducible first|exact HB.out|apply bwA|apply pwbN|apply bw1)|exact HB.out))):w.heap.size ≤ gb102));clear HB;have HB:=n0_;have BK102:=n1_;have GW102:=n2_;have GE102:=n3_;clear n0_ n1_ n2_ n3_;clear hb hbox hg;obtain ⟨_,_,_,_⟩:=blkA2 BK102.out)|((with_reducible refine gate_callee (f:=118) rfl ?_);refine goesL_ (some 17) rfl rfl Tryz.func118 (by kernel_rfl) rfl #[.agg #[.string ((rd_T78 l0 x12_1).f0),.string ((rd_T78 l0 x12_1).f1)]] rfl (by (try simp only [List.map_toArray,List.map_cons,List.map_nil]);first|done|rfl|(simp only [List.length_drop,List.length_take];rfl)) ?_;(with_reducible refine (creelref_RecordFault.calls k1 ((rd_T78 l0 x12_1).f0) ((rd_T78 l0 x12_1).f1) t103 _ A6.out).mono ?_);rintro e w11 ⟨rfl,hb⟩;refine ⟨_,rfl,?_⟩;have n0_:=Aside0.mk (blk_below (g:=gb102) (o := .cells #[.string ((rd_T78 l0 x12_1).f0),.string ((rd_T78 l0 x12_1).f1)] 78 (0,0)) (by (with_reducible repeat (first|refine blk_drewN ?_ _|refine blk_drew ?_|refine blk_alloc ?_ _));refine blk_put (cs:=#[.string ((rd_T78 l0 x12_1).f0),.string (⟨#[]⟩:ByteArray)]) ?_ 1 _ rfl;(with_reducible repeat (first|refine blk_drewN ?_ _|refine blk_drew ?_|refine blk_alloc ?_ _));refine blk_put (cs:=#[.string (⟨#[]⟩:ByteArray),.string (⟨#[]⟩:ByteArray)]) ?_ 0 _ rfl;(with_reducible repeat (first|refine blk_drewN ?_ _|refine blk_drew ?_|refine blk_alloc ?_ _));exact BK102.out) hb);have n1_:=Aside0.mk (below_step (by repeat (first|(with_reducible first|exact HB.out|apply bwA|apply pwbN|apply bw1|refine below_set ?_ GE102.out)|exact HB.out)) hb);clear BK102;clear HB;have BK102:=n0_;have HB:=n1_;clear n0_ n1_;(try clear hb);(try clear hb2);(try clear hk);(try clear hi);obtain ⟨_,_,_,_⟩:=blkA2 BK102.out))
         go_roundg k1
         case measure=>have:=HK1.out;omega
         case rel=>exact ⟨((rd_T78 l0 x12_1).f0),(wrap64 (x12_1 + 1)),(by first|rfl|(simp;done)|(simp [*];done)),(by first|rfl|(simp;done)|(simp [*];done)),H',⟨by have:=HK1.out;omega⟩,⟨by repeat (first|(with_reducible first|exact HB.out|apply bwA|apply pwbN|apply bw1|refine below_set ?_ GE102.out)|exact HB.out)⟩⟩
        ·rw [if_neg c8] at H;have c8b0:(Op.bytesLess x3_1.toList (((rd_T78 l0 x12_1).f0).toList)) = false:=by simpa using c8
         clear c8;obtain rfl:=Option.some.inj H;have p101:0 ≤ (x12_1:Int):=of_decide_eq_true (by first|(with_reducible assumption)|assumption);have q101:x12_1 < (l0.length:Int):=of_decide_eq_true (by first|(with_reducible assumption)|assumption);obtain ⟨ad101,e101,hx101_0,hx101_1⟩:=at_T78 HR0.out x12_1 p101 q101;cases e101;replace hx101_0:=(HB.out.cell (World.block_lt_of_cell? w _ hx101_0)).trans hx101_0;replace hx101_1:=(HB.out.cell (World.block_lt_of_cell? w _ hx101_1)).trans hx101_1;replace p101:=eq_true p101;replace q101:=eq_true q101;go_wp2_with (first|((with_reducible refine gate_dst (N:=5) rfl ?_);refine box_event ?hg (N:=5) ?hd (cs:=#[.string (⟨#[]⟩:ByteArray),.string (⟨#[]⟩:ByteArray)]) (t:=78) ?hr ?_;(case hd=>rfl);(case hg=>rfl);(case hr=>first|(go_simp;done)|(go_simp;rfl));intro gb102 hg w13 hbox hb;have n0_:=Aside0.mk (below_step (by repeat (first|(with_reducible first|exact HB.out|apply bwA|apply pwbN|apply bw1)|exact HB.out)) hb);have n1_:=Aside0.mk (hbox);have n2_:=Aside0.mk ((by rw [hg];exact (below_size (by repeat (first|(with_reducible first|exact HB.out|apply bwA|apply pwbN|apply bw1)|exact HB.out))):w.heap.size ≤ gb102));have n3_:=Aside0.mk ((by rw [hg];exact (below_size (by repeat (first|(with_reducible first|exact HB.out|apply bwA|apply pwbN|apply bw1)|exact HB.out))):w.heap.size ≤ gb102));clear HB;have HB:=n0_;have BK102:=n1_;have GW102:=n2_;have GE102:=n3_;clear n0_ n1_ n2_ n3_;clear hb hbox hg;obtain ⟨_,_,_,_⟩:=blkA2 BK102.out)|((with_reducible refine gate_callee (f:=118) rfl ?_);refine goesL_ (some 17) rfl rfl Tryz.func118 (by kernel_rfl) rfl #[.agg #[.string ((rd_T78 l0 x12_1).f0),.string ((rd_T78 l0 x12_1).f1)]] rfl (by (try simp only [List.map_toArray,List.map_cons,List.map_nil]);first|done|rfl|(simp only [List.length_drop,List.length_take];rfl)) ?_;(with_reducible refine (creelref_RecordFault.calls k1 ((rd_T78 l0 x12_1).f0) ((rd_T78 l0 x12_1).f1) t103 _ A6.out).mono ?_);rintro e w15 ⟨rfl,hb⟩;refine ⟨_,rfl,?_⟩;have n0_:=Aside0.mk (blk_below (g:=gb102) (o := .cells #[.string ((rd_T78 l0 x12_1).f0),.string ((rd_T78 l0 x12_1).f1)] 78 (0,0)) (by (with_reducible repeat (first|refine blk_drewN ?_ _|refine blk_drew ?_|refine blk_alloc ?_ _));refine blk_put (cs:=#[.string ((rd_T78 l0 x12_1).f0),.string (⟨#[]⟩:ByteArray)]) ?_ 1 _ rfl;(with_reducible repeat (first|refine blk_drewN ?_ _|refine blk_drew ?_|refine blk_alloc ?_ _));refine blk_put (cs:=#[.string (⟨#[]⟩:ByteArray),.string (⟨#[]⟩:ByteArray)]) ?_ 0 _ rfl;(with_reducible repeat (first|refine blk_drewN ?_ _|refine blk_drew ?_|refine blk_alloc ?_ _));exact BK102.out) hb);have n1_:=Aside0.mk (below_step (by repeat (first|(with_reducible first|exact HB.out|apply bwA|apply pwbN|apply bw1|refine below_set ?_ GE102.out)|exact HB.out)) hb);clear BK102;clear HB;have BK102:=n0_;have HB:=n1_;clear n0_ n1_;(try clear hb);(try clear hb2);(try clear hk);(try clear hi);obtain ⟨_,_,_,_⟩:=blkA2 BK102.out))
         go_ret
         exact ⟨by first|rfl|(simp [errW_none,errW_some] <;> rfl)|(simp [*,errW_none,errW_some] <;> rfl),by repeat (first|(with_reducible first|exact HB.out|apply bwA|apply pwbN|apply bw1|refine below_set ?_ GE102.out)|exact HB.out)⟩
       ·rw [if_neg c7] at H;have c7b0:(t103 == 0) = false:=beq_eq_false_iff_ne.mpr c7;have c7b1:(t103 != 0) = true:=bne_iff_ne.mpr c7;obtain rfl:=Option.some.inj H;have p101:0 ≤ (x12_1:Int):=of_decide_eq_true (by first|(with_reducible assumption)|assumption);have q101:x12_1 < (l0.length:Int):=of_decide_eq_true (by first|(with_reducible assumption)|assumption);obtain ⟨ad101,e101,hx101_0,hx101_1⟩:=at_T78 HR0.out x12_1 p101 q101;cases e101;replace hx101_0:=(HB.out.cell (World.block_lt_of_cell? w _ hx101_0)).trans hx101_0;replace hx101_1:=(HB.out.cell (World.block_lt_of_cell? w _ hx101_1)).trans hx101_1;replace p101:=eq_true p101;replace q101:=eq_true q101;go_wp2_with (first|((with_reducible refine gate_dst (N:=5) rfl ?_);refine box_event ?hg (N:=5) ?hd (cs:=#[.string (⟨#[]⟩:ByteArray),.string (⟨#[]⟩:ByteArray)]) (t:=78) ?hr ?_;(case hd=>rfl);(case hg=>rfl);(case hr=>first|(go_simp;done)|(go_simp;rfl));intro gb102 hg w17 hbox hb;have n0_:=Aside0.mk (below_step (by repeat (first|(with_reducible first|exact HB.out|apply bwA|apply pwbN|apply bw1)|exact HB.out)) hb);have n1_:=Aside0.mk (hbox);have n2_:=Aside0.mk ((by rw [hg];exact (below_size (by repeat (first|(with_reducible first|exact HB.out|apply bwA|apply pwbN|apply bw1)|exact HB.out))):w.heap.size ≤ gb102));have n3_:=Aside0.mk ((by rw [hg];exact (below_size (by repeat (first|(with_reducible first|exact HB.out|apply bwA|apply pwbN|apply bw1)|exact HB.out))):w.heap.size ≤ gb102));clear HB;have HB:=n0_;have BK102:=n1_;have GW102:=n2_;have GE102:=n3_;clear n0_ n1_ n2_ n3_;clear hb hbox hg;obtain ⟨_,_,_,_⟩:=blkA2 BK102.out)|((with_reducible refine gate_callee (f:=118) rfl ?_);refine goesL_ (some 17) rfl rfl Tryz.func118 (by kernel_rfl) rfl #[.agg #[.string ((rd_T78 l0 x12_1).f0),.string ((rd_T78 l0 x12_1).f1)]] rfl (by (try simp only [List.map_toArray,List.map_cons,List.map_nil]);first|done|rfl|(simp only [List.length_drop,List.length_take];rfl)) ?_;(with_reducible refine (creelref_RecordFault.calls k1 ((rd_T78 l0 x12_1).f0) ((rd_T78 l0 x12_1).f1) t103 _ A6.out).mono ?_);rintro e w19 ⟨rfl,hb⟩;refine ⟨_,rfl,?_⟩;have n0_:=Aside0.mk (blk_below (g:=gb102) (o := .cells #[.string ((rd_T78 l0 x12_1).f0),.string ((rd_T78 l0 x12_1).f1)] 78 (0,0)) (by (with_reducible repeat (first|refine blk_drewN ?_ _|refine blk_drew ?_|refine blk_alloc ?_ _));refine blk_put (cs:=#[.string ((rd_T78 l0 x12_1).f0),.string (⟨#[]⟩:ByteArray)]) ?_ 1 _ rfl;(with_reducible repeat (first|refine blk_drewN ?_ _|refine blk_drew ?_|refine blk_alloc ?_ _));refine blk_put (cs:=#[.string (⟨#[]⟩:ByteArray),.string (⟨#[]⟩:ByteArray)]) ?_ 0 _ rfl;(with_reducible repeat (first|refine blk_drewN ?_ _|refine blk_drew ?_|refine blk_alloc ?_ _));exact BK102.out) hb);have n1_:=Aside0.mk (below_step (by repeat (first|(with_reducible first|exact HB.out|apply bwA|apply pwbN|apply bw1|refine below_set ?_ GE102.out)|exact HB.out)) hb);clear BK102;clear HB;have BK102:=n0_;have HB:=n1_;clear n0_ n1_;(try clear hb);(try clear hb2);(try clear hk);(try clear hi)))
        go_ret
        exact ⟨by first|rfl|(simp [errW_none,errW_some] <;> rfl)|(simp [*,errW_none,errW_some] <;> rfl),by repeat (first|(with_reducible first|exact HB.out|apply bwA|apply pwbN|apply bw1|refine below_set ?_ GE102.out)|exact HB.out)⟩
      ·rw [if_neg c5] at H;exact absurd H (by simp)
     ·rw [if_neg c4] at H;exact absurd H (by simp)
    ·rw [if_neg c3] at H;have c3b0:decide (x12_1 < (l0.length:Int)) = false:=decide_eq_false c3;clear c3;obtain rfl:=Option.some.inj H;go_wp2;go_ret
     exact ⟨by first|rfl|(simp [errW_none,errW_some] <;> rfl)|(simp [*,errW_none,errW_some] <;> rfl),by repeat (first|(with_reducible first|exact HB.out|apply bwA|apply pwbN|apply bw1)|exact HB.out)⟩
end Go.Proofs.YtenbelecmmpdgaaGreatDoor.All
end
