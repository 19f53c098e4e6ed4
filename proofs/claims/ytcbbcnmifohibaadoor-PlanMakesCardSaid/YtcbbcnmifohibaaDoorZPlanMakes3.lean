/- Made by programs of the prover: walks of Go functions, the words that they use, and plain laws, each text in a section of its own; no condition of its own. -/
import Derived.Laws.MakeOwn
import Derived.Test.YtcbbcnmifohibaaDoorZPlanMakes1
import Derived.Test.YtcbbcnmifohibaaDoorZPlanMakes2
section
namespace Go.Proofs.YtcbbcnmifohibaaDoor.All
open Go.RowKit Go.Proofs.YtcbbcnmifohibaaDoorW.PrintWords Go.Proofs.YtcbbcnmifohibaaDoorW.PrintLast Go.Proofs.YtcbbcnmifohibaaDoorW.PrintMore
open Go.Proofs.YtcbbcnmifohibaaDoorW.Mine
attribute [local go_sem] gtr_string leq_string geq_string
attribute [local go_sem] max2_int min2_int max_two min_two max_three min_three max_four min_four
set_option linter.unusedVariables false
set_option linter.unusedSimpArgs false
def glob_set.two (y:ByteArray):Prop:=2 < (y.size:Int)∧bt y 0 = 45∧bt y 1 ≠ 93
instance (y:ByteArray):Decidable (glob_set.two y):=by unfold glob_set.two;infer_instance
def glob_set.l0:Nat→ByteArray→Int→Bool→Bool→Int→Option (Bool × ByteArray)
 | 0,_,_,_,_,_=>none
 | q + 1,x,c,no,inn,k=>if 0 < (x.size:Int) then
  (if 0 < k∧bt x 0 = 93 then some (inn != no,x.extract 1 x.size)
  else if glob_set.two (x.extract 1 x.size) then glob_set.l0 q ((x.extract 1 x.size).extract 2 (x.extract 1 x.size).size) c no (inn || (decide (bt x 0 ≤ c) && decide (c ≤ bt (x.extract 1 x.size) 1))) (wrap64 (k + 1))
  else glob_set.l0 q (x.extract 1 x.size) c no (inn || (decide (bt x 0 ≤ c) && decide (c ≤ bt x 0))) (wrap64 (k + 1))) else none
def glob_set.f (k:Nat) (a0:ByteArray) (a1:Int):Option (Bool × ByteArray):=if 0 < (a0.size:Int) then (if Lib.hasPrefix (a0.extract 1 a0.size).data.toList [33] = true then glob_set.l0 k ((a0.extract 1 a0.size).extract 1 (a0.extract 1 a0.size).size) a1 true false 0 else glob_set.l0 k (a0.extract 1 a0.size) a1 false false 0) else none
theorem glob_set.some_of (y:ByteArray) (h:Lib.hasPrefix y.data.toList [33] = true):1 ≤ (y.size:Int):=by
 cases hl:y.data.toList with
 | nil=>rw [hl] at h;simp [Lib.hasPrefix] at h
 | cons a r =>
  have:y.data.toList.length = y.size:=by simp
  rw [hl,List.length_cons] at this;omega
theorem glob_set.ext_size (x:ByteArray) (h:0 < (x.size:Int)):(x.extract 1 x.size).size = x.size - 1:=by rw [ByteArray.size_extract];omega
set_option maxHeartbeats 16000000 in
set_option maxRecDepth 100000 in
theorem glob_set.calls (k:Nat) (a0:ByteArray) (a1:Int) (r1:Bool) (r2:ByteArray) (w:World) (h:glob_set.f k a0 a1 = some (r1,r2)) :
 Calls Tryd.prog 97 #[.string a0,.int .u8 a1] w fun e w'=>e = .returned (.tuple #[.bool r1,.string r2])∧Drawn0 w w':=by
 unfold glob_set.f at h;by_cases c0:0 < (a0.size:Int)
 ·rw [if_pos c0] at h;have c0b:decide (1 ≤ (a0.size:Int)) = true:=decide_eq_true (by omega);have c0c:(1 ≤ (a0.size:Int)) = True:=eq_true (by omega);obtain ⟨K,hK⟩:∃ K,K = k:=⟨k,rfl⟩
  subst hK;by_cases cp:Lib.hasPrefix (a0.extract 1 a0.size).data.toList [33] = true
  ·rw [if_pos cp] at h;have H':=Aside0.mk h;have HP:Aside0 (strings_HasPrefix.f (a0.extract 1 a0.size) (⟨#[33]⟩:ByteArray) = some true):=⟨congrArg some cp⟩
   have HS:=Aside0.mk (glob_set.some_of _ cp);clear h c0 cp;go_enter Tryd.func97,Tryd.ntmps97;go_upto_region 3 with (go_at_call 82;refine (strings_HasPrefix.calls _ _ true _ HP.out).mono ?_;rintro e w' ⟨rfl,⟨nd,rfl⟩⟩)
   generalize hz:a0.extract 1 a0.size = z at *;have hzs:=HS.out;have hzd:decide (1 ≤ (z.size:Int)) = true:=decide_eq_true hzs;have hzt:(1 ≤ (z.size:Int)) = True:=eq_true hzs;clear HS HP hz hzs;go_wp2;go_loopg [6,8,9] K (fun kq v6 v8 v9 wx=>∃ (x:ByteArray) (inn:Bool) (k:Int),v6 = .string x∧v8 = .bool inn∧v9 = .int .i64 k∧Aside0 (glob_set.l0 kq x a1 true inn k = some (r1,r2))∧Aside0 (kq ≤ K)∧Drawn0 w wx)
   case atStart=>exact ⟨_,_,_,rfl,rfl,rfl,H',⟨Nat.le_refl _⟩,by repeat (first|exact Drawn0.refl _|apply Drawn0.step)⟩
   case round =>
    clear H';obtain ⟨x,inn,k,rfl,rfl,rfl,HA,HK1,⟨m1,rfl⟩⟩:=hrel;cases gk with
    | zero=>exact absurd HA.out (by simp [glob_set.l0])
    | succ k1 =>
     have H:=HA.out;clear HA;rw [glob_set.l0] at H;by_cases c1:0 < (x.size:Int)
     ·rw [if_pos c1] at H;have e1:=glob_set.ext_size x c1;have hx0:∀ h:0 < x.size,((x[0]'h).toNat:Int) = bt x 0:=bt_at x 0;have c1c:decide (1 ≤ (x.size:Int)) = true:=decide_eq_true (by omega);have c1n:(1 ≤ (x.size:Int)) = True:=eq_true (by omega);have c1q:(0 < x.size) = True:=eq_true (by omega);by_cases c2:0 < k∧bt x 0 = 93
      ·rw [if_pos c2] at H;obtain ⟨c2a,c2b⟩:=c2;have c2c:decide (0 < k) = true:=decide_eq_true c2a;have c2d:(bt x 0 == 93) = true:=beq_iff_eq.mpr c2b;obtain ⟨rfl,rfl⟩:=Prod.mk.inj (Option.some.inj H);replace c1:=eq_true c1;clear H c2a c2b;have E1:=Aside0.mk e1;clear e1;cases inn;all_goals
        go_wp2;go_quiet (fail)
        go_wp2;go_ret2
        exact ⟨rfl,by repeat (first|exact Drawn0.refl _|apply Drawn0.step)⟩
      ·rw [if_neg c2] at H;have E1:=Aside0.mk e1;have HT:Aside0 (decide (0 < k) = false ∨ (decide (0 < k) = true∧(bt x 0 == 93) = false)):=by
        constructor
        by_cases t:0 < k
        ·exact Or.inr ⟨decide_eq_true t,beq_eq_false_iff_ne.mpr (fun e=>c2 ⟨t,e⟩)⟩
        ·exact Or.inl (decide_eq_false t)
       have HH:=Aside0.mk H;replace c1:=eq_true c1;clear c2 H e1;rcases HT.out with t1|⟨t1,t2⟩
       all_goals
        clear HT;go_upto_region 13 with (fail)
        generalize hy:x.extract 1 x.size = y at *;have H:=HH.out;have e1:=E1.out;clear HH E1 hy;have hy0:∀ h:0 < y.size,((y[0]'h).toNat:Int) = bt y 0:=bt_at y 0;have hy1:∀ h:1 < y.size,((y[1]'h).toNat:Int) = bt y 1:=bt_at y 1;try clear t1
        try clear t2
        by_cases c3:2 < (y.size:Int)
        ·have c3b:decide (2 < (y.size:Int)) = true:=decide_eq_true c3;have c3n:(0 < (y.size:Int)) = True:=eq_true (by omega);have c3m:(1 < (y.size:Int)) = True:=eq_true (by omega);have c3p:(0 < y.size) = True:=eq_true (by omega);have c3q:(1 < y.size) = True:=eq_true (by omega);have c3l:(2 ≤ (y.size:Int)) = True:=eq_true (by omega);have c3k:decide (2 ≤ (y.size:Int)) = true:=decide_eq_true (by omega);by_cases c4:bt y 0 = 45
         ·have c4b:(bt y 0 == 45) = true:=beq_iff_eq.mpr c4;by_cases c5:bt y 1 = 93
          ·have c5b:(bt y 1 != 93) = false:=by rw [c5];rfl
           rw [if_neg (fun h=>h.2.2 c5)] at H;have H':=H;clear H c3 c4 c5 e1;cases inn with
           | true =>
            replace H':=Aside0.mk H';go_wp2;go_roundg k1
            case measure=>have:=HK1.out;omega
            case rel=>exact ⟨_,_,_,rfl,rfl,rfl,⟨by simpa using H'.out⟩,⟨by have:=HK1.out;omega⟩,by repeat (first|exact Drawn0.refl _|apply Drawn0.step)⟩
           | false =>
            by_cases d1:bt x 0 ≤ a1
            ·have d1b:decide (bt x 0 ≤ a1) = true:=decide_eq_true d1;rw [d1b] at H';clear d1;by_cases d2:a1 ≤ bt x 0
             ·have d2b:decide (a1 ≤ bt x 0) = true:=decide_eq_true d2;rw [d2b] at H';clear d2;replace H':=Aside0.mk H';go_wp2;go_roundg k1
              case measure=>have:=HK1.out;omega
              case rel=>exact ⟨_,_,_,rfl,rfl,rfl,⟨by simpa using H'.out⟩,⟨by have:=HK1.out;omega⟩,by repeat (first|exact Drawn0.refl _|apply Drawn0.step)⟩
             ·have d2b:decide (a1 ≤ bt x 0) = false:=decide_eq_false d2;rw [d2b] at H';clear d2;replace H':=Aside0.mk H';go_wp2;go_roundg k1
              case measure=>have:=HK1.out;omega
              case rel=>exact ⟨_,_,_,rfl,rfl,rfl,⟨by simpa using H'.out⟩,⟨by have:=HK1.out;omega⟩,by repeat (first|exact Drawn0.refl _|apply Drawn0.step)⟩
            ·have d1b:decide (bt x 0 ≤ a1) = false:=decide_eq_false d1;rw [d1b] at H';clear d1;replace H':=Aside0.mk H';go_wp2;go_roundg k1
             case measure=>have:=HK1.out;omega
             case rel=>exact ⟨_,_,_,rfl,rfl,rfl,⟨by simpa using H'.out⟩,⟨by have:=HK1.out;omega⟩,by repeat (first|exact Drawn0.refl _|apply Drawn0.step)⟩
          ·have c5b:(bt y 1 != 93) = true:=bne_iff_ne.mpr c5;rw [if_pos ⟨c3,c4,c5⟩] at H;have H':=H;clear H c3 c4 c5 e1;cases inn with
           | true =>
            replace H':=Aside0.mk H';go_wp2;go_roundg k1
            case measure=>have:=HK1.out;omega
            case rel=>exact ⟨_,_,_,rfl,rfl,rfl,⟨by simpa using H'.out⟩,⟨by have:=HK1.out;omega⟩,by repeat (first|exact Drawn0.refl _|apply Drawn0.step)⟩
           | false =>
            by_cases d1:bt x 0 ≤ a1
            ·have d1b:decide (bt x 0 ≤ a1) = true:=decide_eq_true d1;rw [d1b] at H';clear d1;by_cases d2:a1 ≤ bt y 1
             ·have d2b:decide (a1 ≤ bt y 1) = true:=decide_eq_true d2;rw [d2b] at H';clear d2;replace H':=Aside0.mk H';go_wp2;go_roundg k1
              case measure=>have:=HK1.out;omega
              case rel=>exact ⟨_,_,_,rfl,rfl,rfl,⟨by simpa using H'.out⟩,⟨by have:=HK1.out;omega⟩,by repeat (first|exact Drawn0.refl _|apply Drawn0.step)⟩
             ·have d2b:decide (a1 ≤ bt y 1) = false:=decide_eq_false d2;rw [d2b] at H';clear d2;replace H':=Aside0.mk H';go_wp2;go_roundg k1
              case measure=>have:=HK1.out;omega
              case rel=>exact ⟨_,_,_,rfl,rfl,rfl,⟨by simpa using H'.out⟩,⟨by have:=HK1.out;omega⟩,by repeat (first|exact Drawn0.refl _|apply Drawn0.step)⟩
            ·have d1b:decide (bt x 0 ≤ a1) = false:=decide_eq_false d1;rw [d1b] at H';clear d1;replace H':=Aside0.mk H';go_wp2;go_roundg k1
             case measure=>have:=HK1.out;omega
             case rel=>exact ⟨_,_,_,rfl,rfl,rfl,⟨by simpa using H'.out⟩,⟨by have:=HK1.out;omega⟩,by repeat (first|exact Drawn0.refl _|apply Drawn0.step)⟩
         ·have c4b:(bt y 0 == 45) = false:=beq_eq_false_iff_ne.mpr c4;rw [if_neg (fun h=>c4 h.2.1)] at H;have H':=H;clear H c3 c4 e1;cases inn with
          | true =>
           replace H':=Aside0.mk H';go_wp2;go_roundg k1
           case measure=>have:=HK1.out;omega
           case rel=>exact ⟨_,_,_,rfl,rfl,rfl,⟨by simpa using H'.out⟩,⟨by have:=HK1.out;omega⟩,by repeat (first|exact Drawn0.refl _|apply Drawn0.step)⟩
          | false =>
           by_cases d1:bt x 0 ≤ a1
           ·have d1b:decide (bt x 0 ≤ a1) = true:=decide_eq_true d1;rw [d1b] at H';clear d1;by_cases d2:a1 ≤ bt x 0
            ·have d2b:decide (a1 ≤ bt x 0) = true:=decide_eq_true d2;rw [d2b] at H';clear d2;replace H':=Aside0.mk H';go_wp2;go_roundg k1
             case measure=>have:=HK1.out;omega
             case rel=>exact ⟨_,_,_,rfl,rfl,rfl,⟨by simpa using H'.out⟩,⟨by have:=HK1.out;omega⟩,by repeat (first|exact Drawn0.refl _|apply Drawn0.step)⟩
            ·have d2b:decide (a1 ≤ bt x 0) = false:=decide_eq_false d2;rw [d2b] at H';clear d2;replace H':=Aside0.mk H';go_wp2;go_roundg k1
             case measure=>have:=HK1.out;omega
             case rel=>exact ⟨_,_,_,rfl,rfl,rfl,⟨by simpa using H'.out⟩,⟨by have:=HK1.out;omega⟩,by repeat (first|exact Drawn0.refl _|apply Drawn0.step)⟩
           ·have d1b:decide (bt x 0 ≤ a1) = false:=decide_eq_false d1;rw [d1b] at H';clear d1;replace H':=Aside0.mk H';go_wp2;go_roundg k1
            case measure=>have:=HK1.out;omega
            case rel=>exact ⟨_,_,_,rfl,rfl,rfl,⟨by simpa using H'.out⟩,⟨by have:=HK1.out;omega⟩,by repeat (first|exact Drawn0.refl _|apply Drawn0.step)⟩
        ·have c3b:decide (2 < (y.size:Int)) = false:=decide_eq_false c3;rw [if_neg (fun h=>c3 h.1)] at H;have H':=H;clear H c3 e1;cases inn with
         | true =>
          replace H':=Aside0.mk H';go_wp2;go_roundg k1
          case measure=>have:=HK1.out;omega
          case rel=>exact ⟨_,_,_,rfl,rfl,rfl,⟨by simpa using H'.out⟩,⟨by have:=HK1.out;omega⟩,by repeat (first|exact Drawn0.refl _|apply Drawn0.step)⟩
         | false =>
          by_cases d1:bt x 0 ≤ a1
          ·have d1b:decide (bt x 0 ≤ a1) = true:=decide_eq_true d1;rw [d1b] at H';clear d1;by_cases d2:a1 ≤ bt x 0
           ·have d2b:decide (a1 ≤ bt x 0) = true:=decide_eq_true d2;rw [d2b] at H';clear d2;replace H':=Aside0.mk H';go_wp2;go_roundg k1
            case measure=>have:=HK1.out;omega
            case rel=>exact ⟨_,_,_,rfl,rfl,rfl,⟨by simpa using H'.out⟩,⟨by have:=HK1.out;omega⟩,by repeat (first|exact Drawn0.refl _|apply Drawn0.step)⟩
           ·have d2b:decide (a1 ≤ bt x 0) = false:=decide_eq_false d2;rw [d2b] at H';clear d2;replace H':=Aside0.mk H';go_wp2;go_roundg k1
            case measure=>have:=HK1.out;omega
            case rel=>exact ⟨_,_,_,rfl,rfl,rfl,⟨by simpa using H'.out⟩,⟨by have:=HK1.out;omega⟩,by repeat (first|exact Drawn0.refl _|apply Drawn0.step)⟩
          ·have d1b:decide (bt x 0 ≤ a1) = false:=decide_eq_false d1;rw [d1b] at H';clear d1;replace H':=Aside0.mk H';go_wp2;go_roundg k1
           case measure=>have:=HK1.out;omega
           case rel=>exact ⟨_,_,_,rfl,rfl,rfl,⟨by simpa using H'.out⟩,⟨by have:=HK1.out;omega⟩,by repeat (first|exact Drawn0.refl _|apply Drawn0.step)⟩
     ·rw [if_neg c1] at H;cases H
  ·rw [if_neg cp] at h;have H':=Aside0.mk h;have HP:Aside0 (strings_HasPrefix.f (a0.extract 1 a0.size) (⟨#[33]⟩:ByteArray) = some false):=⟨congrArg some (by simpa using cp)⟩
   clear h c0 cp;go_enter Tryd.func97,Tryd.ntmps97;go_upto_region 3 with (go_at_call 82;refine (strings_HasPrefix.calls _ _ false _ HP.out).mono ?_;rintro e w' ⟨rfl,⟨nd,rfl⟩⟩)
   generalize hz:a0.extract 1 a0.size = z at *;clear HP hz;go_wp2;go_loopg [6,8,9] K (fun kq v6 v8 v9 wx=>∃ (x:ByteArray) (inn:Bool) (k:Int),v6 = .string x∧v8 = .bool inn∧v9 = .int .i64 k∧Aside0 (glob_set.l0 kq x a1 false inn k = some (r1,r2))∧Aside0 (kq ≤ K)∧Drawn0 w wx)
   case atStart=>exact ⟨_,_,_,rfl,rfl,rfl,H',⟨Nat.le_refl _⟩,by repeat (first|exact Drawn0.refl _|apply Drawn0.step)⟩
   case round =>
    clear H';obtain ⟨x,inn,k,rfl,rfl,rfl,HA,HK1,⟨m1,rfl⟩⟩:=hrel;cases gk with
    | zero=>exact absurd HA.out (by simp [glob_set.l0])
    | succ k1 =>
     have H:=HA.out;clear HA;rw [glob_set.l0] at H;by_cases c1:0 < (x.size:Int)
     ·rw [if_pos c1] at H;have e1:=glob_set.ext_size x c1;have hx0:∀ h:0 < x.size,((x[0]'h).toNat:Int) = bt x 0:=bt_at x 0;have c1c:decide (1 ≤ (x.size:Int)) = true:=decide_eq_true (by omega);have c1n:(1 ≤ (x.size:Int)) = True:=eq_true (by omega);have c1q:(0 < x.size) = True:=eq_true (by omega);by_cases c2:0 < k∧bt x 0 = 93
      ·rw [if_pos c2] at H;obtain ⟨c2a,c2b⟩:=c2;have c2c:decide (0 < k) = true:=decide_eq_true c2a;have c2d:(bt x 0 == 93) = true:=beq_iff_eq.mpr c2b;obtain ⟨rfl,rfl⟩:=Prod.mk.inj (Option.some.inj H);replace c1:=eq_true c1;clear H c2a c2b;have E1:=Aside0.mk e1;clear e1;cases inn;all_goals
        go_wp2;go_quiet (fail)
        go_wp2;go_ret2
        exact ⟨rfl,by repeat (first|exact Drawn0.refl _|apply Drawn0.step)⟩
      ·rw [if_neg c2] at H;have E1:=Aside0.mk e1;have HT:Aside0 (decide (0 < k) = false ∨ (decide (0 < k) = true∧(bt x 0 == 93) = false)):=by
        constructor
        by_cases t:0 < k
        ·exact Or.inr ⟨decide_eq_true t,beq_eq_false_iff_ne.mpr (fun e=>c2 ⟨t,e⟩)⟩
        ·exact Or.inl (decide_eq_false t)
       have HH:=Aside0.mk H;replace c1:=eq_true c1;clear c2 H e1;rcases HT.out with t1|⟨t1,t2⟩
       all_goals
        clear HT;go_upto_region 13 with (fail)
        generalize hy:x.extract 1 x.size = y at *;have H:=HH.out;have e1:=E1.out;clear HH E1 hy;have hy0:∀ h:0 < y.size,((y[0]'h).toNat:Int) = bt y 0:=bt_at y 0;have hy1:∀ h:1 < y.size,((y[1]'h).toNat:Int) = bt y 1:=bt_at y 1;try clear t1
        try clear t2
        by_cases c3:2 < (y.size:Int)
        ·have c3b:decide (2 < (y.size:Int)) = true:=decide_eq_true c3;have c3n:(0 < (y.size:Int)) = True:=eq_true (by omega);have c3m:(1 < (y.size:Int)) = True:=eq_true (by omega);have c3p:(0 < y.size) = True:=eq_true (by omega);have c3q:(1 < y.size) = True:=eq_true (by omega);have c3l:(2 ≤ (y.size:Int)) = True:=eq_true (by omega);have c3k:decide (2 ≤ (y.size:Int)) = true:=decide_eq_true (by omega);by_cases c4:bt y 0 = 45
         ·have c4b:(bt y 0 == 45) = true:=beq_iff_eq.mpr c4;by_cases c5:bt y 1 = 93
          ·have c5b:(bt y 1 != 93) = false:=by rw [c5];rfl
           rw [if_neg (fun h=>h.2.2 c5)] at H;have H':=H;clear H c3 c4 c5 e1;cases inn with
           | true =>
            replace H':=Aside0.mk H';go_wp2;go_roundg k1
            case measure=>have:=HK1.out;omega
            case rel=>exact ⟨_,_,_,rfl,rfl,rfl,⟨by simpa using H'.out⟩,⟨by have:=HK1.out;omega⟩,by repeat (first|exact Drawn0.refl _|apply Drawn0.step)⟩
           | false =>
            by_cases d1:bt x 0 ≤ a1
            ·have d1b:decide (bt x 0 ≤ a1) = true:=decide_eq_true d1;rw [d1b] at H';clear d1;by_cases d2:a1 ≤ bt x 0
             ·have d2b:decide (a1 ≤ bt x 0) = true:=decide_eq_true d2;rw [d2b] at H';clear d2;replace H':=Aside0.mk H';go_wp2;go_roundg k1
              case measure=>have:=HK1.out;omega
              case rel=>exact ⟨_,_,_,rfl,rfl,rfl,⟨by simpa using H'.out⟩,⟨by have:=HK1.out;omega⟩,by repeat (first|exact Drawn0.refl _|apply Drawn0.step)⟩
             ·have d2b:decide (a1 ≤ bt x 0) = false:=decide_eq_false d2;rw [d2b] at H';clear d2;replace H':=Aside0.mk H';go_wp2;go_roundg k1
              case measure=>have:=HK1.out;omega
              case rel=>exact ⟨_,_,_,rfl,rfl,rfl,⟨by simpa using H'.out⟩,⟨by have:=HK1.out;omega⟩,by repeat (first|exact Drawn0.refl _|apply Drawn0.step)⟩
            ·have d1b:decide (bt x 0 ≤ a1) = false:=decide_eq_false d1;rw [d1b] at H';clear d1;replace H':=Aside0.mk H';go_wp2;go_roundg k1
             case measure=>have:=HK1.out;omega
             case rel=>exact ⟨_,_,_,rfl,rfl,rfl,⟨by simpa using H'.out⟩,⟨by have:=HK1.out;omega⟩,by repeat (first|exact Drawn0.refl _|apply Drawn0.step)⟩
          ·have c5b:(bt y 1 != 93) = true:=bne_iff_ne.mpr c5;rw [if_pos ⟨c3,c4,c5⟩] at H;have H':=H;clear H c3 c4 c5 e1;cases inn with
           | true =>
            replace H':=Aside0.mk H';go_wp2;go_roundg k1
            case measure=>have:=HK1.out;omega
            case rel=>exact ⟨_,_,_,rfl,rfl,rfl,⟨by simpa using H'.out⟩,⟨by have:=HK1.out;omega⟩,by repeat (first|exact Drawn0.refl _|apply Drawn0.step)⟩
           | false =>
            by_cases d1:bt x 0 ≤ a1
            ·have d1b:decide (bt x 0 ≤ a1) = true:=decide_eq_true d1;rw [d1b] at H';clear d1;by_cases d2:a1 ≤ bt y 1
             ·have d2b:decide (a1 ≤ bt y 1) = true:=decide_eq_true d2;rw [d2b] at H';clear d2;replace H':=Aside0.mk H';go_wp2;go_roundg k1
              case measure=>have:=HK1.out;omega
              case rel=>exact ⟨_,_,_,rfl,rfl,rfl,⟨by simpa using H'.out⟩,⟨by have:=HK1.out;omega⟩,by repeat (first|exact Drawn0.refl _|apply Drawn0.step)⟩
             ·have d2b:decide (a1 ≤ bt y 1) = false:=decide_eq_false d2;rw [d2b] at H';clear d2;replace H':=Aside0.mk H';go_wp2;go_roundg k1
              case measure=>have:=HK1.out;omega
              case rel=>exact ⟨_,_,_,rfl,rfl,rfl,⟨by simpa using H'.out⟩,⟨by have:=HK1.out;omega⟩,by repeat (first|exact Drawn0.refl _|apply Drawn0.step)⟩
            ·have d1b:decide (bt x 0 ≤ a1) = false:=decide_eq_false d1;rw [d1b] at H';clear d1;replace H':=Aside0.mk H';go_wp2;go_roundg k1
             case measure=>have:=HK1.out;omega
             case rel=>exact ⟨_,_,_,rfl,rfl,rfl,⟨by simpa using H'.out⟩,⟨by have:=HK1.out;omega⟩,by repeat (first|exact Drawn0.refl _|apply Drawn0.step)⟩
         ·have c4b:(bt y 0 == 45) = false:=beq_eq_false_iff_ne.mpr c4;rw [if_neg (fun h=>c4 h.2.1)] at H;have H':=H;clear H c3 c4 e1;cases inn with
          | true =>
           replace H':=Aside0.mk H';go_wp2;go_roundg k1
           case measure=>have:=HK1.out;omega
           case rel=>exact ⟨_,_,_,rfl,rfl,rfl,⟨by simpa using H'.out⟩,⟨by have:=HK1.out;omega⟩,by repeat (first|exact Drawn0.refl _|apply Drawn0.step)⟩
          | false =>
           by_cases d1:bt x 0 ≤ a1
           ·have d1b:decide (bt x 0 ≤ a1) = true:=decide_eq_true d1;rw [d1b] at H';clear d1;by_cases d2:a1 ≤ bt x 0
            ·have d2b:decide (a1 ≤ bt x 0) = true:=decide_eq_true d2;rw [d2b] at H';clear d2;replace H':=Aside0.mk H';go_wp2;go_roundg k1
             case measure=>have:=HK1.out;omega
             case rel=>exact ⟨_,_,_,rfl,rfl,rfl,⟨by simpa using H'.out⟩,⟨by have:=HK1.out;omega⟩,by repeat (first|exact Drawn0.refl _|apply Drawn0.step)⟩
            ·have d2b:decide (a1 ≤ bt x 0) = false:=decide_eq_false d2;rw [d2b] at H';clear d2;replace H':=Aside0.mk H';go_wp2;go_roundg k1
             case measure=>have:=HK1.out;omega
             case rel=>exact ⟨_,_,_,rfl,rfl,rfl,⟨by simpa using H'.out⟩,⟨by have:=HK1.out;omega⟩,by repeat (first|exact Drawn0.refl _|apply Drawn0.step)⟩
           ·have d1b:decide (bt x 0 ≤ a1) = false:=decide_eq_false d1;rw [d1b] at H';clear d1;replace H':=Aside0.mk H';go_wp2;go_roundg k1
            case measure=>have:=HK1.out;omega
            case rel=>exact ⟨_,_,_,rfl,rfl,rfl,⟨by simpa using H'.out⟩,⟨by have:=HK1.out;omega⟩,by repeat (first|exact Drawn0.refl _|apply Drawn0.step)⟩
        ·have c3b:decide (2 < (y.size:Int)) = false:=decide_eq_false c3;rw [if_neg (fun h=>c3 h.1)] at H;have H':=H;clear H c3 e1;cases inn with
         | true =>
          replace H':=Aside0.mk H';go_wp2;go_roundg k1
          case measure=>have:=HK1.out;omega
          case rel=>exact ⟨_,_,_,rfl,rfl,rfl,⟨by simpa using H'.out⟩,⟨by have:=HK1.out;omega⟩,by repeat (first|exact Drawn0.refl _|apply Drawn0.step)⟩
         | false =>
          by_cases d1:bt x 0 ≤ a1
          ·have d1b:decide (bt x 0 ≤ a1) = true:=decide_eq_true d1;rw [d1b] at H';clear d1;by_cases d2:a1 ≤ bt x 0
           ·have d2b:decide (a1 ≤ bt x 0) = true:=decide_eq_true d2;rw [d2b] at H';clear d2;replace H':=Aside0.mk H';go_wp2;go_roundg k1
            case measure=>have:=HK1.out;omega
            case rel=>exact ⟨_,_,_,rfl,rfl,rfl,⟨by simpa using H'.out⟩,⟨by have:=HK1.out;omega⟩,by repeat (first|exact Drawn0.refl _|apply Drawn0.step)⟩
           ·have d2b:decide (a1 ≤ bt x 0) = false:=decide_eq_false d2;rw [d2b] at H';clear d2;replace H':=Aside0.mk H';go_wp2;go_roundg k1
            case measure=>have:=HK1.out;omega
            case rel=>exact ⟨_,_,_,rfl,rfl,rfl,⟨by simpa using H'.out⟩,⟨by have:=HK1.out;omega⟩,by repeat (first|exact Drawn0.refl _|apply Drawn0.step)⟩
          ·have d1b:decide (bt x 0 ≤ a1) = false:=decide_eq_false d1;rw [d1b] at H';clear d1;replace H':=Aside0.mk H';go_wp2;go_roundg k1
           case measure=>have:=HK1.out;omega
           case rel=>exact ⟨_,_,_,rfl,rfl,rfl,⟨by simpa using H'.out⟩,⟨by have:=HK1.out;omega⟩,by repeat (first|exact Drawn0.refl _|apply Drawn0.step)⟩
     ·rw [if_neg c1] at H;cases H
 ·rw [if_neg c0] at h;cases h
def glob_sign.f (k:Nat) (a0:ByteArray) (a1:Int):Option (Bool):=if 0 < (a0.size:Int) then (if (bt a0 0) = 63 then (some true) else (if (bt a0 0) = 91 then ((glob_set.f k a0 a1).bind fun bt101=>(some bt101.1)) else (some ((bt a0 0) == a1)))) else (none)
set_option maxHeartbeats 8000000 in
set_option maxRecDepth 100000 in
theorem glob_sign.calls (k:Nat) (a0:ByteArray) (a1:Int) (r:Bool) (w:World) (h:glob_sign.f k a0 a1 = some r) :
 Calls Tryd.prog 87 #[.string a0,.int .u8 a1] w fun e w'=>e = .returned (.bool r)∧Drawn0 w w':=by
 have H:(if 0 < (a0.size:Int) then (if (bt a0 0) = 63 then (some true) else (if (bt a0 0) = 91 then ((glob_set.f k a0 a1).bind fun bt101=>(some bt101.1)) else (some ((bt a0 0) == a1)))) else (none)) = some r:=h;clear h;by_cases c3:0 < (a0.size:Int)
 ·rw [if_pos c3] at H;have c3b0:decide (0 < (a0.size:Int)) = true:=decide_eq_true c3;have c3b1:decide (0 < a0.size) = true:=decide_eq_true (by omega);clear c3;by_cases c5:(bt a0 0) = 63
  ·rw [if_pos c5] at H;have c5b0:((bt a0 0) == 63) = true:=beq_iff_eq.mpr c5;have c5b1:((bt a0 0) != 63) = false:=bne_eq_false_iff_eq.mpr c5;clear c5;obtain rfl:=Option.some.inj H;have p4:0 ≤ (0:Int):=(by omega)
   have q4:0 < a0.size:=(by have:(0:Int) < (a0.size:Int):=of_decide_eq_true (by first|(with_reducible assumption)|assumption);omega)
   have hx4:∀ h:0 < a0.size,((a0[0]'h).toNat:Int) = bt a0 0:=bt_at a0 0;clear p4;have qi4:(0 < (a0.size:Int)) = True:=eq_true (of_decide_eq_true (by first|(with_reducible assumption)|assumption));replace q4:=eq_true q4;go_enter Tryd.func87,Tryd.ntmps87;go_wp2;go_ret
   exact ⟨by first|rfl|(simp;done)|(simp [*];done),by repeat (first|exact Drawn0.refl _|apply Drawn0.step)⟩
  ·rw [if_neg c5] at H;have c5b0:((bt a0 0) == 63) = false:=beq_eq_false_iff_ne.mpr c5;have c5b1:((bt a0 0) != 63) = true:=bne_iff_ne.mpr c5;by_cases c6:(bt a0 0) = 91
   ·rw [if_pos c6] at H;have c6b0:((bt a0 0) == 91) = true:=beq_iff_eq.mpr c6;have c6b1:((bt a0 0) != 91) = false:=bne_eq_false_iff_eq.mpr c6;clear c6;replace H:=Option.bind_eq_some_iff.mp H;obtain ⟨⟨t101,t102⟩,A70,H⟩:=H;replace H:(some t101) = some r:=H;have A7:=Aside0.mk A70;clear A70;obtain rfl:=Option.some.inj H;have p4:0 ≤ (0:Int):=(by omega)
    have q4:0 < a0.size:=(by have:(0:Int) < (a0.size:Int):=of_decide_eq_true (by first|(with_reducible assumption)|assumption);omega)
    have hx4:∀ h:0 < a0.size,((a0[0]'h).toNat:Int) = bt a0 0:=bt_at a0 0;clear p4;have qi4:(0 < (a0.size:Int)) = True:=eq_true (of_decide_eq_true (by first|(with_reducible assumption)|assumption));replace q4:=eq_true q4;go_enter Tryd.func87,Tryd.ntmps87;go_wp2_with (first|((with_reducible refine gate_callee (f:=97) rfl ?_);refine goesL_ (some 16) rfl rfl Tryd.func97 (by kernel_rfl) rfl #[.string a0,.int .u8 a1] rfl (by (try simp only [List.map_toArray,List.map_cons,List.map_nil]);first|done|rfl|(simp only [List.length_drop,List.length_take];rfl)) ?_;(with_reducible refine (glob_set.calls k a0 a1 t101 t102 _ A7.out).mono ?_);rintro e w' ⟨rfl,⟨nd,rfl⟩⟩;refine ⟨_,rfl,?_⟩))
    go_ret
    exact ⟨by first|rfl|(simp;done)|(simp [*];done),by repeat (first|exact Drawn0.refl _|apply Drawn0.step)⟩
   ·rw [if_neg c6] at H;have c6b0:((bt a0 0) == 91) = false:=beq_eq_false_iff_ne.mpr c6;have c6b1:((bt a0 0) != 91) = true:=bne_iff_ne.mpr c6;obtain rfl:=Option.some.inj H;have p4:0 ≤ (0:Int):=(by omega)
    have q4:0 < a0.size:=(by have:(0:Int) < (a0.size:Int):=of_decide_eq_true (by first|(with_reducible assumption)|assumption);omega)
    have hx4:∀ h:0 < a0.size,((a0[0]'h).toNat:Int) = bt a0 0:=bt_at a0 0;clear p4;have qi4:(0 < (a0.size:Int)) = True:=eq_true (of_decide_eq_true (by first|(with_reducible assumption)|assumption));replace q4:=eq_true q4;have p8:0 ≤ (0:Int):=(by omega)
    have q8:0 < a0.size:=(by have:(0:Int) < (a0.size:Int):=of_decide_eq_true (by first|(with_reducible assumption)|assumption);omega)
    have hx8:∀ h:0 < a0.size,((a0[0]'h).toNat:Int) = bt a0 0:=bt_at a0 0;clear p8;have qi8:(0 < (a0.size:Int)) = True:=eq_true (of_decide_eq_true (by first|(with_reducible assumption)|assumption));replace q8:=eq_true q8;go_enter Tryd.func87,Tryd.ntmps87;go_wp2;go_ret
    exact ⟨by first|rfl|(simp;done)|(simp [*];done),by repeat (first|exact Drawn0.refl _|apply Drawn0.step)⟩
 ·rw [if_neg c3] at H;exact absurd H (by simp)
end Go.Proofs.YtcbbcnmifohibaaDoor.All
end
section
namespace Go.Proofs.YtcbbcnmifohibaaDoor.All
open Go.RowKit Go.Proofs.YtcbbcnmifohibaaDoorW.PrintWords Go.Proofs.YtcbbcnmifohibaaDoorW.PrintLast Go.Proofs.YtcbbcnmifohibaaDoorW.PrintMore
open Go.Proofs.YtcbbcnmifohibaaDoorW.Mine
attribute [local go_sem] gtr_string leq_string geq_string
attribute [local go_sem] max2_int min2_int max_two min_two max_three min_three max_four min_four
set_option linter.unusedVariables false
set_option linter.unusedSimpArgs false
open Go.Proofs.YtcbbcnmifohibaaDoorW.MapOwn
def glob_parts.WE (n:Int) (S:Int→Option Bool):Nat→Int→Option Bool
 | 0,_=>none
 | q + 1,i=>(if i < n then S i else some false).bind fun s=>if s = true then glob_parts.WE n S q (wrap64 (i + 1)) else some (i == n)
def glob_parts.WL (n m:Int) (S:Int→Option Bool) (F:Int→Int→Option Bool):Nat→Int→Int→Int→Int→Option Bool
 | 0,_,_,_,_=>none
 | q + 1,i,last,fr,k=>if k < m then
  (if i < n then S i else some false).bind fun s =>
  if s = true then glob_parts.WL n m S F q (wrap64 (i + 1)) i k k
  else (if i < n then F i k else some false).bind fun b =>
   if b = true then glob_parts.WL n m S F q (wrap64 (i + 1)) last fr (wrap64 (k + 1))
   else if 0 ≤ last then glob_parts.WL n m S F q (wrap64 (last + 1)) last (wrap64 (fr + 1)) (wrap64 (fr + 1)) else some false
  else glob_parts.WE n S q i
def glob_parts.star (x:List UInt8) (l:List ByteArray) (i:Int):Option Bool:=if 0 ≤ i then (if i < (l.length:Int) then some ((rdOf ByteArray.empty l i).toList == x) else none) else none
def glob_parts.fit1 (k:Nat) (l:List ByteArray) (s:ByteArray) (i j:Int):Option Bool:=if 0 ≤ i then (if i < (l.length:Int) then (if 0 ≤ j then (if j < (s.size:Int) then glob_sign.f k (rdOf ByteArray.empty l i) (bt s j) else none) else none) else none) else none
def glob_parts.part (k:Nat) (p s:ByteArray):Option Bool:=(glob_split.f k p).bind fun l=>glob_parts.WL (l.length:Int) (s.size:Int) (glob_parts.star [42] l) (glob_parts.fit1 k l s) k 0 (-1) 0 0
def glob_parts.fit2 (k:Nat) (l t:List ByteArray) (i j:Int):Option Bool:=if 0 ≤ i then (if i < (l.length:Int) then (if 0 ≤ j then (if j < (t.length:Int) then glob_parts.part k (rdOf ByteArray.empty l i) (rdOf ByteArray.empty t j) else none) else none) else none) else none
def glob_parts.f (k:Nat) (l t:List ByteArray):Option Bool:=glob_parts.WL (l.length:Int) (t.length:Int) (glob_parts.star [42,42] l) (glob_parts.fit2 k l t) k 0 (-1) 0 0
set_option maxHeartbeats 8000000 in
set_option maxRecDepth 100000 in
theorem glob_parts.wildA (q:Nat) (n m:Int) (S:Int→Option Bool) (F:Int→Int→Option Bool) (g1 g2:Nat) (r:Bool) (w:World)
 (hS:∀ (W:World) (i:Int) (b:Bool),Below w.heap.size w W→S i = some b→Calls Tryd.prog 85 #[.int .i64 i,.pointer (some ⟨g1,0,none⟩)] W fun e W'=>e = .returned (.bool b)∧Below W.heap.size W W')
 (hF:∀ (W:World) (i j:Int) (b:Bool),Below w.heap.size w W→F i j = some b→Calls Tryd.prog 86 #[.int .i64 i,.int .i64 j,.pointer (some ⟨g1,0,none⟩),.pointer (some ⟨g2,0,none⟩)] W fun e W'=>e = .returned (.bool b)∧Below W.heap.size W W')
 (h:glob_parts.WL n m S F q 0 (-1) 0 0 = some r) :
 Calls Tryd.prog 60 #[.int .i64 n,.int .i64 m,.func (.func 85) #[] #[.pointer (some ⟨g1,0,none⟩)],.func (.func 86) #[] #[.pointer (some ⟨g1,0,none⟩),.pointer (some ⟨g2,0,none⟩)]] w fun e w'=>e = .returned (.bool r)∧Below w.heap.size w w':=by
 have HS:=Aside0.mk hS;have HF:=Aside0.mk hF;have H':=Aside0.mk h;have HB0:=Aside0.mk (Below.refl w.heap.size w);clear hS hF h;go_enter Tryd.func60,Tryd.ntmps60;go_wp2;go_loopg [9,10,11,12] q (fun kq v9 v10 v11 v12 wx=>∃ (i last fr k:Int),v9 = .int .i64 i∧v10 = .int .i64 last∧v11 = .int .i64 fr∧v12 = .int .i64 k∧Aside0 (glob_parts.WL n m S F kq i last fr k = some r)∧Aside0 (kq ≤ q)∧Aside0 (Below w.heap.size w wx))
 case atStart=>exact ⟨0,-1,0,0,rfl,rfl,rfl,rfl,H',⟨Nat.le_refl _⟩,HB0⟩
 case round =>
  clear H' HB0;obtain ⟨i,last,fr,k,rfl,rfl,rfl,rfl,HA,HK1,HB⟩:=hrel;cases gk with
  | zero=>exact absurd HA.out (by simp [glob_parts.WL])
  | succ k1 =>
   have H:=HA.out;clear HA;simp only [glob_parts.WL] at H;by_cases c1:k < m
   ·rw [if_pos c1] at H;have c1b:decide (k < m) = true:=decide_eq_true c1;clear c1;by_cases c2:i < n
    ·rw [if_pos c2] at H;have c2b:decide (i < n) = true:=decide_eq_true c2;cases hs:S i with
     | none=>rw [hs] at H;cases H
     | some s =>
      rw [hs] at H;simp only [Option.bind_some] at H;have HC:=Aside0.mk hs;clear hs;cases s with
      | true =>
       rw [if_pos rfl] at H;have H':=Aside0.mk H;clear H c2;go_wp2_with (go_at_call 85;refine (HS.out _ _ true HB.out HC.out).mono ?_;rintro e w3 ⟨rfl,hb3⟩;have HB3:=Aside0.mk (below_step HB.out hb3);clear hb3)
       go_roundg k1
       case measure=>have:=HK1.out;omega
       case rel=>exact ⟨_,_,_,_,rfl,rfl,rfl,rfl,H',⟨by have:=HK1.out;omega⟩,HB3⟩
      | false =>
       rw [if_neg (by decide),if_pos c2] at H;clear c2;cases hd:F i k with
       | none=>rw [hd] at H;cases H
       | some b =>
        rw [hd] at H;simp only [Option.bind_some] at H;have HD:=Aside0.mk hd;clear hd;cases b with
        | true =>
         rw [if_pos rfl] at H;have H':=Aside0.mk H;clear H;go_wp2_with (first|(go_at_call 85;refine (HS.out _ _ false HB.out HC.out).mono ?_;rintro e w3 ⟨rfl,hb3⟩;have HB3:=Aside0.mk (below_step HB.out hb3);clear hb3)|(go_at_call 86;refine (HF.out _ _ _ true HB3.out HD.out).mono ?_;rintro e w4 ⟨rfl,hb4⟩;have HB4:=Aside0.mk (below_step HB3.out hb4);clear hb4))
         go_roundg k1
         case measure=>have:=HK1.out;omega
         case rel=>exact ⟨_,_,_,_,rfl,rfl,rfl,rfl,H',⟨by have:=HK1.out;omega⟩,HB4⟩
        | false =>
         rw [if_neg (by decide)] at H;by_cases c3:0 ≤ last
         ·rw [if_pos c3] at H;have c3b:decide (0 ≤ last) = true:=decide_eq_true c3;have H':=Aside0.mk H;clear H c3;go_wp2_with (first|(go_at_call 85;refine (HS.out _ _ false HB.out HC.out).mono ?_;rintro e w3 ⟨rfl,hb3⟩;have HB3:=Aside0.mk (below_step HB.out hb3);clear hb3)|(go_at_call 86;refine (HF.out _ _ _ false HB3.out HD.out).mono ?_;rintro e w4 ⟨rfl,hb4⟩;have HB4:=Aside0.mk (below_step HB3.out hb4);clear hb4))
          go_roundg k1
          case measure=>have:=HK1.out;omega
          case rel=>exact ⟨_,_,_,_,rfl,rfl,rfl,rfl,H',⟨by have:=HK1.out;omega⟩,HB4⟩
         ·rw [if_neg c3] at H;have c3b:decide (0 ≤ last) = false:=decide_eq_false c3;obtain rfl:=Option.some.inj H;clear H c3;go_wp2_with (first|(go_at_call 85;refine (HS.out _ _ false HB.out HC.out).mono ?_;rintro e w3 ⟨rfl,hb3⟩;have HB3:=Aside0.mk (below_step HB.out hb3);clear hb3)|(go_at_call 86;refine (HF.out _ _ _ false HB3.out HD.out).mono ?_;rintro e w4 ⟨rfl,hb4⟩;have HB4:=Aside0.mk (below_step HB3.out hb4);clear hb4))
          go_ret
          exact ⟨rfl,HB4.out⟩
    ·rw [if_neg c2] at H;simp only [Option.bind_some] at H;rw [if_neg (by decide),if_neg c2] at H;simp only [Option.bind_some] at H;rw [if_neg (by decide)] at H;have c2b:decide (i < n) = false:=decide_eq_false c2;clear c2;by_cases c3:0 ≤ last
     ·rw [if_pos c3] at H;have c3b:decide (0 ≤ last) = true:=decide_eq_true c3;have H':=Aside0.mk H;clear H c3;go_wp2;go_roundg k1
      case measure=>have:=HK1.out;omega
      case rel=>exact ⟨_,_,_,_,rfl,rfl,rfl,rfl,H',⟨by have:=HK1.out;omega⟩,HB⟩
     ·rw [if_neg c3] at H;have c3b:decide (0 ≤ last) = false:=decide_eq_false c3;obtain rfl:=Option.some.inj H;clear H c3;go_wp2;go_ret
      exact ⟨rfl,HB.out⟩
   ·rw [if_neg c1] at H;have c1b:decide (k < m) = false:=decide_eq_false c1;have HE:=Aside0.mk H;clear c1 H;go_wp2;go_loopg [9] k1 (fun kq v9 wy=>∃ (i2:Int),v9 = .int .i64 i2∧Aside0 (glob_parts.WE n S kq i2 = some r)∧Aside0 (kq ≤ k1)∧Aside0 (Below w.heap.size w wy))
    case atStart=>exact ⟨i,rfl,HE,⟨Nat.le_refl _⟩,HB⟩
    case round =>
     clear HE HB;obtain ⟨i2,rfl,HA,HK2,HB⟩:=hrel;cases gk with
     | zero=>exact absurd HA.out (by simp [glob_parts.WE])
     | succ k2 =>
      have H:=HA.out;clear HA;simp only [glob_parts.WE] at H;by_cases c2:i2 < n
      ·rw [if_pos c2] at H;have c2b:decide (i2 < n) = true:=decide_eq_true c2;clear c2;cases hs:S i2 with
       | none=>rw [hs] at H;cases H
       | some s =>
        rw [hs] at H;simp only [Option.bind_some] at H;have HC:=Aside0.mk hs;clear hs;cases s with
        | true =>
         rw [if_pos rfl] at H;have H':=Aside0.mk H;clear H;go_wp2_with (go_at_call 85;refine (HS.out _ _ true HB.out HC.out).mono ?_;rintro e w3 ⟨rfl,hb3⟩;have HB3:=Aside0.mk (below_step HB.out hb3);clear hb3)
         go_roundg k2
         case measure=>have:=HK2.out;omega
         case rel=>exact ⟨_,rfl,H',⟨by have:=HK2.out;omega⟩,HB3⟩
        | false =>
         rw [if_neg (by decide)] at H;obtain rfl:=Option.some.inj H;clear H;go_wp2_with (go_at_call 85;refine (HS.out _ _ false HB.out HC.out).mono ?_;rintro e w3 ⟨rfl,hb3⟩;have HB3:=Aside0.mk (below_step HB.out hb3);clear hb3)
         go_ret
         exact ⟨rfl,HB3.out⟩
      ·rw [if_neg c2] at H;simp only [Option.bind_some] at H;rw [if_neg (by decide)] at H;have c2b:decide (i2 < n) = false:=decide_eq_false c2;obtain rfl:=Option.some.inj H;clear H c2;go_wp2;go_ret
       exact ⟨rfl,HB.out⟩
set_option maxHeartbeats 8000000 in
set_option maxRecDepth 100000 in
theorem glob_parts.wildB (q:Nat) (n m:Int) (S:Int→Option Bool) (F:Int→Int→Option Bool) (g1 g2:Nat) (r:Bool) (w:World)
 (hS:∀ (W:World) (i:Int) (b:Bool),Below w.heap.size w W→S i = some b→Calls Tryd.prog 61 #[.int .i64 i,.pointer (some ⟨g1,0,none⟩)] W fun e W'=>e = .returned (.bool b)∧Below W.heap.size W W')
 (hF:∀ (W:World) (i j:Int) (b:Bool),Below w.heap.size w W→F i j = some b→Calls Tryd.prog 62 #[.int .i64 i,.int .i64 j,.pointer (some ⟨g1,0,none⟩),.pointer (some ⟨g2,0,none⟩)] W fun e W'=>e = .returned (.bool b)∧Below W.heap.size W W')
 (h:glob_parts.WL n m S F q 0 (-1) 0 0 = some r) :
 Calls Tryd.prog 60 #[.int .i64 n,.int .i64 m,.func (.func 61) #[] #[.pointer (some ⟨g1,0,none⟩)],.func (.func 62) #[] #[.pointer (some ⟨g1,0,none⟩),.pointer (some ⟨g2,0,none⟩)]] w fun e w'=>e = .returned (.bool r)∧Below w.heap.size w w':=by
 have HS:=Aside0.mk hS;have HF:=Aside0.mk hF;have H':=Aside0.mk h;have HB0:=Aside0.mk (Below.refl w.heap.size w);clear hS hF h;go_enter Tryd.func60,Tryd.ntmps60;go_wp2;go_loopg [9,10,11,12] q (fun kq v9 v10 v11 v12 wx=>∃ (i last fr k:Int),v9 = .int .i64 i∧v10 = .int .i64 last∧v11 = .int .i64 fr∧v12 = .int .i64 k∧Aside0 (glob_parts.WL n m S F kq i last fr k = some r)∧Aside0 (kq ≤ q)∧Aside0 (Below w.heap.size w wx))
 case atStart=>exact ⟨0,-1,0,0,rfl,rfl,rfl,rfl,H',⟨Nat.le_refl _⟩,HB0⟩
 case round =>
  clear H' HB0;obtain ⟨i,last,fr,k,rfl,rfl,rfl,rfl,HA,HK1,HB⟩:=hrel;cases gk with
  | zero=>exact absurd HA.out (by simp [glob_parts.WL])
  | succ k1 =>
   have H:=HA.out;clear HA;simp only [glob_parts.WL] at H;by_cases c1:k < m
   ·rw [if_pos c1] at H;have c1b:decide (k < m) = true:=decide_eq_true c1;clear c1;by_cases c2:i < n
    ·rw [if_pos c2] at H;have c2b:decide (i < n) = true:=decide_eq_true c2;cases hs:S i with
     | none=>rw [hs] at H;cases H
     | some s =>
      rw [hs] at H;simp only [Option.bind_some] at H;have HC:=Aside0.mk hs;clear hs;cases s with
      | true =>
       rw [if_pos rfl] at H;have H':=Aside0.mk H;clear H c2;go_wp2_with (go_at_call 61;refine (HS.out _ _ true HB.out HC.out).mono ?_;rintro e w3 ⟨rfl,hb3⟩;have HB3:=Aside0.mk (below_step HB.out hb3);clear hb3)
       go_roundg k1
       case measure=>have:=HK1.out;omega
       case rel=>exact ⟨_,_,_,_,rfl,rfl,rfl,rfl,H',⟨by have:=HK1.out;omega⟩,HB3⟩
      | false =>
       rw [if_neg (by decide),if_pos c2] at H;clear c2;cases hd:F i k with
       | none=>rw [hd] at H;cases H
       | some b =>
        rw [hd] at H;simp only [Option.bind_some] at H;have HD:=Aside0.mk hd;clear hd;cases b with
        | true =>
         rw [if_pos rfl] at H;have H':=Aside0.mk H;clear H;go_wp2_with (first|(go_at_call 61;refine (HS.out _ _ false HB.out HC.out).mono ?_;rintro e w3 ⟨rfl,hb3⟩;have HB3:=Aside0.mk (below_step HB.out hb3);clear hb3)|(go_at_call 62;refine (HF.out _ _ _ true HB3.out HD.out).mono ?_;rintro e w4 ⟨rfl,hb4⟩;have HB4:=Aside0.mk (below_step HB3.out hb4);clear hb4))
         go_roundg k1
         case measure=>have:=HK1.out;omega
         case rel=>exact ⟨_,_,_,_,rfl,rfl,rfl,rfl,H',⟨by have:=HK1.out;omega⟩,HB4⟩
        | false =>
         rw [if_neg (by decide)] at H;by_cases c3:0 ≤ last
         ·rw [if_pos c3] at H;have c3b:decide (0 ≤ last) = true:=decide_eq_true c3;have H':=Aside0.mk H;clear H c3;go_wp2_with (first|(go_at_call 61;refine (HS.out _ _ false HB.out HC.out).mono ?_;rintro e w3 ⟨rfl,hb3⟩;have HB3:=Aside0.mk (below_step HB.out hb3);clear hb3)|(go_at_call 62;refine (HF.out _ _ _ false HB3.out HD.out).mono ?_;rintro e w4 ⟨rfl,hb4⟩;have HB4:=Aside0.mk (below_step HB3.out hb4);clear hb4))
          go_roundg k1
          case measure=>have:=HK1.out;omega
          case rel=>exact ⟨_,_,_,_,rfl,rfl,rfl,rfl,H',⟨by have:=HK1.out;omega⟩,HB4⟩
         ·rw [if_neg c3] at H;have c3b:decide (0 ≤ last) = false:=decide_eq_false c3;obtain rfl:=Option.some.inj H;clear H c3;go_wp2_with (first|(go_at_call 61;refine (HS.out _ _ false HB.out HC.out).mono ?_;rintro e w3 ⟨rfl,hb3⟩;have HB3:=Aside0.mk (below_step HB.out hb3);clear hb3)|(go_at_call 62;refine (HF.out _ _ _ false HB3.out HD.out).mono ?_;rintro e w4 ⟨rfl,hb4⟩;have HB4:=Aside0.mk (below_step HB3.out hb4);clear hb4))
          go_ret
          exact ⟨rfl,HB4.out⟩
    ·rw [if_neg c2] at H;simp only [Option.bind_some] at H;rw [if_neg (by decide),if_neg c2] at H;simp only [Option.bind_some] at H;rw [if_neg (by decide)] at H;have c2b:decide (i < n) = false:=decide_eq_false c2;clear c2;by_cases c3:0 ≤ last
     ·rw [if_pos c3] at H;have c3b:decide (0 ≤ last) = true:=decide_eq_true c3;have H':=Aside0.mk H;clear H c3;go_wp2;go_roundg k1
      case measure=>have:=HK1.out;omega
      case rel=>exact ⟨_,_,_,_,rfl,rfl,rfl,rfl,H',⟨by have:=HK1.out;omega⟩,HB⟩
     ·rw [if_neg c3] at H;have c3b:decide (0 ≤ last) = false:=decide_eq_false c3;obtain rfl:=Option.some.inj H;clear H c3;go_wp2;go_ret
      exact ⟨rfl,HB.out⟩
   ·rw [if_neg c1] at H;have c1b:decide (k < m) = false:=decide_eq_false c1;have HE:=Aside0.mk H;clear c1 H;go_wp2;go_loopg [9] k1 (fun kq v9 wy=>∃ (i2:Int),v9 = .int .i64 i2∧Aside0 (glob_parts.WE n S kq i2 = some r)∧Aside0 (kq ≤ k1)∧Aside0 (Below w.heap.size w wy))
    case atStart=>exact ⟨i,rfl,HE,⟨Nat.le_refl _⟩,HB⟩
    case round =>
     clear HE HB;obtain ⟨i2,rfl,HA,HK2,HB⟩:=hrel;cases gk with
     | zero=>exact absurd HA.out (by simp [glob_parts.WE])
     | succ k2 =>
      have H:=HA.out;clear HA;simp only [glob_parts.WE] at H;by_cases c2:i2 < n
      ·rw [if_pos c2] at H;have c2b:decide (i2 < n) = true:=decide_eq_true c2;clear c2;cases hs:S i2 with
       | none=>rw [hs] at H;cases H
       | some s =>
        rw [hs] at H;simp only [Option.bind_some] at H;have HC:=Aside0.mk hs;clear hs;cases s with
        | true =>
         rw [if_pos rfl] at H;have H':=Aside0.mk H;clear H;go_wp2_with (go_at_call 61;refine (HS.out _ _ true HB.out HC.out).mono ?_;rintro e w3 ⟨rfl,hb3⟩;have HB3:=Aside0.mk (below_step HB.out hb3);clear hb3)
         go_roundg k2
         case measure=>have:=HK2.out;omega
         case rel=>exact ⟨_,rfl,H',⟨by have:=HK2.out;omega⟩,HB3⟩
        | false =>
         rw [if_neg (by decide)] at H;obtain rfl:=Option.some.inj H;clear H;go_wp2_with (go_at_call 61;refine (HS.out _ _ false HB.out HC.out).mono ?_;rintro e w3 ⟨rfl,hb3⟩;have HB3:=Aside0.mk (below_step HB.out hb3);clear hb3)
         go_ret
         exact ⟨rfl,HB3.out⟩
      ·rw [if_neg c2] at H;simp only [Option.bind_some] at H;rw [if_neg (by decide)] at H;have c2b:decide (i2 < n) = false:=decide_eq_false c2;obtain rfl:=Option.some.inj H;clear H c2;go_wp2;go_ret
       exact ⟨rfl,HB.out⟩
set_option maxHeartbeats 4000000 in
set_option maxRecDepth 100000 in
theorem glob_parts.starA (A:Option Addr) (c g1:Nat) (l:List ByteArray) (i:Int) (b:Bool) (w:World) (hr:Kd.C Kd.string w A l.length l) (hc:l.length ≤ c) (hg:w.heap[g1]? = some (.cells #[.slice A l.length c] 51 (0,0))) (h:glob_parts.star [42] l i = some b) :
 Calls Tryd.prog 85 #[.int .i64 i,.pointer (some ⟨g1,0,none⟩)] w fun e w'=>e = .returned (.bool b)∧Below w.heap.size w w':=by
 unfold glob_parts.star at h;by_cases c1:0 ≤ i
 ·rw [if_pos c1] at h;by_cases c2:i < (l.length:Int)
  ·rw [if_pos c2] at h;obtain rfl:=Option.some.inj h;obtain ⟨ad,e,hx⟩:=Kd.at_string hr i c1 c2;cases e;have hcell:w.cell? ⟨g1,0,none⟩ = some (.slice (some ad) l.length c):=(blk_cell hg 0).trans rfl;have HC:=Aside0.mk hc;clear h hr hc hg;replace c1:=eq_true c1;replace c2:=eq_true c2;go_enter Tryd.func85,Tryd.ntmps85;go_wp2;go_ret
   exact ⟨rfl,Below.refl _ _⟩
  ·rw [if_neg c2] at h;cases h
 ·rw [if_neg c1] at h;cases h
set_option maxHeartbeats 4000000 in
set_option maxRecDepth 100000 in
theorem glob_parts.starB (A:Option Addr) (c g1:Nat) (l:List ByteArray) (i:Int) (b:Bool) (w:World) (hr:Kd.C Kd.string w A l.length l) (hc:l.length ≤ c) (hg:w.heap[g1]? = some (.cells #[.slice A l.length c] 51 (0,0))) (h:glob_parts.star [42,42] l i = some b) :
 Calls Tryd.prog 61 #[.int .i64 i,.pointer (some ⟨g1,0,none⟩)] w fun e w'=>e = .returned (.bool b)∧Below w.heap.size w w':=by
 unfold glob_parts.star at h;by_cases c1:0 ≤ i
 ·rw [if_pos c1] at h;by_cases c2:i < (l.length:Int)
  ·rw [if_pos c2] at h;obtain rfl:=Option.some.inj h;obtain ⟨ad,e,hx⟩:=Kd.at_string hr i c1 c2;cases e;have hcell:w.cell? ⟨g1,0,none⟩ = some (.slice (some ad) l.length c):=(blk_cell hg 0).trans rfl;have HC:=Aside0.mk hc;clear h hr hc hg;replace c1:=eq_true c1;replace c2:=eq_true c2;go_enter Tryd.func61,Tryd.ntmps61;go_wp2;go_ret
   exact ⟨rfl,Below.refl _ _⟩
  ·rw [if_neg c2] at h;cases h
 ·rw [if_neg c1] at h;cases h
set_option maxHeartbeats 4000000 in
set_option maxRecDepth 100000 in
theorem glob_parts.fitA (k:Nat) (A:Option Addr) (c g1 g2:Nat) (l:List ByteArray) (s:ByteArray) (i j:Int) (b:Bool) (w:World) (hr:Kd.C Kd.string w A l.length l) (hc:l.length ≤ c) (hg:w.heap[g1]? = some (.cells #[.slice A l.length c] 51 (0,0))) (hs:w.heap[g2]? = some (.cells #[.string s] 9 (0,0))) (h:glob_parts.fit1 k l s i j = some b) :
 Calls Tryd.prog 86 #[.int .i64 i,.int .i64 j,.pointer (some ⟨g1,0,none⟩),.pointer (some ⟨g2,0,none⟩)] w fun e w'=>e = .returned (.bool b)∧Below w.heap.size w w':=by
 unfold glob_parts.fit1 at h;by_cases c1:0 ≤ i
 ·rw [if_pos c1] at h;by_cases c2:i < (l.length:Int)
  ·rw [if_pos c2] at h;by_cases c3:0 ≤ j
   ·rw [if_pos c3] at h;by_cases c4:j < (s.size:Int)
    ·rw [if_pos c4] at h;obtain ⟨ad,e,hx⟩:=Kd.at_string hr i c1 c2;cases e;have hcell:w.cell? ⟨g1,0,none⟩ = some (.slice (some ad) l.length c):=(blk_cell hg 0).trans rfl;have hcell2:w.cell? ⟨g2,0,none⟩ = some (.string s):=(blk_cell hs 0).trans rfl;have HC:=Aside0.mk hc;have HH:=Aside0.mk h;have hbt:=bt_at s j;clear h hr hc hg hs;replace c1:=eq_true c1;replace c2:=eq_true c2;replace c3:=eq_true c3;replace c4:=eq_true c4;go_enter Tryd.func86,Tryd.ntmps86;go_wp2;go_quiet ((go_at_call 87;exact Calls.quiet_of ((glob_sign.calls k _ _ b _ HH.out).mono fun e w2 h2=>⟨h2.1,h2.2.out⟩)))
     go_wp2;go_ret
     exact ⟨rfl,pwbN (Below.refl _ _) _⟩
    ·rw [if_neg c4] at h;cases h
   ·rw [if_neg c3] at h;cases h
  ·rw [if_neg c2] at h;cases h
 ·rw [if_neg c1] at h;cases h
set_option maxHeartbeats 8000000 in
set_option maxRecDepth 100000 in
theorem glob_parts.part_calls (k:Nat) (p s:ByteArray) (r:Bool) (w:World) (h:glob_parts.part k p s = some r) :
 Calls Tryd.prog 63 #[.string p,.string s] w fun e w'=>e = .returned (.bool r)∧Below w.heap.size w w':=by
 unfold glob_parts.part at h;cases h1:glob_split.f k p with
 | none=>rw [h1] at h;cases h
 | some l =>
  rw [h1] at h;simp only [Option.bind_some] at h;have H1:=Aside0.mk h1;have HH:=Aside0.mk h;have HB0:=Aside0.mk (Below.refl w.heap.size w);clear h h1;go_enter Tryd.func63,Tryd.ntmps63;go_wp2_with (first|((with_reducible refine gate_dst (N:=3) rfl ?_);refine box_event ?hg (N:=3) ?hd (cs:=#[.string s]) (t:=9) ?hr ?_;(case hd=>rfl);(case hg=>rfl);(case hr=>first|(go_simp;done)|(go_simp;rfl));intro gs hgs w1 hbox hb1;have HK:=Aside0.mk hbox;have HB1:=Aside0.mk (below_step HB0.out hb1);clear hgs hb1 hbox)|(go_at_call 84;refine (glob_split.calls k p l _ H1.out).mono ?_;rintro e w2 ⟨v,rfl,hR,hb2⟩;obtain ⟨A,c,rfl,hc,hr⟩:=Kd.R_reads hR;have HR:=Aside0.mk hr;have HC:=Aside0.mk hc;have HK2:=Aside0.mk (blk_below HK.out hb2);have HB2:=Aside0.mk (below_step HB1.out hb2);have hcs:∀ o,(w2.alloc o).cell? ⟨gs,0,none⟩ = some (.string s):=(fun o=>(blk_cell (blk_alloc (blk_below HK.out hb2) o) 0).trans rfl);clear hb2 hR hr hc)|(go_at_call 60;refine (glob_parts.wildA k _ _ _ _ _ gs r _ (fun W i b hb hs=>glob_parts.starA A c _ l i b W (Kd.C_below (Kd.C_alloc HR.out _) hb) HC.out (blk_below (blk_new _ _) hb) hs) (fun W i j b hb hs=>glob_parts.fitA k A c _ gs l s i j b W (Kd.C_below (Kd.C_alloc HR.out _) hb) HC.out (blk_below (blk_new _ _) hb) (blk_below (blk_alloc HK2.out _) hb) hs) HH.out).mono ?_;rintro e w4 ⟨rfl,hb4⟩;have HB4:=Aside0.mk (below_step (bwA HB2.out _) hb4);clear hb4))
  go_ret
  exact ⟨rfl,HB4.out⟩
set_option maxHeartbeats 8000000 in
set_option maxRecDepth 100000 in
theorem glob_parts.fitB (k:Nat) (A:Option Addr) (c g1:Nat) (A2:Option Addr) (c2 g2:Nat) (l t:List ByteArray) (i j:Int) (b:Bool) (w:World) (hr:Kd.C Kd.string w A l.length l) (hc:l.length ≤ c) (hg:w.heap[g1]? = some (.cells #[.slice A l.length c] 51 (0,0))) (hr2:Kd.C Kd.string w A2 t.length t) (hc2:t.length ≤ c2) (hg2:w.heap[g2]? = some (.cells #[.slice A2 t.length c2] 51 (0,0))) (h:glob_parts.fit2 k l t i j = some b) :
 Calls Tryd.prog 62 #[.int .i64 i,.int .i64 j,.pointer (some ⟨g1,0,none⟩),.pointer (some ⟨g2,0,none⟩)] w fun e w'=>e = .returned (.bool b)∧Below w.heap.size w w':=by
 unfold glob_parts.fit2 at h;by_cases c1:0 ≤ i
 ·rw [if_pos c1] at h;by_cases d1:i < (l.length:Int)
  ·rw [if_pos d1] at h;by_cases c3:0 ≤ j
   ·rw [if_pos c3] at h;by_cases c4:j < (t.length:Int)
    ·rw [if_pos c4] at h;obtain ⟨ad,e,hx⟩:=Kd.at_string hr i c1 d1;cases e;obtain ⟨ad2,e,hx2⟩:=Kd.at_string hr2 j c3 c4;cases e;have hcell:w.cell? ⟨g1,0,none⟩ = some (.slice (some ad) l.length c):=(blk_cell hg 0).trans rfl;have hcell2:w.cell? ⟨g2,0,none⟩ = some (.slice (some ad2) t.length c2):=(blk_cell hg2 0).trans rfl;have HC:=Aside0.mk hc;have HC2:=Aside0.mk hc2;have HH:=Aside0.mk h;have HB0:=Aside0.mk (Below.refl w.heap.size w);clear h hr hc hg hr2 hc2 hg2;replace c1:=eq_true c1;replace d1:=eq_true d1;replace c3:=eq_true c3;replace c4:=eq_true c4;go_enter Tryd.func62,Tryd.ntmps62;go_wp2;go_region_held3 (fun w'=>w'.cell? ⟨g1,0,none⟩ = some (.slice (some ad) l.length c)∧w'.cell? ⟨g2,0,none⟩ = some (.slice (some ad2) t.length c2)∧w'.cell? (ad.add i.toNat) = some (.string (rdOf ByteArray.empty l i))∧w'.cell? (ad2.add j.toNat) = some (.string (rdOf ByteArray.empty t j)))
      (first|go_keep|(go_split_ands;exact ⟨(hb3.cell (World.block_lt_of_cell? _ _ (by assumption))).trans (by assumption),(hb3.cell (World.block_lt_of_cell? _ _ (by assumption))).trans (by assumption),(hb3.cell (World.block_lt_of_cell? _ _ (by assumption))).trans (by assumption),(hb3.cell (World.block_lt_of_cell? _ _ (by assumption))).trans (by assumption)⟩)) ((go_at_call 63;refine (glob_parts.part_calls k _ _ b _ HH.out).mono ?_;rintro e w3 ⟨rfl,hb3⟩))
     all_goals
      go_wp2;go_ret
      exact ⟨rfl,below_step (by repeat (first|exact Below.refl _ _|apply pwbN|apply bw1)) hb3⟩
    ·rw [if_neg c4] at h;cases h
   ·rw [if_neg c3] at h;cases h
  ·rw [if_neg d1] at h;cases h
 ·rw [if_neg c1] at h;cases h
set_option maxHeartbeats 8000000 in
set_option maxRecDepth 100000 in
theorem glob_parts.calls (k:Nat) (A0:Option Addr) (c0:Nat) (l0:List ByteArray) (A1:Option Addr) (c1:Nat) (l1:List ByteArray) (r:Bool) (w:World) (hr0:Kd.C Kd.string w A0 l0.length l0) (hc0:l0.length ≤ c0) (hr1:Kd.C Kd.string w A1 l1.length l1) (hc1:l1.length ≤ c1) (h:glob_parts.f k l0 l1 = some r) :
 Calls Tryd.prog 29 #[.slice A0 l0.length c0,.slice A1 l1.length c1] w fun e w'=>e = .returned (.bool r)∧Below w.heap.size w w':=by
 have HH:=Aside0.mk (show glob_parts.WL (l0.length:Int) (l1.length:Int) (glob_parts.star [42,42] l0) (glob_parts.fit2 k l0 l1) k 0 (-1) 0 0 = some r from h);have HR0:=Aside0.mk hr0;have HC0:=Aside0.mk hc0;have HR1:=Aside0.mk hr1;have HC1:=Aside0.mk hc1;have HB0:=Aside0.mk (Below.refl w.heap.size w);clear hr0 hc0 hr1 hc1 h;go_enter Tryd.func29,Tryd.ntmps29;go_wp2_with (first|((with_reducible refine gate_dst (N:=2) rfl ?_);refine box_event ?hg (N:=2) ?hd (cs:=#[.slice A0 l0.length c0]) (t:=51) ?hr ?_;(case hd=>rfl);(case hg=>rfl);(case hr=>first|(go_simp;done)|(go_simp;rfl));intro ga hgs w1 hbox hb1;have HK1:=Aside0.mk hbox;have HB1:=Aside0.mk (below_step HB0.out hb1);clear hgs hb1 hbox)|((with_reducible refine gate_dst (N:=3) rfl ?_);refine box_event ?hg (N:=3) ?hd (cs:=#[.slice A1 l1.length c1]) (t:=51) ?hr ?_;(case hd=>rfl);(case hg=>rfl);(case hr=>first|(go_simp;done)|(go_simp;rfl));intro gb hgs w2 hbox hb1;have HK2:=Aside0.mk hbox;have HB2:=Aside0.mk (below_step HB1.out hb1);have HK1b:=Aside0.mk (blk_below HK1.out hb1);have hca:w2.cell? ⟨ga,0,none⟩ = some (.slice A0 l0.length c0):=(blk_cell (blk_below HK1.out hb1) 0).trans rfl;have hcb:w2.cell? ⟨gb,0,none⟩ = some (.slice A1 l1.length c1):=(blk_cell hbox 0).trans rfl;clear hgs hb1 hbox)|(go_at_call 60;refine (glob_parts.wildB k _ _ _ _ ga gb r _ (fun W i b hb hs=>glob_parts.starB A0 c0 _ l0 i b W (Kd.C_below (Kd.C_below HR0.out HB2.out) hb) HC0.out (blk_below HK1b.out hb) hs) (fun W i j b hb hs=>glob_parts.fitB k A0 c0 _ A1 c1 _ l0 l1 i j b W (Kd.C_below (Kd.C_below HR0.out HB2.out) hb) HC0.out (blk_below HK1b.out hb) (Kd.C_below (Kd.C_below HR1.out HB2.out) hb) HC1.out (blk_below HK2.out hb) hs) HH.out).mono ?_;rintro e w4 ⟨rfl,hb4⟩;have HB4:=Aside0.mk (below_step HB2.out hb4);clear hb4))
 go_ret
 exact ⟨rfl,HB4.out⟩
end Go.Proofs.YtcbbcnmifohibaaDoor.All
end
section
namespace Go.Proofs.YtcbbcnmifohibaaDoor.All
open Go.RowKit Go.Proofs.YtcbbcnmifohibaaDoorW.PrintWords Go.Proofs.YtcbbcnmifohibaaDoorW.PrintLast Go.Proofs.YtcbbcnmifohibaaDoorW.PrintMore
open Go.Proofs.YtcbbcnmifohibaaDoorW.Mine
attribute [local go_sem] gtr_string leq_string geq_string
attribute [local go_sem] max2_int min2_int max_two min_two max_three min_three max_four min_four
set_option linter.unusedVariables false
set_option linter.unusedSimpArgs false
def path_Parts.f (a0:ByteArray):Option (List ByteArray):=if a0.toList = ([]:List UInt8) then (some ([]:List ByteArray)) else ((strings_Split.f a0 (⟨#[47]⟩:ByteArray)).bind fun t101=>(some t101))
set_option maxHeartbeats 8000000 in
set_option maxRecDepth 100000 in
theorem path_Parts.calls (a0:ByteArray) (r:List ByteArray) (w:World) (h:path_Parts.f a0 = some r) :
 Calls Tryd.prog 30 #[.string a0] w fun e w'=>∃ v0_:Value,e = .returned (v0_)∧Kd.R Kd.string 9 w' w.heap.size (fun _=>True) v0_ r∧Below w.heap.size w w':=by
 have HB:=Aside0.mk (Below.refl w.heap.size w);have H:(if a0.toList = ([]:List UInt8) then (some ([]:List ByteArray)) else ((strings_Split.f a0 (⟨#[47]⟩:ByteArray)).bind fun t101=>(some t101))) = some r:=h;clear h;by_cases c2:a0.toList = ([]:List UInt8)
 ·rw [if_pos c2] at H;have c2b0:(a0.toList == ([]:List UInt8)) = true:=beq_iff_eq.mpr c2;have c2b1:(a0.toList != ([]:List UInt8)) = false:=bne_eq_false_iff_eq.mpr c2;clear c2;obtain rfl:=Option.some.inj H;go_enter Tryd.func30,Tryd.ntmps30;go_wp2;go_ret
  exact ⟨_,by first|rfl|(simp [errW_none,errW_some] <;> rfl)|(simp [*,errW_none,errW_some] <;> rfl),by first|exact Kd.R_nil _ _ _ _ _|exact Kd.N_nil _ _ _ _ _|exact Kd.V_nil _ _ _ _ _|exact Kd.Q_nil _ _ _ _ _|exact Kd.S_nil _ _ _ _ _,by repeat (first|(with_reducible first|exact HB.out|apply bwA|apply pwbN|apply bw1)|exact HB.out)⟩
 ·rw [if_neg c2] at H;have c2b0:(a0.toList == ([]:List UInt8)) = false:=beq_eq_false_iff_ne.mpr c2;have c2b1:(a0.toList != ([]:List UInt8)) = true:=bne_iff_ne.mpr c2;replace H:=Option.bind_eq_some_iff.mp H;obtain ⟨t101,A30,H⟩:=H;replace H:(some t101) = some r:=H;have A3:=Aside0.mk A30;clear A30;obtain rfl:=Option.some.inj H;go_enter Tryd.func30,Tryd.ntmps30;go_wp2_with (first|((with_reducible refine gate_callee (f:=57) rfl ?_);refine goesL_ (some 6) rfl rfl Tryd.func57 (by kernel_rfl) rfl #[.string a0,.string (⟨#[47]⟩:ByteArray)] rfl (by (try simp only [List.map_toArray,List.map_cons,List.map_nil]);first|done|rfl|(simp only [List.length_drop,List.length_take];rfl)) ?_;(with_reducible refine (strings_Split.calls a0 (⟨#[47]⟩:ByteArray) t101 _ A3.out).mono ?_);rintro e w4 ⟨v102,rfl,ho0,hb⟩;refine ⟨_,rfl,?_⟩;have n0_:=Aside0.mk (Kd.R_lower ho0 (below_size (by repeat (first|(with_reducible first|exact HB.out|apply bwA|apply pwbN|apply bw1)|exact HB.out))));have n1_:=Aside0.mk (below_step (by repeat (first|(with_reducible first|exact HB.out|apply bwA|apply pwbN|apply bw1)|exact HB.out)) hb);clear HB;have HO103:=n0_;have HB:=n1_;clear n0_ n1_;(try clear hb);(try clear hb2);(try clear hk);(try clear hi);(try clear ho0)))
  go_ret
  exact ⟨_,by first|rfl|(simp [errW_none,errW_some] <;> rfl)|(simp [*,errW_none,errW_some] <;> rfl),by (with_reducible repeat (first|apply Kd.R_alloc|apply Kd.R_drewN|apply Kd.R_drew));exact HO103.out,by repeat (first|(with_reducible first|exact HB.out|apply bwA|apply pwbN|apply bw1)|exact HB.out)⟩
def glob_Fits.f (k:Nat) (a0:ByteArray) (a1:ByteArray):Option (Bool × Int):=(glob_Check.f k a0).bind fun t101=>(if t101 = 0 then ((path_Check.f k a1).bind fun t102=>(if t102 = 0 then ((path_Parts.f a0).bind fun t103=>((path_Parts.f a1).bind fun t106=>((glob_parts.f k t103 t106).bind fun t109=>(some (t109,0))))) else (some (false,t102)))) else (some (false,t101)))
set_option maxHeartbeats 8000000 in
set_option maxRecDepth 100000 in
theorem glob_Fits.calls (k:Nat) (a0:ByteArray) (a1:ByteArray) (r1:Bool) (r2:Int) (w:World) (h:glob_Fits.f k a0 a1 = some (r1,r2)) :
 Calls Tryd.prog 9 #[.string a0,.string a1] w fun e w'=>e = .returned (.tuple #[.bool r1,.int .i64 r2])∧Below w.heap.size w w':=by
 have HB:=Aside0.mk (Below.refl w.heap.size w);have H:((glob_Check.f k a0).bind fun t101=>(if t101 = 0 then ((path_Check.f k a1).bind fun t102=>(if t102 = 0 then ((path_Parts.f a0).bind fun t103=>((path_Parts.f a1).bind fun t106=>((glob_parts.f k t103 t106).bind fun t109=>(some (t109,0))))) else (some (false,t102)))) else (some (false,t101)))) = some (r1,r2):=h;clear h;replace H:=Option.bind_eq_some_iff.mp H;obtain ⟨t101,A30,H⟩:=H;replace H:(if t101 = 0 then ((path_Check.f k a1).bind fun t102=>(if t102 = 0 then ((path_Parts.f a0).bind fun t103=>((path_Parts.f a1).bind fun t106=>((glob_parts.f k t103 t106).bind fun t109=>(some (t109,0))))) else (some (false,t102)))) else (some (false,t101))) = some (r1,r2):=H;have A3:=Aside0.mk A30;clear A30;by_cases c4:t101 = 0
 ·rw [if_pos c4] at H;have c4b0:(t101 == 0) = true:=beq_iff_eq.mpr c4;have c4b1:(t101 != 0) = false:=bne_eq_false_iff_eq.mpr c4;clear c4;replace H:=Option.bind_eq_some_iff.mp H;obtain ⟨t102,A50,H⟩:=H;replace H:(if t102 = 0 then ((path_Parts.f a0).bind fun t103=>((path_Parts.f a1).bind fun t106=>((glob_parts.f k t103 t106).bind fun t109=>(some (t109,0))))) else (some (false,t102))) = some (r1,r2):=H;have A5:=Aside0.mk A50;clear A50;by_cases c6:t102 = 0
  ·rw [if_pos c6] at H;have c6b0:(t102 == 0) = true:=beq_iff_eq.mpr c6;have c6b1:(t102 != 0) = false:=bne_eq_false_iff_eq.mpr c6;clear c6;replace H:=Option.bind_eq_some_iff.mp H;obtain ⟨t103,A70,H⟩:=H;replace H:((path_Parts.f a1).bind fun t106=>((glob_parts.f k t103 t106).bind fun t109=>(some (t109,0)))) = some (r1,r2):=H;have A7:=Aside0.mk A70;clear A70;replace H:=Option.bind_eq_some_iff.mp H;obtain ⟨t106,A80,H⟩:=H;replace H:((glob_parts.f k t103 t106).bind fun t109=>(some (t109,0))) = some (r1,r2):=H;have A8:=Aside0.mk A80;clear A80;replace H:=Option.bind_eq_some_iff.mp H;obtain ⟨t109,A90,H⟩:=H;replace H:(some (t109,0)) = some (r1,r2):=H;have A9:=Aside0.mk A90;clear A90;simp only [Option.some.injEq,Prod.mk.injEq] at H;obtain ⟨rfl,rfl⟩:=H;go_enter Tryd.func9,Tryd.ntmps9;go_wp2_with (first|((with_reducible refine gate_callee (f:=27) rfl ?_);refine goesL_ (some 9) rfl rfl Tryd.func27 (by kernel_rfl) rfl #[.string a0] rfl (by (try simp only [List.map_toArray,List.map_cons,List.map_nil]);first|done|rfl|(simp only [List.length_drop,List.length_take];rfl)) ?_;(with_reducible refine (glob_Check.calls k a0 t101 _ A3.out).mono ?_);rintro e w10 ⟨rfl,hb⟩;refine ⟨_,rfl,?_⟩;have n0_:=Aside0.mk (below_step (by repeat (first|(with_reducible first|exact HB.out|apply bwA|apply pwbN|apply bw1)|exact HB.out)) hb);clear HB;have HB:=n0_;clear n0_;(try clear hb);(try clear hb2);(try clear hk);(try clear hi))|((with_reducible refine gate_callee (f:=28) rfl ?_);refine goesL_ (some 14) rfl rfl Tryd.func28 (by kernel_rfl) rfl #[.string a1] rfl (by (try simp only [List.map_toArray,List.map_cons,List.map_nil]);first|done|rfl|(simp only [List.length_drop,List.length_take];rfl)) ?_;(with_reducible refine (path_Check.calls k a1 t102 _ A5.out).mono ?_);rintro e w11 ⟨rfl,hb⟩;refine ⟨_,rfl,?_⟩;have n0_:=Aside0.mk (below_step (by repeat (first|(with_reducible first|exact HB.out|apply bwA|apply pwbN|apply bw1)|exact HB.out)) hb);clear HB;have HB:=n0_;clear n0_;(try clear hb);(try clear hb2);(try clear hk);(try clear hi))|((with_reducible refine gate_callee (f:=30) rfl ?_);refine goesL_ (some 19) rfl rfl Tryd.func30 (by kernel_rfl) rfl #[.string a0] rfl (by (try simp only [List.map_toArray,List.map_cons,List.map_nil]);first|done|rfl|(simp only [List.length_drop,List.length_take];rfl)) ?_;(with_reducible refine (path_Parts.calls a0 t103 _ A7.out).mono ?_);rintro e w12 ⟨v104,rfl,ho0,hb⟩;refine ⟨_,rfl,?_⟩;have n0_:=Aside0.mk (Kd.R_lower ho0 (below_size (by repeat (first|(with_reducible first|exact HB.out|apply bwA|apply pwbN|apply bw1)|exact HB.out))));have n1_:=Aside0.mk (below_step (by repeat (first|(with_reducible first|exact HB.out|apply bwA|apply pwbN|apply bw1)|exact HB.out)) hb);clear HB;have HO105:=n0_;have HB:=n1_;clear n0_ n1_;(try clear hb);(try clear hb2);(try clear hk);(try clear hi);(try clear ho0))|((with_reducible refine gate_callee (f:=30) rfl ?_);refine goesL_ (some 21) rfl rfl Tryd.func30 (by kernel_rfl) rfl #[.string a1] rfl (by (try simp only [List.map_toArray,List.map_cons,List.map_nil]);first|done|rfl|(simp only [List.length_drop,List.length_take];rfl)) ?_;(with_reducible refine (path_Parts.calls a1 t106 _ A8.out).mono ?_);rintro e w13 ⟨v107,rfl,ho0,hb⟩;refine ⟨_,rfl,?_⟩;have n0_:=Aside0.mk (Kd.R_elder' (by (with_reducible repeat (first|apply Kd.R_alloc|apply Kd.R_drewN|apply Kd.R_drew));exact HO105.out) (Kd.R_base ho0) hb);have n1_:=Aside0.mk (Kd.R_lower (Kd.R_new' ho0 (Kd.R_lt (by (with_reducible repeat (first|apply Kd.R_alloc|apply Kd.R_drewN|apply Kd.R_drew));exact HO105.out))) (below_size (by repeat (first|(with_reducible first|exact HB.out|apply bwA|apply pwbN|apply bw1)|exact HB.out))));have n2_:=Aside0.mk (below_step (by repeat (first|(with_reducible first|exact HB.out|apply bwA|apply pwbN|apply bw1)|exact HB.out)) hb);clear HO105;clear HB;have HO105:=n0_;have HO108:=n1_;have HB:=n2_;clear n0_ n1_ n2_;(try clear hb);(try clear hb2);(try clear hk);(try clear hi);(try clear ho0);obtain ⟨Ao14,co14,eo14⟩:=Kd.R_slice HO105.out;subst eo14;obtain ⟨Ao15,co15,eo15⟩:=Kd.R_slice HO108.out;subst eo15)|((with_reducible refine gate_callee (f:=29) rfl ?_);refine goesL_ (some 22) rfl rfl Tryd.func29 (by kernel_rfl) rfl #[.slice Ao14 t103.length co14,.slice Ao15 t106.length co15] rfl (by (try simp only [List.map_toArray,List.map_cons,List.map_nil]);first|done|rfl|(simp only [List.length_drop,List.length_take];rfl)) ?_;(with_reducible refine (glob_parts.calls k _ _ t103 _ _ t106 t109 _ ?side1 ?side2 ?side3 ?side4 A9.out).mono ?_);(case side1=>repeat (first|exact (Kd.R_reads' HO105.out).2.2|(with_reducible refine Kd.C_alloc ?_ _)|(with_reducible refine Kd.C_drewN ?_ _)|(with_reducible refine Kd.C_drew ?_)));(case side2=>exact (Kd.R_reads' HO105.out).2.1);(case side3=>repeat (first|exact (Kd.R_reads' HO108.out).2.2|(with_reducible refine Kd.C_alloc ?_ _)|(with_reducible refine Kd.C_drewN ?_ _)|(with_reducible refine Kd.C_drew ?_)));(case side4=>exact (Kd.R_reads' HO108.out).2.1);rintro e w16 ⟨rfl,hb⟩;refine ⟨_,rfl,?_⟩;have n0_:=Aside0.mk (Kd.R_below (by (with_reducible repeat (first|apply Kd.R_alloc|apply Kd.R_drewN|apply Kd.R_drew));exact HO105.out) hb);have n1_:=Aside0.mk (Kd.R_below (by (with_reducible repeat (first|apply Kd.R_alloc|apply Kd.R_drewN|apply Kd.R_drew));exact HO108.out) hb);have n2_:=Aside0.mk (below_step (by repeat (first|(with_reducible first|exact HB.out|apply bwA|apply pwbN|apply bw1)|exact HB.out)) hb);clear HO105;clear HO108;clear HB;have HO105:=n0_;have HO108:=n1_;have HB:=n2_;clear n0_ n1_ n2_;(try clear hb);(try clear hb2);(try clear hk);(try clear hi)))
   go_ret2
   exact ⟨by first|rfl|(simp [errW_none,errW_some] <;> rfl)|(simp [*,errW_none,errW_some] <;> rfl),by repeat (first|(with_reducible first|exact HB.out|apply bwA|apply pwbN|apply bw1)|exact HB.out)⟩
  ·rw [if_neg c6] at H;have c6b0:(t102 == 0) = false:=beq_eq_false_iff_ne.mpr c6;have c6b1:(t102 != 0) = true:=bne_iff_ne.mpr c6;simp only [Option.some.injEq,Prod.mk.injEq] at H;obtain ⟨rfl,rfl⟩:=H;go_enter Tryd.func9,Tryd.ntmps9;go_wp2_with (first|((with_reducible refine gate_callee (f:=27) rfl ?_);refine goesL_ (some 9) rfl rfl Tryd.func27 (by kernel_rfl) rfl #[.string a0] rfl (by (try simp only [List.map_toArray,List.map_cons,List.map_nil]);first|done|rfl|(simp only [List.length_drop,List.length_take];rfl)) ?_;(with_reducible refine (glob_Check.calls k a0 t101 _ A3.out).mono ?_);rintro e w17 ⟨rfl,hb⟩;refine ⟨_,rfl,?_⟩;have n0_:=Aside0.mk (below_step (by repeat (first|(with_reducible first|exact HB.out|apply bwA|apply pwbN|apply bw1)|exact HB.out)) hb);clear HB;have HB:=n0_;clear n0_;(try clear hb);(try clear hb2);(try clear hk);(try clear hi))|((with_reducible refine gate_callee (f:=28) rfl ?_);refine goesL_ (some 14) rfl rfl Tryd.func28 (by kernel_rfl) rfl #[.string a1] rfl (by (try simp only [List.map_toArray,List.map_cons,List.map_nil]);first|done|rfl|(simp only [List.length_drop,List.length_take];rfl)) ?_;(with_reducible refine (path_Check.calls k a1 t102 _ A5.out).mono ?_);rintro e w18 ⟨rfl,hb⟩;refine ⟨_,rfl,?_⟩;have n0_:=Aside0.mk (below_step (by repeat (first|(with_reducible first|exact HB.out|apply bwA|apply pwbN|apply bw1)|exact HB.out)) hb);clear HB;have HB:=n0_;clear n0_;(try clear hb);(try clear hb2);(try clear hk);(try clear hi)))
   go_ret2
   exact ⟨by first|rfl|(simp [errW_none,errW_some] <;> rfl)|(simp [*,errW_none,errW_some] <;> rfl),by repeat (first|(with_reducible first|exact HB.out|apply bwA|apply pwbN|apply bw1)|exact HB.out)⟩
 ·rw [if_neg c4] at H;have c4b0:(t101 == 0) = false:=beq_eq_false_iff_ne.mpr c4;have c4b1:(t101 != 0) = true:=bne_iff_ne.mpr c4;simp only [Option.some.injEq,Prod.mk.injEq] at H;obtain ⟨rfl,rfl⟩:=H;go_enter Tryd.func9,Tryd.ntmps9;go_wp2_with (first|((with_reducible refine gate_callee (f:=27) rfl ?_);refine goesL_ (some 9) rfl rfl Tryd.func27 (by kernel_rfl) rfl #[.string a0] rfl (by (try simp only [List.map_toArray,List.map_cons,List.map_nil]);first|done|rfl|(simp only [List.length_drop,List.length_take];rfl)) ?_;(with_reducible refine (glob_Check.calls k a0 t101 _ A3.out).mono ?_);rintro e w19 ⟨rfl,hb⟩;refine ⟨_,rfl,?_⟩;have n0_:=Aside0.mk (below_step (by repeat (first|(with_reducible first|exact HB.out|apply bwA|apply pwbN|apply bw1)|exact HB.out)) hb);clear HB;have HB:=n0_;clear n0_;(try clear hb);(try clear hb2);(try clear hk);(try clear hi)))
  go_ret2
  exact ⟨by first|rfl|(simp [errW_none,errW_some] <;> rfl)|(simp [*,errW_none,errW_some] <;> rfl),by repeat (first|(with_reducible first|exact HB.out|apply bwA|apply pwbN|apply bw1)|exact HB.out)⟩
def filter_takes.l0:Nat→List (S58)→ByteArray→Int→Option (Bool)
 | 0,_,_,_=>none
 | k + 1,x0,x1,x5=>if x5 ≥ 0 then (if 0 ≤ x5 then (if x5 < (x0.length:Int) then ((glob_Fits.f k ((rd_T58 x0 x5).f1) x1).bind fun bt102=>(if bt102.1 = true then (some ((rd_T58 x0 x5).f0)) else (filter_takes.l0 k x0 x1 (wrap64 (x5 - 1))))) else (none)) else (none)) else (some true)
def filter_takes.f (k:Nat) (l0:List (S58)) (a1:ByteArray):Option (Bool):=filter_takes.l0 k l0 a1 (wrap64 ((l0.length:Int) - 1))
set_option maxHeartbeats 8000000 in
set_option maxRecDepth 100000 in
theorem filter_takes.calls (k:Nat) (A0:Option Addr) (c0:Nat) (l0:List (S58)) (a1:ByteArray) (r:Bool) (w:World) (hr0:Kd.C k58 w A0 l0.length l0) (hc0:l0.length ≤ c0) (h:filter_takes.f k l0 a1 = some r) :
 Calls Tryd.prog 38 #[.slice A0 l0.length c0,.string a1] w fun e w'=>e = .returned (.bool r)∧Below w.heap.size w w':=by
 have HR0:=Aside0.mk hr0;have HC0:=Aside0.mk hc0;clear hr0 hc0;have HB:=Aside0.mk (Below.refl w.heap.size w);have H:(filter_takes.l0 k l0 a1 (wrap64 ((l0.length:Int) - 1))) = some r:=h;clear h;have H':=Aside0.mk H;clear H;go_enter Tryd.func38,Tryd.ntmps38;go_wp2;go_loopg [5] k (fun kq v5 w'=>∃ (x5_1:Int),v5 = .int .i64 x5_1∧Aside0 (filter_takes.l0 kq l0 a1 x5_1 = some r)∧Aside0 (kq ≤ k)∧Aside0 (Below w.heap.size w w'))
 case atStart=>exact ⟨(wrap64 ((l0.length:Int) - 1)),(by first|rfl|(simp;done)|(simp [*];done)),H',⟨Nat.le_refl _⟩,⟨by repeat (first|(with_reducible first|exact HB.out|apply bwA|apply pwbN|apply bw1)|exact HB.out)⟩⟩
 case round =>
  clear H';obtain ⟨x5_1,rfl,HA,HK1,HB⟩:=hrel;cases gk with
  | zero=>exact absurd HA.out (by simp [filter_takes.l0])
  | succ k1 =>
   have H:=HA.out;clear HA;simp only [filter_takes.l0] at H;by_cases c3:x5_1 ≥ 0
   ·rw [if_pos c3] at H;have c3b0:decide (0 ≤ x5_1) = true:=decide_eq_true c3;clear c3;by_cases c4:0 ≤ x5_1
    ·rw [if_pos c4] at H;have c4b0:decide (0 ≤ x5_1) = true:=decide_eq_true c4;clear c4;by_cases c5:x5_1 < (l0.length:Int)
     ·rw [if_pos c5] at H;have c5b0:decide (x5_1 < (l0.length:Int)) = true:=decide_eq_true c5;clear c5;replace H:=Option.bind_eq_some_iff.mp H;obtain ⟨⟨t102,t103⟩,A60,H⟩:=H;replace H:(if t102 = true then (some ((rd_T58 l0 x5_1).f0)) else (filter_takes.l0 k1 l0 a1 (wrap64 (x5_1 - 1)))) = some r:=H;have A6:=Aside0.mk A60;clear A60;by_cases c7:t102 = true
      ·subst c7;have H1:(some ((rd_T58 l0 x5_1).f0)) = some r:=by rw [if_pos rfl] at H;exact H
       clear H;have H:=H1;clear H1;obtain rfl:=Option.some.inj H;have p101:0 ≤ (x5_1:Int):=of_decide_eq_true (by first|(with_reducible assumption)|assumption);have q101:x5_1 < (l0.length:Int):=of_decide_eq_true (by first|(with_reducible assumption)|assumption);obtain ⟨ad101,e101,hx101_0,hx101_1⟩:=at_T58 HR0.out x5_1 p101 q101;cases e101;replace hx101_0:=(HB.out.cell (World.block_lt_of_cell? w _ hx101_0)).trans hx101_0;replace hx101_1:=(HB.out.cell (World.block_lt_of_cell? w _ hx101_1)).trans hx101_1;replace p101:=eq_true p101;replace q101:=eq_true q101;go_wp2_with (first|((with_reducible refine gate_callee (f:=9) rfl ?_);refine goesL_ (some 22) rfl rfl Tryd.func9 (by kernel_rfl) rfl #[.string ((rd_T58 l0 x5_1).f1),.string a1] rfl (by (try simp only [List.map_toArray,List.map_cons,List.map_nil]);first|done|rfl|(simp only [List.length_drop,List.length_take];rfl)) ?_;(with_reducible refine (glob_Fits.calls k1 ((rd_T58 l0 x5_1).f1) a1 true t103 _ A6.out).mono ?_);rintro e w8 ⟨rfl,hb⟩;refine ⟨_,rfl,?_⟩;have n0_:=Aside0.mk (below_step (by repeat (first|(with_reducible first|exact HB.out|apply bwA|apply pwbN|apply bw1)|exact HB.out)) hb);clear HB;have HB:=n0_;clear n0_;(try clear hb);(try clear hb2);(try clear hk);(try clear hi);have p104:0 ≤ (x5_1:Int):=of_decide_eq_true (by first|(with_reducible assumption)|assumption);have q104:x5_1 < (l0.length:Int):=of_decide_eq_true (by first|(with_reducible assumption)|assumption);obtain ⟨ad104,e104,hx104_0,hx104_1⟩:=at_T58 HR0.out x5_1 p104 q104;obtain rfl:ad101 = ad104:=(by injection e104);replace hx104_0:=(HB.out.cell (World.block_lt_of_cell? w _ hx104_0)).trans hx104_0;replace hx104_1:=(HB.out.cell (World.block_lt_of_cell? w _ hx104_1)).trans hx104_1;replace p104:=eq_true p104;replace q104:=eq_true q104))
       go_ret
       exact ⟨by first|rfl|(simp [errW_none,errW_some] <;> rfl)|(simp [*,errW_none,errW_some] <;> rfl),by repeat (first|(with_reducible first|exact HB.out|apply bwA|apply pwbN|apply bw1)|exact HB.out)⟩
      ·replace c7:=Bool.eq_false_iff.mpr c7;subst c7;have H1:(filter_takes.l0 k1 l0 a1 (wrap64 (x5_1 - 1))) = some r:=by rw [if_neg (show ¬ (false = true) by decide)] at H;exact H
       clear H;have H:=H1;clear H1;have H':=Aside0.mk H;clear H;have p101:0 ≤ (x5_1:Int):=of_decide_eq_true (by first|(with_reducible assumption)|assumption);have q101:x5_1 < (l0.length:Int):=of_decide_eq_true (by first|(with_reducible assumption)|assumption);obtain ⟨ad101,e101,hx101_0,hx101_1⟩:=at_T58 HR0.out x5_1 p101 q101;cases e101;replace hx101_0:=(HB.out.cell (World.block_lt_of_cell? w _ hx101_0)).trans hx101_0;replace hx101_1:=(HB.out.cell (World.block_lt_of_cell? w _ hx101_1)).trans hx101_1;replace p101:=eq_true p101;replace q101:=eq_true q101;go_wp2_with (first|((with_reducible refine gate_callee (f:=9) rfl ?_);refine goesL_ (some 22) rfl rfl Tryd.func9 (by kernel_rfl) rfl #[.string ((rd_T58 l0 x5_1).f1),.string a1] rfl (by (try simp only [List.map_toArray,List.map_cons,List.map_nil]);first|done|rfl|(simp only [List.length_drop,List.length_take];rfl)) ?_;(with_reducible refine (glob_Fits.calls k1 ((rd_T58 l0 x5_1).f1) a1 false t103 _ A6.out).mono ?_);rintro e w9 ⟨rfl,hb⟩;refine ⟨_,rfl,?_⟩;have n0_:=Aside0.mk (below_step (by repeat (first|(with_reducible first|exact HB.out|apply bwA|apply pwbN|apply bw1)|exact HB.out)) hb);clear HB;have HB:=n0_;clear n0_;(try clear hb);(try clear hb2);(try clear hk);(try clear hi)))
       go_roundg k1
       case measure=>have:=HK1.out;omega
       case rel=>exact ⟨(wrap64 (x5_1 - 1)),(by first|rfl|(simp;done)|(simp [*];done)),H',⟨by have:=HK1.out;omega⟩,⟨by repeat (first|(with_reducible first|exact HB.out|apply bwA|apply pwbN|apply bw1)|exact HB.out)⟩⟩
     ·rw [if_neg c5] at H;exact absurd H (by simp)
    ·rw [if_neg c4] at H;exact absurd H (by simp)
   ·rw [if_neg c3] at H;have c3b0:decide (0 ≤ x5_1) = false:=decide_eq_false c3;clear c3;obtain rfl:=Option.some.inj H;go_wp2;go_ret
    exact ⟨by first|rfl|(simp [errW_none,errW_some] <;> rfl)|(simp [*,errW_none,errW_some] <;> rfl),by repeat (first|(with_reducible first|exact HB.out|apply bwA|apply pwbN|apply bw1)|exact HB.out)⟩
end Go.Proofs.YtcbbcnmifohibaaDoor.All
end
section
namespace Go.Proofs.YtcbbcnmifohibaaDoorW.MakeCap
open Go Go.RowKit Go.Proofs.YtcbbcnmifohibaaDoorW.PrintWords
theorem R_makecap {α:Type} {P:Program} {ops:Array Oper} {rest:List Oper} {o:Oper} {a:Act} {Q:Exit→Act→World→Prop} (d:Kd α) {w0 W:World} (base e:Nat) (hgd:o.guard = none) {N:Tmp} (_hd:o.dst = some N) (t:TypeId) (x y:Operand) (ho:o.op = .makeSlice t x y) (n:Int) (hx:a.eval x = .int .i64 0) (hy:a.eval y = .int .i64 n)
    (ht:P.underlying t = some (.slice e)) (z:Value) (bytes:Nat) (hinfo:(P.info? e).map (fun i=>(i.zero,i.size,i.bytes)) = some (some z,d.sz,bytes)) (_hs0:0 < d.sz) (hb0:0 < bytes)
    {ok:Nat→Prop} (hfresh:ok W.heap.size) (h0:0 ≤ n) (hl:n.toNat * bytes ≤ 281474976710656) (HB:Below base w0 W) (hbase:base ≤ W.heap.size)
    (h:∀ v1 w1,d.R e w1 base ok v1 []→Below base w0 w1→W.grownBy w1 none→(∃ b,v1.ownBlock = some b∧W.heap.size ≤ b)→wpList P ops Q rest (a.put o.dst v1) w1):wpList P ops Q (o :: rest) a W:=by
  obtain ⟨m,rfl⟩:=Int.eq_ofNat_of_zero_le h0
  simp only [Int.toNat_natCast] at hl
  obtain ⟨i0,hi,hzz⟩:=Option.map_eq_some_iff.1 hinfo
  simp only [Prod.mk.injEq] at hzz
  obtain ⟨hz0,hz1,hz2⟩:=hzz
  have hm:m ≤ 281474976710656:=Nat.le_trans (Nat.le_mul_of_pos_right _ hb0) hl
  have hr:=run_make (P:=P) W t e i0 z ht hi hz0 .i64 .i64 0 (m:Int) (by omega) (by omega)
    (by
      have h3:((i0.bytes * m:Nat):Int) ≤ 281474976710656:=by rw [hz2,Nat.mul_comm];omega
      rwa [Int.natCast_mul] at h3) (by omega)
  simp only [Int.toNat_natCast] at hr
  rw [hz1] at hr
  have hrun:(execOp a.eval o).run P W = .ok (.value (.slice (some ⟨W.heap.size,0,none⟩) 0 m)) (W.alloc (.cells (madeCells z.cells (m * d.sz)) e)):=by simp [execOp,ho,hx,hy,hr]
  refine Kd.event_run hgd hrun (h _ _ ⟨fun k hk=>?_,[],⟨by simp,.inr ⟨W.heap.size,m,_,rfl,hbase,blk_new W _,Nat.zero_le _,by simp only [maxLen];omega,by simp [size_madeCells],by simp⟩⟩,Reps.none _ _⟩ (HB.alloc hbase _) (World.grownBy_alloc W _ none) ⟨W.heap.size,by simp [Value.ownBlock],Nat.le_refl _⟩)
  have:W.heap.size = k:=by simpa [Value.ownBlock] using hk
  subst this
  exact hfresh
end Go.Proofs.YtcbbcnmifohibaaDoorW.MakeCap
end
