/- Made by programs of the prover: walks of Go functions, the words that they use, and plain laws, each text in a section of its own; no condition of its own. -/
import Derived.Deep.Slices
import Derived.SizedLaws
import Derived.ChangeSlices
import Derived.ChangeArms
import Derived.ChangeSame
import Derived.ProofKit
import Derived.Test.YtenbelecmmpdgaaGreatDoorZMemberWrites1
import Derived.Test.YtenbelecmmpdgaaGreatDoorZMemberWrites2
import Derived.Test.YtenbelecmmpdgaaGreatDoorZMemberWrites3
import Derived.Test.YtenbelecmmpdgaaGreatDoorZMemberWrites5
import Derived.Test.YtenbelecmmpdgaaGreatDoorZMemberWrites6
import Derived.Test.YtenbelecmmpdgaaGreatDoorZMemberWrites7
import Derived.Test.YtenbelecmmpdgaaGreatDoorZMemberWrites8
section
namespace Go.Proofs.YtenbelecmmpdgaaGreatDoor.All
open Go.RowKit Go.Proofs.YtenbelecmmpdgaaGreatDoorW.PrintWords Go.Proofs.YtenbelecmmpdgaaGreatDoorW.PrintLast Go.Proofs.YtenbelecmmpdgaaGreatDoorW.PrintMore
open Go.Proofs.YtenbelecmmpdgaaGreatDoorW.Mine
attribute [local go_sem] gtr_string leq_string geq_string
attribute [local go_sem] max2_int min2_int max_two min_two max_three min_three max_four min_four
set_option linter.unusedVariables false
set_option linter.unusedSimpArgs false
def creelref_RecordText.l0:Nat→Int→ByteArray→ByteArray→Option (ByteArray × Int)
 | 0,_,_,_=>none
 | k + 1,x5,x102000,x102001=>(strconv_Itoa_76.f x5).bind fun t103=>(if t103.size + 1 ≤ 9223372036854775807 then (if (t103 ++ (⟨#[32]⟩:ByteArray)).size + x102000.size ≤ 9223372036854775807 then (if ((t103 ++ (⟨#[32]⟩:ByteArray)) ++ x102000).size + 1 ≤ 9223372036854775807 then (if (((t103 ++ (⟨#[32]⟩:ByteArray)) ++ x102000) ++ (⟨#[61]⟩:ByteArray)).size + x102001.size ≤ 9223372036854775807 then (if ((((t103 ++ (⟨#[32]⟩:ByteArray)) ++ x102000) ++ (⟨#[61]⟩:ByteArray)) ++ x102001).size + 1 ≤ 9223372036854775807 then (if ((((((t103 ++ (⟨#[32]⟩:ByteArray)) ++ x102000) ++ (⟨#[61]⟩:ByteArray)) ++ x102001) ++ (⟨#[10]⟩:ByteArray)).size:Int) = x5 then (some (((((t103 ++ (⟨#[32]⟩:ByteArray)) ++ x102000) ++ (⟨#[61]⟩:ByteArray)) ++ x102001) ++ (⟨#[10]⟩:ByteArray),0)) else (creelref_RecordText.l0 k (wrap64 (x5 + 1)) x102000 x102001)) else (none)) else (none)) else (none)) else (none)) else (none))
def creelref_RecordText.f (k:Nat) (a0_0:ByteArray) (a0_1:ByteArray):Option (ByteArray × Int):=(creelref_RecordFault.f k a0_0 a0_1).bind fun t102=>(if t102 = 0 then (creelref_RecordText.l0 k 1 a0_0 a0_1) else (some ((⟨#[]⟩:ByteArray),t102)))
theorem creelref_RecordText.mono_l:∀ k,(∀ y0 y1 y2,LeO (creelref_RecordText.l0 k y0 y1 y2) (creelref_RecordText.l0 (k + 1) y0 y1 y2))
 | 0=>fun _ _ _ r h=>by simp [creelref_RecordText.l0] at h
 | k + 1=>by
  have ih0:=creelref_RecordText.mono_l k
  ·intro y0 y1 y2
   unfold creelref_RecordText.l0
   repeat' first
   | (with_reducible exact ih0 _ _ _)
   | (with_reducible exact creelref_RecordFault.mono _ _ _)
   | (with_reducible exact LeO.refl _)
   | (with_reducible exact LeO.none _)
   | (with_reducible refine LeO.ite ?_ ?_)
   | (with_reducible refine LeO.bind ?_ (fun _=>?_))
   | exact ih0 _ _ _
   | exact creelref_RecordFault.mono _ _ _
   | exact LeO.none _
   | refine LeO.ite ?_ ?_
   | refine LeO.bind ?_ (fun _=>?_)
theorem creelref_RecordText.mono:∀ a0 a1 k,LeO (creelref_RecordText.f k a0 a1) (creelref_RecordText.f (k + 1) a0 a1):=by
 intro a0 a1 k;have ih0:=creelref_RecordText.mono_l k;unfold creelref_RecordText.f;repeat' first
  | (with_reducible exact ih0 _ _ _)
  | (with_reducible exact creelref_RecordFault.mono _ _ _)
  | (with_reducible exact LeO.refl _)
  | (with_reducible exact LeO.none _)
  | (with_reducible refine LeO.ite ?_ ?_)
  | (with_reducible refine LeO.bind ?_ (fun _=>?_))
  | exact ih0 _ _ _
  | exact creelref_RecordFault.mono _ _ _
  | exact LeO.none _
  | refine LeO.ite ?_ ?_
  | refine LeO.bind ?_ (fun _=>?_)
def creelref_RecordText.T6:Bool × List (List Nat × List Nat):=(true,[([],[]),([0],[0]),([1],[1]),([],[]),([3],[3]),([2,4],[2,4]),([5],[5]),([],[]),([7],[7]),([6,8],[6,8]),([9],[9]),([10,1,0,1,2,3,4,5,6,7,8,9,10],[10])])
def creelref_RecordText.B6:List Nat:=[0,1,3,0,8,31,63,0,128,511,1023,2047]
theorem creelref_RecordText.tab6:rtab .any (opsOf Tryz.f84 6) = creelref_RecordText.T6:=by kernel_rfl
theorem creelref_RecordText.bits6:waitsOk creelref_RecordText.T6.2 creelref_RecordText.B6 = true:=by kernel_rfl
set_option maxHeartbeats 8000000 in
set_option maxRecDepth 100000 in
theorem creelref_RecordText.calls (k:Nat) (a0_0:ByteArray) (a0_1:ByteArray) (r1:ByteArray) (r2:Int) (w:World) (HT0:Aside0 (Tab w)) (h:creelref_RecordText.f k a0_0 a0_1 = some (r1,r2)) :
 Calls Tryz.prog 84 #[.agg #[.string a0_0,.string a0_1]] w fun e w'=>e = .returned (.tuple #[.string r1,.int .i64 r2])∧Below w.heap.size w w':=by
 have hu78:=Tryz.underlying78;have HB:=Aside0.mk (Below.refl w.heap.size w);have H:((creelref_RecordFault.f k a0_0 a0_1).bind fun t102=>(if t102 = 0 then (creelref_RecordText.l0 k 1 a0_0 a0_1) else (some ((⟨#[]⟩:ByteArray),t102)))) = some (r1,r2):=h;clear h;replace H:=Option.bind_eq_some_iff.mp H;obtain ⟨t102,A20,H⟩:=H;replace H:(if t102 = 0 then (creelref_RecordText.l0 k 1 a0_0 a0_1) else (some ((⟨#[]⟩:ByteArray),t102))) = some (r1,r2):=H;have A2:=Aside0.mk A20;clear A20;by_cases c3:t102 = 0
 ·rw [if_pos c3] at H;have c3b0:(t102 == 0) = true:=beq_iff_eq.mpr c3;have c3b1:(t102 != 0) = false:=bne_eq_false_iff_eq.mpr c3;clear c3;have H':=Aside0.mk H;clear H;go_enter Tryz.func84,Tryz.ntmps84;go_wp2_with (first|((with_reducible refine gate_dst (N:=1) rfl ?_);refine box_event ?hg (N:=1) ?hd (cs:=#[.string a0_0,.string a0_1]) (t:=78) ?hr ?_;(case hd=>rfl);(case hg=>rfl);(case hr=>first|(go_simp;done)|(go_simp;rfl));intro gb101 hg w4 hbox hb;have n0_:=Aside0.mk (below_step (by repeat (first|(with_reducible first|exact HB.out|apply bwA|apply pwbN|apply bw1)|exact HB.out)) hb);have n1_:=Aside0.mk (hbox);have n2_:=Aside0.mk ((by rw [hg];exact (below_size (by repeat (first|(with_reducible first|exact HB.out|apply bwA|apply pwbN|apply bw1)|exact HB.out))):w.heap.size ≤ gb101));have n3_:=Aside0.mk ((by rw [hg];exact (below_size (by repeat (first|(with_reducible first|exact HB.out|apply bwA|apply pwbN|apply bw1)|exact HB.out))):w.heap.size ≤ gb101));clear HB;have HB:=n0_;have BK101:=n1_;have GW101:=n2_;have GE101:=n3_;clear n0_ n1_ n2_ n3_;clear hb hbox hg;obtain ⟨hcz5_0,hcz5_1,hfz5_0,hfz5_1⟩:=blkA2 BK101.out)|((with_reducible refine gate_callee (f:=118) rfl ?_);refine goesL_ (some 8) rfl rfl Tryz.func118 (by kernel_rfl) rfl #[.agg #[.string a0_0,.string a0_1]] rfl (by (try simp only [List.map_toArray,List.map_cons,List.map_nil]);first|done|rfl|(simp only [List.length_drop,List.length_take];rfl)) ?_;(with_reducible refine (creelref_RecordFault.calls k a0_0 a0_1 t102 _ A2.out).mono ?_);rintro e w6 ⟨rfl,hb⟩;refine ⟨_,rfl,?_⟩;have n0_:=Aside0.mk (blk_below (g:=gb101) (o := .cells #[.string a0_0,.string a0_1] 78 (0,0)) (by (with_reducible repeat (first|refine blk_drewN ?_ _|refine blk_drew ?_|refine blk_alloc ?_ _));exact BK101.out) hb);have n1_:=Aside0.mk (below_step (by repeat (first|(with_reducible first|exact HB.out|apply bwA|apply pwbN|apply bw1|refine below_set ?_ GE101.out)|exact HB.out)) hb);clear BK101;clear HB;have BK101:=n0_;have HB:=n1_;clear n0_ n1_;(try clear hb);(try clear hb2);(try clear hk);(try clear hi)))
  go_loopg [5] k (fun kq v5 w'=>∃ (x5_1:Int),v5 = .int .i64 x5_1∧Aside0 (creelref_RecordText.l0 kq x5_1 a0_0 a0_1 = some (r1,r2))∧Aside0 (kq ≤ k)∧Aside0 (w'.heap[gb101]? = some (.cells #[.string a0_0,.string a0_1] 78 (0,0)))∧Aside0 (Below w.heap.size w w'))
  case atStart=>exact ⟨(1),(by first|rfl|(simp;done)|(have h1_:∀ b:UInt8,(⟨#[b]⟩:ByteArray).size = 1:=fun _=>rfl;simp [h1_];done)|(simp [*];done)),H',⟨Nat.le_refl _⟩,⟨by (with_reducible repeat (first|refine blk_drewN ?_ _|refine blk_drew ?_|refine blk_alloc ?_ _));exact BK101.out⟩,⟨by repeat (first|(with_reducible first|exact HB.out|apply bwA|apply pwbN|apply bw1|refine below_set ?_ GE101.out)|exact HB.out)⟩⟩
  case round =>
   clear H';repeat first|clear c3|clear c3b0|clear c3b1|clear hcz5_0|clear hcz5_1|clear hfz5_0|clear hfz5_1
   obtain ⟨x5_1,rfl,HA,HK1,BK101,HB⟩:=hrel;cases gk with
   | zero=>exact absurd HA.out (by simp [creelref_RecordText.l0])
   | succ k1 =>
    have H:=HA.out;clear HA;simp only [creelref_RecordText.l0] at H;replace H:=Option.bind_eq_some_iff.mp H;obtain ⟨t103,A70,H⟩:=H;replace H:(if t103.size + 1 ≤ 9223372036854775807 then (if (t103 ++ (⟨#[32]⟩:ByteArray)).size + a0_0.size ≤ 9223372036854775807 then (if ((t103 ++ (⟨#[32]⟩:ByteArray)) ++ a0_0).size + 1 ≤ 9223372036854775807 then (if (((t103 ++ (⟨#[32]⟩:ByteArray)) ++ a0_0) ++ (⟨#[61]⟩:ByteArray)).size + a0_1.size ≤ 9223372036854775807 then (if ((((t103 ++ (⟨#[32]⟩:ByteArray)) ++ a0_0) ++ (⟨#[61]⟩:ByteArray)) ++ a0_1).size + 1 ≤ 9223372036854775807 then (if ((((((t103 ++ (⟨#[32]⟩:ByteArray)) ++ a0_0) ++ (⟨#[61]⟩:ByteArray)) ++ a0_1) ++ (⟨#[10]⟩:ByteArray)).size:Int) = x5_1 then (some (((((t103 ++ (⟨#[32]⟩:ByteArray)) ++ a0_0) ++ (⟨#[61]⟩:ByteArray)) ++ a0_1) ++ (⟨#[10]⟩:ByteArray),0)) else (creelref_RecordText.l0 k1 (wrap64 (x5_1 + 1)) a0_0 a0_1)) else (none)) else (none)) else (none)) else (none)) else (none)) = some (r1,r2):=H;have A7:=Aside0.mk A70;clear A70;by_cases c8:t103.size + 1 ≤ 9223372036854775807
    ·rw [if_pos c8] at H;have c8b0:=eq_true c8;have c8b1:decide (t103.size + 1 ≤ 9223372036854775807) = true:=decide_eq_true c8;try have c8b2:(9223372036854775807 < t103.size + 1) = False:=eq_false (Nat.not_lt.2 c8)
     by_cases c9:(t103 ++ (⟨#[32]⟩:ByteArray)).size + a0_0.size ≤ 9223372036854775807
     ·rw [if_pos c9] at H;have c9b0:=eq_true c9;have c9b1:decide ((t103 ++ (⟨#[32]⟩:ByteArray)).size + a0_0.size ≤ 9223372036854775807) = true:=decide_eq_true c9;try have c9b2:(9223372036854775807 < (t103 ++ (⟨#[32]⟩:ByteArray)).size + a0_0.size) = False:=eq_false (Nat.not_lt.2 c9)
      have c9b9_:(9223372036854775807 < t103.size + 1 + a0_0.size) = False:=eq_false (by have h_:=c9;simp only [ByteArray.size_append] at h_;first|omega|(have h1_:∀ b:UInt8,(⟨#[b]⟩:ByteArray).size = 1:=fun _=>rfl;simp only [h1_] at h_;omega));by_cases c10:((t103 ++ (⟨#[32]⟩:ByteArray)) ++ a0_0).size + 1 ≤ 9223372036854775807
      ·rw [if_pos c10] at H;have c10b0:=eq_true c10;have c10b1:decide (((t103 ++ (⟨#[32]⟩:ByteArray)) ++ a0_0).size + 1 ≤ 9223372036854775807) = true:=decide_eq_true c10;try have c10b2:(9223372036854775807 < ((t103 ++ (⟨#[32]⟩:ByteArray)) ++ a0_0).size + 1) = False:=eq_false (Nat.not_lt.2 c10)
       have c10b9_:(9223372036854775807 < t103.size + 1 + a0_0.size + 1) = False:=eq_false (by have h_:=c10;simp only [ByteArray.size_append] at h_;first|omega|(have h1_:∀ b:UInt8,(⟨#[b]⟩:ByteArray).size = 1:=fun _=>rfl;simp only [h1_] at h_;omega));by_cases c11:(((t103 ++ (⟨#[32]⟩:ByteArray)) ++ a0_0) ++ (⟨#[61]⟩:ByteArray)).size + a0_1.size ≤ 9223372036854775807
       ·rw [if_pos c11] at H;have c11b0:=eq_true c11;have c11b1:decide ((((t103 ++ (⟨#[32]⟩:ByteArray)) ++ a0_0) ++ (⟨#[61]⟩:ByteArray)).size + a0_1.size ≤ 9223372036854775807) = true:=decide_eq_true c11;try have c11b2:(9223372036854775807 < (((t103 ++ (⟨#[32]⟩:ByteArray)) ++ a0_0) ++ (⟨#[61]⟩:ByteArray)).size + a0_1.size) = False:=eq_false (Nat.not_lt.2 c11)
        have c11b9_:(9223372036854775807 < t103.size + 1 + a0_0.size + 1 + a0_1.size) = False:=eq_false (by have h_:=c11;simp only [ByteArray.size_append] at h_;first|omega|(have h1_:∀ b:UInt8,(⟨#[b]⟩:ByteArray).size = 1:=fun _=>rfl;simp only [h1_] at h_;omega));by_cases c12:((((t103 ++ (⟨#[32]⟩:ByteArray)) ++ a0_0) ++ (⟨#[61]⟩:ByteArray)) ++ a0_1).size + 1 ≤ 9223372036854775807
        ·rw [if_pos c12] at H;have c12b0:=eq_true c12;have c12b1:decide (((((t103 ++ (⟨#[32]⟩:ByteArray)) ++ a0_0) ++ (⟨#[61]⟩:ByteArray)) ++ a0_1).size + 1 ≤ 9223372036854775807) = true:=decide_eq_true c12;try have c12b2:(9223372036854775807 < ((((t103 ++ (⟨#[32]⟩:ByteArray)) ++ a0_0) ++ (⟨#[61]⟩:ByteArray)) ++ a0_1).size + 1) = False:=eq_false (Nat.not_lt.2 c12)
         have c12b9_:(9223372036854775807 < t103.size + 1 + a0_0.size + 1 + a0_1.size + 1) = False:=eq_false (by have h_:=c12;simp only [ByteArray.size_append] at h_;first|omega|(have h1_:∀ b:UInt8,(⟨#[b]⟩:ByteArray).size = 1:=fun _=>rfl;simp only [h1_] at h_;omega));by_cases c13:((((((t103 ++ (⟨#[32]⟩:ByteArray)) ++ a0_0) ++ (⟨#[61]⟩:ByteArray)) ++ a0_1) ++ (⟨#[10]⟩:ByteArray)).size:Int) = x5_1
         ·rw [if_pos c13] at H;have c13b0:(((((((t103 ++ (⟨#[32]⟩:ByteArray)) ++ a0_0) ++ (⟨#[61]⟩:ByteArray)) ++ a0_1) ++ (⟨#[10]⟩:ByteArray)).size:Int) == x5_1) = true:=beq_iff_eq.mpr c13;have c13b0f:(((t103.size:Int) + 1 + (a0_0.size:Int) + 1 + (a0_1.size:Int) + 1) == x5_1) = true:=by
           have h1_:∀ b:UInt8,(⟨#[b]⟩:ByteArray).size = 1:=fun _=>rfl
           have e_:((((((t103 ++ (⟨#[32]⟩:ByteArray)) ++ a0_0) ++ (⟨#[61]⟩:ByteArray)) ++ a0_1) ++ (⟨#[10]⟩:ByteArray)).size:Int) = ((t103.size:Int) + 1 + (a0_0.size:Int) + 1 + (a0_1.size:Int) + 1:Int):=by simp only [ByteArray.size_append,h1_];omega
           rw [← e_];exact c13b0
          have c13b1:(((((((t103 ++ (⟨#[32]⟩:ByteArray)) ++ a0_0) ++ (⟨#[61]⟩:ByteArray)) ++ a0_1) ++ (⟨#[10]⟩:ByteArray)).size:Int) != x5_1) = false:=bne_eq_false_iff_eq.mpr c13;have c13b1f:(((t103.size:Int) + 1 + (a0_0.size:Int) + 1 + (a0_1.size:Int) + 1) != x5_1) = false:=by
           have h1_:∀ b:UInt8,(⟨#[b]⟩:ByteArray).size = 1:=fun _=>rfl
           have e_:((((((t103 ++ (⟨#[32]⟩:ByteArray)) ++ a0_0) ++ (⟨#[61]⟩:ByteArray)) ++ a0_1) ++ (⟨#[10]⟩:ByteArray)).size:Int) = ((t103.size:Int) + 1 + (a0_0.size:Int) + 1 + (a0_1.size:Int) + 1:Int):=by simp only [ByteArray.size_append,h1_];omega
           rw [← e_];exact c13b1
          clear c13;simp only [Option.some.injEq,Prod.mk.injEq] at H;obtain ⟨rfl,rfl⟩:=H;try go_wp2
          have n0_:=Aside0.mk (blk_drew BK101.out);have n1_:=Aside0.mk (bw1 HB.out);clear BK101;clear HB;have BK101:=n0_;have HB:=n1_;clear n0_ n1_;refine start_ (n:=12) (S:=fun w'=>w'.cell? ⟨gb101,0,none⟩ = some (.string a0_0)∧w'.cell? ⟨gb101,1,none⟩ = some (.string a0_1)) (ds:=[]) #[false,false,false,false,false,false,false,false,false,false,false,false] (by kernel_rfl) rfl rfl ⟨(blk_cell BK101.out 0).trans rfl,(blk_cell BK101.out 1).trans rfl⟩ (fun hHeld=>?_);refine with_tabW creelref_RecordText.tab6 creelref_RecordText.bits6 (fun HT_ HW_=>?_);generalize wr.drew = w14 at BK101 HB hHeld ⊢;refine pure_ (i:=0) (N:=some 14) (v:=?_) (a':=?_) #[true,false,false,false,false,false,false,false,false,false,false,false] rfl rfl (any_of HT_.out (by kernel_rfl)) (fun _ _ _ h=>h) (Or.inl ⟨by rfl,?_⟩) ?_ ?_;rotate_left
          ·intro w';go_simp
           with_reducible rfl
          rotate_left
          ·simp only [Act.put,List.setIfInBounds_toArray,List.set_cons_zero,List.set_cons_succ,i64_w,i32_w];rfl
          refine pure_ (i:=3) (N:=some 17) (v:=?_) (a':=?_) #[true,false,false,true,false,false,false,false,false,false,false,false] rfl rfl (any_of HT_.out (by kernel_rfl)) (fun _ _ _ h=>h) (Or.inl ⟨by rfl,?_⟩) ?_ ?_;rotate_left
          ·intro w';go_simp
           with_reducible rfl
          rotate_left
          ·simp only [Act.put,List.setIfInBounds_toArray,List.set_cons_zero,List.set_cons_succ,i64_w,i32_w];rfl
          refine pure_ (i:=7) (N:=some 21) (v:=?_) (a':=?_) #[true,false,false,true,false,false,false,true,false,false,false,false] rfl rfl (any_of HT_.out (by kernel_rfl)) (fun _ _ _ h=>h) (Or.inl ⟨by rfl,?_⟩) ?_ ?_;rotate_left
          ·intro w';go_simp
           with_reducible rfl
          rotate_left
          ·simp only [Act.put,List.setIfInBounds_toArray,List.set_cons_zero,List.set_cons_succ,i64_w,i32_w];rfl
          refine take_ (i:=4) (N:=some 18) (v:=?_) (a':=?_) #[true,false,false,true,true,false,false,true,false,false,false,false] rfl rfl (take_ofW HT_.out HW_.out (by kernel_rfl)) (fun _ _ _ h=>h) (Or.inl ⟨by rfl,?_⟩) hHeld ?_ ?_;rotate_left
          ·rintro w' ⟨s0,s1⟩;go_simp
           with_reducible rfl
          rotate_left
          ·simp only [Act.put,List.setIfInBounds_toArray,List.set_cons_zero,List.set_cons_succ,i64_w,i32_w];rfl
          refine take_ (i:=8) (N:=some 22) (v:=?_) (a':=?_) #[true,false,false,true,true,false,false,true,true,false,false,false] rfl rfl (take_ofW HT_.out HW_.out (by kernel_rfl)) (fun _ _ _ h=>h) (Or.inl ⟨by rfl,?_⟩) hHeld ?_ ?_;rotate_left
          ·rintro w' ⟨s0,s1⟩;go_simp
           with_reducible rfl
          rotate_left
          ·simp only [Act.put,List.setIfInBounds_toArray,List.set_cons_zero,List.set_cons_succ,i64_w,i32_w];rfl
          refine one_ (i:=1) (N:=some 15) #[true,true,false,true,true,false,false,true,true,false,false,false] rfl rfl (one_of HT_.out (by kernel_rfl)) (by decide) (fun K hK=>?_);refine goes_ Tryz.func76 (by kernel_rfl) rfl #[.int .i64 x5_1] (by rfl) rfl rfl (by (try simp only [List.map_toArray,List.map_cons,List.map_nil]);first|done|rfl|(simp only [List.length_drop,List.length_take];rfl)) ?_;with_reducible refine (strconv_Itoa_76.calls x5_1 t103 _ (by first|exact HT0|exact ⟨tab_on HT0.out HB.out⟩|exact ⟨tab_on HT0.out (by repeat (first|(with_reducible first|exact HB.out|apply bwA|apply pwbN|apply bw1)|exact HB.out|exact Below.refl _ _))⟩) A7.out).mono ?_
          rintro e w15 ⟨rfl,hb⟩;refine ⟨_,rfl,?_⟩;have n0_:=Aside0.mk (blk_below (g:=gb101) (o := .cells #[.string a0_0,.string a0_1] 78 (0,0)) (by (with_reducible repeat (first|refine blk_drewN ?_ _|refine blk_drew ?_|refine blk_alloc ?_ _));exact BK101.out) hb);have n1_:=Aside0.mk (below_step (by repeat (first|(with_reducible first|exact HB.out|apply bwA|apply pwbN|apply bw1|refine below_set ?_ GE101.out)|exact HB.out)) hb);clear BK101;clear HB;have BK101:=n0_;have HB:=n1_;clear n0_ n1_;(try clear hb);(try clear hb2);(try clear hk);(try clear hi);refine hK.out _ _ ⟨(blk_cell BK101.out 0).trans rfl,(blk_cell BK101.out 1).trans rfl⟩ (fun hHeld=>?_);clear hK K;refine norm_ (a':=?_) ?_ ?_;rotate_left
          ·show Act.put _ (some 15) _ = _
           simp only [Act.put,List.setIfInBounds_toArray,List.set_cons_zero,List.set_cons_succ,i64_w,i32_w];rfl
          refine pure_ (i:=2) (N:=some 16) (v:=?_) (a':=?_) #[true,true,true,true,true,false,false,true,true,false,false,false] rfl rfl (any_of HT_.out (by kernel_rfl)) (fun _ _ _ h=>h) (Or.inl ⟨by rfl,?_⟩) ?_ ?_;rotate_left
          ·intro w';go_simp
           with_reducible rfl
          rotate_left
          ·simp only [Act.put,List.setIfInBounds_toArray,List.set_cons_zero,List.set_cons_succ,i64_w,i32_w];rfl
          refine pure_ (i:=5) (N:=some 19) (v:=?_) (a':=?_) #[true,true,true,true,true,true,false,true,true,false,false,false] rfl rfl (any_of HT_.out (by kernel_rfl)) (fun _ _ _ h=>h) (Or.inl ⟨by rfl,?_⟩) ?_ ?_;rotate_left
          ·intro w';go_simp
           with_reducible rfl
          rotate_left
          ·simp only [Act.put,List.setIfInBounds_toArray,List.set_cons_zero,List.set_cons_succ,i64_w,i32_w];rfl
          refine pure_ (i:=6) (N:=some 20) (v:=?_) (a':=?_) #[true,true,true,true,true,true,true,true,true,false,false,false] rfl rfl (any_of HT_.out (by kernel_rfl)) (fun _ _ _ h=>h) (Or.inl ⟨by rfl,?_⟩) ?_ ?_;rotate_left
          ·intro w';go_simp
           with_reducible rfl
          rotate_left
          ·simp only [Act.put,List.setIfInBounds_toArray,List.set_cons_zero,List.set_cons_succ,i64_w,i32_w];rfl
          refine pure_ (i:=9) (N:=some 23) (v:=?_) (a':=?_) #[true,true,true,true,true,true,true,true,true,true,false,false] rfl rfl (any_of HT_.out (by kernel_rfl)) (fun _ _ _ h=>h) (Or.inl ⟨by rfl,?_⟩) ?_ ?_;rotate_left
          ·intro w';go_simp
           with_reducible rfl
          rotate_left
          ·simp only [Act.put,List.setIfInBounds_toArray,List.set_cons_zero,List.set_cons_succ,i64_w,i32_w];rfl
          refine pure_ (i:=10) (N:=some 24) (v:=?_) (a':=?_) #[true,true,true,true,true,true,true,true,true,true,true,false] rfl rfl (any_of HT_.out (by kernel_rfl)) (fun _ _ _ h=>h) (Or.inl ⟨by rfl,?_⟩) ?_ ?_;rotate_left
          ·intro w';go_simp
           with_reducible rfl
          rotate_left
          ·simp only [Act.put,List.setIfInBounds_toArray,List.set_cons_zero,List.set_cons_succ,i64_w,i32_w];rfl
          refine pure_ (i:=11) (N:=some 6) (v:=?_) (a':=?_) #[true,true,true,true,true,true,true,true,true,true,true,true] rfl rfl (any_of HT_.out (by kernel_rfl)) (fun _ _ _ h=>h) (Or.inl ⟨by rfl,?_⟩) ?_ ?_;rotate_left
          ·intro w';go_simp
           with_reducible rfl
          rotate_left
          ·simp only [Act.put,List.setIfInBounds_toArray,List.set_cons_zero,List.set_cons_succ,i64_w,i32_w];rfl
          refine done_ (done_of HT_.out (by kernel_rfl)) ?_;try go_wp2
          go_ret2
          exact ⟨by first|rfl|(simp [errW_none,errW_some] <;> rfl)|(simp [*,errW_none,errW_some] <;> rfl),by repeat (first|(with_reducible first|exact HB.out|apply bwA|apply pwbN|apply bw1|refine below_set ?_ GE101.out)|exact HB.out)⟩
         ·rw [if_neg c13] at H;have c13b0:(((((((t103 ++ (⟨#[32]⟩:ByteArray)) ++ a0_0) ++ (⟨#[61]⟩:ByteArray)) ++ a0_1) ++ (⟨#[10]⟩:ByteArray)).size:Int) == x5_1) = false:=beq_eq_false_iff_ne.mpr c13;have c13b0f:(((t103.size:Int) + 1 + (a0_0.size:Int) + 1 + (a0_1.size:Int) + 1) == x5_1) = false:=by
           have h1_:∀ b:UInt8,(⟨#[b]⟩:ByteArray).size = 1:=fun _=>rfl
           have e_:((((((t103 ++ (⟨#[32]⟩:ByteArray)) ++ a0_0) ++ (⟨#[61]⟩:ByteArray)) ++ a0_1) ++ (⟨#[10]⟩:ByteArray)).size:Int) = ((t103.size:Int) + 1 + (a0_0.size:Int) + 1 + (a0_1.size:Int) + 1:Int):=by simp only [ByteArray.size_append,h1_];omega
           rw [← e_];exact c13b0
          have c13b1:(((((((t103 ++ (⟨#[32]⟩:ByteArray)) ++ a0_0) ++ (⟨#[61]⟩:ByteArray)) ++ a0_1) ++ (⟨#[10]⟩:ByteArray)).size:Int) != x5_1) = true:=bne_iff_ne.mpr c13;have c13b1f:(((t103.size:Int) + 1 + (a0_0.size:Int) + 1 + (a0_1.size:Int) + 1) != x5_1) = true:=by
           have h1_:∀ b:UInt8,(⟨#[b]⟩:ByteArray).size = 1:=fun _=>rfl
           have e_:((((((t103 ++ (⟨#[32]⟩:ByteArray)) ++ a0_0) ++ (⟨#[61]⟩:ByteArray)) ++ a0_1) ++ (⟨#[10]⟩:ByteArray)).size:Int) = ((t103.size:Int) + 1 + (a0_0.size:Int) + 1 + (a0_1.size:Int) + 1:Int):=by simp only [ByteArray.size_append,h1_];omega
           rw [← e_];exact c13b1
          have H':=Aside0.mk H;clear H;try go_wp2
          have n0_:=Aside0.mk (blk_drew BK101.out);have n1_:=Aside0.mk (bw1 HB.out);clear BK101;clear HB;have BK101:=n0_;have HB:=n1_;clear n0_ n1_;refine start_ (n:=12) (S:=fun w'=>w'.cell? ⟨gb101,0,none⟩ = some (.string a0_0)∧w'.cell? ⟨gb101,1,none⟩ = some (.string a0_1)) (ds:=[]) #[false,false,false,false,false,false,false,false,false,false,false,false] (by kernel_rfl) rfl rfl ⟨(blk_cell BK101.out 0).trans rfl,(blk_cell BK101.out 1).trans rfl⟩ (fun hHeld=>?_);refine with_tabW creelref_RecordText.tab6 creelref_RecordText.bits6 (fun HT_ HW_=>?_);generalize wr.drew = w16 at BK101 HB hHeld ⊢;refine pure_ (i:=0) (N:=some 14) (v:=?_) (a':=?_) #[true,false,false,false,false,false,false,false,false,false,false,false] rfl rfl (any_of HT_.out (by kernel_rfl)) (fun _ _ _ h=>h) (Or.inl ⟨by rfl,?_⟩) ?_ ?_;rotate_left
          ·intro w';go_simp
           with_reducible rfl
          rotate_left
          ·simp only [Act.put,List.setIfInBounds_toArray,List.set_cons_zero,List.set_cons_succ,i64_w,i32_w];rfl
          refine pure_ (i:=3) (N:=some 17) (v:=?_) (a':=?_) #[true,false,false,true,false,false,false,false,false,false,false,false] rfl rfl (any_of HT_.out (by kernel_rfl)) (fun _ _ _ h=>h) (Or.inl ⟨by rfl,?_⟩) ?_ ?_;rotate_left
          ·intro w';go_simp
           with_reducible rfl
          rotate_left
          ·simp only [Act.put,List.setIfInBounds_toArray,List.set_cons_zero,List.set_cons_succ,i64_w,i32_w];rfl
          refine pure_ (i:=7) (N:=some 21) (v:=?_) (a':=?_) #[true,false,false,true,false,false,false,true,false,false,false,false] rfl rfl (any_of HT_.out (by kernel_rfl)) (fun _ _ _ h=>h) (Or.inl ⟨by rfl,?_⟩) ?_ ?_;rotate_left
          ·intro w';go_simp
           with_reducible rfl
          rotate_left
          ·simp only [Act.put,List.setIfInBounds_toArray,List.set_cons_zero,List.set_cons_succ,i64_w,i32_w];rfl
          refine take_ (i:=4) (N:=some 18) (v:=?_) (a':=?_) #[true,false,false,true,true,false,false,true,false,false,false,false] rfl rfl (take_ofW HT_.out HW_.out (by kernel_rfl)) (fun _ _ _ h=>h) (Or.inl ⟨by rfl,?_⟩) hHeld ?_ ?_;rotate_left
          ·rintro w' ⟨s0,s1⟩;go_simp
           with_reducible rfl
          rotate_left
          ·simp only [Act.put,List.setIfInBounds_toArray,List.set_cons_zero,List.set_cons_succ,i64_w,i32_w];rfl
          refine take_ (i:=8) (N:=some 22) (v:=?_) (a':=?_) #[true,false,false,true,true,false,false,true,true,false,false,false] rfl rfl (take_ofW HT_.out HW_.out (by kernel_rfl)) (fun _ _ _ h=>h) (Or.inl ⟨by rfl,?_⟩) hHeld ?_ ?_;rotate_left
          ·rintro w' ⟨s0,s1⟩;go_simp
           with_reducible rfl
          rotate_left
          ·simp only [Act.put,List.setIfInBounds_toArray,List.set_cons_zero,List.set_cons_succ,i64_w,i32_w];rfl
          refine one_ (i:=1) (N:=some 15) #[true,true,false,true,true,false,false,true,true,false,false,false] rfl rfl (one_of HT_.out (by kernel_rfl)) (by decide) (fun K hK=>?_);refine goes_ Tryz.func76 (by kernel_rfl) rfl #[.int .i64 x5_1] (by rfl) rfl rfl (by (try simp only [List.map_toArray,List.map_cons,List.map_nil]);first|done|rfl|(simp only [List.length_drop,List.length_take];rfl)) ?_;with_reducible refine (strconv_Itoa_76.calls x5_1 t103 _ (by first|exact HT0|exact ⟨tab_on HT0.out HB.out⟩|exact ⟨tab_on HT0.out (by repeat (first|(with_reducible first|exact HB.out|apply bwA|apply pwbN|apply bw1)|exact HB.out|exact Below.refl _ _))⟩) A7.out).mono ?_
          rintro e w17 ⟨rfl,hb⟩;refine ⟨_,rfl,?_⟩;have n0_:=Aside0.mk (blk_below (g:=gb101) (o := .cells #[.string a0_0,.string a0_1] 78 (0,0)) (by (with_reducible repeat (first|refine blk_drewN ?_ _|refine blk_drew ?_|refine blk_alloc ?_ _));exact BK101.out) hb);have n1_:=Aside0.mk (below_step (by repeat (first|(with_reducible first|exact HB.out|apply bwA|apply pwbN|apply bw1|refine below_set ?_ GE101.out)|exact HB.out)) hb);clear BK101;clear HB;have BK101:=n0_;have HB:=n1_;clear n0_ n1_;(try clear hb);(try clear hb2);(try clear hk);(try clear hi);refine hK.out _ _ ⟨(blk_cell BK101.out 0).trans rfl,(blk_cell BK101.out 1).trans rfl⟩ (fun hHeld=>?_);clear hK K;refine norm_ (a':=?_) ?_ ?_;rotate_left
          ·show Act.put _ (some 15) _ = _
           simp only [Act.put,List.setIfInBounds_toArray,List.set_cons_zero,List.set_cons_succ,i64_w,i32_w];rfl
          refine pure_ (i:=2) (N:=some 16) (v:=?_) (a':=?_) #[true,true,true,true,true,false,false,true,true,false,false,false] rfl rfl (any_of HT_.out (by kernel_rfl)) (fun _ _ _ h=>h) (Or.inl ⟨by rfl,?_⟩) ?_ ?_;rotate_left
          ·intro w';go_simp
           with_reducible rfl
          rotate_left
          ·simp only [Act.put,List.setIfInBounds_toArray,List.set_cons_zero,List.set_cons_succ,i64_w,i32_w];rfl
          refine pure_ (i:=5) (N:=some 19) (v:=?_) (a':=?_) #[true,true,true,true,true,true,false,true,true,false,false,false] rfl rfl (any_of HT_.out (by kernel_rfl)) (fun _ _ _ h=>h) (Or.inl ⟨by rfl,?_⟩) ?_ ?_;rotate_left
          ·intro w';go_simp
           with_reducible rfl
          rotate_left
          ·simp only [Act.put,List.setIfInBounds_toArray,List.set_cons_zero,List.set_cons_succ,i64_w,i32_w];rfl
          refine pure_ (i:=6) (N:=some 20) (v:=?_) (a':=?_) #[true,true,true,true,true,true,true,true,true,false,false,false] rfl rfl (any_of HT_.out (by kernel_rfl)) (fun _ _ _ h=>h) (Or.inl ⟨by rfl,?_⟩) ?_ ?_;rotate_left
          ·intro w';go_simp
           with_reducible rfl
          rotate_left
          ·simp only [Act.put,List.setIfInBounds_toArray,List.set_cons_zero,List.set_cons_succ,i64_w,i32_w];rfl
          refine pure_ (i:=9) (N:=some 23) (v:=?_) (a':=?_) #[true,true,true,true,true,true,true,true,true,true,false,false] rfl rfl (any_of HT_.out (by kernel_rfl)) (fun _ _ _ h=>h) (Or.inl ⟨by rfl,?_⟩) ?_ ?_;rotate_left
          ·intro w';go_simp
           with_reducible rfl
          rotate_left
          ·simp only [Act.put,List.setIfInBounds_toArray,List.set_cons_zero,List.set_cons_succ,i64_w,i32_w];rfl
          refine pure_ (i:=10) (N:=some 24) (v:=?_) (a':=?_) #[true,true,true,true,true,true,true,true,true,true,true,false] rfl rfl (any_of HT_.out (by kernel_rfl)) (fun _ _ _ h=>h) (Or.inl ⟨by rfl,?_⟩) ?_ ?_;rotate_left
          ·intro w';go_simp
           with_reducible rfl
          rotate_left
          ·simp only [Act.put,List.setIfInBounds_toArray,List.set_cons_zero,List.set_cons_succ,i64_w,i32_w];rfl
          refine pure_ (i:=11) (N:=some 6) (v:=?_) (a':=?_) #[true,true,true,true,true,true,true,true,true,true,true,true] rfl rfl (any_of HT_.out (by kernel_rfl)) (fun _ _ _ h=>h) (Or.inl ⟨by rfl,?_⟩) ?_ ?_;rotate_left
          ·intro w';go_simp
           with_reducible rfl
          rotate_left
          ·simp only [Act.put,List.setIfInBounds_toArray,List.set_cons_zero,List.set_cons_succ,i64_w,i32_w];rfl
          refine done_ (done_of HT_.out (by kernel_rfl)) ?_;try go_wp2
          go_roundg k1
          case measure=>have:=HK1.out;omega
          case rel=>exact ⟨(wrap64 (x5_1 + 1)),(by first|rfl|(simp;done)|(have h1_:∀ b:UInt8,(⟨#[b]⟩:ByteArray).size = 1:=fun _=>rfl;simp [h1_];done)|(simp [*];done)),H',⟨by have:=HK1.out;omega⟩,⟨by (with_reducible repeat (first|refine blk_drewN ?_ _|refine blk_drew ?_|refine blk_alloc ?_ _));exact BK101.out⟩,⟨by repeat (first|(with_reducible first|exact HB.out|apply bwA|apply pwbN|apply bw1|refine below_set ?_ GE101.out)|exact HB.out)⟩⟩
        ·rw [if_neg c12] at H;exact absurd H (by simp)
       ·rw [if_neg c11] at H;exact absurd H (by simp)
      ·rw [if_neg c10] at H;exact absurd H (by simp)
     ·rw [if_neg c9] at H;exact absurd H (by simp)
    ·rw [if_neg c8] at H;exact absurd H (by simp)
 ·rw [if_neg c3] at H;have c3b0:(t102 == 0) = false:=beq_eq_false_iff_ne.mpr c3;have c3b1:(t102 != 0) = true:=bne_iff_ne.mpr c3;simp only [Option.some.injEq,Prod.mk.injEq] at H;obtain ⟨rfl,rfl⟩:=H;go_enter Tryz.func84,Tryz.ntmps84;go_wp2_with (first|((with_reducible refine gate_dst (N:=1) rfl ?_);refine box_event ?hg (N:=1) ?hd (cs:=#[.string a0_0,.string a0_1]) (t:=78) ?hr ?_;(case hd=>rfl);(case hg=>rfl);(case hr=>first|(go_simp;done)|(go_simp;rfl));intro gb101 hg w18 hbox hb;have n0_:=Aside0.mk (below_step (by repeat (first|(with_reducible first|exact HB.out|apply bwA|apply pwbN|apply bw1)|exact HB.out)) hb);have n1_:=Aside0.mk (hbox);have n2_:=Aside0.mk ((by rw [hg];exact (below_size (by repeat (first|(with_reducible first|exact HB.out|apply bwA|apply pwbN|apply bw1)|exact HB.out))):w.heap.size ≤ gb101));have n3_:=Aside0.mk ((by rw [hg];exact (below_size (by repeat (first|(with_reducible first|exact HB.out|apply bwA|apply pwbN|apply bw1)|exact HB.out))):w.heap.size ≤ gb101));clear HB;have HB:=n0_;have BK101:=n1_;have GW101:=n2_;have GE101:=n3_;clear n0_ n1_ n2_ n3_;clear hb hbox hg;obtain ⟨_,_,_,_⟩:=blkA2 BK101.out)|((with_reducible refine gate_callee (f:=118) rfl ?_);refine goesL_ (some 8) rfl rfl Tryz.func118 (by kernel_rfl) rfl #[.agg #[.string a0_0,.string a0_1]] rfl (by (try simp only [List.map_toArray,List.map_cons,List.map_nil]);first|done|rfl|(simp only [List.length_drop,List.length_take];rfl)) ?_;(with_reducible refine (creelref_RecordFault.calls k a0_0 a0_1 t102 _ A2.out).mono ?_);rintro e w20 ⟨rfl,hb⟩;refine ⟨_,rfl,?_⟩;have n0_:=Aside0.mk (blk_below (g:=gb101) (o := .cells #[.string a0_0,.string a0_1] 78 (0,0)) (by (with_reducible repeat (first|refine blk_drewN ?_ _|refine blk_drew ?_|refine blk_alloc ?_ _));exact BK101.out) hb);have n1_:=Aside0.mk (below_step (by repeat (first|(with_reducible first|exact HB.out|apply bwA|apply pwbN|apply bw1|refine below_set ?_ GE101.out)|exact HB.out)) hb);clear BK101;clear HB;have BK101:=n0_;have HB:=n1_;clear n0_ n1_;(try clear hb);(try clear hb2);(try clear hk);(try clear hi)))
  go_ret2
  exact ⟨by first|rfl|(simp [errW_none,errW_some] <;> rfl)|(simp [*,errW_none,errW_some] <;> rfl),by repeat (first|(with_reducible first|exact HB.out|apply bwA|apply pwbN|apply bw1|refine below_set ?_ GE101.out)|exact HB.out)⟩
def creelref_PaxText.l0:Nat→List (S78)→ByteArray→Int→Option (ByteArray × Int)
 | 0,_,_,_=>none
 | k + 1,x0,x5,x6=>if x6 ≥ 0 then (if 0 ≤ x6 then (if x6 < (x0.length:Int) then ((creelref_RecordText.f k ((rd_T78 x0 x6).f0) ((rd_T78 x0 x6).f1)).bind fun bt103=>(if bt103.1.size + x5.size ≤ 9223372036854775807 then (creelref_PaxText.l0 k x0 (bt103.1 ++ x5) (wrap64 (x6 - 1))) else (none))) else (none)) else (none)) else (some (x5,0))
def creelref_PaxText.f (k:Nat) (l0:List (S78)):Option (ByteArray × Int):=(creelref_PaxFault.f k l0).bind fun t101=>(if t101 = 0 then (creelref_PaxText.l0 k l0 (⟨#[]⟩:ByteArray) (wrap64 ((l0.length:Int) - 1))) else (some ((⟨#[]⟩:ByteArray),t101)))
theorem creelref_PaxText.mono_l:∀ k,(∀ y0 y1 y2,LeO (creelref_PaxText.l0 k y0 y1 y2) (creelref_PaxText.l0 (k + 1) y0 y1 y2))
 | 0=>fun _ _ _ r h=>by simp [creelref_PaxText.l0] at h
 | k + 1=>by
  have ih0:=creelref_PaxText.mono_l k
  ·intro y0 y1 y2
   unfold creelref_PaxText.l0
   repeat' first
   | (with_reducible exact ih0 _ _ _)
   | (with_reducible exact creelref_PaxFault.mono _ _)
   | (with_reducible exact creelref_RecordText.mono _ _ _)
   | (with_reducible exact LeO.refl _)
   | (with_reducible exact LeO.none _)
   | (with_reducible refine LeO.ite ?_ ?_)
   | (with_reducible refine LeO.bind ?_ (fun _=>?_))
   | exact ih0 _ _ _
   | exact creelref_PaxFault.mono _ _
   | exact creelref_RecordText.mono _ _ _
   | exact LeO.none _
   | refine LeO.ite ?_ ?_
   | refine LeO.bind ?_ (fun _=>?_)
theorem creelref_PaxText.mono:∀ a0 k,LeO (creelref_PaxText.f k a0) (creelref_PaxText.f (k + 1) a0):=by
 intro a0 k;have ih0:=creelref_PaxText.mono_l k;unfold creelref_PaxText.f;repeat' first
  | (with_reducible exact ih0 _ _ _)
  | (with_reducible exact creelref_PaxFault.mono _ _)
  | (with_reducible exact creelref_RecordText.mono _ _ _)
  | (with_reducible exact LeO.refl _)
  | (with_reducible exact LeO.none _)
  | (with_reducible refine LeO.ite ?_ ?_)
  | (with_reducible refine LeO.bind ?_ (fun _=>?_))
  | exact ih0 _ _ _
  | exact creelref_PaxFault.mono _ _
  | exact creelref_RecordText.mono _ _ _
  | exact LeO.none _
  | refine LeO.ite ?_ ?_
  | refine LeO.bind ?_ (fun _=>?_)
set_option maxHeartbeats 8000000 in
set_option maxRecDepth 100000 in
theorem creelref_PaxText.calls (k:Nat) (A0:Option Addr) (c0:Nat) (l0:List (S78)) (r1:ByteArray) (r2:Int) (w:World) (hr0:Kd.C k78 w A0 l0.length l0) (hc0:l0.length ≤ c0) (HT0:Aside0 (Tab w)) (h:creelref_PaxText.f k l0 = some (r1,r2)) :
 Calls Tryz.prog 35 #[.slice A0 l0.length c0] w fun e w'=>e = .returned (.tuple #[.string r1,.int .i64 r2])∧Below w.heap.size w w':=by
 have hu78:=Tryz.underlying78;have HR0:=Aside0.mk hr0;have HC0:=Aside0.mk hc0;clear hr0 hc0;have HB:=Aside0.mk (Below.refl w.heap.size w);have H:((creelref_PaxFault.f k l0).bind fun t101=>(if t101 = 0 then (creelref_PaxText.l0 k l0 (⟨#[]⟩:ByteArray) (wrap64 ((l0.length:Int) - 1))) else (some ((⟨#[]⟩:ByteArray),t101)))) = some (r1,r2):=h;clear h;replace H:=Option.bind_eq_some_iff.mp H;obtain ⟨t101,A20,H⟩:=H;replace H:(if t101 = 0 then (creelref_PaxText.l0 k l0 (⟨#[]⟩:ByteArray) (wrap64 ((l0.length:Int) - 1))) else (some ((⟨#[]⟩:ByteArray),t101))) = some (r1,r2):=H;have A2:=Aside0.mk A20;clear A20;by_cases c3:t101 = 0
 ·rw [if_pos c3] at H;have c3b0:(t101 == 0) = true:=beq_iff_eq.mpr c3;have c3b1:(t101 != 0) = false:=bne_eq_false_iff_eq.mpr c3;clear c3;have H':=Aside0.mk H;clear H;go_enter Tryz.func35,Tryz.ntmps35;go_wp2_with (first|((with_reducible refine gate_callee (f:=83) rfl ?_);refine goesL_ (some 10) rfl rfl Tryz.func83 (by kernel_rfl) rfl #[.slice A0 l0.length c0] rfl (by (try simp only [List.map_toArray,List.map_cons,List.map_nil]);first|done|rfl|(simp only [List.length_drop,List.length_take];rfl)) ?_;(with_reducible refine (creelref_PaxFault.calls k _ _ l0 t101 _ ?side1 ?side2 A2.out).mono ?_);(case side1=>repeat (first|exact HR0.out|(with_reducible refine Kd.C_alloc ?_ _)|(with_reducible refine Kd.C_drewN ?_ _)|(with_reducible refine Kd.C_drew ?_)));(case side2=>exact HC0.out);rintro e w4 ⟨rfl,hb⟩;refine ⟨_,rfl,?_⟩;have n0_:=Aside0.mk (below_step (by repeat (first|(with_reducible first|exact HB.out|apply bwA|apply pwbN|apply bw1)|exact HB.out)) hb);clear HB;have HB:=n0_;clear n0_;(try clear hb);(try clear hb2);(try clear hk);(try clear hi)))
  go_loopg [5,6] k (fun kq v5 v6 w'=>∃ (x5_1:ByteArray) (x6_1:Int),v5 = .string x5_1∧v6 = .int .i64 x6_1∧Aside0 (creelref_PaxText.l0 kq l0 x5_1 x6_1 = some (r1,r2))∧Aside0 (kq ≤ k)∧Aside0 (Below w.heap.size w w'))
  case atStart=>exact ⟨((⟨#[]⟩:ByteArray)),(wrap64 ((l0.length:Int) - 1)),(by first|rfl|(simp;done)|(simp [*];done)),(by first|rfl|(simp;done)|(simp [*];done)),H',⟨Nat.le_refl _⟩,⟨by repeat (first|(with_reducible first|exact HB.out|apply bwA|apply pwbN|apply bw1)|exact HB.out)⟩⟩
  case round =>
   clear H';repeat first|clear c3|clear c3b0|clear c3b1
   obtain ⟨x5_1,x6_1,rfl,rfl,HA,HK1,HB⟩:=hrel;cases gk with
   | zero=>exact absurd HA.out (by simp [creelref_PaxText.l0])
   | succ k1 =>
    have H:=HA.out;clear HA;simp only [creelref_PaxText.l0] at H;by_cases c5:x6_1 ≥ 0
    ·rw [if_pos c5] at H;have c5b0:decide (0 ≤ x6_1) = true:=decide_eq_true c5;clear c5;by_cases c6:0 ≤ x6_1
     ·rw [if_pos c6] at H;have c6b0:decide (0 ≤ x6_1) = true:=decide_eq_true c6;clear c6;by_cases c7:x6_1 < (l0.length:Int)
      ·rw [if_pos c7] at H;have c7b0:decide (x6_1 < (l0.length:Int)) = true:=decide_eq_true c7;clear c7;replace H:=Option.bind_eq_some_iff.mp H;obtain ⟨⟨t103,t104⟩,A80,H⟩:=H;replace H:(if t103.size + x5_1.size ≤ 9223372036854775807 then (creelref_PaxText.l0 k1 l0 (t103 ++ x5_1) (wrap64 (x6_1 - 1))) else (none)) = some (r1,r2):=H;have A8:=Aside0.mk A80;clear A80;by_cases c9:t103.size + x5_1.size ≤ 9223372036854775807
       ·rw [if_pos c9] at H;have c9b0:=eq_true c9;have c9b1:decide (t103.size + x5_1.size ≤ 9223372036854775807) = true:=decide_eq_true c9;try have c9b2:(9223372036854775807 < t103.size + x5_1.size) = False:=eq_false (Nat.not_lt.2 c9)
        have H':=Aside0.mk H;clear H;have p102:0 ≤ (x6_1:Int):=of_decide_eq_true (by first|(with_reducible assumption)|assumption);have q102:x6_1 < (l0.length:Int):=of_decide_eq_true (by first|(with_reducible assumption)|assumption);obtain ⟨ad102,e102,hx102_0,hx102_1⟩:=at_T78 HR0.out x6_1 p102 q102;cases e102;replace hx102_0:=(HB.out.cell (World.block_lt_of_cell? w _ hx102_0)).trans hx102_0;replace hx102_1:=(HB.out.cell (World.block_lt_of_cell? w _ hx102_1)).trans hx102_1;replace p102:=eq_true p102;replace q102:=eq_true q102;go_wp2_with (first|((with_reducible refine gate_callee (f:=84) rfl ?_);refine goesL_ (some 26) rfl rfl Tryz.func84 (by kernel_rfl) rfl #[.agg #[.string ((rd_T78 l0 x6_1).f0),.string ((rd_T78 l0 x6_1).f1)]] rfl (by (try simp only [List.map_toArray,List.map_cons,List.map_nil]);first|done|rfl|(simp only [List.length_drop,List.length_take];rfl)) ?_;(with_reducible refine (creelref_RecordText.calls k1 ((rd_T78 l0 x6_1).f0) ((rd_T78 l0 x6_1).f1) t103 t104 _ (by first|exact HT0|exact ⟨tab_on HT0.out HB.out⟩|exact ⟨tab_on HT0.out (by repeat (first|(with_reducible first|exact HB.out|apply bwA|apply pwbN|apply bw1)|exact HB.out|exact Below.refl _ _))⟩) A8.out).mono ?_);rintro e w10 ⟨rfl,hb⟩;refine ⟨_,rfl,?_⟩;have n0_:=Aside0.mk (below_step (by repeat (first|(with_reducible first|exact HB.out|apply bwA|apply pwbN|apply bw1)|exact HB.out)) hb);clear HB;have HB:=n0_;clear n0_;(try clear hb);(try clear hb2);(try clear hk);(try clear hi)))
        go_roundg k1
        case measure=>have:=HK1.out;omega
        case rel=>exact ⟨(t103 ++ x5_1),(wrap64 (x6_1 - 1)),(by first|rfl|(simp;done)|(simp [*];done)),(by first|rfl|(simp;done)|(simp [*];done)),H',⟨by have:=HK1.out;omega⟩,⟨by repeat (first|(with_reducible first|exact HB.out|apply bwA|apply pwbN|apply bw1)|exact HB.out)⟩⟩
       ·rw [if_neg c9] at H;exact absurd H (by simp)
      ·rw [if_neg c7] at H;exact absurd H (by simp)
     ·rw [if_neg c6] at H;exact absurd H (by simp)
    ·rw [if_neg c5] at H;have c5b0:decide (0 ≤ x6_1) = false:=decide_eq_false c5;clear c5;simp only [Option.some.injEq,Prod.mk.injEq] at H;obtain ⟨rfl,rfl⟩:=H;go_wp2;go_ret2
     exact ⟨by first|rfl|(simp [errW_none,errW_some] <;> rfl)|(simp [*,errW_none,errW_some] <;> rfl),by repeat (first|(with_reducible first|exact HB.out|apply bwA|apply pwbN|apply bw1)|exact HB.out)⟩
 ·rw [if_neg c3] at H;have c3b0:(t101 == 0) = false:=beq_eq_false_iff_ne.mpr c3;have c3b1:(t101 != 0) = true:=bne_iff_ne.mpr c3;simp only [Option.some.injEq,Prod.mk.injEq] at H;obtain ⟨rfl,rfl⟩:=H;go_enter Tryz.func35,Tryz.ntmps35;go_wp2_with (first|((with_reducible refine gate_callee (f:=83) rfl ?_);refine goesL_ (some 10) rfl rfl Tryz.func83 (by kernel_rfl) rfl #[.slice A0 l0.length c0] rfl (by (try simp only [List.map_toArray,List.map_cons,List.map_nil]);first|done|rfl|(simp only [List.length_drop,List.length_take];rfl)) ?_;(with_reducible refine (creelref_PaxFault.calls k _ _ l0 t101 _ ?side1 ?side2 A2.out).mono ?_);(case side1=>repeat (first|exact HR0.out|(with_reducible refine Kd.C_alloc ?_ _)|(with_reducible refine Kd.C_drewN ?_ _)|(with_reducible refine Kd.C_drew ?_)));(case side2=>exact HC0.out);rintro e w11 ⟨rfl,hb⟩;refine ⟨_,rfl,?_⟩;have n0_:=Aside0.mk (below_step (by repeat (first|(with_reducible first|exact HB.out|apply bwA|apply pwbN|apply bw1)|exact HB.out)) hb);clear HB;have HB:=n0_;clear n0_;(try clear hb);(try clear hb2);(try clear hk);(try clear hi)))
  go_ret2
  exact ⟨by first|rfl|(simp [errW_none,errW_some] <;> rfl)|(simp [*,errW_none,errW_some] <;> rfl),by repeat (first|(with_reducible first|exact HB.out|apply bwA|apply pwbN|apply bw1)|exact HB.out)⟩
end Go.Proofs.YtenbelecmmpdgaaGreatDoor.All
end
section
namespace Go.Proofs.YtenbelecmmpdgaaGreatDoor.All
open Go.RowKit Go.Proofs.YtenbelecmmpdgaaGreatDoorW.PrintWords Go.Proofs.YtenbelecmmpdgaaGreatDoorW.PrintLast Go.Proofs.YtenbelecmmpdgaaGreatDoorW.PrintMore
open Go.Proofs.YtenbelecmmpdgaaGreatDoorW.Mine
attribute [local go_sem] gtr_string leq_string geq_string
attribute [local go_sem] max2_int min2_int max_two min_two max_three min_three max_four min_four
set_option linter.unusedVariables false
set_option linter.unusedSimpArgs false
open Go.Proofs.YtenbelecmmpdgaaGreatDoorW.MapOwn Go.Proofs.YtenbelecmmpdgaaGreatDoorW.MarkRow
theorem creelref_MemberBytes.szH:(Tryz.prog.info? 55).map (·.size) = some 11:=by kernel_rfl
theorem creelref_MemberBytes.info:(Tryz.prog.info? 5).map (fun i=>(i.zero,i.size,i.bytes)) = some (some (.int .u8 0),1,1):=by kernel_rfl
theorem creelref_MemberBytes.builtH (n:Int):Tryz.prog.built 55 [(0,.string (⟨#[64,112,97,120]⟩:ByteArray)),(6,.int .i64 n),(8,.int .u8 120)] = some #[.string (⟨#[64,112,97,120]⟩:ByteArray),.string (⟨#[]⟩:ByteArray),.string (⟨#[]⟩:ByteArray),.int .i64 0,.int .i64 0,.int .i64 0,.int .i64 n,.int .i64 0,.int .u8 120,.string (⟨#[]⟩:ByteArray),.string (⟨#[]⟩:ByteArray)]:=by kernel_rfl
theorem creelref_MemberBytes.build_event {P:Program} {ops:Array Oper} {rest:List Oper} {o:Oper} {a:Act} {Q:Exit→Act→World→Prop} {W:World} (hgd:o.guard = none) {t:TypeId} {parts:Array (Nat × Operand)} (ho:o.op = .build t parts) {cells:Array Value} (hp:P.built t (parts.map fun (i,x)=>(i,a.eval x)).toList = some cells) (h:wpList P ops Q rest (a.put o.dst (.agg cells)) W):wpList P ops Q (o :: rest) a W:=by
 refine wpList_build hgd t parts ho (by rw [hp];rfl) ?_;rw [hp];exact h
theorem creelref_MemberBytes.conv:∀ (W:World) (s:ByteArray),(convert 9 24 (.string s)).run Tryz.prog W = .ok (.slice (some ⟨W.heap.size,0,none⟩) (bytesOf s).length (grownCap W s.size 0 5)) (Lib.bytesWorld W 5 s):=fun W s=>by
 rw [bytesOf_length]
 exact Lib.run_convert_string_bytes W 9 24 5 s Tryz.underlying9 Tryz.underlying24 Tryz.underlying5
theorem creelref_MemberBytes.le2 {f:List Int} {t:ByteArray} {A:Prop} (h:A∧t.size < 10000000000000∧f.length < 10000000000000):(bytesOf t).length + f.length ≤ 140737488355328:=by
 rw [bytesOf_length];omega
theorem creelref_MemberBytes.le3 {f g:List Int} {s t:ByteArray} {A A':Prop} (h:A∧t.size < 10000000000000∧f.length < 10000000000000) (h':A'∧s.size < 10000000000000∧g.length < 10000000000000):(bytesOf t ++ f).length + (bytesOf s ++ g).length ≤ 140737488355328:=by
 rw [List.length_append,List.length_append,bytesOf_length,bytesOf_length];omega
theorem creelref_MemberBytes.readsC {w:World} {base:Nat} {e:TypeId} {A:Option Addr} {n c:Nat} {xs:List Int} (h:MRow w base e (.slice A n c) xs):(Kd.int .u8).C w A xs.length xs:=by
 obtain ⟨A',c',e',_,hc⟩:=MRow.reads h;cases e';exact hc
theorem creelref_MemberBytes.szM:(Tryz.prog.info? 55).map (·.size) = some 11:=by kernel_rfl
def creelref_MemberBytes.tail (k:Nat) (l:List (S78)) (out:List Int):Option (List Int × Int):=if l.length = 0 then some (out,0) else (creelref_PaxText.f k l).bind fun t=>(creelref_HeadText.f k (⟨#[64,112,97,120]⟩:ByteArray) (⟨#[]⟩:ByteArray) (⟨#[]⟩:ByteArray) 0 0 0 (t.1.size:Int) 0 120 (⟨#[]⟩:ByteArray) (⟨#[]⟩:ByteArray)).bind fun u=>(creelref_PadFill.f k (bytesOf t.1)).bind fun ft=>if t.1.size < 100000000000000∧u.1.size < 10000000000000∧ft.length < 10000000000000 then some ((bytesOf u.1 ++ ft) ++ out,0) else none
def creelref_MemberBytes.f (k:Nat) (a0:ByteArray) (a1:Int) (a2:ByteArray) (a3 a4 a5:Int) (a6 a7:ByteArray) (a8 a9:Int) (l0:List Int):Option (List Int × Int):=(creelref_MemberHead.f k a0 a1 a2 a3 a4 a5 a6 a7 a8 a9 l0).bind fun q=>if q.2.2.2.2.2.2.2.2.2.2.2 = 0 then (creelref_MemberRecords.f k a0 a1 a2 a3 a4 a5 a6 a7 a8 a9 l0).bind fun l=>(creelref_HeadText.f k q.1 q.2.1 q.2.2.1 q.2.2.2.1 q.2.2.2.2.1 q.2.2.2.2.2.1 q.2.2.2.2.2.2.1 q.2.2.2.2.2.2.2.1 q.2.2.2.2.2.2.2.2.1 q.2.2.2.2.2.2.2.2.2.1 q.2.2.2.2.2.2.2.2.2.2.1).bind fun s=>(creelref_PadFill.f k l0).bind fun fl=>if True∧s.1.size < 10000000000000∧fl.length < 10000000000000 then creelref_MemberBytes.tail k l.1 (bytesOf s.1 ++ fl) else none else some ([],q.2.2.2.2.2.2.2.2.2.2.2)
set_option maxHeartbeats 16000000 in
set_option maxRecDepth 100000 in
theorem creelref_MemberBytes.calls (k:Nat) (a0:ByteArray) (a1:Int) (a2:ByteArray) (a3 a4 a5:Int) (a6 a7:ByteArray) (a8 a9:Int) (A0:Option Addr) (c0:Nat) (l0:List Int) (r1:List Int) (r2:Int) (w:World) (hr0:Kd.C (Kd.int .u8) w A0 l0.length l0) (hc0:l0.length ≤ c0) (HT0:Aside0 (Tab w)) (h:creelref_MemberBytes.f k a0 a1 a2 a3 a4 a5 a6 a7 a8 a9 l0 = some (r1,r2)) :
 Calls Tryz.prog 9 #[.agg #[.string a0,.int .i64 a1,.string a2,.int .i64 a3,.int .i64 a4,.int .i64 a5,.string a6,.string a7,.int .i64 a8,.int .i64 a9,.slice A0 l0.length c0]] w fun e w'=>∃ v0_:Value,e = .returned (.tuple #[v0_,.int .i64 r2])∧MRow w' w.heap.size 5 v0_ r1∧Below w.heap.size w w':=by
 have hu26:=Tryz.underlying26;have hu55:=Tryz.underlying55;have HR0:=Aside0.mk hr0;have HC0:=Aside0.mk hc0;clear hr0 hc0;unfold creelref_MemberBytes.f at h;obtain ⟨⟨x0,x1,x2,x3,x4,x5,x6,x7,x8,x9,x10,e1⟩,h1,hq⟩:=Option.bind_eq_some_iff.1 h;clear h;have h:=hq;clear hq;have H1:=Aside0.mk h1;clear h1;simp only at h;by_cases c1:e1 = 0
 ·subst c1;rw [if_pos rfl] at h;obtain ⟨⟨rs,re⟩,h2,hq⟩:=Option.bind_eq_some_iff.1 h;clear h;have h:=hq;clear hq;have H2:=Aside0.mk h2;clear h2;obtain ⟨⟨s1,s2⟩,h3,hq⟩:=Option.bind_eq_some_iff.1 h;clear h;have h:=hq;clear hq;have H3:=Aside0.mk h3;clear h3;obtain ⟨fl,h4,hq⟩:=Option.bind_eq_some_iff.1 h;clear h;have h:=hq;clear hq;have H4:=Aside0.mk h4;clear h4;by_cases c2:True∧s1.size < 10000000000000∧fl.length < 10000000000000
  ·rw [if_pos c2] at h;have HL:=Aside0.mk c2;clear c2;unfold creelref_MemberBytes.tail at h;by_cases c3:rs.length = 0
   ·rw [if_pos c3] at h;obtain ⟨rfl,rfl⟩:=Prod.mk.inj (Option.some.inj h);obtain rfl:rs = []:=List.eq_nil_of_length_eq_zero c3;clear h c3;go_enter Tryz.func9,Tryz.ntmps9;go_upto_region 6 with (first|((with_reducible refine gate_dst (N:=1) rfl ?_);refine box_event ?hg (N:=1) ?hd (cs:=#[.string a0,.int .i64 a1,.string a2,.int .i64 a3,.int .i64 a4,.int .i64 a5,.string a6,.string a7,.int .i64 a8,.int .i64 a9,.slice A0 l0.length c0]) (t:=26) ?hr ?_;(case hd=>rfl);(case hg=>rfl);(case hr=>first|(go_simp;done)|(go_simp;rfl));intro gx hg w1 hbox hb1;have HKX:=Aside0.mk hbox;have HB1:=Aside0.mk hb1;clear hg hbox hb1)|((with_reducible refine gate_dst (N:=16) rfl ?_);refine load_event rfl rfl hu26 rfl rfl (cs:=[.string a0,.int .i64 a1,.string a2,.int .i64 a3,.int .i64 a4,.int .i64 a5,.string a6,.string a7,.int .i64 a8,.int .i64 a9,.slice A0 l0.length c0]) sz26 (cells_of_blk (cs:=[.string a0,.int .i64 a1,.string a2,.int .i64 a3,.int .i64 a4,.int .i64 a5,.string a6,.string a7,.int .i64 a8,.int .i64 a9,.slice A0 l0.length c0]) HKX.out) ?_)|(go_at_call 31;refine (creelref_MemberHead.calls k a0 a1 a2 a3 a4 a5 a6 a7 a8 a9 A0 c0 l0 x0 x1 x2 x3 x4 x5 x6 x7 x8 x9 x10 0 _ (Kd.C_below HR0.out HB1.out) HC0.out ⟨tab_on HT0.out HB1.out⟩ H1.out).mono ?_;rintro e w2 ⟨rfl,hb2⟩;have HB2:=Aside0.mk (below_step HB1.out hb2);have HKX2:=Aside0.mk (blk_below HKX.out hb2);clear HKX hb2;have HKX:=HKX2;clear HKX2)|((with_reducible refine gate_store (t:=55) (p:=4) rfl ?_);refine put_event rfl rfl rfl rfl rfl (heap_alloc_new _ _) creelref_MemberBytes.szM rfl rfl ?_;intro w3 hk3 hg3;have HH:=Aside0.mk hk3;have HX:=Aside0.mk (show Below w2.heap.size w2 w3 from below_grown (bwA (Below.refl _ _) _) hg3 (Nat.le_refl _) (by simp));clear hk3 hg3)|((with_reducible refine gate_dst (N:=24) rfl ?_);refine load_event rfl rfl hu26 rfl rfl (cs:=[.string a0,.int .i64 a1,.string a2,.int .i64 a3,.int .i64 a4,.int .i64 a5,.string a6,.string a7,.int .i64 a8,.int .i64 a9,.slice A0 l0.length c0]) sz26 (cells_of_blk (cs:=[.string a0,.int .i64 a1,.string a2,.int .i64 a3,.int .i64 a4,.int .i64 a5,.string a6,.string a7,.int .i64 a8,.int .i64 a9,.slice A0 l0.length c0]) (blk_below HKX.out HX.out)) ?_)|(go_at_call 32;refine (creelref_MemberRecords.calls k a0 a1 a2 a3 a4 a5 a6 a7 a8 a9 A0 c0 l0 _ re _ (Kd.C_below HR0.out (below_step HB2.out HX.out)) HC0.out ⟨tab_on HT0.out (below_step HB2.out HX.out)⟩ H2.out).mono ?_;rintro e w4 ⟨vr,rfl,hrr,hb⟩;obtain ⟨Ar,cr,rfl,hrl,hrc⟩:=Kd.R_reads hrr;have HRC:=Aside0.mk hrc;have HRL:=Aside0.mk hrl;have HX9:=Aside0.mk (below_step HX.out hb);have HH9:=Aside0.mk (blk_below HH.out hb);clear HX HH hrr hrc hrl hb;have HX:=HX9;have HH:=HH9;clear HX9 HH9)|((with_reducible refine gate_dst (N:=29) rfl ?_);refine load_event rfl rfl Tryz.underlying55 rfl rfl (cs:=[.string x0,.string x1,.string x2,.int .i64 x3,.int .i64 x4,.int .i64 x5,.int .i64 x6,.int .i64 x7,.int .u8 x8,.string x9,.string x10]) creelref_MemberBytes.szH (cells_of_blk (cs:=[.string x0,.string x1,.string x2,.int .i64 x3,.int .i64 x4,.int .i64 x5,.int .i64 x6,.int .i64 x7,.int .u8 x8,.string x9,.string x10]) HH.out) ?_)|(go_at_call 33;refine (creelref_HeadText.calls k x0 x1 x2 x3 x4 x5 x6 x7 x8 x9 x10 s1 s2 _ H3.out).mono ?_;rintro e w5 ⟨rfl,hb⟩;have HX9:=Aside0.mk (below_step HX.out hb);have HRC9:=Aside0.mk (Kd.C_below HRC.out hb);clear HX HRC hb HH;have HX:=HX9;have HRC:=HRC9;clear HX9 HRC9))
    have HB5:=Aside0.mk (below_step HB2.out HX.out);have HT5:=Aside0.mk (tab_on HT0.out HB5.out);have HKX5:=Aside0.mk (blk_below HKX.out HX.out);have HM:=Aside0.mk (MRow.of_bytes w5 w5.heap.size 5 s1 (Nat.le_refl _) (by have:=HL.out.2.1;unfold maxLen;omega));have HY:=Aside0.mk (bytes_below (Below.refl w5.heap.size w5) (Nat.le_refl _) 5 s1);have hx10:=blk_cell (blk_below HKX5.out HY.out) 10;have hcv:=creelref_MemberBytes.conv;go_wp2_with (first|(go_at_call 34;refine (creelref_PadFill.calls k A0 c0 l0 fl _ (Kd.C_below HR0.out (below_step HB5.out HY.out)) HC0.out H4.out).mono ?_;rintro e w7 ⟨vf,rfl,hrf,hb⟩;obtain ⟨Af,cf,rfl,hlf,hcf⟩:=Kd.R_reads hrf;have HCF:=Aside0.mk hcf;have HM9:=Aside0.mk (MRow.below HM.out hb);have HY9:=Aside0.mk (below_step HY.out hb);clear hrf hlf hcf hb;clear HM HY;have HM:=HM9;have HY:=HY9;clear HM9 HY9)|((with_reducible refine gate_builtin (b := .append) (xs:=#[.tmp 34,.tmp 37]) rfl ?_);at_builtin;refine wp_append_M rfl (.tmp 34) (.tmp 37) 24 rfl Tryz.underlying24 creelref_MemberBytes.info rfl rfl rfl HM.out HCF.out HY.out (below_size HY.out) (creelref_MemberBytes.le2 HL.out) ?_;intro v8 w8 hm hb hg;have HM9:=Aside0.mk hm;have HY9:=Aside0.mk hb;clear HCF hm hb hg;clear HM HY;have HM:=HM9;have HY:=HY9;clear HM9 HY9;obtain ⟨Ao,co,ev_,hlo,hco⟩:=MRow.reads HM.out;rw [List.length_append] at ev_;subst ev_;clear hlo hco))
    go_ret2
    exact ⟨_,rfl,MRow.lower HM.out (below_size HB5.out),below_step HB5.out HY.out⟩
   ·rw [if_neg c3] at h;obtain ⟨⟨t1,t2⟩,h5,hq⟩:=Option.bind_eq_some_iff.1 h;clear h;have h:=hq;clear hq;have H5:=Aside0.mk h5;clear h5;obtain ⟨⟨u1,u2⟩,h6,hq⟩:=Option.bind_eq_some_iff.1 h;clear h;have h:=hq;clear hq;have H6:=Aside0.mk h6;clear h6;obtain ⟨ft,h7,hq⟩:=Option.bind_eq_some_iff.1 h;clear h;have h:=hq;clear hq;have H7:=Aside0.mk h7;clear h7;by_cases c4:t1.size < 100000000000000∧u1.size < 10000000000000∧ft.length < 10000000000000
    ·rw [if_pos c4] at h;have HL2:=Aside0.mk c4;obtain ⟨rfl,rfl⟩:=Prod.mk.inj (Option.some.inj h);have c3b:(rs.length == 0) = false:=beq_eq_false_iff_ne.mpr c3;have c3c:((rs.length:Int) == 0) = false:=beq_eq_false_iff_ne.mpr (by omega);clear h c3 c4;go_enter Tryz.func9,Tryz.ntmps9;go_upto_region 6 with (first|((with_reducible refine gate_dst (N:=1) rfl ?_);refine box_event ?hg (N:=1) ?hd (cs:=#[.string a0,.int .i64 a1,.string a2,.int .i64 a3,.int .i64 a4,.int .i64 a5,.string a6,.string a7,.int .i64 a8,.int .i64 a9,.slice A0 l0.length c0]) (t:=26) ?hr ?_;(case hd=>rfl);(case hg=>rfl);(case hr=>first|(go_simp;done)|(go_simp;rfl));intro gx hg w1 hbox hb1;have HKX:=Aside0.mk hbox;have HB1:=Aside0.mk hb1;clear hg hbox hb1)|((with_reducible refine gate_dst (N:=16) rfl ?_);refine load_event rfl rfl hu26 rfl rfl (cs:=[.string a0,.int .i64 a1,.string a2,.int .i64 a3,.int .i64 a4,.int .i64 a5,.string a6,.string a7,.int .i64 a8,.int .i64 a9,.slice A0 l0.length c0]) sz26 (cells_of_blk (cs:=[.string a0,.int .i64 a1,.string a2,.int .i64 a3,.int .i64 a4,.int .i64 a5,.string a6,.string a7,.int .i64 a8,.int .i64 a9,.slice A0 l0.length c0]) HKX.out) ?_)|(go_at_call 31;refine (creelref_MemberHead.calls k a0 a1 a2 a3 a4 a5 a6 a7 a8 a9 A0 c0 l0 x0 x1 x2 x3 x4 x5 x6 x7 x8 x9 x10 0 _ (Kd.C_below HR0.out HB1.out) HC0.out ⟨tab_on HT0.out HB1.out⟩ H1.out).mono ?_;rintro e w2 ⟨rfl,hb2⟩;have HB2:=Aside0.mk (below_step HB1.out hb2);have HKX2:=Aside0.mk (blk_below HKX.out hb2);clear HKX hb2;have HKX:=HKX2;clear HKX2)|((with_reducible refine gate_store (t:=55) (p:=4) rfl ?_);refine put_event rfl rfl rfl rfl rfl (heap_alloc_new _ _) creelref_MemberBytes.szM rfl rfl ?_;intro w3 hk3 hg3;have HH:=Aside0.mk hk3;have HX:=Aside0.mk (show Below w2.heap.size w2 w3 from below_grown (bwA (Below.refl _ _) _) hg3 (Nat.le_refl _) (by simp));clear hk3 hg3)|((with_reducible refine gate_dst (N:=24) rfl ?_);refine load_event rfl rfl hu26 rfl rfl (cs:=[.string a0,.int .i64 a1,.string a2,.int .i64 a3,.int .i64 a4,.int .i64 a5,.string a6,.string a7,.int .i64 a8,.int .i64 a9,.slice A0 l0.length c0]) sz26 (cells_of_blk (cs:=[.string a0,.int .i64 a1,.string a2,.int .i64 a3,.int .i64 a4,.int .i64 a5,.string a6,.string a7,.int .i64 a8,.int .i64 a9,.slice A0 l0.length c0]) (blk_below HKX.out HX.out)) ?_)|(go_at_call 32;refine (creelref_MemberRecords.calls k a0 a1 a2 a3 a4 a5 a6 a7 a8 a9 A0 c0 l0 _ re _ (Kd.C_below HR0.out (below_step HB2.out HX.out)) HC0.out ⟨tab_on HT0.out (below_step HB2.out HX.out)⟩ H2.out).mono ?_;rintro e w4 ⟨vr,rfl,hrr,hb⟩;obtain ⟨Ar,cr,rfl,hrl,hrc⟩:=Kd.R_reads hrr;have HRC:=Aside0.mk hrc;have HRL:=Aside0.mk hrl;have HX9:=Aside0.mk (below_step HX.out hb);have HH9:=Aside0.mk (blk_below HH.out hb);clear HX HH hrr hrc hrl hb;have HX:=HX9;have HH:=HH9;clear HX9 HH9)|((with_reducible refine gate_dst (N:=29) rfl ?_);refine load_event rfl rfl Tryz.underlying55 rfl rfl (cs:=[.string x0,.string x1,.string x2,.int .i64 x3,.int .i64 x4,.int .i64 x5,.int .i64 x6,.int .i64 x7,.int .u8 x8,.string x9,.string x10]) creelref_MemberBytes.szH (cells_of_blk (cs:=[.string x0,.string x1,.string x2,.int .i64 x3,.int .i64 x4,.int .i64 x5,.int .i64 x6,.int .i64 x7,.int .u8 x8,.string x9,.string x10]) HH.out) ?_)|(go_at_call 33;refine (creelref_HeadText.calls k x0 x1 x2 x3 x4 x5 x6 x7 x8 x9 x10 s1 s2 _ H3.out).mono ?_;rintro e w5 ⟨rfl,hb⟩;have HX9:=Aside0.mk (below_step HX.out hb);have HRC9:=Aside0.mk (Kd.C_below HRC.out hb);clear HX HRC hb HH;have HX:=HX9;have HRC:=HRC9;clear HX9 HRC9))
     have HB5:=Aside0.mk (below_step HB2.out HX.out);have HT5:=Aside0.mk (tab_on HT0.out HB5.out);have HKX5:=Aside0.mk (blk_below HKX.out HX.out);have HM:=Aside0.mk (MRow.of_bytes w5 w5.heap.size 5 s1 (Nat.le_refl _) (by have:=HL.out.2.1;unfold maxLen;omega));have HY:=Aside0.mk (bytes_below (Below.refl w5.heap.size w5) (Nat.le_refl _) 5 s1);have hx10:=blk_cell (blk_below HKX5.out HY.out) 10;have hcv:=creelref_MemberBytes.conv;go_upto_region 11 with (first|(go_at_call 34;refine (creelref_PadFill.calls k A0 c0 l0 fl _ (Kd.C_below HR0.out (below_step HB5.out HY.out)) HC0.out H4.out).mono ?_;rintro e w7 ⟨vf,rfl,hrf,hb⟩;obtain ⟨Af,cf,rfl,hlf,hcf⟩:=Kd.R_reads hrf;have HCF:=Aside0.mk hcf;have HM9:=Aside0.mk (MRow.below HM.out hb);have HY9:=Aside0.mk (below_step HY.out hb);clear hrf hlf hcf hb;clear HM HY;have HM:=HM9;have HY:=HY9;clear HM9 HY9)|((with_reducible refine gate_builtin (b := .append) (xs:=#[.tmp 34,.tmp 37]) rfl ?_);at_builtin;refine wp_append_M rfl (.tmp 34) (.tmp 37) 24 rfl Tryz.underlying24 creelref_MemberBytes.info rfl rfl rfl HM.out HCF.out HY.out (below_size HY.out) (creelref_MemberBytes.le2 HL.out) ?_;intro v8 w8 hm hb hg;have HM9:=Aside0.mk hm;have HY9:=Aside0.mk hb;clear HCF hm hb hg;clear HM HY;have HM:=HM9;have HY:=HY9;clear HM9 HY9;obtain ⟨Ao,co,ev_,hlo,hco⟩:=MRow.reads HM.out;rw [List.length_append] at ev_;subst ev_;clear hlo hco)|(go_at_call 35;refine (creelref_PaxText.calls k Ar cr rs t1 t2 _ (Kd.C_below HRC.out HY.out) HRL.out ⟨tab_on HT5.out HY.out⟩ H5.out).mono ?_;rintro e w9 ⟨rfl,hb⟩;have HM9:=Aside0.mk (MRow.below HM.out hb);have HY9:=Aside0.mk (below_step HY.out hb);clear hb;clear HM HY;have HM:=HM9;have HY:=HY9;clear HM9 HY9)|((with_reducible refine gate_dst (N:=51) rfl ?_);refine creelref_MemberBytes.build_event rfl rfl (by (try simp only [List.map_toArray,List.map_cons,List.map_nil]);exact creelref_MemberBytes.builtH _) ?_)|(go_at_call 33;refine (creelref_HeadText.calls k (⟨#[64,112,97,120]⟩:ByteArray) (⟨#[]⟩:ByteArray) (⟨#[]⟩:ByteArray) 0 0 0 (t1.size:Int) 0 120 (⟨#[]⟩:ByteArray) (⟨#[]⟩:ByteArray) u1 u2 _ H6.out).mono ?_;rintro e w10 ⟨rfl,hb⟩;have HM9:=Aside0.mk (MRow.below HM.out hb);have HY9:=Aside0.mk (below_step HY.out hb);clear hb;clear HM HY;have HM:=HM9;have HY:=HY9;clear HM9 HY9))
     have HMU:=Aside0.mk (MRow.below (MRow.of_bytes w10 w5.heap.size 5 u1 (below_size HY.out) (by have:=HL2.out.2.1;unfold maxLen;omega)) (bytes_below (Below.refl (Lib.bytesWorld w10 5 u1).heap.size (Lib.bytesWorld w10 5 u1)) (Nat.le_refl _) 5 t1));have HMT:=Aside0.mk (MRow.of_bytes (Lib.bytesWorld w10 5 u1) 0 5 t1 (Nat.zero_le _) (by have:=HL2.out.1;unfold maxLen;omega));have HNO:=Aside0.mk (show some w10.heap.size ≠ Value.ownBlock (.slice Ao ((bytesOf s1).length + fl.length) co) from fun e_=>by have:=(HM.out.block _ e_.symm).2.1;omega);have HM9:=Aside0.mk (MRow.below (MRow.below HM.out (bytes_below (Below.refl w10.heap.size w10) (Nat.le_refl _) 5 u1)) (bytes_below (Below.refl (Lib.bytesWorld w10 5 u1).heap.size (Lib.bytesWorld w10 5 u1)) (Nat.le_refl _) 5 t1));have HY9:=Aside0.mk (below_step (below_step HY.out (bytes_below (Below.refl w10.heap.size w10) (Nat.le_refl _) 5 u1)) (bytes_below (Below.refl (Lib.bytesWorld w10 5 u1).heap.size (Lib.bytesWorld w10 5 u1)) (Nat.le_refl _) 5 t1));clear HM HY;have HM:=HM9;have HY:=HY9;clear HM9 HY9;go_wp2_with (first|(go_at_call 34;obtain ⟨Ab,cb,eb,hlb,hcb⟩:=MRow.reads HMT.out;cases eb;refine (creelref_PadFill.calls k _ _ (bytesOf t1) ft _ hcb hlb H7.out).mono ?_;rintro e w13 ⟨vf,rfl,hrf,hb⟩;obtain ⟨Af,cf,rfl,hlf,hcf⟩:=Kd.R_reads hrf;have HCF:=Aside0.mk hcf;have HM9:=Aside0.mk (MRow.below HM.out hb);have HMU9:=Aside0.mk (MRow.below HMU.out hb);have HY9:=Aside0.mk (below_step HY.out hb);clear hrf hlf hcf hlb hcb hb HMT;clear HM HMU HY;have HM:=HM9;have HMU:=HMU9;have HY:=HY9;clear HM9 HMU9 HY9)|((with_reducible refine gate_builtin (b := .append) (xs:=#[.tmp 56,.tmp 59]) rfl ?_);at_builtin;refine wp_append_M rfl (.tmp 56) (.tmp 59) 24 rfl Tryz.underlying24 creelref_MemberBytes.info rfl rfl rfl HMU.out HCF.out HY.out (below_size HY.out) (creelref_MemberBytes.le2 HL2.out) ?_;intro v14 w14 hm hb hg;have HMU9:=Aside0.mk hm;have HM9:=Aside0.mk (MRow.grown HM.out hg (Or.inl HNO.out));have HY9:=Aside0.mk hb;clear HCF hm hb hg;clear HMU HM HY;have HMU:=HMU9;have HM:=HM9;have HY:=HY9;clear HMU9 HM9 HY9)|((with_reducible refine gate_builtin (b := .append) (xs:=#[.tmp 60,.tmp 61]) rfl ?_);at_builtin;refine wp_append_M rfl (.tmp 60) (.tmp 61) 24 rfl Tryz.underlying24 creelref_MemberBytes.info rfl rfl List.length_append.symm HMU.out (creelref_MemberBytes.readsC HM.out) HY.out (below_size HY.out) (creelref_MemberBytes.le3 HL2.out HL.out) ?_;intro v15 w15 hm hb hg;have HMU9:=Aside0.mk hm;have HY9:=Aside0.mk hb;clear HM hm hb hg;clear HMU HY;have HMU:=HMU9;have HY:=HY9;clear HMU9 HY9))
     go_ret2
     exact ⟨_,rfl,MRow.lower HMU.out (below_size HB5.out),below_step HB5.out HY.out⟩
    ·rw [if_neg c4] at h;cases h
  ·rw [if_neg c2] at h;cases h
 ·rw [if_neg c1] at h;obtain ⟨rfl,rfl⟩:=Prod.mk.inj (Option.some.inj h);have c1b:(e1 != 0) = true:=bne_iff_ne.mpr c1;clear c1 h;go_enter Tryz.func9,Tryz.ntmps9;go_wp2_with (first|((with_reducible refine gate_dst (N:=1) rfl ?_);refine box_event ?hg (N:=1) ?hd (cs:=#[.string a0,.int .i64 a1,.string a2,.int .i64 a3,.int .i64 a4,.int .i64 a5,.string a6,.string a7,.int .i64 a8,.int .i64 a9,.slice A0 l0.length c0]) (t:=26) ?hr ?_;(case hd=>rfl);(case hg=>rfl);(case hr=>first|(go_simp;done)|(go_simp;rfl));intro gx hg w1 hbox hb1;have HKX:=Aside0.mk hbox;have HB1:=Aside0.mk hb1;clear hg hbox hb1)|((with_reducible refine gate_dst (N:=16) rfl ?_);refine load_event rfl rfl hu26 rfl rfl (cs:=[.string a0,.int .i64 a1,.string a2,.int .i64 a3,.int .i64 a4,.int .i64 a5,.string a6,.string a7,.int .i64 a8,.int .i64 a9,.slice A0 l0.length c0]) sz26 (cells_of_blk (cs:=[.string a0,.int .i64 a1,.string a2,.int .i64 a3,.int .i64 a4,.int .i64 a5,.string a6,.string a7,.int .i64 a8,.int .i64 a9,.slice A0 l0.length c0]) HKX.out) ?_)|(go_at_call 31;refine (creelref_MemberHead.calls k a0 a1 a2 a3 a4 a5 a6 a7 a8 a9 A0 c0 l0 x0 x1 x2 x3 x4 x5 x6 x7 x8 x9 x10 e1 _ (Kd.C_below HR0.out HB1.out) HC0.out ⟨tab_on HT0.out HB1.out⟩ H1.out).mono ?_;rintro e w2 ⟨rfl,hb2⟩;have HB2:=Aside0.mk (below_step HB1.out hb2);have HKX2:=Aside0.mk (blk_below HKX.out hb2);clear HKX hb2;have HKX:=HKX2;clear HKX2)|((with_reducible refine gate_store (t:=55) (p:=4) rfl ?_);refine put_event rfl rfl rfl rfl rfl (heap_alloc_new _ _) creelref_MemberBytes.szM rfl rfl ?_;intro w3 hk3 hg3;have HH:=Aside0.mk hk3;have HX:=Aside0.mk (show Below w2.heap.size w2 w3 from below_grown (bwA (Below.refl _ _) _) hg3 (Nat.le_refl _) (by simp));clear hk3 hg3))
  go_ret2
  exact ⟨_,rfl,MRow.nil _ _ _,below_step HB2.out HX.out⟩
end Go.Proofs.YtenbelecmmpdgaaGreatDoor.All
end
section
namespace Go.Proofs.YtenbelecmmpdgaaGreatDoor.All
open Go.RowKit Go.Proofs.YtenbelecmmpdgaaGreatDoorW.PrintWords Go.Proofs.YtenbelecmmpdgaaGreatDoorW.PrintLast Go.Proofs.YtenbelecmmpdgaaGreatDoorW.PrintMore
open Go.Proofs.YtenbelecmmpdgaaGreatDoorW.Mine
attribute [local go_sem] gtr_string leq_string geq_string
attribute [local go_sem] max2_int min2_int max_two min_two max_three min_three max_four min_four
set_option linter.unusedVariables false
set_option linter.unusedSimpArgs false
def creellaw_sameBytes.f (l0:List Int) (l1:List Int):Option (Bool):=some ((strOfNums l0).toList == (strOfNums l1).toList)
set_option maxHeartbeats 8000000 in
set_option maxRecDepth 100000 in
theorem creellaw_sameBytes.calls (A0:Option Addr) (c0:Nat) (l0:List Int) (A1:Option Addr) (c1:Nat) (l1:List Int) (r:Bool) (w:World) (hr0:Kd.C (Kd.int .u8) w A0 l0.length l0) (hc0:l0.length ≤ c0) (hr1:Kd.C (Kd.int .u8) w A1 l1.length l1) (hc1:l1.length ≤ c1) (h:creellaw_sameBytes.f l0 l1 = some r) :
 Calls Tryz.prog 10 #[.slice A0 l0.length c0,.slice A1 l1.length c1] w fun e w'=>e = .returned (.bool r)∧Drawn0 w w':=by
 have HR0:=Aside0.mk hr0;have HC0:=Aside0.mk hc0;clear hr0 hc0;have HR1:=Aside0.mk hr1;have HC1:=Aside0.mk hc1;clear hr1 hc1;have H:(some ((strOfNums l0).toList == (strOfNums l1).toList)) = some r:=h;clear h;obtain rfl:=Option.some.inj H;have hcv3:=Kd.C_string (P:=Tryz.prog) (A:=A0) (c:=c0) Tryz.underlying24 Tryz.underlying5 Tryz.underlying9 HR0.out;have hcv4:=Kd.C_string (P:=Tryz.prog) (A:=A1) (c:=c1) Tryz.underlying24 Tryz.underlying5 Tryz.underlying9 HR1.out;go_enter Tryz.func10,Tryz.ntmps10;go_wp2;go_ret
 exact ⟨by first|rfl|(simp;done)|(simp [*];done),by repeat (first|exact Drawn0.refl _|apply Drawn0.step)⟩
end Go.Proofs.YtenbelecmmpdgaaGreatDoor.All
end
section
namespace Go.Proofs.YtenbelecmmpdgaaGreatDoor.All
open Go.RowKit Go.Proofs.YtenbelecmmpdgaaGreatDoorW.PrintWords Go.Proofs.YtenbelecmmpdgaaGreatDoorW.PrintLast Go.Proofs.YtenbelecmmpdgaaGreatDoorW.PrintMore
open Go.Proofs.YtenbelecmmpdgaaGreatDoorW.Mine
attribute [local go_sem] gtr_string leq_string geq_string
attribute [local go_sem] max2_int min2_int max_two min_two max_three min_three max_four min_four
set_option linter.unusedVariables false
set_option linter.unusedSimpArgs false
open Go.Proofs.YtenbelecmmpdgaaGreatDoorW.MapOwn Go.Proofs.YtenbelecmmpdgaaGreatDoorW.MarkRow
def creellaw_MemberWrites.f (k:Nat) (a0:ByteArray) (a1:Int) (a2:ByteArray) (a3 a4 a5:Int) (a6 a7:ByteArray) (a8 a9:Int) (l0:List Int):Option Bool:=(member_Write.f k a0 a1 a2 a3 a4 a5 a6 a7 a8 a9 l0).bind fun p=>(creelref_MemberBytes.f k a0 a1 a2 a3 a4 a5 a6 a7 a8 a9 l0).bind fun q=>(creellaw_sameBytes.f p.1 q.1).bind fun b=>some (b && (p.2 == q.2))
set_option maxHeartbeats 8000000 in
set_option maxRecDepth 100000 in
theorem creellaw_MemberWrites.calls (k:Nat) (a0:ByteArray) (a1:Int) (a2:ByteArray) (a3 a4 a5:Int) (a6 a7:ByteArray) (a8 a9:Int) (A0:Option Addr) (c0:Nat) (l0:List Int) (r:Bool) (w:World) (hr0:Kd.C (Kd.int .u8) w A0 l0.length l0) (hc0:l0.length ≤ c0) (HT0:Aside0 (Tab w)) (h:creellaw_MemberWrites.f k a0 a1 a2 a3 a4 a5 a6 a7 a8 a9 l0 = some r) :
 Calls Tryz.prog 3 #[.agg #[.string a0,.int .i64 a1,.string a2,.int .i64 a3,.int .i64 a4,.int .i64 a5,.string a6,.string a7,.int .i64 a8,.int .i64 a9,.slice A0 l0.length c0]] w fun e w'=>e = .returned (.bool r)∧Below w.heap.size w w':=by
 have hu26:=Tryz.underlying26;have HR0:=Aside0.mk hr0;have HC0:=Aside0.mk hc0;clear hr0 hc0;unfold creellaw_MemberWrites.f at h;obtain ⟨⟨p1,p2⟩,h1,hq⟩:=Option.bind_eq_some_iff.1 h;clear h;have h:=hq;clear hq;have H1:=Aside0.mk h1;clear h1;obtain ⟨⟨q1,q2⟩,h2,hq⟩:=Option.bind_eq_some_iff.1 h;clear h;have h:=hq;clear hq;have H2:=Aside0.mk h2;clear h2;obtain ⟨b,h3,hq⟩:=Option.bind_eq_some_iff.1 h;clear h;have H3:=Aside0.mk h3;obtain rfl:=Option.some.inj hq;clear h3 hq;cases b;all_goals
  go_enter Tryz.func3,Tryz.ntmps3;go_wp2_with (first|((with_reducible refine gate_dst (N:=1) rfl ?_);refine box_event ?hg (N:=1) ?hd (cs:=#[.string a0,.int .i64 a1,.string a2,.int .i64 a3,.int .i64 a4,.int .i64 a5,.string a6,.string a7,.int .i64 a8,.int .i64 a9,.slice A0 l0.length c0]) (t:=26) ?hr ?_;(case hd=>rfl);(case hg=>rfl);(case hr=>first|(go_simp;done)|(go_simp;rfl));intro gx hg w1 hbox hb1;have HKX:=Aside0.mk hbox;have HB1:=Aside0.mk hb1;clear hg hbox hb1)|((with_reducible refine gate_dst (N:=8) rfl ?_);refine load_event rfl rfl hu26 rfl rfl (cs:=[.string a0,.int .i64 a1,.string a2,.int .i64 a3,.int .i64 a4,.int .i64 a5,.string a6,.string a7,.int .i64 a8,.int .i64 a9,.slice A0 l0.length c0]) sz26 (cells_of_blk (cs:=[.string a0,.int .i64 a1,.string a2,.int .i64 a3,.int .i64 a4,.int .i64 a5,.string a6,.string a7,.int .i64 a8,.int .i64 a9,.slice A0 l0.length c0]) HKX.out) ?_)|(go_at_call 8;refine (member_Write.calls k a0 a1 a2 a3 a4 a5 a6 a7 a8 a9 A0 c0 l0 p1 p2 _ (Kd.C_below HR0.out HB1.out) HC0.out ⟨tab_on HT0.out HB1.out⟩ H1.out).mono ?_;rintro e w2 ⟨vp,rfl,hrp,hb⟩;obtain ⟨Ap,cp,rfl,hlp,hcp⟩:=Kd.R_reads hrp;have HCP:=Aside0.mk hcp;have HLP:=Aside0.mk hlp;have HB2:=Aside0.mk (below_step HB1.out hb);have HKX2:=Aside0.mk (blk_below HKX.out hb);clear hrp hcp hlp hb)|((with_reducible refine gate_dst (N:=13) rfl ?_);refine load_event rfl rfl hu26 rfl rfl (cs:=[.string a0,.int .i64 a1,.string a2,.int .i64 a3,.int .i64 a4,.int .i64 a5,.string a6,.string a7,.int .i64 a8,.int .i64 a9,.slice A0 l0.length c0]) sz26 (cells_of_blk (cs:=[.string a0,.int .i64 a1,.string a2,.int .i64 a3,.int .i64 a4,.int .i64 a5,.string a6,.string a7,.int .i64 a8,.int .i64 a9,.slice A0 l0.length c0]) HKX2.out) ?_)|(go_at_call 9;refine (creelref_MemberBytes.calls k a0 a1 a2 a3 a4 a5 a6 a7 a8 a9 A0 c0 l0 q1 q2 _ (Kd.C_below HR0.out HB2.out) HC0.out ⟨tab_on HT0.out HB2.out⟩ H2.out).mono ?_;rintro e w3 ⟨vq,rfl,hrq,hb⟩;obtain ⟨Aq,cq,rfl,hlq,hcq⟩:=MRow.reads hrq;have HCQ:=Aside0.mk hcq;have HLQ:=Aside0.mk hlq;have HB3:=Aside0.mk (below_step HB2.out hb);have HCP3:=Aside0.mk (Kd.C_below HCP.out hb);clear hrq hcq hlq hb)|(go_at_call 10;refine (creellaw_sameBytes.calls Ap cp p1 Aq cq q1 _ _ HCP3.out HLP.out HCQ.out HLQ.out H3.out).mono ?_;rintro e w4 ⟨rfl,⟨nd,rfl⟩⟩))
  go_ret
  exact ⟨rfl,pwbN HB3.out nd⟩
end Go.Proofs.YtenbelecmmpdgaaGreatDoor.All
end
section
namespace Go.Proofs.YtenbelecmmpdgaaGreatDoorW.Opens
open Go.RowKit Go.ChangeShapes Go.WideShapes Go.Proofs.YtenbelecmmpdgaaGreatDoorW.PrintWords
def Opens {α:Type} (P:Program) (t:TypeId) (d:Kd α) (g:α→Prop):Prop :=
  ∀ (H:Type) (enc:TypeId × Value→H) (w:World) (fuel:Nat) (cs:List Value) (x:DataW H × List MemPlace),
    DataW.trod enc P w 0 (fun _=>true) true fuel t cs = some x→(∀ n ∈ x.1.weights P t,n ≤ reachBytes)→∃ y,d.K w y cs∧g y
theorem opens_int {P:Program} {t:TypeId} {k:IntKind} (ht:P.underlying t = some (.int k)):Opens P t (Kd.int k) (fun a=>(Lit.int k a).wf = true):=by
  intro H enc w fuel cs x h _
  obtain ⟨a,e,_,wa⟩:=DataW.trod_int ht h
  exact ⟨a,e,wa⟩
theorem opens_string {P:Program} {t:TypeId} (ht:P.underlying t = some .string):Opens P t Kd.string (fun s=>s.size ≤ 140737488351232):=by
  intro H enc w fuel cs x h hw
  obtain ⟨a,e,hx,_⟩:=DataW.trod_string ht h
  refine ⟨a,e,?_⟩
  have:=hw a.data.toList.length (by rw [hx];simp [DataW.weights])
  rw [Array.length_toList] at this
  exact this
theorem list_of {α:Type} {p:Nat→α→Prop}:∀ (n:Nat),(∀ i,i < n→∃ y,p i y)→∃ l:List α,l.length = n∧∀ i y,l[i]? = some y→p i y
  | 0,_=>⟨[],rfl,fun i y h=>by simp at h⟩
  | n + 1,h=>by
    obtain ⟨l,hl,hp⟩:=list_of n (fun i hi=>h i (by omega))
    obtain ⟨y,hy⟩:=h n (by omega)
    refine ⟨l ++ [y],by simp [hl],fun i z hz=>?_⟩
    by_cases hi:i < n
    · exact hp i z (by rwa [List.getElem?_append_left (by omega)] at hz)
    · rw [List.getElem?_append_right (by omega),hl] at hz
      have e0:i - n = 0:=by
        rcases Nat.eq_zero_or_pos (i - n) with e|e
        · exact e
        · rw [List.getElem?_eq_none (by simp;omega)] at hz
          simp at hz
      rw [e0] at hz
      have:i = n:=by omega
      subst this
      simp at hz
      subst hz
      exact hy
theorem mem_weightsAll {H:Type} {P:Program} {e:TypeId} {d:DataW H}:∀ {l:List (DataW H)},d ∈ l→∀ n ∈ d.weights P e,n ∈ DataW.weightsAll P e l
  | a :: l,h,n,hn=>by
    simp only [DataW.weightsAll,List.mem_append]
    rcases List.mem_cons.1 h with rfl|h
    · exact .inl hn
    · exact .inr (mem_weightsAll h n hn)
  | [],h,_,_=>by simp at h
theorem opens_slice {α:Type} {P:Program} {t e:TypeId} {B:Nat} {d:Kd α} {g:α→Prop} (ht:P.underlying t = some (.slice e)) (hc:P.cellsOf e = d.sz) (hB:P.bytesOf e = B) (ho:Opens P e d g) :
    Opens P t (Kd.slice e d) (fun l=>l.length * B ≤ 140737488351232∧∀ y ∈ l,g y):=by
  intro H enc w fuel cs x h hw
  rcases Go.Deep.open_slice ht h with ⟨rfl,rfl⟩|⟨a,len,cap,m,n,D,Pl,rfl,_,hl,hm,hmm,rfl,hel⟩
  · exact ⟨[],⟨none,0,rfl,Nat.le_refl _,rfl,by simp,fun h=>absurd h (by simp)⟩,by simp,by simp⟩
  · have hml:len ≤ m:=by
      rw [hmm]
      simp only [if_true]
      exact hl
    have key:∀ i,i < len→∃ y,(∃ c,c.length = d.sz∧d.K w y c∧∀ j u,c[j]? = some u→w.cell? (a.add (i * d.sz + j)) = some u)∧g y:=by
      intro i hi
      obtain ⟨c,h1,h2⟩:=hel i (by omega)
      rw [hc] at h1
      obtain ⟨_,hlen,hcell⟩:=World.cells?_some h1
      obtain ⟨y,hK,hg⟩:=ho H enc w n c (D i,Pl i) h2 (fun q hq=>hw q (by
        simp only [DataW.weights,ht,List.mem_cons,List.mem_append]
        exact .inr (.inl (mem_weightsAll (List.mem_map.2 ⟨i,List.mem_range.2 hi,rfl⟩) q hq))))
      refine ⟨y,⟨c,hlen,hK,fun j u hu=>?_⟩,hg⟩
      have hj:j < d.sz:=by
        rw [← hlen]
        exact (List.getElem?_eq_some_iff.1 hu).1
      rw [← Go.Deep.add_add,hcell j hj,hu]
    obtain ⟨l,hlen,hp⟩:=list_of len key
    subst hlen
    refine ⟨l,⟨some a,cap,rfl,hl,rfl,?_,fun _=>⟨a,rfl,fun j p hj=>?_⟩⟩,?_,?_⟩
    · unfold maxLen at hm
      omega
    · obtain ⟨⟨c,h1,h2,h3⟩,_⟩:=hp j p hj
      exact ⟨c,h1,h2,h3⟩
    · have:=hw ((l.length + (m - l.length)) * P.bytesOf e) (by simp [DataW.weights,ht])
      rw [hB] at this
      exact Nat.le_trans (Nat.mul_le_mul_right _ (by omega)) this
    · intro y hy
      obtain ⟨i,hi⟩:=List.mem_iff_getElem?.1 hy
      exact (hp i y hi).2
def OpensF {α:Type} (P:Program) (fs:List Field) (off:Nat) (d:Kd α) (g:α→Prop):Prop :=
  ∀ (H:Type) (enc:TypeId × Value→H) (w:World) (n:Nat) (cs:List Value) (xs:List (DataW H × List MemPlace)),
    cs.length = off + d.sz→xs.length = fs.length→(∀ (i:Nat) (f:Field),fs[i]? = some f→DataW.trod enc P w 0 (fun _=>true) true n f.type ((cs.drop f.offset).take (P.cellsOf f.type)) = xs[i]?) →
    (∀ m ∈ DataW.weightsEach P (fs.map (·.type)) (xs.map (·.1)),m ≤ reachBytes)→∃ y,d.K w y (cs.drop off)∧g y
theorem opensF_one {α:Type} {P:Program} {f:Field} {off:Nat} {d:Kd α} {g:α→Prop} (hoff:f.offset = off) (hc:P.cellsOf f.type = d.sz) (ho:Opens P f.type d g):OpensF P [f] off d g:=by
  intro H enc w n cs xs hl hx hf hw
  match xs,hx with
  | [x],_ =>
    have h:=hf 0 f rfl
    rw [hoff,hc,List.take_of_length_le (by rw [List.length_drop];omega)] at h
    exact ho H enc w n (cs.drop off) x h (fun m hm=>hw m (by simp only [List.map_cons,List.map_nil,DataW.weightsEach,List.append_nil];exact hm))
theorem opensF_cons {α β:Type} {P:Program} {f:Field} {fs:List Field} {off off2:Nat} {d1:Kd α} {d2:Kd β} {g1:α→Prop} {g2:β→Prop} (hoff:f.offset = off) (hc:P.cellsOf f.type = d1.sz) (ho:Opens P f.type d1 g1)
    (h2:off + d1.sz = off2) (hr:OpensF P fs off2 d2 g2):OpensF P (f :: fs) off (Kd.pair d1 d2) (fun p=>g1 p.1∧g2 p.2):=by
  intro H enc w n cs xs hl hx hf hw
  match xs,hx with
  | x :: xs,hx =>
    subst h2
    have hl':cs.length = off + (d1.sz + d2.sz):=hl
    have h:=hf 0 f rfl
    rw [hoff,hc] at h
    obtain ⟨y1,k1,q1⟩:=ho H enc w n _ x h (fun m hm=>hw m (by simp only [List.map_cons,DataW.weightsEach,List.mem_append];exact .inl hm))
    obtain ⟨y2,k2,q2⟩:=hr H enc w n cs xs (by omega) (by simpa using hx) (fun i f' hi=>by simpa using hf (i + 1) f' (by simpa using hi)) (fun m hm=>hw m (by simp only [List.map_cons,DataW.weightsEach,List.mem_append];exact .inr hm))
    refine ⟨(y1,y2),⟨_,_,?_,k1,k2⟩,q1,q2⟩
    rw [← List.drop_drop,List.take_append_drop]
theorem opens_struct {α:Type} {P:Program} {t:TypeId} {fs:Array Field} {d:Kd α} {g:α→Prop} (ht:P.underlying t = some (.struct fs)) (hc:P.cellsOf t = d.sz) (hF:OpensF P fs.toList 0 d g):Opens P t d g:=by
  intro H enc w fuel cs x h hw
  obtain ⟨xs,n,_,rfl,hl,hlen,hf⟩:=DataW.trod_struct ht h
  have:=hF H enc w n cs xs (by omega) (by simpa using hlen) (fun i f hi=>hf i f (by simpa using hi)) (fun m hm=>hw m (by simpa only [DataW.weights,ht] using hm))
  simpa using this
theorem opens_iso {α β:Type} {P:Program} {t:TypeId} {d:Kd α} {g:α→Prop} {f:β→α} (inv:α→β) (hinv:∀ y,f (inv y) = y) (ho:Opens P t d g):Opens P t (Kd.iso d f) (fun x=>g (f x)):=by
  intro H enc w fuel cs x h hw
  obtain ⟨y,hK,hg⟩:=ho H enc w fuel cs x h hw
  exact ⟨inv y,by show d.K w (f (inv y)) cs;rw [hinv];exact hK,by show g (f (inv y));rw [hinv];exact hg⟩
theorem opens_at {α:Type} {P:Program} {t:TypeId} {d:Kd α} {g:α→Prop} (ho:Opens P t d g) {H:Type} {enc:TypeId × Value→H} {w:World} {v:Value} {x:DataW H} {ps:List MemPlace} {ts:List TypeId} {ds:List (DataW H)} {j:Nat}
    (hsz:(DataW.weightsEach P ts ds).all (· ≤ reachBytes) = true) (ht:ts[j]? = some t) (hd:ds[j]? = some x) (h:DataW.Trod enc P w 0 (fun _=>true) true t v x ps):∃ y,d.K w y v.cells.toList∧g y:=by
  obtain ⟨fuel,hf⟩:=h
  exact ho H enc w fuel _ (x,ps) hf (fun n hn=>by simpa using List.all_eq_true.1 hsz n (DataW.weights_mem_each ht hd n hn))
end Go.Proofs.YtenbelecmmpdgaaGreatDoorW.Opens
end
