/- Made by programs of the prover: walks of Go functions, the words that they use, and plain laws, each text in a section of its own; no condition of its own. -/
import Derived.Test.YtenbelecmmpdgaaGreatDoorZWriteArchives2
import Derived.Test.YtenbelecmmpdgaaGreatDoorZWriteArchives4
import Derived.Test.YtenbelecmmpdgaaGreatDoorZWriteArchives7
import Derived.Test.YtenbelecmmpdgaaGreatDoorZWriteArchives8
import Derived.Test.YtenbelecmmpdgaaGreatDoorZWriteArchives9
section
namespace Go.Proofs.YtenbelecmmpdgaaGreatDoor.All
open Go.RowKit Go.Proofs.YtenbelecmmpdgaaGreatDoorW.PrintWords Go.Proofs.YtenbelecmmpdgaaGreatDoorW.PrintLast Go.Proofs.YtenbelecmmpdgaaGreatDoorW.PrintMore
open Go.Proofs.YtenbelecmmpdgaaGreatDoorW.Mine
attribute [local go_sem] gtr_string leq_string geq_string
attribute [local go_sem] max2_int min2_int max_two min_two max_three min_three max_four min_four
set_option linter.unusedVariables false
set_option linter.unusedSimpArgs false
def creelref_RecordText.l0:Nat→Int→ByteArray→ByteArray→Option (ByteArray × Int)
 | 0,_,_,_=>none
 | k + 1,x5,x102000,x102001=>(strconv_Itoa_76.f x5).bind fun t103=>(if t103.size + 1 ≤ 9223372036854775807 then (if (t103 ++ (⟨#[32]⟩:ByteArray)).size + x102000.size ≤ 9223372036854775807 then (if ((t103 ++ (⟨#[32]⟩:ByteArray)) ++ x102000).size + 1 ≤ 9223372036854775807 then (if (((t103 ++ (⟨#[32]⟩:ByteArray)) ++ x102000) ++ (⟨#[61]⟩:ByteArray)).size + x102001.size ≤ 9223372036854775807 then (if ((((t103 ++ (⟨#[32]⟩:ByteArray)) ++ x102000) ++ (⟨#[61]⟩:ByteArray)) ++ x102001).size + 1 ≤ 9223372036854775807 then (if ((((((t103 ++ (⟨#[32]⟩:ByteArray)) ++ x102000) ++ (⟨#[61]⟩:ByteArray)) ++ x102001) ++ (⟨#[10]⟩:ByteArray)).size:Int) = x5 then (some (((((t103 ++ (⟨#[32]⟩:ByteArray)) ++ x102000) ++ (⟨#[61]⟩:ByteArray)) ++ x102001) ++ (⟨#[10]⟩:ByteArray),0)) else (creelref_RecordText.l0 k (wrap64 (x5 + 1)) x102000 x102001)) else (none)) else (none)) else (none)) else (none)) else (none))
def creelref_RecordText.f (k:Nat) (a0_0:ByteArray) (a0_1:ByteArray):Option (ByteArray × Int):=(creelref_RecordFault.f k a0_0 a0_1).bind fun t102=>(if t102 = 0 then (creelref_RecordText.l0 k 1 a0_0 a0_1) else (some ((⟨#[]⟩:ByteArray),t102)))
theorem creelref_RecordText.mono_l:∀ k,(∀ y0 y1 y2,LeO (creelref_RecordText.l0 k y0 y1 y2) (creelref_RecordText.l0 (k + 1) y0 y1 y2))
 | 0=>fun _ _ _ r h=>by simp [creelref_RecordText.l0] at h
 | k + 1=>by
  have ih0:=creelref_RecordText.mono_l k
  ·intro y0 y1 y2
   unfold creelref_RecordText.l0
   repeat' first
   | (with_reducible exact ih0 _ _ _)
   | (with_reducible exact creelref_RecordFault.mono _ _ _)
   | (with_reducible exact LeO.refl _)
   | (with_reducible exact LeO.none _)
   | (with_reducible refine LeO.ite ?_ ?_)
   | (with_reducible refine LeO.bind ?_ (fun _=>?_))
   | exact ih0 _ _ _
   | exact creelref_RecordFault.mono _ _ _
   | exact LeO.none _
   | refine LeO.ite ?_ ?_
   | refine LeO.bind ?_ (fun _=>?_)
theorem creelref_RecordText.mono:∀ a0 a1 k,LeO (creelref_RecordText.f k a0 a1) (creelref_RecordText.f (k + 1) a0 a1):=by
 intro a0 a1 k;have ih0:=creelref_RecordText.mono_l k;unfold creelref_RecordText.f;repeat' first
  | (with_reducible exact ih0 _ _ _)
  | (with_reducible exact creelref_RecordFault.mono _ _ _)
  | (with_reducible exact LeO.refl _)
  | (with_reducible exact LeO.none _)
  | (with_reducible refine LeO.ite ?_ ?_)
  | (with_reducible refine LeO.bind ?_ (fun _=>?_))
  | exact ih0 _ _ _
  | exact creelref_RecordFault.mono _ _ _
  | exact LeO.none _
  | refine LeO.ite ?_ ?_
  | refine LeO.bind ?_ (fun _=>?_)
def creelref_RecordText.T6:Bool × List (List Nat × List Nat):=(true,[([],[]),([0],[0]),([1],[1]),([],[]),([3],[3]),([2,4],[2,4]),([5],[5]),([],[]),([7],[7]),([6,8],[6,8]),([9],[9]),([10,1,0,1,2,3,4,5,6,7,8,9,10],[10])])
def creelref_RecordText.B6:List Nat:=[0,1,3,0,8,31,63,0,128,511,1023,2047]
theorem creelref_RecordText.tab6:rtab .any (opsOf Tryz.f84 6) = creelref_RecordText.T6:=by kernel_rfl
theorem creelref_RecordText.bits6:waitsOk creelref_RecordText.T6.2 creelref_RecordText.B6 = true:=by kernel_rfl
set_option maxHeartbeats 8000000 in
set_option maxRecDepth 100000 in
theorem creelref_RecordText.calls (k:Nat) (a0_0:ByteArray) (a0_1:ByteArray) (r1:ByteArray) (r2:Int) (w:World) (HT0:Aside0 (Tab w)) (h:creelref_RecordText.f k a0_0 a0_1 = some (r1,r2)) :
 Calls Tryz.prog 84 #[.agg #[.string a0_0,.string a0_1]] w fun e w'=>e = .returned (.tuple #[.string r1,.int .i64 r2])∧Below w.heap.size w w':=by
 have hu78:=Tryz.underlying78;have HB:=Aside0.mk (Below.refl w.heap.size w);have H:((creelref_RecordFault.f k a0_0 a0_1).bind fun t102=>(if t102 = 0 then (creelref_RecordText.l0 k 1 a0_0 a0_1) else (some ((⟨#[]⟩:ByteArray),t102)))) = some (r1,r2):=h;clear h;replace H:=Option.bind_eq_some_iff.mp H;obtain ⟨t102,A20,H⟩:=H;replace H:(if t102 = 0 then (creelref_RecordText.l0 k 1 a0_0 a0_1) else (some ((⟨#[]⟩:ByteArray),t102))) = some (r1,r2):=H;have A2:=Aside0.mk A20;clear A20;by_cases c3:t102 = 0
 ·rw [if_pos c3] at H;have c3b0:(t102 == 0) = true:=beq_iff_eq.mpr c3;have c3b1:(t102 != 0) = false:=bne_eq_false_iff_eq.mpr c3;clear c3;have H':=Aside0.mk H;clear H;go_enter Tryz.func84,Tryz.ntmps84;go_wp2_with (first|((with_reducible refine gate_dst (N:=1) rfl ?_);refine box_event ?hg (N:=1) ?hd (cs:=#[.string a0_0,.string a0_1]) (t:=78) ?hr ?_;(case hd=>rfl);(case hg=>rfl);(case hr=>first|(go_simp;done)|(go_simp;rfl));intro gb101 hg w4 hbox hb;have n0_:=Aside0.mk (below_step (by repeat (first|(with_reducible first|exact HB.out|apply bwA|apply pwbN|apply bw1)|exact HB.out)) hb);have n1_:=Aside0.mk (hbox);have n2_:=Aside0.mk ((by rw [hg];exact (below_size (by repeat (first|(with_reducible first|exact HB.out|apply bwA|apply pwbN|apply bw1)|exact HB.out))):w.heap.size ≤ gb101));have n3_:=Aside0.mk ((by rw [hg];exact (below_size (by repeat (first|(with_reducible first|exact HB.out|apply bwA|apply pwbN|apply bw1)|exact HB.out))):w.heap.size ≤ gb101));clear HB;have HB:=n0_;have BK101:=n1_;have GW101:=n2_;have GE101:=n3_;clear n0_ n1_ n2_ n3_;clear hb hbox hg;obtain ⟨hcz5_0,hcz5_1,hfz5_0,hfz5_1⟩:=blkA2 BK101.out)|((with_reducible refine gate_callee (f:=118) rfl ?_);refine goesL_ (some 8) rfl rfl Tryz.func118 (by kernel_rfl) rfl #[.agg #[.string a0_0,.string a0_1]] rfl (by (try simp only [List.map_toArray,List.map_cons,List.map_nil]);first|done|rfl|(simp only [List.length_drop,List.length_take];rfl)) ?_;(with_reducible refine (creelref_RecordFault.calls k a0_0 a0_1 t102 _ A2.out).mono ?_);rintro e w6 ⟨rfl,hb⟩;refine ⟨_,rfl,?_⟩;have n0_:=Aside0.mk (blk_below (g:=gb101) (o := .cells #[.string a0_0,.string a0_1] 78 (0,0)) (by (with_reducible repeat (first|refine blk_drewN ?_ _|refine blk_drew ?_|refine blk_alloc ?_ _));exact BK101.out) hb);have n1_:=Aside0.mk (below_step (by repeat (first|(with_reducible first|exact HB.out|apply bwA|apply pwbN|apply bw1|refine below_set ?_ GE101.out)|exact HB.out)) hb);clear BK101;clear HB;have BK101:=n0_;have HB:=n1_;clear n0_ n1_;(try clear hb);(try clear hb2);(try clear hk);(try clear hi)))
  go_loopg [5] k (fun kq v5 w'=>∃ (x5_1:Int),v5 = .int .i64 x5_1∧Aside0 (creelref_RecordText.l0 kq x5_1 a0_0 a0_1 = some (r1,r2))∧Aside0 (kq ≤ k)∧Aside0 (w'.heap[gb101]? = some (.cells #[.string a0_0,.string a0_1] 78 (0,0)))∧Aside0 (Below w.heap.size w w'))
  case atStart=>exact ⟨(1),(by first|rfl|(simp;done)|(have h1_:∀ b:UInt8,(⟨#[b]⟩:ByteArray).size = 1:=fun _=>rfl;simp [h1_];done)|(simp [*];done)),H',⟨Nat.le_refl _⟩,⟨by (with_reducible repeat (first|refine blk_drewN ?_ _|refine blk_drew ?_|refine blk_alloc ?_ _));exact BK101.out⟩,⟨by repeat (first|(with_reducible first|exact HB.out|apply bwA|apply pwbN|apply bw1|refine below_set ?_ GE101.out)|exact HB.out)⟩⟩
  case round =>
   clear H';repeat first|clear c3|clear c3b0|clear c3b1|clear hcz5_0|clear hcz5_1|clear hfz5_0|clear hfz5_1
   obtain ⟨x5_1,rfl,HA,HK1,BK101,HB⟩:=hrel;cases gk with
   | zero=>exact absurd HA.out (by simp [creelref_RecordText.l0])
   | succ k1 =>
    have H:=HA.out;clear HA;simp only [creelref_RecordText.l0] at H;replace H:=Option.bind_eq_some_iff.mp H;obtain ⟨t103,A70,H⟩:=H;replace H:(if t103.size + 1 ≤ 9223372036854775807 then (if (t103 ++ (⟨#[32]⟩:ByteArray)).size + a0_0.size ≤ 9223372036854775807 then (if ((t103 ++ (⟨#[32]⟩:ByteArray)) ++ a0_0).size + 1 ≤ 9223372036854775807 then (if (((t103 ++ (⟨#[32]⟩:ByteArray)) ++ a0_0) ++ (⟨#[61]⟩:ByteArray)).size + a0_1.size ≤ 9223372036854775807 then (if ((((t103 ++ (⟨#[32]⟩:ByteArray)) ++ a0_0) ++ (⟨#[61]⟩:ByteArray)) ++ a0_1).size + 1 ≤ 9223372036854775807 then (if ((((((t103 ++ (⟨#[32]⟩:ByteArray)) ++ a0_0) ++ (⟨#[61]⟩:ByteArray)) ++ a0_1) ++ (⟨#[10]⟩:ByteArray)).size:Int) = x5_1 then (some (((((t103 ++ (⟨#[32]⟩:ByteArray)) ++ a0_0) ++ (⟨#[61]⟩:ByteArray)) ++ a0_1) ++ (⟨#[10]⟩:ByteArray),0)) else (creelref_RecordText.l0 k1 (wrap64 (x5_1 + 1)) a0_0 a0_1)) else (none)) else (none)) else (none)) else (none)) else (none)) = some (r1,r2):=H;have A7:=Aside0.mk A70;clear A70;by_cases c8:t103.size + 1 ≤ 9223372036854775807
    ·rw [if_pos c8] at H;have c8b0:=eq_true c8;have c8b1:decide (t103.size + 1 ≤ 9223372036854775807) = true:=decide_eq_true c8;try have c8b2:(9223372036854775807 < t103.size + 1) = False:=eq_false (Nat.not_lt.2 c8)
     by_cases c9:(t103 ++ (⟨#[32]⟩:ByteArray)).size + a0_0.size ≤ 9223372036854775807
     ·rw [if_pos c9] at H;have c9b0:=eq_true c9;have c9b1:decide ((t103 ++ (⟨#[32]⟩:ByteArray)).size + a0_0.size ≤ 9223372036854775807) = true:=decide_eq_true c9;try have c9b2:(9223372036854775807 < (t103 ++ (⟨#[32]⟩:ByteArray)).size + a0_0.size) = False:=eq_false (Nat.not_lt.2 c9)
      have c9b9_:(9223372036854775807 < t103.size + 1 + a0_0.size) = False:=eq_false (by have h_:=c9;simp only [ByteArray.size_append] at h_;first|omega|(have h1_:∀ b:UInt8,(⟨#[b]⟩:ByteArray).size = 1:=fun _=>rfl;simp only [h1_] at h_;omega));by_cases c10:((t103 ++ (⟨#[32]⟩:ByteArray)) ++ a0_0).size + 1 ≤ 9223372036854775807
      ·rw [if_pos c10] at H;have c10b0:=eq_true c10;have c10b1:decide (((t103 ++ (⟨#[32]⟩:ByteArray)) ++ a0_0).size + 1 ≤ 9223372036854775807) = true:=decide_eq_true c10;try have c10b2:(9223372036854775807 < ((t103 ++ (⟨#[32]⟩:ByteArray)) ++ a0_0).size + 1) = False:=eq_false (Nat.not_lt.2 c10)
       have c10b9_:(9223372036854775807 < t103.size + 1 + a0_0.size + 1) = False:=eq_false (by have h_:=c10;simp only [ByteArray.size_append] at h_;first|omega|(have h1_:∀ b:UInt8,(⟨#[b]⟩:ByteArray).size = 1:=fun _=>rfl;simp only [h1_] at h_;omega));by_cases c11:(((t103 ++ (⟨#[32]⟩:ByteArray)) ++ a0_0) ++ (⟨#[61]⟩:ByteArray)).size + a0_1.size ≤ 9223372036854775807
       ·rw [if_pos c11] at H;have c11b0:=eq_true c11;have c11b1:decide ((((t103 ++ (⟨#[32]⟩:ByteArray)) ++ a0_0) ++ (⟨#[61]⟩:ByteArray)).size + a0_1.size ≤ 9223372036854775807) = true:=decide_eq_true c11;try have c11b2:(9223372036854775807 < (((t103 ++ (⟨#[32]⟩:ByteArray)) ++ a0_0) ++ (⟨#[61]⟩:ByteArray)).size + a0_1.size) = False:=eq_false (Nat.not_lt.2 c11)
        have c11b9_:(9223372036854775807 < t103.size + 1 + a0_0.size + 1 + a0_1.size) = False:=eq_false (by have h_:=c11;simp only [ByteArray.size_append] at h_;first|omega|(have h1_:∀ b:UInt8,(⟨#[b]⟩:ByteArray).size = 1:=fun _=>rfl;simp only [h1_] at h_;omega));by_cases c12:((((t103 ++ (⟨#[32]⟩:ByteArray)) ++ a0_0) ++ (⟨#[61]⟩:ByteArray)) ++ a0_1).size + 1 ≤ 9223372036854775807
        ·rw [if_pos c12] at H;have c12b0:=eq_true c12;have c12b1:decide (((((t103 ++ (⟨#[32]⟩:ByteArray)) ++ a0_0) ++ (⟨#[61]⟩:ByteArray)) ++ a0_1).size + 1 ≤ 9223372036854775807) = true:=decide_eq_true c12;try have c12b2:(9223372036854775807 < ((((t103 ++ (⟨#[32]⟩:ByteArray)) ++ a0_0) ++ (⟨#[61]⟩:ByteArray)) ++ a0_1).size + 1) = False:=eq_false (Nat.not_lt.2 c12)
         have c12b9_:(9223372036854775807 < t103.size + 1 + a0_0.size + 1 + a0_1.size + 1) = False:=eq_false (by have h_:=c12;simp only [ByteArray.size_append] at h_;first|omega|(have h1_:∀ b:UInt8,(⟨#[b]⟩:ByteArray).size = 1:=fun _=>rfl;simp only [h1_] at h_;omega));by_cases c13:((((((t103 ++ (⟨#[32]⟩:ByteArray)) ++ a0_0) ++ (⟨#[61]⟩:ByteArray)) ++ a0_1) ++ (⟨#[10]⟩:ByteArray)).size:Int) = x5_1
         ·rw [if_pos c13] at H;have c13b0:(((((((t103 ++ (⟨#[32]⟩:ByteArray)) ++ a0_0) ++ (⟨#[61]⟩:ByteArray)) ++ a0_1) ++ (⟨#[10]⟩:ByteArray)).size:Int) == x5_1) = true:=beq_iff_eq.mpr c13;have c13b0f:(((t103.size:Int) + 1 + (a0_0.size:Int) + 1 + (a0_1.size:Int) + 1) == x5_1) = true:=by
           have h1_:∀ b:UInt8,(⟨#[b]⟩:ByteArray).size = 1:=fun _=>rfl
           have e_:((((((t103 ++ (⟨#[32]⟩:ByteArray)) ++ a0_0) ++ (⟨#[61]⟩:ByteArray)) ++ a0_1) ++ (⟨#[10]⟩:ByteArray)).size:Int) = ((t103.size:Int) + 1 + (a0_0.size:Int) + 1 + (a0_1.size:Int) + 1:Int):=by simp only [ByteArray.size_append,h1_];omega
           rw [← e_];exact c13b0
          have c13b1:(((((((t103 ++ (⟨#[32]⟩:ByteArray)) ++ a0_0) ++ (⟨#[61]⟩:ByteArray)) ++ a0_1) ++ (⟨#[10]⟩:ByteArray)).size:Int) != x5_1) = false:=bne_eq_false_iff_eq.mpr c13;have c13b1f:(((t103.size:Int) + 1 + (a0_0.size:Int) + 1 + (a0_1.size:Int) + 1) != x5_1) = false:=by
           have h1_:∀ b:UInt8,(⟨#[b]⟩:ByteArray).size = 1:=fun _=>rfl
           have e_:((((((t103 ++ (⟨#[32]⟩:ByteArray)) ++ a0_0) ++ (⟨#[61]⟩:ByteArray)) ++ a0_1) ++ (⟨#[10]⟩:ByteArray)).size:Int) = ((t103.size:Int) + 1 + (a0_0.size:Int) + 1 + (a0_1.size:Int) + 1:Int):=by simp only [ByteArray.size_append,h1_];omega
           rw [← e_];exact c13b1
          clear c13;simp only [Option.some.injEq,Prod.mk.injEq] at H;obtain ⟨rfl,rfl⟩:=H;try go_wp2
          have n0_:=Aside0.mk (blk_drew BK101.out);have n1_:=Aside0.mk (bw1 HB.out);clear BK101;clear HB;have BK101:=n0_;have HB:=n1_;clear n0_ n1_;refine start_ (n:=12) (S:=fun w'=>w'.cell? ⟨gb101,0,none⟩ = some (.string a0_0)∧w'.cell? ⟨gb101,1,none⟩ = some (.string a0_1)) (ds:=[]) #[false,false,false,false,false,false,false,false,false,false,false,false] (by kernel_rfl) rfl rfl ⟨(blk_cell BK101.out 0).trans rfl,(blk_cell BK101.out 1).trans rfl⟩ (fun hHeld=>?_);refine with_tabW creelref_RecordText.tab6 creelref_RecordText.bits6 (fun HT_ HW_=>?_);generalize wr.drew = w14 at BK101 HB hHeld ⊢;refine pure_ (i:=0) (N:=some 14) (v:=?_) (a':=?_) #[true,false,false,false,false,false,false,false,false,false,false,false] rfl rfl (any_of HT_.out (by kernel_rfl)) (fun _ _ _ h=>h) (Or.inl ⟨by rfl,?_⟩) ?_ ?_;rotate_left
          ·intro w';go_simp
           with_reducible rfl
          rotate_left
          ·simp only [Act.put,List.setIfInBounds_toArray,List.set_cons_zero,List.set_cons_succ,i64_w,i32_w];rfl
          refine pure_ (i:=3) (N:=some 17) (v:=?_) (a':=?_) #[true,false,false,true,false,false,false,false,false,false,false,false] rfl rfl (any_of HT_.out (by kernel_rfl)) (fun _ _ _ h=>h) (Or.inl ⟨by rfl,?_⟩) ?_ ?_;rotate_left
          ·intro w';go_simp
           with_reducible rfl
          rotate_left
          ·simp only [Act.put,List.setIfInBounds_toArray,List.set_cons_zero,List.set_cons_succ,i64_w,i32_w];rfl
          refine pure_ (i:=7) (N:=some 21) (v:=?_) (a':=?_) #[true,false,false,true,false,false,false,true,false,false,false,false] rfl rfl (any_of HT_.out (by kernel_rfl)) (fun _ _ _ h=>h) (Or.inl ⟨by rfl,?_⟩) ?_ ?_;rotate_left
          ·intro w';go_simp
           with_reducible rfl
          rotate_left
          ·simp only [Act.put,List.setIfInBounds_toArray,List.set_cons_zero,List.set_cons_succ,i64_w,i32_w];rfl
          refine take_ (i:=4) (N:=some 18) (v:=?_) (a':=?_) #[true,false,false,true,true,false,false,true,false,false,false,false] rfl rfl (take_ofW HT_.out HW_.out (by kernel_rfl)) (fun _ _ _ h=>h) (Or.inl ⟨by rfl,?_⟩) hHeld ?_ ?_;rotate_left
          ·rintro w' ⟨s0,s1⟩;go_simp
           with_reducible rfl
          rotate_left
          ·simp only [Act.put,List.setIfInBounds_toArray,List.set_cons_zero,List.set_cons_succ,i64_w,i32_w];rfl
          refine take_ (i:=8) (N:=some 22) (v:=?_) (a':=?_) #[true,false,false,true,true,false,false,true,true,false,false,false] rfl rfl (take_ofW HT_.out HW_.out (by kernel_rfl)) (fun _ _ _ h=>h) (Or.inl ⟨by rfl,?_⟩) hHeld ?_ ?_;rotate_left
          ·rintro w' ⟨s0,s1⟩;go_simp
           with_reducible rfl
          rotate_left
          ·simp only [Act.put,List.setIfInBounds_toArray,List.set_cons_zero,List.set_cons_succ,i64_w,i32_w];rfl
          refine one_ (i:=1) (N:=some 15) #[true,true,false,true,true,false,false,true,true,false,false,false] rfl rfl (one_of HT_.out (by kernel_rfl)) (by decide) (fun K hK=>?_);refine goes_ Tryz.func76 (by kernel_rfl) rfl #[.int .i64 x5_1] (by rfl) rfl rfl (by (try simp only [List.map_toArray,List.map_cons,List.map_nil]);first|done|rfl|(simp only [List.length_drop,List.length_take];rfl)) ?_;with_reducible refine (strconv_Itoa_76.calls x5_1 t103 _ (by first|exact HT0|exact ⟨tab_on HT0.out HB.out⟩|exact ⟨tab_on HT0.out (by repeat (first|(with_reducible first|exact HB.out|apply bwA|apply pwbN|apply bw1)|exact HB.out|exact Below.refl _ _))⟩) A7.out).mono ?_
          rintro e w15 ⟨rfl,hb⟩;refine ⟨_,rfl,?_⟩;have n0_:=Aside0.mk (blk_below (g:=gb101) (o := .cells #[.string a0_0,.string a0_1] 78 (0,0)) (by (with_reducible repeat (first|refine blk_drewN ?_ _|refine blk_drew ?_|refine blk_alloc ?_ _));exact BK101.out) hb);have n1_:=Aside0.mk (below_step (by repeat (first|(with_reducible first|exact HB.out|apply bwA|apply pwbN|apply bw1|refine below_set ?_ GE101.out)|exact HB.out)) hb);clear BK101;clear HB;have BK101:=n0_;have HB:=n1_;clear n0_ n1_;(try clear hb);(try clear hb2);(try clear hk);(try clear hi);refine hK.out _ _ ⟨(blk_cell BK101.out 0).trans rfl,(blk_cell BK101.out 1).trans rfl⟩ (fun hHeld=>?_);clear hK K;refine norm_ (a':=?_) ?_ ?_;rotate_left
          ·show Act.put _ (some 15) _ = _
           simp only [Act.put,List.setIfInBounds_toArray,List.set_cons_zero,List.set_cons_succ,i64_w,i32_w];rfl
          refine pure_ (i:=2) (N:=some 16) (v:=?_) (a':=?_) #[true,true,true,true,true,false,false,true,true,false,false,false] rfl rfl (any_of HT_.out (by kernel_rfl)) (fun _ _ _ h=>h) (Or.inl ⟨by rfl,?_⟩) ?_ ?_;rotate_left
          ·intro w';go_simp
           with_reducible rfl
          rotate_left
          ·simp only [Act.put,List.setIfInBounds_toArray,List.set_cons_zero,List.set_cons_succ,i64_w,i32_w];rfl
          refine pure_ (i:=5) (N:=some 19) (v:=?_) (a':=?_) #[true,true,true,true,true,true,false,true,true,false,false,false] rfl rfl (any_of HT_.out (by kernel_rfl)) (fun _ _ _ h=>h) (Or.inl ⟨by rfl,?_⟩) ?_ ?_;rotate_left
          ·intro w';go_simp
           with_reducible rfl
          rotate_left
          ·simp only [Act.put,List.setIfInBounds_toArray,List.set_cons_zero,List.set_cons_succ,i64_w,i32_w];rfl
          refine pure_ (i:=6) (N:=some 20) (v:=?_) (a':=?_) #[true,true,true,true,true,true,true,true,true,false,false,false] rfl rfl (any_of HT_.out (by kernel_rfl)) (fun _ _ _ h=>h) (Or.inl ⟨by rfl,?_⟩) ?_ ?_;rotate_left
          ·intro w';go_simp
           with_reducible rfl
          rotate_left
          ·simp only [Act.put,List.setIfInBounds_toArray,List.set_cons_zero,List.set_cons_succ,i64_w,i32_w];rfl
          refine pure_ (i:=9) (N:=some 23) (v:=?_) (a':=?_) #[true,true,true,true,true,true,true,true,true,true,false,false] rfl rfl (any_of HT_.out (by kernel_rfl)) (fun _ _ _ h=>h) (Or.inl ⟨by rfl,?_⟩) ?_ ?_;rotate_left
          ·intro w';go_simp
           with_reducible rfl
          rotate_left
          ·simp only [Act.put,List.setIfInBounds_toArray,List.set_cons_zero,List.set_cons_succ,i64_w,i32_w];rfl
          refine pure_ (i:=10) (N:=some 24) (v:=?_) (a':=?_) #[true,true,true,true,true,true,true,true,true,true,true,false] rfl rfl (any_of HT_.out (by kernel_rfl)) (fun _ _ _ h=>h) (Or.inl ⟨by rfl,?_⟩) ?_ ?_;rotate_left
          ·intro w';go_simp
           with_reducible rfl
          rotate_left
          ·simp only [Act.put,List.setIfInBounds_toArray,List.set_cons_zero,List.set_cons_succ,i64_w,i32_w];rfl
          refine pure_ (i:=11) (N:=some 6) (v:=?_) (a':=?_) #[true,true,true,true,true,true,true,true,true,true,true,true] rfl rfl (any_of HT_.out (by kernel_rfl)) (fun _ _ _ h=>h) (Or.inl ⟨by rfl,?_⟩) ?_ ?_;rotate_left
          ·intro w';go_simp
           with_reducible rfl
          rotate_left
          ·simp only [Act.put,List.setIfInBounds_toArray,List.set_cons_zero,List.set_cons_succ,i64_w,i32_w];rfl
          refine done_ (done_of HT_.out (by kernel_rfl)) ?_;try go_wp2
          go_ret2
          exact ⟨by first|rfl|(simp [errW_none,errW_some] <;> rfl)|(simp [*,errW_none,errW_some] <;> rfl),by repeat (first|(with_reducible first|exact HB.out|apply bwA|apply pwbN|apply bw1|refine below_set ?_ GE101.out)|exact HB.out)⟩
         ·rw [if_neg c13] at H;have c13b0:(((((((t103 ++ (⟨#[32]⟩:ByteArray)) ++ a0_0) ++ (⟨#[61]⟩:ByteArray)) ++ a0_1) ++ (⟨#[10]⟩:ByteArray)).size:Int) == x5_1) = false:=beq_eq_false_iff_ne.mpr c13;have c13b0f:(((t103.size:Int) + 1 + (a0_0.size:Int) + 1 + (a0_1.size:Int) + 1) == x5_1) = false:=by
           have h1_:∀ b:UInt8,(⟨#[b]⟩:ByteArray).size = 1:=fun _=>rfl
           have e_:((((((t103 ++ (⟨#[32]⟩:ByteArray)) ++ a0_0) ++ (⟨#[61]⟩:ByteArray)) ++ a0_1) ++ (⟨#[10]⟩:ByteArray)).size:Int) = ((t103.size:Int) + 1 + (a0_0.size:Int) + 1 + (a0_1.size:Int) + 1:Int):=by simp only [ByteArray.size_append,h1_];omega
           rw [← e_];exact c13b0
          have c13b1:(((((((t103 ++ (⟨#[32]⟩:ByteArray)) ++ a0_0) ++ (⟨#[61]⟩:ByteArray)) ++ a0_1) ++ (⟨#[10]⟩:ByteArray)).size:Int) != x5_1) = true:=bne_iff_ne.mpr c13;have c13b1f:(((t103.size:Int) + 1 + (a0_0.size:Int) + 1 + (a0_1.size:Int) + 1) != x5_1) = true:=by
           have h1_:∀ b:UInt8,(⟨#[b]⟩:ByteArray).size = 1:=fun _=>rfl
           have e_:((((((t103 ++ (⟨#[32]⟩:ByteArray)) ++ a0_0) ++ (⟨#[61]⟩:ByteArray)) ++ a0_1) ++ (⟨#[10]⟩:ByteArray)).size:Int) = ((t103.size:Int) + 1 + (a0_0.size:Int) + 1 + (a0_1.size:Int) + 1:Int):=by simp only [ByteArray.size_append,h1_];omega
           rw [← e_];exact c13b1
          have H':=Aside0.mk H;clear H;try go_wp2
          have n0_:=Aside0.mk (blk_drew BK101.out);have n1_:=Aside0.mk (bw1 HB.out);clear BK101;clear HB;have BK101:=n0_;have HB:=n1_;clear n0_ n1_;refine start_ (n:=12) (S:=fun w'=>w'.cell? ⟨gb101,0,none⟩ = some (.string a0_0)∧w'.cell? ⟨gb101,1,none⟩ = some (.string a0_1)) (ds:=[]) #[false,false,false,false,false,false,false,false,false,false,false,false] (by kernel_rfl) rfl rfl ⟨(blk_cell BK101.out 0).trans rfl,(blk_cell BK101.out 1).trans rfl⟩ (fun hHeld=>?_);refine with_tabW creelref_RecordText.tab6 creelref_RecordText.bits6 (fun HT_ HW_=>?_);generalize wr.drew = w16 at BK101 HB hHeld ⊢;refine pure_ (i:=0) (N:=some 14) (v:=?_) (a':=?_) #[true,false,false,false,false,false,false,false,false,false,false,false] rfl rfl (any_of HT_.out (by kernel_rfl)) (fun _ _ _ h=>h) (Or.inl ⟨by rfl,?_⟩) ?_ ?_;rotate_left
          ·intro w';go_simp
           with_reducible rfl
          rotate_left
          ·simp only [Act.put,List.setIfInBounds_toArray,List.set_cons_zero,List.set_cons_succ,i64_w,i32_w];rfl
          refine pure_ (i:=3) (N:=some 17) (v:=?_) (a':=?_) #[true,false,false,true,false,false,false,false,false,false,false,false] rfl rfl (any_of HT_.out (by kernel_rfl)) (fun _ _ _ h=>h) (Or.inl ⟨by rfl,?_⟩) ?_ ?_;rotate_left
          ·intro w';go_simp
           with_reducible rfl
          rotate_left
          ·simp only [Act.put,List.setIfInBounds_toArray,List.set_cons_zero,List.set_cons_succ,i64_w,i32_w];rfl
          refine pure_ (i:=7) (N:=some 21) (v:=?_) (a':=?_) #[true,false,false,true,false,false,false,true,false,false,false,false] rfl rfl (any_of HT_.out (by kernel_rfl)) (fun _ _ _ h=>h) (Or.inl ⟨by rfl,?_⟩) ?_ ?_;rotate_left
          ·intro w';go_simp
           with_reducible rfl
          rotate_left
          ·simp only [Act.put,List.setIfInBounds_toArray,List.set_cons_zero,List.set_cons_succ,i64_w,i32_w];rfl
          refine take_ (i:=4) (N:=some 18) (v:=?_) (a':=?_) #[true,false,false,true,true,false,false,true,false,false,false,false] rfl rfl (take_ofW HT_.out HW_.out (by kernel_rfl)) (fun _ _ _ h=>h) (Or.inl ⟨by rfl,?_⟩) hHeld ?_ ?_;rotate_left
          ·rintro w' ⟨s0,s1⟩;go_simp
           with_reducible rfl
          rotate_left
          ·simp only [Act.put,List.setIfInBounds_toArray,List.set_cons_zero,List.set_cons_succ,i64_w,i32_w];rfl
          refine take_ (i:=8) (N:=some 22) (v:=?_) (a':=?_) #[true,false,false,true,true,false,false,true,true,false,false,false] rfl rfl (take_ofW HT_.out HW_.out (by kernel_rfl)) (fun _ _ _ h=>h) (Or.inl ⟨by rfl,?_⟩) hHeld ?_ ?_;rotate_left
          ·rintro w' ⟨s0,s1⟩;go_simp
           with_reducible rfl
          rotate_left
          ·simp only [Act.put,List.setIfInBounds_toArray,List.set_cons_zero,List.set_cons_succ,i64_w,i32_w];rfl
          refine one_ (i:=1) (N:=some 15) #[true,true,false,true,true,false,false,true,true,false,false,false] rfl rfl (one_of HT_.out (by kernel_rfl)) (by decide) (fun K hK=>?_);refine goes_ Tryz.func76 (by kernel_rfl) rfl #[.int .i64 x5_1] (by rfl) rfl rfl (by (try simp only [List.map_toArray,List.map_cons,List.map_nil]);first|done|rfl|(simp only [List.length_drop,List.length_take];rfl)) ?_;with_reducible refine (strconv_Itoa_76.calls x5_1 t103 _ (by first|exact HT0|exact ⟨tab_on HT0.out HB.out⟩|exact ⟨tab_on HT0.out (by repeat (first|(with_reducible first|exact HB.out|apply bwA|apply pwbN|apply bw1)|exact HB.out|exact Below.refl _ _))⟩) A7.out).mono ?_
          rintro e w17 ⟨rfl,hb⟩;refine ⟨_,rfl,?_⟩;have n0_:=Aside0.mk (blk_below (g:=gb101) (o := .cells #[.string a0_0,.string a0_1] 78 (0,0)) (by (with_reducible repeat (first|refine blk_drewN ?_ _|refine blk_drew ?_|refine blk_alloc ?_ _));exact BK101.out) hb);have n1_:=Aside0.mk (below_step (by repeat (first|(with_reducible first|exact HB.out|apply bwA|apply pwbN|apply bw1|refine below_set ?_ GE101.out)|exact HB.out)) hb);clear BK101;clear HB;have BK101:=n0_;have HB:=n1_;clear n0_ n1_;(try clear hb);(try clear hb2);(try clear hk);(try clear hi);refine hK.out _ _ ⟨(blk_cell BK101.out 0).trans rfl,(blk_cell BK101.out 1).trans rfl⟩ (fun hHeld=>?_);clear hK K;refine norm_ (a':=?_) ?_ ?_;rotate_left
          ·show Act.put _ (some 15) _ = _
           simp only [Act.put,List.setIfInBounds_toArray,List.set_cons_zero,List.set_cons_succ,i64_w,i32_w];rfl
          refine pure_ (i:=2) (N:=some 16) (v:=?_) (a':=?_) #[true,true,true,true,true,false,false,true,true,false,false,false] rfl rfl (any_of HT_.out (by kernel_rfl)) (fun _ _ _ h=>h) (Or.inl ⟨by rfl,?_⟩) ?_ ?_;rotate_left
          ·intro w';go_simp
           with_reducible rfl
          rotate_left
          ·simp only [Act.put,List.setIfInBounds_toArray,List.set_cons_zero,List.set_cons_succ,i64_w,i32_w];rfl
          refine pure_ (i:=5) (N:=some 19) (v:=?_) (a':=?_) #[true,true,true,true,true,true,false,true,true,false,false,false] rfl rfl (any_of HT_.out (by kernel_rfl)) (fun _ _ _ h=>h) (Or.inl ⟨by rfl,?_⟩) ?_ ?_;rotate_left
          ·intro w';go_simp
           with_reducible rfl
          rotate_left
          ·simp only [Act.put,List.setIfInBounds_toArray,List.set_cons_zero,List.set_cons_succ,i64_w,i32_w];rfl
          refine pure_ (i:=6) (N:=some 20) (v:=?_) (a':=?_) #[true,true,true,true,true,true,true,true,true,false,false,false] rfl rfl (any_of HT_.out (by kernel_rfl)) (fun _ _ _ h=>h) (Or.inl ⟨by rfl,?_⟩) ?_ ?_;rotate_left
          ·intro w';go_simp
           with_reducible rfl
          rotate_left
          ·simp only [Act.put,List.setIfInBounds_toArray,List.set_cons_zero,List.set_cons_succ,i64_w,i32_w];rfl
          refine pure_ (i:=9) (N:=some 23) (v:=?_) (a':=?_) #[true,true,true,true,true,true,true,true,true,true,false,false] rfl rfl (any_of HT_.out (by kernel_rfl)) (fun _ _ _ h=>h) (Or.inl ⟨by rfl,?_⟩) ?_ ?_;rotate_left
          ·intro w';go_simp
           with_reducible rfl
          rotate_left
          ·simp only [Act.put,List.setIfInBounds_toArray,List.set_cons_zero,List.set_cons_succ,i64_w,i32_w];rfl
          refine pure_ (i:=10) (N:=some 24) (v:=?_) (a':=?_) #[true,true,true,true,true,true,true,true,true,true,true,false] rfl rfl (any_of HT_.out (by kernel_rfl)) (fun _ _ _ h=>h) (Or.inl ⟨by rfl,?_⟩) ?_ ?_;rotate_left
          ·intro w';go_simp
           with_reducible rfl
          rotate_left
          ·simp only [Act.put,List.setIfInBounds_toArray,List.set_cons_zero,List.set_cons_succ,i64_w,i32_w];rfl
          refine pure_ (i:=11) (N:=some 6) (v:=?_) (a':=?_) #[true,true,true,true,true,true,true,true,true,true,true,true] rfl rfl (any_of HT_.out (by kernel_rfl)) (fun _ _ _ h=>h) (Or.inl ⟨by rfl,?_⟩) ?_ ?_;rotate_left
          ·intro w';go_simp
           with_reducible rfl
          rotate_left
          ·simp only [Act.put,List.setIfInBounds_toArray,List.set_cons_zero,List.set_cons_succ,i64_w,i32_w];rfl
          refine done_ (done_of HT_.out (by kernel_rfl)) ?_;try go_wp2
          go_roundg k1
          case measure=>have:=HK1.out;omega
          case rel=>exact ⟨(wrap64 (x5_1 + 1)),(by first|rfl|(simp;done)|(have h1_:∀ b:UInt8,(⟨#[b]⟩:ByteArray).size = 1:=fun _=>rfl;simp [h1_];done)|(simp [*];done)),H',⟨by have:=HK1.out;omega⟩,⟨by (with_reducible repeat (first|refine blk_drewN ?_ _|refine blk_drew ?_|refine blk_alloc ?_ _));exact BK101.out⟩,⟨by repeat (first|(with_reducible first|exact HB.out|apply bwA|apply pwbN|apply bw1|refine below_set ?_ GE101.out)|exact HB.out)⟩⟩
        ·rw [if_neg c12] at H;exact absurd H (by simp)
       ·rw [if_neg c11] at H;exact absurd H (by simp)
      ·rw [if_neg c10] at H;exact absurd H (by simp)
     ·rw [if_neg c9] at H;exact absurd H (by simp)
    ·rw [if_neg c8] at H;exact absurd H (by simp)
 ·rw [if_neg c3] at H;have c3b0:(t102 == 0) = false:=beq_eq_false_iff_ne.mpr c3;have c3b1:(t102 != 0) = true:=bne_iff_ne.mpr c3;simp only [Option.some.injEq,Prod.mk.injEq] at H;obtain ⟨rfl,rfl⟩:=H;go_enter Tryz.func84,Tryz.ntmps84;go_wp2_with (first|((with_reducible refine gate_dst (N:=1) rfl ?_);refine box_event ?hg (N:=1) ?hd (cs:=#[.string a0_0,.string a0_1]) (t:=78) ?hr ?_;(case hd=>rfl);(case hg=>rfl);(case hr=>first|(go_simp;done)|(go_simp;rfl));intro gb101 hg w18 hbox hb;have n0_:=Aside0.mk (below_step (by repeat (first|(with_reducible first|exact HB.out|apply bwA|apply pwbN|apply bw1)|exact HB.out)) hb);have n1_:=Aside0.mk (hbox);have n2_:=Aside0.mk ((by rw [hg];exact (below_size (by repeat (first|(with_reducible first|exact HB.out|apply bwA|apply pwbN|apply bw1)|exact HB.out))):w.heap.size ≤ gb101));have n3_:=Aside0.mk ((by rw [hg];exact (below_size (by repeat (first|(with_reducible first|exact HB.out|apply bwA|apply pwbN|apply bw1)|exact HB.out))):w.heap.size ≤ gb101));clear HB;have HB:=n0_;have BK101:=n1_;have GW101:=n2_;have GE101:=n3_;clear n0_ n1_ n2_ n3_;clear hb hbox hg;obtain ⟨_,_,_,_⟩:=blkA2 BK101.out)|((with_reducible refine gate_callee (f:=118) rfl ?_);refine goesL_ (some 8) rfl rfl Tryz.func118 (by kernel_rfl) rfl #[.agg #[.string a0_0,.string a0_1]] rfl (by (try simp only [List.map_toArray,List.map_cons,List.map_nil]);first|done|rfl|(simp only [List.length_drop,List.length_take];rfl)) ?_;(with_reducible refine (creelref_RecordFault.calls k a0_0 a0_1 t102 _ A2.out).mono ?_);rintro e w20 ⟨rfl,hb⟩;refine ⟨_,rfl,?_⟩;have n0_:=Aside0.mk (blk_below (g:=gb101) (o := .cells #[.string a0_0,.string a0_1] 78 (0,0)) (by (with_reducible repeat (first|refine blk_drewN ?_ _|refine blk_drew ?_|refine blk_alloc ?_ _));exact BK101.out) hb);have n1_:=Aside0.mk (below_step (by repeat (first|(with_reducible first|exact HB.out|apply bwA|apply pwbN|apply bw1|refine below_set ?_ GE101.out)|exact HB.out)) hb);clear BK101;clear HB;have BK101:=n0_;have HB:=n1_;clear n0_ n1_;(try clear hb);(try clear hb2);(try clear hk);(try clear hi)))
  go_ret2
  exact ⟨by first|rfl|(simp [errW_none,errW_some] <;> rfl)|(simp [*,errW_none,errW_some] <;> rfl),by repeat (first|(with_reducible first|exact HB.out|apply bwA|apply pwbN|apply bw1|refine below_set ?_ GE101.out)|exact HB.out)⟩
def creelref_PaxText.l0:Nat→List (S78)→ByteArray→Int→Option (ByteArray × Int)
 | 0,_,_,_=>none
 | k + 1,x0,x5,x6=>if x6 ≥ 0 then (if 0 ≤ x6 then (if x6 < (x0.length:Int) then ((creelref_RecordText.f k ((rd_T78 x0 x6).f0) ((rd_T78 x0 x6).f1)).bind fun bt103=>(if bt103.1.size + x5.size ≤ 9223372036854775807 then (creelref_PaxText.l0 k x0 (bt103.1 ++ x5) (wrap64 (x6 - 1))) else (none))) else (none)) else (none)) else (some (x5,0))
def creelref_PaxText.f (k:Nat) (l0:List (S78)):Option (ByteArray × Int):=(creelref_PaxFault.f k l0).bind fun t101=>(if t101 = 0 then (creelref_PaxText.l0 k l0 (⟨#[]⟩:ByteArray) (wrap64 ((l0.length:Int) - 1))) else (some ((⟨#[]⟩:ByteArray),t101)))
theorem creelref_PaxText.mono_l:∀ k,(∀ y0 y1 y2,LeO (creelref_PaxText.l0 k y0 y1 y2) (creelref_PaxText.l0 (k + 1) y0 y1 y2))
 | 0=>fun _ _ _ r h=>by simp [creelref_PaxText.l0] at h
 | k + 1=>by
  have ih0:=creelref_PaxText.mono_l k
  ·intro y0 y1 y2
   unfold creelref_PaxText.l0
   repeat' first
   | (with_reducible exact ih0 _ _ _)
   | (with_reducible exact creelref_PaxFault.mono _ _)
   | (with_reducible exact creelref_RecordText.mono _ _ _)
   | (with_reducible exact LeO.refl _)
   | (with_reducible exact LeO.none _)
   | (with_reducible refine LeO.ite ?_ ?_)
   | (with_reducible refine LeO.bind ?_ (fun _=>?_))
   | exact ih0 _ _ _
   | exact creelref_PaxFault.mono _ _
   | exact creelref_RecordText.mono _ _ _
   | exact LeO.none _
   | refine LeO.ite ?_ ?_
   | refine LeO.bind ?_ (fun _=>?_)
theorem creelref_PaxText.mono:∀ a0 k,LeO (creelref_PaxText.f k a0) (creelref_PaxText.f (k + 1) a0):=by
 intro a0 k;have ih0:=creelref_PaxText.mono_l k;unfold creelref_PaxText.f;repeat' first
  | (with_reducible exact ih0 _ _ _)
  | (with_reducible exact creelref_PaxFault.mono _ _)
  | (with_reducible exact creelref_RecordText.mono _ _ _)
  | (with_reducible exact LeO.refl _)
  | (with_reducible exact LeO.none _)
  | (with_reducible refine LeO.ite ?_ ?_)
  | (with_reducible refine LeO.bind ?_ (fun _=>?_))
  | exact ih0 _ _ _
  | exact creelref_PaxFault.mono _ _
  | exact creelref_RecordText.mono _ _ _
  | exact LeO.none _
  | refine LeO.ite ?_ ?_
  | refine LeO.bind ?_ (fun _=>?_)
set_option maxHeartbeats 8000000 in
set_option maxRecDepth 100000 in
theorem creelref_PaxText.calls (k:Nat) (A0:Option Addr) (c0:Nat) (l0:List (S78)) (r1:ByteArray) (r2:Int) (w:World) (hr0:Kd.C k78 w A0 l0.length l0) (hc0:l0.length ≤ c0) (HT0:Aside0 (Tab w)) (h:creelref_PaxText.f k l0 = some (r1,r2)) :
 Calls Tryz.prog 35 #[.slice A0 l0.length c0] w fun e w'=>e = .returned (.tuple #[.string r1,.int .i64 r2])∧Below w.heap.size w w':=by
 have hu78:=Tryz.underlying78;have HR0:=Aside0.mk hr0;have HC0:=Aside0.mk hc0;clear hr0 hc0;have HB:=Aside0.mk (Below.refl w.heap.size w);have H:((creelref_PaxFault.f k l0).bind fun t101=>(if t101 = 0 then (creelref_PaxText.l0 k l0 (⟨#[]⟩:ByteArray) (wrap64 ((l0.length:Int) - 1))) else (some ((⟨#[]⟩:ByteArray),t101)))) = some (r1,r2):=h;clear h;replace H:=Option.bind_eq_some_iff.mp H;obtain ⟨t101,A20,H⟩:=H;replace H:(if t101 = 0 then (creelref_PaxText.l0 k l0 (⟨#[]⟩:ByteArray) (wrap64 ((l0.length:Int) - 1))) else (some ((⟨#[]⟩:ByteArray),t101))) = some (r1,r2):=H;have A2:=Aside0.mk A20;clear A20;by_cases c3:t101 = 0
 ·rw [if_pos c3] at H;have c3b0:(t101 == 0) = true:=beq_iff_eq.mpr c3;have c3b1:(t101 != 0) = false:=bne_eq_false_iff_eq.mpr c3;clear c3;have H':=Aside0.mk H;clear H;go_enter Tryz.func35,Tryz.ntmps35;go_wp2_with (first|((with_reducible refine gate_callee (f:=83) rfl ?_);refine goesL_ (some 10) rfl rfl Tryz.func83 (by kernel_rfl) rfl #[.slice A0 l0.length c0] rfl (by (try simp only [List.map_toArray,List.map_cons,List.map_nil]);first|done|rfl|(simp only [List.length_drop,List.length_take];rfl)) ?_;(with_reducible refine (creelref_PaxFault.calls k _ _ l0 t101 _ ?side1 ?side2 A2.out).mono ?_);(case side1=>repeat (first|exact HR0.out|(with_reducible refine Kd.C_alloc ?_ _)|(with_reducible refine Kd.C_drewN ?_ _)|(with_reducible refine Kd.C_drew ?_)));(case side2=>exact HC0.out);rintro e w4 ⟨rfl,hb⟩;refine ⟨_,rfl,?_⟩;have n0_:=Aside0.mk (below_step (by repeat (first|(with_reducible first|exact HB.out|apply bwA|apply pwbN|apply bw1)|exact HB.out)) hb);clear HB;have HB:=n0_;clear n0_;(try clear hb);(try clear hb2);(try clear hk);(try clear hi)))
  go_loopg [5,6] k (fun kq v5 v6 w'=>∃ (x5_1:ByteArray) (x6_1:Int),v5 = .string x5_1∧v6 = .int .i64 x6_1∧Aside0 (creelref_PaxText.l0 kq l0 x5_1 x6_1 = some (r1,r2))∧Aside0 (kq ≤ k)∧Aside0 (Below w.heap.size w w'))
  case atStart=>exact ⟨((⟨#[]⟩:ByteArray)),(wrap64 ((l0.length:Int) - 1)),(by first|rfl|(simp;done)|(simp [*];done)),(by first|rfl|(simp;done)|(simp [*];done)),H',⟨Nat.le_refl _⟩,⟨by repeat (first|(with_reducible first|exact HB.out|apply bwA|apply pwbN|apply bw1)|exact HB.out)⟩⟩
  case round =>
   clear H';repeat first|clear c3|clear c3b0|clear c3b1
   obtain ⟨x5_1,x6_1,rfl,rfl,HA,HK1,HB⟩:=hrel;cases gk with
   | zero=>exact absurd HA.out (by simp [creelref_PaxText.l0])
   | succ k1 =>
    have H:=HA.out;clear HA;simp only [creelref_PaxText.l0] at H;by_cases c5:x6_1 ≥ 0
    ·rw [if_pos c5] at H;have c5b0:decide (0 ≤ x6_1) = true:=decide_eq_true c5;clear c5;by_cases c6:0 ≤ x6_1
     ·rw [if_pos c6] at H;have c6b0:decide (0 ≤ x6_1) = true:=decide_eq_true c6;clear c6;by_cases c7:x6_1 < (l0.length:Int)
      ·rw [if_pos c7] at H;have c7b0:decide (x6_1 < (l0.length:Int)) = true:=decide_eq_true c7;clear c7;replace H:=Option.bind_eq_some_iff.mp H;obtain ⟨⟨t103,t104⟩,A80,H⟩:=H;replace H:(if t103.size + x5_1.size ≤ 9223372036854775807 then (creelref_PaxText.l0 k1 l0 (t103 ++ x5_1) (wrap64 (x6_1 - 1))) else (none)) = some (r1,r2):=H;have A8:=Aside0.mk A80;clear A80;by_cases c9:t103.size + x5_1.size ≤ 9223372036854775807
       ·rw [if_pos c9] at H;have c9b0:=eq_true c9;have c9b1:decide (t103.size + x5_1.size ≤ 9223372036854775807) = true:=decide_eq_true c9;try have c9b2:(9223372036854775807 < t103.size + x5_1.size) = False:=eq_false (Nat.not_lt.2 c9)
        have H':=Aside0.mk H;clear H;have p102:0 ≤ (x6_1:Int):=of_decide_eq_true (by first|(with_reducible assumption)|assumption);have q102:x6_1 < (l0.length:Int):=of_decide_eq_true (by first|(with_reducible assumption)|assumption);obtain ⟨ad102,e102,hx102_0,hx102_1⟩:=at_T78 HR0.out x6_1 p102 q102;cases e102;replace hx102_0:=(HB.out.cell (World.block_lt_of_cell? w _ hx102_0)).trans hx102_0;replace hx102_1:=(HB.out.cell (World.block_lt_of_cell? w _ hx102_1)).trans hx102_1;replace p102:=eq_true p102;replace q102:=eq_true q102;go_wp2_with (first|((with_reducible refine gate_callee (f:=84) rfl ?_);refine goesL_ (some 26) rfl rfl Tryz.func84 (by kernel_rfl) rfl #[.agg #[.string ((rd_T78 l0 x6_1).f0),.string ((rd_T78 l0 x6_1).f1)]] rfl (by (try simp only [List.map_toArray,List.map_cons,List.map_nil]);first|done|rfl|(simp only [List.length_drop,List.length_take];rfl)) ?_;(with_reducible refine (creelref_RecordText.calls k1 ((rd_T78 l0 x6_1).f0) ((rd_T78 l0 x6_1).f1) t103 t104 _ (by first|exact HT0|exact ⟨tab_on HT0.out HB.out⟩|exact ⟨tab_on HT0.out (by repeat (first|(with_reducible first|exact HB.out|apply bwA|apply pwbN|apply bw1)|exact HB.out|exact Below.refl _ _))⟩) A8.out).mono ?_);rintro e w10 ⟨rfl,hb⟩;refine ⟨_,rfl,?_⟩;have n0_:=Aside0.mk (below_step (by repeat (first|(with_reducible first|exact HB.out|apply bwA|apply pwbN|apply bw1)|exact HB.out)) hb);clear HB;have HB:=n0_;clear n0_;(try clear hb);(try clear hb2);(try clear hk);(try clear hi)))
        go_roundg k1
        case measure=>have:=HK1.out;omega
        case rel=>exact ⟨(t103 ++ x5_1),(wrap64 (x6_1 - 1)),(by first|rfl|(simp;done)|(simp [*];done)),(by first|rfl|(simp;done)|(simp [*];done)),H',⟨by have:=HK1.out;omega⟩,⟨by repeat (first|(with_reducible first|exact HB.out|apply bwA|apply pwbN|apply bw1)|exact HB.out)⟩⟩
       ·rw [if_neg c9] at H;exact absurd H (by simp)
      ·rw [if_neg c7] at H;exact absurd H (by simp)
     ·rw [if_neg c6] at H;exact absurd H (by simp)
    ·rw [if_neg c5] at H;have c5b0:decide (0 ≤ x6_1) = false:=decide_eq_false c5;clear c5;simp only [Option.some.injEq,Prod.mk.injEq] at H;obtain ⟨rfl,rfl⟩:=H;go_wp2;go_ret2
     exact ⟨by first|rfl|(simp [errW_none,errW_some] <;> rfl)|(simp [*,errW_none,errW_some] <;> rfl),by repeat (first|(with_reducible first|exact HB.out|apply bwA|apply pwbN|apply bw1)|exact HB.out)⟩
 ·rw [if_neg c3] at H;have c3b0:(t101 == 0) = false:=beq_eq_false_iff_ne.mpr c3;have c3b1:(t101 != 0) = true:=bne_iff_ne.mpr c3;simp only [Option.some.injEq,Prod.mk.injEq] at H;obtain ⟨rfl,rfl⟩:=H;go_enter Tryz.func35,Tryz.ntmps35;go_wp2_with (first|((with_reducible refine gate_callee (f:=83) rfl ?_);refine goesL_ (some 10) rfl rfl Tryz.func83 (by kernel_rfl) rfl #[.slice A0 l0.length c0] rfl (by (try simp only [List.map_toArray,List.map_cons,List.map_nil]);first|done|rfl|(simp only [List.length_drop,List.length_take];rfl)) ?_;(with_reducible refine (creelref_PaxFault.calls k _ _ l0 t101 _ ?side1 ?side2 A2.out).mono ?_);(case side1=>repeat (first|exact HR0.out|(with_reducible refine Kd.C_alloc ?_ _)|(with_reducible refine Kd.C_drewN ?_ _)|(with_reducible refine Kd.C_drew ?_)));(case side2=>exact HC0.out);rintro e w11 ⟨rfl,hb⟩;refine ⟨_,rfl,?_⟩;have n0_:=Aside0.mk (below_step (by repeat (first|(with_reducible first|exact HB.out|apply bwA|apply pwbN|apply bw1)|exact HB.out)) hb);clear HB;have HB:=n0_;clear n0_;(try clear hb);(try clear hb2);(try clear hk);(try clear hi)))
  go_ret2
  exact ⟨by first|rfl|(simp [errW_none,errW_some] <;> rfl)|(simp [*,errW_none,errW_some] <;> rfl),by repeat (first|(with_reducible first|exact HB.out|apply bwA|apply pwbN|apply bw1)|exact HB.out)⟩
end Go.Proofs.YtenbelecmmpdgaaGreatDoor.All
end
section
namespace Go.Proofs.YtenbelecmmpdgaaGreatDoor.All
open Go.RowKit Go.Proofs.YtenbelecmmpdgaaGreatDoorW.PrintWords Go.Proofs.YtenbelecmmpdgaaGreatDoorW.PrintLast Go.Proofs.YtenbelecmmpdgaaGreatDoorW.PrintMore
open Go.Proofs.YtenbelecmmpdgaaGreatDoorW.Mine
attribute [local go_sem] gtr_string leq_string geq_string
attribute [local go_sem] max2_int min2_int max_two min_two max_three min_three max_four min_four
set_option linter.unusedVariables false
set_option linter.unusedSimpArgs false
open Go.Proofs.YtenbelecmmpdgaaGreatDoorW.MapOwn Go.Proofs.YtenbelecmmpdgaaGreatDoorW.MarkRow
theorem creelref_MemberBytes.szH:(Tryz.prog.info? 55).map (·.size) = some 11:=by kernel_rfl
theorem creelref_MemberBytes.info:(Tryz.prog.info? 5).map (fun i=>(i.zero,i.size,i.bytes)) = some (some (.int .u8 0),1,1):=by kernel_rfl
theorem creelref_MemberBytes.builtH (n:Int):Tryz.prog.built 55 [(0,.string (⟨#[64,112,97,120]⟩:ByteArray)),(6,.int .i64 n),(8,.int .u8 120)] = some #[.string (⟨#[64,112,97,120]⟩:ByteArray),.string (⟨#[]⟩:ByteArray),.string (⟨#[]⟩:ByteArray),.int .i64 0,.int .i64 0,.int .i64 0,.int .i64 n,.int .i64 0,.int .u8 120,.string (⟨#[]⟩:ByteArray),.string (⟨#[]⟩:ByteArray)]:=by kernel_rfl
theorem creelref_MemberBytes.build_event {P:Program} {ops:Array Oper} {rest:List Oper} {o:Oper} {a:Act} {Q:Exit→Act→World→Prop} {W:World} (hgd:o.guard = none) {t:TypeId} {parts:Array (Nat × Operand)} (ho:o.op = .build t parts) {cells:Array Value} (hp:P.built t (parts.map fun (i,x)=>(i,a.eval x)).toList = some cells) (h:wpList P ops Q rest (a.put o.dst (.agg cells)) W):wpList P ops Q (o :: rest) a W:=by
 refine wpList_build hgd t parts ho (by rw [hp];rfl) ?_;rw [hp];exact h
theorem creelref_MemberBytes.conv:∀ (W:World) (s:ByteArray),(convert 9 24 (.string s)).run Tryz.prog W = .ok (.slice (some ⟨W.heap.size,0,none⟩) (bytesOf s).length (grownCap W s.size 0 5)) (Lib.bytesWorld W 5 s):=fun W s=>by
 rw [bytesOf_length]
 exact Lib.run_convert_string_bytes W 9 24 5 s Tryz.underlying9 Tryz.underlying24 Tryz.underlying5
theorem creelref_MemberBytes.le2 {f:List Int} {t:ByteArray} {A:Prop} (h:A∧t.size < 10000000000000∧f.length < 10000000000000):(bytesOf t).length + f.length ≤ 140737488355328:=by
 rw [bytesOf_length];omega
theorem creelref_MemberBytes.le3 {f g:List Int} {s t:ByteArray} {A A':Prop} (h:A∧t.size < 10000000000000∧f.length < 10000000000000) (h':A'∧s.size < 10000000000000∧g.length < 10000000000000):(bytesOf t ++ f).length + (bytesOf s ++ g).length ≤ 140737488355328:=by
 rw [List.length_append,List.length_append,bytesOf_length,bytesOf_length];omega
theorem creelref_MemberBytes.readsC {w:World} {base:Nat} {e:TypeId} {A:Option Addr} {n c:Nat} {xs:List Int} (h:MRow w base e (.slice A n c) xs):(Kd.int .u8).C w A xs.length xs:=by
 obtain ⟨A',c',e',_,hc⟩:=MRow.reads h;cases e';exact hc
theorem creelref_MemberBytes.szM:(Tryz.prog.info? 55).map (·.size) = some 11:=by kernel_rfl
def creelref_MemberBytes.tail (k:Nat) (l:List (S78)) (out:List Int):Option (List Int × Int):=if l.length = 0 then some (out,0) else (creelref_PaxText.f k l).bind fun t=>(creelref_HeadText.f k (⟨#[64,112,97,120]⟩:ByteArray) (⟨#[]⟩:ByteArray) (⟨#[]⟩:ByteArray) 0 0 0 (t.1.size:Int) 0 120 (⟨#[]⟩:ByteArray) (⟨#[]⟩:ByteArray)).bind fun u=>(creelref_PadFill.f k (bytesOf t.1)).bind fun ft=>if t.1.size < 100000000000000∧u.1.size < 10000000000000∧ft.length < 10000000000000 then some ((bytesOf u.1 ++ ft) ++ out,0) else none
def creelref_MemberBytes.f (k:Nat) (a0:ByteArray) (a1:Int) (a2:ByteArray) (a3 a4 a5:Int) (a6 a7:ByteArray) (a8 a9:Int) (l0:List Int):Option (List Int × Int):=(creelref_MemberHead.f k a0 a1 a2 a3 a4 a5 a6 a7 a8 a9 l0).bind fun q=>if q.2.2.2.2.2.2.2.2.2.2.2 = 0 then (creelref_MemberRecords.f k a0 a1 a2 a3 a4 a5 a6 a7 a8 a9 l0).bind fun l=>(creelref_HeadText.f k q.1 q.2.1 q.2.2.1 q.2.2.2.1 q.2.2.2.2.1 q.2.2.2.2.2.1 q.2.2.2.2.2.2.1 q.2.2.2.2.2.2.2.1 q.2.2.2.2.2.2.2.2.1 q.2.2.2.2.2.2.2.2.2.1 q.2.2.2.2.2.2.2.2.2.2.1).bind fun s=>(creelref_PadFill.f k l0).bind fun fl=>if True∧s.1.size < 10000000000000∧fl.length < 10000000000000 then creelref_MemberBytes.tail k l.1 (bytesOf s.1 ++ fl) else none else some ([],q.2.2.2.2.2.2.2.2.2.2.2)
set_option maxHeartbeats 16000000 in
set_option maxRecDepth 100000 in
theorem creelref_MemberBytes.calls (k:Nat) (a0:ByteArray) (a1:Int) (a2:ByteArray) (a3 a4 a5:Int) (a6 a7:ByteArray) (a8 a9:Int) (A0:Option Addr) (c0:Nat) (l0:List Int) (r1:List Int) (r2:Int) (w:World) (hr0:Kd.C (Kd.int .u8) w A0 l0.length l0) (hc0:l0.length ≤ c0) (HT0:Aside0 (Tab w)) (h:creelref_MemberBytes.f k a0 a1 a2 a3 a4 a5 a6 a7 a8 a9 l0 = some (r1,r2)) :
 Calls Tryz.prog 9 #[.agg #[.string a0,.int .i64 a1,.string a2,.int .i64 a3,.int .i64 a4,.int .i64 a5,.string a6,.string a7,.int .i64 a8,.int .i64 a9,.slice A0 l0.length c0]] w fun e w'=>∃ v0_:Value,e = .returned (.tuple #[v0_,.int .i64 r2])∧MRow w' w.heap.size 5 v0_ r1∧Below w.heap.size w w':=by
 have hu26:=Tryz.underlying26;have hu55:=Tryz.underlying55;have HR0:=Aside0.mk hr0;have HC0:=Aside0.mk hc0;clear hr0 hc0;unfold creelref_MemberBytes.f at h;obtain ⟨⟨x0,x1,x2,x3,x4,x5,x6,x7,x8,x9,x10,e1⟩,h1,hq⟩:=Option.bind_eq_some_iff.1 h;clear h;have h:=hq;clear hq;have H1:=Aside0.mk h1;clear h1;simp only at h;by_cases c1:e1 = 0
 ·subst c1;rw [if_pos rfl] at h;obtain ⟨⟨rs,re⟩,h2,hq⟩:=Option.bind_eq_some_iff.1 h;clear h;have h:=hq;clear hq;have H2:=Aside0.mk h2;clear h2;obtain ⟨⟨s1,s2⟩,h3,hq⟩:=Option.bind_eq_some_iff.1 h;clear h;have h:=hq;clear hq;have H3:=Aside0.mk h3;clear h3;obtain ⟨fl,h4,hq⟩:=Option.bind_eq_some_iff.1 h;clear h;have h:=hq;clear hq;have H4:=Aside0.mk h4;clear h4;by_cases c2:True∧s1.size < 10000000000000∧fl.length < 10000000000000
  ·rw [if_pos c2] at h;have HL:=Aside0.mk c2;clear c2;unfold creelref_MemberBytes.tail at h;by_cases c3:rs.length = 0
   ·rw [if_pos c3] at h;obtain ⟨rfl,rfl⟩:=Prod.mk.inj (Option.some.inj h);obtain rfl:rs = []:=List.eq_nil_of_length_eq_zero c3;clear h c3;go_enter Tryz.func9,Tryz.ntmps9;go_upto_region 6 with (first|((with_reducible refine gate_dst (N:=1) rfl ?_);refine box_event ?hg (N:=1) ?hd (cs:=#[.string a0,.int .i64 a1,.string a2,.int .i64 a3,.int .i64 a4,.int .i64 a5,.string a6,.string a7,.int .i64 a8,.int .i64 a9,.slice A0 l0.length c0]) (t:=26) ?hr ?_;(case hd=>rfl);(case hg=>rfl);(case hr=>first|(go_simp;done)|(go_simp;rfl));intro gx hg w1 hbox hb1;have HKX:=Aside0.mk hbox;have HB1:=Aside0.mk hb1;clear hg hbox hb1)|((with_reducible refine gate_dst (N:=16) rfl ?_);refine load_event rfl rfl hu26 rfl rfl (cs:=[.string a0,.int .i64 a1,.string a2,.int .i64 a3,.int .i64 a4,.int .i64 a5,.string a6,.string a7,.int .i64 a8,.int .i64 a9,.slice A0 l0.length c0]) sz26 (cells_of_blk (cs:=[.string a0,.int .i64 a1,.string a2,.int .i64 a3,.int .i64 a4,.int .i64 a5,.string a6,.string a7,.int .i64 a8,.int .i64 a9,.slice A0 l0.length c0]) HKX.out) ?_)|(go_at_call 31;refine (creelref_MemberHead.calls k a0 a1 a2 a3 a4 a5 a6 a7 a8 a9 A0 c0 l0 x0 x1 x2 x3 x4 x5 x6 x7 x8 x9 x10 0 _ (Kd.C_below HR0.out HB1.out) HC0.out ⟨tab_on HT0.out HB1.out⟩ H1.out).mono ?_;rintro e w2 ⟨rfl,hb2⟩;have HB2:=Aside0.mk (below_step HB1.out hb2);have HKX2:=Aside0.mk (blk_below HKX.out hb2);clear HKX hb2;have HKX:=HKX2;clear HKX2)|((with_reducible refine gate_store (t:=55) (p:=4) rfl ?_);refine put_event rfl rfl rfl rfl rfl (heap_alloc_new _ _) creelref_MemberBytes.szM rfl rfl ?_;intro w3 hk3 hg3;have HH:=Aside0.mk hk3;have HX:=Aside0.mk (show Below w2.heap.size w2 w3 from below_grown (bwA (Below.refl _ _) _) hg3 (Nat.le_refl _) (by simp));clear hk3 hg3)|((with_reducible refine gate_dst (N:=24) rfl ?_);refine load_event rfl rfl hu26 rfl rfl (cs:=[.string a0,.int .i64 a1,.string a2,.int .i64 a3,.int .i64 a4,.int .i64 a5,.string a6,.string a7,.int .i64 a8,.int .i64 a9,.slice A0 l0.length c0]) sz26 (cells_of_blk (cs:=[.string a0,.int .i64 a1,.string a2,.int .i64 a3,.int .i64 a4,.int .i64 a5,.string a6,.string a7,.int .i64 a8,.int .i64 a9,.slice A0 l0.length c0]) (blk_below HKX.out HX.out)) ?_)|(go_at_call 32;refine (creelref_MemberRecords.calls k a0 a1 a2 a3 a4 a5 a6 a7 a8 a9 A0 c0 l0 _ re _ (Kd.C_below HR0.out (below_step HB2.out HX.out)) HC0.out ⟨tab_on HT0.out (below_step HB2.out HX.out)⟩ H2.out).mono ?_;rintro e w4 ⟨vr,rfl,hrr,hb⟩;obtain ⟨Ar,cr,rfl,hrl,hrc⟩:=Kd.R_reads hrr;have HRC:=Aside0.mk hrc;have HRL:=Aside0.mk hrl;have HX9:=Aside0.mk (below_step HX.out hb);have HH9:=Aside0.mk (blk_below HH.out hb);clear HX HH hrr hrc hrl hb;have HX:=HX9;have HH:=HH9;clear HX9 HH9)|((with_reducible refine gate_dst (N:=29) rfl ?_);refine load_event rfl rfl Tryz.underlying55 rfl rfl (cs:=[.string x0,.string x1,.string x2,.int .i64 x3,.int .i64 x4,.int .i64 x5,.int .i64 x6,.int .i64 x7,.int .u8 x8,.string x9,.string x10]) creelref_MemberBytes.szH (cells_of_blk (cs:=[.string x0,.string x1,.string x2,.int .i64 x3,.int .i64 x4,.int .i64 x5,.int .i64 x6,.int .i64 x7,.int .u8 x8,.string x9,.string x10]) HH.out) ?_)|(go_at_call 33;refine (creelref_HeadText.calls k x0 x1 x2 x3 x4 x5 x6 x7 x8 x9 x10 s1 s2 _ H3.out).mono ?_;rintro e w5 ⟨rfl,hb⟩;have HX9:=Aside0.mk (below_step HX.out hb);have HRC9:=Aside0.mk (Kd.C_below HRC.out hb);clear HX HRC hb HH;have HX:=HX9;have HRC:=HRC9;clear HX9 HRC9))
    have HB5:=Aside0.mk (below_step HB2.out HX.out);have HT5:=Aside0.mk (tab_on HT0.out HB5.out);have HKX5:=Aside0.mk (blk_below HKX.out HX.out);have HM:=Aside0.mk (MRow.of_bytes w5 w5.heap.size 5 s1 (Nat.le_refl _) (by have:=HL.out.2.1;unfold maxLen;omega));have HY:=Aside0.mk (bytes_below (Below.refl w5.heap.size w5) (Nat.le_refl _) 5 s1);have hx10:=blk_cell (blk_below HKX5.out HY.out) 10;have hcv:=creelref_MemberBytes.conv;go_wp2_with (first|(go_at_call 34;refine (creelref_PadFill.calls k A0 c0 l0 fl _ (Kd.C_below HR0.out (below_step HB5.out HY.out)) HC0.out H4.out).mono ?_;rintro e w7 ⟨vf,rfl,hrf,hb⟩;obtain ⟨Af,cf,rfl,hlf,hcf⟩:=Kd.R_reads hrf;have HCF:=Aside0.mk hcf;have HM9:=Aside0.mk (MRow.below HM.out hb);have HY9:=Aside0.mk (below_step HY.out hb);clear hrf hlf hcf hb;clear HM HY;have HM:=HM9;have HY:=HY9;clear HM9 HY9)|((with_reducible refine gate_builtin (b := .append) (xs:=#[.tmp 34,.tmp 37]) rfl ?_);at_builtin;refine wp_append_M rfl (.tmp 34) (.tmp 37) 24 rfl Tryz.underlying24 creelref_MemberBytes.info rfl rfl rfl HM.out HCF.out HY.out (below_size HY.out) (creelref_MemberBytes.le2 HL.out) ?_;intro v8 w8 hm hb hg;have HM9:=Aside0.mk hm;have HY9:=Aside0.mk hb;clear HCF hm hb hg;clear HM HY;have HM:=HM9;have HY:=HY9;clear HM9 HY9;obtain ⟨Ao,co,ev_,hlo,hco⟩:=MRow.reads HM.out;rw [List.length_append] at ev_;subst ev_;clear hlo hco))
    go_ret2
    exact ⟨_,rfl,MRow.lower HM.out (below_size HB5.out),below_step HB5.out HY.out⟩
   ·rw [if_neg c3] at h;obtain ⟨⟨t1,t2⟩,h5,hq⟩:=Option.bind_eq_some_iff.1 h;clear h;have h:=hq;clear hq;have H5:=Aside0.mk h5;clear h5;obtain ⟨⟨u1,u2⟩,h6,hq⟩:=Option.bind_eq_some_iff.1 h;clear h;have h:=hq;clear hq;have H6:=Aside0.mk h6;clear h6;obtain ⟨ft,h7,hq⟩:=Option.bind_eq_some_iff.1 h;clear h;have h:=hq;clear hq;have H7:=Aside0.mk h7;clear h7;by_cases c4:t1.size < 100000000000000∧u1.size < 10000000000000∧ft.length < 10000000000000
    ·rw [if_pos c4] at h;have HL2:=Aside0.mk c4;obtain ⟨rfl,rfl⟩:=Prod.mk.inj (Option.some.inj h);have c3b:(rs.length == 0) = false:=beq_eq_false_iff_ne.mpr c3;have c3c:((rs.length:Int) == 0) = false:=beq_eq_false_iff_ne.mpr (by omega);clear h c3 c4;go_enter Tryz.func9,Tryz.ntmps9;go_upto_region 6 with (first|((with_reducible refine gate_dst (N:=1) rfl ?_);refine box_event ?hg (N:=1) ?hd (cs:=#[.string a0,.int .i64 a1,.string a2,.int .i64 a3,.int .i64 a4,.int .i64 a5,.string a6,.string a7,.int .i64 a8,.int .i64 a9,.slice A0 l0.length c0]) (t:=26) ?hr ?_;(case hd=>rfl);(case hg=>rfl);(case hr=>first|(go_simp;done)|(go_simp;rfl));intro gx hg w1 hbox hb1;have HKX:=Aside0.mk hbox;have HB1:=Aside0.mk hb1;clear hg hbox hb1)|((with_reducible refine gate_dst (N:=16) rfl ?_);refine load_event rfl rfl hu26 rfl rfl (cs:=[.string a0,.int .i64 a1,.string a2,.int .i64 a3,.int .i64 a4,.int .i64 a5,.string a6,.string a7,.int .i64 a8,.int .i64 a9,.slice A0 l0.length c0]) sz26 (cells_of_blk (cs:=[.string a0,.int .i64 a1,.string a2,.int .i64 a3,.int .i64 a4,.int .i64 a5,.string a6,.string a7,.int .i64 a8,.int .i64 a9,.slice A0 l0.length c0]) HKX.out) ?_)|(go_at_call 31;refine (creelref_MemberHead.calls k a0 a1 a2 a3 a4 a5 a6 a7 a8 a9 A0 c0 l0 x0 x1 x2 x3 x4 x5 x6 x7 x8 x9 x10 0 _ (Kd.C_below HR0.out HB1.out) HC0.out ⟨tab_on HT0.out HB1.out⟩ H1.out).mono ?_;rintro e w2 ⟨rfl,hb2⟩;have HB2:=Aside0.mk (below_step HB1.out hb2);have HKX2:=Aside0.mk (blk_below HKX.out hb2);clear HKX hb2;have HKX:=HKX2;clear HKX2)|((with_reducible refine gate_store (t:=55) (p:=4) rfl ?_);refine put_event rfl rfl rfl rfl rfl (heap_alloc_new _ _) creelref_MemberBytes.szM rfl rfl ?_;intro w3 hk3 hg3;have HH:=Aside0.mk hk3;have HX:=Aside0.mk (show Below w2.heap.size w2 w3 from below_grown (bwA (Below.refl _ _) _) hg3 (Nat.le_refl _) (by simp));clear hk3 hg3)|((with_reducible refine gate_dst (N:=24) rfl ?_);refine load_event rfl rfl hu26 rfl rfl (cs:=[.string a0,.int .i64 a1,.string a2,.int .i64 a3,.int .i64 a4,.int .i64 a5,.string a6,.string a7,.int .i64 a8,.int .i64 a9,.slice A0 l0.length c0]) sz26 (cells_of_blk (cs:=[.string a0,.int .i64 a1,.string a2,.int .i64 a3,.int .i64 a4,.int .i64 a5,.string a6,.string a7,.int .i64 a8,.int .i64 a9,.slice A0 l0.length c0]) (blk_below HKX.out HX.out)) ?_)|(go_at_call 32;refine (creelref_MemberRecords.calls k a0 a1 a2 a3 a4 a5 a6 a7 a8 a9 A0 c0 l0 _ re _ (Kd.C_below HR0.out (below_step HB2.out HX.out)) HC0.out ⟨tab_on HT0.out (below_step HB2.out HX.out)⟩ H2.out).mono ?_;rintro e w4 ⟨vr,rfl,hrr,hb⟩;obtain ⟨Ar,cr,rfl,hrl,hrc⟩:=Kd.R_reads hrr;have HRC:=Aside0.mk hrc;have HRL:=Aside0.mk hrl;have HX9:=Aside0.mk (below_step HX.out hb);have HH9:=Aside0.mk (blk_below HH.out hb);clear HX HH hrr hrc hrl hb;have HX:=HX9;have HH:=HH9;clear HX9 HH9)|((with_reducible refine gate_dst (N:=29) rfl ?_);refine load_event rfl rfl Tryz.underlying55 rfl rfl (cs:=[.string x0,.string x1,.string x2,.int .i64 x3,.int .i64 x4,.int .i64 x5,.int .i64 x6,.int .i64 x7,.int .u8 x8,.string x9,.string x10]) creelref_MemberBytes.szH (cells_of_blk (cs:=[.string x0,.string x1,.string x2,.int .i64 x3,.int .i64 x4,.int .i64 x5,.int .i64 x6,.int .i64 x7,.int .u8 x8,.string x9,.string x10]) HH.out) ?_)|(go_at_call 33;refine (creelref_HeadText.calls k x0 x1 x2 x3 x4 x5 x6 x7 x8 x9 x10 s1 s2 _ H3.out).mono ?_;rintro e w5 ⟨rfl,hb⟩;have HX9:=Aside0.mk (below_step HX.out hb);have HRC9:=Aside0.mk (Kd.C_below HRC.out hb);clear HX HRC hb HH;have HX:=HX9;have HRC:=HRC9;clear HX9 HRC9))
     have HB5:=Aside0.mk (below_step HB2.out HX.out);have HT5:=Aside0.mk (tab_on HT0.out HB5.out);have HKX5:=Aside0.mk (blk_below HKX.out HX.out);have HM:=Aside0.mk (MRow.of_bytes w5 w5.heap.size 5 s1 (Nat.le_refl _) (by have:=HL.out.2.1;unfold maxLen;omega));have HY:=Aside0.mk (bytes_below (Below.refl w5.heap.size w5) (Nat.le_refl _) 5 s1);have hx10:=blk_cell (blk_below HKX5.out HY.out) 10;have hcv:=creelref_MemberBytes.conv;go_upto_region 11 with (first|(go_at_call 34;refine (creelref_PadFill.calls k A0 c0 l0 fl _ (Kd.C_below HR0.out (below_step HB5.out HY.out)) HC0.out H4.out).mono ?_;rintro e w7 ⟨vf,rfl,hrf,hb⟩;obtain ⟨Af,cf,rfl,hlf,hcf⟩:=Kd.R_reads hrf;have HCF:=Aside0.mk hcf;have HM9:=Aside0.mk (MRow.below HM.out hb);have HY9:=Aside0.mk (below_step HY.out hb);clear hrf hlf hcf hb;clear HM HY;have HM:=HM9;have HY:=HY9;clear HM9 HY9)|((with_reducible refine gate_builtin (b := .append) (xs:=#[.tmp 34,.tmp 37]) rfl ?_);at_builtin;refine wp_append_M rfl (.tmp 34) (.tmp 37) 24 rfl Tryz.underlying24 creelref_MemberBytes.info rfl rfl rfl HM.out HCF.out HY.out (below_size HY.out) (creelref_MemberBytes.le2 HL.out) ?_;intro v8 w8 hm hb hg;have HM9:=Aside0.mk hm;have HY9:=Aside0.mk hb;clear HCF hm hb hg;clear HM HY;have HM:=HM9;have HY:=HY9;clear HM9 HY9;obtain ⟨Ao,co,ev_,hlo,hco⟩:=MRow.reads HM.out;rw [List.length_append] at ev_;subst ev_;clear hlo hco)|(go_at_call 35;refine (creelref_PaxText.calls k Ar cr rs t1 t2 _ (Kd.C_below HRC.out HY.out) HRL.out ⟨tab_on HT5.out HY.out⟩ H5.out).mono ?_;rintro e w9 ⟨rfl,hb⟩;have HM9:=Aside0.mk (MRow.below HM.out hb);have HY9:=Aside0.mk (below_step HY.out hb);clear hb;clear HM HY;have HM:=HM9;have HY:=HY9;clear HM9 HY9)|((with_reducible refine gate_dst (N:=51) rfl ?_);refine creelref_MemberBytes.build_event rfl rfl (by (try simp only [List.map_toArray,List.map_cons,List.map_nil]);exact creelref_MemberBytes.builtH _) ?_)|(go_at_call 33;refine (creelref_HeadText.calls k (⟨#[64,112,97,120]⟩:ByteArray) (⟨#[]⟩:ByteArray) (⟨#[]⟩:ByteArray) 0 0 0 (t1.size:Int) 0 120 (⟨#[]⟩:ByteArray) (⟨#[]⟩:ByteArray) u1 u2 _ H6.out).mono ?_;rintro e w10 ⟨rfl,hb⟩;have HM9:=Aside0.mk (MRow.below HM.out hb);have HY9:=Aside0.mk (below_step HY.out hb);clear hb;clear HM HY;have HM:=HM9;have HY:=HY9;clear HM9 HY9))
     have HMU:=Aside0.mk (MRow.below (MRow.of_bytes w10 w5.heap.size 5 u1 (below_size HY.out) (by have:=HL2.out.2.1;unfold maxLen;omega)) (bytes_below (Below.refl (Lib.bytesWorld w10 5 u1).heap.size (Lib.bytesWorld w10 5 u1)) (Nat.le_refl _) 5 t1));have HMT:=Aside0.mk (MRow.of_bytes (Lib.bytesWorld w10 5 u1) 0 5 t1 (Nat.zero_le _) (by have:=HL2.out.1;unfold maxLen;omega));have HNO:=Aside0.mk (show some w10.heap.size ≠ Value.ownBlock (.slice Ao ((bytesOf s1).length + fl.length) co) from fun e_=>by have:=(HM.out.block _ e_.symm).2.1;omega);have HM9:=Aside0.mk (MRow.below (MRow.below HM.out (bytes_below (Below.refl w10.heap.size w10) (Nat.le_refl _) 5 u1)) (bytes_below (Below.refl (Lib.bytesWorld w10 5 u1).heap.size (Lib.bytesWorld w10 5 u1)) (Nat.le_refl _) 5 t1));have HY9:=Aside0.mk (below_step (below_step HY.out (bytes_below (Below.refl w10.heap.size w10) (Nat.le_refl _) 5 u1)) (bytes_below (Below.refl (Lib.bytesWorld w10 5 u1).heap.size (Lib.bytesWorld w10 5 u1)) (Nat.le_refl _) 5 t1));clear HM HY;have HM:=HM9;have HY:=HY9;clear HM9 HY9;go_wp2_with (first|(go_at_call 34;obtain ⟨Ab,cb,eb,hlb,hcb⟩:=MRow.reads HMT.out;cases eb;refine (creelref_PadFill.calls k _ _ (bytesOf t1) ft _ hcb hlb H7.out).mono ?_;rintro e w13 ⟨vf,rfl,hrf,hb⟩;obtain ⟨Af,cf,rfl,hlf,hcf⟩:=Kd.R_reads hrf;have HCF:=Aside0.mk hcf;have HM9:=Aside0.mk (MRow.below HM.out hb);have HMU9:=Aside0.mk (MRow.below HMU.out hb);have HY9:=Aside0.mk (below_step HY.out hb);clear hrf hlf hcf hlb hcb hb HMT;clear HM HMU HY;have HM:=HM9;have HMU:=HMU9;have HY:=HY9;clear HM9 HMU9 HY9)|((with_reducible refine gate_builtin (b := .append) (xs:=#[.tmp 56,.tmp 59]) rfl ?_);at_builtin;refine wp_append_M rfl (.tmp 56) (.tmp 59) 24 rfl Tryz.underlying24 creelref_MemberBytes.info rfl rfl rfl HMU.out HCF.out HY.out (below_size HY.out) (creelref_MemberBytes.le2 HL2.out) ?_;intro v14 w14 hm hb hg;have HMU9:=Aside0.mk hm;have HM9:=Aside0.mk (MRow.grown HM.out hg (Or.inl HNO.out));have HY9:=Aside0.mk hb;clear HCF hm hb hg;clear HMU HM HY;have HMU:=HMU9;have HM:=HM9;have HY:=HY9;clear HMU9 HM9 HY9)|((with_reducible refine gate_builtin (b := .append) (xs:=#[.tmp 60,.tmp 61]) rfl ?_);at_builtin;refine wp_append_M rfl (.tmp 60) (.tmp 61) 24 rfl Tryz.underlying24 creelref_MemberBytes.info rfl rfl List.length_append.symm HMU.out (creelref_MemberBytes.readsC HM.out) HY.out (below_size HY.out) (creelref_MemberBytes.le3 HL2.out HL.out) ?_;intro v15 w15 hm hb hg;have HMU9:=Aside0.mk hm;have HY9:=Aside0.mk hb;clear HM hm hb hg;clear HMU HY;have HMU:=HMU9;have HY:=HY9;clear HMU9 HY9))
     go_ret2
     exact ⟨_,rfl,MRow.lower HMU.out (below_size HB5.out),below_step HB5.out HY.out⟩
    ·rw [if_neg c4] at h;cases h
  ·rw [if_neg c2] at h;cases h
 ·rw [if_neg c1] at h;obtain ⟨rfl,rfl⟩:=Prod.mk.inj (Option.some.inj h);have c1b:(e1 != 0) = true:=bne_iff_ne.mpr c1;clear c1 h;go_enter Tryz.func9,Tryz.ntmps9;go_wp2_with (first|((with_reducible refine gate_dst (N:=1) rfl ?_);refine box_event ?hg (N:=1) ?hd (cs:=#[.string a0,.int .i64 a1,.string a2,.int .i64 a3,.int .i64 a4,.int .i64 a5,.string a6,.string a7,.int .i64 a8,.int .i64 a9,.slice A0 l0.length c0]) (t:=26) ?hr ?_;(case hd=>rfl);(case hg=>rfl);(case hr=>first|(go_simp;done)|(go_simp;rfl));intro gx hg w1 hbox hb1;have HKX:=Aside0.mk hbox;have HB1:=Aside0.mk hb1;clear hg hbox hb1)|((with_reducible refine gate_dst (N:=16) rfl ?_);refine load_event rfl rfl hu26 rfl rfl (cs:=[.string a0,.int .i64 a1,.string a2,.int .i64 a3,.int .i64 a4,.int .i64 a5,.string a6,.string a7,.int .i64 a8,.int .i64 a9,.slice A0 l0.length c0]) sz26 (cells_of_blk (cs:=[.string a0,.int .i64 a1,.string a2,.int .i64 a3,.int .i64 a4,.int .i64 a5,.string a6,.string a7,.int .i64 a8,.int .i64 a9,.slice A0 l0.length c0]) HKX.out) ?_)|(go_at_call 31;refine (creelref_MemberHead.calls k a0 a1 a2 a3 a4 a5 a6 a7 a8 a9 A0 c0 l0 x0 x1 x2 x3 x4 x5 x6 x7 x8 x9 x10 e1 _ (Kd.C_below HR0.out HB1.out) HC0.out ⟨tab_on HT0.out HB1.out⟩ H1.out).mono ?_;rintro e w2 ⟨rfl,hb2⟩;have HB2:=Aside0.mk (below_step HB1.out hb2);have HKX2:=Aside0.mk (blk_below HKX.out hb2);clear HKX hb2;have HKX:=HKX2;clear HKX2)|((with_reducible refine gate_store (t:=55) (p:=4) rfl ?_);refine put_event rfl rfl rfl rfl rfl (heap_alloc_new _ _) creelref_MemberBytes.szM rfl rfl ?_;intro w3 hk3 hg3;have HH:=Aside0.mk hk3;have HX:=Aside0.mk (show Below w2.heap.size w2 w3 from below_grown (bwA (Below.refl _ _) _) hg3 (Nat.le_refl _) (by simp));clear hk3 hg3))
  go_ret2
  exact ⟨_,rfl,MRow.nil _ _ _,below_step HB2.out HX.out⟩
end Go.Proofs.YtenbelecmmpdgaaGreatDoor.All
end
section
namespace Go.Proofs.YtenbelecmmpdgaaGreatDoor.All
open Go.RowKit Go.Proofs.YtenbelecmmpdgaaGreatDoorW.PrintWords Go.Proofs.YtenbelecmmpdgaaGreatDoorW.PrintLast Go.Proofs.YtenbelecmmpdgaaGreatDoorW.PrintMore
open Go.Proofs.YtenbelecmmpdgaaGreatDoorW.Mine
attribute [local go_sem] gtr_string leq_string geq_string
attribute [local go_sem] max2_int min2_int max_two min_two max_three min_three max_four min_four
set_option linter.unusedVariables false
set_option linter.unusedSimpArgs false
def creelref_EntryAt.l0:Nat→List (S26)→ByteArray→Int→Option (Int)
 | 0,_,_,_=>none
 | k + 1,x0,x1,x5=>if x5 < (x0.length:Int) then (if 0 ≤ x5 then (if ((rd_T26 x0 x5).f0).toList = x1.toList then (some x5) else (creelref_EntryAt.l0 k x0 x1 (wrap64 (x5 + 1)))) else (none)) else (some x5)
def creelref_EntryAt.f (k:Nat) (l0:List (S26)) (a1:ByteArray):Option (Int):=creelref_EntryAt.l0 k l0 a1 0
set_option maxHeartbeats 8000000 in
set_option maxRecDepth 100000 in
theorem creelref_EntryAt.calls (k:Nat) (A0:Option Addr) (c0:Nat) (l0:List (S26)) (a1:ByteArray) (r:Int) (w:World) (hr0:Kd.C k26 w A0 l0.length l0) (hc0:l0.length ≤ c0) (h:creelref_EntryAt.f k l0 a1 = some r) :
 Calls Tryz.prog 53 #[.slice A0 l0.length c0,.string a1] w fun e w'=>e = .returned (.int .i64 r)∧Drawn0 w w':=by
 have HR0:=Aside0.mk hr0;have HC0:=Aside0.mk hc0;clear hr0 hc0;have H:(creelref_EntryAt.l0 k l0 a1 0) = some r:=h;clear h;have H':=Aside0.mk H;clear H;go_enter Tryz.func53,Tryz.ntmps53;go_wp2;go_loopg [5] k (fun kq v5 w'=>∃ (x5_1:Int),v5 = .int .i64 x5_1∧Aside0 (creelref_EntryAt.l0 kq l0 a1 x5_1 = some r)∧Aside0 (kq ≤ k)∧Drawn0 w w')
 case atStart=>exact ⟨(0),(by first|rfl|(simp;done)|(simp [*];done)),H',⟨Nat.le_refl _⟩,by repeat (first|exact Drawn0.refl _|apply Drawn0.step)⟩
 case round =>
  clear H';obtain ⟨x5_1,rfl,HA,HK1,⟨m1,rfl⟩⟩:=hrel;cases gk with
  | zero=>exact absurd HA.out (by simp [creelref_EntryAt.l0])
  | succ k1 =>
   have H:=HA.out;clear HA;simp only [creelref_EntryAt.l0] at H;by_cases c3:x5_1 < (l0.length:Int)
   ·rw [if_pos c3] at H;have c3b0:decide (x5_1 < (l0.length:Int)) = true:=decide_eq_true c3;clear c3;by_cases c4:0 ≤ x5_1
    ·rw [if_pos c4] at H;have c4b0:decide (0 ≤ x5_1) = true:=decide_eq_true c4;clear c4;by_cases c5:((rd_T26 l0 x5_1).f0).toList = a1.toList
     ·rw [if_pos c5] at H;have c5b0:(((rd_T26 l0 x5_1).f0).toList == a1.toList) = true:=beq_iff_eq.mpr c5;have c5b1:(((rd_T26 l0 x5_1).f0).toList != a1.toList) = false:=bne_eq_false_iff_eq.mpr c5;clear c5;obtain rfl:=Option.some.inj H;have p101:0 ≤ (x5_1:Int):=of_decide_eq_true (by first|(with_reducible assumption)|assumption);have q101:x5_1 < (l0.length:Int):=of_decide_eq_true (by first|(with_reducible assumption)|assumption);obtain ⟨ad101,A101_10,c101_10,e101,hx101_0,hx101_1,hx101_2,hx101_3,hx101_4,hx101_5,hx101_6,hx101_7,hx101_8,hx101_9,hx101_10,hl101_10,hi101_10⟩:=at_T26 HR0.out x5_1 p101 q101;cases e101;have HR101_10:=Aside0.mk hi101_10;have HC101_10:=Aside0.mk hl101_10;clear hi101_10 hl101_10;replace p101:=eq_true p101;replace q101:=eq_true q101;go_wp2;go_ret
      exact ⟨by first|rfl|(simp;done)|(simp [*];done),by repeat (first|exact Drawn0.refl _|apply Drawn0.step)⟩
     ·rw [if_neg c5] at H;have c5b0:(((rd_T26 l0 x5_1).f0).toList == a1.toList) = false:=beq_eq_false_iff_ne.mpr c5;have c5b1:(((rd_T26 l0 x5_1).f0).toList != a1.toList) = true:=bne_iff_ne.mpr c5;have H':=Aside0.mk H;clear H;have p101:0 ≤ (x5_1:Int):=of_decide_eq_true (by first|(with_reducible assumption)|assumption);have q101:x5_1 < (l0.length:Int):=of_decide_eq_true (by first|(with_reducible assumption)|assumption);obtain ⟨ad101,A101_10,c101_10,e101,hx101_0,hx101_1,hx101_2,hx101_3,hx101_4,hx101_5,hx101_6,hx101_7,hx101_8,hx101_9,hx101_10,hl101_10,hi101_10⟩:=at_T26 HR0.out x5_1 p101 q101;cases e101;have HR101_10:=Aside0.mk hi101_10;have HC101_10:=Aside0.mk hl101_10;clear hi101_10 hl101_10;replace p101:=eq_true p101;replace q101:=eq_true q101;go_wp2;go_roundg k1
      case measure=>have:=HK1.out;omega
      case rel=>exact ⟨(wrap64 (x5_1 + 1)),(by first|rfl|(simp;done)|(simp [*];done)),H',⟨by have:=HK1.out;omega⟩,by repeat (first|exact Drawn0.refl _|apply Drawn0.step)⟩
    ·rw [if_neg c4] at H;exact absurd H (by simp)
   ·rw [if_neg c3] at H;have c3b0:decide (x5_1 < (l0.length:Int)) = false:=decide_eq_false c3;clear c3;obtain rfl:=Option.some.inj H;go_wp2;go_ret
    exact ⟨by first|rfl|(simp;done)|(simp [*];done),by repeat (first|exact Drawn0.refl _|apply Drawn0.step)⟩
def creelref_PathParts.f (k:Nat) (a0:ByteArray):Option (List ByteArray):=if a0.toList = ([]:List UInt8) then (some ([]:List ByteArray)) else ((creelref_parts.f k a0 47).bind fun t101=>(some t101))
set_option maxHeartbeats 8000000 in
set_option maxRecDepth 100000 in
theorem creelref_PathParts.calls (k:Nat) (a0:ByteArray) (r:List ByteArray) (w:World) (h:creelref_PathParts.f k a0 = some r) :
 Calls Tryz.prog 122 #[.string a0] w fun e w'=>∃ v0_:Value,e = .returned (v0_)∧Kd.R Kd.string 9 w' w.heap.size (fun _=>True) v0_ r∧Below w.heap.size w w':=by
 have HB:=Aside0.mk (Below.refl w.heap.size w);have H:(if a0.toList = ([]:List UInt8) then (some ([]:List ByteArray)) else ((creelref_parts.f k a0 47).bind fun t101=>(some t101))) = some r:=h;clear h;by_cases c2:a0.toList = ([]:List UInt8)
 ·rw [if_pos c2] at H;have c2b0:(a0.toList == ([]:List UInt8)) = true:=beq_iff_eq.mpr c2;have c2b1:(a0.toList != ([]:List UInt8)) = false:=bne_eq_false_iff_eq.mpr c2;clear c2;obtain rfl:=Option.some.inj H;go_enter Tryz.func122,Tryz.ntmps122;go_wp2;go_ret
  exact ⟨_,by first|rfl|(simp [errW_none,errW_some] <;> rfl)|(simp [*,errW_none,errW_some] <;> rfl),by first|exact Kd.R_nil _ _ _ _ _|exact Kd.N_nil _ _ _ _ _|exact Kd.V_nil _ _ _ _ _|exact Kd.Q_nil _ _ _ _ _|exact Kd.S_nil _ _ _ _ _,by repeat (first|(with_reducible first|exact HB.out|apply bwA|apply pwbN|apply bw1)|exact HB.out)⟩
 ·rw [if_neg c2] at H;have c2b0:(a0.toList == ([]:List UInt8)) = false:=beq_eq_false_iff_ne.mpr c2;have c2b1:(a0.toList != ([]:List UInt8)) = true:=bne_iff_ne.mpr c2;replace H:=Option.bind_eq_some_iff.mp H;obtain ⟨t101,A30,H⟩:=H;replace H:(some t101) = some r:=H;have A3:=Aside0.mk A30;clear A30;obtain rfl:=Option.some.inj H;go_enter Tryz.func122,Tryz.ntmps122;go_wp2_with (first|((with_reducible refine gate_callee (f:=123) rfl ?_);refine goesL_ (some 6) rfl rfl Tryz.func123 (by kernel_rfl) rfl #[.string a0,.int .u8 47] rfl (by (try simp only [List.map_toArray,List.map_cons,List.map_nil]);first|done|rfl|(simp only [List.length_drop,List.length_take];rfl)) ?_;(with_reducible refine (creelref_parts.calls k a0 47 t101 _ A3.out).mono ?_);rintro e w4 ⟨v102,rfl,ho0,hb⟩;refine ⟨_,rfl,?_⟩;have n0_:=Aside0.mk (Kd.R_lower ho0 (below_size (by repeat (first|(with_reducible first|exact HB.out|apply bwA|apply pwbN|apply bw1)|exact HB.out))));have n1_:=Aside0.mk (below_step (by repeat (first|(with_reducible first|exact HB.out|apply bwA|apply pwbN|apply bw1)|exact HB.out)) hb);clear HB;have HO103:=n0_;have HB:=n1_;clear n0_ n1_;(try clear hb);(try clear hb2);(try clear hk);(try clear hi);(try clear ho0)))
  go_ret
  exact ⟨_,by first|rfl|(simp [errW_none,errW_some] <;> rfl)|(simp [*,errW_none,errW_some] <;> rfl),by (with_reducible repeat (first|apply Kd.R_alloc|apply Kd.R_drewN|apply Kd.R_drew));exact HO103.out,by repeat (first|(with_reducible first|exact HB.out|apply bwA|apply pwbN|apply bw1)|exact HB.out)⟩
end Go.Proofs.YtenbelecmmpdgaaGreatDoor.All
end
section
namespace Go.Proofs.YtenbelecmmpdgaaGreatDoor.All
open Go.RowKit Go.Proofs.YtenbelecmmpdgaaGreatDoorW.PrintWords Go.Proofs.YtenbelecmmpdgaaGreatDoorW.PrintLast Go.Proofs.YtenbelecmmpdgaaGreatDoorW.PrintMore
open Go.Proofs.YtenbelecmmpdgaaGreatDoorW.Mine
attribute [local go_sem] gtr_string leq_string geq_string
attribute [local go_sem] max2_int min2_int max_two min_two max_three min_three max_four min_four
set_option linter.unusedVariables false
set_option linter.unusedSimpArgs false
mutual
def creelref_PathOrder.l0:Nat→List ByteArray→List ByteArray→Int→Option (Int)
 | 0,_,_,_=>none
 | k + 1,x5,x6,x7=>if x7 < (x5.length:Int) then (creelref_PathOrder.j1 k x5 x6 x7 (decide (x7 < (x6.length:Int)))) else (creelref_PathOrder.j1 k x5 x6 x7 false)
def creelref_PathOrder.j1:Nat→List ByteArray→List ByteArray→Int→Bool→Option (Int)
 | 0,_,_,_,_=>none
 | k + 1,x5,x6,x7,x21=>if x21 = true then (if 0 ≤ x7 then (if x7 < (x5.length:Int) then (if x7 < (x6.length:Int) then (if (Op.bytesLess ((rdOf ByteArray.empty x5 x7).toList) ((rdOf ByteArray.empty x6 x7).toList)) = true then (some (-1)) else (if (Op.bytesLess ((rdOf ByteArray.empty x6 x7).toList) ((rdOf ByteArray.empty x5 x7).toList)) = true then (some 1) else (creelref_PathOrder.l0 k x5 x6 (wrap64 (x7 + 1))))) else (none)) else (none)) else (none)) else (if (x5.length:Int) < (x6.length:Int) then (some (-1)) else (if (x5.length:Int) > (x6.length:Int) then (some 1) else (some 0)))
end
def creelref_PathOrder.f (k:Nat) (a0:ByteArray) (a1:ByteArray):Option (Int):=(creelref_PathParts.f k a0).bind fun t101=>((creelref_PathParts.f k a1).bind fun t104=>(creelref_PathOrder.l0 k t101 t104 0))
set_option maxHeartbeats 8000000 in
set_option maxRecDepth 100000 in
theorem creelref_PathOrder.calls (k:Nat) (a0:ByteArray) (a1:ByteArray) (r:Int) (w:World) (h:creelref_PathOrder.f k a0 a1 = some r) :
 Calls Tryz.prog 87 #[.string a0,.string a1] w fun e w'=>e = .returned (.int .i64 r)∧Below w.heap.size w w':=by
 have HB:=Aside0.mk (Below.refl w.heap.size w);have H:((creelref_PathParts.f k a0).bind fun t101=>((creelref_PathParts.f k a1).bind fun t104=>(creelref_PathOrder.l0 k t101 t104 0))) = some r:=h;clear h;replace H:=Option.bind_eq_some_iff.mp H;obtain ⟨t101,A30,H⟩:=H;replace H:((creelref_PathParts.f k a1).bind fun t104=>(creelref_PathOrder.l0 k t101 t104 0)) = some r:=H;have A3:=Aside0.mk A30;clear A30;replace H:=Option.bind_eq_some_iff.mp H;obtain ⟨t104,A40,H⟩:=H;replace H:(creelref_PathOrder.l0 k t101 t104 0) = some r:=H;have A4:=Aside0.mk A40;clear A40;have H':=Aside0.mk H;clear H;go_enter Tryz.func87,Tryz.ntmps87;go_wp2_with (first|(go_at_call 122;(with_reducible refine (creelref_PathParts.calls k a0 t101 _ A3.out).mono ?_);rintro e w5 ⟨v102,rfl,ho0,hb⟩;have n0_:=Aside0.mk (Kd.R_lower ho0 (below_size (by repeat (first|(with_reducible first|exact HB.out|apply bwA|apply pwbN|apply bw1)|exact HB.out))));have n1_:=Aside0.mk (below_step (by repeat (first|(with_reducible first|exact HB.out|apply bwA|apply pwbN|apply bw1)|exact HB.out)) hb);clear HB;have HO103:=n0_;have HB:=n1_;clear n0_ n1_;(try clear hb);(try clear hb2);(try clear hk);(try clear hi);(try clear ho0))|(go_at_call 122;(with_reducible refine (creelref_PathParts.calls k a1 t104 _ A4.out).mono ?_);rintro e w6 ⟨v105,rfl,ho0,hb⟩;have n0_:=Aside0.mk (Kd.R_elder' (by (with_reducible repeat (first|apply Kd.R_alloc|apply Kd.R_drewN|apply Kd.R_drew));exact HO103.out) (Kd.R_base ho0) hb);have n1_:=Aside0.mk (Kd.R_lower (Kd.R_new' ho0 (Kd.R_lt (by (with_reducible repeat (first|apply Kd.R_alloc|apply Kd.R_drewN|apply Kd.R_drew));exact HO103.out))) (below_size (by repeat (first|(with_reducible first|exact HB.out|apply bwA|apply pwbN|apply bw1)|exact HB.out))));have n2_:=Aside0.mk (below_step (by repeat (first|(with_reducible first|exact HB.out|apply bwA|apply pwbN|apply bw1)|exact HB.out)) hb);clear HO103;clear HB;have HO103:=n0_;have HO106:=n1_;have HB:=n2_;clear n0_ n1_ n2_;(try clear hb);(try clear hb2);(try clear hk);(try clear hi);(try clear ho0)))
 repeat (go_quiet (first|(go_at_call 122;(with_reducible refine (creelref_PathParts.calls k a0 t101 _ A3.out).mono ?_);rintro e w5 ⟨v102,rfl,ho0,hb⟩;have n0_:=Aside0.mk (Kd.R_lower ho0 (below_size (by repeat (first|(with_reducible first|exact HB.out|apply bwA|apply pwbN|apply bw1)|exact HB.out))));have n1_:=Aside0.mk (below_step (by repeat (first|(with_reducible first|exact HB.out|apply bwA|apply pwbN|apply bw1)|exact HB.out)) hb);clear HB;have HO103:=n0_;have HB:=n1_;clear n0_ n1_;(try clear hb);(try clear hb2);(try clear hk);(try clear hi);(try clear ho0))|(go_at_call 122;(with_reducible refine (creelref_PathParts.calls k a1 t104 _ A4.out).mono ?_);rintro e w6 ⟨v105,rfl,ho0,hb⟩;have n0_:=Aside0.mk (Kd.R_elder' (by (with_reducible repeat (first|apply Kd.R_alloc|apply Kd.R_drewN|apply Kd.R_drew));exact HO103.out) (Kd.R_base ho0) hb);have n1_:=Aside0.mk (Kd.R_lower (Kd.R_new' ho0 (Kd.R_lt (by (with_reducible repeat (first|apply Kd.R_alloc|apply Kd.R_drewN|apply Kd.R_drew));exact HO103.out))) (below_size (by repeat (first|(with_reducible first|exact HB.out|apply bwA|apply pwbN|apply bw1)|exact HB.out))));have n2_:=Aside0.mk (below_step (by repeat (first|(with_reducible first|exact HB.out|apply bwA|apply pwbN|apply bw1)|exact HB.out)) hb);clear HO103;clear HB;have HO103:=n0_;have HO106:=n1_;have HB:=n2_;clear n0_ n1_ n2_;(try clear hb);(try clear hb2);(try clear hk);(try clear hi);(try clear ho0)));try go_wp2_with (first|(go_at_call 122;(with_reducible refine (creelref_PathParts.calls k a0 t101 _ A3.out).mono ?_);rintro e w5 ⟨v102,rfl,ho0,hb⟩;have n0_:=Aside0.mk (Kd.R_lower ho0 (below_size (by repeat (first|(with_reducible first|exact HB.out|apply bwA|apply pwbN|apply bw1)|exact HB.out))));have n1_:=Aside0.mk (below_step (by repeat (first|(with_reducible first|exact HB.out|apply bwA|apply pwbN|apply bw1)|exact HB.out)) hb);clear HB;have HO103:=n0_;have HB:=n1_;clear n0_ n1_;(try clear hb);(try clear hb2);(try clear hk);(try clear hi);(try clear ho0))|(go_at_call 122;(with_reducible refine (creelref_PathParts.calls k a1 t104 _ A4.out).mono ?_);rintro e w6 ⟨v105,rfl,ho0,hb⟩;have n0_:=Aside0.mk (Kd.R_elder' (by (with_reducible repeat (first|apply Kd.R_alloc|apply Kd.R_drewN|apply Kd.R_drew));exact HO103.out) (Kd.R_base ho0) hb);have n1_:=Aside0.mk (Kd.R_lower (Kd.R_new' ho0 (Kd.R_lt (by (with_reducible repeat (first|apply Kd.R_alloc|apply Kd.R_drewN|apply Kd.R_drew));exact HO103.out))) (below_size (by repeat (first|(with_reducible first|exact HB.out|apply bwA|apply pwbN|apply bw1)|exact HB.out))));have n2_:=Aside0.mk (below_step (by repeat (first|(with_reducible first|exact HB.out|apply bwA|apply pwbN|apply bw1)|exact HB.out)) hb);clear HO103;clear HB;have HO103:=n0_;have HO106:=n1_;have HB:=n2_;clear n0_ n1_ n2_;(try clear hb);(try clear hb2);(try clear hk);(try clear hi);(try clear ho0))))
 go_loopg [7] k (fun kq v7 w'=>∃ (x7_1:Int),v7 = .int .i64 x7_1∧Aside0 (creelref_PathOrder.l0 kq t101 t104 x7_1 = some r)∧Aside0 (kq ≤ k)∧Aside0 (Kd.R Kd.string 9 w' w.heap.size (fun k_=>some k_ ≠ (v105:Value).ownBlock) v102 t101)∧Aside0 (Kd.R Kd.string 9 w' w.heap.size (fun k_=>some k_ ≠ (v102:Value).ownBlock) v105 t104)∧Aside0 (Below w.heap.size w w'))
 case atStart=>exact ⟨(0),(by first|rfl|(simp;done)|(simp [*];done)),H',⟨Nat.le_refl _⟩,⟨by (with_reducible repeat (first|apply Kd.R_alloc|apply Kd.R_drewN|apply Kd.R_drew));exact Kd.R_mono HO103.out (fun _ hk=>hk.2)⟩,⟨by (with_reducible repeat (first|apply Kd.R_alloc|apply Kd.R_drewN|apply Kd.R_drew));exact Kd.R_mono HO106.out (fun _ hk=>hk.2)⟩,⟨by repeat (first|(with_reducible first|exact HB.out|apply bwA|apply pwbN|apply bw1)|exact HB.out)⟩⟩
 case round =>
  clear H';obtain ⟨x7_1,rfl,HA,HK1,HO_5,HO_6,HB⟩:=hrel;cases gk with
  | zero=>exact absurd HA.out (by simp [creelref_PathOrder.l0])
  | succ k1 =>
   have H:=HA.out;clear HA;simp only [creelref_PathOrder.l0] at H;have HC7:=Aside0.mk H;clear H;go_upto_region 4 with (fail)
   repeat (go_quiet (fail);go_upto_region 4 with (fail))
   go_cut [21] (fun v21 wc=>∃ (kq:Nat) (x21_6:Bool),v21 = .bool x21_6∧Aside0 (creelref_PathOrder.j1 kq t101 t104 x7_1 x21_6 = some r)∧Aside0 (kq ≤ k1)∧Aside0 (Kd.R Kd.string 9 wc w.heap.size (fun k_=>some k_ ≠ (v105:Value).ownBlock) v102 t101)∧Aside0 (Kd.R Kd.string 9 wc w.heap.size (fun k_=>some k_ ≠ (v102:Value).ownBlock) v105 t104)∧Aside0 (Below w.heap.size w wc))
   case first =>
    have H:=HC7.out;clear HC7;by_cases c8:x7_1 < (t101.length:Int)
    ·rw [if_pos c8] at H;have c8b0:decide (x7_1 < (t101.length:Int)) = true:=decide_eq_true c8;clear c8;(first|rw [c8b0]|(simp only [i64_w,i32_w];rw [c8b0])|skip);have H':=Aside0.mk H;clear H;obtain ⟨Ao9,co9,eo9⟩:=Kd.R_slice HO_5.out;subst eo9;obtain ⟨Ao10,co10,eo10⟩:=Kd.R_slice HO_6.out;subst eo10;go_wp2;repeat (go_quiet (fail);try go_wp2)
     go_meet
     case rel=>exact ⟨_,(decide (x7_1 < (t104.length:Int))),(by first|rfl|(simp;done)|(simp [*];done)),H',⟨by have:=HK1.out;first|omega|exact Nat.le_refl _⟩,⟨by (with_reducible repeat (first|apply Kd.R_alloc|apply Kd.R_drewN|apply Kd.R_drew));exact HO_5.out⟩,⟨by (with_reducible repeat (first|apply Kd.R_alloc|apply Kd.R_drewN|apply Kd.R_drew));exact HO_6.out⟩,⟨by repeat (first|(with_reducible first|exact HB.out|apply bwA|apply pwbN|apply bw1)|exact HB.out)⟩⟩
    ·rw [if_neg c8] at H;have c8b0:decide (x7_1 < (t101.length:Int)) = false:=decide_eq_false c8;clear c8;(first|rw [c8b0]|(simp only [i64_w,i32_w];rw [c8b0])|skip);have H':=Aside0.mk H;clear H;obtain ⟨Ao11,co11,eo11⟩:=Kd.R_slice HO_5.out;subst eo11;go_wp2;repeat (go_quiet (fail);try go_wp2)
     go_meet
     case rel=>exact ⟨_,(false),(by first|rfl|(simp;done)|(simp [*];done)),H',⟨by have:=HK1.out;first|omega|exact Nat.le_refl _⟩,⟨by (with_reducible repeat (first|apply Kd.R_alloc|apply Kd.R_drewN|apply Kd.R_drew));exact HO_5.out⟩,⟨by (with_reducible repeat (first|apply Kd.R_alloc|apply Kd.R_drewN|apply Kd.R_drew));exact HO_6.out⟩,⟨by repeat (first|(with_reducible first|exact HB.out|apply bwA|apply pwbN|apply bw1)|exact HB.out)⟩⟩
   case rest =>
    clear HC7;obtain ⟨kq,x21_6,rfl,HA,HJ6,HO_5,HO_6,HB⟩:=hcut;cases kq with
    | zero=>exact absurd HA.out (by simp [creelref_PathOrder.j1])
    | succ kj6 =>
     have H:=HA.out;clear HA;simp only [creelref_PathOrder.j1] at H;by_cases c12:x21_6 = true
     ·subst c12;have H1:(if 0 ≤ x7_1 then (if x7_1 < (t101.length:Int) then (if x7_1 < (t104.length:Int) then (if (Op.bytesLess ((rdOf ByteArray.empty t101 x7_1).toList) ((rdOf ByteArray.empty t104 x7_1).toList)) = true then (some (-1)) else (if (Op.bytesLess ((rdOf ByteArray.empty t104 x7_1).toList) ((rdOf ByteArray.empty t101 x7_1).toList)) = true then (some 1) else (creelref_PathOrder.l0 kj6 t101 t104 (wrap64 (x7_1 + 1))))) else (none)) else (none)) else (none)) = some r:=by rw [if_pos rfl] at H;exact H
      clear H;have H:=H1;clear H1;by_cases c13:0 ≤ x7_1
      ·rw [if_pos c13] at H;have c13b0:decide (0 ≤ x7_1) = true:=decide_eq_true c13;clear c13;by_cases c14:x7_1 < (t101.length:Int)
       ·rw [if_pos c14] at H;have c14b0:decide (x7_1 < (t101.length:Int)) = true:=decide_eq_true c14;clear c14;by_cases c15:x7_1 < (t104.length:Int)
        ·rw [if_pos c15] at H;have c15b0:decide (x7_1 < (t104.length:Int)) = true:=decide_eq_true c15;clear c15;by_cases c16:(Op.bytesLess ((rdOf ByteArray.empty t101 x7_1).toList) ((rdOf ByteArray.empty t104 x7_1).toList)) = true
         ·rw [if_pos c16] at H;have c16b0:(Op.bytesLess ((rdOf ByteArray.empty t101 x7_1).toList) ((rdOf ByteArray.empty t104 x7_1).toList)) = true:=c16;clear c16;obtain rfl:=Option.some.inj H;obtain ⟨Ao17,co17,eo17⟩:=Kd.R_slice HO_5.out;subst eo17;have p107:0 ≤ (x7_1:Int):=of_decide_eq_true (by first|(with_reducible assumption)|assumption);have q107:x7_1 < (t101.length:Int):=of_decide_eq_true (by first|(with_reducible assumption)|assumption);obtain ⟨ad107,e107,hx107_0⟩:=Kd.at_string (Kd.R_reads' HO_5.out).2.2 x7_1 p107 q107;cases e107;replace p107:=eq_true p107;replace q107:=eq_true q107;obtain ⟨Ao18,co18,eo18⟩:=Kd.R_slice HO_6.out;subst eo18;have p108:0 ≤ (x7_1:Int):=of_decide_eq_true (by first|(with_reducible assumption)|assumption);have q108:x7_1 < (t104.length:Int):=of_decide_eq_true (by first|(with_reducible assumption)|assumption);obtain ⟨ad108,e108,hx108_0⟩:=Kd.at_string (Kd.R_reads' HO_6.out).2.2 x7_1 p108 q108;cases e108;replace p108:=eq_true p108;replace q108:=eq_true q108;go_wp2;repeat (go_quiet (fail);try go_wp2)
          go_ret
          exact ⟨by first|rfl|(simp [errW_none,errW_some] <;> rfl)|(simp [*,errW_none,errW_some] <;> rfl),by repeat (first|(with_reducible first|exact HB.out|apply bwA|apply pwbN|apply bw1)|exact HB.out)⟩
         ·rw [if_neg c16] at H;have c16b0:(Op.bytesLess ((rdOf ByteArray.empty t101 x7_1).toList) ((rdOf ByteArray.empty t104 x7_1).toList)) = false:=by simpa using c16
          clear c16;by_cases c19:(Op.bytesLess ((rdOf ByteArray.empty t104 x7_1).toList) ((rdOf ByteArray.empty t101 x7_1).toList)) = true
          ·rw [if_pos c19] at H;have c19b0:(Op.bytesLess ((rdOf ByteArray.empty t104 x7_1).toList) ((rdOf ByteArray.empty t101 x7_1).toList)) = true:=c19;clear c19;obtain rfl:=Option.some.inj H;obtain ⟨Ao20,co20,eo20⟩:=Kd.R_slice HO_5.out;subst eo20;have p107:0 ≤ (x7_1:Int):=of_decide_eq_true (by first|(with_reducible assumption)|assumption);have q107:x7_1 < (t101.length:Int):=of_decide_eq_true (by first|(with_reducible assumption)|assumption);obtain ⟨ad107,e107,hx107_0⟩:=Kd.at_string (Kd.R_reads' HO_5.out).2.2 x7_1 p107 q107;cases e107;replace p107:=eq_true p107;replace q107:=eq_true q107;obtain ⟨Ao21,co21,eo21⟩:=Kd.R_slice HO_6.out;subst eo21;have p108:0 ≤ (x7_1:Int):=of_decide_eq_true (by first|(with_reducible assumption)|assumption);have q108:x7_1 < (t104.length:Int):=of_decide_eq_true (by first|(with_reducible assumption)|assumption);obtain ⟨ad108,e108,hx108_0⟩:=Kd.at_string (Kd.R_reads' HO_6.out).2.2 x7_1 p108 q108;cases e108;replace p108:=eq_true p108;replace q108:=eq_true q108;have p109:0 ≤ (x7_1:Int):=of_decide_eq_true (by first|(with_reducible assumption)|assumption);have q109:x7_1 < (t101.length:Int):=of_decide_eq_true (by first|(with_reducible assumption)|assumption);obtain ⟨ad109,e109,hx109_0⟩:=Kd.at_string (Kd.R_reads' HO_5.out).2.2 x7_1 p109 q109;obtain rfl:ad107 = ad109:=(by injection e109)
           replace p109:=eq_true p109;replace q109:=eq_true q109;have p110:0 ≤ (x7_1:Int):=of_decide_eq_true (by first|(with_reducible assumption)|assumption);have q110:x7_1 < (t104.length:Int):=of_decide_eq_true (by first|(with_reducible assumption)|assumption);obtain ⟨ad110,e110,hx110_0⟩:=Kd.at_string (Kd.R_reads' HO_6.out).2.2 x7_1 p110 q110;obtain rfl:ad108 = ad110:=(by injection e110)
           replace p110:=eq_true p110;replace q110:=eq_true q110;go_wp2;repeat (go_quiet (fail);try go_wp2)
           go_ret
           exact ⟨by first|rfl|(simp [errW_none,errW_some] <;> rfl)|(simp [*,errW_none,errW_some] <;> rfl),by repeat (first|(with_reducible first|exact HB.out|apply bwA|apply pwbN|apply bw1)|exact HB.out)⟩
          ·rw [if_neg c19] at H;have c19b0:(Op.bytesLess ((rdOf ByteArray.empty t104 x7_1).toList) ((rdOf ByteArray.empty t101 x7_1).toList)) = false:=by simpa using c19
           clear c19;have H':=Aside0.mk H;clear H;obtain ⟨Ao22,co22,eo22⟩:=Kd.R_slice HO_5.out;subst eo22;have p107:0 ≤ (x7_1:Int):=of_decide_eq_true (by first|(with_reducible assumption)|assumption);have q107:x7_1 < (t101.length:Int):=of_decide_eq_true (by first|(with_reducible assumption)|assumption);obtain ⟨ad107,e107,hx107_0⟩:=Kd.at_string (Kd.R_reads' HO_5.out).2.2 x7_1 p107 q107;cases e107;replace p107:=eq_true p107;replace q107:=eq_true q107;obtain ⟨Ao23,co23,eo23⟩:=Kd.R_slice HO_6.out;subst eo23;have p108:0 ≤ (x7_1:Int):=of_decide_eq_true (by first|(with_reducible assumption)|assumption);have q108:x7_1 < (t104.length:Int):=of_decide_eq_true (by first|(with_reducible assumption)|assumption);obtain ⟨ad108,e108,hx108_0⟩:=Kd.at_string (Kd.R_reads' HO_6.out).2.2 x7_1 p108 q108;cases e108;replace p108:=eq_true p108;replace q108:=eq_true q108;have p109:0 ≤ (x7_1:Int):=of_decide_eq_true (by first|(with_reducible assumption)|assumption);have q109:x7_1 < (t101.length:Int):=of_decide_eq_true (by first|(with_reducible assumption)|assumption);obtain ⟨ad109,e109,hx109_0⟩:=Kd.at_string (Kd.R_reads' HO_5.out).2.2 x7_1 p109 q109;obtain rfl:ad107 = ad109:=(by injection e109)
           replace p109:=eq_true p109;replace q109:=eq_true q109;have p110:0 ≤ (x7_1:Int):=of_decide_eq_true (by first|(with_reducible assumption)|assumption);have q110:x7_1 < (t104.length:Int):=of_decide_eq_true (by first|(with_reducible assumption)|assumption);obtain ⟨ad110,e110,hx110_0⟩:=Kd.at_string (Kd.R_reads' HO_6.out).2.2 x7_1 p110 q110;obtain rfl:ad108 = ad110:=(by injection e110)
           replace p110:=eq_true p110;replace q110:=eq_true q110;go_wp2;repeat (go_quiet (fail);try go_wp2)
           go_roundg kj6
           case measure=>have:=HK1.out;have:=HJ6.out;omega
           case rel=>exact ⟨(wrap64 (x7_1 + 1)),(by first|rfl|(simp;done)|(simp [*];done)),H',⟨by have:=HK1.out;have:=HJ6.out;omega⟩,⟨by (with_reducible repeat (first|apply Kd.R_alloc|apply Kd.R_drewN|apply Kd.R_drew));exact HO_5.out⟩,⟨by (with_reducible repeat (first|apply Kd.R_alloc|apply Kd.R_drewN|apply Kd.R_drew));exact HO_6.out⟩,⟨by repeat (first|(with_reducible first|exact HB.out|apply bwA|apply pwbN|apply bw1)|exact HB.out)⟩⟩
        ·rw [if_neg c15] at H;exact absurd H (by simp)
       ·rw [if_neg c14] at H;exact absurd H (by simp)
      ·rw [if_neg c13] at H;exact absurd H (by simp)
     ·replace c12:=Bool.eq_false_iff.mpr c12;subst c12;have H1:(if (t101.length:Int) < (t104.length:Int) then (some (-1)) else (if (t101.length:Int) > (t104.length:Int) then (some 1) else (some 0))) = some r:=by rw [if_neg (show ¬ (false = true) by decide)] at H;exact H
      clear H;have H:=H1;clear H1;by_cases c24:(t101.length:Int) < (t104.length:Int)
      ·rw [if_pos c24] at H;have c24b0:decide ((t101.length:Int) < (t104.length:Int)) = true:=decide_eq_true c24;have c24b1:decide (t101.length < t104.length) = true:=decide_eq_true (Int.ofNat_lt.mp c24);clear c24;obtain rfl:=Option.some.inj H;obtain ⟨Ao25,co25,eo25⟩:=Kd.R_slice HO_5.out;subst eo25;obtain ⟨Ao26,co26,eo26⟩:=Kd.R_slice HO_6.out;subst eo26;go_wp2;repeat (go_quiet (fail);try go_wp2)
       go_ret
       exact ⟨by first|rfl|(simp [errW_none,errW_some] <;> rfl)|(simp [*,errW_none,errW_some] <;> rfl),by repeat (first|(with_reducible first|exact HB.out|apply bwA|apply pwbN|apply bw1)|exact HB.out)⟩
      ·rw [if_neg c24] at H;have c24b0:decide ((t101.length:Int) < (t104.length:Int)) = false:=decide_eq_false c24;have c24b1:decide (t101.length < t104.length) = false:=decide_eq_false (fun h=>c24 (Int.ofNat_lt.mpr h));clear c24;by_cases c27:(t101.length:Int) > (t104.length:Int)
       ·rw [if_pos c27] at H;have c27b0:decide ((t104.length:Int) < (t101.length:Int)) = true:=decide_eq_true c27;have c27b1:decide (t104.length < t101.length) = true:=decide_eq_true (Int.ofNat_lt.mp c27);clear c27;obtain rfl:=Option.some.inj H;obtain ⟨Ao28,co28,eo28⟩:=Kd.R_slice HO_5.out;subst eo28;obtain ⟨Ao29,co29,eo29⟩:=Kd.R_slice HO_6.out;subst eo29;go_wp2;repeat (go_quiet (fail);try go_wp2)
        go_ret
        exact ⟨by first|rfl|(simp [errW_none,errW_some] <;> rfl)|(simp [*,errW_none,errW_some] <;> rfl),by repeat (first|(with_reducible first|exact HB.out|apply bwA|apply pwbN|apply bw1)|exact HB.out)⟩
       ·rw [if_neg c27] at H;have c27b0:decide ((t104.length:Int) < (t101.length:Int)) = false:=decide_eq_false c27;have c27b1:decide (t104.length < t101.length) = false:=decide_eq_false (fun h=>c27 (Int.ofNat_lt.mpr h));clear c27;obtain rfl:=Option.some.inj H;obtain ⟨Ao30,co30,eo30⟩:=Kd.R_slice HO_5.out;subst eo30;obtain ⟨Ao31,co31,eo31⟩:=Kd.R_slice HO_6.out;subst eo31;go_wp2;repeat (go_quiet (fail);try go_wp2)
        go_ret
        exact ⟨by first|rfl|(simp [errW_none,errW_some] <;> rfl)|(simp [*,errW_none,errW_some] <;> rfl),by repeat (first|(with_reducible first|exact HB.out|apply bwA|apply pwbN|apply bw1)|exact HB.out)⟩
end Go.Proofs.YtenbelecmmpdgaaGreatDoor.All
end
section
namespace Go.Proofs.YtenbelecmmpdgaaGreatDoor.All
open Go.RowKit Go.Proofs.YtenbelecmmpdgaaGreatDoorW.PrintWords Go.Proofs.YtenbelecmmpdgaaGreatDoorW.PrintLast Go.Proofs.YtenbelecmmpdgaaGreatDoorW.PrintMore
open Go.Proofs.YtenbelecmmpdgaaGreatDoorW.Mine
attribute [local go_sem] gtr_string leq_string geq_string
attribute [local go_sem] max2_int min2_int max_two min_two max_three min_three max_four min_four
set_option linter.unusedVariables false
set_option linter.unusedSimpArgs false
def creelref_PathSplit.l0:Nat→List ByteArray→ByteArray→Int→Option (ByteArray × ByteArray)
 | 0,_,_,_=>none
 | k + 1,x4,x5,x6=>if x6 < (wrap64 ((x4.length:Int) - 1)) then (if x6 > 0 then (if x5.size + 1 ≤ 9223372036854775807 then (if 0 ≤ x6 then (if x6 < (x4.length:Int) then (if (x5 ++ (⟨#[47]⟩:ByteArray)).size + (rdOf ByteArray.empty x4 x6).size ≤ 9223372036854775807 then (creelref_PathSplit.l0 k x4 ((x5 ++ (⟨#[47]⟩:ByteArray)) ++ (rdOf ByteArray.empty x4 x6)) (wrap64 (x6 + 1))) else (none)) else (none)) else (none)) else (none)) else (if 0 ≤ x6 then (if x6 < (x4.length:Int) then (if x5.size + (rdOf ByteArray.empty x4 x6).size ≤ 9223372036854775807 then (creelref_PathSplit.l0 k x4 (x5 ++ (rdOf ByteArray.empty x4 x6)) (wrap64 (x6 + 1))) else (none)) else (none)) else (none))) else (if 0 ≤ (wrap64 ((x4.length:Int) - 1)) then (if (wrap64 ((x4.length:Int) - 1)) < (x4.length:Int) then (some (x5,rdOf ByteArray.empty x4 (wrap64 ((x4.length:Int) - 1)))) else (none)) else (none))
def creelref_PathSplit.f (k:Nat) (a0:ByteArray):Option (ByteArray × ByteArray):=(creelref_parts.f k a0 47).bind fun t101=>(creelref_PathSplit.l0 k t101 (⟨#[]⟩:ByteArray) 0)
set_option maxHeartbeats 8000000 in
set_option maxRecDepth 100000 in
theorem creelref_PathSplit.calls (k:Nat) (a0:ByteArray) (r1:ByteArray) (r2:ByteArray) (w:World) (h:creelref_PathSplit.f k a0 = some (r1,r2)) :
 Calls Tryz.prog 88 #[.string a0] w fun e w'=>e = .returned (.tuple #[.string r1,.string r2])∧Below w.heap.size w w':=by
 have HB:=Aside0.mk (Below.refl w.heap.size w);have H:((creelref_parts.f k a0 47).bind fun t101=>(creelref_PathSplit.l0 k t101 (⟨#[]⟩:ByteArray) 0)) = some (r1,r2):=h;clear h;replace H:=Option.bind_eq_some_iff.mp H;obtain ⟨t101,A20,H⟩:=H;replace H:(creelref_PathSplit.l0 k t101 (⟨#[]⟩:ByteArray) 0) = some (r1,r2):=H;have A2:=Aside0.mk A20;clear A20;have H':=Aside0.mk H;clear H;go_enter Tryz.func88,Tryz.ntmps88;go_wp2_with (first|(go_at_call 123;(with_reducible refine (creelref_parts.calls k a0 47 t101 _ A2.out).mono ?_);rintro e w3 ⟨v102,rfl,ho0,hb⟩;have n0_:=Aside0.mk (Kd.R_lower ho0 (below_size (by repeat (first|(with_reducible first|exact HB.out|apply bwA|apply pwbN|apply bw1)|exact HB.out))));have n1_:=Aside0.mk (below_step (by repeat (first|(with_reducible first|exact HB.out|apply bwA|apply pwbN|apply bw1)|exact HB.out)) hb);clear HB;have HO103:=n0_;have HB:=n1_;clear n0_ n1_;(try clear hb);(try clear hb2);(try clear hk);(try clear hi);(try clear ho0)))
 repeat (go_quiet (first|(go_at_call 123;(with_reducible refine (creelref_parts.calls k a0 47 t101 _ A2.out).mono ?_);rintro e w3 ⟨v102,rfl,ho0,hb⟩;have n0_:=Aside0.mk (Kd.R_lower ho0 (below_size (by repeat (first|(with_reducible first|exact HB.out|apply bwA|apply pwbN|apply bw1)|exact HB.out))));have n1_:=Aside0.mk (below_step (by repeat (first|(with_reducible first|exact HB.out|apply bwA|apply pwbN|apply bw1)|exact HB.out)) hb);clear HB;have HO103:=n0_;have HB:=n1_;clear n0_ n1_;(try clear hb);(try clear hb2);(try clear hk);(try clear hi);(try clear ho0)));try go_wp2_with (first|(go_at_call 123;(with_reducible refine (creelref_parts.calls k a0 47 t101 _ A2.out).mono ?_);rintro e w3 ⟨v102,rfl,ho0,hb⟩;have n0_:=Aside0.mk (Kd.R_lower ho0 (below_size (by repeat (first|(with_reducible first|exact HB.out|apply bwA|apply pwbN|apply bw1)|exact HB.out))));have n1_:=Aside0.mk (below_step (by repeat (first|(with_reducible first|exact HB.out|apply bwA|apply pwbN|apply bw1)|exact HB.out)) hb);clear HB;have HO103:=n0_;have HB:=n1_;clear n0_ n1_;(try clear hb);(try clear hb2);(try clear hk);(try clear hi);(try clear ho0))))
 go_loopg [5,6] k (fun kq v5 v6 w'=>∃ (x5_1:ByteArray) (x6_1:Int),v5 = .string x5_1∧v6 = .int .i64 x6_1∧Aside0 (creelref_PathSplit.l0 kq t101 x5_1 x6_1 = some (r1,r2))∧Aside0 (kq ≤ k)∧Aside0 (Kd.R Kd.string 9 w' w.heap.size (fun _=>True) v102 t101)∧Aside0 (Below w.heap.size w w'))
 case atStart=>exact ⟨((⟨#[]⟩:ByteArray)),(0),(by first|rfl|(simp;done)|(simp [*];done)),(by first|rfl|(simp;done)|(simp [*];done)),H',⟨Nat.le_refl _⟩,⟨by (with_reducible repeat (first|apply Kd.R_alloc|apply Kd.R_drewN|apply Kd.R_drew));exact HO103.out⟩,⟨by repeat (first|(with_reducible first|exact HB.out|apply bwA|apply pwbN|apply bw1)|exact HB.out)⟩⟩
 case round =>
  clear H';obtain ⟨x5_1,x6_1,rfl,rfl,HA,HK1,HO_4,HB⟩:=hrel;cases gk with
  | zero=>exact absurd HA.out (by simp [creelref_PathSplit.l0])
  | succ k1 =>
   have H:=HA.out;clear HA;simp only [creelref_PathSplit.l0] at H;by_cases c4:x6_1 < (wrap64 ((t101.length:Int) - 1))
   ·rw [if_pos c4] at H;have c4b0:decide (x6_1 < (wrap64 ((t101.length:Int) - 1))) = true:=decide_eq_true c4;clear c4;by_cases c5:x6_1 > 0
    ·rw [if_pos c5] at H;have c5b0:decide (0 < x6_1) = true:=decide_eq_true c5;clear c5;by_cases c6:x5_1.size + 1 ≤ 9223372036854775807
     ·rw [if_pos c6] at H;have c6b0:=eq_true c6;have c6b1:decide (x5_1.size + 1 ≤ 9223372036854775807) = true:=decide_eq_true c6;try have c6b2:(9223372036854775807 < x5_1.size + 1) = False:=eq_false (Nat.not_lt.2 c6)
      by_cases c7:0 ≤ x6_1
      ·rw [if_pos c7] at H;have c7b0:decide (0 ≤ x6_1) = true:=decide_eq_true c7;clear c7;by_cases c8:x6_1 < (t101.length:Int)
       ·rw [if_pos c8] at H;have c8b0:decide (x6_1 < (t101.length:Int)) = true:=decide_eq_true c8;clear c8;by_cases c9:(x5_1 ++ (⟨#[47]⟩:ByteArray)).size + (rdOf ByteArray.empty t101 x6_1).size ≤ 9223372036854775807
        ·rw [if_pos c9] at H;have c9b0:=eq_true c9;have c9b1:decide ((x5_1 ++ (⟨#[47]⟩:ByteArray)).size + (rdOf ByteArray.empty t101 x6_1).size ≤ 9223372036854775807) = true:=decide_eq_true c9;try have c9b2:(9223372036854775807 < (x5_1 ++ (⟨#[47]⟩:ByteArray)).size + (rdOf ByteArray.empty t101 x6_1).size) = False:=eq_false (Nat.not_lt.2 c9)
         have H':=Aside0.mk H;clear H;obtain ⟨Ao10,co10,eo10⟩:=Kd.R_slice HO_4.out;subst eo10;have p104:0 ≤ (x6_1:Int):=of_decide_eq_true (by first|(with_reducible assumption)|assumption);have q104:x6_1 < (t101.length:Int):=of_decide_eq_true (by first|(with_reducible assumption)|assumption);obtain ⟨ad104,e104,hx104_0⟩:=Kd.at_string (Kd.R_reads' HO_4.out).2.2 x6_1 p104 q104;cases e104;replace p104:=eq_true p104;replace q104:=eq_true q104;go_wp2;repeat (go_quiet (fail);try go_wp2)
         go_roundg k1
         case measure=>have:=HK1.out;omega
         case rel=>exact ⟨((x5_1 ++ (⟨#[47]⟩:ByteArray)) ++ (rdOf ByteArray.empty t101 x6_1)),(wrap64 (x6_1 + 1)),(by first|rfl|(simp;done)|(simp [*];done)),(by first|rfl|(simp;done)|(simp [*];done)),H',⟨by have:=HK1.out;omega⟩,⟨by (with_reducible repeat (first|apply Kd.R_alloc|apply Kd.R_drewN|apply Kd.R_drew));exact HO_4.out⟩,⟨by repeat (first|(with_reducible first|exact HB.out|apply bwA|apply pwbN|apply bw1)|exact HB.out)⟩⟩
        ·rw [if_neg c9] at H;exact absurd H (by simp)
       ·rw [if_neg c8] at H;exact absurd H (by simp)
      ·rw [if_neg c7] at H;exact absurd H (by simp)
     ·rw [if_neg c6] at H;exact absurd H (by simp)
    ·rw [if_neg c5] at H;have c5b0:decide (0 < x6_1) = false:=decide_eq_false c5;clear c5;by_cases c11:0 ≤ x6_1
     ·rw [if_pos c11] at H;have c11b0:decide (0 ≤ x6_1) = true:=decide_eq_true c11;clear c11;by_cases c12:x6_1 < (t101.length:Int)
      ·rw [if_pos c12] at H;have c12b0:decide (x6_1 < (t101.length:Int)) = true:=decide_eq_true c12;clear c12;by_cases c13:x5_1.size + (rdOf ByteArray.empty t101 x6_1).size ≤ 9223372036854775807
       ·rw [if_pos c13] at H;have c13b0:=eq_true c13;have c13b1:decide (x5_1.size + (rdOf ByteArray.empty t101 x6_1).size ≤ 9223372036854775807) = true:=decide_eq_true c13;try have c13b2:(9223372036854775807 < x5_1.size + (rdOf ByteArray.empty t101 x6_1).size) = False:=eq_false (Nat.not_lt.2 c13)
        have H':=Aside0.mk H;clear H;obtain ⟨Ao14,co14,eo14⟩:=Kd.R_slice HO_4.out;subst eo14;have p105:0 ≤ (x6_1:Int):=of_decide_eq_true (by first|(with_reducible assumption)|assumption);have q105:x6_1 < (t101.length:Int):=of_decide_eq_true (by first|(with_reducible assumption)|assumption);obtain ⟨ad105,e105,hx105_0⟩:=Kd.at_string (Kd.R_reads' HO_4.out).2.2 x6_1 p105 q105;cases e105;replace p105:=eq_true p105;replace q105:=eq_true q105;go_wp2;repeat (go_quiet (fail);try go_wp2)
        go_roundg k1
        case measure=>have:=HK1.out;omega
        case rel=>exact ⟨(x5_1 ++ (rdOf ByteArray.empty t101 x6_1)),(wrap64 (x6_1 + 1)),(by first|rfl|(simp;done)|(simp [*];done)),(by first|rfl|(simp;done)|(simp [*];done)),H',⟨by have:=HK1.out;omega⟩,⟨by (with_reducible repeat (first|apply Kd.R_alloc|apply Kd.R_drewN|apply Kd.R_drew));exact HO_4.out⟩,⟨by repeat (first|(with_reducible first|exact HB.out|apply bwA|apply pwbN|apply bw1)|exact HB.out)⟩⟩
       ·rw [if_neg c13] at H;exact absurd H (by simp)
      ·rw [if_neg c12] at H;exact absurd H (by simp)
     ·rw [if_neg c11] at H;exact absurd H (by simp)
   ·rw [if_neg c4] at H;have c4b0:decide (x6_1 < (wrap64 ((t101.length:Int) - 1))) = false:=decide_eq_false c4;clear c4;obtain ⟨ji15,hji15⟩:∃ j_:Int,(wrap64 ((t101.length:Int) - 1)) = j_:=⟨_,rfl⟩
    replace H:(if 0 ≤ (ji15) then (if (ji15) < (t101.length:Int) then (some (x5_1,rdOf ByteArray.empty t101 (ji15))) else (none)) else (none)) = some (r1,r2):=by first|(rw [hji15] at H;exact H)|(simp only [hji15] at H ⊢;exact H)
    (try rw [hji15] at c4b0);have hji15w:(IntKind.i64.wrap ((t101.length:Int) - 1)) = ji15:=(i64_w _).trans hji15;by_cases c16:0 ≤ (ji15)
    ·rw [if_pos c16] at H;have c16b0:decide (0 ≤ (ji15)) = true:=decide_eq_true c16;clear c16;by_cases c17:(ji15) < (t101.length:Int)
     ·rw [if_pos c17] at H;have c17b0:decide ((ji15) < (t101.length:Int)) = true:=decide_eq_true c17;clear c17;simp only [Option.some.injEq,Prod.mk.injEq] at H;obtain ⟨rfl,rfl⟩:=H;obtain ⟨Ao18,co18,eo18⟩:=Kd.R_slice HO_4.out;subst eo18;have p106:0 ≤ ((ji15):Int):=of_decide_eq_true (by first|(with_reducible assumption)|assumption);have q106:(ji15) < (t101.length:Int):=of_decide_eq_true (by first|(with_reducible assumption)|assumption);obtain ⟨ad106,e106,hx106_0⟩:=Kd.at_string (Kd.R_reads' HO_4.out).2.2 (ji15) p106 q106;cases e106;replace p106:=eq_true p106;replace q106:=eq_true q106;go_wp2;repeat (go_quiet (fail);try go_wp2)
      go_ret2
      exact ⟨by first|rfl|(simp [errW_none,errW_some] <;> rfl)|(simp only [← hji15];first|rfl|(simp [errW_none,errW_some] <;> rfl))|(simp [*,errW_none,errW_some] <;> rfl),by repeat (first|(with_reducible first|exact HB.out|apply bwA|apply pwbN|apply bw1)|exact HB.out)⟩
     ·rw [if_neg c17] at H;exact absurd H (by simp)
    ·rw [if_neg c16] at H;exact absurd H (by simp)
end Go.Proofs.YtenbelecmmpdgaaGreatDoor.All
end
section
namespace Go.Proofs.YtenbelecmmpdgaaGreatDoor.All
open Go.RowKit Go.Proofs.YtenbelecmmpdgaaGreatDoorW.PrintWords Go.Proofs.YtenbelecmmpdgaaGreatDoorW.PrintLast Go.Proofs.YtenbelecmmpdgaaGreatDoorW.PrintMore
open Go.Proofs.YtenbelecmmpdgaaGreatDoorW.Mine
attribute [local go_sem] gtr_string leq_string geq_string
attribute [local go_sem] max2_int min2_int max_two min_two max_three min_three max_four min_four
set_option linter.unusedVariables false
set_option linter.unusedSimpArgs false
open Go.Proofs.YtenbelecmmpdgaaGreatDoorW.MapOwn
attribute [local go_sem high] eqK23
def creelref_EntriesFault.right (k:Nat) (x:S26):Option Int:=rEF.f k (x).f0 (x).f1 (x).f2 (x).f3.f0 (x).f3.f1 (x).f3.f2 (x).f3.f3 (x).f3.f4 (x).f3.f5 (x).f3.f6 (x).f4
def creelref_EntriesFault.two (k:Nat) (l:List S26) (x:S26) (n:Nat):Option Bool:=if 0 < n then (creelref_PathOrder.f k (rd_T26 l ((n - 1:Nat):Int)).f0 x.f0).bind fun c=>some (decide (0 ≤ c)) else some false
def creelref_EntriesFault.up (k:Nat) (l:List S26) (x:S26) (n:Nat):Option Bool:=(creelref_PathSplit.f k x.f0).bind fun p=>(creelref_EntryAt.f k (l.take n) p.1).bind fun j=>if p.1.toList = ([]:List UInt8) then some false else if j = (n:Int) then some true else if 0 ≤ j∧j < (l.length:Int) then some ((rd_T26 l j).f1 != 2) else none
def creelref_EntriesFault.meta (y x:S26):Bool:=((y.f3).f0 == (x.f3).f0 && ((y.f3).f1 == (x.f3).f1 && ((y.f3).f2 == (x.f3).f2 && ((y.f3).f3.toList == (x.f3).f3.toList && ((y.f3).f4.toList == (x.f3).f4.toList && ((y.f3).f5 == (x.f3).f5 && ((y.f3).f6 == (x.f3).f6)))))))
def creelref_EntriesFault.link (k:Nat) (l:List S26) (x:S26) (n:Nat):Option Bool:=(creelref_EntryAt.f k (l.take n) x.f2).bind fun j=>if x.f1 = 4 then (if j = (n:Int) then some true else if 0 ≤ j∧j < (l.length:Int) then (if (rd_T26 l j).f1 = 1 then some (!creelref_EntriesFault.meta (rd_T26 l j) x) else some true) else none) else some false
def creelref_EntriesFault.step (k:Nat) (l:List S26) (x:S26) (n:Nat):Option Int:=(creelref_EntriesFault.right k x).bind fun e=>if e = 0 then ((creelref_EntriesFault.two k l x n).bind fun t=>if t = true then some 6 else (creelref_EntriesFault.up k l x n).bind fun u=>if u = true then some 10 else (creelref_EntriesFault.link k l x n).bind fun v=>if v = true then some 11 else some 0) else some e
def creelref_EntriesFault.l0:Nat→List S26→Nat→Option Int
 | 0,_,_=>none
 | k + 1,l,n=>if n < l.length then (creelref_EntriesFault.step k l (rd_T26 l (n:Int)) n).bind fun e=>if e = 0 then creelref_EntriesFault.l0 k l (n + 1) else some e else some 0
def creelref_EntriesFault.f (k:Nat) (l0:List S26):Option Int:=if 40 < l0.length then some 1 else creelref_EntriesFault.l0 k l0 0
set_option maxHeartbeats 8000000 in
set_option maxRecDepth 100000 in
theorem creelref_EntriesFault.calls (k:Nat) (A0:Option Addr) (c0:Nat) (l0:List (S26)) (r:Int) (w:World) (hr0:Kd.C k26 w A0 l0.length l0) (hc0:l0.length ≤ c0) (h:creelref_EntriesFault.f k l0 = some r) :
 Calls Tryz.prog 38 #[.slice A0 l0.length c0] w fun e w'=>e = .returned (.int .i64 r)∧Below w.heap.size w w':=by
 have hu26:=Tryz.underlying26;have hu23:=Tryz.underlying23;have HR0:=Aside0.mk hr0;have HC0:=Aside0.mk hc0;clear hr0 hc0;by_cases c1:40 < l0.length
 ·have H:(if 40 < l0.length then some 1 else creelref_EntriesFault.l0 k l0 0) = some r:=h;rw [if_pos c1] at H;obtain rfl:=Option.some.inj H;clear h H;have c1b:decide ((40:Int) < (l0.length:Int)) = true:=decide_eq_true (by omega);clear c1;go_enter Tryz.func38,Tryz.ntmps38;go_wp2;go_ret
  exact ⟨rfl,by first|exact Below.refl _ _|exact bw1 (Below.refl _ _)⟩
 ·have H:(if 40 < l0.length then some 1 else creelref_EntriesFault.l0 k l0 0) = some r:=h;rw [if_neg c1] at H;have H':=Aside0.mk H;have HN:=Aside0.mk (Nat.not_lt.1 c1);have HB0:=Aside0.mk (Below.refl w.heap.size w);have c1b:decide ((40:Int) < (l0.length:Int)) = false:=decide_eq_false (by omega);clear h H c1;go_enter Tryz.func38,Tryz.ntmps38;go_wp2;go_loopg [15] k (fun kq v15 wx=>∃ (n:Nat),v15 = .int .i64 (n:Int)∧Aside0 (n ≤ l0.length)∧Aside0 (creelref_EntriesFault.l0 kq l0 n = some r)∧Aside0 (kq ≤ k)∧Aside0 (Below w.heap.size w wx))
  case atStart=>exact ⟨0,rfl,⟨Nat.zero_le _⟩,H',⟨Nat.le_refl _⟩,HB0⟩
  case round =>
   clear H' HB0;obtain ⟨n,rfl,HN1,HA,HK1,HB⟩:=hrel;cases gk with
   | zero=>exact absurd HA.out (by simp [creelref_EntriesFault.l0])
   | succ k1 =>
    have H:=HA.out;clear HA;simp only [creelref_EntriesFault.l0] at H;by_cases c3:n < l0.length
    ·rw [if_pos c3] at H;have c3b:decide ((n:Int) < (l0.length:Int)) = true:=decide_eq_true (by omega);replace H:=Option.bind_eq_some_iff.mp H;obtain ⟨e0,AS,H⟩:=H;obtain ⟨ad,A10,c10,e,hx,hl10,hi10⟩:=elem26 HR0.out n c3;cases e;have HXC:=Aside0.mk hx;clear hx;have p3:((n:Int) < (l0.length:Int)) = True:=eq_true (by omega);have p4:(0 ≤ (n:Int)) = True:=eq_true (by omega);have HX:=Aside0.mk hi10;have HL:=Aside0.mk hl10;have HLT:=Aside0.mk c3;clear hi10 hl10 c3;generalize hx:rd_T26 l0 (n:Int) = x at *;clear hx;obtain ⟨e1,AR,AS⟩:=Option.bind_eq_some_iff.mp (show ((creelref_EntriesFault.right k1 x).bind fun e=>if e = 0 then ((creelref_EntriesFault.two k1 l0 x n).bind fun t=>if t = true then some 6 else (creelref_EntriesFault.up k1 l0 x n).bind fun u=>if u = true then some 10 else (creelref_EntriesFault.link k1 l0 x n).bind fun v=>if v = true then some 11 else some 0) else some e) = some e0 from AS);have HAR:=Aside0.mk (show rEF.f k1 (x).f0 (x).f1 (x).f2 (x).f3.f0 (x).f3.f1 (x).f3.f2 (x).f3.f3 (x).f3.f4 (x).f3.f5 (x).f3.f6 (x).f4 = some e1 from AR);clear AR;by_cases c6:e1 = 0
     ·rw [if_pos c6] at AS;obtain ⟨t,AT,AS⟩:=Option.bind_eq_some_iff.mp AS;have HAT:=Aside0.mk AT;have HQ:=Aside0.mk AS;have HH:=Aside0.mk H;have c6a:(e1 == 0) = true:=beq_iff_eq.mpr c6;have c6b:(e1 != 0) = false:=bne_eq_false_iff_eq.mpr c6;clear AS H AT c6;go_upto_region 9 with (first|((with_reducible refine gate_dst (N:=19) rfl ?_);refine load_event (ad:=ad.add (n * 11)) rfl rfl hu26 rfl rfl (cs:=[.string (x).f0,.int .i64 (x).f1,.string (x).f2,.int .i64 (x).f3.f0,.int .i64 (x).f3.f1,.int .i64 (x).f3.f2,.string (x).f3.f3,.string (x).f3.f4,.int .i64 (x).f3.f5,.int .i64 (x).f3.f6,.slice A10 (x).f4.length c10]) sz26 (fun j v hv=>(HB.out.cell (World.block_lt_of_cell? w _ (HXC.out j v hv))).trans (HXC.out j v hv)) ?_)|((with_reducible refine gate_dst (N:=4) rfl ?_);refine box_event ?hg (N:=4) ?hd (cs:=#[.string (⟨#[]⟩:ByteArray),.int .i64 0,.string (⟨#[]⟩:ByteArray),.int .i64 0,.int .i64 0,.int .i64 0,.string (⟨#[]⟩:ByteArray),.string (⟨#[]⟩:ByteArray),.int .i64 0,.int .i64 0,.slice none 0 0]) (t:=26) ?hr ?_;(case hd=>rfl);(case hg=>rfl);(case hr=>first|(go_simp;done)|(go_simp;rfl));intro gb hg w2 hbox hb2;have HS:=Aside0.mk (Held.box HB.out hg hbox hb2);clear hg hbox hb2 HB)|((with_reducible refine gate_store (t:=26) (p:=4) rfl ?_);refine put_event rfl rfl rfl rfl rfl HS.out.blk sz26 rfl rfl ?_;intro w3 hk3 hg3;have HS3:=Aside0.mk (HS.out.put hk3 hg3);clear HS hk3 hg3;have HS:=HS3;clear HS3)|((with_reducible refine gate_dst (N:=20) rfl ?_);refine load_event rfl rfl hu26 rfl rfl (cs:=[.string (x).f0,.int .i64 (x).f1,.string (x).f2,.int .i64 (x).f3.f0,.int .i64 (x).f3.f1,.int .i64 (x).f3.f2,.string (x).f3.f3,.string (x).f3.f4,.int .i64 (x).f3.f5,.int .i64 (x).f3.f6,.slice A10 (x).f4.length c10]) sz26 (cells_of_blk HS.out.blk) ?_)|(go_at_call 73;refine (rEF.calls k1 (x).f0 (x).f1 (x).f2 (x).f3.f0 (x).f3.f1 (x).f3.f2 (x).f3.f3 (x).f3.f4 (x).f3.f5 (x).f3.f6 A10 c10 (x).f4 e1 _ (Kd.C_below HX.out HS.out.below) HL.out HAR.out).mono ?_;rintro e w3 ⟨rfl,hb3⟩;have HS3:=Aside0.mk (HS.out.step hb3);clear HS hb3;have HS:=HS3;clear HS3))
      (try simp only [Act.put,List.setIfInBounds_toArray,List.set_cons_zero,List.set_cons_succ]);go_cut [38] (fun v38 wc=>v38 = .bool t∧Aside0 (Held w wc gb 26 #[.string (x).f0,.int .i64 (x).f1,.string (x).f2,.int .i64 (x).f3.f0,.int .i64 (x).f3.f1,.int .i64 (x).f3.f2,.string (x).f3.f3,.string (x).f3.f4,.int .i64 (x).f3.f5,.int .i64 (x).f3.f6,.slice A10 (x).f4.length c10]))
      case first =>
       by_cases c7:0 < n
       ·have AT:=HAT.out;clear HAT;unfold creelref_EntriesFault.two at AT;rw [if_pos c7] at AT;obtain ⟨c,AC,AT⟩:=Option.bind_eq_some_iff.mp AT;obtain rfl:=Option.some.inj AT;have HAC:=Aside0.mk AC;clear AC AT;obtain ⟨ad',A10',c10',e',hx',_,_⟩:=elem26 HR0.out (n - 1) (by have:=HN1.out;omega);cases e';have h0:w.cell? (ad.add ((n - 1) * 11)) = some (.string (rd_T26 l0 ((n - 1:Nat):Int)).f0):=hx' 0 _ rfl;have hc0:=(HS.out.below.cell (World.block_lt_of_cell? w _ h0)).trans h0;clear hx' h0;have hw:IntKind.i64.wrap ((n:Int) - 1) = ((n - 1:Nat):Int):=by have:=HN.out;have:=HN1.out;rw [IntWalk.i64_in _ (by omega)];omega
        have hn':((n - 1:Nat):Int) < (l0.length:Int):=by have:=HN1.out;omega
        have hc1:=blk_cell HS.out.blk 0;have hg0:decide ((0:Int) < (n:Int)) = true:=decide_eq_true (by omega);have hg1:(0 < n) = True:=eq_true c7;go_region_held3 (fun w'=>w'.cell? (ad.add ((n - 1) * 11)) = some (.string (rd_T26 l0 ((n - 1:Nat):Int)).f0)∧w'.cell? ⟨gb,0,none⟩ = some (.string x.f0)) (first|go_keep|(go_split_ands;exact ⟨(hb3.cell (World.block_lt_of_cell? _ _ (by assumption))).trans (by assumption),(hb3.cell (World.block_lt_of_cell? _ _ (by assumption))).trans (by assumption)⟩)) ((go_at_call 87;refine (creelref_PathOrder.calls k1 _ _ c _ HAC.out).mono ?_;rintro e w3 ⟨rfl,hb3⟩))
        go_wp2;go_meet
        case rel=>exact ⟨rfl,⟨by first|exact HS.out.step hb3|exact (HS.out.drewN _).step hb3|exact HS.out.drew.step hb3⟩⟩
       ·have AT:=HAT.out;clear HAT;unfold creelref_EntriesFault.two at AT;rw [if_neg c7] at AT;obtain rfl:=Option.some.inj AT;clear AT;have hg0:decide ((0:Int) < (n:Int)) = false:=decide_eq_false (by omega);have hg1:(0 < n) = False:=eq_false c7;go_quiet (fail)
        go_wp2;go_meet
        case rel=>exact ⟨rfl,⟨by first|exact HS.out|exact HS.out.drewN _|exact HS.out.drew⟩⟩
      case rest =>
       obtain ⟨rfl,HS⟩:=hcut;cases t with
       | true =>
        have AS:=HQ.out;have H:=HH.out;rw [if_pos rfl] at AS;obtain rfl:=Option.some.inj AS;rw [if_neg (by decide)] at H;obtain rfl:=Option.some.inj H;clear HQ HH H HAT;go_wp2;go_ret
        exact ⟨rfl,HS.out.below⟩
       | false =>
        have AS:=HQ.out;rw [if_neg (by decide)] at AS;obtain ⟨u,AU,AS⟩:=Option.bind_eq_some_iff.mp AS;have HQ2:=Aside0.mk AS;obtain ⟨⟨up,last⟩,AP,AU⟩:=Option.bind_eq_some_iff.mp (show ((creelref_PathSplit.f k1 x.f0).bind fun p=>(creelref_EntryAt.f k1 (l0.take n) p.1).bind fun j=>if p.1.toList = ([]:List UInt8) then some false else if j = (n:Int) then some true else if 0 ≤ j∧j < (l0.length:Int) then some ((rd_T26 l0 j).f1 != 2) else none) = some u from AU);obtain ⟨j1,AF,AU⟩:=Option.bind_eq_some_iff.mp AU;have HAP:=Aside0.mk AP;have HAU:=Aside0.mk AU;have HF:Aside0 (∀ W,Below w.heap.size w W→Calls Tryz.prog 53 #[.slice (some ad) n c0,.string up] W fun e w'=>e = .returned (.int .i64 j1)∧Below W.heap.size W w'):=⟨fun W hb=>by
         have hlen:(l0.take n).length = n:=by have:=HN1.out;simp;omega
         have:=creelref_EntryAt.calls k1 (some ad) c0 (l0.take n) up j1 W (Kd.C_below (Kd.C_take HR0.out HN1.out) hb) (by have:=HC0.out;have:=HN1.out;omega) AF;rw [hlen] at this;exact this.mono (by rintro e w' ⟨rfl,nd,rfl⟩;exact ⟨rfl,pwbN (Below.refl _ _) nd⟩)⟩
        have hnc:(n:Int) ≤ (c0:Int):=by have:=HC0.out;have:=HN1.out;omega
        have hnc':n ≤ c0:=by omega
        clear AS AU AP AF HQ HAT;have hc0:=blk_cell HS.out.blk 0;go_upto_region 13 with (first|(go_at_call 88;refine (creelref_PathSplit.calls k1 x.f0 up last _ HAP.out).mono ?_;rintro e w4 ⟨rfl,hb4⟩;have HS4:=Aside0.mk (HS.out.step hb4);clear HS hb4;have HS:=HS4;clear HS4)|(go_at_call 53;refine (HF.out _ HS.out.below).mono ?_;rintro e w5 ⟨rfl,hb5⟩;have HS5:=Aside0.mk (HS.out.step hb5);clear HS hb5;have HS:=HS5;clear HS5))
        (try simp only [Act.put,List.setIfInBounds_toArray,List.set_cons_zero,List.set_cons_succ]);go_cut [64] (fun v64 wc=>v64 = .bool u∧Aside0 (Held w wc gb 26 #[.string (x).f0,.int .i64 (x).f1,.string (x).f2,.int .i64 (x).f3.f0,.int .i64 (x).f3.f1,.int .i64 (x).f3.f2,.string (x).f3.f3,.string (x).f3.f4,.int .i64 (x).f3.f5,.int .i64 (x).f3.f6,.slice A10 (x).f4.length c10]))
        case first =>
         have AU:=HAU.out;by_cases c8:up.toList = ([]:List UInt8)
         ·rw [if_pos c8] at AU;obtain rfl:=Option.some.inj AU;have c8a:up.toList.isEmpty = true:=by rw [c8];rfl
          have c8b:(!up.toList.isEmpty) = false:=by rw [c8];rfl
          clear AU c8;go_wp2;go_meet
          case rel=>exact ⟨rfl,⟨by first|exact HS.out|exact HS.out.drewN _|exact HS.out.drew⟩⟩
         ·rw [if_neg c8] at AU;have c8a:up.toList.isEmpty = false:=by cases h:up.toList with|nil=>exact absurd h c8|cons a b=>rfl
          have c8b:(!up.toList.isEmpty) = true:=by rw [c8a];rfl
          clear c8;by_cases c9:j1 = (n:Int)
          ·rw [if_pos c9] at AU;obtain rfl:=Option.some.inj AU;have c9a:(j1 == (n:Int)) = true:=beq_iff_eq.mpr c9;clear AU c9;go_wp2;go_meet
           case rel=>exact ⟨rfl,⟨by first|exact HS.out|exact HS.out.drewN _|exact HS.out.drew⟩⟩
          ·rw [if_neg c9] at AU;by_cases c10:0 ≤ j1∧j1 < (l0.length:Int)
           ·rw [if_pos c10] at AU;obtain rfl:=Option.some.inj AU;have c9a:(j1 == (n:Int)) = false:=beq_eq_false_iff_ne.mpr c9;clear AU c9;obtain ⟨ad',A10',c10',e',hq0,hq1,hq2,hq3,hq4,hq5,hq6,hq7,hq8,hq9,hq10,_,_⟩:=at_T26 HR0.out j1 c10.1 c10.2;cases e';have hf1:=(HS.out.below.cell (World.block_lt_of_cell? w _ hq1)).trans hq1;clear hq0 hq1 hq2 hq3 hq4 hq5 hq6 hq7 hq8 hq9 hq10;have c10a:=eq_true c10.1;have c10b:=eq_true c10.2;clear c10;go_wp2;go_meet
            case rel=>exact ⟨rfl,⟨by first|exact HS.out|exact HS.out.drewN _|exact HS.out.drew⟩⟩
           ·rw [if_neg c10] at AU;cases AU
        case rest =>
         obtain ⟨rfl,HS⟩:=hcut;have AS:=HQ2.out;have H:=HH.out;clear HQ2 HH HAU;cases u with
         | true =>
          rw [if_pos rfl] at AS;obtain rfl:=Option.some.inj AS;rw [if_neg (by decide)] at H;obtain rfl:=Option.some.inj H;clear H;go_wp2;go_ret
          exact ⟨rfl,HS.out.below⟩
         | false =>
          rw [if_neg (by decide)] at AS;have hc1:=blk_cell HS.out.blk 1;have hc2:=blk_cell HS.out.blk 2;have h40:(n:Int) < 40:=by have:=HLT.out;have:=HN.out;omega
          have HH:=Aside0.mk H;clear H;obtain ⟨v,AV,AS⟩:=Option.bind_eq_some_iff.mp AS;have HAS:=Aside0.mk AS;obtain ⟨j2,AF2,AV⟩:=Option.bind_eq_some_iff.mp (show ((creelref_EntryAt.f k1 (l0.take n) x.f2).bind fun j=>if x.f1 = 4 then (if j = (n:Int) then some true else if 0 ≤ j∧j < (l0.length:Int) then (if (rd_T26 l0 j).f1 = 1 then some (!creelref_EntriesFault.meta (rd_T26 l0 j) x) else some true) else none) else some false) = some v from AV);have HV:=Aside0.mk AV;have HF2:Aside0 (∀ W,Held w W gb 26 #[.string (x).f0,.int .i64 (x).f1,.string (x).f2,.int .i64 (x).f3.f0,.int .i64 (x).f3.f1,.int .i64 (x).f3.f2,.string (x).f3.f3,.string (x).f3.f4,.int .i64 (x).f3.f5,.int .i64 (x).f3.f6,.slice A10 (x).f4.length c10]→Calls Tryz.prog 53 #[.slice (some ad) n c0,.string x.f2] W fun e w'=>e = .returned (.int .i64 j2)∧Below W.heap.size W w'):=⟨fun W hb=>by
           have hlen:(l0.take n).length = n:=by have:=HN1.out;simp;omega
           have:=creelref_EntryAt.calls k1 (some ad) c0 (l0.take n) x.f2 j2 W (Kd.C_below (Kd.C_take HR0.out HN1.out) hb.below) (by have:=HC0.out;have:=HN1.out;omega) AF2;rw [hlen] at this;exact this.mono (by rintro e w' ⟨rfl,nd,rfl⟩;exact ⟨rfl,pwbN (Below.refl _ _) nd⟩)⟩
          clear AS AV AF2;go_wp2;go_region_held3 (fun w'=>w'.cell? ⟨gb,2,none⟩ = some (.string x.f2)∧Held w w' gb 26 #[.string (x).f0,.int .i64 (x).f1,.string (x).f2,.int .i64 (x).f3.f0,.int .i64 (x).f3.f1,.int .i64 (x).f3.f2,.string (x).f3.f3,.string (x).f3.f4,.int .i64 (x).f3.f5,.int .i64 (x).f3.f6,.slice A10 (x).f4.length c10]) ((go_split_ands;refine ⟨?_,?_⟩;(first|go_keep|exact (hb5.cell (World.block_lt_of_cell? _ _ (by assumption))).trans (by assumption));(first|exact HS.out.drew|exact Held.step (by assumption) hb5))) ((go_at_call 53;refine (HF2.out _ (by first|assumption|(go_split_ands;assumption))).mono ?_;rintro e w5 ⟨rfl,hb5⟩;have HS5:Aside0 (Held w w5 gb 26 #[.string (x).f0,.int .i64 (x).f1,.string (x).f2,.int .i64 (x).f3.f0,.int .i64 (x).f3.f1,.int .i64 (x).f3.f2,.string (x).f3.f3,.string (x).f3.f4,.int .i64 (x).f3.f5,.int .i64 (x).f3.f6,.slice A10 (x).f4.length c10]):=⟨Held.step (by first|assumption|(go_split_ands;assumption)) hb5⟩))
          clear HS;have HS:=HS5;clear HS5 hb5 hc1 hc2;have hc1:=blk_cell HS.out.blk 1;have AV:=HV.out;clear HV HF HF2;by_cases d1:x.f1 = 4
          ·rw [if_pos d1] at AV;have d1b:(x.f1 == 4) = true:=beq_iff_eq.mpr d1;by_cases d2:j2 = (n:Int)
           ·rw [if_pos d2] at AV;obtain rfl:=Option.some.inj AV;have d2b:(j2 == (n:Int)) = true:=beq_iff_eq.mpr d2;clear d1 d2 AV;have AS:=HAS.out;rw [if_pos (by decide)] at AS;obtain rfl:=Option.some.inj AS;have H:=HH.out;rw [if_neg (by decide)] at H;obtain rfl:=Option.some.inj H;clear H AS HH HAS;go_wp2;go_quiet (fail)
            go_wp2;go_ret
            exact ⟨rfl,(HS.out.drewN _).below⟩
           ·rw [if_neg d2] at AV;by_cases d3:0 ≤ j2∧j2 < (l0.length:Int)
            ·rw [if_pos d3] at AV;have d2b:(j2 == (n:Int)) = false:=beq_eq_false_iff_ne.mpr d2;clear d1 d2;obtain ⟨ad',Aj,cj,e',hq0,hq1,hq2,hq3,hq4,hq5,hq6,hq7,hq8,hq9,hq10,_,_⟩:=at_T26 HR0.out j2 d3.1 d3.2;cases e';have hf1:=(HS.out.below.cell (World.block_lt_of_cell? w _ hq1)).trans hq1;have hf3:=(HS.out.below.cell (World.block_lt_of_cell? w _ hq3)).trans hq3;have hf4:=(HS.out.below.cell (World.block_lt_of_cell? w _ hq4)).trans hq4;have hf5:=(HS.out.below.cell (World.block_lt_of_cell? w _ hq5)).trans hq5;have hf6:=(HS.out.below.cell (World.block_lt_of_cell? w _ hq6)).trans hq6;have hf7:=(HS.out.below.cell (World.block_lt_of_cell? w _ hq7)).trans hq7;have hf8:=(HS.out.below.cell (World.block_lt_of_cell? w _ hq8)).trans hq8;have hf9:=(HS.out.below.cell (World.block_lt_of_cell? w _ hq9)).trans hq9;have hg3:=blk_cell HS.out.blk 3;have hg4:=blk_cell HS.out.blk 4;have hg5:=blk_cell HS.out.blk 5;have hg6:=blk_cell HS.out.blk 6;have hg7:=blk_cell HS.out.blk 7;have hg8:=blk_cell HS.out.blk 8;have hg9:=blk_cell HS.out.blk 9;clear hq0 hq1 hq2 hq3 hq4 hq5 hq6 hq7 hq8 hq9 hq10;have d3a:=eq_true d3.1;have d3b:=eq_true d3.2;clear d3;generalize hy:rd_T26 l0 j2 = y at *;clear hy;by_cases d4:y.f1 = 1
             ·rw [if_pos d4] at AV;obtain rfl:=Option.some.inj AV;have d4b:(y.f1 != 1) = false:=bne_eq_false_iff_eq.mpr d4;have d4c:(y.f1 == 1) = true:=beq_iff_eq.mpr d4;clear d4 AV;cases hm:creelref_EntriesFault.meta y x with
              | true =>
               have d5:((y.f3).f0 == (x.f3).f0 && ((y.f3).f1 == (x.f3).f1 && ((y.f3).f2 == (x.f3).f2 && ((y.f3).f3.toList == (x.f3).f3.toList && ((y.f3).f4.toList == (x.f3).f4.toList && ((y.f3).f5 == (x.f3).f5 && ((y.f3).f6 == (x.f3).f6))))))) = true:=hm;rw [hm] at HAS;clear hm;have AS:=HAS.out;rw [if_neg (by decide)] at AS;obtain rfl:=Option.some.inj AS;have H:=HH.out;rw [if_pos rfl] at H;have H':=Aside0.mk H;clear H AS HH HAS;go_wp2;go_quiet (fail)
               go_wp2;go_roundg k1
               case measure=>have:=HK1.out;omega
               case rel=>exact ⟨n + 1,by go_num,⟨HLT.out⟩,H',⟨by have:=HK1.out;omega⟩,⟨(HS.out.drewN _).below⟩⟩
              | false =>
               have d5:((y.f3).f0 == (x.f3).f0 && ((y.f3).f1 == (x.f3).f1 && ((y.f3).f2 == (x.f3).f2 && ((y.f3).f3.toList == (x.f3).f3.toList && ((y.f3).f4.toList == (x.f3).f4.toList && ((y.f3).f5 == (x.f3).f5 && ((y.f3).f6 == (x.f3).f6))))))) = false:=hm;rw [hm] at HAS;clear hm;have AS:=HAS.out;rw [if_pos (by decide)] at AS;obtain rfl:=Option.some.inj AS;have H:=HH.out;rw [if_neg (by decide)] at H;obtain rfl:=Option.some.inj H;clear H AS HH HAS;go_wp2;go_quiet (fail)
               go_wp2;go_ret
               exact ⟨rfl,(HS.out.drewN _).below⟩
             ·rw [if_neg d4] at AV;obtain rfl:=Option.some.inj AV;have d4b:(y.f1 != 1) = true:=bne_iff_ne.mpr d4;have d4c:(y.f1 == 1) = false:=beq_eq_false_iff_ne.mpr d4;clear d4 AV;have AS:=HAS.out;rw [if_pos (by decide)] at AS;obtain rfl:=Option.some.inj AS;have H:=HH.out;rw [if_neg (by decide)] at H;obtain rfl:=Option.some.inj H;clear H AS HH HAS;go_wp2;go_quiet (fail)
              go_wp2;go_ret
              exact ⟨rfl,(HS.out.drewN _).below⟩
            ·rw [if_neg d3] at AV;cases AV
          ·rw [if_neg d1] at AV;obtain rfl:=Option.some.inj AV;have d1b:(x.f1 == 4) = false:=beq_eq_false_iff_ne.mpr d1;clear d1 AV;have AS:=HAS.out;rw [if_neg (by decide)] at AS;obtain rfl:=Option.some.inj AS;have H:=HH.out;rw [if_pos rfl] at H;have H':=Aside0.mk H;clear H AS HH HAS;go_wp2;go_quiet (fail)
           go_wp2;go_roundg k1
           case measure=>have:=HK1.out;omega
           case rel=>exact ⟨n + 1,by go_num,⟨HLT.out⟩,H',⟨by have:=HK1.out;omega⟩,⟨(HS.out.drewN _).below⟩⟩
     ·rw [if_neg c6] at AS;obtain rfl:=Option.some.inj AS;rw [if_neg c6] at H;obtain rfl:=Option.some.inj H;have c6a:(e1 == 0) = false:=beq_eq_false_iff_ne.mpr c6;have c6b:(e1 != 0) = true:=bne_iff_ne.mpr c6;clear c6 H;go_wp2_with (first|((with_reducible refine gate_dst (N:=19) rfl ?_);refine load_event (ad:=ad.add (n * 11)) rfl rfl hu26 rfl rfl (cs:=[.string (x).f0,.int .i64 (x).f1,.string (x).f2,.int .i64 (x).f3.f0,.int .i64 (x).f3.f1,.int .i64 (x).f3.f2,.string (x).f3.f3,.string (x).f3.f4,.int .i64 (x).f3.f5,.int .i64 (x).f3.f6,.slice A10 (x).f4.length c10]) sz26 (fun j v hv=>(HB.out.cell (World.block_lt_of_cell? w _ (HXC.out j v hv))).trans (HXC.out j v hv)) ?_)|((with_reducible refine gate_dst (N:=4) rfl ?_);refine box_event ?hg (N:=4) ?hd (cs:=#[.string (⟨#[]⟩:ByteArray),.int .i64 0,.string (⟨#[]⟩:ByteArray),.int .i64 0,.int .i64 0,.int .i64 0,.string (⟨#[]⟩:ByteArray),.string (⟨#[]⟩:ByteArray),.int .i64 0,.int .i64 0,.slice none 0 0]) (t:=26) ?hr ?_;(case hd=>rfl);(case hg=>rfl);(case hr=>first|(go_simp;done)|(go_simp;rfl));intro gb hg w2 hbox hb2;have HS:=Aside0.mk (Held.box HB.out hg hbox hb2);clear hg hbox hb2 HB)|((with_reducible refine gate_store (t:=26) (p:=4) rfl ?_);refine put_event rfl rfl rfl rfl rfl HS.out.blk sz26 rfl rfl ?_;intro w3 hk3 hg3;have HS3:=Aside0.mk (HS.out.put hk3 hg3);clear HS hk3 hg3;have HS:=HS3;clear HS3)|((with_reducible refine gate_dst (N:=20) rfl ?_);refine load_event rfl rfl hu26 rfl rfl (cs:=[.string (x).f0,.int .i64 (x).f1,.string (x).f2,.int .i64 (x).f3.f0,.int .i64 (x).f3.f1,.int .i64 (x).f3.f2,.string (x).f3.f3,.string (x).f3.f4,.int .i64 (x).f3.f5,.int .i64 (x).f3.f6,.slice A10 (x).f4.length c10]) sz26 (cells_of_blk HS.out.blk) ?_)|(go_at_call 73;refine (rEF.calls k1 (x).f0 (x).f1 (x).f2 (x).f3.f0 (x).f3.f1 (x).f3.f2 (x).f3.f3 (x).f3.f4 (x).f3.f5 (x).f3.f6 A10 c10 (x).f4 e1 _ (Kd.C_below HX.out HS.out.below) HL.out HAR.out).mono ?_;rintro e w3 ⟨rfl,hb3⟩;have HS3:=Aside0.mk (HS.out.step hb3);clear HS hb3;have HS:=HS3;clear HS3))
      go_ret
      exact ⟨rfl,HS.out.below⟩
    ·rw [if_neg c3] at H;obtain rfl:=Option.some.inj H;have c3b:decide ((n:Int) < (l0.length:Int)) = false:=decide_eq_false (by omega);have c3c:decide (n < l0.length) = false:=decide_eq_false c3;have c3d:=eq_false c3;clear c3 H;go_wp2;go_ret
     exact ⟨rfl,HB.out⟩
end Go.Proofs.YtenbelecmmpdgaaGreatDoor.All
end
