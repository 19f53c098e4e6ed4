/- Made by programs of the prover: walks of Go functions, the words that they use, and plain laws, each text in a section of its own; no condition of its own. -/
import Derived.Test.YtenbelecmmpdgaaGreatDoorZWriteArchives2
import Derived.Test.YtenbelecmmpdgaaGreatDoorZWriteArchives3
import Derived.Test.YtenbelecmmpdgaaGreatDoorZWriteArchives4
section
namespace Go.Proofs.YtenbelecmmpdgaaGreatDoor.All
open Go.RowKit Go.Proofs.YtenbelecmmpdgaaGreatDoorW.PrintWords Go.Proofs.YtenbelecmmpdgaaGreatDoorW.PrintLast Go.Proofs.YtenbelecmmpdgaaGreatDoorW.PrintMore
open Go.Proofs.YtenbelecmmpdgaaGreatDoorW.Mine
attribute [local go_sem] gtr_string leq_string geq_string
attribute [local go_sem] max2_int min2_int max_two min_two max_three min_three max_four min_four
set_option linter.unusedVariables false
set_option linter.unusedSimpArgs false
def record_Write.l0:Nat→ByteArray→Int→Option (ByteArray × Int)
 | 0,_,_=>none
 | k + 1,x5,x6=>(strconv_Itoa_76.f x6).bind fun t103=>(if x6 = (wrap64 ((x5.size:Int) + (t103.size:Int))) then ((strconv_Itoa_76.f x6).bind fun t104=>(if t104.size + x5.size ≤ 9223372036854775807 then (some (t104 ++ x5,0)) else (none))) else (record_Write.l0 k x5 (wrap64 (x6 + 1))))
def record_Write.f (k:Nat) (a0_0:ByteArray) (a0_1:ByteArray):Option (ByteArray × Int):=(record_Check.f k a0_0 a0_1).bind fun t102=>(if t102 = 0 then (if 1 + a0_0.size ≤ 9223372036854775807 then (if ((⟨#[32]⟩:ByteArray) ++ a0_0).size + 1 ≤ 9223372036854775807 then (if (((⟨#[32]⟩:ByteArray) ++ a0_0) ++ (⟨#[61]⟩:ByteArray)).size + a0_1.size ≤ 9223372036854775807 then (if ((((⟨#[32]⟩:ByteArray) ++ a0_0) ++ (⟨#[61]⟩:ByteArray)) ++ a0_1).size + 1 ≤ 9223372036854775807 then (record_Write.l0 k (((((⟨#[32]⟩:ByteArray) ++ a0_0) ++ (⟨#[61]⟩:ByteArray)) ++ a0_1) ++ (⟨#[10]⟩:ByteArray)) (wrap64 (((((((⟨#[32]⟩:ByteArray) ++ a0_0) ++ (⟨#[61]⟩:ByteArray)) ++ a0_1) ++ (⟨#[10]⟩:ByteArray)).size:Int) + 1))) else (none)) else (none)) else (none)) else (none)) else (some ((⟨#[]⟩:ByteArray),t102)))
theorem record_Write.mono_l:∀ k,(∀ y0 y1,LeO (record_Write.l0 k y0 y1) (record_Write.l0 (k + 1) y0 y1))
 | 0=>fun _ _ r h=>by simp [record_Write.l0] at h
 | k + 1=>by
  have ih0:=record_Write.mono_l k
  ·intro y0 y1
   unfold record_Write.l0
   repeat' first
   | (with_reducible exact ih0 _ _)
   | (with_reducible exact record_Check.mono _ _ _)
   | (with_reducible exact LeO.refl _)
   | (with_reducible exact LeO.none _)
   | (with_reducible refine LeO.ite ?_ ?_)
   | (with_reducible refine LeO.bind ?_ (fun _=>?_))
   | exact ih0 _ _
   | exact record_Check.mono _ _ _
   | exact LeO.none _
   | refine LeO.ite ?_ ?_
   | refine LeO.bind ?_ (fun _=>?_)
theorem record_Write.mono:∀ a0 a1 k,LeO (record_Write.f k a0 a1) (record_Write.f (k + 1) a0 a1):=by
 intro a0 a1 k;have ih0:=record_Write.mono_l k;unfold record_Write.f;repeat' first
  | (with_reducible exact ih0 _ _)
  | (with_reducible exact record_Check.mono _ _ _)
  | (with_reducible exact LeO.refl _)
  | (with_reducible exact LeO.none _)
  | (with_reducible refine LeO.ite ?_ ?_)
  | (with_reducible refine LeO.bind ?_ (fun _=>?_))
  | exact ih0 _ _
  | exact record_Check.mono _ _ _
  | exact LeO.none _
  | refine LeO.ite ?_ ?_
  | refine LeO.bind ?_ (fun _=>?_)
set_option maxHeartbeats 8000000 in
set_option maxRecDepth 100000 in
theorem record_Write.calls (k:Nat) (a0_0:ByteArray) (a0_1:ByteArray) (r1:ByteArray) (r2:Int) (w:World) (HT0:Aside0 (Tab w)) (h:record_Write.f k a0_0 a0_1 = some (r1,r2)) :
 Calls Tryz.prog 64 #[.agg #[.string a0_0,.string a0_1]] w fun e w'=>e = .returned (.tuple #[.string r1,.int .i64 r2])∧Below w.heap.size w w':=by
 have hu78:=Tryz.underlying78;have HB:=Aside0.mk (Below.refl w.heap.size w);have H:((record_Check.f k a0_0 a0_1).bind fun t102=>(if t102 = 0 then (if 1 + a0_0.size ≤ 9223372036854775807 then (if ((⟨#[32]⟩:ByteArray) ++ a0_0).size + 1 ≤ 9223372036854775807 then (if (((⟨#[32]⟩:ByteArray) ++ a0_0) ++ (⟨#[61]⟩:ByteArray)).size + a0_1.size ≤ 9223372036854775807 then (if ((((⟨#[32]⟩:ByteArray) ++ a0_0) ++ (⟨#[61]⟩:ByteArray)) ++ a0_1).size + 1 ≤ 9223372036854775807 then (record_Write.l0 k (((((⟨#[32]⟩:ByteArray) ++ a0_0) ++ (⟨#[61]⟩:ByteArray)) ++ a0_1) ++ (⟨#[10]⟩:ByteArray)) (wrap64 (((((((⟨#[32]⟩:ByteArray) ++ a0_0) ++ (⟨#[61]⟩:ByteArray)) ++ a0_1) ++ (⟨#[10]⟩:ByteArray)).size:Int) + 1))) else (none)) else (none)) else (none)) else (none)) else (some ((⟨#[]⟩:ByteArray),t102)))) = some (r1,r2):=h;clear h;replace H:=Option.bind_eq_some_iff.mp H;obtain ⟨t102,A20,H⟩:=H;replace H:(if t102 = 0 then (if 1 + a0_0.size ≤ 9223372036854775807 then (if ((⟨#[32]⟩:ByteArray) ++ a0_0).size + 1 ≤ 9223372036854775807 then (if (((⟨#[32]⟩:ByteArray) ++ a0_0) ++ (⟨#[61]⟩:ByteArray)).size + a0_1.size ≤ 9223372036854775807 then (if ((((⟨#[32]⟩:ByteArray) ++ a0_0) ++ (⟨#[61]⟩:ByteArray)) ++ a0_1).size + 1 ≤ 9223372036854775807 then (record_Write.l0 k (((((⟨#[32]⟩:ByteArray) ++ a0_0) ++ (⟨#[61]⟩:ByteArray)) ++ a0_1) ++ (⟨#[10]⟩:ByteArray)) (wrap64 (((((((⟨#[32]⟩:ByteArray) ++ a0_0) ++ (⟨#[61]⟩:ByteArray)) ++ a0_1) ++ (⟨#[10]⟩:ByteArray)).size:Int) + 1))) else (none)) else (none)) else (none)) else (none)) else (some ((⟨#[]⟩:ByteArray),t102))) = some (r1,r2):=H;have A2:=Aside0.mk A20;clear A20;by_cases c3:t102 = 0
 ·rw [if_pos c3] at H;have c3b0:(t102 == 0) = true:=beq_iff_eq.mpr c3;have c3b1:(t102 != 0) = false:=bne_eq_false_iff_eq.mpr c3;clear c3;by_cases c4:1 + a0_0.size ≤ 9223372036854775807
  ·rw [if_pos c4] at H;have c4b0:=eq_true c4;have c4b1:decide (1 + a0_0.size ≤ 9223372036854775807) = true:=decide_eq_true c4;try have c4b2:(9223372036854775807 < 1 + a0_0.size) = False:=eq_false (Nat.not_lt.2 c4)
   by_cases c5:((⟨#[32]⟩:ByteArray) ++ a0_0).size + 1 ≤ 9223372036854775807
   ·rw [if_pos c5] at H;have c5b0:=eq_true c5;have c5b1:decide (((⟨#[32]⟩:ByteArray) ++ a0_0).size + 1 ≤ 9223372036854775807) = true:=decide_eq_true c5;try have c5b2:(9223372036854775807 < ((⟨#[32]⟩:ByteArray) ++ a0_0).size + 1) = False:=eq_false (Nat.not_lt.2 c5)
    have c5b9_:(9223372036854775807 < 1 + a0_0.size + 1) = False:=eq_false (by have h_:=c5;simp only [ByteArray.size_append] at h_;first|omega|(have h1_:∀ b:UInt8,(⟨#[b]⟩:ByteArray).size = 1:=fun _=>rfl;simp only [h1_] at h_;omega));by_cases c6:(((⟨#[32]⟩:ByteArray) ++ a0_0) ++ (⟨#[61]⟩:ByteArray)).size + a0_1.size ≤ 9223372036854775807
    ·rw [if_pos c6] at H;have c6b0:=eq_true c6;have c6b1:decide ((((⟨#[32]⟩:ByteArray) ++ a0_0) ++ (⟨#[61]⟩:ByteArray)).size + a0_1.size ≤ 9223372036854775807) = true:=decide_eq_true c6;try have c6b2:(9223372036854775807 < (((⟨#[32]⟩:ByteArray) ++ a0_0) ++ (⟨#[61]⟩:ByteArray)).size + a0_1.size) = False:=eq_false (Nat.not_lt.2 c6)
     have c6b9_:(9223372036854775807 < 1 + a0_0.size + 1 + a0_1.size) = False:=eq_false (by have h_:=c6;simp only [ByteArray.size_append] at h_;first|omega|(have h1_:∀ b:UInt8,(⟨#[b]⟩:ByteArray).size = 1:=fun _=>rfl;simp only [h1_] at h_;omega));by_cases c7:((((⟨#[32]⟩:ByteArray) ++ a0_0) ++ (⟨#[61]⟩:ByteArray)) ++ a0_1).size + 1 ≤ 9223372036854775807
     ·rw [if_pos c7] at H;have c7b0:=eq_true c7;have c7b1:decide (((((⟨#[32]⟩:ByteArray) ++ a0_0) ++ (⟨#[61]⟩:ByteArray)) ++ a0_1).size + 1 ≤ 9223372036854775807) = true:=decide_eq_true c7;try have c7b2:(9223372036854775807 < ((((⟨#[32]⟩:ByteArray) ++ a0_0) ++ (⟨#[61]⟩:ByteArray)) ++ a0_1).size + 1) = False:=eq_false (Nat.not_lt.2 c7)
      have c7b9_:(9223372036854775807 < 1 + a0_0.size + 1 + a0_1.size + 1) = False:=eq_false (by have h_:=c7;simp only [ByteArray.size_append] at h_;first|omega|(have h1_:∀ b:UInt8,(⟨#[b]⟩:ByteArray).size = 1:=fun _=>rfl;simp only [h1_] at h_;omega));have H':=Aside0.mk H;clear H;go_enter Tryz.func64,Tryz.ntmps64;go_wp2_with (first|((with_reducible refine gate_dst (N:=1) rfl ?_);refine box_event ?hg (N:=1) ?hd (cs:=#[.string a0_0,.string a0_1]) (t:=78) ?hr ?_;(case hd=>rfl);(case hg=>rfl);(case hr=>first|(go_simp;done)|(go_simp;rfl));intro gb101 hg w8 hbox hb;have n0_:=Aside0.mk (below_step (by repeat (first|(with_reducible first|exact HB.out|apply bwA|apply pwbN|apply bw1)|exact HB.out)) hb);have n1_:=Aside0.mk (hbox);have n2_:=Aside0.mk ((by rw [hg];exact (below_size (by repeat (first|(with_reducible first|exact HB.out|apply bwA|apply pwbN|apply bw1)|exact HB.out))):w.heap.size ≤ gb101));have n3_:=Aside0.mk ((by rw [hg];exact (below_size (by repeat (first|(with_reducible first|exact HB.out|apply bwA|apply pwbN|apply bw1)|exact HB.out))):w.heap.size ≤ gb101));clear HB;have HB:=n0_;have BK101:=n1_;have GW101:=n2_;have GE101:=n3_;clear n0_ n1_ n2_ n3_;clear hb hbox hg;obtain ⟨hcz9_0,hcz9_1,hfz9_0,hfz9_1⟩:=blkA2 BK101.out)|((with_reducible refine gate_callee (f:=107) rfl ?_);refine goesL_ (some 8) rfl rfl Tryz.func107 (by kernel_rfl) rfl #[.agg #[.string a0_0,.string a0_1]] rfl (by (try simp only [List.map_toArray,List.map_cons,List.map_nil]);first|done|rfl|(simp only [List.length_drop,List.length_take];rfl)) ?_;(with_reducible refine (record_Check.calls k a0_0 a0_1 t102 _ A2.out).mono ?_);rintro e w10 ⟨rfl,hb⟩;refine ⟨_,rfl,?_⟩;have n0_:=Aside0.mk (blk_below (g:=gb101) (o := .cells #[.string a0_0,.string a0_1] 78 (0,0)) (by (with_reducible repeat (first|refine blk_drewN ?_ _|refine blk_drew ?_|refine blk_alloc ?_ _));exact BK101.out) hb);have n1_:=Aside0.mk (below_step (by repeat (first|(with_reducible first|exact HB.out|apply bwA|apply pwbN|apply bw1|refine below_set ?_ GE101.out)|exact HB.out)) hb);clear BK101;clear HB;have BK101:=n0_;have HB:=n1_;clear n0_ n1_;(try clear hb);(try clear hb2);(try clear hk);(try clear hi);obtain ⟨hcz11_0,hcz11_1,hfz11_0,hfz11_1⟩:=blkA2 BK101.out))
      go_loopg [6] k (fun kq v6 w'=>∃ (x6_1:Int),v6 = .int .i64 x6_1∧Aside0 (record_Write.l0 kq (((((⟨#[32]⟩:ByteArray) ++ a0_0) ++ (⟨#[61]⟩:ByteArray)) ++ a0_1) ++ (⟨#[10]⟩:ByteArray)) x6_1 = some (r1,r2))∧Aside0 (kq ≤ k)∧Aside0 (w'.heap[gb101]? = some (.cells #[.string a0_0,.string a0_1] 78 (0,0)))∧Aside0 (Below w.heap.size w w'))
      case atStart=>exact ⟨(wrap64 (((((((⟨#[32]⟩:ByteArray) ++ a0_0) ++ (⟨#[61]⟩:ByteArray)) ++ a0_1) ++ (⟨#[10]⟩:ByteArray)).size:Int) + 1)),(by first|rfl|(simp;done)|(have h1_:∀ b:UInt8,(⟨#[b]⟩:ByteArray).size = 1:=fun _=>rfl;simp [h1_];done)|(simp [*];done)),H',⟨Nat.le_refl _⟩,⟨by (with_reducible repeat (first|refine blk_drewN ?_ _|refine blk_drew ?_|refine blk_alloc ?_ _));exact BK101.out⟩,⟨by repeat (first|(with_reducible first|exact HB.out|apply bwA|apply pwbN|apply bw1|refine below_set ?_ GE101.out)|exact HB.out)⟩⟩
      case round =>
       clear H';repeat first|clear c3|clear c3b0|clear c3b1|clear c4|clear c4b0|clear c4b1|clear c4b2|clear c5|clear c5b0|clear c5b1|clear c5b2|clear c6|clear c6b0|clear c6b1|clear c6b2|clear c7|clear c7b0|clear c7b1|clear c7b2|clear hcz11_0|clear hcz11_1|clear hcz9_0|clear hcz9_1|clear hfz11_0|clear hfz11_1|clear hfz9_0|clear hfz9_1
       obtain ⟨x6_1,rfl,HA,HK1,BK101,HB⟩:=hrel;cases gk with
       | zero=>exact absurd HA.out (by simp [record_Write.l0])
       | succ k1 =>
        have H:=HA.out;clear HA;simp only [record_Write.l0] at H;replace H:=Option.bind_eq_some_iff.mp H;obtain ⟨t103,A120,H⟩:=H;replace H:(if x6_1 = (wrap64 (((((((⟨#[32]⟩:ByteArray) ++ a0_0) ++ (⟨#[61]⟩:ByteArray)) ++ a0_1) ++ (⟨#[10]⟩:ByteArray)).size:Int) + (t103.size:Int))) then ((strconv_Itoa_76.f x6_1).bind fun t104=>(if t104.size + (((((⟨#[32]⟩:ByteArray) ++ a0_0) ++ (⟨#[61]⟩:ByteArray)) ++ a0_1) ++ (⟨#[10]⟩:ByteArray)).size ≤ 9223372036854775807 then (some (t104 ++ (((((⟨#[32]⟩:ByteArray) ++ a0_0) ++ (⟨#[61]⟩:ByteArray)) ++ a0_1) ++ (⟨#[10]⟩:ByteArray)),0)) else (none))) else (record_Write.l0 k1 (((((⟨#[32]⟩:ByteArray) ++ a0_0) ++ (⟨#[61]⟩:ByteArray)) ++ a0_1) ++ (⟨#[10]⟩:ByteArray)) (wrap64 (x6_1 + 1)))) = some (r1,r2):=H;have A12:=Aside0.mk A120;clear A120;by_cases c13:x6_1 = (wrap64 (((((((⟨#[32]⟩:ByteArray) ++ a0_0) ++ (⟨#[61]⟩:ByteArray)) ++ a0_1) ++ (⟨#[10]⟩:ByteArray)).size:Int) + (t103.size:Int)))
        ·rw [if_pos c13] at H;have c13b0:(x6_1 == (wrap64 (((((((⟨#[32]⟩:ByteArray) ++ a0_0) ++ (⟨#[61]⟩:ByteArray)) ++ a0_1) ++ (⟨#[10]⟩:ByteArray)).size:Int) + (t103.size:Int)))) = true:=beq_iff_eq.mpr c13;have c13b0f:(x6_1 == (wrap64 ((1 + (a0_0.size:Int) + 1 + (a0_1.size:Int) + 1) + (t103.size:Int)))) = true:=by
          have h1_:∀ b:UInt8,(⟨#[b]⟩:ByteArray).size = 1:=fun _=>rfl
          have e_:((((((⟨#[32]⟩:ByteArray) ++ a0_0) ++ (⟨#[61]⟩:ByteArray)) ++ a0_1) ++ (⟨#[10]⟩:ByteArray)).size:Int) = (1 + (a0_0.size:Int) + 1 + (a0_1.size:Int) + 1:Int):=by simp only [ByteArray.size_append,h1_];omega
          rw [← e_];exact c13b0
         have c13b1:(x6_1 != (wrap64 (((((((⟨#[32]⟩:ByteArray) ++ a0_0) ++ (⟨#[61]⟩:ByteArray)) ++ a0_1) ++ (⟨#[10]⟩:ByteArray)).size:Int) + (t103.size:Int)))) = false:=bne_eq_false_iff_eq.mpr c13;have c13b1f:(x6_1 != (wrap64 ((1 + (a0_0.size:Int) + 1 + (a0_1.size:Int) + 1) + (t103.size:Int)))) = false:=by
          have h1_:∀ b:UInt8,(⟨#[b]⟩:ByteArray).size = 1:=fun _=>rfl
          have e_:((((((⟨#[32]⟩:ByteArray) ++ a0_0) ++ (⟨#[61]⟩:ByteArray)) ++ a0_1) ++ (⟨#[10]⟩:ByteArray)).size:Int) = (1 + (a0_0.size:Int) + 1 + (a0_1.size:Int) + 1:Int):=by simp only [ByteArray.size_append,h1_];omega
          rw [← e_];exact c13b1
         clear c13;replace H:=Option.bind_eq_some_iff.mp H;obtain ⟨t104,A140,H⟩:=H;replace H:(if t104.size + (((((⟨#[32]⟩:ByteArray) ++ a0_0) ++ (⟨#[61]⟩:ByteArray)) ++ a0_1) ++ (⟨#[10]⟩:ByteArray)).size ≤ 9223372036854775807 then (some (t104 ++ (((((⟨#[32]⟩:ByteArray) ++ a0_0) ++ (⟨#[61]⟩:ByteArray)) ++ a0_1) ++ (⟨#[10]⟩:ByteArray)),0)) else (none)) = some (r1,r2):=H;have A14:=Aside0.mk A140;clear A140;by_cases c15:t104.size + (((((⟨#[32]⟩:ByteArray) ++ a0_0) ++ (⟨#[61]⟩:ByteArray)) ++ a0_1) ++ (⟨#[10]⟩:ByteArray)).size ≤ 9223372036854775807
         ·rw [if_pos c15] at H;have c15b0:=eq_true c15;have c15b1:decide (t104.size + (((((⟨#[32]⟩:ByteArray) ++ a0_0) ++ (⟨#[61]⟩:ByteArray)) ++ a0_1) ++ (⟨#[10]⟩:ByteArray)).size ≤ 9223372036854775807) = true:=decide_eq_true c15;try have c15b2:(9223372036854775807 < t104.size + (((((⟨#[32]⟩:ByteArray) ++ a0_0) ++ (⟨#[61]⟩:ByteArray)) ++ a0_1) ++ (⟨#[10]⟩:ByteArray)).size) = False:=eq_false (Nat.not_lt.2 c15)
          have c15b9_:(9223372036854775807 < t104.size + 1 + a0_0.size + 1 + a0_1.size + 1) = False:=eq_false (by have h_:=c15;simp only [ByteArray.size_append] at h_;first|omega|(have h1_:∀ b:UInt8,(⟨#[b]⟩:ByteArray).size = 1:=fun _=>rfl;simp only [h1_] at h_;omega));simp only [Option.some.injEq,Prod.mk.injEq] at H;obtain ⟨rfl,rfl⟩:=H;go_wp2_with (first|((with_reducible refine gate_callee (f:=76) rfl ?_);refine goesL_ (some 27) rfl rfl Tryz.func76 (by kernel_rfl) rfl #[.int .i64 x6_1] rfl (by (try simp only [List.map_toArray,List.map_cons,List.map_nil]);first|done|rfl|(simp only [List.length_drop,List.length_take];rfl)) ?_;(with_reducible refine (strconv_Itoa_76.calls x6_1 t103 _ (by first|exact HT0|exact ⟨tab_on HT0.out HB.out⟩|exact ⟨tab_on HT0.out (by repeat (first|(with_reducible first|exact HB.out|apply bwA|apply pwbN|apply bw1)|exact HB.out|exact Below.refl _ _))⟩) A12.out).mono ?_);rintro e w16 ⟨rfl,hb⟩;refine ⟨_,rfl,?_⟩;have n0_:=Aside0.mk (blk_below (g:=gb101) (o := .cells #[.string a0_0,.string a0_1] 78 (0,0)) (by (with_reducible repeat (first|refine blk_drewN ?_ _|refine blk_drew ?_|refine blk_alloc ?_ _));exact BK101.out) hb);have n1_:=Aside0.mk (below_step (by repeat (first|(with_reducible first|exact HB.out|apply bwA|apply pwbN|apply bw1|refine below_set ?_ GE101.out)|exact HB.out)) hb);clear BK101;clear HB;have BK101:=n0_;have HB:=n1_;clear n0_ n1_;(try clear hb);(try clear hb2);(try clear hk);(try clear hi))|((with_reducible refine gate_callee (f:=76) rfl ?_);refine goesL_ (some 34) rfl rfl Tryz.func76 (by kernel_rfl) rfl #[.int .i64 x6_1] rfl (by (try simp only [List.map_toArray,List.map_cons,List.map_nil]);first|done|rfl|(simp only [List.length_drop,List.length_take];rfl)) ?_;(with_reducible refine (strconv_Itoa_76.calls x6_1 t104 _ (by first|exact HT0|exact ⟨tab_on HT0.out HB.out⟩|exact ⟨tab_on HT0.out (by repeat (first|(with_reducible first|exact HB.out|apply bwA|apply pwbN|apply bw1)|exact HB.out|exact Below.refl _ _))⟩) A14.out).mono ?_);rintro e w17 ⟨rfl,hb⟩;refine ⟨_,rfl,?_⟩;have n0_:=Aside0.mk (blk_below (g:=gb101) (o := .cells #[.string a0_0,.string a0_1] 78 (0,0)) (by (with_reducible repeat (first|refine blk_drewN ?_ _|refine blk_drew ?_|refine blk_alloc ?_ _));exact BK101.out) hb);have n1_:=Aside0.mk (below_step (by repeat (first|(with_reducible first|exact HB.out|apply bwA|apply pwbN|apply bw1|refine below_set ?_ GE101.out)|exact HB.out)) hb);clear BK101;clear HB;have BK101:=n0_;have HB:=n1_;clear n0_ n1_;(try clear hb);(try clear hb2);(try clear hk);(try clear hi)))
          go_ret2
          exact ⟨by first|rfl|(simp [errW_none,errW_some] <;> rfl)|(simp [*,errW_none,errW_some] <;> rfl),by repeat (first|(with_reducible first|exact HB.out|apply bwA|apply pwbN|apply bw1|refine below_set ?_ GE101.out)|exact HB.out)⟩
         ·rw [if_neg c15] at H;exact absurd H (by simp)
        ·rw [if_neg c13] at H;have c13b0:(x6_1 == (wrap64 (((((((⟨#[32]⟩:ByteArray) ++ a0_0) ++ (⟨#[61]⟩:ByteArray)) ++ a0_1) ++ (⟨#[10]⟩:ByteArray)).size:Int) + (t103.size:Int)))) = false:=beq_eq_false_iff_ne.mpr c13;have c13b0f:(x6_1 == (wrap64 ((1 + (a0_0.size:Int) + 1 + (a0_1.size:Int) + 1) + (t103.size:Int)))) = false:=by
          have h1_:∀ b:UInt8,(⟨#[b]⟩:ByteArray).size = 1:=fun _=>rfl
          have e_:((((((⟨#[32]⟩:ByteArray) ++ a0_0) ++ (⟨#[61]⟩:ByteArray)) ++ a0_1) ++ (⟨#[10]⟩:ByteArray)).size:Int) = (1 + (a0_0.size:Int) + 1 + (a0_1.size:Int) + 1:Int):=by simp only [ByteArray.size_append,h1_];omega
          rw [← e_];exact c13b0
         have c13b1:(x6_1 != (wrap64 (((((((⟨#[32]⟩:ByteArray) ++ a0_0) ++ (⟨#[61]⟩:ByteArray)) ++ a0_1) ++ (⟨#[10]⟩:ByteArray)).size:Int) + (t103.size:Int)))) = true:=bne_iff_ne.mpr c13;have c13b1f:(x6_1 != (wrap64 ((1 + (a0_0.size:Int) + 1 + (a0_1.size:Int) + 1) + (t103.size:Int)))) = true:=by
          have h1_:∀ b:UInt8,(⟨#[b]⟩:ByteArray).size = 1:=fun _=>rfl
          have e_:((((((⟨#[32]⟩:ByteArray) ++ a0_0) ++ (⟨#[61]⟩:ByteArray)) ++ a0_1) ++ (⟨#[10]⟩:ByteArray)).size:Int) = (1 + (a0_0.size:Int) + 1 + (a0_1.size:Int) + 1:Int):=by simp only [ByteArray.size_append,h1_];omega
          rw [← e_];exact c13b1
         have H':=Aside0.mk H;clear H;go_wp2_with (first|((with_reducible refine gate_callee (f:=76) rfl ?_);refine goesL_ (some 27) rfl rfl Tryz.func76 (by kernel_rfl) rfl #[.int .i64 x6_1] rfl (by (try simp only [List.map_toArray,List.map_cons,List.map_nil]);first|done|rfl|(simp only [List.length_drop,List.length_take];rfl)) ?_;(with_reducible refine (strconv_Itoa_76.calls x6_1 t103 _ (by first|exact HT0|exact ⟨tab_on HT0.out HB.out⟩|exact ⟨tab_on HT0.out (by repeat (first|(with_reducible first|exact HB.out|apply bwA|apply pwbN|apply bw1)|exact HB.out|exact Below.refl _ _))⟩) A12.out).mono ?_);rintro e w18 ⟨rfl,hb⟩;refine ⟨_,rfl,?_⟩;have n0_:=Aside0.mk (blk_below (g:=gb101) (o := .cells #[.string a0_0,.string a0_1] 78 (0,0)) (by (with_reducible repeat (first|refine blk_drewN ?_ _|refine blk_drew ?_|refine blk_alloc ?_ _));exact BK101.out) hb);have n1_:=Aside0.mk (below_step (by repeat (first|(with_reducible first|exact HB.out|apply bwA|apply pwbN|apply bw1|refine below_set ?_ GE101.out)|exact HB.out)) hb);clear BK101;clear HB;have BK101:=n0_;have HB:=n1_;clear n0_ n1_;(try clear hb);(try clear hb2);(try clear hk);(try clear hi)))
         go_roundg k1
         case measure=>have:=HK1.out;omega
         case rel=>exact ⟨(wrap64 (x6_1 + 1)),(by first|rfl|(simp;done)|(have h1_:∀ b:UInt8,(⟨#[b]⟩:ByteArray).size = 1:=fun _=>rfl;simp [h1_];done)|(simp [*];done)),H',⟨by have:=HK1.out;omega⟩,⟨by (with_reducible repeat (first|refine blk_drewN ?_ _|refine blk_drew ?_|refine blk_alloc ?_ _));exact BK101.out⟩,⟨by repeat (first|(with_reducible first|exact HB.out|apply bwA|apply pwbN|apply bw1|refine below_set ?_ GE101.out)|exact HB.out)⟩⟩
     ·rw [if_neg c7] at H;exact absurd H (by simp)
    ·rw [if_neg c6] at H;exact absurd H (by simp)
   ·rw [if_neg c5] at H;exact absurd H (by simp)
  ·rw [if_neg c4] at H;exact absurd H (by simp)
 ·rw [if_neg c3] at H;have c3b0:(t102 == 0) = false:=beq_eq_false_iff_ne.mpr c3;have c3b1:(t102 != 0) = true:=bne_iff_ne.mpr c3;simp only [Option.some.injEq,Prod.mk.injEq] at H;obtain ⟨rfl,rfl⟩:=H;go_enter Tryz.func64,Tryz.ntmps64;go_wp2_with (first|((with_reducible refine gate_dst (N:=1) rfl ?_);refine box_event ?hg (N:=1) ?hd (cs:=#[.string a0_0,.string a0_1]) (t:=78) ?hr ?_;(case hd=>rfl);(case hg=>rfl);(case hr=>first|(go_simp;done)|(go_simp;rfl));intro gb101 hg w19 hbox hb;have n0_:=Aside0.mk (below_step (by repeat (first|(with_reducible first|exact HB.out|apply bwA|apply pwbN|apply bw1)|exact HB.out)) hb);have n1_:=Aside0.mk (hbox);have n2_:=Aside0.mk ((by rw [hg];exact (below_size (by repeat (first|(with_reducible first|exact HB.out|apply bwA|apply pwbN|apply bw1)|exact HB.out))):w.heap.size ≤ gb101));have n3_:=Aside0.mk ((by rw [hg];exact (below_size (by repeat (first|(with_reducible first|exact HB.out|apply bwA|apply pwbN|apply bw1)|exact HB.out))):w.heap.size ≤ gb101));clear HB;have HB:=n0_;have BK101:=n1_;have GW101:=n2_;have GE101:=n3_;clear n0_ n1_ n2_ n3_;clear hb hbox hg;obtain ⟨_,_,_,_⟩:=blkA2 BK101.out)|((with_reducible refine gate_callee (f:=107) rfl ?_);refine goesL_ (some 8) rfl rfl Tryz.func107 (by kernel_rfl) rfl #[.agg #[.string a0_0,.string a0_1]] rfl (by (try simp only [List.map_toArray,List.map_cons,List.map_nil]);first|done|rfl|(simp only [List.length_drop,List.length_take];rfl)) ?_;(with_reducible refine (record_Check.calls k a0_0 a0_1 t102 _ A2.out).mono ?_);rintro e w21 ⟨rfl,hb⟩;refine ⟨_,rfl,?_⟩;have n0_:=Aside0.mk (blk_below (g:=gb101) (o := .cells #[.string a0_0,.string a0_1] 78 (0,0)) (by (with_reducible repeat (first|refine blk_drewN ?_ _|refine blk_drew ?_|refine blk_alloc ?_ _));exact BK101.out) hb);have n1_:=Aside0.mk (below_step (by repeat (first|(with_reducible first|exact HB.out|apply bwA|apply pwbN|apply bw1|refine below_set ?_ GE101.out)|exact HB.out)) hb);clear BK101;clear HB;have BK101:=n0_;have HB:=n1_;clear n0_ n1_;(try clear hb);(try clear hb2);(try clear hk);(try clear hi)))
  go_ret2
  exact ⟨by first|rfl|(simp [errW_none,errW_some] <;> rfl)|(simp [*,errW_none,errW_some] <;> rfl),by repeat (first|(with_reducible first|exact HB.out|apply bwA|apply pwbN|apply bw1|refine below_set ?_ GE101.out)|exact HB.out)⟩
theorem pax_Write.sizeB:(Tryz.prog.info? 104).map (·.size) = some 2:=by kernel_rfl
theorem pax_Write.liesB:liesAt Tryz.prog Tryz.prog.depth 104 (2 / Tryz.prog.cellsOf 104) 0 104 1 = true:=by kernel_rfl
theorem pax_Write.infoB:(Tryz.prog.info? 5).map (fun i=>(i.zero,i.size,i.bytes)) = some (some (.int .u8 0),1,1):=by kernel_rfl
set_option maxHeartbeats 1000000 in
set_option maxRecDepth 100000 in
theorem pax_Write.copy_used (b:Nat) (w:World) (h0:w.cell? ⟨b,0,none⟩ = some (.pointer (some ⟨b,0,none⟩))) :
 Calls Tryz.prog 108 #[.pointer (some ⟨b,0,none⟩)] w fun e w'=>e = .returned (.tuple #[])∧w' = w:=by
 obtain ⟨j,hj,_⟩:=Option.map_eq_some_iff.1 pax_Write.sizeB;go_enter Tryz.func108,Tryz.ntmps108;go_wp2;rw [Lib.run_neq_ptr_same w _ Tryz.underlying102 hj];go_wp2;go_end0
 exact ⟨rfl,rfl⟩
set_option maxHeartbeats 1000000 in
set_option maxRecDepth 100000 in
theorem pax_Write.copy_fresh (b:Nat) (w:World) (h0:w.cell? ⟨b,0,none⟩ = some (.pointer none)) (hsh:w.shape? b = some (104,2)) (hfz:w.frozen? ⟨b,0,none⟩ = false) :
 Calls Tryz.prog 108 #[.pointer (some ⟨b,0,none⟩)] w fun e w'=>e = .returned (.tuple #[])∧w' = w.setCell ⟨b,0,none⟩ (.pointer (some ⟨b,0,none⟩)):=by
 obtain ⟨j,hj,hjs⟩:=Option.map_eq_some_iff.1 pax_Write.sizeB;go_enter Tryz.func108,Tryz.ntmps108;go_wp2;rw [Lib.run_to_unsafe w ⟨b,0,none⟩ Tryz.underlying102 Tryz.underlying181 hj (by rw [hjs];decide) hsh (Nat.zero_lt_succ 1)];simp only [Result.andThen];rw [Oper.upon_value];go_wp2;rw [run_callFunc_extern Tryz.func158 (by kernel_rfl) (by kernel_rfl) (by kernel_rfl) (e:=Extern.AbiNoEscape.same) (by kernel_rfl)];rw [Lib.run_noEscape];simp only [Result.andThen];rw [Oper.upon_value];go_wp2;rw [Lib.run_from_unsafe w ⟨b,0,none⟩ Tryz.underlying181 Tryz.underlying102 hj hsh pax_Write.liesB];simp only [Result.andThen];rw [Oper.upon_value];go_wp2;go_end0
 exact ⟨rfl,rfl⟩
theorem pax_Write.copy (B b:Nat) (bs:List Value) (w:World) (h:Lib.IsBuilder 104 5 B b bs w) :
 Calls Tryz.prog 108 #[.pointer (some ⟨b,0,none⟩)] w fun e w'=>e = .returned (.tuple #[])∧(Lib.BuilderAt 104 5 B b (.pointer (some ⟨b,0,none⟩)) bs w'∧Below B w w'):=by
 rcases h with h|h
 ·refine (pax_Write.copy_fresh b w h.cell0 h.shape h.frozen0).mono ?_;rintro e w' ⟨rfl,rfl⟩;exact ⟨rfl,h.used _,(Below.refl B w).setCell (p:=⟨b,0,none⟩) h.1 _⟩
 ·refine (pax_Write.copy_used b w h.cell0).mono ?_;rintro e w' ⟨rfl,rfl⟩;exact ⟨rfl,h,Below.refl B _⟩
set_option maxHeartbeats 2000000 in
set_option maxRecDepth 100000 in
theorem pax_Write.writeString (B b:Nat) (bs:List Value) (s:ByteArray) (w:World) (h:Lib.IsBuilder 104 5 B b bs w) (hlen:bs.length + s.size ≤ 140737488355328) (hBw:B ≤ w.heap.size) :
 Calls Tryz.prog 65 #[.pointer (some ⟨b,0,none⟩),.string s] w fun e w'=>e = .returned (.tuple #[.int .i64 s.size,.nilIface])∧(Lib.BuilderAt 104 5 B b (.pointer (some ⟨b,0,none⟩)) (bs ++ Lib.strCells s) w'∧Below B w w'):=by
 obtain ⟨i0,hi,hz0,hz1,hz2⟩:=info_parts pax_Write.infoB;go_enter Tryz.func65,Tryz.ntmps65;go_wp2_with (go_at_call 108;refine (pax_Write.copy B b bs _ h).mono ?_)
 rintro e w1 ⟨rfl,h1,hb1⟩;obtain ⟨hB,v,hbk,hown,hne⟩:=h1;have c0:w1.cell? ⟨b,0,none⟩ = some (.pointer (some ⟨b,0,none⟩)):=by rw [Lib.cell_of_heap hbk];rfl
 have c1:w1.cell? ⟨b,1,none⟩ = some v:=by rw [Lib.cell_of_heap hbk];rfl
 go_wp2_with (at_builtin;refine Lib.wpList_append_own_string _ rfl _ _ 24 9 rfl B 5 i0 Tryz.underlying24 Tryz.underlying9 hi hz0 hz1 hz2 _ _ _ rfl hown s rfl ?c3 ?c4 ?c5 ?_)
 case c3=>unfold maxLen;omega
 case c4=>omega
 case c5=>have:=hb1.size;omega
 intro v' w2 hown' hgrow _;have hlt:b < w1.heap.size:=by
  rcases Nat.lt_or_ge b w1.heap.size with h'|h'
  ·exact h'
  ·simp [Array.getElem?_eq_none h'] at hbk
 have hb2:w2.heap[b]? = some (.cells #[.pointer (some ⟨b,0,none⟩),v] 104 (0,0)):=by
  rw [hgrow.block b hlt (fun e=>hne e.symm)];exact hbk
 have d0:w2.cell? ⟨b,0,none⟩ = some (.pointer (some ⟨b,0,none⟩)):=by rw [Lib.cell_of_heap hb2];rfl
 have d1:w2.cell? ⟨b,1,none⟩ = some v:=by rw [Lib.cell_of_heap hb2];rfl
 have f1:w2.frozen? ⟨b,1,none⟩ = false:=Lib.frozen_of_heap hb2 1;obtain ⟨ao,n',cap,rfl⟩:∃ ao n' cap,v' = .slice ao n' cap:=by
  rcases hown'.2 with ⟨hv,_⟩|⟨g,cap,cur,hv,_⟩
  ·exact ⟨_,_,_,hv⟩
  ·exact ⟨_,_,_,hv⟩
 go_wp2;go_ret2
 refine ⟨rfl,?_,?_⟩
 ·exact Lib.BuilderAt.put (T:=104) (e:=5) hB hb2 (bs':=bs ++ Lib.strCells s) (by simpa [Lib.strCells_length] using hown') (by decide)
 ·exact (hb1.grown hgrow (by have:=hb1.size;omega) (fun k hk=>(hown.lt k hk).1)).setCell (p:=⟨b,1,none⟩) hB _
def pax_Write.l0:Nat→List (S78)→ByteArray→Int→Option (ByteArray × Int)
 | 0,_,_,_=>none
 | k + 1,l,acc,i=>if i < (l.length:Int) then (if 0 ≤ i then ((record_Write.f k ((rd_T78 l i).f0) ((rd_T78 l i).f1)).bind fun r=>if acc.size + r.1.size ≤ 140737488355328 then pax_Write.l0 k l (acc ++ r.1) (wrap64 (i + 1)) else none) else none) else some (acc,0)
def pax_Write.f (k:Nat) (l0:List (S78)):Option (ByteArray × Int):=(pax_Check.f k l0).bind fun e=>if e = 0 then pax_Write.l0 k l0 (⟨#[]⟩:ByteArray) 0 else some ((⟨#[]⟩:ByteArray),e)
theorem pax_Write.mono_l:∀ k,(∀ y0 y1 y2,LeO (pax_Write.l0 k y0 y1 y2) (pax_Write.l0 (k + 1) y0 y1 y2))
 | 0=>fun _ _ _ r h=>by simp [pax_Write.l0] at h
 | k + 1=>by
  have ih0:=pax_Write.mono_l k
  intro y0 y1 y2
  unfold pax_Write.l0
  repeat' first
   | (with_reducible exact ih0 _ _ _)
   | (with_reducible exact LeO.refl _)
   | (with_reducible exact LeO.none _)
   | (with_reducible refine LeO.ite ?_ ?_)
   | (with_reducible refine LeO.bind ?_ (fun _=>?_))
   | exact ih0 _ _ _
   | exact record_Write.mono _ _ _
   | exact LeO.none _
   | refine LeO.ite ?_ ?_
   | refine LeO.bind ?_ (fun _=>?_)
theorem pax_Write.mono:∀ a0 k,LeO (pax_Write.f k a0) (pax_Write.f (k + 1) a0):=by
 intro a0 k;have ih0:=pax_Write.mono_l k;unfold pax_Write.f;repeat' first
  | (with_reducible exact ih0 _ _ _)
  | (with_reducible exact LeO.refl _)
  | (with_reducible exact LeO.none _)
  | (with_reducible refine LeO.ite ?_ ?_)
  | (with_reducible refine LeO.bind ?_ (fun _=>?_))
  | exact ih0 _ _ _
  | exact pax_Check.mono _ _
  | exact LeO.none _
  | refine LeO.ite ?_ ?_
  | refine LeO.bind ?_ (fun _=>?_)
theorem pax_Write.keep {B b:Nat} {bs:List Value} {w w':World} (h:Lib.IsBuilder 104 5 B b bs w) (hb:Below w.heap.size w w'):Lib.IsBuilder 104 5 B b bs w':=by
 rcases h with h|h
 ·have hlt:=h.lt;obtain ⟨hB,v,hbk,hown,hne⟩:=h;exact Or.inl ⟨hB,v,(hb.block b hlt).trans hbk,hown.kept (row:=none) ⟨hb.os,hb.tape,hb.output,hb.size,fun k hk _=>hb.block k hk⟩ (by cases hv:v.ownBlock <;> simp),hne⟩
 ·have hlt:=h.lt;obtain ⟨hB,v,hbk,hown,hne⟩:=h;exact Or.inr ⟨hB,v,(hb.block b hlt).trans hbk,hown.kept (row:=none) ⟨hb.os,hb.tape,hb.output,hb.size,fun k hk _=>hb.block k hk⟩ (by cases hv:v.ownBlock <;> simp),hne⟩
set_option maxHeartbeats 8000000 in
set_option maxRecDepth 100000 in
theorem pax_Write.calls (k:Nat) (A0:Option Addr) (c0:Nat) (l0:List (S78)) (r1:ByteArray) (r2:Int) (w:World) (hr0:Kd.C k78 w A0 l0.length l0) (hc0:l0.length ≤ c0) (HT0:Aside0 (Tab w)) (h:pax_Write.f k l0 = some (r1,r2)) :
 Calls Tryz.prog 28 #[.slice A0 l0.length c0] w fun e w'=>e = .returned (.tuple #[.string r1,.int .i64 r2])∧Below w.heap.size w w':=by
 have hu78:=Tryz.underlying78;have HR0:=Aside0.mk hr0;have HC0:=Aside0.mk hc0;clear hr0 hc0;have HB:=Aside0.mk (Below.refl w.heap.size w);have H:=Option.bind_eq_some_iff.mp (show ((pax_Check.f k l0).bind fun e=>if e = 0 then pax_Write.l0 k l0 (⟨#[]⟩:ByteArray) 0 else some ((⟨#[]⟩:ByteArray),e)) = some (r1,r2) from h);clear h;obtain ⟨e0,A20,H⟩:=H;have A2:=Aside0.mk A20;clear A20;go_enter Tryz.func28,Tryz.ntmps28;by_cases c3:e0 = 0
 ·rw [if_pos c3] at H;have c3b0:(e0 == 0) = true:=beq_iff_eq.mpr c3;have c3b1:(e0 != 0) = false:=bne_eq_false_iff_eq.mpr c3;clear c3;have H':=Aside0.mk H;clear H;go_wp2_with (first|(go_at_call 63;refine (pax_Check.calls k A0 c0 l0 e0 _ HR0.out HC0.out A2.out).mono ?_;rintro e w1 ⟨rfl,hb1⟩;have HB1:=Aside0.mk hb1;clear hb1 HB;have HB:=HB1;clear HB1)|((with_reducible refine gate_dst (N:=5) rfl ?_);refine box_event ?hg (N:=5) ?hd (cs:=#[.pointer none,.slice none 0 0]) (t:=104) ?hr ?_;(case hd=>rfl);(case hg=>rfl);(case hr=>first|(go_simp;done)|(go_simp;rfl));intro gb hg w2 hbox hb2;have HK:=Aside0.mk hbox;have HG:=Aside0.mk hg;have HB2:=Aside0.mk hb2;clear hbox hg hb2))
  have HI:Aside0 (Lib.IsBuilder 104 5 w.heap.size gb (Lib.strCells ⟨#[]⟩) _):=⟨Or.inl ⟨by rw [HG.out];exact HB.out.size,.slice none 0 0,HK.out,⟨rfl,Or.inl ⟨rfl,rfl⟩⟩,by simp [Value.ownBlock]⟩⟩
  have HB3:=Aside0.mk (below_step HB.out HB2.out);clear HB HB2 HK HG;have HB:=HB3;clear HB3;go_loopg [17] k (fun kq v17 wx=>∃ (acc:ByteArray) (i:Int),v17 = .int .i64 i∧Aside0 (pax_Write.l0 kq l0 acc i = some (r1,r2))∧Aside0 (kq ≤ k)∧Aside0 (Lib.IsBuilder 104 5 w.heap.size gb (Lib.strCells acc) wx)∧Aside0 (Below w.heap.size w wx))
  case atStart=>exact ⟨⟨#[]⟩,0,rfl,H',⟨Nat.le_refl _⟩,HI,HB⟩
  case round =>
   clear H' HI HB;obtain ⟨acc,i,rfl,HA,HK1,HI,HB⟩:=hrel;cases gk with
   | zero=>exact absurd HA.out (by simp [pax_Write.l0])
   | succ k1 =>
    have H:=HA.out;clear HA;simp only [pax_Write.l0] at H;by_cases c4:i < (l0.length:Int)
    ·rw [if_pos c4] at H;have c4b0:decide (i < (l0.length:Int)) = true:=decide_eq_true c4;by_cases c5:0 ≤ i
     ·rw [if_pos c5] at H;replace H:=Option.bind_eq_some_iff.mp H;obtain ⟨⟨s,e1⟩,A60,H⟩:=H;have A6:=Aside0.mk A60;clear A60;by_cases c6:acc.size + s.size ≤ 140737488355328
      ·replace H:(if acc.size + s.size ≤ 140737488355328 then pax_Write.l0 k1 l0 (acc ++ s) (wrap64 (i + 1)) else none) = some (r1,r2):=H;rw [if_pos c6] at H;have H':=Aside0.mk H;have C6:=Aside0.mk c6;clear H c6;obtain ⟨ad,ea,hx0,hx1⟩:=at_T78 HR0.out i c5 c4;cases ea;replace hx0:=(HB.out.cell (World.block_lt_of_cell? w _ hx0)).trans hx0;replace hx1:=(HB.out.cell (World.block_lt_of_cell? w _ hx1)).trans hx1;replace c5:=eq_true c5;replace c4:=eq_true c4;go_wp2_with (first|((with_reducible refine gate_dst (N:=7) rfl ?_);refine box_event ?hg (N:=7) ?hd (cs:=#[.string (⟨#[]⟩:ByteArray),.string (⟨#[]⟩:ByteArray)]) (t:=78) ?hr ?_;(case hd=>rfl);(case hg=>rfl);(case hr=>first|(go_simp;done)|(go_simp;rfl));intro gb2 hg w2 hbox hb2;have HK2:=Aside0.mk hbox;have HG2:=Aside0.mk hg;have HB2:=Aside0.mk hb2;have hcz0:w2.cell? ⟨gb2,0,none⟩ = some (.string (⟨#[]⟩:ByteArray)):=(blk_cell HK2.out 0).trans rfl;have hcz1:w2.cell? ⟨gb2,1,none⟩ = some (.string (⟨#[]⟩:ByteArray)):=(blk_cell HK2.out 1).trans rfl;have hfz0:=blkF HK2.out 0;have hfz1:=blkF HK2.out 1;have GE2:=Aside0.mk (show w.heap.size ≤ gb2 by rw [HG2.out];exact HB.out.size);have HG2':=Aside0.mk (Nat.le_of_eq HG2.out.symm);clear hbox hg hb2)|(go_at_call 64;refine (record_Write.calls k1 _ _ s e1 _ ⟨tab_on HT0.out (by repeat (first|(with_reducible first|exact (below_step HB.out HB2.out)|apply bwA|apply pwbN|apply bw1|refine below_set ?_ GE2.out)|exact (below_step HB.out HB2.out)))⟩ A6.out).mono ?_;rintro e w3 ⟨rfl,hb3⟩;have HB3:=Aside0.mk (below_step (by repeat (first|(with_reducible first|exact (below_step HB.out HB2.out)|apply bwA|apply pwbN|apply bw1|refine below_set ?_ GE2.out)|exact (below_step HB.out HB2.out))) hb3);have HI3:=Aside0.mk (pax_Write.keep HI.out (below_step (by repeat (first|(with_reducible first|exact HB2.out|apply bwA|apply pwbN|apply bw1|refine below_set ?_ HG2'.out)|exact HB2.out)) hb3));clear hb3)|(go_at_call 65;refine (pax_Write.writeString w.heap.size gb (Lib.strCells acc) s _ HI3.out (by rw [Lib.strCells_length];exact C6.out) HB3.out.size).mono ?_;rintro e w4 ⟨rfl,hat,hb4⟩;have HI4:=Aside0.mk hat;have HB4:=Aside0.mk (HB3.out.trans hb4);clear hat hb4))
       go_roundg k1
       case measure=>have:=HK1.out;omega
       case rel=>exact ⟨acc ++ s,wrap64 (i + 1),rfl,H',⟨by have:=HK1.out;omega⟩,⟨Or.inr (by rw [show Lib.strCells (acc ++ s) = Lib.strCells acc ++ Lib.strCells s from by simp [Lib.strCells]];exact HI4.out)⟩,HB4⟩
      ·replace H:(if acc.size + s.size ≤ 140737488355328 then pax_Write.l0 k1 l0 (acc ++ s) (wrap64 (i + 1)) else none) = some (r1,r2):=H;rw [if_neg c6] at H;exact absurd H (by simp)
     ·rw [if_neg c5] at H;exact absurd H (by simp)
    ·rw [if_neg c4] at H;simp only [Option.some.injEq,Prod.mk.injEq] at H;obtain ⟨rfl,rfl⟩:=H;have c4b0:decide (i < (l0.length:Int)) = false:=decide_eq_false c4;clear c4;go_wp2_with (go_at_call 66;refine (Tryz.Builder_String_any w.heap.size gb acc.data.toList _ HI.out HB.out.size).mono ?_;rintro e w5 ⟨he,hb5⟩;rw [show (⟨acc.data.toList.toArray⟩:ByteArray) = acc from by simp] at he;subst he;have HB5:=Aside0.mk hb5;clear hb5)
     go_ret2
     exact ⟨rfl,HB.out.trans HB5.out⟩
 ·rw [if_neg c3] at H;simp only [Option.some.injEq,Prod.mk.injEq] at H;obtain ⟨rfl,rfl⟩:=H;have c3b0:(e0 == 0) = false:=beq_eq_false_iff_ne.mpr c3;have c3b1:(e0 != 0) = true:=bne_iff_ne.mpr c3;clear c3;go_wp2_with (go_at_call 63;refine (pax_Check.calls k A0 c0 l0 e0 _ HR0.out HC0.out A2.out).mono ?_;rintro e w1 ⟨rfl,hb1⟩;have HB1:=Aside0.mk hb1;clear hb1)
  go_ret2
  exact ⟨rfl,HB1.out⟩
end Go.Proofs.YtenbelecmmpdgaaGreatDoor.All
end
section
namespace Go.Proofs.YtenbelecmmpdgaaGreatDoor.All
open Go.RowKit Go.Proofs.YtenbelecmmpdgaaGreatDoorW.PrintWords Go.Proofs.YtenbelecmmpdgaaGreatDoorW.PrintLast Go.Proofs.YtenbelecmmpdgaaGreatDoorW.PrintMore
open Go.Proofs.YtenbelecmmpdgaaGreatDoorW.Mine
attribute [local go_sem] gtr_string leq_string geq_string
attribute [local go_sem] max2_int min2_int max_two min_two max_three min_three max_four min_four
set_option linter.unusedVariables false
set_option linter.unusedSimpArgs false
mutual
def field_Write.j0:Nat→ByteArray→Int→Bool→Bool→Option (ByteArray × Int)
 | 0,_,_,_,_=>none
 | k + 1,x0,x1,x2,x14=>if x14 = true then (some ((⟨#[]⟩:ByteArray),4)) else (if x2 = true then (field_Write.j1 k x0 x1 x1) else (field_Write.j1 k x0 x1 (wrap64 (x1 - 1))))
def field_Write.j1:Nat→ByteArray→Int→Int→Option (ByteArray × Int)
 | 0,_,_,_=>none
 | k + 1,x0,x1,x8=>if (x0.size:Int) > x8 then (some ((⟨#[]⟩:ByteArray),1)) else ((strings_IndexByte.f x0 0).bind fun t101=>(if t101 ≥ 0 then (some ((⟨#[]⟩:ByteArray),3)) else ((strings_Repeat.f (⟨#[0]⟩:ByteArray) (wrap64 (x1 - (x0.size:Int)))).bind fun t102=>(if x0.size + t102.size ≤ 9223372036854775807 then (some (x0 ++ t102,0)) else (none)))))
end
def field_Write.f (k:Nat) (a0:ByteArray) (a1:Int) (a2:Bool):Option (ByteArray × Int):=if a1 < 1 then (field_Write.j0 k a0 a1 a2 true) else (field_Write.j0 k a0 a1 a2 (decide (a1 > 512)))
set_option maxHeartbeats 8000000 in
set_option maxRecDepth 100000 in
theorem field_Write.calls (k:Nat) (a0:ByteArray) (a1:Int) (a2:Bool) (r1:ByteArray) (r2:Int) (w:World) (h:field_Write.f k a0 a1 a2 = some (r1,r2)) :
 Calls Tryz.prog 68 #[.string a0,.int .i64 a1,.bool a2] w fun e w'=>e = .returned (.tuple #[.string r1,.int .i64 r2])∧Below w.heap.size w w':=by
 have HB:=Aside0.mk (Below.refl w.heap.size w);have H:(if a1 < 1 then (field_Write.j0 k a0 a1 a2 true) else (field_Write.j0 k a0 a1 a2 (decide (a1 > 512)))) = some (r1,r2):=h;clear h;have HC4:=Aside0.mk H;clear H;go_enter Tryz.func68,Tryz.ntmps68;go_upto_region 1 with (fail)
 go_cut [14] (fun v14 wc=>∃ (kq:Nat) (x14_3:Bool),v14 = .bool x14_3∧Aside0 (field_Write.j0 kq a0 a1 a2 x14_3 = some (r1,r2))∧Aside0 (kq ≤ k)∧Aside0 (Below w.heap.size w wc))
 case first =>
  have H:=HC4.out;clear HC4;by_cases c5:a1 < 1
  ·rw [if_pos c5] at H;have c5b0:decide (a1 < 1) = true:=decide_eq_true c5;clear c5;(first|rw [c5b0]|(simp only [i64_w,i32_w];rw [c5b0])|skip);have H':=Aside0.mk H;clear H;go_wp2;go_meet
   case rel=>exact ⟨_,(true),(by first|rfl|(simp;done)|(simp [*];done)),H',⟨by first|omega|exact Nat.le_refl _⟩,⟨by repeat (first|(with_reducible first|exact HB.out|apply bwA|apply pwbN|apply bw1)|exact HB.out)⟩⟩
  ·rw [if_neg c5] at H;have c5b0:decide (a1 < 1) = false:=decide_eq_false c5;clear c5;(first|rw [c5b0]|(simp only [i64_w,i32_w];rw [c5b0])|skip);have H':=Aside0.mk H;clear H;go_wp2;go_meet
   case rel=>exact ⟨_,(decide (a1 > 512)),(by first|rfl|(simp;done)|(simp [*];done)),H',⟨by first|omega|exact Nat.le_refl _⟩,⟨by repeat (first|(with_reducible first|exact HB.out|apply bwA|apply pwbN|apply bw1)|exact HB.out)⟩⟩
 case rest =>
  clear HC4;obtain ⟨kq,x14_3,rfl,HA,HJ3,HB⟩:=hcut;cases kq with
  | zero=>exact absurd HA.out (by simp [field_Write.j0])
  | succ kj3 =>
   have H:=HA.out;clear HA;simp only [field_Write.j0] at H;by_cases c6:x14_3 = true
   ·subst c6;have H1:(some ((⟨#[]⟩:ByteArray),4)) = some (r1,r2):=by rw [if_pos rfl] at H;exact H
    clear H;have H:=H1;clear H1;simp only [Option.some.injEq,Prod.mk.injEq] at H;obtain ⟨rfl,rfl⟩:=H;go_wp2;go_ret2
    exact ⟨by first|rfl|(simp [errW_none,errW_some] <;> rfl)|(simp [*,errW_none,errW_some] <;> rfl),by repeat (first|(with_reducible first|exact HB.out|apply bwA|apply pwbN|apply bw1)|exact HB.out)⟩
   ·replace c6:=Bool.eq_false_iff.mpr c6;subst c6;have H1:(if a2 = true then (field_Write.j1 kj3 a0 a1 a1) else (field_Write.j1 kj3 a0 a1 (wrap64 (a1 - 1)))) = some (r1,r2):=by rw [if_neg (show ¬ (false = true) by decide)] at H;exact H
    clear H;have H:=H1;clear H1;have HC7:=Aside0.mk H;clear H;go_upto_if 17 with (fail)
    go_cut [8] (fun v8 wc=>∃ (kq:Nat) (x8_6:Int),v8 = .int .i64 x8_6∧Aside0 (field_Write.j1 kq a0 a1 x8_6 = some (r1,r2))∧Aside0 (kq ≤ kj3)∧Aside0 (Below w.heap.size w wc))
    case first =>
     have H:=HC7.out;clear HC7;by_cases c8:a2 = true
     ·subst c8;have H1:(field_Write.j1 kj3 a0 a1 a1) = some (r1,r2):=by rw [if_pos rfl] at H;exact H
      clear H;have H:=H1;clear H1;have H':=Aside0.mk H;clear H;go_wp2;go_meet
      case rel=>exact ⟨_,(a1),(by first|rfl|(simp;done)|(simp [*];done)),H',⟨by have:=HJ3.out;first|omega|exact Nat.le_refl _⟩,⟨by repeat (first|(with_reducible first|exact HB.out|apply bwA|apply pwbN|apply bw1)|exact HB.out)⟩⟩
     ·replace c8:=Bool.eq_false_iff.mpr c8;subst c8;have H1:(field_Write.j1 kj3 a0 a1 (wrap64 (a1 - 1))) = some (r1,r2):=by rw [if_neg (show ¬ (false = true) by decide)] at H;exact H
      clear H;have H:=H1;clear H1;have H':=Aside0.mk H;clear H;go_wp2;go_meet
      case rel=>exact ⟨_,(wrap64 (a1 - 1)),(by first|rfl|(simp;done)|(simp [*];done)),H',⟨by have:=HJ3.out;first|omega|exact Nat.le_refl _⟩,⟨by repeat (first|(with_reducible first|exact HB.out|apply bwA|apply pwbN|apply bw1)|exact HB.out)⟩⟩
    case rest =>
     clear HC7;try clear c6
     obtain ⟨kq,x8_6,rfl,HA,HJ6,HB⟩:=hcut;cases kq with
     | zero=>exact absurd HA.out (by simp [field_Write.j1])
     | succ kj6 =>
      have H:=HA.out;clear HA;simp only [field_Write.j1] at H;by_cases c9:(a0.size:Int) > x8_6
      ·rw [if_pos c9] at H;have c9b0:decide (x8_6 < (a0.size:Int)) = true:=decide_eq_true c9;clear c9;simp only [Option.some.injEq,Prod.mk.injEq] at H;obtain ⟨rfl,rfl⟩:=H;go_wp2;go_ret2
       exact ⟨by first|rfl|(simp [errW_none,errW_some] <;> rfl)|(simp [*,errW_none,errW_some] <;> rfl),by repeat (first|(with_reducible first|exact HB.out|apply bwA|apply pwbN|apply bw1)|exact HB.out)⟩
      ·rw [if_neg c9] at H;have c9b0:decide (x8_6 < (a0.size:Int)) = false:=decide_eq_false c9;clear c9;replace H:=Option.bind_eq_some_iff.mp H;obtain ⟨t101,A100,H⟩:=H;replace H:(if t101 ≥ 0 then (some ((⟨#[]⟩:ByteArray),3)) else ((strings_Repeat.f (⟨#[0]⟩:ByteArray) (wrap64 (a1 - (a0.size:Int)))).bind fun t102=>(if a0.size + t102.size ≤ 9223372036854775807 then (some (a0 ++ t102,0)) else (none)))) = some (r1,r2):=H;have A10:=Aside0.mk A100;clear A100;by_cases c11:t101 ≥ 0
       ·rw [if_pos c11] at H;have c11b0:decide (0 ≤ t101) = true:=decide_eq_true c11;clear c11;simp only [Option.some.injEq,Prod.mk.injEq] at H;obtain ⟨rfl,rfl⟩:=H;go_wp2_with (first|((with_reducible refine gate_callee (f:=56) rfl ?_);refine goesL_ (some 25) rfl rfl Tryz.func56 (by kernel_rfl) rfl #[.string a0,.int .u8 0] rfl (by (try simp only [List.map_toArray,List.map_cons,List.map_nil]);first|done|rfl|(simp only [List.length_drop,List.length_take];rfl)) ?_;(with_reducible refine (strings_IndexByte.calls a0 0 t101 _ A10.out).mono ?_);rintro e w' ⟨rfl,⟨nd,rfl⟩⟩;refine ⟨_,rfl,?_⟩))
        go_ret2
        exact ⟨by first|rfl|(simp [errW_none,errW_some] <;> rfl)|(simp [*,errW_none,errW_some] <;> rfl),by repeat (first|(with_reducible first|exact HB.out|apply bwA|apply pwbN|apply bw1)|exact HB.out)⟩
       ·rw [if_neg c11] at H;have c11b0:decide (0 ≤ t101) = false:=decide_eq_false c11;clear c11;replace H:=Option.bind_eq_some_iff.mp H;obtain ⟨t102,A120,H⟩:=H;replace H:(if a0.size + t102.size ≤ 9223372036854775807 then (some (a0 ++ t102,0)) else (none)) = some (r1,r2):=H;have A12:=Aside0.mk A120;clear A120;by_cases c13:a0.size + t102.size ≤ 9223372036854775807
        ·rw [if_pos c13] at H;have c13b0:=eq_true c13;have c13b1:decide (a0.size + t102.size ≤ 9223372036854775807) = true:=decide_eq_true c13;try have c13b2:(9223372036854775807 < a0.size + t102.size) = False:=eq_false (Nat.not_lt.2 c13)
         simp only [Option.some.injEq,Prod.mk.injEq] at H;obtain ⟨rfl,rfl⟩:=H;go_wp2_with (first|((with_reducible refine gate_callee (f:=56) rfl ?_);refine goesL_ (some 25) rfl rfl Tryz.func56 (by kernel_rfl) rfl #[.string a0,.int .u8 0] rfl (by (try simp only [List.map_toArray,List.map_cons,List.map_nil]);first|done|rfl|(simp only [List.length_drop,List.length_take];rfl)) ?_;(with_reducible refine (strings_IndexByte.calls a0 0 t101 _ A10.out).mono ?_);rintro e w' ⟨rfl,⟨nd,rfl⟩⟩;refine ⟨_,rfl,?_⟩)|((with_reducible refine gate_callee (f:=70) rfl ?_);refine goesL_ (some 32) rfl rfl Tryz.func70 (by kernel_rfl) rfl #[.string (⟨#[0]⟩:ByteArray),.int .i64 (wrap64 (a1 - (a0.size:Int)))] rfl (by (try simp only [List.map_toArray,List.map_cons,List.map_nil]);first|done|rfl|(simp only [List.length_drop,List.length_take];rfl)) ?_;(with_reducible refine (strings_Repeat.calls (⟨#[0]⟩:ByteArray) (wrap64 (a1 - (a0.size:Int))) t102 _ A12.out).mono ?_);rintro e w14 ⟨rfl,hb⟩;refine ⟨_,rfl,?_⟩;have n0_:=Aside0.mk (below_step (by repeat (first|(with_reducible first|exact HB.out|apply bwA|apply pwbN|apply bw1)|exact HB.out)) hb);clear HB;have HB:=n0_;clear n0_;(try clear hb);(try clear hb2);(try clear hk);(try clear hi)))
         go_ret2
         exact ⟨by first|rfl|(simp [errW_none,errW_some] <;> rfl)|(simp [*,errW_none,errW_some] <;> rfl),by repeat (first|(with_reducible first|exact HB.out|apply bwA|apply pwbN|apply bw1)|exact HB.out)⟩
        ·rw [if_neg c13] at H;exact absurd H (by simp)
end Go.Proofs.YtenbelecmmpdgaaGreatDoor.All
end
section
namespace Go.Proofs.YtenbelecmmpdgaaGreatDoor.All
open Go.RowKit Go.Proofs.YtenbelecmmpdgaaGreatDoorW.PrintWords Go.Proofs.YtenbelecmmpdgaaGreatDoorW.PrintLast Go.Proofs.YtenbelecmmpdgaaGreatDoorW.PrintMore
open Go.Proofs.YtenbelecmmpdgaaGreatDoorW.Mine
attribute [local go_sem] gtr_string leq_string geq_string
attribute [local go_sem] max2_int min2_int max_two min_two max_three min_three max_four min_four
set_option linter.unusedVariables false
set_option linter.unusedSimpArgs false
mutual
def octal_Write.j0:Nat→Int→Int→Bool→Option (ByteArray × Int)
 | 0,_,_,_=>none
 | k + 1,x0,x1,x24=>if x24 = true then (some ((⟨#[]⟩:ByteArray),4)) else (if 0 ≤ x1 then (if (x1:Int).toNat ≤ 281474976710656 then (octal_Write.l0 k x0 (List.replicate (x1:Int).toNat 0) (wrap64 (x1 - 2))) else (none)) else (none))
def octal_Write.l0:Nat→Int→List Int→Int→Option (ByteArray × Int)
 | 0,_,_,_=>none
 | k + 1,x0,x8,x9=>if x9 ≥ 0 then (if 0 ≤ x9 then (if x9 < (x8.length:Int) then (octal_Write.l0 k (wrap64 (Int.tdiv x0 8)) (x8.set (x9:Int).toNat ((48 + ((Int.tmod x0 8) % 256)) % 256)) (wrap64 (x9 - 1))) else (none)) else (none)) else (some (strOfNums x8,0))
end
def octal_Write.f (k:Nat) (a0:Int) (a1:Int):Option (ByteArray × Int):=(octal_Most.f a1).bind fun bt101=>(if bt101.2 = 0 then (if a0 < 0 then (octal_Write.j0 k a0 a1 true) else (octal_Write.j0 k a0 a1 (decide (a0 > bt101.1)))) else (some ((⟨#[]⟩:ByteArray),bt101.2)))
theorem octal_Write.mono_l:∀ k,(∀ y0 y1 y2,LeO (octal_Write.j0 k y0 y1 y2) (octal_Write.j0 (k + 1) y0 y1 y2))∧(∀ y0 y1 y2,LeO (octal_Write.l0 k y0 y1 y2) (octal_Write.l0 (k + 1) y0 y1 y2))
 | 0=>⟨fun _ _ _ r h=>by simp [octal_Write.j0] at h,fun _ _ _ r h=>by simp [octal_Write.l0] at h⟩
 | k + 1=>by
  obtain ⟨ih0,ih1⟩:=octal_Write.mono_l k
  refine ⟨?_,?_⟩
  ·intro y0 y1 y2
   unfold octal_Write.j0
   repeat' first
   | (with_reducible exact ih0 _ _ _)
   | (with_reducible exact ih1 _ _ _)
   | (with_reducible exact LeO.refl _)
   | (with_reducible exact LeO.none _)
   | (with_reducible refine LeO.ite ?_ ?_)
   | (with_reducible refine LeO.bind ?_ (fun _=>?_))
   | exact ih0 _ _ _
   | exact ih1 _ _ _
   | exact LeO.none _
   | refine LeO.ite ?_ ?_
   | refine LeO.bind ?_ (fun _=>?_)
  ·intro y0 y1 y2
   unfold octal_Write.l0
   repeat' first
   | (with_reducible exact ih0 _ _ _)
   | (with_reducible exact ih1 _ _ _)
   | (with_reducible exact LeO.refl _)
   | (with_reducible exact LeO.none _)
   | (with_reducible refine LeO.ite ?_ ?_)
   | (with_reducible refine LeO.bind ?_ (fun _=>?_))
   | exact ih0 _ _ _
   | exact ih1 _ _ _
   | exact LeO.none _
   | refine LeO.ite ?_ ?_
   | refine LeO.bind ?_ (fun _=>?_)
theorem octal_Write.mono:∀ a0 a1 k,LeO (octal_Write.f k a0 a1) (octal_Write.f (k + 1) a0 a1):=by
 intro a0 a1 k;obtain ⟨ih0,ih1⟩:=octal_Write.mono_l k;unfold octal_Write.f;repeat' first
  | (with_reducible exact ih0 _ _ _)
  | (with_reducible exact ih1 _ _ _)
  | (with_reducible exact LeO.refl _)
  | (with_reducible exact LeO.none _)
  | (with_reducible refine LeO.ite ?_ ?_)
  | (with_reducible refine LeO.bind ?_ (fun _=>?_))
  | exact ih0 _ _ _
  | exact ih1 _ _ _
  | exact LeO.none _
  | refine LeO.ite ?_ ?_
  | refine LeO.bind ?_ (fun _=>?_)
set_option maxHeartbeats 8000000 in
set_option maxRecDepth 100000 in
theorem octal_Write.calls (k:Nat) (a0:Int) (a1:Int) (r1:ByteArray) (r2:Int) (w:World) (h:octal_Write.f k a0 a1 = some (r1,r2)) :
 Calls Tryz.prog 69 #[.int .i64 a0,.int .i64 a1] w fun e w'=>e = .returned (.tuple #[.string r1,.int .i64 r2])∧Below w.heap.size w w':=by
 have HB:=Aside0.mk (Below.refl w.heap.size w);have H:((octal_Most.f a1).bind fun bt101=>(if bt101.2 = 0 then (if a0 < 0 then (octal_Write.j0 k a0 a1 true) else (octal_Write.j0 k a0 a1 (decide (a0 > bt101.1)))) else (some ((⟨#[]⟩:ByteArray),bt101.2)))) = some (r1,r2):=h;clear h;replace H:=Option.bind_eq_some_iff.mp H;obtain ⟨⟨t101,t102⟩,A30,H⟩:=H;replace H:(if t102 = 0 then (if a0 < 0 then (octal_Write.j0 k a0 a1 true) else (octal_Write.j0 k a0 a1 (decide (a0 > t101)))) else (some ((⟨#[]⟩:ByteArray),t102))) = some (r1,r2):=H;have A3:=Aside0.mk A30;clear A30;by_cases c4:t102 = 0
 ·rw [if_pos c4] at H;have c4b0:(t102 == 0) = true:=beq_iff_eq.mpr c4;have c4b1:(t102 != 0) = false:=bne_eq_false_iff_eq.mpr c4;clear c4;have HC5:=Aside0.mk H;clear H;go_enter Tryz.func69,Tryz.ntmps69;go_upto_region 4 with (first|((with_reducible refine gate_callee (f:=59) rfl ?_);refine goesL_ (some 12) rfl rfl Tryz.func59 (by kernel_rfl) rfl #[.int .i64 a1] rfl (by (try simp only [List.map_toArray,List.map_cons,List.map_nil]);first|done|rfl|(simp only [List.length_drop,List.length_take];rfl)) ?_;(with_reducible refine (octal_Most.calls a1 t101 t102 _ A3.out).mono ?_);rintro e w' ⟨rfl,⟨nd,rfl⟩⟩;refine ⟨_,rfl,?_⟩))
  (try simp only [Act.put,List.setIfInBounds_toArray,List.set_cons_zero,List.set_cons_succ]);go_cut [24] (fun v24 wc=>∃ (kq:Nat) (x24_4:Bool),v24 = .bool x24_4∧Aside0 (octal_Write.j0 kq a0 a1 x24_4 = some (r1,r2))∧Aside0 (kq ≤ k)∧Aside0 (Below w.heap.size w wc))
  case first =>
   have H:=HC5.out;clear HC5;by_cases c6:a0 < 0
   ·rw [if_pos c6] at H;have c6b0:decide (a0 < 0) = true:=decide_eq_true c6;clear c6;(first|rw [c6b0]|(simp only [i64_w,i32_w];rw [c6b0])|skip);have H':=Aside0.mk H;clear H;go_wp2;go_meet
    case rel=>exact ⟨_,(true),(by first|rfl|(simp;done)|(simp [*];done)),H',⟨by first|omega|exact Nat.le_refl _⟩,⟨by repeat (first|(with_reducible first|exact HB.out|apply bwA|apply pwbN|apply bw1)|exact HB.out)⟩⟩
   ·rw [if_neg c6] at H;have c6b0:decide (a0 < 0) = false:=decide_eq_false c6;clear c6;(first|rw [c6b0]|(simp only [i64_w,i32_w];rw [c6b0])|skip);have H':=Aside0.mk H;clear H;go_wp2;go_meet
    case rel=>exact ⟨_,(decide (a0 > t101)),(by first|rfl|(simp;done)|(simp [*];done)),H',⟨by first|omega|exact Nat.le_refl _⟩,⟨by repeat (first|(with_reducible first|exact HB.out|apply bwA|apply pwbN|apply bw1)|exact HB.out)⟩⟩
  case rest =>
   clear HC5;repeat first|clear c4|clear c4b0|clear c4b1
   obtain ⟨kq,x24_4,rfl,HA,HJ4,HB⟩:=hcut;cases kq with
   | zero=>exact absurd HA.out (by simp [octal_Write.j0])
   | succ kj4 =>
    have H:=HA.out;clear HA;simp only [octal_Write.j0] at H;by_cases c7:x24_4 = true
    ·subst c7;have H1:(some ((⟨#[]⟩:ByteArray),4)) = some (r1,r2):=by rw [if_pos rfl] at H;exact H
     clear H;have H:=H1;clear H1;simp only [Option.some.injEq,Prod.mk.injEq] at H;obtain ⟨rfl,rfl⟩:=H;go_wp2;go_ret2
     exact ⟨by first|rfl|(simp [errW_none,errW_some] <;> rfl)|(simp [*,errW_none,errW_some] <;> rfl),by repeat (first|(with_reducible first|exact HB.out|apply bwA|apply pwbN|apply bw1)|exact HB.out)⟩
    ·replace c7:=Bool.eq_false_iff.mpr c7;subst c7;have H1:(if 0 ≤ a1 then (if (a1:Int).toNat ≤ 281474976710656 then (octal_Write.l0 kj4 a0 (List.replicate (a1:Int).toNat 0) (wrap64 (a1 - 2))) else (none)) else (none)) = some (r1,r2):=by rw [if_neg (show ¬ (false = true) by decide)] at H;exact H
     clear H;have H:=H1;clear H1;by_cases c8:0 ≤ a1
     ·rw [if_pos c8] at H;have c8b0:=eq_true c8;have c8b1:decide (0 ≤ a1) = true:=decide_eq_true c8;clear c8;by_cases c9:(a1:Int).toNat ≤ 281474976710656
      ·rw [if_pos c9] at H;have c9b0:=eq_true c9;have c9b1:decide ((a1:Int).toNat ≤ 281474976710656) = true:=decide_eq_true c9;clear c9;obtain ⟨y103,hy103⟩:∃ y_:List Int,y_ = (List.replicate (a1:Int).toNat 0):=⟨_,rfl⟩
       replace H:(octal_Write.l0 kj4 a0 y103 (wrap64 (a1 - 2))) = some (r1,r2):=by first|(rw [hy103];with_reducible exact H)|(have H2_:=(Option.bind_some _ _).symm.trans H;rw [hy103];with_reducible exact H2_)|(have H2_:=(Option.bind_some _ _).symm.trans H;with_reducible exact H2_)|with_reducible exact H|(rw [hy103];exact H)|exact H
       have Ny103:=Aside0.mk hy103;clear hy103;have H':=Aside0.mk H;clear H;go_wp2_with (first|((with_reducible refine gate_dst (N:=26) rfl ?_);refine Kd.R_make (Kd.int .u8) _ 5 rfl (N:=26) rfl 24 _ _ rfl a1 rfl rfl Tryz.underlying24 (.int .u8 0) 1 info5 rfl (by decide) (by omega) 0 (ok:=fun _=>True) (okp:=fun _=>True) rfl (fun _ hk=>hk) trivial (of_decide_eq_true (by first|(with_reducible assumption)|assumption)) (Nat.le_trans (Nat.mul_le_mul_right _ (of_decide_eq_true (by first|(with_reducible assumption)|assumption):a1.toNat ≤ 281474976710656)) (by omega)) (Below.refl _ _) (Nat.le_refl _) ?_;intro v104 w10 ho11 hb hg_ hnew_;clear hg_ hnew_;(first|rw [← Ny103.out] at ho11|(simp only [Int.reduceToNat] at ho11;rw [← Ny103.out] at ho11));have n0_:=Aside0.mk (Kd.R_lower ho11 (below_size (by repeat (first|(with_reducible first|exact HB.out|apply bwA|apply pwbN|apply bw1)|exact HB.out))));have n1_:=Aside0.mk (below_step (by repeat (first|(with_reducible first|exact HB.out|apply bwA|apply pwbN|apply bw1)|exact HB.out)) hb);clear HB;have HO105:=n0_;have HB:=n1_;clear n0_ n1_;clear hb ho11))
       go_loopg [0,9] kj4 (fun kq v0 v9 w'=>∃ (x0_2:Int) (x8_2:List Int) (x9_2:Int),v0 = .int .i64 x0_2∧v9 = .int .i64 x9_2∧Aside0 (octal_Write.l0 kq x0_2 x8_2 x9_2 = some (r1,r2))∧Aside0 (kq ≤ kj4)∧Aside0 (Kd.R (Kd.int .u8) 5 w' w.heap.size (fun _=>True) v104 x8_2)∧Aside0 (Below w.heap.size w w'))
       case atStart=>exact ⟨(a0),(y103),(wrap64 (a1 - 2)),(by first|rfl|(simp;done)|(simp [*];done)),(by first|rfl|(simp;done)|(simp [*];done)),H',⟨Nat.le_refl _⟩,⟨by (with_reducible repeat (first|apply Kd.R_alloc|apply Kd.R_drewN|apply Kd.R_drew));exact HO105.out⟩,⟨by repeat (first|(with_reducible first|exact HB.out|apply bwA|apply pwbN|apply bw1)|exact HB.out)⟩⟩
       case round =>
        clear H';repeat first|clear c4|clear c4b0|clear c4b1|clear c7|clear c8|clear c8b0|clear c8b1|clear c9|clear c9b0|clear c9b1
        obtain ⟨x0_2,x8_2,x9_2,rfl,rfl,HA,HK2,HO_8,HB⟩:=hrel;cases gk with
        | zero=>exact absurd HA.out (by simp [octal_Write.l0])
        | succ k2 =>
         have H:=HA.out;clear HA;simp only [octal_Write.l0] at H;by_cases c12:x9_2 ≥ 0
         ·rw [if_pos c12] at H;have c12b0:decide (0 ≤ x9_2) = true:=decide_eq_true c12;clear c12;by_cases c13:0 ≤ x9_2
          ·rw [if_pos c13] at H;have c13b0:decide (0 ≤ x9_2) = true:=decide_eq_true c13;clear c13;by_cases c14:x9_2 < (x8_2.length:Int)
           ·rw [if_pos c14] at H;have c14b0:decide (x9_2 < (x8_2.length:Int)) = true:=decide_eq_true c14;clear c14;obtain ⟨y106,hy106⟩:∃ y_:List Int,y_ = (x8_2.set (x9_2:Int).toNat ((48 + ((Int.tmod x0_2 8) % 256)) % 256)):=⟨_,rfl⟩
            replace H:(octal_Write.l0 k2 (wrap64 (Int.tdiv x0_2 8)) y106 (wrap64 (x9_2 - 1))) = some (r1,r2):=by first|(rw [hy106];with_reducible exact H)|(have H2_:=(Option.bind_some _ _).symm.trans H;rw [hy106];with_reducible exact H2_)|(have H2_:=(Option.bind_some _ _).symm.trans H;with_reducible exact H2_)|with_reducible exact H|(rw [hy106];exact H)|exact H
            have Ny106:=Aside0.mk hy106;clear hy106;have H':=Aside0.mk H;clear H;have p15:0 ≤ (x9_2:Int):=of_decide_eq_true (by first|(with_reducible assumption)|assumption);have q15:(x9_2:Int) < ((x8_2.length:Int):Int):=of_decide_eq_true (by first|(with_reducible assumption)|assumption);obtain ⟨go15,co15,eo15,gb15,gl15,cl15,HG15⟩:=Kd.R_form HO_8.out (by omega);(first|cases eo15|(injection eo15 with ea_ en_ ec_;(first|subst ea_|(injection ea_ with ea_;subst ea_));subst ec_;clear en_));have GB15:=Aside0.mk gb15;have GG15:=Aside0.mk HG15;clear gb15 gl15 HG15;obtain ⟨hx15_0,hf15_0⟩:=Kd.R_celln 0 HO_8.out (x9_2:Int) p15 q15;replace p15:=eq_true p15;replace q15:=eq_true q15;have HP16:=Kd.R_putg HO_8.out (x9_2:Int) ((48 + ((Int.tmod x0_2 8) % 256)) % 256);go_wp2_with (first|((with_reducible refine gate_store (t:=5) (p:=39) rfl ?_);refine store_event (t:=5) (p:=39) (v:=?vo_w17) (w1:=(wr.setCell ⟨go15,(x9_2:Int).toNat,none⟩ (.int .u8 ((48 + ((Int.tmod x0_2 8) % 256)) % 256)))) ?hg ?ho ?hn ?hr ?_;(case ho=>rfl);(case hg=>rfl);(case hn=>rfl);(case hr=>first|(go_simp;done)|(go_simp;rfl));intro w17 hw;have hg:wr.grownBy w17 (some go15):=(by rw [hw];exact HP16.2);have hp_:Kd.R (Kd.int .u8) 5 w17 w.heap.size (fun _=>True) (.slice (some ⟨go15,0,none⟩) x8_2.length co15) y106:=(by rw [hw,Ny106.out];exact HP16.1);clear HP16;have n0_:=Aside0.mk (hp_);have n1_:=Aside0.mk ((by rw [hw];exact below_set (HB.out) GB15.out:Below w.heap.size w w17));clear HO_8;clear HB;have HO_8:=n0_;have HB:=n1_;clear n0_ n1_;clear hg hw hp_))
            go_roundg k2
            case measure=>have:=HJ4.out;have:=HK2.out;omega
            case rel=>exact ⟨(wrap64 (Int.tdiv x0_2 8)),(y106),(wrap64 (x9_2 - 1)),(by first|rfl|(simp;done)|(simp [*];done)),(by first|rfl|(simp;done)|(simp [*];done)),H',⟨by have:=HJ4.out;have:=HK2.out;omega⟩,⟨by (with_reducible repeat (first|apply Kd.R_alloc|apply Kd.R_drewN|apply Kd.R_drew));exact HO_8.out⟩,⟨by repeat (first|(with_reducible first|exact HB.out|apply bwA|apply pwbN|apply bw1)|exact HB.out)⟩⟩
           ·rw [if_neg c14] at H;exact absurd H (by simp)
          ·rw [if_neg c13] at H;exact absurd H (by simp)
         ·rw [if_neg c12] at H;have c12b0:decide (0 ≤ x9_2) = false:=decide_eq_false c12;clear c12;simp only [Option.some.injEq,Prod.mk.injEq] at H;obtain ⟨rfl,rfl⟩:=H;have hcv18:=own_string (P:=Tryz.prog) Tryz.underlying24 Tryz.underlying5 Tryz.underlying9 (Kd.own_of_R HO_8.out);go_wp2;go_ret2
          exact ⟨by first|rfl|(simp [errW_none,errW_some] <;> rfl)|(simp [*,errW_none,errW_some] <;> rfl),by repeat (first|(with_reducible first|exact HB.out|apply bwA|apply pwbN|apply bw1)|exact HB.out)⟩
      ·rw [if_neg c9] at H;exact absurd H (by simp)
     ·rw [if_neg c8] at H;exact absurd H (by simp)
 ·rw [if_neg c4] at H;have c4b0:(t102 == 0) = false:=beq_eq_false_iff_ne.mpr c4;have c4b1:(t102 != 0) = true:=bne_iff_ne.mpr c4;simp only [Option.some.injEq,Prod.mk.injEq] at H;obtain ⟨rfl,rfl⟩:=H;go_enter Tryz.func69,Tryz.ntmps69;go_wp2_with (first|((with_reducible refine gate_callee (f:=59) rfl ?_);refine goesL_ (some 12) rfl rfl Tryz.func59 (by kernel_rfl) rfl #[.int .i64 a1] rfl (by (try simp only [List.map_toArray,List.map_cons,List.map_nil]);first|done|rfl|(simp only [List.length_drop,List.length_take];rfl)) ?_;(with_reducible refine (octal_Most.calls a1 t101 t102 _ A3.out).mono ?_);rintro e w' ⟨rfl,⟨nd,rfl⟩⟩;refine ⟨_,rfl,?_⟩))
  go_ret2
  exact ⟨by first|rfl|(simp [errW_none,errW_some] <;> rfl)|(simp [*,errW_none,errW_some] <;> rfl),by repeat (first|(with_reducible first|exact HB.out|apply bwA|apply pwbN|apply bw1)|exact HB.out)⟩
end Go.Proofs.YtenbelecmmpdgaaGreatDoor.All
end
section
namespace Go.Proofs.YtenbelecmmpdgaaGreatDoor.All
open Go.RowKit Go.Proofs.YtenbelecmmpdgaaGreatDoorW.PrintWords Go.Proofs.YtenbelecmmpdgaaGreatDoorW.PrintLast Go.Proofs.YtenbelecmmpdgaaGreatDoorW.PrintMore
open Go.Proofs.YtenbelecmmpdgaaGreatDoorW.Mine
attribute [local go_sem] gtr_string leq_string geq_string
attribute [local go_sem] max2_int min2_int max_two min_two max_three min_three max_four min_four
set_option linter.unusedVariables false
set_option linter.unusedSimpArgs false
def head_Sum.l0:Nat→ByteArray→Int→Int→Int→Option (Int × Int)
 | 0,_,_,_,_=>none
 | k + 1,x0,x4,x10,x11=>if x11 < x10 then (if x11 < 148 then (if 0 ≤ x11 then (if x11 < (x0.size:Int) then (head_Sum.l0 k x0 (wrap64 (x4 + (wrap64 (bt x0 x11)))) x10 (wrap64 (x11 + 1))) else (none)) else (none)) else (if x11 ≥ 156 then (if 0 ≤ x11 then (if x11 < (x0.size:Int) then (head_Sum.l0 k x0 (wrap64 (x4 + (wrap64 (bt x0 x11)))) x10 (wrap64 (x11 + 1))) else (none)) else (none)) else (head_Sum.l0 k x0 x4 x10 (wrap64 (x11 + 1))))) else (some (x4,0))
def head_Sum.f (k:Nat) (a0:ByteArray):Option (Int × Int):=if (a0.size:Int) = 512 then (head_Sum.l0 k a0 256 (a0.size:Int) 0) else (some (0,1))
theorem head_Sum.mono_l:∀ k,(∀ y0 y1 y2 y3,LeO (head_Sum.l0 k y0 y1 y2 y3) (head_Sum.l0 (k + 1) y0 y1 y2 y3))
 | 0=>fun _ _ _ _ r h=>by simp [head_Sum.l0] at h
 | k + 1=>by
  have ih0:=head_Sum.mono_l k
  ·intro y0 y1 y2 y3
   unfold head_Sum.l0
   repeat' first
   | (with_reducible exact ih0 _ _ _ _)
   | (with_reducible exact LeO.refl _)
   | (with_reducible exact LeO.none _)
   | (with_reducible refine LeO.ite ?_ ?_)
   | (with_reducible refine LeO.bind ?_ (fun _=>?_))
   | exact ih0 _ _ _ _
   | exact LeO.none _
   | refine LeO.ite ?_ ?_
   | refine LeO.bind ?_ (fun _=>?_)
theorem head_Sum.mono:∀ a0 k,LeO (head_Sum.f k a0) (head_Sum.f (k + 1) a0):=by
 intro a0 k;have ih0:=head_Sum.mono_l k;unfold head_Sum.f;repeat' first
  | (with_reducible exact ih0 _ _ _ _)
  | (with_reducible exact LeO.refl _)
  | (with_reducible exact LeO.none _)
  | (with_reducible refine LeO.ite ?_ ?_)
  | (with_reducible refine LeO.bind ?_ (fun _=>?_))
  | exact ih0 _ _ _ _
  | exact LeO.none _
  | refine LeO.ite ?_ ?_
  | refine LeO.bind ?_ (fun _=>?_)
set_option maxHeartbeats 8000000 in
set_option maxRecDepth 100000 in
theorem head_Sum.calls (k:Nat) (a0:ByteArray) (r1:Int) (r2:Int) (w:World) (h:head_Sum.f k a0 = some (r1,r2)) :
 Calls Tryz.prog 71 #[.string a0] w fun e w'=>e = .returned (.tuple #[.int .i64 r1,.int .i64 r2])∧Drawn0 w w':=by
 have H:(if (a0.size:Int) = 512 then (head_Sum.l0 k a0 256 (a0.size:Int) 0) else (some (0,1))) = some (r1,r2):=h;clear h;by_cases c2:(a0.size:Int) = 512
 ·rw [if_pos c2] at H;have c2b0:((a0.size:Int) == 512) = true:=beq_iff_eq.mpr c2;have c2b1:((a0.size:Int) != 512) = false:=bne_eq_false_iff_eq.mpr c2;clear c2;have H':=Aside0.mk H;clear H;go_enter Tryz.func71,Tryz.ntmps71;go_wp2;go_loopg [4,11] k (fun kq v4 v11 w'=>∃ (x4_1:Int) (x11_1:Int),v4 = .int .i64 x4_1∧v11 = .int .i64 x11_1∧Aside0 (head_Sum.l0 kq a0 x4_1 (a0.size:Int) x11_1 = some (r1,r2))∧Aside0 (kq ≤ k)∧Drawn0 w w')
  case atStart=>exact ⟨(256),(0),(by first|rfl|(simp;done)|(simp [*];done)),(by first|rfl|(simp;done)|(simp [*];done)),H',⟨Nat.le_refl _⟩,by repeat (first|exact Drawn0.refl _|apply Drawn0.step)⟩
  case round =>
   clear H';repeat first|clear c2|clear c2b0|clear c2b1
   obtain ⟨x4_1,x11_1,rfl,rfl,HA,HK1,⟨m1,rfl⟩⟩:=hrel;cases gk with
   | zero=>exact absurd HA.out (by simp [head_Sum.l0])
   | succ k1 =>
    have H:=HA.out;clear HA;simp only [head_Sum.l0] at H;by_cases c3:x11_1 < (a0.size:Int)
    ·rw [if_pos c3] at H;have c3b0:decide (x11_1 < (a0.size:Int)) = true:=decide_eq_true c3;clear c3;by_cases c4:x11_1 < 148
     ·rw [if_pos c4] at H;have c4b0:decide (x11_1 < 148) = true:=decide_eq_true c4;clear c4;by_cases c5:0 ≤ x11_1
      ·rw [if_pos c5] at H;have c5b0:decide (0 ≤ x11_1) = true:=decide_eq_true c5;clear c5;by_cases c6:x11_1 < (a0.size:Int)
       ·rw [if_pos c6] at H;have c6b0:decide (x11_1 < (a0.size:Int)) = true:=decide_eq_true c6;clear c6;have H':=Aside0.mk H;clear H;have p7:0 ≤ (x11_1:Int):=of_decide_eq_true (by first|(with_reducible assumption)|assumption);have q7:x11_1 < (a0.size:Int):=of_decide_eq_true (by first|(with_reducible assumption)|assumption);have hx7:=bt_at a0 x11_1;replace p7:=eq_true p7;replace q7:=eq_true q7;go_wp2;go_roundg k1
        case measure=>have:=HK1.out;omega
        case rel=>exact ⟨(wrap64 (x4_1 + (wrap64 (bt a0 x11_1)))),(wrap64 (x11_1 + 1)),(by first|rfl|(simp;done)|(simp [*];done)),(by first|rfl|(simp;done)|(simp [*];done)),H',⟨by have:=HK1.out;omega⟩,by repeat (first|exact Drawn0.refl _|apply Drawn0.step)⟩
       ·rw [if_neg c6] at H;exact absurd H (by simp)
      ·rw [if_neg c5] at H;exact absurd H (by simp)
     ·rw [if_neg c4] at H;have c4b0:decide (x11_1 < 148) = false:=decide_eq_false c4;clear c4;by_cases c8:x11_1 ≥ 156
      ·rw [if_pos c8] at H;have c8b0:decide (156 ≤ x11_1) = true:=decide_eq_true c8;clear c8;by_cases c9:0 ≤ x11_1
       ·rw [if_pos c9] at H;have c9b0:decide (0 ≤ x11_1) = true:=decide_eq_true c9;clear c9;by_cases c10:x11_1 < (a0.size:Int)
        ·rw [if_pos c10] at H;have c10b0:decide (x11_1 < (a0.size:Int)) = true:=decide_eq_true c10;clear c10;have H':=Aside0.mk H;clear H;have p11:0 ≤ (x11_1:Int):=of_decide_eq_true (by first|(with_reducible assumption)|assumption);have q11:x11_1 < (a0.size:Int):=of_decide_eq_true (by first|(with_reducible assumption)|assumption);have hx11:=bt_at a0 x11_1;replace p11:=eq_true p11;replace q11:=eq_true q11;go_wp2;go_roundg k1
         case measure=>have:=HK1.out;omega
         case rel=>exact ⟨(wrap64 (x4_1 + (wrap64 (bt a0 x11_1)))),(wrap64 (x11_1 + 1)),(by first|rfl|(simp;done)|(simp [*];done)),(by first|rfl|(simp;done)|(simp [*];done)),H',⟨by have:=HK1.out;omega⟩,by repeat (first|exact Drawn0.refl _|apply Drawn0.step)⟩
        ·rw [if_neg c10] at H;exact absurd H (by simp)
       ·rw [if_neg c9] at H;exact absurd H (by simp)
      ·rw [if_neg c8] at H;have c8b0:decide (156 ≤ x11_1) = false:=decide_eq_false c8;clear c8;have H':=Aside0.mk H;clear H;go_wp2;go_roundg k1
       case measure=>have:=HK1.out;omega
       case rel=>exact ⟨(x4_1),(wrap64 (x11_1 + 1)),(by first|rfl|(simp;done)|(simp [*];done)),(by first|rfl|(simp;done)|(simp [*];done)),H',⟨by have:=HK1.out;omega⟩,by repeat (first|exact Drawn0.refl _|apply Drawn0.step)⟩
    ·rw [if_neg c3] at H;have c3b0:decide (x11_1 < (a0.size:Int)) = false:=decide_eq_false c3;clear c3;simp only [Option.some.injEq,Prod.mk.injEq] at H;obtain ⟨rfl,rfl⟩:=H;go_wp2;go_ret2
     exact ⟨by first|rfl|(simp;done)|(simp [*];done),by repeat (first|exact Drawn0.refl _|apply Drawn0.step)⟩
 ·rw [if_neg c2] at H;have c2b0:((a0.size:Int) == 512) = false:=beq_eq_false_iff_ne.mpr c2;have c2b1:((a0.size:Int) != 512) = true:=bne_iff_ne.mpr c2;simp only [Option.some.injEq,Prod.mk.injEq] at H;obtain ⟨rfl,rfl⟩:=H;go_enter Tryz.func71,Tryz.ntmps71;go_wp2;go_ret2
  exact ⟨by first|rfl|(simp;done)|(simp [*];done),by repeat (first|exact Drawn0.refl _|apply Drawn0.step)⟩
end Go.Proofs.YtenbelecmmpdgaaGreatDoor.All
end
section
namespace Go.Proofs.YtenbelecmmpdgaaGreatDoor.All
open Go.RowKit Go.Proofs.YtenbelecmmpdgaaGreatDoorW.PrintWords Go.Proofs.YtenbelecmmpdgaaGreatDoorW.PrintLast Go.Proofs.YtenbelecmmpdgaaGreatDoorW.PrintMore
open Go.Proofs.YtenbelecmmpdgaaGreatDoorW.Mine
attribute [local go_sem] gtr_string leq_string geq_string
attribute [local go_sem] max2_int min2_int max_two min_two max_three min_three max_four min_four
set_option linter.unusedVariables false
set_option linter.unusedSimpArgs false
open Go.Proofs.YtenbelecmmpdgaaGreatDoorW.MapOwn
theorem head_Write.sizeB:(Tryz.prog.info? 104).map (·.size) = some 2:=by kernel_rfl
theorem head_Write.liesB:liesAt Tryz.prog Tryz.prog.depth 109 (3 / Tryz.prog.cellsOf 109) 0 104 1 = true:=by kernel_rfl
theorem head_Write.infoB:(Tryz.prog.info? 5).map (fun i=>(i.zero,i.size,i.bytes)) = some (some (.int .u8 0),1,1):=by kernel_rfl
def head_Write.PenAt (B b:Nat) (p:Value) (bs:List Value) (e:Int) (w:World):Prop :=
 B ≤ b∧∃ v,w.heap[b]? = some (.cells #[p,v,.int .i64 e] 109 (0,0))∧w.ownsRow B 5 1 v bs.length bs∧v.ownBlock ≠ some b
def head_Write.IsPen (B b:Nat) (bs:List Value) (e:Int) (w:World):Prop :=
 head_Write.PenAt B b (.pointer none) bs e w ∨ head_Write.PenAt B b (.pointer (some ⟨b,0,none⟩)) bs e w
theorem head_Write.PenAt.lt {B b:Nat} {p:Value} {bs:List Value} {e:Int} {w:World} (h:head_Write.PenAt B b p bs e w):b < w.heap.size:=by
 obtain ⟨_,v,hb,_⟩:=h;exact (Array.getElem?_eq_some_iff.1 hb).1
set_option maxHeartbeats 1000000 in
set_option maxRecDepth 100000 in
theorem head_Write.copy_used (b:Nat) (w:World) (h0:w.cell? ⟨b,0,none⟩ = some (.pointer (some ⟨b,0,none⟩))) :
 Calls Tryz.prog 108 #[.pointer (some ⟨b,0,none⟩)] w fun e w'=>e = .returned (.tuple #[])∧w' = w:=by
 obtain ⟨j,hj,_⟩:=Option.map_eq_some_iff.1 head_Write.sizeB;go_enter Tryz.func108,Tryz.ntmps108;go_wp2;rw [Lib.run_neq_ptr_same w _ Tryz.underlying102 hj];go_wp2;go_end0
 exact ⟨rfl,rfl⟩
set_option maxHeartbeats 1000000 in
set_option maxRecDepth 100000 in
theorem head_Write.copy_fresh (b:Nat) (w:World) (h0:w.cell? ⟨b,0,none⟩ = some (.pointer none)) (hsh:w.shape? b = some (109,3)) (hfz:w.frozen? ⟨b,0,none⟩ = false) :
 Calls Tryz.prog 108 #[.pointer (some ⟨b,0,none⟩)] w fun e w'=>e = .returned (.tuple #[])∧w' = w.setCell ⟨b,0,none⟩ (.pointer (some ⟨b,0,none⟩)):=by
 obtain ⟨j,hj,hjs⟩:=Option.map_eq_some_iff.1 head_Write.sizeB;go_enter Tryz.func108,Tryz.ntmps108;go_wp2;rw [Lib.run_to_unsafe w ⟨b,0,none⟩ Tryz.underlying102 Tryz.underlying181 hj (by rw [hjs];decide) hsh (by show 0 < 3;omega)];simp only [Result.andThen];rw [Oper.upon_value];go_wp2;rw [run_callFunc_extern Tryz.func158 (by kernel_rfl) (by kernel_rfl) (by kernel_rfl) (e:=Extern.AbiNoEscape.same) (by kernel_rfl)];rw [Lib.run_noEscape];simp only [Result.andThen];rw [Oper.upon_value];go_wp2;rw [Lib.run_from_unsafe w ⟨b,0,none⟩ Tryz.underlying181 Tryz.underlying102 hj hsh head_Write.liesB];simp only [Result.andThen];rw [Oper.upon_value];go_wp2;go_end0
 exact ⟨rfl,rfl⟩
theorem head_Write.copy (B b:Nat) (bs:List Value) (x:Int) (w:World) (h:head_Write.IsPen B b bs x w) :
 Calls Tryz.prog 108 #[.pointer (some ⟨b,0,none⟩)] w fun e w'=>e = .returned (.tuple #[])∧(head_Write.PenAt B b (.pointer (some ⟨b,0,none⟩)) bs x w'∧Below B w w'):=by
 rcases h with h|h
 ·have hlt:=h.lt;obtain ⟨hB,v,hb,hown,hne⟩:=h;refine (head_Write.copy_fresh b w (by rw [Lib.cell_of_heap hb];rfl) (by simp [World.shape?,hb]) (Lib.frozen_of_heap hb 0)).mono ?_;rintro e w' ⟨rfl,rfl⟩;refine ⟨rfl,⟨hB,v,?_,?_,hne⟩,(Below.refl B w).setCell (p:=⟨b,0,none⟩) hB _⟩
  ·simp [World.setCell,Array.getElem?_modify,hb]
  ·exact hown.kept (row:=some b) ⟨rfl,rfl,rfl,by simp [World.setCell],fun k _ hk=>Below.heap_setCell _ _ _ _ (fun e=>hk (by simp [e]))⟩ (Or.inr hne)
 ·have hc:w.cell? ⟨b,0,none⟩ = some (.pointer (some ⟨b,0,none⟩)):=by
   obtain ⟨_,v,hb,_⟩:=h;rw [Lib.cell_of_heap hb];rfl
  refine (head_Write.copy_used b w hc).mono ?_;rintro e w' ⟨rfl,rfl⟩;exact ⟨rfl,h,Below.refl B _⟩
set_option maxHeartbeats 2000000 in
set_option maxRecDepth 100000 in
theorem head_Write.writeString (B b:Nat) (bs:List Value) (x:Int) (s:ByteArray) (w:World) (h:head_Write.IsPen B b bs x w) (hlen:bs.length + s.size ≤ 140737488355328) (hBw:B ≤ w.heap.size) :
 Calls Tryz.prog 65 #[.pointer (some ⟨b,0,none⟩),.string s] w fun e w'=>e = .returned (.tuple #[.int .i64 s.size,.nilIface])∧(head_Write.PenAt B b (.pointer (some ⟨b,0,none⟩)) (bs ++ Lib.strCells s) x w'∧Below B w w'):=by
 obtain ⟨i0,hi,hz0,hz1,hz2⟩:=info_parts head_Write.infoB;go_enter Tryz.func65,Tryz.ntmps65;go_wp2_with (go_at_call 108;refine (head_Write.copy B b bs x _ h).mono ?_)
 rintro e w1 ⟨rfl,h1,hb1⟩;obtain ⟨hB,v,hbk,hown,hne⟩:=h1;have c0:w1.cell? ⟨b,0,none⟩ = some (.pointer (some ⟨b,0,none⟩)):=by rw [Lib.cell_of_heap hbk];rfl
 have c1:w1.cell? ⟨b,1,none⟩ = some v:=by rw [Lib.cell_of_heap hbk];rfl
 go_wp2_with (at_builtin;refine Lib.wpList_append_own_string _ rfl _ _ 24 9 rfl B 5 i0 Tryz.underlying24 Tryz.underlying9 hi hz0 hz1 hz2 _ _ _ rfl hown s rfl ?c3 ?c4 ?c5 ?_)
 case c3=>unfold maxLen;omega
 case c4=>omega
 case c5=>have:=hb1.size;omega
 intro v' w2 hown' hgrow _;have hlt:b < w1.heap.size:=(Array.getElem?_eq_some_iff.1 hbk).1;have hb2:w2.heap[b]? = some (.cells #[.pointer (some ⟨b,0,none⟩),v,.int .i64 x] 109 (0,0)):=by
  rw [hgrow.block b hlt (fun e=>hne e.symm)];exact hbk
 have d0:w2.cell? ⟨b,0,none⟩ = some (.pointer (some ⟨b,0,none⟩)):=by rw [Lib.cell_of_heap hb2];rfl
 have d1:w2.cell? ⟨b,1,none⟩ = some v:=by rw [Lib.cell_of_heap hb2];rfl
 have f1:w2.frozen? ⟨b,1,none⟩ = false:=Lib.frozen_of_heap hb2 1;obtain ⟨ao,n',cap,rfl⟩:∃ ao n' cap,v' = .slice ao n' cap:=by
  rcases hown'.2 with ⟨hv,_⟩|⟨g,cap,cur,hv,_⟩
  ·exact ⟨_,_,_,hv⟩
  ·exact ⟨_,_,_,hv⟩
 go_wp2;go_ret2
 have hne2:=Lib.ownBlock_ne hown' hb2 (by decide);refine ⟨rfl,⟨hB,_,?_,?_,hne2⟩,?_⟩
 ·simp [World.setCell,Array.getElem?_modify,hb2]
 ·have hk:=hown'.kept (w':=w2.setCell ⟨b,1,none⟩ (.slice ao n' cap)) (row:=some b) ⟨rfl,rfl,rfl,by simp [World.setCell],fun k _ hk=>Below.heap_setCell _ _ _ _ (fun e=>hk (by simp [e]))⟩ (Or.inr hne2);simpa [Lib.strCells_length] using hk
 ·exact (hb1.grown hgrow (by have:=hb1.size;omega) (fun k hk=>(hown.lt k hk).1)).setCell (p:=⟨b,1,none⟩) hB _
set_option maxHeartbeats 2000000 in
set_option maxRecDepth 100000 in
theorem head_Write.put (B b:Nat) (bs:List Value) (x:Int) (s:ByteArray) (e1:Int) (w:World) (h:head_Write.IsPen B b bs x w) (hlen:bs.length + s.size ≤ 140737488355328) (hBw:B ≤ w.heap.size) :
 Calls Tryz.prog 67 #[.pointer (some ⟨b,0,none⟩),.string s,.int .i64 e1] w fun e w'=>e = .returned (.tuple #[])∧(head_Write.IsPen B b (if x = 0 then bs ++ Lib.strCells s else bs) (if x = 0 then e1 else x) w'∧Below B w w'):=by
 obtain ⟨p,h1,hp⟩:∃ p,head_Write.PenAt B b p bs x w∧(p = .pointer none ∨ p = .pointer (some ⟨b,0,none⟩)):=by
  rcases h with h|h
  ·exact ⟨_,h,Or.inl rfl⟩
  ·exact ⟨_,h,Or.inr rfl⟩
 obtain ⟨hB,v,hbk,hown,hne⟩:=h1;have c2:w.cell? ⟨b,2,none⟩ = some (.int .i64 x):=by rw [Lib.cell_of_heap hbk];rfl
 have f2:w.frozen? ⟨b,2,none⟩ = false:=Lib.frozen_of_heap hbk 2;by_cases hx:x = 0
 ·subst hx;rw [if_pos rfl,if_pos rfl];have hP:head_Write.IsPen B b bs e1 (w.setCell ⟨b,2,none⟩ (.int .i64 e1)):=by
   have hk:(w.setCell ⟨b,2,none⟩ (.int .i64 e1)).heap[b]? = some (.cells #[p,v,.int .i64 e1] 109 (0,0)):=by
    simp [World.setCell,Array.getElem?_modify,hbk]
   have ho:=hown.kept (w':=w.setCell ⟨b,2,none⟩ (.int .i64 e1)) (row:=some b) ⟨rfl,rfl,rfl,by simp [World.setCell],fun k _ hk=>Below.heap_setCell _ _ _ _ (fun e=>hk (by simp [e]))⟩ (Or.inr hne);rcases hp with rfl|rfl
   ·exact Or.inl ⟨hB,v,hk,ho,hne⟩
   ·exact Or.inr ⟨hB,v,hk,ho,hne⟩
  have HP:=Aside0.mk hP;have hbw:=(Below.refl B w).setCell (p:=⟨b,2,none⟩) hB (.int .i64 e1);have HW:=Aside0.mk hbw;clear hP hbw h hown hbk hne hp;go_enter Tryz.func67,Tryz.ntmps67;go_wp2_with (go_at_call 65;refine (head_Write.writeString B b bs e1 s _ HP.out hlen (Nat.le_trans hBw HW.out.size)).mono ?_;rintro e w1 ⟨rfl,hat,hb1⟩;have H1:=Aside0.mk hat;have H2:=Aside0.mk hb1;clear hat hb1)
  go_end0
  exact ⟨rfl,Or.inr H1.out,HW.out.trans H2.out⟩
 ·rw [if_neg hx,if_neg hx];have hx0:(x == 0) = false:=beq_eq_false_iff_ne.2 hx;have HP:=Aside0.mk h;clear h hown hbk hne hp hx;go_enter Tryz.func67,Tryz.ntmps67;go_wp2;go_end0
  exact ⟨rfl,HP.out,Below.refl B w⟩
theorem head_Write.cellsB:Tryz.prog.cellsOf 5 = 1:=by kernel_rfl
set_option maxHeartbeats 1000000 in
set_option maxRecDepth 100000 in
theorem head_Write.str (B b:Nat) (l:List UInt8) (x:Int) (w:World) (h:head_Write.IsPen B b (Lib.byteCells l) x w) (h0:l ≠ []) :
 Calls Tryz.prog 66 #[.pointer (some ⟨b,0,none⟩)] w fun e w'=>e = .returned (.string ⟨l.toArray⟩)∧Below B w w':=by
 obtain ⟨p,hB,v,hbk,hown,hne⟩:∃ p,head_Write.PenAt B b p (Lib.byteCells l) x w:=by
  rcases h with h|h
  ·exact ⟨_,h⟩
  ·exact ⟨_,h⟩
 have hl0:l.length ≠ 0:=by simpa using h0
 rw [Lib.byteCells_length] at hown;obtain ⟨g,cap,cur,rfl,hbg,hg,hnc,hcm,hcs,htake⟩:∃ g cap cur,v = .slice (some ⟨g,0,none⟩) l.length cap∧B ≤ g∧w.heap[g]? = some (.cells cur 5 (0,0))∧l.length ≤ cap∧cap ≤ maxLen∧cur.size = cap * 1∧cur.toList.take (l.length * 1) = Lib.byteCells l:=by
  rcases hown.2 with ⟨_,hz⟩|⟨g,cap,cur,hv,r⟩
  ·exact absurd hz hl0
  ·exact ⟨g,cap,cur,hv,r⟩
 have c1:w.drew.cell? ⟨b,1,none⟩ = some (.slice (some ⟨g,0,none⟩) l.length cap):=by
  have:w.drew.heap[b]? = some (.cells #[p,.slice (some ⟨g,0,none⟩) l.length cap,.int .i64 x] 109 (0,0)):=hbk;rw [Lib.cell_of_heap this];rfl
 have hSD:(Builtin.unsafeSliceData_ #[24] 140 #[.slice (some ⟨g,0,none⟩) l.length cap]).run Tryz.prog w.drew = .ok (.pointer (some ⟨g,0,none⟩)) w.drew :=
  Lib.run_unsafeSliceData_row _ _ _ _ _ _ (by omega)
 have hUS:(Builtin.unsafeString_ #[140,3] 9 #[.pointer (some ⟨g,0,none⟩),.int .i64 l.length]).run Tryz.prog w.drew = .ok (.string ⟨l.toArray⟩) (w.drew.freeze ⟨g,0,none⟩ l.length):=by
  refine Lib.run_unsafeString_row w.drew 140 3 9 5 Tryz.underlying140 head_Write.cellsB g cur.size (by have hg':w.drew.heap[g]? = some (.cells cur 5 (0,0)):=hg;simp [World.shape?,hg']) l h0 (by omega) (by unfold maxLen at hcm;omega) ?_;intro j x hx;have:=hown.cells (g:=g) rfl j (.int .u8 x.toNat) (by simp [Lib.byteCells,hx]);exact this
 have mixed:Tryz.prog.follows Departure.mixedOrders = true:=by kernel_rfl
 go_enter Tryz.func66,Tryz.ntmps66;go_wp2;go_region_o
 all_goals (go_wp2;go_ret;exact ⟨rfl,Lib.below_freeze (Below.drew (Below.refl B w)) (p:=⟨g,0,none⟩) hbg _⟩)
def head_Write.pt (q:Int × ByteArray) (s:ByteArray) (e:Int):Int × ByteArray:=if q.1 = 0 then (e,q.2 ++ s) else q
def head_Write.blank (t:Int):ByteArray:=(⟨#[32,32,32,32,32,32,32,32]⟩:ByteArray) ++ strOfNums [t]
def head_Write.tail (k:Nat) (q:Int × ByteArray):Option (ByteArray × Int):=if q.1 = 0 then ((head_Sum.f k q.2).bind fun n=>(octal_Write.f k n.1 7).bind fun u=>if 156 ≤ q.2.size∧u.1.size ≤ 10000∧q.2.size ≤ 1000000 then some (q.2.extract 0 148 ++ u.1 ++ (⟨#[32]⟩:ByteArray) ++ q.2.extract 156 q.2.size,0) else none) else some ((⟨#[]⟩:ByteArray),q.1)
def head_Write.f (k:Nat) (a0_0:ByteArray) (a0_1:ByteArray) (a0_2:ByteArray) (a0_3:Int) (a0_4:Int) (a0_5:Int) (a0_6:Int) (a0_7:Int) (a0_8:Int) (a0_9:ByteArray) (a0_10:ByteArray):Option (ByteArray × Int):=(strings_IndexByte.f (⟨#[48,49,50,53,120]⟩:ByteArray) a0_8).bind fun b=>if b < 0 then some ((⟨#[]⟩:ByteArray),2) else ((field_Write.f k a0_0 100 true).bind fun r1=>(octal_Write.f k a0_3 8).bind fun r2=>(octal_Write.f k a0_4 8).bind fun r3=>(octal_Write.f k a0_5 8).bind fun r4=>(octal_Write.f k a0_6 12).bind fun r5=>(octal_Write.f k a0_7 12).bind fun r6=>(field_Write.f k a0_2 100 true).bind fun r7=>(field_Write.f k a0_9 32 false).bind fun r8=>(field_Write.f k a0_10 32 false).bind fun r9=>(field_Write.f k a0_1 155 true).bind fun r10=>(strings_Repeat.f (⟨#[0]⟩:ByteArray) 12).bind fun z=>if r1.1.size + r2.1.size + r3.1.size + r4.1.size + r5.1.size + r6.1.size + r7.1.size + r8.1.size + r9.1.size + r10.1.size + z.size ≤ 100000 then head_Write.tail k (head_Write.pt (head_Write.pt (head_Write.pt (head_Write.pt (head_Write.pt (head_Write.pt (head_Write.pt (head_Write.pt (head_Write.pt (head_Write.pt (head_Write.pt (head_Write.pt (head_Write.pt (head_Write.pt ((0,(⟨#[]⟩:ByteArray)):Int × ByteArray) r1.1 r1.2) r2.1 r2.2) r3.1 r3.2) r4.1 r4.2) r5.1 r5.2) r6.1 r6.2) (head_Write.blank a0_8) 0) r7.1 r7.2) ((⟨#[117,115,116,97,114,0,48,48]⟩:ByteArray)) 0) r8.1 r8.2) r9.1 r9.2) ((⟨#[48,48,48,48,48,48,48,0,48,48,48,48,48,48,48,0]⟩:ByteArray)) 0) r10.1 r10.2) (z) 0) else none)
theorem head_Write.pt_size (q:Int × ByteArray) (s:ByteArray) (e:Int):(head_Write.pt q s e).2.size ≤ q.2.size + s.size:=by
 unfold head_Write.pt;split
 ·simp [ByteArray.size_append]
 ·omega
theorem head_Write.blank_size (t:Int):(head_Write.blank t).size = 9:=by simp [head_Write.blank,strOfNums,ByteArray.size_append];rfl
theorem head_Write.keep {B b:Nat} {bs:List Value} {x:Int} {w w':World} (h:head_Write.IsPen B b bs x w) (hb:Below w.heap.size w w'):head_Write.IsPen B b bs x w':=by
 rcases h with h|h
 ·have hlt:=h.lt;obtain ⟨hB,v,hbk,hown,hne⟩:=h;exact Or.inl ⟨hB,v,(hb.block b hlt).trans hbk,hown.kept (row:=none) ⟨hb.os,hb.tape,hb.output,hb.size,fun k hk _=>hb.block k hk⟩ (by cases hv:v.ownBlock <;> simp),hne⟩
 ·have hlt:=h.lt;obtain ⟨hB,v,hbk,hown,hne⟩:=h;exact Or.inr ⟨hB,v,(hb.block b hlt).trans hbk,hown.kept (row:=none) ⟨hb.os,hb.tape,hb.output,hb.size,fun k hk _=>hb.block k hk⟩ (by cases hv:v.ownBlock <;> simp),hne⟩
def head_Write.St (w W:World) (B:Nat) (H:Array Value) (gb gp:Nat) (q:Int × ByteArray) (n:Nat):Prop :=
 (w.heap.size ≤ gb∧gb < B∧B ≤ W.heap.size∧q.2.size ≤ n)∧W.heap[gb]? = some (.cells H 55 (0,0))∧head_Write.IsPen B gp (Lib.strCells q.2) q.1 W∧Below w.heap.size w W
theorem head_Write.St.step {w W W':World} {B:Nat} {H:Array Value} {gb gp:Nat} {q:Int × ByteArray} {n:Nat} (h:head_Write.St w W B H gb gp q n) (hb:Below W.heap.size W W'):head_Write.St w W' B H gb gp q n:=by
 obtain ⟨⟨h0,h1,h2,h6⟩,h3,h4,h5⟩:=h;exact ⟨⟨h0,h1,Nat.le_trans h2 hb.size,h6⟩,blk_below h3 hb,head_Write.keep h4 hb,below_step h5 hb⟩
theorem head_Write.St.start {w w1 w2:World} {H:Array Value} {gb gp nd:Nat} (hg:gb = w.heap.size) (hk:w1.heap[gb]? = some (.cells H 55 (0,0))) (hb:Below w.heap.size w w1) (hg2:gp = (w1.drewN nd).heap.size) (hk2:w2.heap[gp]? = some (.cells #[.pointer none,.slice none 0 0,.int .i64 0] 109 (0,0))) (hb2:Below (w1.drewN nd).heap.size (w1.drewN nd) w2):head_Write.St w w2 w1.heap.size H gb gp (0,(⟨#[]⟩:ByteArray)) 0:=by
 have l1:gb < w1.heap.size:=blk_lt hk;refine ⟨⟨by omega,l1,hb2.size,Nat.le_refl _⟩,blk_below (show (w1.drewN nd).heap[gb]? = _ from hk) hb2,Or.inl ⟨by rw [hg2];exact Nat.le_refl _,.slice none 0 0,hk2,⟨rfl,Or.inl ⟨rfl,rfl⟩⟩,by simp [Value.ownBlock]⟩,below_step (pwbN hb nd) hb2⟩
theorem head_Write.putS (w W:World) (B:Nat) (H:Array Value) (gb gp:Nat) (q:Int × ByteArray) (n:Nat) (s:ByteArray) (e1:Int) (hS:head_Write.St w W B H gb gp q n) (hlen:n + s.size ≤ 140737488355328) :
 Calls Tryz.prog 67 #[.pointer (some ⟨gp,0,none⟩),.string s,.int .i64 e1] W fun e w'=>e = .returned (.tuple #[])∧head_Write.St w w' B H gb gp (head_Write.pt q s e1) (n + s.size):=by
 obtain ⟨⟨h0,h1,h2,h6⟩,h3,h4,h5⟩:=hS;refine (head_Write.put B gp (Lib.strCells q.2) q.1 s e1 W h4 (by rw [Lib.strCells_length];omega) h2).mono ?_;rintro e w' ⟨rfl,hp,hb⟩;refine ⟨rfl,⟨h0,h1,Nat.le_trans h2 hb.size,Nat.le_trans (head_Write.pt_size q s e1) (Nat.add_le_add_right h6 _)⟩,(hb.block gb h1).trans h3,?_,h5.trans (hb.mono (by omega))⟩;unfold head_Write.pt;by_cases hq:q.1 = 0
 ·rw [if_pos hq,if_pos hq] at hp;rw [if_pos hq,show Lib.strCells ((e1,q.2 ++ s):Int × ByteArray).2 = Lib.strCells q.2 ++ Lib.strCells s from by simp [Lib.strCells]];exact hp
 ·rw [if_neg hq,if_neg hq] at hp;rw [if_neg hq];exact hp
theorem head_Write.errAt {w W:World} {B:Nat} {H:Array Value} {gb gp:Nat} {q:Int × ByteArray} {n:Nat} (h:head_Write.St w W B H gb gp q n):W.cell? ⟨gp,2,none⟩ = some (.int .i64 q.1):=by
 obtain ⟨_,_,h4,_⟩:=h;rcases h4 with ⟨_,v,hb,_⟩|⟨_,v,hb,_⟩ <;> exact (blk_cell hb 2).trans rfl
theorem head_Write.strS (w W:World) (B:Nat) (H:Array Value) (gb gp:Nat) (q:Int × ByteArray) (n:Nat) (hS:head_Write.St w W B H gb gp q n) (h0:0 < q.2.size) :
 Calls Tryz.prog 66 #[.pointer (some ⟨gp,0,none⟩)] W fun e w'=>e = .returned (.string q.2)∧Below w.heap.size w w':=by
 obtain ⟨⟨i0,i1,i2,i6⟩,i3,i4,i5⟩:=hS;refine (head_Write.str B gp q.2.data.toList q.1 W i4 (fun e=>?_)).mono ?_
 ·have h3:q.2.size = q.2.data.toList.length:=rfl;rw [e,List.length_nil] at h3;omega
 ·rintro e w' ⟨rfl,hb⟩;exact ⟨rfl,i5.trans (hb.mono (by omega))⟩
theorem head_Write.ix30 (x y z:Value) (w:World):(Instr.index 112 (.agg #[x,y,z]) (.int .i64 0)).run Tryz.prog w = .ok x w:=by kernel_rfl
theorem head_Write.ix31 (x y z:Value) (w:World):(Instr.index 112 (.agg #[x,y,z]) (.int .i64 1)).run Tryz.prog w = .ok y w:=by kernel_rfl
theorem head_Write.ix32 (x y z:Value) (w:World):(Instr.index 112 (.agg #[x,y,z]) (.int .i64 2)).run Tryz.prog w = .ok z w:=by kernel_rfl
theorem head_Write.ix20 (x y:Value) (w:World):(Instr.index 113 (.agg #[x,y]) (.int .i64 0)).run Tryz.prog w = .ok x w:=by kernel_rfl
theorem head_Write.ix21 (x y:Value) (w:World):(Instr.index 113 (.agg #[x,y]) (.int .i64 1)).run Tryz.prog w = .ok y w:=by kernel_rfl
theorem head_Write.conv1 (W:World) (x:Int):(convert 24 9 (.slice (some ⟨W.heap.size,0,none⟩) 1 1)).run Tryz.prog (W.alloc (.cells #[.int .u8 x] 5 (0,0))) = .ok (.string (strOfNums [x])) (W.alloc (.cells #[.int .u8 x] 5 (0,0))):=by
 refine string_of_reads (xs:=[x]) Tryz.underlying24 Tryz.underlying5 Tryz.underlying9 ⟨rfl,by decide,fun _=>⟨⟨W.heap.size,0,none⟩,rfl,fun j hj=>?_⟩⟩;obtain rfl:j = 0:=by omega
 exact (blk_cell (blk_new W _) 0).trans rfl
set_option maxHeartbeats 8000000 in
set_option maxRecDepth 100000 in
theorem head_Write.calls (k:Nat) (a0_0:ByteArray) (a0_1:ByteArray) (a0_2:ByteArray) (a0_3:Int) (a0_4:Int) (a0_5:Int) (a0_6:Int) (a0_7:Int) (a0_8:Int) (a0_9:ByteArray) (a0_10:ByteArray) (x1:ByteArray) (x2:Int) (w:World) (h:head_Write.f k a0_0 a0_1 a0_2 a0_3 a0_4 a0_5 a0_6 a0_7 a0_8 a0_9 a0_10 = some (x1,x2)) :
 Calls Tryz.prog 29 #[.agg #[.string a0_0,.string a0_1,.string a0_2,.int .i64 a0_3,.int .i64 a0_4,.int .i64 a0_5,.int .i64 a0_6,.int .i64 a0_7,.int .u8 a0_8,.string a0_9,.string a0_10]] w fun e w'=>e = .returned (.tuple #[.string x1,.int .i64 x2])∧Below w.heap.size w w':=by
 unfold head_Write.f at h;obtain ⟨b,A0,h2⟩:=Option.bind_eq_some_iff.mp h;clear h;have h:=h2;clear h2;have HA0:=Aside0.mk A0;clear A0;by_cases hb0:b < 0
 ·rw [if_pos hb0] at h;simp only [Option.some.injEq,Prod.mk.injEq] at h;obtain ⟨rfl,rfl⟩:=h;have hb0b:=decide_eq_true hb0;clear hb0;go_enter Tryz.func29,Tryz.ntmps29;go_wp2_with (first|((with_reducible refine gate_dst (N:=1) rfl ?_);refine box_event ?hg (N:=1) ?hd (cs:=#[.string a0_0,.string a0_1,.string a0_2,.int .i64 a0_3,.int .i64 a0_4,.int .i64 a0_5,.int .i64 a0_6,.int .i64 a0_7,.int .u8 a0_8,.string a0_9,.string a0_10]) (t:=55) ?hr ?_;(case hd=>rfl);(case hg=>rfl);(case hr=>first|(go_simp;done)|(go_simp;rfl));intro gb hg w1 hbox hb1;have HG:=Aside0.mk hg;have HK:=Aside0.mk hbox;have HB1:=Aside0.mk hb1;have hc8:w1.cell? ⟨gb,8,none⟩ = some (.int .u8 a0_8):=(blk_cell HK.out 8).trans rfl;clear hg hbox hb1)|(go_at_call 56;refine (strings_IndexByte.calls _ _ b _ HA0.out).mono ?_;rintro e w2 ⟨rfl,nd,rfl⟩))
  go_ret2
  exact ⟨rfl,pwbN HB1.out nd⟩
 ·rw [if_neg hb0] at h;have hb0b:=decide_eq_false hb0;clear hb0;obtain ⟨r1,Ar1,h2⟩:=Option.bind_eq_some_iff.mp h;clear h;have h:=h2;clear h2;obtain ⟨r2,Ar2,h2⟩:=Option.bind_eq_some_iff.mp h;clear h;have h:=h2;clear h2;obtain ⟨r3,Ar3,h2⟩:=Option.bind_eq_some_iff.mp h;clear h;have h:=h2;clear h2;obtain ⟨r4,Ar4,h2⟩:=Option.bind_eq_some_iff.mp h;clear h;have h:=h2;clear h2;obtain ⟨r5,Ar5,h2⟩:=Option.bind_eq_some_iff.mp h;clear h;have h:=h2;clear h2;obtain ⟨r6,Ar6,h2⟩:=Option.bind_eq_some_iff.mp h;clear h;have h:=h2;clear h2;obtain ⟨r7,Ar7,h2⟩:=Option.bind_eq_some_iff.mp h;clear h;have h:=h2;clear h2;obtain ⟨r8,Ar8,h2⟩:=Option.bind_eq_some_iff.mp h;clear h;have h:=h2;clear h2;obtain ⟨r9,Ar9,h2⟩:=Option.bind_eq_some_iff.mp h;clear h;have h:=h2;clear h2;obtain ⟨r10,Ar10,h2⟩:=Option.bind_eq_some_iff.mp h;clear h;have h:=h2;clear h2;obtain ⟨z,Az,h2⟩:=Option.bind_eq_some_iff.mp h;clear h;have h:=h2;clear h2;by_cases hsz:r1.1.size + r2.1.size + r3.1.size + r4.1.size + r5.1.size + r6.1.size + r7.1.size + r8.1.size + r9.1.size + r10.1.size + z.size ≤ 100000
  ·rw [if_pos hsz] at h;have HH:=Aside0.mk h;have HZ:=Aside0.mk hsz;clear h hsz;have Hr1:=Aside0.mk Ar1;clear Ar1;have Hr2:=Aside0.mk Ar2;clear Ar2;have Hr3:=Aside0.mk Ar3;clear Ar3;have Hr4:=Aside0.mk Ar4;clear Ar4;have Hr5:=Aside0.mk Ar5;clear Ar5;have Hr6:=Aside0.mk Ar6;clear Ar6;have Hr7:=Aside0.mk Ar7;clear Ar7;have Hr8:=Aside0.mk Ar8;clear Ar8;have Hr9:=Aside0.mk Ar9;clear Ar9;have Hr10:=Aside0.mk Ar10;clear Ar10;have Hz:=Aside0.mk Az;clear Az;go_enter Tryz.func29,Tryz.ntmps29;go_upto_region 4 with (first|((with_reducible refine gate_dst (N:=1) rfl ?_);refine box_event ?hg (N:=1) ?hd (cs:=#[.string a0_0,.string a0_1,.string a0_2,.int .i64 a0_3,.int .i64 a0_4,.int .i64 a0_5,.int .i64 a0_6,.int .i64 a0_7,.int .u8 a0_8,.string a0_9,.string a0_10]) (t:=55) ?hr ?_;(case hd=>rfl);(case hg=>rfl);(case hr=>first|(go_simp;done)|(go_simp;rfl));intro gb hg w1 hbox hb1;have HG:=Aside0.mk hg;have HK:=Aside0.mk hbox;have HB1:=Aside0.mk hb1;have hc8:w1.cell? ⟨gb,8,none⟩ = some (.int .u8 a0_8):=(blk_cell HK.out 8).trans rfl;clear hg hbox hb1)|(go_at_call 56;refine (strings_IndexByte.calls _ _ b _ HA0.out).mono ?_;rintro e w2 ⟨rfl,nd,rfl⟩)|((with_reducible refine gate_dst (N:=19) rfl ?_);refine box_event ?hg (N:=19) ?hd (cs:=#[.pointer none,.slice none 0 0,.int .i64 0]) (t:=109) ?hr ?_;(case hd=>rfl);(case hg=>rfl);(case hr=>first|(go_simp;done)|(go_simp;rfl));intro gp hg w3 hbox3 hb3;have HG3:=Aside0.mk hg;have HK3:=Aside0.mk hbox3;have HB3:=Aside0.mk hb3;clear hg hbox3 hb3))
   have HS:=Aside0.mk (head_Write.St.start HG.out HK.out HB1.out HG3.out HK3.out HB3.out);clear HG HK HB1 HG3 HK3 HB3 HA0 hc8;have hv0:=blk_cell HS.out.2.1 0;have hv1:=blk_cell HS.out.2.1 1;have hv2:=blk_cell HS.out.2.1 2;have hv3:=blk_cell HS.out.2.1 3;have hv4:=blk_cell HS.out.2.1 4;have hv5:=blk_cell HS.out.2.1 5;have hv6:=blk_cell HS.out.2.1 6;have hv7:=blk_cell HS.out.2.1 7;have hv8:=blk_cell HS.out.2.1 8;have hv9:=blk_cell HS.out.2.1 9;have hv10:=blk_cell HS.out.2.1 10;go_wp2_with (first|(go_at_call 68;(first|(with_reducible refine (field_Write.calls k a0_0 100 true r1.1 r1.2 _ Hr1.out).mono ?_)|(with_reducible refine (field_Write.calls k a0_2 100 true r7.1 r7.2 _ Hr7.out).mono ?_)|(with_reducible refine (field_Write.calls k a0_9 32 false r8.1 r8.2 _ Hr8.out).mono ?_)|(with_reducible refine (field_Write.calls k a0_10 32 false r9.1 r9.2 _ Hr9.out).mono ?_)|(with_reducible refine (field_Write.calls k a0_1 155 true r10.1 r10.2 _ Hr10.out).mono ?_));rintro e w8 ⟨rfl,hb8⟩;have HS8:=Aside0.mk (HS.out.step hb8);clear HS hb8;have HS:=HS8;clear HS8;have hv0:=blk_cell HS.out.2.1 0;have hv1:=blk_cell HS.out.2.1 1;have hv2:=blk_cell HS.out.2.1 2;have hv3:=blk_cell HS.out.2.1 3;have hv4:=blk_cell HS.out.2.1 4;have hv5:=blk_cell HS.out.2.1 5;have hv6:=blk_cell HS.out.2.1 6;have hv7:=blk_cell HS.out.2.1 7;have hv8:=blk_cell HS.out.2.1 8;have hv9:=blk_cell HS.out.2.1 9;have hv10:=blk_cell HS.out.2.1 10)|(go_at_call 67;(with_reducible refine (head_Write.putS w _ w1.heap.size #[.string a0_0,.string a0_1,.string a0_2,.int .i64 a0_3,.int .i64 a0_4,.int .i64 a0_5,.int .i64 a0_6,.int .i64 a0_7,.int .u8 a0_8,.string a0_9,.string a0_10] gb gp _ _ _ _ HS.out ?hlen).mono ?_);(case hlen=>exact (by have h1:=HZ.out;have h3:=head_Write.blank_size a0_8;have h4:(⟨#[117,115,116,97,114,0,48,48]⟩:ByteArray).size = 8:=rfl;have h5:(⟨#[48,48,48,48,48,48,48,0,48,48,48,48,48,48,48,0]⟩:ByteArray).size = 16:=rfl;have h6:((⟨#[32,32,32,32,32,32,32,32]⟩:ByteArray) ++ strOfNums [a0_8]).size = 9:=h3;omega));rintro e w9 ⟨rfl,hS⟩;have HS9:=Aside0.mk hS;clear HS hS;have HS:=HS9;clear HS9;have hv0:=blk_cell HS.out.2.1 0;have hv1:=blk_cell HS.out.2.1 1;have hv2:=blk_cell HS.out.2.1 2;have hv3:=blk_cell HS.out.2.1 3;have hv4:=blk_cell HS.out.2.1 4;have hv5:=blk_cell HS.out.2.1 5;have hv6:=blk_cell HS.out.2.1 6;have hv7:=blk_cell HS.out.2.1 7;have hv8:=blk_cell HS.out.2.1 8;have hv9:=blk_cell HS.out.2.1 9;have hv10:=blk_cell HS.out.2.1 10))
   go_loopg [34] 3 (fun g sx wx=>(g = 3∧sx = .int .i64 0∧Aside0 (head_Write.St w wx w1.heap.size #[.string a0_0,.string a0_1,.string a0_2,.int .i64 a0_3,.int .i64 a0_4,.int .i64 a0_5,.int .i64 a0_6,.int .i64 a0_7,.int .u8 a0_8,.string a0_9,.string a0_10] gb gp (head_Write.pt ((0,(⟨#[]⟩:ByteArray)):Int × ByteArray) r1.1 r1.2) (0 + r1.1.size))) ∨ (g = 2∧sx = .int .i64 1∧Aside0 (head_Write.St w wx w1.heap.size #[.string a0_0,.string a0_1,.string a0_2,.int .i64 a0_3,.int .i64 a0_4,.int .i64 a0_5,.int .i64 a0_6,.int .i64 a0_7,.int .u8 a0_8,.string a0_9,.string a0_10] gb gp (head_Write.pt (head_Write.pt ((0,(⟨#[]⟩:ByteArray)):Int × ByteArray) r1.1 r1.2) r2.1 r2.2) ((0 + r1.1.size) + r2.1.size))) ∨ (g = 1∧sx = .int .i64 2∧Aside0 (head_Write.St w wx w1.heap.size #[.string a0_0,.string a0_1,.string a0_2,.int .i64 a0_3,.int .i64 a0_4,.int .i64 a0_5,.int .i64 a0_6,.int .i64 a0_7,.int .u8 a0_8,.string a0_9,.string a0_10] gb gp (head_Write.pt (head_Write.pt (head_Write.pt ((0,(⟨#[]⟩:ByteArray)):Int × ByteArray) r1.1 r1.2) r2.1 r2.2) r3.1 r3.2) (((0 + r1.1.size) + r2.1.size) + r3.1.size))) ∨ (g = 0∧sx = .int .i64 3∧Aside0 (head_Write.St w wx w1.heap.size #[.string a0_0,.string a0_1,.string a0_2,.int .i64 a0_3,.int .i64 a0_4,.int .i64 a0_5,.int .i64 a0_6,.int .i64 a0_7,.int .u8 a0_8,.string a0_9,.string a0_10] gb gp (head_Write.pt (head_Write.pt (head_Write.pt (head_Write.pt ((0,(⟨#[]⟩:ByteArray)):Int × ByteArray) r1.1 r1.2) r2.1 r2.2) r3.1 r3.2) r4.1 r4.2) ((((0 + r1.1.size) + r2.1.size) + r3.1.size) + r4.1.size))))
   case atStart=>exact Or.inl ⟨rfl,rfl,HS⟩
   case round =>
    clear hv0 hv1 hv2 hv3 hv4 hv5 hv6 hv7 hv8 hv9 hv10 HS;have hi0:=fun W=>head_Write.ix30 (.int .i64 a0_3) (.int .i64 a0_4) (.int .i64 a0_5) W
    have hi1:=fun W=>head_Write.ix31 (.int .i64 a0_3) (.int .i64 a0_4) (.int .i64 a0_5) W
    have hi2:=fun W=>head_Write.ix32 (.int .i64 a0_3) (.int .i64 a0_4) (.int .i64 a0_5) W
    rcases hrel with ⟨rfl,rfl,HS⟩|⟨rfl,rfl,HS⟩|⟨rfl,rfl,HS⟩|⟨rfl,rfl,HS⟩
    ·have hv0:=blk_cell HS.out.2.1 0;have hv1:=blk_cell HS.out.2.1 1;have hv2:=blk_cell HS.out.2.1 2;have hv3:=blk_cell HS.out.2.1 3;have hv4:=blk_cell HS.out.2.1 4;have hv5:=blk_cell HS.out.2.1 5;have hv6:=blk_cell HS.out.2.1 6;have hv7:=blk_cell HS.out.2.1 7;have hv8:=blk_cell HS.out.2.1 8;have hv9:=blk_cell HS.out.2.1 9;have hv10:=blk_cell HS.out.2.1 10;go_wp2_with (first|(go_at_call 69;(first|(with_reducible refine (octal_Write.calls k a0_3 8 r2.1 r2.2 _ Hr2.out).mono ?_)|(with_reducible refine (octal_Write.calls k a0_4 8 r3.1 r3.2 _ Hr3.out).mono ?_)|(with_reducible refine (octal_Write.calls k a0_5 8 r4.1 r4.2 _ Hr4.out).mono ?_)|(with_reducible refine (octal_Write.calls k a0_6 12 r5.1 r5.2 _ Hr5.out).mono ?_)|(with_reducible refine (octal_Write.calls k a0_7 12 r6.1 r6.2 _ Hr6.out).mono ?_));rintro e w8 ⟨rfl,hb8⟩;have HS8:=Aside0.mk (HS.out.step hb8);clear HS hb8;have HS:=HS8;clear HS8;have hv0:=blk_cell HS.out.2.1 0;have hv1:=blk_cell HS.out.2.1 1;have hv2:=blk_cell HS.out.2.1 2;have hv3:=blk_cell HS.out.2.1 3;have hv4:=blk_cell HS.out.2.1 4;have hv5:=blk_cell HS.out.2.1 5;have hv6:=blk_cell HS.out.2.1 6;have hv7:=blk_cell HS.out.2.1 7;have hv8:=blk_cell HS.out.2.1 8;have hv9:=blk_cell HS.out.2.1 9;have hv10:=blk_cell HS.out.2.1 10)|(go_at_call 67;(with_reducible refine (head_Write.putS w _ w1.heap.size #[.string a0_0,.string a0_1,.string a0_2,.int .i64 a0_3,.int .i64 a0_4,.int .i64 a0_5,.int .i64 a0_6,.int .i64 a0_7,.int .u8 a0_8,.string a0_9,.string a0_10] gb gp _ _ _ _ HS.out ?hlen).mono ?_);(case hlen=>exact (by have h1:=HZ.out;have h3:=head_Write.blank_size a0_8;have h4:(⟨#[117,115,116,97,114,0,48,48]⟩:ByteArray).size = 8:=rfl;have h5:(⟨#[48,48,48,48,48,48,48,0,48,48,48,48,48,48,48,0]⟩:ByteArray).size = 16:=rfl;have h6:((⟨#[32,32,32,32,32,32,32,32]⟩:ByteArray) ++ strOfNums [a0_8]).size = 9:=h3;omega));rintro e w9 ⟨rfl,hS⟩;have HS9:=Aside0.mk hS;clear HS hS;have HS:=HS9;clear HS9;have hv0:=blk_cell HS.out.2.1 0;have hv1:=blk_cell HS.out.2.1 1;have hv2:=blk_cell HS.out.2.1 2;have hv3:=blk_cell HS.out.2.1 3;have hv4:=blk_cell HS.out.2.1 4;have hv5:=blk_cell HS.out.2.1 5;have hv6:=blk_cell HS.out.2.1 6;have hv7:=blk_cell HS.out.2.1 7;have hv8:=blk_cell HS.out.2.1 8;have hv9:=blk_cell HS.out.2.1 9;have hv10:=blk_cell HS.out.2.1 10))
     go_roundg 2
     case measure=>omega
     case rel=>exact Or.inr (Or.inl ⟨rfl,rfl,HS⟩)
    ·have hv0:=blk_cell HS.out.2.1 0;have hv1:=blk_cell HS.out.2.1 1;have hv2:=blk_cell HS.out.2.1 2;have hv3:=blk_cell HS.out.2.1 3;have hv4:=blk_cell HS.out.2.1 4;have hv5:=blk_cell HS.out.2.1 5;have hv6:=blk_cell HS.out.2.1 6;have hv7:=blk_cell HS.out.2.1 7;have hv8:=blk_cell HS.out.2.1 8;have hv9:=blk_cell HS.out.2.1 9;have hv10:=blk_cell HS.out.2.1 10;go_wp2_with (first|(go_at_call 69;(first|(with_reducible refine (octal_Write.calls k a0_3 8 r2.1 r2.2 _ Hr2.out).mono ?_)|(with_reducible refine (octal_Write.calls k a0_4 8 r3.1 r3.2 _ Hr3.out).mono ?_)|(with_reducible refine (octal_Write.calls k a0_5 8 r4.1 r4.2 _ Hr4.out).mono ?_)|(with_reducible refine (octal_Write.calls k a0_6 12 r5.1 r5.2 _ Hr5.out).mono ?_)|(with_reducible refine (octal_Write.calls k a0_7 12 r6.1 r6.2 _ Hr6.out).mono ?_));rintro e w8 ⟨rfl,hb8⟩;have HS8:=Aside0.mk (HS.out.step hb8);clear HS hb8;have HS:=HS8;clear HS8;have hv0:=blk_cell HS.out.2.1 0;have hv1:=blk_cell HS.out.2.1 1;have hv2:=blk_cell HS.out.2.1 2;have hv3:=blk_cell HS.out.2.1 3;have hv4:=blk_cell HS.out.2.1 4;have hv5:=blk_cell HS.out.2.1 5;have hv6:=blk_cell HS.out.2.1 6;have hv7:=blk_cell HS.out.2.1 7;have hv8:=blk_cell HS.out.2.1 8;have hv9:=blk_cell HS.out.2.1 9;have hv10:=blk_cell HS.out.2.1 10)|(go_at_call 67;(with_reducible refine (head_Write.putS w _ w1.heap.size #[.string a0_0,.string a0_1,.string a0_2,.int .i64 a0_3,.int .i64 a0_4,.int .i64 a0_5,.int .i64 a0_6,.int .i64 a0_7,.int .u8 a0_8,.string a0_9,.string a0_10] gb gp _ _ _ _ HS.out ?hlen).mono ?_);(case hlen=>exact (by have h1:=HZ.out;have h3:=head_Write.blank_size a0_8;have h4:(⟨#[117,115,116,97,114,0,48,48]⟩:ByteArray).size = 8:=rfl;have h5:(⟨#[48,48,48,48,48,48,48,0,48,48,48,48,48,48,48,0]⟩:ByteArray).size = 16:=rfl;have h6:((⟨#[32,32,32,32,32,32,32,32]⟩:ByteArray) ++ strOfNums [a0_8]).size = 9:=h3;omega));rintro e w9 ⟨rfl,hS⟩;have HS9:=Aside0.mk hS;clear HS hS;have HS:=HS9;clear HS9;have hv0:=blk_cell HS.out.2.1 0;have hv1:=blk_cell HS.out.2.1 1;have hv2:=blk_cell HS.out.2.1 2;have hv3:=blk_cell HS.out.2.1 3;have hv4:=blk_cell HS.out.2.1 4;have hv5:=blk_cell HS.out.2.1 5;have hv6:=blk_cell HS.out.2.1 6;have hv7:=blk_cell HS.out.2.1 7;have hv8:=blk_cell HS.out.2.1 8;have hv9:=blk_cell HS.out.2.1 9;have hv10:=blk_cell HS.out.2.1 10))
     go_roundg 1
     case measure=>omega
     case rel=>exact Or.inr (Or.inr (Or.inl ⟨rfl,rfl,HS⟩))
    ·have hv0:=blk_cell HS.out.2.1 0;have hv1:=blk_cell HS.out.2.1 1;have hv2:=blk_cell HS.out.2.1 2;have hv3:=blk_cell HS.out.2.1 3;have hv4:=blk_cell HS.out.2.1 4;have hv5:=blk_cell HS.out.2.1 5;have hv6:=blk_cell HS.out.2.1 6;have hv7:=blk_cell HS.out.2.1 7;have hv8:=blk_cell HS.out.2.1 8;have hv9:=blk_cell HS.out.2.1 9;have hv10:=blk_cell HS.out.2.1 10;go_wp2_with (first|(go_at_call 69;(first|(with_reducible refine (octal_Write.calls k a0_3 8 r2.1 r2.2 _ Hr2.out).mono ?_)|(with_reducible refine (octal_Write.calls k a0_4 8 r3.1 r3.2 _ Hr3.out).mono ?_)|(with_reducible refine (octal_Write.calls k a0_5 8 r4.1 r4.2 _ Hr4.out).mono ?_)|(with_reducible refine (octal_Write.calls k a0_6 12 r5.1 r5.2 _ Hr5.out).mono ?_)|(with_reducible refine (octal_Write.calls k a0_7 12 r6.1 r6.2 _ Hr6.out).mono ?_));rintro e w8 ⟨rfl,hb8⟩;have HS8:=Aside0.mk (HS.out.step hb8);clear HS hb8;have HS:=HS8;clear HS8;have hv0:=blk_cell HS.out.2.1 0;have hv1:=blk_cell HS.out.2.1 1;have hv2:=blk_cell HS.out.2.1 2;have hv3:=blk_cell HS.out.2.1 3;have hv4:=blk_cell HS.out.2.1 4;have hv5:=blk_cell HS.out.2.1 5;have hv6:=blk_cell HS.out.2.1 6;have hv7:=blk_cell HS.out.2.1 7;have hv8:=blk_cell HS.out.2.1 8;have hv9:=blk_cell HS.out.2.1 9;have hv10:=blk_cell HS.out.2.1 10)|(go_at_call 67;(with_reducible refine (head_Write.putS w _ w1.heap.size #[.string a0_0,.string a0_1,.string a0_2,.int .i64 a0_3,.int .i64 a0_4,.int .i64 a0_5,.int .i64 a0_6,.int .i64 a0_7,.int .u8 a0_8,.string a0_9,.string a0_10] gb gp _ _ _ _ HS.out ?hlen).mono ?_);(case hlen=>exact (by have h1:=HZ.out;have h3:=head_Write.blank_size a0_8;have h4:(⟨#[117,115,116,97,114,0,48,48]⟩:ByteArray).size = 8:=rfl;have h5:(⟨#[48,48,48,48,48,48,48,0,48,48,48,48,48,48,48,0]⟩:ByteArray).size = 16:=rfl;have h6:((⟨#[32,32,32,32,32,32,32,32]⟩:ByteArray) ++ strOfNums [a0_8]).size = 9:=h3;omega));rintro e w9 ⟨rfl,hS⟩;have HS9:=Aside0.mk hS;clear HS hS;have HS:=HS9;clear HS9;have hv0:=blk_cell HS.out.2.1 0;have hv1:=blk_cell HS.out.2.1 1;have hv2:=blk_cell HS.out.2.1 2;have hv3:=blk_cell HS.out.2.1 3;have hv4:=blk_cell HS.out.2.1 4;have hv5:=blk_cell HS.out.2.1 5;have hv6:=blk_cell HS.out.2.1 6;have hv7:=blk_cell HS.out.2.1 7;have hv8:=blk_cell HS.out.2.1 8;have hv9:=blk_cell HS.out.2.1 9;have hv10:=blk_cell HS.out.2.1 10))
     go_roundg 0
     case measure=>omega
     case rel=>exact Or.inr (Or.inr (Or.inr (⟨rfl,rfl,HS⟩)))
    ·clear hi0 hi1 hi2;have hv0:=blk_cell HS.out.2.1 0;have hv1:=blk_cell HS.out.2.1 1;have hv2:=blk_cell HS.out.2.1 2;have hv3:=blk_cell HS.out.2.1 3;have hv4:=blk_cell HS.out.2.1 4;have hv5:=blk_cell HS.out.2.1 5;have hv6:=blk_cell HS.out.2.1 6;have hv7:=blk_cell HS.out.2.1 7;have hv8:=blk_cell HS.out.2.1 8;have hv9:=blk_cell HS.out.2.1 9;have hv10:=blk_cell HS.out.2.1 10;go_wp2;go_loopg [49] 2 (fun g sx wx=>(g = 2∧sx = .int .i64 0∧Aside0 (head_Write.St w wx w1.heap.size #[.string a0_0,.string a0_1,.string a0_2,.int .i64 a0_3,.int .i64 a0_4,.int .i64 a0_5,.int .i64 a0_6,.int .i64 a0_7,.int .u8 a0_8,.string a0_9,.string a0_10] gb gp (head_Write.pt (head_Write.pt (head_Write.pt (head_Write.pt ((0,(⟨#[]⟩:ByteArray)):Int × ByteArray) r1.1 r1.2) r2.1 r2.2) r3.1 r3.2) r4.1 r4.2) ((((0 + r1.1.size) + r2.1.size) + r3.1.size) + r4.1.size))) ∨ (g = 1∧sx = .int .i64 1∧Aside0 (head_Write.St w wx w1.heap.size #[.string a0_0,.string a0_1,.string a0_2,.int .i64 a0_3,.int .i64 a0_4,.int .i64 a0_5,.int .i64 a0_6,.int .i64 a0_7,.int .u8 a0_8,.string a0_9,.string a0_10] gb gp (head_Write.pt (head_Write.pt (head_Write.pt (head_Write.pt (head_Write.pt ((0,(⟨#[]⟩:ByteArray)):Int × ByteArray) r1.1 r1.2) r2.1 r2.2) r3.1 r3.2) r4.1 r4.2) r5.1 r5.2) (((((0 + r1.1.size) + r2.1.size) + r3.1.size) + r4.1.size) + r5.1.size))) ∨ (g = 0∧sx = .int .i64 2∧Aside0 (head_Write.St w wx w1.heap.size #[.string a0_0,.string a0_1,.string a0_2,.int .i64 a0_3,.int .i64 a0_4,.int .i64 a0_5,.int .i64 a0_6,.int .i64 a0_7,.int .u8 a0_8,.string a0_9,.string a0_10] gb gp (head_Write.pt (head_Write.pt (head_Write.pt (head_Write.pt (head_Write.pt (head_Write.pt ((0,(⟨#[]⟩:ByteArray)):Int × ByteArray) r1.1 r1.2) r2.1 r2.2) r3.1 r3.2) r4.1 r4.2) r5.1 r5.2) r6.1 r6.2) ((((((0 + r1.1.size) + r2.1.size) + r3.1.size) + r4.1.size) + r5.1.size) + r6.1.size))))
     case atStart=>exact Or.inl ⟨rfl,rfl,HS⟩
     case round =>
      clear hv0 hv1 hv2 hv3 hv4 hv5 hv6 hv7 hv8 hv9 hv10 HS;have hi0:=fun W=>head_Write.ix20 (.int .i64 a0_6) (.int .i64 a0_7) W
      have hi1:=fun W=>head_Write.ix21 (.int .i64 a0_6) (.int .i64 a0_7) W
      rcases hrel with ⟨rfl,rfl,HS⟩|⟨rfl,rfl,HS⟩|⟨rfl,rfl,HS⟩
      ·have hv0:=blk_cell HS.out.2.1 0;have hv1:=blk_cell HS.out.2.1 1;have hv2:=blk_cell HS.out.2.1 2;have hv3:=blk_cell HS.out.2.1 3;have hv4:=blk_cell HS.out.2.1 4;have hv5:=blk_cell HS.out.2.1 5;have hv6:=blk_cell HS.out.2.1 6;have hv7:=blk_cell HS.out.2.1 7;have hv8:=blk_cell HS.out.2.1 8;have hv9:=blk_cell HS.out.2.1 9;have hv10:=blk_cell HS.out.2.1 10;go_wp2_with (first|(go_at_call 69;(first|(with_reducible refine (octal_Write.calls k a0_3 8 r2.1 r2.2 _ Hr2.out).mono ?_)|(with_reducible refine (octal_Write.calls k a0_4 8 r3.1 r3.2 _ Hr3.out).mono ?_)|(with_reducible refine (octal_Write.calls k a0_5 8 r4.1 r4.2 _ Hr4.out).mono ?_)|(with_reducible refine (octal_Write.calls k a0_6 12 r5.1 r5.2 _ Hr5.out).mono ?_)|(with_reducible refine (octal_Write.calls k a0_7 12 r6.1 r6.2 _ Hr6.out).mono ?_));rintro e w8 ⟨rfl,hb8⟩;have HS8:=Aside0.mk (HS.out.step hb8);clear HS hb8;have HS:=HS8;clear HS8;have hv0:=blk_cell HS.out.2.1 0;have hv1:=blk_cell HS.out.2.1 1;have hv2:=blk_cell HS.out.2.1 2;have hv3:=blk_cell HS.out.2.1 3;have hv4:=blk_cell HS.out.2.1 4;have hv5:=blk_cell HS.out.2.1 5;have hv6:=blk_cell HS.out.2.1 6;have hv7:=blk_cell HS.out.2.1 7;have hv8:=blk_cell HS.out.2.1 8;have hv9:=blk_cell HS.out.2.1 9;have hv10:=blk_cell HS.out.2.1 10)|(go_at_call 67;(with_reducible refine (head_Write.putS w _ w1.heap.size #[.string a0_0,.string a0_1,.string a0_2,.int .i64 a0_3,.int .i64 a0_4,.int .i64 a0_5,.int .i64 a0_6,.int .i64 a0_7,.int .u8 a0_8,.string a0_9,.string a0_10] gb gp _ _ _ _ HS.out ?hlen).mono ?_);(case hlen=>exact (by have h1:=HZ.out;have h3:=head_Write.blank_size a0_8;have h4:(⟨#[117,115,116,97,114,0,48,48]⟩:ByteArray).size = 8:=rfl;have h5:(⟨#[48,48,48,48,48,48,48,0,48,48,48,48,48,48,48,0]⟩:ByteArray).size = 16:=rfl;have h6:((⟨#[32,32,32,32,32,32,32,32]⟩:ByteArray) ++ strOfNums [a0_8]).size = 9:=h3;omega));rintro e w9 ⟨rfl,hS⟩;have HS9:=Aside0.mk hS;clear HS hS;have HS:=HS9;clear HS9;have hv0:=blk_cell HS.out.2.1 0;have hv1:=blk_cell HS.out.2.1 1;have hv2:=blk_cell HS.out.2.1 2;have hv3:=blk_cell HS.out.2.1 3;have hv4:=blk_cell HS.out.2.1 4;have hv5:=blk_cell HS.out.2.1 5;have hv6:=blk_cell HS.out.2.1 6;have hv7:=blk_cell HS.out.2.1 7;have hv8:=blk_cell HS.out.2.1 8;have hv9:=blk_cell HS.out.2.1 9;have hv10:=blk_cell HS.out.2.1 10))
       go_roundg 1
       case measure=>omega
       case rel=>exact Or.inr (Or.inl ⟨rfl,rfl,HS⟩)
      ·have hv0:=blk_cell HS.out.2.1 0;have hv1:=blk_cell HS.out.2.1 1;have hv2:=blk_cell HS.out.2.1 2;have hv3:=blk_cell HS.out.2.1 3;have hv4:=blk_cell HS.out.2.1 4;have hv5:=blk_cell HS.out.2.1 5;have hv6:=blk_cell HS.out.2.1 6;have hv7:=blk_cell HS.out.2.1 7;have hv8:=blk_cell HS.out.2.1 8;have hv9:=blk_cell HS.out.2.1 9;have hv10:=blk_cell HS.out.2.1 10;go_wp2_with (first|(go_at_call 69;(first|(with_reducible refine (octal_Write.calls k a0_3 8 r2.1 r2.2 _ Hr2.out).mono ?_)|(with_reducible refine (octal_Write.calls k a0_4 8 r3.1 r3.2 _ Hr3.out).mono ?_)|(with_reducible refine (octal_Write.calls k a0_5 8 r4.1 r4.2 _ Hr4.out).mono ?_)|(with_reducible refine (octal_Write.calls k a0_6 12 r5.1 r5.2 _ Hr5.out).mono ?_)|(with_reducible refine (octal_Write.calls k a0_7 12 r6.1 r6.2 _ Hr6.out).mono ?_));rintro e w8 ⟨rfl,hb8⟩;have HS8:=Aside0.mk (HS.out.step hb8);clear HS hb8;have HS:=HS8;clear HS8;have hv0:=blk_cell HS.out.2.1 0;have hv1:=blk_cell HS.out.2.1 1;have hv2:=blk_cell HS.out.2.1 2;have hv3:=blk_cell HS.out.2.1 3;have hv4:=blk_cell HS.out.2.1 4;have hv5:=blk_cell HS.out.2.1 5;have hv6:=blk_cell HS.out.2.1 6;have hv7:=blk_cell HS.out.2.1 7;have hv8:=blk_cell HS.out.2.1 8;have hv9:=blk_cell HS.out.2.1 9;have hv10:=blk_cell HS.out.2.1 10)|(go_at_call 67;(with_reducible refine (head_Write.putS w _ w1.heap.size #[.string a0_0,.string a0_1,.string a0_2,.int .i64 a0_3,.int .i64 a0_4,.int .i64 a0_5,.int .i64 a0_6,.int .i64 a0_7,.int .u8 a0_8,.string a0_9,.string a0_10] gb gp _ _ _ _ HS.out ?hlen).mono ?_);(case hlen=>exact (by have h1:=HZ.out;have h3:=head_Write.blank_size a0_8;have h4:(⟨#[117,115,116,97,114,0,48,48]⟩:ByteArray).size = 8:=rfl;have h5:(⟨#[48,48,48,48,48,48,48,0,48,48,48,48,48,48,48,0]⟩:ByteArray).size = 16:=rfl;have h6:((⟨#[32,32,32,32,32,32,32,32]⟩:ByteArray) ++ strOfNums [a0_8]).size = 9:=h3;omega));rintro e w9 ⟨rfl,hS⟩;have HS9:=Aside0.mk hS;clear HS hS;have HS:=HS9;clear HS9;have hv0:=blk_cell HS.out.2.1 0;have hv1:=blk_cell HS.out.2.1 1;have hv2:=blk_cell HS.out.2.1 2;have hv3:=blk_cell HS.out.2.1 3;have hv4:=blk_cell HS.out.2.1 4;have hv5:=blk_cell HS.out.2.1 5;have hv6:=blk_cell HS.out.2.1 6;have hv7:=blk_cell HS.out.2.1 7;have hv8:=blk_cell HS.out.2.1 8;have hv9:=blk_cell HS.out.2.1 9;have hv10:=blk_cell HS.out.2.1 10))
       go_roundg 0
       case measure=>omega
       case rel=>exact Or.inr (Or.inr (⟨rfl,rfl,HS⟩))
      ·clear hi0 hi1;have hv0:=blk_cell HS.out.2.1 0;have hv1:=blk_cell HS.out.2.1 1;have hv2:=blk_cell HS.out.2.1 2;have hv3:=blk_cell HS.out.2.1 3;have hv4:=blk_cell HS.out.2.1 4;have hv5:=blk_cell HS.out.2.1 5;have hv6:=blk_cell HS.out.2.1 6;have hv7:=blk_cell HS.out.2.1 7;have hv8:=blk_cell HS.out.2.1 8;have hv9:=blk_cell HS.out.2.1 9;have hv10:=blk_cell HS.out.2.1 10;have hcv:=head_Write.conv1 wr a0_8;have hz1:(9223372036854775807 < 8 + (strOfNums [a0_8]).size) = False:=eq_false (Nat.not_lt.2 (by show 9 ≤ 9223372036854775807;decide));go_upto_region 23 with (first|(go_at_call 67;(with_reducible refine (head_Write.putS w _ w1.heap.size #[.string a0_0,.string a0_1,.string a0_2,.int .i64 a0_3,.int .i64 a0_4,.int .i64 a0_5,.int .i64 a0_6,.int .i64 a0_7,.int .u8 a0_8,.string a0_9,.string a0_10] gb gp _ _ _ _ HS.out ?hlen).mono ?_);(case hlen=>exact (by have h1:=HZ.out;have h3:=head_Write.blank_size a0_8;have h4:(⟨#[117,115,116,97,114,0,48,48]⟩:ByteArray).size = 8:=rfl;have h5:(⟨#[48,48,48,48,48,48,48,0,48,48,48,48,48,48,48,0]⟩:ByteArray).size = 16:=rfl;have h6:((⟨#[32,32,32,32,32,32,32,32]⟩:ByteArray) ++ strOfNums [a0_8]).size = 9:=h3;omega));rintro e w9 ⟨rfl,hS⟩;have HS9:=Aside0.mk hS;clear HS hS;have HS:=HS9;clear HS9;have hv0:=blk_cell HS.out.2.1 0;have hv1:=blk_cell HS.out.2.1 1;have hv2:=blk_cell HS.out.2.1 2;have hv3:=blk_cell HS.out.2.1 3;have hv4:=blk_cell HS.out.2.1 4;have hv5:=blk_cell HS.out.2.1 5;have hv6:=blk_cell HS.out.2.1 6;have hv7:=blk_cell HS.out.2.1 7;have hv8:=blk_cell HS.out.2.1 8;have hv9:=blk_cell HS.out.2.1 9;have hv10:=blk_cell HS.out.2.1 10)|(go_at_call 67;(with_reducible refine (head_Write.putS w _ w1.heap.size #[.string a0_0,.string a0_1,.string a0_2,.int .i64 a0_3,.int .i64 a0_4,.int .i64 a0_5,.int .i64 a0_6,.int .i64 a0_7,.int .u8 a0_8,.string a0_9,.string a0_10] gb gp _ _ _ _ (HS.out.step (bwA (Below.refl _ _) _)) ?hlen).mono ?_);(case hlen=>exact (by have h1:=HZ.out;have h3:=head_Write.blank_size a0_8;have h4:(⟨#[117,115,116,97,114,0,48,48]⟩:ByteArray).size = 8:=rfl;have h5:(⟨#[48,48,48,48,48,48,48,0,48,48,48,48,48,48,48,0]⟩:ByteArray).size = 16:=rfl;have h6:((⟨#[32,32,32,32,32,32,32,32]⟩:ByteArray) ++ strOfNums [a0_8]).size = 9:=h3;omega));rintro e w9 ⟨rfl,hS⟩;have HS9:=Aside0.mk hS;clear HS hS;have HS:=HS9;clear HS9;have hv0:=blk_cell HS.out.2.1 0;have hv1:=blk_cell HS.out.2.1 1;have hv2:=blk_cell HS.out.2.1 2;have hv3:=blk_cell HS.out.2.1 3;have hv4:=blk_cell HS.out.2.1 4;have hv5:=blk_cell HS.out.2.1 5;have hv6:=blk_cell HS.out.2.1 6;have hv7:=blk_cell HS.out.2.1 7;have hv8:=blk_cell HS.out.2.1 8;have hv9:=blk_cell HS.out.2.1 9;have hv10:=blk_cell HS.out.2.1 10)|(go_at_call 68;(first|(with_reducible refine (field_Write.calls k a0_0 100 true r1.1 r1.2 _ Hr1.out).mono ?_)|(with_reducible refine (field_Write.calls k a0_2 100 true r7.1 r7.2 _ Hr7.out).mono ?_)|(with_reducible refine (field_Write.calls k a0_9 32 false r8.1 r8.2 _ Hr8.out).mono ?_)|(with_reducible refine (field_Write.calls k a0_10 32 false r9.1 r9.2 _ Hr9.out).mono ?_)|(with_reducible refine (field_Write.calls k a0_1 155 true r10.1 r10.2 _ Hr10.out).mono ?_));rintro e w8 ⟨rfl,hb8⟩;have HS8:=Aside0.mk (HS.out.step hb8);clear HS hb8;have HS:=HS8;clear HS8;have hv0:=blk_cell HS.out.2.1 0;have hv1:=blk_cell HS.out.2.1 1;have hv2:=blk_cell HS.out.2.1 2;have hv3:=blk_cell HS.out.2.1 3;have hv4:=blk_cell HS.out.2.1 4;have hv5:=blk_cell HS.out.2.1 5;have hv6:=blk_cell HS.out.2.1 6;have hv7:=blk_cell HS.out.2.1 7;have hv8:=blk_cell HS.out.2.1 8;have hv9:=blk_cell HS.out.2.1 9;have hv10:=blk_cell HS.out.2.1 10)|(go_at_call 70;refine (strings_Repeat.calls _ _ z _ Hz.out).mono ?_;rintro e w8 ⟨rfl,hb8⟩;have HS8:=Aside0.mk (HS.out.step hb8);clear HS hb8;have HS:=HS8;clear HS8;have hv0:=blk_cell HS.out.2.1 0;have hv1:=blk_cell HS.out.2.1 1;have hv2:=blk_cell HS.out.2.1 2;have hv3:=blk_cell HS.out.2.1 3;have hv4:=blk_cell HS.out.2.1 4;have hv5:=blk_cell HS.out.2.1 5;have hv6:=blk_cell HS.out.2.1 6;have hv7:=blk_cell HS.out.2.1 7;have hv8:=blk_cell HS.out.2.1 8;have hv9:=blk_cell HS.out.2.1 9;have hv10:=blk_cell HS.out.2.1 10))
       have HT:Aside0 (head_Write.St w w9 w1.heap.size #[.string a0_0,.string a0_1,.string a0_2,.int .i64 a0_3,.int .i64 a0_4,.int .i64 a0_5,.int .i64 a0_6,.int .i64 a0_7,.int .u8 a0_8,.string a0_9,.string a0_10] gb gp (head_Write.pt (head_Write.pt (head_Write.pt (head_Write.pt (head_Write.pt (head_Write.pt (head_Write.pt (head_Write.pt (head_Write.pt (head_Write.pt (head_Write.pt (head_Write.pt (head_Write.pt (head_Write.pt ((0,(⟨#[]⟩:ByteArray)):Int × ByteArray) r1.1 r1.2) r2.1 r2.2) r3.1 r3.2) r4.1 r4.2) r5.1 r5.2) r6.1 r6.2) (head_Write.blank a0_8) 0) r7.1 r7.2) ((⟨#[117,115,116,97,114,0,48,48]⟩:ByteArray)) 0) r8.1 r8.2) r9.1 r9.2) ((⟨#[48,48,48,48,48,48,48,0,48,48,48,48,48,48,48,0]⟩:ByteArray)) 0) r10.1 r10.2) (z) 0) ((((((((((((((0 + r1.1.size) + r2.1.size) + r3.1.size) + r4.1.size) + r5.1.size) + r6.1.size) + (head_Write.blank a0_8).size) + r7.1.size) + (⟨#[117,115,116,97,114,0,48,48]⟩:ByteArray).size) + r8.1.size) + r9.1.size) + (⟨#[48,48,48,48,48,48,48,0,48,48,48,48,48,48,48,0]⟩:ByteArray).size) + r10.1.size) + z.size)):=⟨HS.out⟩
       clear hv0 hv1 hv2 hv3 hv4 hv5 hv6 hv7 hv8 hv9 hv10 HS hcv hz1;have HS:=HT;clear HT;have hQ:=HH.out;have hlt:((((((((((((((0 + r1.1.size) + r2.1.size) + r3.1.size) + r4.1.size) + r5.1.size) + r6.1.size) + (head_Write.blank a0_8).size) + r7.1.size) + (⟨#[117,115,116,97,114,0,48,48]⟩:ByteArray).size) + r8.1.size) + r9.1.size) + (⟨#[48,48,48,48,48,48,48,0,48,48,48,48,48,48,48,0]⟩:ByteArray).size) + r10.1.size) + z.size) ≤ 100400:=(by have h1:=HZ.out;have h3:=head_Write.blank_size a0_8;have h4:(⟨#[117,115,116,97,114,0,48,48]⟩:ByteArray).size = 8:=rfl;have h5:(⟨#[48,48,48,48,48,48,48,0,48,48,48,48,48,48,48,0]⟩:ByteArray).size = 16:=rfl;have h6:((⟨#[32,32,32,32,32,32,32,32]⟩:ByteArray) ++ strOfNums [a0_8]).size = 9:=h3;omega)
       clear HH Hr1 Hr2 Hr3 Hr4 Hr5 Hr6 Hr7 Hr8 Hr9 Hr10 Hz HZ;generalize ((((((((((((((0 + r1.1.size) + r2.1.size) + r3.1.size) + r4.1.size) + r5.1.size) + r6.1.size) + (head_Write.blank a0_8).size) + r7.1.size) + (⟨#[117,115,116,97,114,0,48,48]⟩:ByteArray).size) + r8.1.size) + r9.1.size) + (⟨#[48,48,48,48,48,48,48,0,48,48,48,48,48,48,48,0]⟩:ByteArray).size) + r10.1.size) + z.size) = nj at *;generalize (head_Write.pt (head_Write.pt (head_Write.pt (head_Write.pt (head_Write.pt (head_Write.pt (head_Write.pt (head_Write.pt (head_Write.pt (head_Write.pt (head_Write.pt (head_Write.pt (head_Write.pt (head_Write.pt ((0,(⟨#[]⟩:ByteArray)):Int × ByteArray) r1.1 r1.2) r2.1 r2.2) r3.1 r3.2) r4.1 r4.2) r5.1 r5.2) r6.1 r6.2) (head_Write.blank a0_8) 0) r7.1 r7.2) ((⟨#[117,115,116,97,114,0,48,48]⟩:ByteArray)) 0) r8.1 r8.2) r9.1 r9.2) ((⟨#[48,48,48,48,48,48,48,0,48,48,48,48,48,48,48,0]⟩:ByteArray)) 0) r10.1 r10.2) (z) 0) = q at *;have hgw:=head_Write.errAt HS.out;unfold head_Write.tail at hQ;by_cases h0:q.1 = 0
       ·rw [if_pos h0] at hQ;obtain ⟨n,An,hQ2⟩:=Option.bind_eq_some_iff.mp hQ;obtain ⟨u,Au,hQ3⟩:=Option.bind_eq_some_iff.mp hQ2;by_cases h1:156 ≤ q.2.size∧u.1.size ≤ 10000∧q.2.size ≤ 1000000
        ·rw [if_pos h1] at hQ3;simp only [Option.some.injEq,Prod.mk.injEq] at hQ3;obtain ⟨rfl,rfl⟩:=hQ3;have HAn:=Aside0.mk An;have HAu:=Aside0.mk Au;have h0a:(q.1 == 0) = true:=beq_iff_eq.mpr h0;have h0b:(q.1 != 0) = false:=bne_eq_false_iff_eq.mpr h0;obtain ⟨hs1,hs2,hs3⟩:=h1;have hs0:0 < q.2.size:=by omega
         clear hQ hQ2 An Au h0 hlt;go_wp2_with (first|(go_at_call 66;refine (head_Write.strS w _ _ _ gb gp q _ HS.out hs0).mono ?_;rintro e w2 ⟨rfl,hb2⟩;have HB2:=Aside0.mk hb2;clear hb2)|(go_at_call 71;refine (head_Sum.calls k q.2 n.1 n.2 _ HAn.out).mono ?_;rintro e w3 ⟨rfl,nd3,rfl⟩)|(go_at_call 69;refine (octal_Write.calls k n.1 7 u.1 u.2 _ HAu.out).mono ?_;rintro e w4 ⟨rfl,hb4⟩;have HB4:=Aside0.mk hb4;clear hb4))
         have hi1:(148:Int) ≤ (q.2.size:Int):=by omega
         have hi2:(156:Int) ≤ (q.2.size:Int):=by omega
         have hi3:148 ≤ q.2.size:=by omega
         go_quiet (fail)
         go_wp2;go_ret2
         exact ⟨rfl,by first|exact pwbN (below_step (pwbN HB2.out _) HB4.out) _|exact below_step (pwbN HB2.out _) HB4.out⟩
        ·rw [if_neg h1] at hQ3;cases hQ3
       ·rw [if_neg h0] at hQ;simp only [Option.some.injEq,Prod.mk.injEq] at hQ;obtain ⟨rfl,rfl⟩:=hQ;have h0a:(q.1 == 0) = false:=beq_eq_false_iff_ne.mpr h0;have h0b:(q.1 != 0) = true:=bne_iff_ne.mpr h0;clear h0 hlt;go_wp2;go_quiet (fail)
        go_wp2;go_ret2
        exact ⟨rfl,pwbN HS.out.2.2.2 _⟩
  ·rw [if_neg hsz] at h;cases h
end Go.Proofs.YtenbelecmmpdgaaGreatDoor.All
end
section
namespace Go.Proofs.YtenbelecmmpdgaaGreatDoor.All
open Go.RowKit Go.Proofs.YtenbelecmmpdgaaGreatDoorW.PrintWords Go.Proofs.YtenbelecmmpdgaaGreatDoorW.PrintLast Go.Proofs.YtenbelecmmpdgaaGreatDoorW.PrintMore
open Go.Proofs.YtenbelecmmpdgaaGreatDoorW.Mine
attribute [local go_sem] gtr_string leq_string geq_string
attribute [local go_sem] max2_int min2_int max_two min_two max_three min_three max_four min_four
set_option linter.unusedVariables false
set_option linter.unusedSimpArgs false
def pad_Fill.f (l0:List Int):Option (List Int):=if ([]:List Int).length + l0.length < 140737488355328 then ((some (([]:List Int) ++ l0:List Int)).bind fun y101=>(if 0 ≤ ((512 - ((l0.length:Int) % 512)) % 512) then (if y101.length + ((512 - ((l0.length:Int) % 512)) % 512:Int).toNat < 140737488355328 then (some (y101 ++ List.replicate ((512 - ((l0.length:Int) % 512)) % 512:Int).toNat 0)) else (none)) else (none))) else (none)
set_option maxHeartbeats 8000000 in
set_option maxRecDepth 100000 in
theorem pad_Fill.calls (A0:Option Addr) (c0:Nat) (l0:List Int) (r:List Int) (w:World) (hr0:Kd.C (Kd.int .u8) w A0 l0.length l0) (hc0:l0.length ≤ c0) (h:pad_Fill.f l0 = some r) :
 Calls Tryz.prog 30 #[.slice A0 l0.length c0] w fun e w'=>∃ v0_:Value,e = .returned (v0_)∧Kd.R (Kd.int .u8) 5 w' w.heap.size (fun _=>True) v0_ r∧Below w.heap.size w w':=by
 have HR0:=Aside0.mk hr0;have HC0:=Aside0.mk hc0;clear hr0 hc0;have HB:=Aside0.mk (Below.refl w.heap.size w);have H:(if ([]:List Int).length + l0.length < 140737488355328 then ((some (([]:List Int) ++ l0:List Int)).bind fun y101=>(if 0 ≤ ((512 - ((l0.length:Int) % 512)) % 512) then (if y101.length + ((512 - ((l0.length:Int) % 512)) % 512:Int).toNat < 140737488355328 then (some (y101 ++ List.replicate ((512 - ((l0.length:Int) % 512)) % 512:Int).toNat 0)) else (none)) else (none))) else (none)) = some r:=h;clear h;by_cases c2:([]:List Int).length + l0.length < 140737488355328
 ·rw [if_pos c2] at H;have LMc2:=Aside0.mk c2;clear c2;obtain ⟨y101,hy101⟩:∃ y_:List Int,y_ = (([]:List Int) ++ l0):=⟨_,rfl⟩
  replace H:(if 0 ≤ ((512 - ((l0.length:Int) % 512)) % 512) then (if y101.length + ((512 - ((l0.length:Int) % 512)) % 512:Int).toNat < 140737488355328 then (some (y101 ++ List.replicate ((512 - ((l0.length:Int) % 512)) % 512:Int).toNat 0)) else (none)) else (none)) = some r:=by first|(rw [hy101];with_reducible exact H)|(have H2_:=(Option.bind_some _ _).symm.trans H;rw [hy101];with_reducible exact H2_)|(have H2_:=(Option.bind_some _ _).symm.trans H;with_reducible exact H2_)|with_reducible exact H|(rw [hy101];exact H)|exact H
  have Ny101:=Aside0.mk hy101;clear hy101;obtain ⟨ji3,hji3⟩:∃ j_:Int,((512 - ((l0.length:Int) % 512)) % 512) = j_:=⟨_,rfl⟩
  replace H:(if 0 ≤ (ji3) then (if y101.length + (ji3:Int).toNat < 140737488355328 then (some (y101 ++ List.replicate (ji3:Int).toNat 0)) else (none)) else (none)) = some r:=by first|(rw [hji3] at H;exact H)|(simp only [hji3] at H ⊢;exact H)
  by_cases c4:0 ≤ (ji3)
  ·rw [if_pos c4] at H;have c4b0:=eq_true c4;have c4b1:decide (0 ≤ (ji3)) = true:=decide_eq_true c4;clear c4;by_cases c5:y101.length + (ji3:Int).toNat < 140737488355328
   ·rw [if_pos c5] at H;have LMc5:=Aside0.mk c5;clear c5;obtain ⟨y104,hy104⟩:∃ y_:List Int,y_ = (y101 ++ List.replicate (ji3:Int).toNat 0):=⟨_,rfl⟩
    replace H:(some y104) = some r:=by first|(rw [hy104];with_reducible exact H)|(have H2_:=(Option.bind_some _ _).symm.trans H;rw [hy104];with_reducible exact H2_)|(have H2_:=(Option.bind_some _ _).symm.trans H;with_reducible exact H2_)|with_reducible exact H|(rw [hy104];exact H)|exact H
    have Ny104:=Aside0.mk hy104;clear hy104;obtain rfl:=Option.some.inj H;go_enter Tryz.func30,Tryz.ntmps30;go_wp2_with (first|((with_reducible refine gate_builtin (b := .append) (xs:=#[.const (.slice none 0 0),.tmp 9]) rfl ?_);at_builtin;refine Kd.R_append_rows (Kd.int .u8) (w0:=w) w.heap.size rfl (.const (.slice none 0 0)) (.tmp 9) 24 5 (.int .u8 0) 1 rfl Tryz.underlying24 info5 rfl (by decide) (by omega) (.slice none 0 0) ([]:List Int) l0 _ _ _ (fun _=>True) (fun _=>False) rfl rfl ?aO ?aR (fun _ _ h=>h) (fun _ h=>h.elim) ?aF ?aB ?aS ?aL ?_;(case aR=>repeat (first|exact HR0.out|(with_reducible refine Kd.C_alloc ?_ _)|(with_reducible refine Kd.C_drewN ?_ _)|(with_reducible refine Kd.C_drew ?_)));(case aB=>exact (by repeat (first|(with_reducible first|exact HB.out|apply bwA|apply pwbN|apply bw1)|exact HB.out)));(case aF=>exact (fun _ _=>trivial));(case aO=>exact ((Kd.R_nil _ _ _ _ (fun _=>True))));(case aS=>exact (below_size (by repeat (first|(with_reducible first|exact HB.out|apply bwA|apply pwbN|apply bw1)|exact HB.out))));(case aL=>have:=LMc2.out;omega);intro v102 w6 ho hb hg hat;rw [← Ny101.out] at ho;have n0_:=Aside0.mk (hb);have n1_:=Aside0.mk (ho);clear HB;have HB:=n0_;have HO103:=n1_;clear n0_ n1_;clear ho hb hg hat)|(at_builtin;refine Kd.R_append_zeros (Kd.int .u8) (w0:=w) w.heap.size rfl (.tmp 10) (.tmp 11) 24 3 5 (.int .u8 0) 1 rfl Tryz.underlying24 Tryz.underlying3 info5 rfl (by decide) (by omega) v102 y101 0 (ji3:Int) (fun _=>True) rfl rfl rfl ?aF ?aO (of_decide_eq_true (by first|(with_reducible assumption)|assumption)) ?aB ?aS ?aL ?_;(case aB=>exact (by repeat (first|(with_reducible first|exact HB.out|apply bwA|apply pwbN|apply bw1)|exact HB.out)));(case aF=>exact (fun _ _=>trivial));(case aO=>exact (by (with_reducible repeat (first|apply Kd.R_alloc|apply Kd.R_drewN|apply Kd.R_drew));exact HO103.out));(case aS=>exact (below_size (by repeat (first|(with_reducible first|exact HB.out|apply bwA|apply pwbN|apply bw1)|exact HB.out))));(case aL=>have:=LMc5.out;omega);intro v105 w7 ho hb hg hat;rw [← Ny104.out] at ho;have n0_:=Aside0.mk (hb);have n1_:=Aside0.mk (ho);clear HB;clear HO103;have HB:=n0_;have HO106:=n1_;clear n0_ n1_;clear ho hb hg hat))
    go_ret
    exact ⟨_,by first|rfl|(simp [errW_none,errW_some] <;> rfl)|(simp only [← hji3];first|rfl|(simp [errW_none,errW_some] <;> rfl))|(simp [*,errW_none,errW_some] <;> rfl),by (with_reducible repeat (first|apply Kd.R_alloc|apply Kd.R_drewN|apply Kd.R_drew));exact HO106.out,by repeat (first|(with_reducible first|exact HB.out|apply bwA|apply pwbN|apply bw1)|exact HB.out)⟩
   ·rw [if_neg c5] at H;exact absurd H (by simp)
  ·rw [if_neg c4] at H;exact absurd H (by simp)
 ·rw [if_neg c2] at H;exact absurd H (by simp)
end Go.Proofs.YtenbelecmmpdgaaGreatDoor.All
end
