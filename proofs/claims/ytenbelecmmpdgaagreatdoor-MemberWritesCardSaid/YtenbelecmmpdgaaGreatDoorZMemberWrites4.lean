/- Made by programs of the prover: walks of Go functions, the words that they use, and plain laws, each text in a section of its own; no condition of its own. -/
import Derived.Test.YtenbelecmmpdgaaGreatDoorZMemberWrites2
import Derived.Test.YtenbelecmmpdgaaGreatDoorZMemberWrites3
section
namespace Go.Proofs.YtenbelecmmpdgaaGreatDoor.All
open Go.RowKit Go.Proofs.YtenbelecmmpdgaaGreatDoorW.PrintWords Go.Proofs.YtenbelecmmpdgaaGreatDoorW.PrintLast Go.Proofs.YtenbelecmmpdgaaGreatDoorW.PrintMore
open Go.Proofs.YtenbelecmmpdgaaGreatDoorW.Mine
attribute [local go_sem] gtr_string leq_string geq_string
attribute [local go_sem] max2_int min2_int max_two min_two max_three min_three max_four min_four
set_option linter.unusedVariables false
set_option linter.unusedSimpArgs false
def pax_Check.l0:Nat→List (S78)→List (S78)→Int→Int→Option (Int)
 | 0,_,_,_,_=>none
 | k + 1,x0,x9,x10,x11=>if x11 < x10 then (if 0 ≤ x11 then (if x11 < (x9.length:Int) then ((record_Check.f k ((rd_T78 x9 x11).f0) ((rd_T78 x9 x11).f1)).bind fun t103=>(if t103 = 0 then (if x11 > 0 then (if 0 ≤ (wrap64 (x11 - 1)) then (if (wrap64 (x11 - 1)) < (x0.length:Int) then (if ((Op.bytesLess (((rd_T78 x0 (wrap64 (x11 - 1))).f0).toList) (((rd_T78 x9 x11).f0).toList)) = true) then (pax_Check.l0 k x0 x9 x10 (wrap64 (x11 + 1))) else (some 6)) else (none)) else (none)) else (pax_Check.l0 k x0 x9 x10 (wrap64 (x11 + 1)))) else (some t103))) else (none)) else (none)) else (some 0)
def pax_Check.f (k:Nat) (l0:List (S78)):Option (Int):=if (l0.length:Int) > 12 then (some 1) else (pax_Check.l0 k l0 l0 (l0.length:Int) 0)
theorem pax_Check.mono_l:∀ k,(∀ y0 y1 y2 y3,LeO (pax_Check.l0 k y0 y1 y2 y3) (pax_Check.l0 (k + 1) y0 y1 y2 y3))
 | 0=>fun _ _ _ _ r h=>by simp [pax_Check.l0] at h
 | k + 1=>by
  have ih0:=pax_Check.mono_l k
  ·intro y0 y1 y2 y3
   unfold pax_Check.l0
   repeat' first
   | (with_reducible exact ih0 _ _ _ _)
   | (with_reducible exact record_Check.mono _ _ _)
   | (with_reducible exact LeO.refl _)
   | (with_reducible exact LeO.none _)
   | (with_reducible refine LeO.ite ?_ ?_)
   | (with_reducible refine LeO.bind ?_ (fun _=>?_))
   | exact ih0 _ _ _ _
   | exact record_Check.mono _ _ _
   | exact LeO.none _
   | refine LeO.ite ?_ ?_
   | refine LeO.bind ?_ (fun _=>?_)
theorem pax_Check.mono:∀ a0 k,LeO (pax_Check.f k a0) (pax_Check.f (k + 1) a0):=by
 intro a0 k;have ih0:=pax_Check.mono_l k;unfold pax_Check.f;repeat' first
  | (with_reducible exact ih0 _ _ _ _)
  | (with_reducible exact record_Check.mono _ _ _)
  | (with_reducible exact LeO.refl _)
  | (with_reducible exact LeO.none _)
  | (with_reducible refine LeO.ite ?_ ?_)
  | (with_reducible refine LeO.bind ?_ (fun _=>?_))
  | exact ih0 _ _ _ _
  | exact record_Check.mono _ _ _
  | exact LeO.none _
  | refine LeO.ite ?_ ?_
  | refine LeO.bind ?_ (fun _=>?_)
set_option maxHeartbeats 8000000 in
set_option maxRecDepth 100000 in
theorem pax_Check.calls (k:Nat) (A0:Option Addr) (c0:Nat) (l0:List (S78)) (r:Int) (w:World) (hr0:Kd.C k78 w A0 l0.length l0) (hc0:l0.length ≤ c0) (h:pax_Check.f k l0 = some r) :
 Calls Tryz.prog 63 #[.slice A0 l0.length c0] w fun e w'=>e = .returned (.int .i64 r)∧Below w.heap.size w w':=by
 have hu78:=Tryz.underlying78;have HR0:=Aside0.mk hr0;have HC0:=Aside0.mk hc0;clear hr0 hc0;have HB:=Aside0.mk (Below.refl w.heap.size w);have H:(if (l0.length:Int) > 12 then (some 1) else (pax_Check.l0 k l0 l0 (l0.length:Int) 0)) = some r:=h;clear h;by_cases c2:(l0.length:Int) > 12
 ·rw [if_pos c2] at H;have c2b0:decide (12 < (l0.length:Int)) = true:=decide_eq_true c2;have c2b1:decide (12 < l0.length) = true:=decide_eq_true (by omega);clear c2;obtain rfl:=Option.some.inj H;go_enter Tryz.func63,Tryz.ntmps63;go_wp2;repeat (go_quiet (fail);try go_wp2)
  go_ret
  exact ⟨by first|rfl|(simp [errW_none,errW_some] <;> rfl)|(simp [*,errW_none,errW_some] <;> rfl),by repeat (first|(with_reducible first|exact HB.out|apply bwA|apply pwbN|apply bw1)|exact HB.out)⟩
 ·rw [if_neg c2] at H;have c2b0:decide (12 < (l0.length:Int)) = false:=decide_eq_false c2;have c2b1:decide (12 < l0.length) = false:=decide_eq_false (by omega);clear c2;have H':=Aside0.mk H;clear H;go_enter Tryz.func63,Tryz.ntmps63;go_wp2;repeat (go_quiet (fail);try go_wp2)
  go_loopg [11] k (fun kq v11 w'=>∃ (x11_1:Int),v11 = .int .i64 x11_1∧Aside0 (pax_Check.l0 kq l0 l0 (l0.length:Int) x11_1 = some r)∧Aside0 (kq ≤ k)∧Aside0 (Below w.heap.size w w'))
  case atStart=>exact ⟨(0),(by first|rfl|(simp;done)|(simp [*];done)),H',⟨Nat.le_refl _⟩,⟨by repeat (first|(with_reducible first|exact HB.out|apply bwA|apply pwbN|apply bw1)|exact HB.out)⟩⟩
  case round =>
   clear H';repeat first|clear c2|clear c2b0|clear c2b1
   obtain ⟨x11_1,rfl,HA,HK1,HB⟩:=hrel;cases gk with
   | zero=>exact absurd HA.out (by simp [pax_Check.l0])
   | succ k1 =>
    have H:=HA.out;clear HA;simp only [pax_Check.l0] at H;by_cases c3:x11_1 < (l0.length:Int)
    ·rw [if_pos c3] at H;have c3b0:decide (x11_1 < (l0.length:Int)) = true:=decide_eq_true c3;clear c3;by_cases c4:0 ≤ x11_1
     ·rw [if_pos c4] at H;have c4b0:decide (0 ≤ x11_1) = true:=decide_eq_true c4;clear c4;by_cases c5:x11_1 < (l0.length:Int)
      ·rw [if_pos c5] at H;have c5b0:decide (x11_1 < (l0.length:Int)) = true:=decide_eq_true c5;clear c5;replace H:=Option.bind_eq_some_iff.mp H;obtain ⟨t103,A60,H⟩:=H;replace H:(if t103 = 0 then (if x11_1 > 0 then (if 0 ≤ (wrap64 (x11_1 - 1)) then (if (wrap64 (x11_1 - 1)) < (l0.length:Int) then (if ((Op.bytesLess (((rd_T78 l0 (wrap64 (x11_1 - 1))).f0).toList) (((rd_T78 l0 x11_1).f0).toList)) = true) then (pax_Check.l0 k1 l0 l0 (l0.length:Int) (wrap64 (x11_1 + 1))) else (some 6)) else (none)) else (none)) else (pax_Check.l0 k1 l0 l0 (l0.length:Int) (wrap64 (x11_1 + 1)))) else (some t103)) = some r:=H;have A6:=Aside0.mk A60;clear A60;by_cases c7:t103 = 0
       ·rw [if_pos c7] at H;have c7b0:(t103 == 0) = true:=beq_iff_eq.mpr c7;have c7b1:(t103 != 0) = false:=bne_eq_false_iff_eq.mpr c7;clear c7;by_cases c8:x11_1 > 0
        ·rw [if_pos c8] at H;have c8b0:decide (0 < x11_1) = true:=decide_eq_true c8;clear c8;obtain ⟨ji9,hji9⟩:∃ j_:Int,(wrap64 (x11_1 - 1)) = j_:=⟨_,rfl⟩
         replace H:(if 0 ≤ (ji9) then (if (ji9) < (l0.length:Int) then (if ((Op.bytesLess (((rd_T78 l0 (ji9)).f0).toList) (((rd_T78 l0 x11_1).f0).toList)) = true) then (pax_Check.l0 k1 l0 l0 (l0.length:Int) (wrap64 (x11_1 + 1))) else (some 6)) else (none)) else (none)) = some r:=by first|(rw [hji9] at H;exact H)|(simp only [hji9] at H ⊢;exact H)
         (try rw [hji9] at A6);have hji9w:(IntKind.i64.wrap (x11_1 - 1)) = ji9:=(i64_w _).trans hji9;by_cases c10:0 ≤ (ji9)
         ·rw [if_pos c10] at H;have c10b0:decide (0 ≤ (ji9)) = true:=decide_eq_true c10;clear c10;by_cases c11:(ji9) < (l0.length:Int)
          ·rw [if_pos c11] at H;have c11b0:decide ((ji9) < (l0.length:Int)) = true:=decide_eq_true c11;clear c11;by_cases c12:((Op.bytesLess (((rd_T78 l0 (ji9)).f0).toList) (((rd_T78 l0 x11_1).f0).toList)) = true)
           ·rw [if_pos c12] at H;have c12b0:(Op.bytesLess (((rd_T78 l0 (ji9)).f0).toList) (((rd_T78 l0 x11_1).f0).toList)) = true:=c12;clear c12;have H':=Aside0.mk H;clear H;have p101:0 ≤ (x11_1:Int):=of_decide_eq_true (by first|(with_reducible assumption)|assumption);have q101:x11_1 < (l0.length:Int):=of_decide_eq_true (by first|(with_reducible assumption)|assumption);obtain ⟨ad101,e101,hx101_0,hx101_1⟩:=at_T78 HR0.out x11_1 p101 q101;cases e101;replace hx101_0:=(HB.out.cell (World.block_lt_of_cell? w _ hx101_0)).trans hx101_0;replace hx101_1:=(HB.out.cell (World.block_lt_of_cell? w _ hx101_1)).trans hx101_1;replace p101:=eq_true p101;replace q101:=eq_true q101;go_wp2_with (first|((with_reducible refine gate_dst (N:=4) rfl ?_);refine box_event ?hg (N:=4) ?hd (cs:=#[.string (⟨#[]⟩:ByteArray),.string (⟨#[]⟩:ByteArray)]) (t:=78) ?hr ?_;(case hd=>rfl);(case hg=>rfl);(case hr=>first|(go_simp;done)|(go_simp;rfl));intro gb102 hg w13 hbox hb;have n0_:=Aside0.mk (below_step (by repeat (first|(with_reducible first|exact HB.out|apply bwA|apply pwbN|apply bw1)|exact HB.out)) hb);have n1_:=Aside0.mk (hbox);have n2_:=Aside0.mk ((by rw [hg];exact (below_size (by repeat (first|(with_reducible first|exact HB.out|apply bwA|apply pwbN|apply bw1)|exact HB.out))):w.heap.size ≤ gb102));have n3_:=Aside0.mk ((by rw [hg];exact (below_size (by repeat (first|(with_reducible first|exact HB.out|apply bwA|apply pwbN|apply bw1)|exact HB.out))):w.heap.size ≤ gb102));clear HB;have HB:=n0_;have BK102:=n1_;have GW102:=n2_;have GE102:=n3_;clear n0_ n1_ n2_ n3_;clear hb hbox hg;obtain ⟨hcz14_0,hcz14_1,hfz14_0,hfz14_1⟩:=blkA2 BK102.out)|(go_at_call 107;(with_reducible refine (record_Check.calls k1 ((rd_T78 l0 x11_1).f0) ((rd_T78 l0 x11_1).f1) t103 _ A6.out).mono ?_);rintro e w15 ⟨rfl,hb⟩;have n0_:=Aside0.mk (blk_below (g:=gb102) (o := .cells #[.string ((rd_T78 l0 x11_1).f0),.string ((rd_T78 l0 x11_1).f1)] 78 (0,0)) (by (with_reducible repeat (first|refine blk_drewN ?_ _|refine blk_drew ?_|refine blk_alloc ?_ _));refine blk_put (cs:=#[.string ((rd_T78 l0 x11_1).f0),.string (⟨#[]⟩:ByteArray)]) ?_ 1 _ rfl;(with_reducible repeat (first|refine blk_drewN ?_ _|refine blk_drew ?_|refine blk_alloc ?_ _));refine blk_put (cs:=#[.string (⟨#[]⟩:ByteArray),.string (⟨#[]⟩:ByteArray)]) ?_ 0 _ rfl;(with_reducible repeat (first|refine blk_drewN ?_ _|refine blk_drew ?_|refine blk_alloc ?_ _));exact BK102.out) hb);have n1_:=Aside0.mk (below_step (by repeat (first|(with_reducible first|exact HB.out|apply bwA|apply pwbN|apply bw1|refine below_set ?_ GE102.out)|exact HB.out)) hb);clear BK102;clear HB;have BK102:=n0_;have HB:=n1_;clear n0_ n1_;(try clear hb);(try clear hb2);(try clear hk);(try clear hi);obtain ⟨hcz16_0,hcz16_1,hfz16_0,hfz16_1⟩:=blkA2 BK102.out;have p104:0 ≤ ((ji9):Int):=of_decide_eq_true (by first|(with_reducible assumption)|assumption);have q104:(ji9) < (l0.length:Int):=of_decide_eq_true (by first|(with_reducible assumption)|assumption);obtain ⟨ad104,e104,hx104_0,hx104_1⟩:=at_T78 HR0.out (ji9) p104 q104;obtain rfl:ad101 = ad104:=(by injection e104);replace hx104_0:=(HB.out.cell (World.block_lt_of_cell? w _ hx104_0)).trans hx104_0;replace hx104_1:=(HB.out.cell (World.block_lt_of_cell? w _ hx104_1)).trans hx104_1;replace p104:=eq_true p104;replace q104:=eq_true q104))
            repeat (go_quiet (first|((with_reducible refine gate_dst (N:=4) rfl ?_);refine box_event ?hg (N:=4) ?hd (cs:=#[.string (⟨#[]⟩:ByteArray),.string (⟨#[]⟩:ByteArray)]) (t:=78) ?hr ?_;(case hd=>rfl);(case hg=>rfl);(case hr=>first|(go_simp;done)|(go_simp;rfl));intro gb102 hg w13 hbox hb;have n0_:=Aside0.mk (below_step (by repeat (first|(with_reducible first|exact HB.out|apply bwA|apply pwbN|apply bw1)|exact HB.out)) hb);have n1_:=Aside0.mk (hbox);have n2_:=Aside0.mk ((by rw [hg];exact (below_size (by repeat (first|(with_reducible first|exact HB.out|apply bwA|apply pwbN|apply bw1)|exact HB.out))):w.heap.size ≤ gb102));have n3_:=Aside0.mk ((by rw [hg];exact (below_size (by repeat (first|(with_reducible first|exact HB.out|apply bwA|apply pwbN|apply bw1)|exact HB.out))):w.heap.size ≤ gb102));clear HB;have HB:=n0_;have BK102:=n1_;have GW102:=n2_;have GE102:=n3_;clear n0_ n1_ n2_ n3_;clear hb hbox hg;obtain ⟨hcz14_0,hcz14_1,hfz14_0,hfz14_1⟩:=blkA2 BK102.out)|(go_at_call 107;(with_reducible refine (record_Check.calls k1 ((rd_T78 l0 x11_1).f0) ((rd_T78 l0 x11_1).f1) t103 _ A6.out).mono ?_);rintro e w15 ⟨rfl,hb⟩;have n0_:=Aside0.mk (blk_below (g:=gb102) (o := .cells #[.string ((rd_T78 l0 x11_1).f0),.string ((rd_T78 l0 x11_1).f1)] 78 (0,0)) (by (with_reducible repeat (first|refine blk_drewN ?_ _|refine blk_drew ?_|refine blk_alloc ?_ _));refine blk_put (cs:=#[.string ((rd_T78 l0 x11_1).f0),.string (⟨#[]⟩:ByteArray)]) ?_ 1 _ rfl;(with_reducible repeat (first|refine blk_drewN ?_ _|refine blk_drew ?_|refine blk_alloc ?_ _));refine blk_put (cs:=#[.string (⟨#[]⟩:ByteArray),.string (⟨#[]⟩:ByteArray)]) ?_ 0 _ rfl;(with_reducible repeat (first|refine blk_drewN ?_ _|refine blk_drew ?_|refine blk_alloc ?_ _));exact BK102.out) hb);have n1_:=Aside0.mk (below_step (by repeat (first|(with_reducible first|exact HB.out|apply bwA|apply pwbN|apply bw1|refine below_set ?_ GE102.out)|exact HB.out)) hb);clear BK102;clear HB;have BK102:=n0_;have HB:=n1_;clear n0_ n1_;(try clear hb);(try clear hb2);(try clear hk);(try clear hi);obtain ⟨hcz16_0,hcz16_1,hfz16_0,hfz16_1⟩:=blkA2 BK102.out;have p104:0 ≤ ((ji9):Int):=of_decide_eq_true (by first|(with_reducible assumption)|assumption);have q104:(ji9) < (l0.length:Int):=of_decide_eq_true (by first|(with_reducible assumption)|assumption);obtain ⟨ad104,e104,hx104_0,hx104_1⟩:=at_T78 HR0.out (ji9) p104 q104;obtain rfl:ad101 = ad104:=(by injection e104);replace hx104_0:=(HB.out.cell (World.block_lt_of_cell? w _ hx104_0)).trans hx104_0;replace hx104_1:=(HB.out.cell (World.block_lt_of_cell? w _ hx104_1)).trans hx104_1;replace p104:=eq_true p104;replace q104:=eq_true q104));try go_wp2_with (first|((with_reducible refine gate_dst (N:=4) rfl ?_);refine box_event ?hg (N:=4) ?hd (cs:=#[.string (⟨#[]⟩:ByteArray),.string (⟨#[]⟩:ByteArray)]) (t:=78) ?hr ?_;(case hd=>rfl);(case hg=>rfl);(case hr=>first|(go_simp;done)|(go_simp;rfl));intro gb102 hg w13 hbox hb;have n0_:=Aside0.mk (below_step (by repeat (first|(with_reducible first|exact HB.out|apply bwA|apply pwbN|apply bw1)|exact HB.out)) hb);have n1_:=Aside0.mk (hbox);have n2_:=Aside0.mk ((by rw [hg];exact (below_size (by repeat (first|(with_reducible first|exact HB.out|apply bwA|apply pwbN|apply bw1)|exact HB.out))):w.heap.size ≤ gb102));have n3_:=Aside0.mk ((by rw [hg];exact (below_size (by repeat (first|(with_reducible first|exact HB.out|apply bwA|apply pwbN|apply bw1)|exact HB.out))):w.heap.size ≤ gb102));clear HB;have HB:=n0_;have BK102:=n1_;have GW102:=n2_;have GE102:=n3_;clear n0_ n1_ n2_ n3_;clear hb hbox hg;obtain ⟨hcz14_0,hcz14_1,hfz14_0,hfz14_1⟩:=blkA2 BK102.out)|(go_at_call 107;(with_reducible refine (record_Check.calls k1 ((rd_T78 l0 x11_1).f0) ((rd_T78 l0 x11_1).f1) t103 _ A6.out).mono ?_);rintro e w15 ⟨rfl,hb⟩;have n0_:=Aside0.mk (blk_below (g:=gb102) (o := .cells #[.string ((rd_T78 l0 x11_1).f0),.string ((rd_T78 l0 x11_1).f1)] 78 (0,0)) (by (with_reducible repeat (first|refine blk_drewN ?_ _|refine blk_drew ?_|refine blk_alloc ?_ _));refine blk_put (cs:=#[.string ((rd_T78 l0 x11_1).f0),.string (⟨#[]⟩:ByteArray)]) ?_ 1 _ rfl;(with_reducible repeat (first|refine blk_drewN ?_ _|refine blk_drew ?_|refine blk_alloc ?_ _));refine blk_put (cs:=#[.string (⟨#[]⟩:ByteArray),.string (⟨#[]⟩:ByteArray)]) ?_ 0 _ rfl;(with_reducible repeat (first|refine blk_drewN ?_ _|refine blk_drew ?_|refine blk_alloc ?_ _));exact BK102.out) hb);have n1_:=Aside0.mk (below_step (by repeat (first|(with_reducible first|exact HB.out|apply bwA|apply pwbN|apply bw1|refine below_set ?_ GE102.out)|exact HB.out)) hb);clear BK102;clear HB;have BK102:=n0_;have HB:=n1_;clear n0_ n1_;(try clear hb);(try clear hb2);(try clear hk);(try clear hi);obtain ⟨hcz16_0,hcz16_1,hfz16_0,hfz16_1⟩:=blkA2 BK102.out;have p104:0 ≤ ((ji9):Int):=of_decide_eq_true (by first|(with_reducible assumption)|assumption);have q104:(ji9) < (l0.length:Int):=of_decide_eq_true (by first|(with_reducible assumption)|assumption);obtain ⟨ad104,e104,hx104_0,hx104_1⟩:=at_T78 HR0.out (ji9) p104 q104;obtain rfl:ad101 = ad104:=(by injection e104);replace hx104_0:=(HB.out.cell (World.block_lt_of_cell? w _ hx104_0)).trans hx104_0;replace hx104_1:=(HB.out.cell (World.block_lt_of_cell? w _ hx104_1)).trans hx104_1;replace p104:=eq_true p104;replace q104:=eq_true q104)))
            go_roundg k1
            case measure=>have:=HK1.out;omega
            case rel=>exact ⟨(wrap64 (x11_1 + 1)),(by first|rfl|(simp;done)|(simp [*];done)),H',⟨by have:=HK1.out;omega⟩,⟨by repeat (first|(with_reducible first|exact HB.out|apply bwA|apply pwbN|apply bw1|refine below_set ?_ GE102.out)|exact HB.out)⟩⟩
           ·rw [if_neg c12] at H;have c12b0:(Op.bytesLess (((rd_T78 l0 (ji9)).f0).toList) (((rd_T78 l0 x11_1).f0).toList)) = false:=by simpa using c12
            clear c12;obtain rfl:=Option.some.inj H;have p101:0 ≤ (x11_1:Int):=of_decide_eq_true (by first|(with_reducible assumption)|assumption);have q101:x11_1 < (l0.length:Int):=of_decide_eq_true (by first|(with_reducible assumption)|assumption);obtain ⟨ad101,e101,hx101_0,hx101_1⟩:=at_T78 HR0.out x11_1 p101 q101;cases e101;replace hx101_0:=(HB.out.cell (World.block_lt_of_cell? w _ hx101_0)).trans hx101_0;replace hx101_1:=(HB.out.cell (World.block_lt_of_cell? w _ hx101_1)).trans hx101_1;replace p101:=eq_true p101;replace q101:=eq_true q101;go_wp2_with (first|((with_reducible refine gate_dst (N:=4) rfl ?_);refine box_event ?hg (N:=4) ?hd (cs:=#[.string (⟨#[]⟩:ByteArray),.string (⟨#[]⟩:ByteArray)]) (t:=78) ?hr ?_;(case hd=>rfl);(case hg=>rfl);(case hr=>first|(go_simp;done)|(go_simp;rfl));intro gb102 hg w17 hbox hb;have n0_:=Aside0.mk (below_step (by repeat (first|(with_reducible first|exact HB.out|apply bwA|apply pwbN|apply bw1)|exact HB.out)) hb);have n1_:=Aside0.mk (hbox);have n2_:=Aside0.mk ((by rw [hg];exact (below_size (by repeat (first|(with_reducible first|exact HB.out|apply bwA|apply pwbN|apply bw1)|exact HB.out))):w.heap.size ≤ gb102));have n3_:=Aside0.mk ((by rw [hg];exact (below_size (by repeat (first|(with_reducible first|exact HB.out|apply bwA|apply pwbN|apply bw1)|exact HB.out))):w.heap.size ≤ gb102));clear HB;have HB:=n0_;have BK102:=n1_;have GW102:=n2_;have GE102:=n3_;clear n0_ n1_ n2_ n3_;clear hb hbox hg;obtain ⟨hcz18_0,hcz18_1,hfz18_0,hfz18_1⟩:=blkA2 BK102.out)|(go_at_call 107;(with_reducible refine (record_Check.calls k1 ((rd_T78 l0 x11_1).f0) ((rd_T78 l0 x11_1).f1) t103 _ A6.out).mono ?_);rintro e w19 ⟨rfl,hb⟩;have n0_:=Aside0.mk (blk_below (g:=gb102) (o := .cells #[.string ((rd_T78 l0 x11_1).f0),.string ((rd_T78 l0 x11_1).f1)] 78 (0,0)) (by (with_reducible repeat (first|refine blk_drewN ?_ _|refine blk_drew ?_|refine blk_alloc ?_ _));refine blk_put (cs:=#[.string ((rd_T78 l0 x11_1).f0),.string (⟨#[]⟩:ByteArray)]) ?_ 1 _ rfl;(with_reducible repeat (first|refine blk_drewN ?_ _|refine blk_drew ?_|refine blk_alloc ?_ _));refine blk_put (cs:=#[.string (⟨#[]⟩:ByteArray),.string (⟨#[]⟩:ByteArray)]) ?_ 0 _ rfl;(with_reducible repeat (first|refine blk_drewN ?_ _|refine blk_drew ?_|refine blk_alloc ?_ _));exact BK102.out) hb);have n1_:=Aside0.mk (below_step (by repeat (first|(with_reducible first|exact HB.out|apply bwA|apply pwbN|apply bw1|refine below_set ?_ GE102.out)|exact HB.out)) hb);clear BK102;clear HB;have BK102:=n0_;have HB:=n1_;clear n0_ n1_;(try clear hb);(try clear hb2);(try clear hk);(try clear hi);obtain ⟨hcz20_0,hcz20_1,hfz20_0,hfz20_1⟩:=blkA2 BK102.out;have p104:0 ≤ ((ji9):Int):=of_decide_eq_true (by first|(with_reducible assumption)|assumption);have q104:(ji9) < (l0.length:Int):=of_decide_eq_true (by first|(with_reducible assumption)|assumption);obtain ⟨ad104,e104,hx104_0,hx104_1⟩:=at_T78 HR0.out (ji9) p104 q104;obtain rfl:ad101 = ad104:=(by injection e104);replace hx104_0:=(HB.out.cell (World.block_lt_of_cell? w _ hx104_0)).trans hx104_0;replace hx104_1:=(HB.out.cell (World.block_lt_of_cell? w _ hx104_1)).trans hx104_1;replace p104:=eq_true p104;replace q104:=eq_true q104))
            repeat (go_quiet (first|((with_reducible refine gate_dst (N:=4) rfl ?_);refine box_event ?hg (N:=4) ?hd (cs:=#[.string (⟨#[]⟩:ByteArray),.string (⟨#[]⟩:ByteArray)]) (t:=78) ?hr ?_;(case hd=>rfl);(case hg=>rfl);(case hr=>first|(go_simp;done)|(go_simp;rfl));intro gb102 hg w17 hbox hb;have n0_:=Aside0.mk (below_step (by repeat (first|(with_reducible first|exact HB.out|apply bwA|apply pwbN|apply bw1)|exact HB.out)) hb);have n1_:=Aside0.mk (hbox);have n2_:=Aside0.mk ((by rw [hg];exact (below_size (by repeat (first|(with_reducible first|exact HB.out|apply bwA|apply pwbN|apply bw1)|exact HB.out))):w.heap.size ≤ gb102));have n3_:=Aside0.mk ((by rw [hg];exact (below_size (by repeat (first|(with_reducible first|exact HB.out|apply bwA|apply pwbN|apply bw1)|exact HB.out))):w.heap.size ≤ gb102));clear HB;have HB:=n0_;have BK102:=n1_;have GW102:=n2_;have GE102:=n3_;clear n0_ n1_ n2_ n3_;clear hb hbox hg;obtain ⟨hcz18_0,hcz18_1,hfz18_0,hfz18_1⟩:=blkA2 BK102.out)|(go_at_call 107;(with_reducible refine (record_Check.calls k1 ((rd_T78 l0 x11_1).f0) ((rd_T78 l0 x11_1).f1) t103 _ A6.out).mono ?_);rintro e w19 ⟨rfl,hb⟩;have n0_:=Aside0.mk (blk_below (g:=gb102) (o := .cells #[.string ((rd_T78 l0 x11_1).f0),.string ((rd_T78 l0 x11_1).f1)] 78 (0,0)) (by (with_reducible repeat (first|refine blk_drewN ?_ _|refine blk_drew ?_|refine blk_alloc ?_ _));refine blk_put (cs:=#[.string ((rd_T78 l0 x11_1).f0),.string (⟨#[]⟩:ByteArray)]) ?_ 1 _ rfl;(with_reducible repeat (first|refine blk_drewN ?_ _|refine blk_drew ?_|refine blk_alloc ?_ _));refine blk_put (cs:=#[.string (⟨#[]⟩:ByteArray),.string (⟨#[]⟩:ByteArray)]) ?_ 0 _ rfl;(with_reducible repeat (first|refine blk_drewN ?_ _|refine blk_drew ?_|refine blk_alloc ?_ _));exact BK102.out) hb);have n1_:=Aside0.mk (below_step (by repeat (first|(with_reducible first|exact HB.out|apply bwA|apply pwbN|apply bw1|refine below_set ?_ GE102.out)|exact HB.out)) hb);clear BK102;clear HB;have BK102:=n0_;have HB:=n1_;clear n0_ n1_;(try clear hb);(try clear hb2);(try clear hk);(try clear hi);obtain ⟨hcz20_0,hcz20_1,hfz20_0,hfz20_1⟩:=blkA2 BK102.out;have p104:0 ≤ ((ji9):Int):=of_decide_eq_true (by first|(with_reducible assumption)|assumption);have q104:(ji9) < (l0.length:Int):=of_decide_eq_true (by first|(with_reducible assumption)|assumption);obtain ⟨ad104,e104,hx104_0,hx104_1⟩:=at_T78 HR0.out (ji9) p104 q104;obtain rfl:ad101 = ad104:=(by injection e104);replace hx104_0:=(HB.out.cell (World.block_lt_of_cell? w _ hx104_0)).trans hx104_0;replace hx104_1:=(HB.out.cell (World.block_lt_of_cell? w _ hx104_1)).trans hx104_1;replace p104:=eq_true p104;replace q104:=eq_true q104));try go_wp2_with (first|((with_reducible refine gate_dst (N:=4) rfl ?_);refine box_event ?hg (N:=4) ?hd (cs:=#[.string (⟨#[]⟩:ByteArray),.string (⟨#[]⟩:ByteArray)]) (t:=78) ?hr ?_;(case hd=>rfl);(case hg=>rfl);(case hr=>first|(go_simp;done)|(go_simp;rfl));intro gb102 hg w17 hbox hb;have n0_:=Aside0.mk (below_step (by repeat (first|(with_reducible first|exact HB.out|apply bwA|apply pwbN|apply bw1)|exact HB.out)) hb);have n1_:=Aside0.mk (hbox);have n2_:=Aside0.mk ((by rw [hg];exact (below_size (by repeat (first|(with_reducible first|exact HB.out|apply bwA|apply pwbN|apply bw1)|exact HB.out))):w.heap.size ≤ gb102));have n3_:=Aside0.mk ((by rw [hg];exact (below_size (by repeat (first|(with_reducible first|exact HB.out|apply bwA|apply pwbN|apply bw1)|exact HB.out))):w.heap.size ≤ gb102));clear HB;have HB:=n0_;have BK102:=n1_;have GW102:=n2_;have GE102:=n3_;clear n0_ n1_ n2_ n3_;clear hb hbox hg;obtain ⟨hcz18_0,hcz18_1,hfz18_0,hfz18_1⟩:=blkA2 BK102.out)|(go_at_call 107;(with_reducible refine (record_Check.calls k1 ((rd_T78 l0 x11_1).f0) ((rd_T78 l0 x11_1).f1) t103 _ A6.out).mono ?_);rintro e w19 ⟨rfl,hb⟩;have n0_:=Aside0.mk (blk_below (g:=gb102) (o := .cells #[.string ((rd_T78 l0 x11_1).f0),.string ((rd_T78 l0 x11_1).f1)] 78 (0,0)) (by (with_reducible repeat (first|refine blk_drewN ?_ _|refine blk_drew ?_|refine blk_alloc ?_ _));refine blk_put (cs:=#[.string ((rd_T78 l0 x11_1).f0),.string (⟨#[]⟩:ByteArray)]) ?_ 1 _ rfl;(with_reducible repeat (first|refine blk_drewN ?_ _|refine blk_drew ?_|refine blk_alloc ?_ _));refine blk_put (cs:=#[.string (⟨#[]⟩:ByteArray),.string (⟨#[]⟩:ByteArray)]) ?_ 0 _ rfl;(with_reducible repeat (first|refine blk_drewN ?_ _|refine blk_drew ?_|refine blk_alloc ?_ _));exact BK102.out) hb);have n1_:=Aside0.mk (below_step (by repeat (first|(with_reducible first|exact HB.out|apply bwA|apply pwbN|apply bw1|refine below_set ?_ GE102.out)|exact HB.out)) hb);clear BK102;clear HB;have BK102:=n0_;have HB:=n1_;clear n0_ n1_;(try clear hb);(try clear hb2);(try clear hk);(try clear hi);obtain ⟨hcz20_0,hcz20_1,hfz20_0,hfz20_1⟩:=blkA2 BK102.out;have p104:0 ≤ ((ji9):Int):=of_decide_eq_true (by first|(with_reducible assumption)|assumption);have q104:(ji9) < (l0.length:Int):=of_decide_eq_true (by first|(with_reducible assumption)|assumption);obtain ⟨ad104,e104,hx104_0,hx104_1⟩:=at_T78 HR0.out (ji9) p104 q104;obtain rfl:ad101 = ad104:=(by injection e104);replace hx104_0:=(HB.out.cell (World.block_lt_of_cell? w _ hx104_0)).trans hx104_0;replace hx104_1:=(HB.out.cell (World.block_lt_of_cell? w _ hx104_1)).trans hx104_1;replace p104:=eq_true p104;replace q104:=eq_true q104)))
            go_ret
            exact ⟨by first|rfl|(simp [errW_none,errW_some] <;> rfl)|(simp only [← hji9];first|rfl|(simp [errW_none,errW_some] <;> rfl))|(simp [*,errW_none,errW_some] <;> rfl),by repeat (first|(with_reducible first|exact HB.out|apply bwA|apply pwbN|apply bw1|refine below_set ?_ GE102.out)|exact HB.out)⟩
          ·rw [if_neg c11] at H;exact absurd H (by simp)
         ·rw [if_neg c10] at H;exact absurd H (by simp)
        ·rw [if_neg c8] at H;have c8b0:decide (0 < x11_1) = false:=decide_eq_false c8;clear c8;have H':=Aside0.mk H;clear H;have p101:0 ≤ (x11_1:Int):=of_decide_eq_true (by first|(with_reducible assumption)|assumption);have q101:x11_1 < (l0.length:Int):=of_decide_eq_true (by first|(with_reducible assumption)|assumption);obtain ⟨ad101,e101,hx101_0,hx101_1⟩:=at_T78 HR0.out x11_1 p101 q101;cases e101;replace hx101_0:=(HB.out.cell (World.block_lt_of_cell? w _ hx101_0)).trans hx101_0;replace hx101_1:=(HB.out.cell (World.block_lt_of_cell? w _ hx101_1)).trans hx101_1;replace p101:=eq_true p101;replace q101:=eq_true q101;go_wp2_with (first|((with_reducible refine gate_dst (N:=4) rfl ?_);refine box_event ?hg (N:=4) ?hd (cs:=#[.string (⟨#[]⟩:ByteArray),.string (⟨#[]⟩:ByteArray)]) (t:=78) ?hr ?_;(case hd=>rfl);(case hg=>rfl);(case hr=>first|(go_simp;done)|(go_simp;rfl));intro gb102 hg w21 hbox hb;have n0_:=Aside0.mk (below_step (by repeat (first|(with_reducible first|exact HB.out|apply bwA|apply pwbN|apply bw1)|exact HB.out)) hb);have n1_:=Aside0.mk (hbox);have n2_:=Aside0.mk ((by rw [hg];exact (below_size (by repeat (first|(with_reducible first|exact HB.out|apply bwA|apply pwbN|apply bw1)|exact HB.out))):w.heap.size ≤ gb102));have n3_:=Aside0.mk ((by rw [hg];exact (below_size (by repeat (first|(with_reducible first|exact HB.out|apply bwA|apply pwbN|apply bw1)|exact HB.out))):w.heap.size ≤ gb102));clear HB;have HB:=n0_;have BK102:=n1_;have GW102:=n2_;have GE102:=n3_;clear n0_ n1_ n2_ n3_;clear hb hbox hg;obtain ⟨hcz22_0,hcz22_1,hfz22_0,hfz22_1⟩:=blkA2 BK102.out)|(go_at_call 107;(with_reducible refine (record_Check.calls k1 ((rd_T78 l0 x11_1).f0) ((rd_T78 l0 x11_1).f1) t103 _ A6.out).mono ?_);rintro e w23 ⟨rfl,hb⟩;have n0_:=Aside0.mk (blk_below (g:=gb102) (o := .cells #[.string ((rd_T78 l0 x11_1).f0),.string ((rd_T78 l0 x11_1).f1)] 78 (0,0)) (by (with_reducible repeat (first|refine blk_drewN ?_ _|refine blk_drew ?_|refine blk_alloc ?_ _));refine blk_put (cs:=#[.string ((rd_T78 l0 x11_1).f0),.string (⟨#[]⟩:ByteArray)]) ?_ 1 _ rfl;(with_reducible repeat (first|refine blk_drewN ?_ _|refine blk_drew ?_|refine blk_alloc ?_ _));refine blk_put (cs:=#[.string (⟨#[]⟩:ByteArray),.string (⟨#[]⟩:ByteArray)]) ?_ 0 _ rfl;(with_reducible repeat (first|refine blk_drewN ?_ _|refine blk_drew ?_|refine blk_alloc ?_ _));exact BK102.out) hb);have n1_:=Aside0.mk (below_step (by repeat (first|(with_reducible first|exact HB.out|apply bwA|apply pwbN|apply bw1|refine below_set ?_ GE102.out)|exact HB.out)) hb);clear BK102;clear HB;have BK102:=n0_;have HB:=n1_;clear n0_ n1_;(try clear hb);(try clear hb2);(try clear hk);(try clear hi)))
         repeat (go_quiet (first|((with_reducible refine gate_dst (N:=4) rfl ?_);refine box_event ?hg (N:=4) ?hd (cs:=#[.string (⟨#[]⟩:ByteArray),.string (⟨#[]⟩:ByteArray)]) (t:=78) ?hr ?_;(case hd=>rfl);(case hg=>rfl);(case hr=>first|(go_simp;done)|(go_simp;rfl));intro gb102 hg w21 hbox hb;have n0_:=Aside0.mk (below_step (by repeat (first|(with_reducible first|exact HB.out|apply bwA|apply pwbN|apply bw1)|exact HB.out)) hb);have n1_:=Aside0.mk (hbox);have n2_:=Aside0.mk ((by rw [hg];exact (below_size (by repeat (first|(with_reducible first|exact HB.out|apply bwA|apply pwbN|apply bw1)|exact HB.out))):w.heap.size ≤ gb102));have n3_:=Aside0.mk ((by rw [hg];exact (below_size (by repeat (first|(with_reducible first|exact HB.out|apply bwA|apply pwbN|apply bw1)|exact HB.out))):w.heap.size ≤ gb102));clear HB;have HB:=n0_;have BK102:=n1_;have GW102:=n2_;have GE102:=n3_;clear n0_ n1_ n2_ n3_;clear hb hbox hg;obtain ⟨hcz22_0,hcz22_1,hfz22_0,hfz22_1⟩:=blkA2 BK102.out)|(go_at_call 107;(with_reducible refine (record_Check.calls k1 ((rd_T78 l0 x11_1).f0) ((rd_T78 l0 x11_1).f1) t103 _ A6.out).mono ?_);rintro e w23 ⟨rfl,hb⟩;have n0_:=Aside0.mk (blk_below (g:=gb102) (o := .cells #[.string ((rd_T78 l0 x11_1).f0),.string ((rd_T78 l0 x11_1).f1)] 78 (0,0)) (by (with_reducible repeat (first|refine blk_drewN ?_ _|refine blk_drew ?_|refine blk_alloc ?_ _));refine blk_put (cs:=#[.string ((rd_T78 l0 x11_1).f0),.string (⟨#[]⟩:ByteArray)]) ?_ 1 _ rfl;(with_reducible repeat (first|refine blk_drewN ?_ _|refine blk_drew ?_|refine blk_alloc ?_ _));refine blk_put (cs:=#[.string (⟨#[]⟩:ByteArray),.string (⟨#[]⟩:ByteArray)]) ?_ 0 _ rfl;(with_reducible repeat (first|refine blk_drewN ?_ _|refine blk_drew ?_|refine blk_alloc ?_ _));exact BK102.out) hb);have n1_:=Aside0.mk (below_step (by repeat (first|(with_reducible first|exact HB.out|apply bwA|apply pwbN|apply bw1|refine below_set ?_ GE102.out)|exact HB.out)) hb);clear BK102;clear HB;have BK102:=n0_;have HB:=n1_;clear n0_ n1_;(try clear hb);(try clear hb2);(try clear hk);(try clear hi)));try go_wp2_with (first|((with_reducible refine gate_dst (N:=4) rfl ?_);refine box_event ?hg (N:=4) ?hd (cs:=#[.string (⟨#[]⟩:ByteArray),.string (⟨#[]⟩:ByteArray)]) (t:=78) ?hr ?_;(case hd=>rfl);(case hg=>rfl);(case hr=>first|(go_simp;done)|(go_simp;rfl));intro gb102 hg w21 hbox hb;have n0_:=Aside0.mk (below_step (by repeat (first|(with_reducible first|exact HB.out|apply bwA|apply pwbN|apply bw1)|exact HB.out)) hb);have n1_:=Aside0.mk (hbox);have n2_:=Aside0.mk ((by rw [hg];exact (below_size (by repeat (first|(with_reducible first|exact HB.out|apply bwA|apply pwbN|apply bw1)|exact HB.out))):w.heap.size ≤ gb102));have n3_:=Aside0.mk ((by rw [hg];exact (below_size (by repeat (first|(with_reducible first|exact HB.out|apply bwA|apply pwbN|apply bw1)|exact HB.out))):w.heap.size ≤ gb102));clear HB;have HB:=n0_;have BK102:=n1_;have GW102:=n2_;have GE102:=n3_;clear n0_ n1_ n2_ n3_;clear hb hbox hg;obtain ⟨hcz22_0,hcz22_1,hfz22_0,hfz22_1⟩:=blkA2 BK102.out)|(go_at_call 107;(with_reducible refine (record_Check.calls k1 ((rd_T78 l0 x11_1).f0) ((rd_T78 l0 x11_1).f1) t103 _ A6.out).mono ?_);rintro e w23 ⟨rfl,hb⟩;have n0_:=Aside0.mk (blk_below (g:=gb102) (o := .cells #[.string ((rd_T78 l0 x11_1).f0),.string ((rd_T78 l0 x11_1).f1)] 78 (0,0)) (by (with_reducible repeat (first|refine blk_drewN ?_ _|refine blk_drew ?_|refine blk_alloc ?_ _));refine blk_put (cs:=#[.string ((rd_T78 l0 x11_1).f0),.string (⟨#[]⟩:ByteArray)]) ?_ 1 _ rfl;(with_reducible repeat (first|refine blk_drewN ?_ _|refine blk_drew ?_|refine blk_alloc ?_ _));refine blk_put (cs:=#[.string (⟨#[]⟩:ByteArray),.string (⟨#[]⟩:ByteArray)]) ?_ 0 _ rfl;(with_reducible repeat (first|refine blk_drewN ?_ _|refine blk_drew ?_|refine blk_alloc ?_ _));exact BK102.out) hb);have n1_:=Aside0.mk (below_step (by repeat (first|(with_reducible first|exact HB.out|apply bwA|apply pwbN|apply bw1|refine below_set ?_ GE102.out)|exact HB.out)) hb);clear BK102;clear HB;have BK102:=n0_;have HB:=n1_;clear n0_ n1_;(try clear hb);(try clear hb2);(try clear hk);(try clear hi))))
         go_roundg k1
         case measure=>have:=HK1.out;omega
         case rel=>exact ⟨(wrap64 (x11_1 + 1)),(by first|rfl|(simp;done)|(simp [*];done)),H',⟨by have:=HK1.out;omega⟩,⟨by repeat (first|(with_reducible first|exact HB.out|apply bwA|apply pwbN|apply bw1|refine below_set ?_ GE102.out)|exact HB.out)⟩⟩
       ·rw [if_neg c7] at H;have c7b0:(t103 == 0) = false:=beq_eq_false_iff_ne.mpr c7;have c7b1:(t103 != 0) = true:=bne_iff_ne.mpr c7;obtain rfl:=Option.some.inj H;have p101:0 ≤ (x11_1:Int):=of_decide_eq_true (by first|(with_reducible assumption)|assumption);have q101:x11_1 < (l0.length:Int):=of_decide_eq_true (by first|(with_reducible assumption)|assumption);obtain ⟨ad101,e101,hx101_0,hx101_1⟩:=at_T78 HR0.out x11_1 p101 q101;cases e101;replace hx101_0:=(HB.out.cell (World.block_lt_of_cell? w _ hx101_0)).trans hx101_0;replace hx101_1:=(HB.out.cell (World.block_lt_of_cell? w _ hx101_1)).trans hx101_1;replace p101:=eq_true p101;replace q101:=eq_true q101;go_wp2_with (first|((with_reducible refine gate_dst (N:=4) rfl ?_);refine box_event ?hg (N:=4) ?hd (cs:=#[.string (⟨#[]⟩:ByteArray),.string (⟨#[]⟩:ByteArray)]) (t:=78) ?hr ?_;(case hd=>rfl);(case hg=>rfl);(case hr=>first|(go_simp;done)|(go_simp;rfl));intro gb102 hg w24 hbox hb;have n0_:=Aside0.mk (below_step (by repeat (first|(with_reducible first|exact HB.out|apply bwA|apply pwbN|apply bw1)|exact HB.out)) hb);have n1_:=Aside0.mk (hbox);have n2_:=Aside0.mk ((by rw [hg];exact (below_size (by repeat (first|(with_reducible first|exact HB.out|apply bwA|apply pwbN|apply bw1)|exact HB.out))):w.heap.size ≤ gb102));have n3_:=Aside0.mk ((by rw [hg];exact (below_size (by repeat (first|(with_reducible first|exact HB.out|apply bwA|apply pwbN|apply bw1)|exact HB.out))):w.heap.size ≤ gb102));clear HB;have HB:=n0_;have BK102:=n1_;have GW102:=n2_;have GE102:=n3_;clear n0_ n1_ n2_ n3_;clear hb hbox hg;obtain ⟨hcz25_0,hcz25_1,hfz25_0,hfz25_1⟩:=blkA2 BK102.out)|(go_at_call 107;(with_reducible refine (record_Check.calls k1 ((rd_T78 l0 x11_1).f0) ((rd_T78 l0 x11_1).f1) t103 _ A6.out).mono ?_);rintro e w26 ⟨rfl,hb⟩;have n0_:=Aside0.mk (blk_below (g:=gb102) (o := .cells #[.string ((rd_T78 l0 x11_1).f0),.string ((rd_T78 l0 x11_1).f1)] 78 (0,0)) (by (with_reducible repeat (first|refine blk_drewN ?_ _|refine blk_drew ?_|refine blk_alloc ?_ _));refine blk_put (cs:=#[.string ((rd_T78 l0 x11_1).f0),.string (⟨#[]⟩:ByteArray)]) ?_ 1 _ rfl;(with_reducible repeat (first|refine blk_drewN ?_ _|refine blk_drew ?_|refine blk_alloc ?_ _));refine blk_put (cs:=#[.string (⟨#[]⟩:ByteArray),.string (⟨#[]⟩:ByteArray)]) ?_ 0 _ rfl;(with_reducible repeat (first|refine blk_drewN ?_ _|refine blk_drew ?_|refine blk_alloc ?_ _));exact BK102.out) hb);have n1_:=Aside0.mk (below_step (by repeat (first|(with_reducible first|exact HB.out|apply bwA|apply pwbN|apply bw1|refine below_set ?_ GE102.out)|exact HB.out)) hb);clear BK102;clear HB;have BK102:=n0_;have HB:=n1_;clear n0_ n1_;(try clear hb);(try clear hb2);(try clear hk);(try clear hi)))
        repeat (go_quiet (first|((with_reducible refine gate_dst (N:=4) rfl ?_);refine box_event ?hg (N:=4) ?hd (cs:=#[.string (⟨#[]⟩:ByteArray),.string (⟨#[]⟩:ByteArray)]) (t:=78) ?hr ?_;(case hd=>rfl);(case hg=>rfl);(case hr=>first|(go_simp;done)|(go_simp;rfl));intro gb102 hg w24 hbox hb;have n0_:=Aside0.mk (below_step (by repeat (first|(with_reducible first|exact HB.out|apply bwA|apply pwbN|apply bw1)|exact HB.out)) hb);have n1_:=Aside0.mk (hbox);have n2_:=Aside0.mk ((by rw [hg];exact (below_size (by repeat (first|(with_reducible first|exact HB.out|apply bwA|apply pwbN|apply bw1)|exact HB.out))):w.heap.size ≤ gb102));have n3_:=Aside0.mk ((by rw [hg];exact (below_size (by repeat (first|(with_reducible first|exact HB.out|apply bwA|apply pwbN|apply bw1)|exact HB.out))):w.heap.size ≤ gb102));clear HB;have HB:=n0_;have BK102:=n1_;have GW102:=n2_;have GE102:=n3_;clear n0_ n1_ n2_ n3_;clear hb hbox hg;obtain ⟨hcz25_0,hcz25_1,hfz25_0,hfz25_1⟩:=blkA2 BK102.out)|(go_at_call 107;(with_reducible refine (record_Check.calls k1 ((rd_T78 l0 x11_1).f0) ((rd_T78 l0 x11_1).f1) t103 _ A6.out).mono ?_);rintro e w26 ⟨rfl,hb⟩;have n0_:=Aside0.mk (blk_below (g:=gb102) (o := .cells #[.string ((rd_T78 l0 x11_1).f0),.string ((rd_T78 l0 x11_1).f1)] 78 (0,0)) (by (with_reducible repeat (first|refine blk_drewN ?_ _|refine blk_drew ?_|refine blk_alloc ?_ _));refine blk_put (cs:=#[.string ((rd_T78 l0 x11_1).f0),.string (⟨#[]⟩:ByteArray)]) ?_ 1 _ rfl;(with_reducible repeat (first|refine blk_drewN ?_ _|refine blk_drew ?_|refine blk_alloc ?_ _));refine blk_put (cs:=#[.string (⟨#[]⟩:ByteArray),.string (⟨#[]⟩:ByteArray)]) ?_ 0 _ rfl;(with_reducible repeat (first|refine blk_drewN ?_ _|refine blk_drew ?_|refine blk_alloc ?_ _));exact BK102.out) hb);have n1_:=Aside0.mk (below_step (by repeat (first|(with_reducible first|exact HB.out|apply bwA|apply pwbN|apply bw1|refine below_set ?_ GE102.out)|exact HB.out)) hb);clear BK102;clear HB;have BK102:=n0_;have HB:=n1_;clear n0_ n1_;(try clear hb);(try clear hb2);(try clear hk);(try clear hi)));try go_wp2_with (first|((with_reducible refine gate_dst (N:=4) rfl ?_);refine box_event ?hg (N:=4) ?hd (cs:=#[.string (⟨#[]⟩:ByteArray),.string (⟨#[]⟩:ByteArray)]) (t:=78) ?hr ?_;(case hd=>rfl);(case hg=>rfl);(case hr=>first|(go_simp;done)|(go_simp;rfl));intro gb102 hg w24 hbox hb;have n0_:=Aside0.mk (below_step (by repeat (first|(with_reducible first|exact HB.out|apply bwA|apply pwbN|apply bw1)|exact HB.out)) hb);have n1_:=Aside0.mk (hbox);have n2_:=Aside0.mk ((by rw [hg];exact (below_size (by repeat (first|(with_reducible first|exact HB.out|apply bwA|apply pwbN|apply bw1)|exact HB.out))):w.heap.size ≤ gb102));have n3_:=Aside0.mk ((by rw [hg];exact (below_size (by repeat (first|(with_reducible first|exact HB.out|apply bwA|apply pwbN|apply bw1)|exact HB.out))):w.heap.size ≤ gb102));clear HB;have HB:=n0_;have BK102:=n1_;have GW102:=n2_;have GE102:=n3_;clear n0_ n1_ n2_ n3_;clear hb hbox hg;obtain ⟨hcz25_0,hcz25_1,hfz25_0,hfz25_1⟩:=blkA2 BK102.out)|(go_at_call 107;(with_reducible refine (record_Check.calls k1 ((rd_T78 l0 x11_1).f0) ((rd_T78 l0 x11_1).f1) t103 _ A6.out).mono ?_);rintro e w26 ⟨rfl,hb⟩;have n0_:=Aside0.mk (blk_below (g:=gb102) (o := .cells #[.string ((rd_T78 l0 x11_1).f0),.string ((rd_T78 l0 x11_1).f1)] 78 (0,0)) (by (with_reducible repeat (first|refine blk_drewN ?_ _|refine blk_drew ?_|refine blk_alloc ?_ _));refine blk_put (cs:=#[.string ((rd_T78 l0 x11_1).f0),.string (⟨#[]⟩:ByteArray)]) ?_ 1 _ rfl;(with_reducible repeat (first|refine blk_drewN ?_ _|refine blk_drew ?_|refine blk_alloc ?_ _));refine blk_put (cs:=#[.string (⟨#[]⟩:ByteArray),.string (⟨#[]⟩:ByteArray)]) ?_ 0 _ rfl;(with_reducible repeat (first|refine blk_drewN ?_ _|refine blk_drew ?_|refine blk_alloc ?_ _));exact BK102.out) hb);have n1_:=Aside0.mk (below_step (by repeat (first|(with_reducible first|exact HB.out|apply bwA|apply pwbN|apply bw1|refine below_set ?_ GE102.out)|exact HB.out)) hb);clear BK102;clear HB;have BK102:=n0_;have HB:=n1_;clear n0_ n1_;(try clear hb);(try clear hb2);(try clear hk);(try clear hi))))
        go_ret
        exact ⟨by first|rfl|(simp [errW_none,errW_some] <;> rfl)|(simp [*,errW_none,errW_some] <;> rfl),by repeat (first|(with_reducible first|exact HB.out|apply bwA|apply pwbN|apply bw1|refine below_set ?_ GE102.out)|exact HB.out)⟩
      ·rw [if_neg c5] at H;exact absurd H (by simp)
     ·rw [if_neg c4] at H;exact absurd H (by simp)
    ·rw [if_neg c3] at H;have c3b0:decide (x11_1 < (l0.length:Int)) = false:=decide_eq_false c3;clear c3;obtain rfl:=Option.some.inj H;go_wp2;repeat (go_quiet (fail);try go_wp2)
     go_ret
     exact ⟨by first|rfl|(simp [errW_none,errW_some] <;> rfl)|(simp [*,errW_none,errW_some] <;> rfl),by repeat (first|(with_reducible first|exact HB.out|apply bwA|apply pwbN|apply bw1)|exact HB.out)⟩
def record_Write.l0:Nat→ByteArray→Int→Option (ByteArray × Int)
 | 0,_,_=>none
 | k + 1,x5,x6=>(strconv_Itoa_76.f x6).bind fun t103=>(if x6 = (wrap64 ((x5.size:Int) + (t103.size:Int))) then ((strconv_Itoa_76.f x6).bind fun t104=>(if t104.size + x5.size ≤ 9223372036854775807 then (some (t104 ++ x5,0)) else (none))) else (record_Write.l0 k x5 (wrap64 (x6 + 1))))
def record_Write.f (k:Nat) (a0_0:ByteArray) (a0_1:ByteArray):Option (ByteArray × Int):=(record_Check.f k a0_0 a0_1).bind fun t102=>(if t102 = 0 then (if 1 + a0_0.size ≤ 9223372036854775807 then (if ((⟨#[32]⟩:ByteArray) ++ a0_0).size + 1 ≤ 9223372036854775807 then (if (((⟨#[32]⟩:ByteArray) ++ a0_0) ++ (⟨#[61]⟩:ByteArray)).size + a0_1.size ≤ 9223372036854775807 then (if ((((⟨#[32]⟩:ByteArray) ++ a0_0) ++ (⟨#[61]⟩:ByteArray)) ++ a0_1).size + 1 ≤ 9223372036854775807 then (record_Write.l0 k (((((⟨#[32]⟩:ByteArray) ++ a0_0) ++ (⟨#[61]⟩:ByteArray)) ++ a0_1) ++ (⟨#[10]⟩:ByteArray)) (wrap64 (((((((⟨#[32]⟩:ByteArray) ++ a0_0) ++ (⟨#[61]⟩:ByteArray)) ++ a0_1) ++ (⟨#[10]⟩:ByteArray)).size:Int) + 1))) else (none)) else (none)) else (none)) else (none)) else (some ((⟨#[]⟩:ByteArray),t102)))
theorem record_Write.mono_l:∀ k,(∀ y0 y1,LeO (record_Write.l0 k y0 y1) (record_Write.l0 (k + 1) y0 y1))
 | 0=>fun _ _ r h=>by simp [record_Write.l0] at h
 | k + 1=>by
  have ih0:=record_Write.mono_l k
  ·intro y0 y1
   unfold record_Write.l0
   repeat' first
   | (with_reducible exact ih0 _ _)
   | (with_reducible exact record_Check.mono _ _ _)
   | (with_reducible exact LeO.refl _)
   | (with_reducible exact LeO.none _)
   | (with_reducible refine LeO.ite ?_ ?_)
   | (with_reducible refine LeO.bind ?_ (fun _=>?_))
   | exact ih0 _ _
   | exact record_Check.mono _ _ _
   | exact LeO.none _
   | refine LeO.ite ?_ ?_
   | refine LeO.bind ?_ (fun _=>?_)
theorem record_Write.mono:∀ a0 a1 k,LeO (record_Write.f k a0 a1) (record_Write.f (k + 1) a0 a1):=by
 intro a0 a1 k;have ih0:=record_Write.mono_l k;unfold record_Write.f;repeat' first
  | (with_reducible exact ih0 _ _)
  | (with_reducible exact record_Check.mono _ _ _)
  | (with_reducible exact LeO.refl _)
  | (with_reducible exact LeO.none _)
  | (with_reducible refine LeO.ite ?_ ?_)
  | (with_reducible refine LeO.bind ?_ (fun _=>?_))
  | exact ih0 _ _
  | exact record_Check.mono _ _ _
  | exact LeO.none _
  | refine LeO.ite ?_ ?_
  | refine LeO.bind ?_ (fun _=>?_)
set_option maxHeartbeats 8000000 in
set_option maxRecDepth 100000 in
theorem record_Write.calls (k:Nat) (a0_0:ByteArray) (a0_1:ByteArray) (r1:ByteArray) (r2:Int) (w:World) (HT0:Aside0 (Tab w)) (h:record_Write.f k a0_0 a0_1 = some (r1,r2)) :
 Calls Tryz.prog 64 #[.agg #[.string a0_0,.string a0_1]] w fun e w'=>e = .returned (.tuple #[.string r1,.int .i64 r2])∧Below w.heap.size w w':=by
 have hu78:=Tryz.underlying78;have HB:=Aside0.mk (Below.refl w.heap.size w);have H:((record_Check.f k a0_0 a0_1).bind fun t102=>(if t102 = 0 then (if 1 + a0_0.size ≤ 9223372036854775807 then (if ((⟨#[32]⟩:ByteArray) ++ a0_0).size + 1 ≤ 9223372036854775807 then (if (((⟨#[32]⟩:ByteArray) ++ a0_0) ++ (⟨#[61]⟩:ByteArray)).size + a0_1.size ≤ 9223372036854775807 then (if ((((⟨#[32]⟩:ByteArray) ++ a0_0) ++ (⟨#[61]⟩:ByteArray)) ++ a0_1).size + 1 ≤ 9223372036854775807 then (record_Write.l0 k (((((⟨#[32]⟩:ByteArray) ++ a0_0) ++ (⟨#[61]⟩:ByteArray)) ++ a0_1) ++ (⟨#[10]⟩:ByteArray)) (wrap64 (((((((⟨#[32]⟩:ByteArray) ++ a0_0) ++ (⟨#[61]⟩:ByteArray)) ++ a0_1) ++ (⟨#[10]⟩:ByteArray)).size:Int) + 1))) else (none)) else (none)) else (none)) else (none)) else (some ((⟨#[]⟩:ByteArray),t102)))) = some (r1,r2):=h;clear h;replace H:=Option.bind_eq_some_iff.mp H;obtain ⟨t102,A20,H⟩:=H;replace H:(if t102 = 0 then (if 1 + a0_0.size ≤ 9223372036854775807 then (if ((⟨#[32]⟩:ByteArray) ++ a0_0).size + 1 ≤ 9223372036854775807 then (if (((⟨#[32]⟩:ByteArray) ++ a0_0) ++ (⟨#[61]⟩:ByteArray)).size + a0_1.size ≤ 9223372036854775807 then (if ((((⟨#[32]⟩:ByteArray) ++ a0_0) ++ (⟨#[61]⟩:ByteArray)) ++ a0_1).size + 1 ≤ 9223372036854775807 then (record_Write.l0 k (((((⟨#[32]⟩:ByteArray) ++ a0_0) ++ (⟨#[61]⟩:ByteArray)) ++ a0_1) ++ (⟨#[10]⟩:ByteArray)) (wrap64 (((((((⟨#[32]⟩:ByteArray) ++ a0_0) ++ (⟨#[61]⟩:ByteArray)) ++ a0_1) ++ (⟨#[10]⟩:ByteArray)).size:Int) + 1))) else (none)) else (none)) else (none)) else (none)) else (some ((⟨#[]⟩:ByteArray),t102))) = some (r1,r2):=H;have A2:=Aside0.mk A20;clear A20;by_cases c3:t102 = 0
 ·rw [if_pos c3] at H;have c3b0:(t102 == 0) = true:=beq_iff_eq.mpr c3;have c3b1:(t102 != 0) = false:=bne_eq_false_iff_eq.mpr c3;clear c3;by_cases c4:1 + a0_0.size ≤ 9223372036854775807
  ·rw [if_pos c4] at H;have c4b0:=eq_true c4;have c4b1:decide (1 + a0_0.size ≤ 9223372036854775807) = true:=decide_eq_true c4;try have c4b2:(9223372036854775807 < 1 + a0_0.size) = False:=eq_false (Nat.not_lt.2 c4)
   by_cases c5:((⟨#[32]⟩:ByteArray) ++ a0_0).size + 1 ≤ 9223372036854775807
   ·rw [if_pos c5] at H;have c5b0:=eq_true c5;have c5b1:decide (((⟨#[32]⟩:ByteArray) ++ a0_0).size + 1 ≤ 9223372036854775807) = true:=decide_eq_true c5;try have c5b2:(9223372036854775807 < ((⟨#[32]⟩:ByteArray) ++ a0_0).size + 1) = False:=eq_false (Nat.not_lt.2 c5)
    have c5b9_:(9223372036854775807 < 1 + a0_0.size + 1) = False:=eq_false (by have h_:=c5;simp only [ByteArray.size_append] at h_;first|omega|(have h1_:∀ b:UInt8,(⟨#[b]⟩:ByteArray).size = 1:=fun _=>rfl;simp only [h1_] at h_;omega));by_cases c6:(((⟨#[32]⟩:ByteArray) ++ a0_0) ++ (⟨#[61]⟩:ByteArray)).size + a0_1.size ≤ 9223372036854775807
    ·rw [if_pos c6] at H;have c6b0:=eq_true c6;have c6b1:decide ((((⟨#[32]⟩:ByteArray) ++ a0_0) ++ (⟨#[61]⟩:ByteArray)).size + a0_1.size ≤ 9223372036854775807) = true:=decide_eq_true c6;try have c6b2:(9223372036854775807 < (((⟨#[32]⟩:ByteArray) ++ a0_0) ++ (⟨#[61]⟩:ByteArray)).size + a0_1.size) = False:=eq_false (Nat.not_lt.2 c6)
     have c6b9_:(9223372036854775807 < 1 + a0_0.size + 1 + a0_1.size) = False:=eq_false (by have h_:=c6;simp only [ByteArray.size_append] at h_;first|omega|(have h1_:∀ b:UInt8,(⟨#[b]⟩:ByteArray).size = 1:=fun _=>rfl;simp only [h1_] at h_;omega));by_cases c7:((((⟨#[32]⟩:ByteArray) ++ a0_0) ++ (⟨#[61]⟩:ByteArray)) ++ a0_1).size + 1 ≤ 9223372036854775807
     ·rw [if_pos c7] at H;have c7b0:=eq_true c7;have c7b1:decide (((((⟨#[32]⟩:ByteArray) ++ a0_0) ++ (⟨#[61]⟩:ByteArray)) ++ a0_1).size + 1 ≤ 9223372036854775807) = true:=decide_eq_true c7;try have c7b2:(9223372036854775807 < ((((⟨#[32]⟩:ByteArray) ++ a0_0) ++ (⟨#[61]⟩:ByteArray)) ++ a0_1).size + 1) = False:=eq_false (Nat.not_lt.2 c7)
      have c7b9_:(9223372036854775807 < 1 + a0_0.size + 1 + a0_1.size + 1) = False:=eq_false (by have h_:=c7;simp only [ByteArray.size_append] at h_;first|omega|(have h1_:∀ b:UInt8,(⟨#[b]⟩:ByteArray).size = 1:=fun _=>rfl;simp only [h1_] at h_;omega));have H':=Aside0.mk H;clear H;go_enter Tryz.func64,Tryz.ntmps64;go_wp2_with (first|((with_reducible refine gate_dst (N:=1) rfl ?_);refine box_event ?hg (N:=1) ?hd (cs:=#[.string a0_0,.string a0_1]) (t:=78) ?hr ?_;(case hd=>rfl);(case hg=>rfl);(case hr=>first|(go_simp;done)|(go_simp;rfl));intro gb101 hg w8 hbox hb;have n0_:=Aside0.mk (below_step (by repeat (first|(with_reducible first|exact HB.out|apply bwA|apply pwbN|apply bw1)|exact HB.out)) hb);have n1_:=Aside0.mk (hbox);have n2_:=Aside0.mk ((by rw [hg];exact (below_size (by repeat (first|(with_reducible first|exact HB.out|apply bwA|apply pwbN|apply bw1)|exact HB.out))):w.heap.size ≤ gb101));have n3_:=Aside0.mk ((by rw [hg];exact (below_size (by repeat (first|(with_reducible first|exact HB.out|apply bwA|apply pwbN|apply bw1)|exact HB.out))):w.heap.size ≤ gb101));clear HB;have HB:=n0_;have BK101:=n1_;have GW101:=n2_;have GE101:=n3_;clear n0_ n1_ n2_ n3_;clear hb hbox hg;obtain ⟨hcz9_0,hcz9_1,hfz9_0,hfz9_1⟩:=blkA2 BK101.out)|((with_reducible refine gate_callee (f:=107) rfl ?_);refine goesL_ (some 8) rfl rfl Tryz.func107 (by kernel_rfl) rfl #[.agg #[.string a0_0,.string a0_1]] rfl (by (try simp only [List.map_toArray,List.map_cons,List.map_nil]);first|done|rfl|(simp only [List.length_drop,List.length_take];rfl)) ?_;(with_reducible refine (record_Check.calls k a0_0 a0_1 t102 _ A2.out).mono ?_);rintro e w10 ⟨rfl,hb⟩;refine ⟨_,rfl,?_⟩;have n0_:=Aside0.mk (blk_below (g:=gb101) (o := .cells #[.string a0_0,.string a0_1] 78 (0,0)) (by (with_reducible repeat (first|refine blk_drewN ?_ _|refine blk_drew ?_|refine blk_alloc ?_ _));exact BK101.out) hb);have n1_:=Aside0.mk (below_step (by repeat (first|(with_reducible first|exact HB.out|apply bwA|apply pwbN|apply bw1|refine below_set ?_ GE101.out)|exact HB.out)) hb);clear BK101;clear HB;have BK101:=n0_;have HB:=n1_;clear n0_ n1_;(try clear hb);(try clear hb2);(try clear hk);(try clear hi);obtain ⟨hcz11_0,hcz11_1,hfz11_0,hfz11_1⟩:=blkA2 BK101.out))
      go_loopg [6] k (fun kq v6 w'=>∃ (x6_1:Int),v6 = .int .i64 x6_1∧Aside0 (record_Write.l0 kq (((((⟨#[32]⟩:ByteArray) ++ a0_0) ++ (⟨#[61]⟩:ByteArray)) ++ a0_1) ++ (⟨#[10]⟩:ByteArray)) x6_1 = some (r1,r2))∧Aside0 (kq ≤ k)∧Aside0 (w'.heap[gb101]? = some (.cells #[.string a0_0,.string a0_1] 78 (0,0)))∧Aside0 (Below w.heap.size w w'))
      case atStart=>exact ⟨(wrap64 (((((((⟨#[32]⟩:ByteArray) ++ a0_0) ++ (⟨#[61]⟩:ByteArray)) ++ a0_1) ++ (⟨#[10]⟩:ByteArray)).size:Int) + 1)),(by first|rfl|(simp;done)|(have h1_:∀ b:UInt8,(⟨#[b]⟩:ByteArray).size = 1:=fun _=>rfl;simp [h1_];done)|(simp [*];done)),H',⟨Nat.le_refl _⟩,⟨by (with_reducible repeat (first|refine blk_drewN ?_ _|refine blk_drew ?_|refine blk_alloc ?_ _));exact BK101.out⟩,⟨by repeat (first|(with_reducible first|exact HB.out|apply bwA|apply pwbN|apply bw1|refine below_set ?_ GE101.out)|exact HB.out)⟩⟩
      case round =>
       clear H';repeat first|clear c3|clear c3b0|clear c3b1|clear c4|clear c4b0|clear c4b1|clear c4b2|clear c5|clear c5b0|clear c5b1|clear c5b2|clear c6|clear c6b0|clear c6b1|clear c6b2|clear c7|clear c7b0|clear c7b1|clear c7b2|clear hcz11_0|clear hcz11_1|clear hcz9_0|clear hcz9_1|clear hfz11_0|clear hfz11_1|clear hfz9_0|clear hfz9_1
       obtain ⟨x6_1,rfl,HA,HK1,BK101,HB⟩:=hrel;cases gk with
       | zero=>exact absurd HA.out (by simp [record_Write.l0])
       | succ k1 =>
        have H:=HA.out;clear HA;simp only [record_Write.l0] at H;replace H:=Option.bind_eq_some_iff.mp H;obtain ⟨t103,A120,H⟩:=H;replace H:(if x6_1 = (wrap64 (((((((⟨#[32]⟩:ByteArray) ++ a0_0) ++ (⟨#[61]⟩:ByteArray)) ++ a0_1) ++ (⟨#[10]⟩:ByteArray)).size:Int) + (t103.size:Int))) then ((strconv_Itoa_76.f x6_1).bind fun t104=>(if t104.size + (((((⟨#[32]⟩:ByteArray) ++ a0_0) ++ (⟨#[61]⟩:ByteArray)) ++ a0_1) ++ (⟨#[10]⟩:ByteArray)).size ≤ 9223372036854775807 then (some (t104 ++ (((((⟨#[32]⟩:ByteArray) ++ a0_0) ++ (⟨#[61]⟩:ByteArray)) ++ a0_1) ++ (⟨#[10]⟩:ByteArray)),0)) else (none))) else (record_Write.l0 k1 (((((⟨#[32]⟩:ByteArray) ++ a0_0) ++ (⟨#[61]⟩:ByteArray)) ++ a0_1) ++ (⟨#[10]⟩:ByteArray)) (wrap64 (x6_1 + 1)))) = some (r1,r2):=H;have A12:=Aside0.mk A120;clear A120;by_cases c13:x6_1 = (wrap64 (((((((⟨#[32]⟩:ByteArray) ++ a0_0) ++ (⟨#[61]⟩:ByteArray)) ++ a0_1) ++ (⟨#[10]⟩:ByteArray)).size:Int) + (t103.size:Int)))
        ·rw [if_pos c13] at H;have c13b0:(x6_1 == (wrap64 (((((((⟨#[32]⟩:ByteArray) ++ a0_0) ++ (⟨#[61]⟩:ByteArray)) ++ a0_1) ++ (⟨#[10]⟩:ByteArray)).size:Int) + (t103.size:Int)))) = true:=beq_iff_eq.mpr c13;have c13b0f:(x6_1 == (wrap64 ((1 + (a0_0.size:Int) + 1 + (a0_1.size:Int) + 1) + (t103.size:Int)))) = true:=by
          have h1_:∀ b:UInt8,(⟨#[b]⟩:ByteArray).size = 1:=fun _=>rfl
          have e_:((((((⟨#[32]⟩:ByteArray) ++ a0_0) ++ (⟨#[61]⟩:ByteArray)) ++ a0_1) ++ (⟨#[10]⟩:ByteArray)).size:Int) = (1 + (a0_0.size:Int) + 1 + (a0_1.size:Int) + 1:Int):=by simp only [ByteArray.size_append,h1_];omega
          rw [← e_];exact c13b0
         have c13b1:(x6_1 != (wrap64 (((((((⟨#[32]⟩:ByteArray) ++ a0_0) ++ (⟨#[61]⟩:ByteArray)) ++ a0_1) ++ (⟨#[10]⟩:ByteArray)).size:Int) + (t103.size:Int)))) = false:=bne_eq_false_iff_eq.mpr c13;have c13b1f:(x6_1 != (wrap64 ((1 + (a0_0.size:Int) + 1 + (a0_1.size:Int) + 1) + (t103.size:Int)))) = false:=by
          have h1_:∀ b:UInt8,(⟨#[b]⟩:ByteArray).size = 1:=fun _=>rfl
          have e_:((((((⟨#[32]⟩:ByteArray) ++ a0_0) ++ (⟨#[61]⟩:ByteArray)) ++ a0_1) ++ (⟨#[10]⟩:ByteArray)).size:Int) = (1 + (a0_0.size:Int) + 1 + (a0_1.size:Int) + 1:Int):=by simp only [ByteArray.size_append,h1_];omega
          rw [← e_];exact c13b1
         clear c13;replace H:=Option.bind_eq_some_iff.mp H;obtain ⟨t104,A140,H⟩:=H;replace H:(if t104.size + (((((⟨#[32]⟩:ByteArray) ++ a0_0) ++ (⟨#[61]⟩:ByteArray)) ++ a0_1) ++ (⟨#[10]⟩:ByteArray)).size ≤ 9223372036854775807 then (some (t104 ++ (((((⟨#[32]⟩:ByteArray) ++ a0_0) ++ (⟨#[61]⟩:ByteArray)) ++ a0_1) ++ (⟨#[10]⟩:ByteArray)),0)) else (none)) = some (r1,r2):=H;have A14:=Aside0.mk A140;clear A140;by_cases c15:t104.size + (((((⟨#[32]⟩:ByteArray) ++ a0_0) ++ (⟨#[61]⟩:ByteArray)) ++ a0_1) ++ (⟨#[10]⟩:ByteArray)).size ≤ 9223372036854775807
         ·rw [if_pos c15] at H;have c15b0:=eq_true c15;have c15b1:decide (t104.size + (((((⟨#[32]⟩:ByteArray) ++ a0_0) ++ (⟨#[61]⟩:ByteArray)) ++ a0_1) ++ (⟨#[10]⟩:ByteArray)).size ≤ 9223372036854775807) = true:=decide_eq_true c15;try have c15b2:(9223372036854775807 < t104.size + (((((⟨#[32]⟩:ByteArray) ++ a0_0) ++ (⟨#[61]⟩:ByteArray)) ++ a0_1) ++ (⟨#[10]⟩:ByteArray)).size) = False:=eq_false (Nat.not_lt.2 c15)
          have c15b9_:(9223372036854775807 < t104.size + 1 + a0_0.size + 1 + a0_1.size + 1) = False:=eq_false (by have h_:=c15;simp only [ByteArray.size_append] at h_;first|omega|(have h1_:∀ b:UInt8,(⟨#[b]⟩:ByteArray).size = 1:=fun _=>rfl;simp only [h1_] at h_;omega));simp only [Option.some.injEq,Prod.mk.injEq] at H;obtain ⟨rfl,rfl⟩:=H;go_wp2_with (first|((with_reducible refine gate_callee (f:=76) rfl ?_);refine goesL_ (some 27) rfl rfl Tryz.func76 (by kernel_rfl) rfl #[.int .i64 x6_1] rfl (by (try simp only [List.map_toArray,List.map_cons,List.map_nil]);first|done|rfl|(simp only [List.length_drop,List.length_take];rfl)) ?_;(with_reducible refine (strconv_Itoa_76.calls x6_1 t103 _ (by first|exact HT0|exact ⟨tab_on HT0.out HB.out⟩|exact ⟨tab_on HT0.out (by repeat (first|(with_reducible first|exact HB.out|apply bwA|apply pwbN|apply bw1)|exact HB.out|exact Below.refl _ _))⟩) A12.out).mono ?_);rintro e w16 ⟨rfl,hb⟩;refine ⟨_,rfl,?_⟩;have n0_:=Aside0.mk (blk_below (g:=gb101) (o := .cells #[.string a0_0,.string a0_1] 78 (0,0)) (by (with_reducible repeat (first|refine blk_drewN ?_ _|refine blk_drew ?_|refine blk_alloc ?_ _));exact BK101.out) hb);have n1_:=Aside0.mk (below_step (by repeat (first|(with_reducible first|exact HB.out|apply bwA|apply pwbN|apply bw1|refine below_set ?_ GE101.out)|exact HB.out)) hb);clear BK101;clear HB;have BK101:=n0_;have HB:=n1_;clear n0_ n1_;(try clear hb);(try clear hb2);(try clear hk);(try clear hi))|((with_reducible refine gate_callee (f:=76) rfl ?_);refine goesL_ (some 34) rfl rfl Tryz.func76 (by kernel_rfl) rfl #[.int .i64 x6_1] rfl (by (try simp only [List.map_toArray,List.map_cons,List.map_nil]);first|done|rfl|(simp only [List.length_drop,List.length_take];rfl)) ?_;(with_reducible refine (strconv_Itoa_76.calls x6_1 t104 _ (by first|exact HT0|exact ⟨tab_on HT0.out HB.out⟩|exact ⟨tab_on HT0.out (by repeat (first|(with_reducible first|exact HB.out|apply bwA|apply pwbN|apply bw1)|exact HB.out|exact Below.refl _ _))⟩) A14.out).mono ?_);rintro e w17 ⟨rfl,hb⟩;refine ⟨_,rfl,?_⟩;have n0_:=Aside0.mk (blk_below (g:=gb101) (o := .cells #[.string a0_0,.string a0_1] 78 (0,0)) (by (with_reducible repeat (first|refine blk_drewN ?_ _|refine blk_drew ?_|refine blk_alloc ?_ _));exact BK101.out) hb);have n1_:=Aside0.mk (below_step (by repeat (first|(with_reducible first|exact HB.out|apply bwA|apply pwbN|apply bw1|refine below_set ?_ GE101.out)|exact HB.out)) hb);clear BK101;clear HB;have BK101:=n0_;have HB:=n1_;clear n0_ n1_;(try clear hb);(try clear hb2);(try clear hk);(try clear hi)))
          go_ret2
          exact ⟨by first|rfl|(simp [errW_none,errW_some] <;> rfl)|(simp [*,errW_none,errW_some] <;> rfl),by repeat (first|(with_reducible first|exact HB.out|apply bwA|apply pwbN|apply bw1|refine below_set ?_ GE101.out)|exact HB.out)⟩
         ·rw [if_neg c15] at H;exact absurd H (by simp)
        ·rw [if_neg c13] at H;have c13b0:(x6_1 == (wrap64 (((((((⟨#[32]⟩:ByteArray) ++ a0_0) ++ (⟨#[61]⟩:ByteArray)) ++ a0_1) ++ (⟨#[10]⟩:ByteArray)).size:Int) + (t103.size:Int)))) = false:=beq_eq_false_iff_ne.mpr c13;have c13b0f:(x6_1 == (wrap64 ((1 + (a0_0.size:Int) + 1 + (a0_1.size:Int) + 1) + (t103.size:Int)))) = false:=by
          have h1_:∀ b:UInt8,(⟨#[b]⟩:ByteArray).size = 1:=fun _=>rfl
          have e_:((((((⟨#[32]⟩:ByteArray) ++ a0_0) ++ (⟨#[61]⟩:ByteArray)) ++ a0_1) ++ (⟨#[10]⟩:ByteArray)).size:Int) = (1 + (a0_0.size:Int) + 1 + (a0_1.size:Int) + 1:Int):=by simp only [ByteArray.size_append,h1_];omega
          rw [← e_];exact c13b0
         have c13b1:(x6_1 != (wrap64 (((((((⟨#[32]⟩:ByteArray) ++ a0_0) ++ (⟨#[61]⟩:ByteArray)) ++ a0_1) ++ (⟨#[10]⟩:ByteArray)).size:Int) + (t103.size:Int)))) = true:=bne_iff_ne.mpr c13;have c13b1f:(x6_1 != (wrap64 ((1 + (a0_0.size:Int) + 1 + (a0_1.size:Int) + 1) + (t103.size:Int)))) = true:=by
          have h1_:∀ b:UInt8,(⟨#[b]⟩:ByteArray).size = 1:=fun _=>rfl
          have e_:((((((⟨#[32]⟩:ByteArray) ++ a0_0) ++ (⟨#[61]⟩:ByteArray)) ++ a0_1) ++ (⟨#[10]⟩:ByteArray)).size:Int) = (1 + (a0_0.size:Int) + 1 + (a0_1.size:Int) + 1:Int):=by simp only [ByteArray.size_append,h1_];omega
          rw [← e_];exact c13b1
         have H':=Aside0.mk H;clear H;go_wp2_with (first|((with_reducible refine gate_callee (f:=76) rfl ?_);refine goesL_ (some 27) rfl rfl Tryz.func76 (by kernel_rfl) rfl #[.int .i64 x6_1] rfl (by (try simp only [List.map_toArray,List.map_cons,List.map_nil]);first|done|rfl|(simp only [List.length_drop,List.length_take];rfl)) ?_;(with_reducible refine (strconv_Itoa_76.calls x6_1 t103 _ (by first|exact HT0|exact ⟨tab_on HT0.out HB.out⟩|exact ⟨tab_on HT0.out (by repeat (first|(with_reducible first|exact HB.out|apply bwA|apply pwbN|apply bw1)|exact HB.out|exact Below.refl _ _))⟩) A12.out).mono ?_);rintro e w18 ⟨rfl,hb⟩;refine ⟨_,rfl,?_⟩;have n0_:=Aside0.mk (blk_below (g:=gb101) (o := .cells #[.string a0_0,.string a0_1] 78 (0,0)) (by (with_reducible repeat (first|refine blk_drewN ?_ _|refine blk_drew ?_|refine blk_alloc ?_ _));exact BK101.out) hb);have n1_:=Aside0.mk (below_step (by repeat (first|(with_reducible first|exact HB.out|apply bwA|apply pwbN|apply bw1|refine below_set ?_ GE101.out)|exact HB.out)) hb);clear BK101;clear HB;have BK101:=n0_;have HB:=n1_;clear n0_ n1_;(try clear hb);(try clear hb2);(try clear hk);(try clear hi)))
         go_roundg k1
         case measure=>have:=HK1.out;omega
         case rel=>exact ⟨(wrap64 (x6_1 + 1)),(by first|rfl|(simp;done)|(have h1_:∀ b:UInt8,(⟨#[b]⟩:ByteArray).size = 1:=fun _=>rfl;simp [h1_];done)|(simp [*];done)),H',⟨by have:=HK1.out;omega⟩,⟨by (with_reducible repeat (first|refine blk_drewN ?_ _|refine blk_drew ?_|refine blk_alloc ?_ _));exact BK101.out⟩,⟨by repeat (first|(with_reducible first|exact HB.out|apply bwA|apply pwbN|apply bw1|refine below_set ?_ GE101.out)|exact HB.out)⟩⟩
     ·rw [if_neg c7] at H;exact absurd H (by simp)
    ·rw [if_neg c6] at H;exact absurd H (by simp)
   ·rw [if_neg c5] at H;exact absurd H (by simp)
  ·rw [if_neg c4] at H;exact absurd H (by simp)
 ·rw [if_neg c3] at H;have c3b0:(t102 == 0) = false:=beq_eq_false_iff_ne.mpr c3;have c3b1:(t102 != 0) = true:=bne_iff_ne.mpr c3;simp only [Option.some.injEq,Prod.mk.injEq] at H;obtain ⟨rfl,rfl⟩:=H;go_enter Tryz.func64,Tryz.ntmps64;go_wp2_with (first|((with_reducible refine gate_dst (N:=1) rfl ?_);refine box_event ?hg (N:=1) ?hd (cs:=#[.string a0_0,.string a0_1]) (t:=78) ?hr ?_;(case hd=>rfl);(case hg=>rfl);(case hr=>first|(go_simp;done)|(go_simp;rfl));intro gb101 hg w19 hbox hb;have n0_:=Aside0.mk (below_step (by repeat (first|(with_reducible first|exact HB.out|apply bwA|apply pwbN|apply bw1)|exact HB.out)) hb);have n1_:=Aside0.mk (hbox);have n2_:=Aside0.mk ((by rw [hg];exact (below_size (by repeat (first|(with_reducible first|exact HB.out|apply bwA|apply pwbN|apply bw1)|exact HB.out))):w.heap.size ≤ gb101));have n3_:=Aside0.mk ((by rw [hg];exact (below_size (by repeat (first|(with_reducible first|exact HB.out|apply bwA|apply pwbN|apply bw1)|exact HB.out))):w.heap.size ≤ gb101));clear HB;have HB:=n0_;have BK101:=n1_;have GW101:=n2_;have GE101:=n3_;clear n0_ n1_ n2_ n3_;clear hb hbox hg;obtain ⟨_,_,_,_⟩:=blkA2 BK101.out)|((with_reducible refine gate_callee (f:=107) rfl ?_);refine goesL_ (some 8) rfl rfl Tryz.func107 (by kernel_rfl) rfl #[.agg #[.string a0_0,.string a0_1]] rfl (by (try simp only [List.map_toArray,List.map_cons,List.map_nil]);first|done|rfl|(simp only [List.length_drop,List.length_take];rfl)) ?_;(with_reducible refine (record_Check.calls k a0_0 a0_1 t102 _ A2.out).mono ?_);rintro e w21 ⟨rfl,hb⟩;refine ⟨_,rfl,?_⟩;have n0_:=Aside0.mk (blk_below (g:=gb101) (o := .cells #[.string a0_0,.string a0_1] 78 (0,0)) (by (with_reducible repeat (first|refine blk_drewN ?_ _|refine blk_drew ?_|refine blk_alloc ?_ _));exact BK101.out) hb);have n1_:=Aside0.mk (below_step (by repeat (first|(with_reducible first|exact HB.out|apply bwA|apply pwbN|apply bw1|refine below_set ?_ GE101.out)|exact HB.out)) hb);clear BK101;clear HB;have BK101:=n0_;have HB:=n1_;clear n0_ n1_;(try clear hb);(try clear hb2);(try clear hk);(try clear hi)))
  go_ret2
  exact ⟨by first|rfl|(simp [errW_none,errW_some] <;> rfl)|(simp [*,errW_none,errW_some] <;> rfl),by repeat (first|(with_reducible first|exact HB.out|apply bwA|apply pwbN|apply bw1|refine below_set ?_ GE101.out)|exact HB.out)⟩
theorem pax_Write.sizeB:(Tryz.prog.info? 104).map (·.size) = some 2:=by kernel_rfl
theorem pax_Write.liesB:liesAt Tryz.prog Tryz.prog.depth 104 (2 / Tryz.prog.cellsOf 104) 0 104 1 = true:=by kernel_rfl
theorem pax_Write.infoB:(Tryz.prog.info? 5).map (fun i=>(i.zero,i.size,i.bytes)) = some (some (.int .u8 0),1,1):=by kernel_rfl
set_option maxHeartbeats 1000000 in
set_option maxRecDepth 100000 in
theorem pax_Write.copy_used (b:Nat) (w:World) (h0:w.cell? ⟨b,0,none⟩ = some (.pointer (some ⟨b,0,none⟩))) :
 Calls Tryz.prog 108 #[.pointer (some ⟨b,0,none⟩)] w fun e w'=>e = .returned (.tuple #[])∧w' = w:=by
 obtain ⟨j,hj,_⟩:=Option.map_eq_some_iff.1 pax_Write.sizeB;go_enter Tryz.func108,Tryz.ntmps108;go_wp2;rw [Lib.run_neq_ptr_same w _ Tryz.underlying102 hj];go_wp2;go_end0
 exact ⟨rfl,rfl⟩
set_option maxHeartbeats 1000000 in
set_option maxRecDepth 100000 in
theorem pax_Write.copy_fresh (b:Nat) (w:World) (h0:w.cell? ⟨b,0,none⟩ = some (.pointer none)) (hsh:w.shape? b = some (104,2)) (hfz:w.frozen? ⟨b,0,none⟩ = false) :
 Calls Tryz.prog 108 #[.pointer (some ⟨b,0,none⟩)] w fun e w'=>e = .returned (.tuple #[])∧w' = w.setCell ⟨b,0,none⟩ (.pointer (some ⟨b,0,none⟩)):=by
 obtain ⟨j,hj,hjs⟩:=Option.map_eq_some_iff.1 pax_Write.sizeB;go_enter Tryz.func108,Tryz.ntmps108;go_wp2;rw [Lib.run_to_unsafe w ⟨b,0,none⟩ Tryz.underlying102 Tryz.underlying181 hj (by rw [hjs];decide) hsh (Nat.zero_lt_succ 1)];simp only [Result.andThen];rw [Oper.upon_value];go_wp2;rw [run_callFunc_extern Tryz.func158 (by kernel_rfl) (by kernel_rfl) (by kernel_rfl) (e:=Extern.AbiNoEscape.same) (by kernel_rfl)];rw [Lib.run_noEscape];simp only [Result.andThen];rw [Oper.upon_value];go_wp2;rw [Lib.run_from_unsafe w ⟨b,0,none⟩ Tryz.underlying181 Tryz.underlying102 hj hsh pax_Write.liesB];simp only [Result.andThen];rw [Oper.upon_value];go_wp2;go_end0
 exact ⟨rfl,rfl⟩
theorem pax_Write.copy (B b:Nat) (bs:List Value) (w:World) (h:Lib.IsBuilder 104 5 B b bs w) :
 Calls Tryz.prog 108 #[.pointer (some ⟨b,0,none⟩)] w fun e w'=>e = .returned (.tuple #[])∧(Lib.BuilderAt 104 5 B b (.pointer (some ⟨b,0,none⟩)) bs w'∧Below B w w'):=by
 rcases h with h|h
 ·refine (pax_Write.copy_fresh b w h.cell0 h.shape h.frozen0).mono ?_;rintro e w' ⟨rfl,rfl⟩;exact ⟨rfl,h.used _,(Below.refl B w).setCell (p:=⟨b,0,none⟩) h.1 _⟩
 ·refine (pax_Write.copy_used b w h.cell0).mono ?_;rintro e w' ⟨rfl,rfl⟩;exact ⟨rfl,h,Below.refl B _⟩
set_option maxHeartbeats 2000000 in
set_option maxRecDepth 100000 in
theorem pax_Write.writeString (B b:Nat) (bs:List Value) (s:ByteArray) (w:World) (h:Lib.IsBuilder 104 5 B b bs w) (hlen:bs.length + s.size ≤ 140737488355328) (hBw:B ≤ w.heap.size) :
 Calls Tryz.prog 65 #[.pointer (some ⟨b,0,none⟩),.string s] w fun e w'=>e = .returned (.tuple #[.int .i64 s.size,.nilIface])∧(Lib.BuilderAt 104 5 B b (.pointer (some ⟨b,0,none⟩)) (bs ++ Lib.strCells s) w'∧Below B w w'):=by
 obtain ⟨i0,hi,hz0,hz1,hz2⟩:=info_parts pax_Write.infoB;go_enter Tryz.func65,Tryz.ntmps65;go_wp2_with (go_at_call 108;refine (pax_Write.copy B b bs _ h).mono ?_)
 rintro e w1 ⟨rfl,h1,hb1⟩;obtain ⟨hB,v,hbk,hown,hne⟩:=h1;have c0:w1.cell? ⟨b,0,none⟩ = some (.pointer (some ⟨b,0,none⟩)):=by rw [Lib.cell_of_heap hbk];rfl
 have c1:w1.cell? ⟨b,1,none⟩ = some v:=by rw [Lib.cell_of_heap hbk];rfl
 go_wp2_with (at_builtin;refine Lib.wpList_append_own_string _ rfl _ _ 24 9 rfl B 5 i0 Tryz.underlying24 Tryz.underlying9 hi hz0 hz1 hz2 _ _ _ rfl hown s rfl ?c3 ?c4 ?c5 ?_)
 case c3=>unfold maxLen;omega
 case c4=>omega
 case c5=>have:=hb1.size;omega
 intro v' w2 hown' hgrow _;have hlt:b < w1.heap.size:=by
  rcases Nat.lt_or_ge b w1.heap.size with h'|h'
  ·exact h'
  ·simp [Array.getElem?_eq_none h'] at hbk
 have hb2:w2.heap[b]? = some (.cells #[.pointer (some ⟨b,0,none⟩),v] 104 (0,0)):=by
  rw [hgrow.block b hlt (fun e=>hne e.symm)];exact hbk
 have d0:w2.cell? ⟨b,0,none⟩ = some (.pointer (some ⟨b,0,none⟩)):=by rw [Lib.cell_of_heap hb2];rfl
 have d1:w2.cell? ⟨b,1,none⟩ = some v:=by rw [Lib.cell_of_heap hb2];rfl
 have f1:w2.frozen? ⟨b,1,none⟩ = false:=Lib.frozen_of_heap hb2 1;obtain ⟨ao,n',cap,rfl⟩:∃ ao n' cap,v' = .slice ao n' cap:=by
  rcases hown'.2 with ⟨hv,_⟩|⟨g,cap,cur,hv,_⟩
  ·exact ⟨_,_,_,hv⟩
  ·exact ⟨_,_,_,hv⟩
 go_wp2;go_ret2
 refine ⟨rfl,?_,?_⟩
 ·exact Lib.BuilderAt.put (T:=104) (e:=5) hB hb2 (bs':=bs ++ Lib.strCells s) (by simpa [Lib.strCells_length] using hown') (by decide)
 ·exact (hb1.grown hgrow (by have:=hb1.size;omega) (fun k hk=>(hown.lt k hk).1)).setCell (p:=⟨b,1,none⟩) hB _
def pax_Write.l0:Nat→List (S78)→ByteArray→Int→Option (ByteArray × Int)
 | 0,_,_,_=>none
 | k + 1,l,acc,i=>if i < (l.length:Int) then (if 0 ≤ i then ((record_Write.f k ((rd_T78 l i).f0) ((rd_T78 l i).f1)).bind fun r=>if acc.size + r.1.size ≤ 140737488355328 then pax_Write.l0 k l (acc ++ r.1) (wrap64 (i + 1)) else none) else none) else some (acc,0)
def pax_Write.f (k:Nat) (l0:List (S78)):Option (ByteArray × Int):=(pax_Check.f k l0).bind fun e=>if e = 0 then pax_Write.l0 k l0 (⟨#[]⟩:ByteArray) 0 else some ((⟨#[]⟩:ByteArray),e)
theorem pax_Write.mono_l:∀ k,(∀ y0 y1 y2,LeO (pax_Write.l0 k y0 y1 y2) (pax_Write.l0 (k + 1) y0 y1 y2))
 | 0=>fun _ _ _ r h=>by simp [pax_Write.l0] at h
 | k + 1=>by
  have ih0:=pax_Write.mono_l k
  intro y0 y1 y2
  unfold pax_Write.l0
  repeat' first
   | (with_reducible exact ih0 _ _ _)
   | (with_reducible exact LeO.refl _)
   | (with_reducible exact LeO.none _)
   | (with_reducible refine LeO.ite ?_ ?_)
   | (with_reducible refine LeO.bind ?_ (fun _=>?_))
   | exact ih0 _ _ _
   | exact record_Write.mono _ _ _
   | exact LeO.none _
   | refine LeO.ite ?_ ?_
   | refine LeO.bind ?_ (fun _=>?_)
theorem pax_Write.mono:∀ a0 k,LeO (pax_Write.f k a0) (pax_Write.f (k + 1) a0):=by
 intro a0 k;have ih0:=pax_Write.mono_l k;unfold pax_Write.f;repeat' first
  | (with_reducible exact ih0 _ _ _)
  | (with_reducible exact LeO.refl _)
  | (with_reducible exact LeO.none _)
  | (with_reducible refine LeO.ite ?_ ?_)
  | (with_reducible refine LeO.bind ?_ (fun _=>?_))
  | exact ih0 _ _ _
  | exact pax_Check.mono _ _
  | exact LeO.none _
  | refine LeO.ite ?_ ?_
  | refine LeO.bind ?_ (fun _=>?_)
theorem pax_Write.keep {B b:Nat} {bs:List Value} {w w':World} (h:Lib.IsBuilder 104 5 B b bs w) (hb:Below w.heap.size w w'):Lib.IsBuilder 104 5 B b bs w':=by
 rcases h with h|h
 ·have hlt:=h.lt;obtain ⟨hB,v,hbk,hown,hne⟩:=h;exact Or.inl ⟨hB,v,(hb.block b hlt).trans hbk,hown.kept (row:=none) ⟨hb.os,hb.tape,hb.output,hb.size,fun k hk _=>hb.block k hk⟩ (by cases hv:v.ownBlock <;> simp),hne⟩
 ·have hlt:=h.lt;obtain ⟨hB,v,hbk,hown,hne⟩:=h;exact Or.inr ⟨hB,v,(hb.block b hlt).trans hbk,hown.kept (row:=none) ⟨hb.os,hb.tape,hb.output,hb.size,fun k hk _=>hb.block k hk⟩ (by cases hv:v.ownBlock <;> simp),hne⟩
set_option maxHeartbeats 8000000 in
set_option maxRecDepth 100000 in
theorem pax_Write.calls (k:Nat) (A0:Option Addr) (c0:Nat) (l0:List (S78)) (r1:ByteArray) (r2:Int) (w:World) (hr0:Kd.C k78 w A0 l0.length l0) (hc0:l0.length ≤ c0) (HT0:Aside0 (Tab w)) (h:pax_Write.f k l0 = some (r1,r2)) :
 Calls Tryz.prog 28 #[.slice A0 l0.length c0] w fun e w'=>e = .returned (.tuple #[.string r1,.int .i64 r2])∧Below w.heap.size w w':=by
 have hu78:=Tryz.underlying78;have HR0:=Aside0.mk hr0;have HC0:=Aside0.mk hc0;clear hr0 hc0;have HB:=Aside0.mk (Below.refl w.heap.size w);have H:=Option.bind_eq_some_iff.mp (show ((pax_Check.f k l0).bind fun e=>if e = 0 then pax_Write.l0 k l0 (⟨#[]⟩:ByteArray) 0 else some ((⟨#[]⟩:ByteArray),e)) = some (r1,r2) from h);clear h;obtain ⟨e0,A20,H⟩:=H;have A2:=Aside0.mk A20;clear A20;go_enter Tryz.func28,Tryz.ntmps28;by_cases c3:e0 = 0
 ·rw [if_pos c3] at H;have c3b0:(e0 == 0) = true:=beq_iff_eq.mpr c3;have c3b1:(e0 != 0) = false:=bne_eq_false_iff_eq.mpr c3;clear c3;have H':=Aside0.mk H;clear H;go_wp2_with (first|(go_at_call 63;refine (pax_Check.calls k A0 c0 l0 e0 _ HR0.out HC0.out A2.out).mono ?_;rintro e w1 ⟨rfl,hb1⟩;have HB1:=Aside0.mk hb1;clear hb1 HB;have HB:=HB1;clear HB1)|((with_reducible refine gate_dst (N:=5) rfl ?_);refine box_event ?hg (N:=5) ?hd (cs:=#[.pointer none,.slice none 0 0]) (t:=104) ?hr ?_;(case hd=>rfl);(case hg=>rfl);(case hr=>first|(go_simp;done)|(go_simp;rfl));intro gb hg w2 hbox hb2;have HK:=Aside0.mk hbox;have HG:=Aside0.mk hg;have HB2:=Aside0.mk hb2;clear hbox hg hb2))
  have HI:Aside0 (Lib.IsBuilder 104 5 w.heap.size gb (Lib.strCells ⟨#[]⟩) _):=⟨Or.inl ⟨by rw [HG.out];exact HB.out.size,.slice none 0 0,HK.out,⟨rfl,Or.inl ⟨rfl,rfl⟩⟩,by simp [Value.ownBlock]⟩⟩
  have HB3:=Aside0.mk (below_step HB.out HB2.out);clear HB HB2 HK HG;have HB:=HB3;clear HB3;go_loopg [17] k (fun kq v17 wx=>∃ (acc:ByteArray) (i:Int),v17 = .int .i64 i∧Aside0 (pax_Write.l0 kq l0 acc i = some (r1,r2))∧Aside0 (kq ≤ k)∧Aside0 (Lib.IsBuilder 104 5 w.heap.size gb (Lib.strCells acc) wx)∧Aside0 (Below w.heap.size w wx))
  case atStart=>exact ⟨⟨#[]⟩,0,rfl,H',⟨Nat.le_refl _⟩,HI,HB⟩
  case round =>
   clear H' HI HB;obtain ⟨acc,i,rfl,HA,HK1,HI,HB⟩:=hrel;cases gk with
   | zero=>exact absurd HA.out (by simp [pax_Write.l0])
   | succ k1 =>
    have H:=HA.out;clear HA;simp only [pax_Write.l0] at H;by_cases c4:i < (l0.length:Int)
    ·rw [if_pos c4] at H;have c4b0:decide (i < (l0.length:Int)) = true:=decide_eq_true c4;by_cases c5:0 ≤ i
     ·rw [if_pos c5] at H;replace H:=Option.bind_eq_some_iff.mp H;obtain ⟨⟨s,e1⟩,A60,H⟩:=H;have A6:=Aside0.mk A60;clear A60;by_cases c6:acc.size + s.size ≤ 140737488355328
      ·replace H:(if acc.size + s.size ≤ 140737488355328 then pax_Write.l0 k1 l0 (acc ++ s) (wrap64 (i + 1)) else none) = some (r1,r2):=H;rw [if_pos c6] at H;have H':=Aside0.mk H;have C6:=Aside0.mk c6;clear H c6;obtain ⟨ad,ea,hx0,hx1⟩:=at_T78 HR0.out i c5 c4;cases ea;replace hx0:=(HB.out.cell (World.block_lt_of_cell? w _ hx0)).trans hx0;replace hx1:=(HB.out.cell (World.block_lt_of_cell? w _ hx1)).trans hx1;replace c5:=eq_true c5;replace c4:=eq_true c4;go_wp2_with (first|((with_reducible refine gate_dst (N:=7) rfl ?_);refine box_event ?hg (N:=7) ?hd (cs:=#[.string (⟨#[]⟩:ByteArray),.string (⟨#[]⟩:ByteArray)]) (t:=78) ?hr ?_;(case hd=>rfl);(case hg=>rfl);(case hr=>first|(go_simp;done)|(go_simp;rfl));intro gb2 hg w2 hbox hb2;have HK2:=Aside0.mk hbox;have HG2:=Aside0.mk hg;have HB2:=Aside0.mk hb2;have hcz0:w2.cell? ⟨gb2,0,none⟩ = some (.string (⟨#[]⟩:ByteArray)):=(blk_cell HK2.out 0).trans rfl;have hcz1:w2.cell? ⟨gb2,1,none⟩ = some (.string (⟨#[]⟩:ByteArray)):=(blk_cell HK2.out 1).trans rfl;have hfz0:=blkF HK2.out 0;have hfz1:=blkF HK2.out 1;have GE2:=Aside0.mk (show w.heap.size ≤ gb2 by rw [HG2.out];exact HB.out.size);have HG2':=Aside0.mk (Nat.le_of_eq HG2.out.symm);clear hbox hg hb2)|(go_at_call 64;refine (record_Write.calls k1 _ _ s e1 _ ⟨tab_on HT0.out (by repeat (first|(with_reducible first|exact (below_step HB.out HB2.out)|apply bwA|apply pwbN|apply bw1|refine below_set ?_ GE2.out)|exact (below_step HB.out HB2.out)))⟩ A6.out).mono ?_;rintro e w3 ⟨rfl,hb3⟩;have HB3:=Aside0.mk (below_step (by repeat (first|(with_reducible first|exact (below_step HB.out HB2.out)|apply bwA|apply pwbN|apply bw1|refine below_set ?_ GE2.out)|exact (below_step HB.out HB2.out))) hb3);have HI3:=Aside0.mk (pax_Write.keep HI.out (below_step (by repeat (first|(with_reducible first|exact HB2.out|apply bwA|apply pwbN|apply bw1|refine below_set ?_ HG2'.out)|exact HB2.out)) hb3));clear hb3)|(go_at_call 65;refine (pax_Write.writeString w.heap.size gb (Lib.strCells acc) s _ HI3.out (by rw [Lib.strCells_length];exact C6.out) HB3.out.size).mono ?_;rintro e w4 ⟨rfl,hat,hb4⟩;have HI4:=Aside0.mk hat;have HB4:=Aside0.mk (HB3.out.trans hb4);clear hat hb4))
       go_roundg k1
       case measure=>have:=HK1.out;omega
       case rel=>exact ⟨acc ++ s,wrap64 (i + 1),rfl,H',⟨by have:=HK1.out;omega⟩,⟨Or.inr (by rw [show Lib.strCells (acc ++ s) = Lib.strCells acc ++ Lib.strCells s from by simp [Lib.strCells]];exact HI4.out)⟩,HB4⟩
      ·replace H:(if acc.size + s.size ≤ 140737488355328 then pax_Write.l0 k1 l0 (acc ++ s) (wrap64 (i + 1)) else none) = some (r1,r2):=H;rw [if_neg c6] at H;exact absurd H (by simp)
     ·rw [if_neg c5] at H;exact absurd H (by simp)
    ·rw [if_neg c4] at H;simp only [Option.some.injEq,Prod.mk.injEq] at H;obtain ⟨rfl,rfl⟩:=H;have c4b0:decide (i < (l0.length:Int)) = false:=decide_eq_false c4;clear c4;go_wp2_with (go_at_call 66;refine (Tryz.Builder_String_any w.heap.size gb acc.data.toList _ HI.out HB.out.size).mono ?_;rintro e w5 ⟨he,hb5⟩;rw [show (⟨acc.data.toList.toArray⟩:ByteArray) = acc from by simp] at he;subst he;have HB5:=Aside0.mk hb5;clear hb5)
     go_ret2
     exact ⟨rfl,HB.out.trans HB5.out⟩
 ·rw [if_neg c3] at H;simp only [Option.some.injEq,Prod.mk.injEq] at H;obtain ⟨rfl,rfl⟩:=H;have c3b0:(e0 == 0) = false:=beq_eq_false_iff_ne.mpr c3;have c3b1:(e0 != 0) = true:=bne_iff_ne.mpr c3;clear c3;go_wp2_with (go_at_call 63;refine (pax_Check.calls k A0 c0 l0 e0 _ HR0.out HC0.out A2.out).mono ?_;rintro e w1 ⟨rfl,hb1⟩;have HB1:=Aside0.mk hb1;clear hb1)
  go_ret2
  exact ⟨rfl,HB1.out⟩
end Go.Proofs.YtenbelecmmpdgaaGreatDoor.All
end
section
namespace Go.Proofs.YtenbelecmmpdgaaGreatDoor.All
open Go.RowKit Go.Proofs.YtenbelecmmpdgaaGreatDoorW.PrintWords Go.Proofs.YtenbelecmmpdgaaGreatDoorW.PrintLast Go.Proofs.YtenbelecmmpdgaaGreatDoorW.PrintMore
open Go.Proofs.YtenbelecmmpdgaaGreatDoorW.Mine
attribute [local go_sem] gtr_string leq_string geq_string
attribute [local go_sem] max2_int min2_int max_two min_two max_three min_three max_four min_four
set_option linter.unusedVariables false
set_option linter.unusedSimpArgs false
mutual
def field_Write.j0:Nat→ByteArray→Int→Bool→Bool→Option (ByteArray × Int)
 | 0,_,_,_,_=>none
 | k + 1,x0,x1,x2,x14=>if x14 = true then (some ((⟨#[]⟩:ByteArray),4)) else (if x2 = true then (field_Write.j1 k x0 x1 x1) else (field_Write.j1 k x0 x1 (wrap64 (x1 - 1))))
def field_Write.j1:Nat→ByteArray→Int→Int→Option (ByteArray × Int)
 | 0,_,_,_=>none
 | k + 1,x0,x1,x8=>if (x0.size:Int) > x8 then (some ((⟨#[]⟩:ByteArray),1)) else ((strings_IndexByte.f x0 0).bind fun t101=>(if t101 ≥ 0 then (some ((⟨#[]⟩:ByteArray),3)) else ((strings_Repeat.f (⟨#[0]⟩:ByteArray) (wrap64 (x1 - (x0.size:Int)))).bind fun t102=>(if x0.size + t102.size ≤ 9223372036854775807 then (some (x0 ++ t102,0)) else (none)))))
end
def field_Write.f (k:Nat) (a0:ByteArray) (a1:Int) (a2:Bool):Option (ByteArray × Int):=if a1 < 1 then (field_Write.j0 k a0 a1 a2 true) else (field_Write.j0 k a0 a1 a2 (decide (a1 > 512)))
set_option maxHeartbeats 8000000 in
set_option maxRecDepth 100000 in
theorem field_Write.calls (k:Nat) (a0:ByteArray) (a1:Int) (a2:Bool) (r1:ByteArray) (r2:Int) (w:World) (h:field_Write.f k a0 a1 a2 = some (r1,r2)) :
 Calls Tryz.prog 68 #[.string a0,.int .i64 a1,.bool a2] w fun e w'=>e = .returned (.tuple #[.string r1,.int .i64 r2])∧Below w.heap.size w w':=by
 have HB:=Aside0.mk (Below.refl w.heap.size w);have H:(if a1 < 1 then (field_Write.j0 k a0 a1 a2 true) else (field_Write.j0 k a0 a1 a2 (decide (a1 > 512)))) = some (r1,r2):=h;clear h;have HC4:=Aside0.mk H;clear H;go_enter Tryz.func68,Tryz.ntmps68;go_upto_region 1 with (fail)
 go_cut [14] (fun v14 wc=>∃ (kq:Nat) (x14_3:Bool),v14 = .bool x14_3∧Aside0 (field_Write.j0 kq a0 a1 a2 x14_3 = some (r1,r2))∧Aside0 (kq ≤ k)∧Aside0 (Below w.heap.size w wc))
 case first =>
  have H:=HC4.out;clear HC4;by_cases c5:a1 < 1
  ·rw [if_pos c5] at H;have c5b0:decide (a1 < 1) = true:=decide_eq_true c5;clear c5;(first|rw [c5b0]|(simp only [i64_w,i32_w];rw [c5b0])|skip);have H':=Aside0.mk H;clear H;go_wp2;go_meet
   case rel=>exact ⟨_,(true),(by first|rfl|(simp;done)|(simp [*];done)),H',⟨by first|omega|exact Nat.le_refl _⟩,⟨by repeat (first|(with_reducible first|exact HB.out|apply bwA|apply pwbN|apply bw1)|exact HB.out)⟩⟩
  ·rw [if_neg c5] at H;have c5b0:decide (a1 < 1) = false:=decide_eq_false c5;clear c5;(first|rw [c5b0]|(simp only [i64_w,i32_w];rw [c5b0])|skip);have H':=Aside0.mk H;clear H;go_wp2;go_meet
   case rel=>exact ⟨_,(decide (a1 > 512)),(by first|rfl|(simp;done)|(simp [*];done)),H',⟨by first|omega|exact Nat.le_refl _⟩,⟨by repeat (first|(with_reducible first|exact HB.out|apply bwA|apply pwbN|apply bw1)|exact HB.out)⟩⟩
 case rest =>
  clear HC4;obtain ⟨kq,x14_3,rfl,HA,HJ3,HB⟩:=hcut;cases kq with
  | zero=>exact absurd HA.out (by simp [field_Write.j0])
  | succ kj3 =>
   have H:=HA.out;clear HA;simp only [field_Write.j0] at H;by_cases c6:x14_3 = true
   ·subst c6;have H1:(some ((⟨#[]⟩:ByteArray),4)) = some (r1,r2):=by rw [if_pos rfl] at H;exact H
    clear H;have H:=H1;clear H1;simp only [Option.some.injEq,Prod.mk.injEq] at H;obtain ⟨rfl,rfl⟩:=H;go_wp2;go_ret2
    exact ⟨by first|rfl|(simp [errW_none,errW_some] <;> rfl)|(simp [*,errW_none,errW_some] <;> rfl),by repeat (first|(with_reducible first|exact HB.out|apply bwA|apply pwbN|apply bw1)|exact HB.out)⟩
   ·replace c6:=Bool.eq_false_iff.mpr c6;subst c6;have H1:(if a2 = true then (field_Write.j1 kj3 a0 a1 a1) else (field_Write.j1 kj3 a0 a1 (wrap64 (a1 - 1)))) = some (r1,r2):=by rw [if_neg (show ¬ (false = true) by decide)] at H;exact H
    clear H;have H:=H1;clear H1;have HC7:=Aside0.mk H;clear H;go_upto_if 17 with (fail)
    go_cut [8] (fun v8 wc=>∃ (kq:Nat) (x8_6:Int),v8 = .int .i64 x8_6∧Aside0 (field_Write.j1 kq a0 a1 x8_6 = some (r1,r2))∧Aside0 (kq ≤ kj3)∧Aside0 (Below w.heap.size w wc))
    case first =>
     have H:=HC7.out;clear HC7;by_cases c8:a2 = true
     ·subst c8;have H1:(field_Write.j1 kj3 a0 a1 a1) = some (r1,r2):=by rw [if_pos rfl] at H;exact H
      clear H;have H:=H1;clear H1;have H':=Aside0.mk H;clear H;go_wp2;go_meet
      case rel=>exact ⟨_,(a1),(by first|rfl|(simp;done)|(simp [*];done)),H',⟨by have:=HJ3.out;first|omega|exact Nat.le_refl _⟩,⟨by repeat (first|(with_reducible first|exact HB.out|apply bwA|apply pwbN|apply bw1)|exact HB.out)⟩⟩
     ·replace c8:=Bool.eq_false_iff.mpr c8;subst c8;have H1:(field_Write.j1 kj3 a0 a1 (wrap64 (a1 - 1))) = some (r1,r2):=by rw [if_neg (show ¬ (false = true) by decide)] at H;exact H
      clear H;have H:=H1;clear H1;have H':=Aside0.mk H;clear H;go_wp2;go_meet
      case rel=>exact ⟨_,(wrap64 (a1 - 1)),(by first|rfl|(simp;done)|(simp [*];done)),H',⟨by have:=HJ3.out;first|omega|exact Nat.le_refl _⟩,⟨by repeat (first|(with_reducible first|exact HB.out|apply bwA|apply pwbN|apply bw1)|exact HB.out)⟩⟩
    case rest =>
     clear HC7;try clear c6
     obtain ⟨kq,x8_6,rfl,HA,HJ6,HB⟩:=hcut;cases kq with
     | zero=>exact absurd HA.out (by simp [field_Write.j1])
     | succ kj6 =>
      have H:=HA.out;clear HA;simp only [field_Write.j1] at H;by_cases c9:(a0.size:Int) > x8_6
      ·rw [if_pos c9] at H;have c9b0:decide (x8_6 < (a0.size:Int)) = true:=decide_eq_true c9;clear c9;simp only [Option.some.injEq,Prod.mk.injEq] at H;obtain ⟨rfl,rfl⟩:=H;go_wp2;go_ret2
       exact ⟨by first|rfl|(simp [errW_none,errW_some] <;> rfl)|(simp [*,errW_none,errW_some] <;> rfl),by repeat (first|(with_reducible first|exact HB.out|apply bwA|apply pwbN|apply bw1)|exact HB.out)⟩
      ·rw [if_neg c9] at H;have c9b0:decide (x8_6 < (a0.size:Int)) = false:=decide_eq_false c9;clear c9;replace H:=Option.bind_eq_some_iff.mp H;obtain ⟨t101,A100,H⟩:=H;replace H:(if t101 ≥ 0 then (some ((⟨#[]⟩:ByteArray),3)) else ((strings_Repeat.f (⟨#[0]⟩:ByteArray) (wrap64 (a1 - (a0.size:Int)))).bind fun t102=>(if a0.size + t102.size ≤ 9223372036854775807 then (some (a0 ++ t102,0)) else (none)))) = some (r1,r2):=H;have A10:=Aside0.mk A100;clear A100;by_cases c11:t101 ≥ 0
       ·rw [if_pos c11] at H;have c11b0:decide (0 ≤ t101) = true:=decide_eq_true c11;clear c11;simp only [Option.some.injEq,Prod.mk.injEq] at H;obtain ⟨rfl,rfl⟩:=H;go_wp2_with (first|((with_reducible refine gate_callee (f:=56) rfl ?_);refine goesL_ (some 25) rfl rfl Tryz.func56 (by kernel_rfl) rfl #[.string a0,.int .u8 0] rfl (by (try simp only [List.map_toArray,List.map_cons,List.map_nil]);first|done|rfl|(simp only [List.length_drop,List.length_take];rfl)) ?_;(with_reducible refine (strings_IndexByte.calls a0 0 t101 _ A10.out).mono ?_);rintro e w' ⟨rfl,⟨nd,rfl⟩⟩;refine ⟨_,rfl,?_⟩))
        go_ret2
        exact ⟨by first|rfl|(simp [errW_none,errW_some] <;> rfl)|(simp [*,errW_none,errW_some] <;> rfl),by repeat (first|(with_reducible first|exact HB.out|apply bwA|apply pwbN|apply bw1)|exact HB.out)⟩
       ·rw [if_neg c11] at H;have c11b0:decide (0 ≤ t101) = false:=decide_eq_false c11;clear c11;replace H:=Option.bind_eq_some_iff.mp H;obtain ⟨t102,A120,H⟩:=H;replace H:(if a0.size + t102.size ≤ 9223372036854775807 then (some (a0 ++ t102,0)) else (none)) = some (r1,r2):=H;have A12:=Aside0.mk A120;clear A120;by_cases c13:a0.size + t102.size ≤ 9223372036854775807
        ·rw [if_pos c13] at H;have c13b0:=eq_true c13;have c13b1:decide (a0.size + t102.size ≤ 9223372036854775807) = true:=decide_eq_true c13;try have c13b2:(9223372036854775807 < a0.size + t102.size) = False:=eq_false (Nat.not_lt.2 c13)
         simp only [Option.some.injEq,Prod.mk.injEq] at H;obtain ⟨rfl,rfl⟩:=H;go_wp2_with (first|((with_reducible refine gate_callee (f:=56) rfl ?_);refine goesL_ (some 25) rfl rfl Tryz.func56 (by kernel_rfl) rfl #[.string a0,.int .u8 0] rfl (by (try simp only [List.map_toArray,List.map_cons,List.map_nil]);first|done|rfl|(simp only [List.length_drop,List.length_take];rfl)) ?_;(with_reducible refine (strings_IndexByte.calls a0 0 t101 _ A10.out).mono ?_);rintro e w' ⟨rfl,⟨nd,rfl⟩⟩;refine ⟨_,rfl,?_⟩)|((with_reducible refine gate_callee (f:=70) rfl ?_);refine goesL_ (some 32) rfl rfl Tryz.func70 (by kernel_rfl) rfl #[.string (⟨#[0]⟩:ByteArray),.int .i64 (wrap64 (a1 - (a0.size:Int)))] rfl (by (try simp only [List.map_toArray,List.map_cons,List.map_nil]);first|done|rfl|(simp only [List.length_drop,List.length_take];rfl)) ?_;(with_reducible refine (strings_Repeat.calls (⟨#[0]⟩:ByteArray) (wrap64 (a1 - (a0.size:Int))) t102 _ A12.out).mono ?_);rintro e w14 ⟨rfl,hb⟩;refine ⟨_,rfl,?_⟩;have n0_:=Aside0.mk (below_step (by repeat (first|(with_reducible first|exact HB.out|apply bwA|apply pwbN|apply bw1)|exact HB.out)) hb);clear HB;have HB:=n0_;clear n0_;(try clear hb);(try clear hb2);(try clear hk);(try clear hi)))
         go_ret2
         exact ⟨by first|rfl|(simp [errW_none,errW_some] <;> rfl)|(simp [*,errW_none,errW_some] <;> rfl),by repeat (first|(with_reducible first|exact HB.out|apply bwA|apply pwbN|apply bw1)|exact HB.out)⟩
        ·rw [if_neg c13] at H;exact absurd H (by simp)
end Go.Proofs.YtenbelecmmpdgaaGreatDoor.All
end
section
namespace Go.Proofs.YtenbelecmmpdgaaGreatDoor.All
open Go.RowKit Go.Proofs.YtenbelecmmpdgaaGreatDoorW.PrintWords Go.Proofs.YtenbelecmmpdgaaGreatDoorW.PrintLast Go.Proofs.YtenbelecmmpdgaaGreatDoorW.PrintMore
open Go.Proofs.YtenbelecmmpdgaaGreatDoorW.Mine
attribute [local go_sem] gtr_string leq_string geq_string
attribute [local go_sem] max2_int min2_int max_two min_two max_three min_three max_four min_four
set_option linter.unusedVariables false
set_option linter.unusedSimpArgs false
mutual
def octal_Write.j0:Nat→Int→Int→Bool→Option (ByteArray × Int)
 | 0,_,_,_=>none
 | k + 1,x0,x1,x24=>if x24 = true then (some ((⟨#[]⟩:ByteArray),4)) else (if 0 ≤ x1 then (if (x1:Int).toNat ≤ 281474976710656 then (octal_Write.l0 k x0 (List.replicate (x1:Int).toNat 0) (wrap64 (x1 - 2))) else (none)) else (none))
def octal_Write.l0:Nat→Int→List Int→Int→Option (ByteArray × Int)
 | 0,_,_,_=>none
 | k + 1,x0,x8,x9=>if x9 ≥ 0 then (if 0 ≤ x9 then (if x9 < (x8.length:Int) then (octal_Write.l0 k (wrap64 (Int.tdiv x0 8)) (x8.set (x9:Int).toNat ((48 + ((Int.tmod x0 8) % 256)) % 256)) (wrap64 (x9 - 1))) else (none)) else (none)) else (some (strOfNums x8,0))
end
def octal_Write.f (k:Nat) (a0:Int) (a1:Int):Option (ByteArray × Int):=(octal_Most.f a1).bind fun bt101=>(if bt101.2 = 0 then (if a0 < 0 then (octal_Write.j0 k a0 a1 true) else (octal_Write.j0 k a0 a1 (decide (a0 > bt101.1)))) else (some ((⟨#[]⟩:ByteArray),bt101.2)))
theorem octal_Write.mono_l:∀ k,(∀ y0 y1 y2,LeO (octal_Write.j0 k y0 y1 y2) (octal_Write.j0 (k + 1) y0 y1 y2))∧(∀ y0 y1 y2,LeO (octal_Write.l0 k y0 y1 y2) (octal_Write.l0 (k + 1) y0 y1 y2))
 | 0=>⟨fun _ _ _ r h=>by simp [octal_Write.j0] at h,fun _ _ _ r h=>by simp [octal_Write.l0] at h⟩
 | k + 1=>by
  obtain ⟨ih0,ih1⟩:=octal_Write.mono_l k
  refine ⟨?_,?_⟩
  ·intro y0 y1 y2
   unfold octal_Write.j0
   repeat' first
   | (with_reducible exact ih0 _ _ _)
   | (with_reducible exact ih1 _ _ _)
   | (with_reducible exact LeO.refl _)
   | (with_reducible exact LeO.none _)
   | (with_reducible refine LeO.ite ?_ ?_)
   | (with_reducible refine LeO.bind ?_ (fun _=>?_))
   | exact ih0 _ _ _
   | exact ih1 _ _ _
   | exact LeO.none _
   | refine LeO.ite ?_ ?_
   | refine LeO.bind ?_ (fun _=>?_)
  ·intro y0 y1 y2
   unfold octal_Write.l0
   repeat' first
   | (with_reducible exact ih0 _ _ _)
   | (with_reducible exact ih1 _ _ _)
   | (with_reducible exact LeO.refl _)
   | (with_reducible exact LeO.none _)
   | (with_reducible refine LeO.ite ?_ ?_)
   | (with_reducible refine LeO.bind ?_ (fun _=>?_))
   | exact ih0 _ _ _
   | exact ih1 _ _ _
   | exact LeO.none _
   | refine LeO.ite ?_ ?_
   | refine LeO.bind ?_ (fun _=>?_)
theorem octal_Write.mono:∀ a0 a1 k,LeO (octal_Write.f k a0 a1) (octal_Write.f (k + 1) a0 a1):=by
 intro a0 a1 k;obtain ⟨ih0,ih1⟩:=octal_Write.mono_l k;unfold octal_Write.f;repeat' first
  | (with_reducible exact ih0 _ _ _)
  | (with_reducible exact ih1 _ _ _)
  | (with_reducible exact LeO.refl _)
  | (with_reducible exact LeO.none _)
  | (with_reducible refine LeO.ite ?_ ?_)
  | (with_reducible refine LeO.bind ?_ (fun _=>?_))
  | exact ih0 _ _ _
  | exact ih1 _ _ _
  | exact LeO.none _
  | refine LeO.ite ?_ ?_
  | refine LeO.bind ?_ (fun _=>?_)
set_option maxHeartbeats 8000000 in
set_option maxRecDepth 100000 in
theorem octal_Write.calls (k:Nat) (a0:Int) (a1:Int) (r1:ByteArray) (r2:Int) (w:World) (h:octal_Write.f k a0 a1 = some (r1,r2)) :
 Calls Tryz.prog 69 #[.int .i64 a0,.int .i64 a1] w fun e w'=>e = .returned (.tuple #[.string r1,.int .i64 r2])∧Below w.heap.size w w':=by
 have HB:=Aside0.mk (Below.refl w.heap.size w);have H:((octal_Most.f a1).bind fun bt101=>(if bt101.2 = 0 then (if a0 < 0 then (octal_Write.j0 k a0 a1 true) else (octal_Write.j0 k a0 a1 (decide (a0 > bt101.1)))) else (some ((⟨#[]⟩:ByteArray),bt101.2)))) = some (r1,r2):=h;clear h;replace H:=Option.bind_eq_some_iff.mp H;obtain ⟨⟨t101,t102⟩,A30,H⟩:=H;replace H:(if t102 = 0 then (if a0 < 0 then (octal_Write.j0 k a0 a1 true) else (octal_Write.j0 k a0 a1 (decide (a0 > t101)))) else (some ((⟨#[]⟩:ByteArray),t102))) = some (r1,r2):=H;have A3:=Aside0.mk A30;clear A30;by_cases c4:t102 = 0
 ·rw [if_pos c4] at H;have c4b0:(t102 == 0) = true:=beq_iff_eq.mpr c4;have c4b1:(t102 != 0) = false:=bne_eq_false_iff_eq.mpr c4;clear c4;have HC5:=Aside0.mk H;clear H;go_enter Tryz.func69,Tryz.ntmps69;go_upto_region 4 with (first|((with_reducible refine gate_callee (f:=59) rfl ?_);refine goesL_ (some 12) rfl rfl Tryz.func59 (by kernel_rfl) rfl #[.int .i64 a1] rfl (by (try simp only [List.map_toArray,List.map_cons,List.map_nil]);first|done|rfl|(simp only [List.length_drop,List.length_take];rfl)) ?_;(with_reducible refine (octal_Most.calls a1 t101 t102 _ A3.out).mono ?_);rintro e w' ⟨rfl,⟨nd,rfl⟩⟩;refine ⟨_,rfl,?_⟩))
  (try simp only [Act.put,List.setIfInBounds_toArray,List.set_cons_zero,List.set_cons_succ]);go_cut [24] (fun v24 wc=>∃ (kq:Nat) (x24_4:Bool),v24 = .bool x24_4∧Aside0 (octal_Write.j0 kq a0 a1 x24_4 = some (r1,r2))∧Aside0 (kq ≤ k)∧Aside0 (Below w.heap.size w wc))
  case first =>
   have H:=HC5.out;clear HC5;by_cases c6:a0 < 0
   ·rw [if_pos c6] at H;have c6b0:decide (a0 < 0) = true:=decide_eq_true c6;clear c6;(first|rw [c6b0]|(simp only [i64_w,i32_w];rw [c6b0])|skip);have H':=Aside0.mk H;clear H;go_wp2;go_meet
    case rel=>exact ⟨_,(true),(by first|rfl|(simp;done)|(simp [*];done)),H',⟨by first|omega|exact Nat.le_refl _⟩,⟨by repeat (first|(with_reducible first|exact HB.out|apply bwA|apply pwbN|apply bw1)|exact HB.out)⟩⟩
   ·rw [if_neg c6] at H;have c6b0:decide (a0 < 0) = false:=decide_eq_false c6;clear c6;(first|rw [c6b0]|(simp only [i64_w,i32_w];rw [c6b0])|skip);have H':=Aside0.mk H;clear H;go_wp2;go_meet
    case rel=>exact ⟨_,(decide (a0 > t101)),(by first|rfl|(simp;done)|(simp [*];done)),H',⟨by first|omega|exact Nat.le_refl _⟩,⟨by repeat (first|(with_reducible first|exact HB.out|apply bwA|apply pwbN|apply bw1)|exact HB.out)⟩⟩
  case rest =>
   clear HC5;repeat first|clear c4|clear c4b0|clear c4b1
   obtain ⟨kq,x24_4,rfl,HA,HJ4,HB⟩:=hcut;cases kq with
   | zero=>exact absurd HA.out (by simp [octal_Write.j0])
   | succ kj4 =>
    have H:=HA.out;clear HA;simp only [octal_Write.j0] at H;by_cases c7:x24_4 = true
    ·subst c7;have H1:(some ((⟨#[]⟩:ByteArray),4)) = some (r1,r2):=by rw [if_pos rfl] at H;exact H
     clear H;have H:=H1;clear H1;simp only [Option.some.injEq,Prod.mk.injEq] at H;obtain ⟨rfl,rfl⟩:=H;go_wp2;go_ret2
     exact ⟨by first|rfl|(simp [errW_none,errW_some] <;> rfl)|(simp [*,errW_none,errW_some] <;> rfl),by repeat (first|(with_reducible first|exact HB.out|apply bwA|apply pwbN|apply bw1)|exact HB.out)⟩
    ·replace c7:=Bool.eq_false_iff.mpr c7;subst c7;have H1:(if 0 ≤ a1 then (if (a1:Int).toNat ≤ 281474976710656 then (octal_Write.l0 kj4 a0 (List.replicate (a1:Int).toNat 0) (wrap64 (a1 - 2))) else (none)) else (none)) = some (r1,r2):=by rw [if_neg (show ¬ (false = true) by decide)] at H;exact H
     clear H;have H:=H1;clear H1;by_cases c8:0 ≤ a1
     ·rw [if_pos c8] at H;have c8b0:=eq_true c8;have c8b1:decide (0 ≤ a1) = true:=decide_eq_true c8;clear c8;by_cases c9:(a1:Int).toNat ≤ 281474976710656
      ·rw [if_pos c9] at H;have c9b0:=eq_true c9;have c9b1:decide ((a1:Int).toNat ≤ 281474976710656) = true:=decide_eq_true c9;clear c9;obtain ⟨y103,hy103⟩:∃ y_:List Int,y_ = (List.replicate (a1:Int).toNat 0):=⟨_,rfl⟩
       replace H:(octal_Write.l0 kj4 a0 y103 (wrap64 (a1 - 2))) = some (r1,r2):=by first|(rw [hy103];with_reducible exact H)|(have H2_:=(Option.bind_some _ _).symm.trans H;rw [hy103];with_reducible exact H2_)|(have H2_:=(Option.bind_some _ _).symm.trans H;with_reducible exact H2_)|with_reducible exact H|(rw [hy103];exact H)|exact H
       have Ny103:=Aside0.mk hy103;clear hy103;have H':=Aside0.mk H;clear H;go_wp2_with (first|((with_reducible refine gate_dst (N:=26) rfl ?_);refine Kd.R_make (Kd.int .u8) _ 5 rfl (N:=26) rfl 24 _ _ rfl a1 rfl rfl Tryz.underlying24 (.int .u8 0) 1 info5 rfl (by decide) (by omega) 0 (ok:=fun _=>True) (okp:=fun _=>True) rfl (fun _ hk=>hk) trivial (of_decide_eq_true (by first|(with_reducible assumption)|assumption)) (Nat.le_trans (Nat.mul_le_mul_right _ (of_decide_eq_true (by first|(with_reducible assumption)|assumption):a1.toNat ≤ 281474976710656)) (by omega)) (Below.refl _ _) (Nat.le_refl _) ?_;intro v104 w10 ho11 hb hg_ hnew_;clear hg_ hnew_;(first|rw [← Ny103.out] at ho11|(simp only [Int.reduceToNat] at ho11;rw [← Ny103.out] at ho11));have n0_:=Aside0.mk (Kd.R_lower ho11 (below_size (by repeat (first|(with_reducible first|exact HB.out|apply bwA|apply pwbN|apply bw1)|exact HB.out))));have n1_:=Aside0.mk (below_step (by repeat (first|(with_reducible first|exact HB.out|apply bwA|apply pwbN|apply bw1)|exact HB.out)) hb);clear HB;have HO105:=n0_;have HB:=n1_;clear n0_ n1_;clear hb ho11))
       go_loopg [0,9] kj4 (fun kq v0 v9 w'=>∃ (x0_2:Int) (x8_2:List Int) (x9_2:Int),v0 = .int .i64 x0_2∧v9 = .int .i64 x9_2∧Aside0 (octal_Write.l0 kq x0_2 x8_2 x9_2 = some (r1,r2))∧Aside0 (kq ≤ kj4)∧Aside0 (Kd.R (Kd.int .u8) 5 w' w.heap.size (fun _=>True) v104 x8_2)∧Aside0 (Below w.heap.size w w'))
       case atStart=>exact ⟨(a0),(y103),(wrap64 (a1 - 2)),(by first|rfl|(simp;done)|(simp [*];done)),(by first|rfl|(simp;done)|(simp [*];done)),H',⟨Nat.le_refl _⟩,⟨by (with_reducible repeat (first|apply Kd.R_alloc|apply Kd.R_drewN|apply Kd.R_drew));exact HO105.out⟩,⟨by repeat (first|(with_reducible first|exact HB.out|apply bwA|apply pwbN|apply bw1)|exact HB.out)⟩⟩
       case round =>
        clear H';repeat first|clear c4|clear c4b0|clear c4b1|clear c7|clear c8|clear c8b0|clear c8b1|clear c9|clear c9b0|clear c9b1
        obtain ⟨x0_2,x8_2,x9_2,rfl,rfl,HA,HK2,HO_8,HB⟩:=hrel;cases gk with
        | zero=>exact absurd HA.out (by simp [octal_Write.l0])
        | succ k2 =>
         have H:=HA.out;clear HA;simp only [octal_Write.l0] at H;by_cases c12:x9_2 ≥ 0
         ·rw [if_pos c12] at H;have c12b0:decide (0 ≤ x9_2) = true:=decide_eq_true c12;clear c12;by_cases c13:0 ≤ x9_2
          ·rw [if_pos c13] at H;have c13b0:decide (0 ≤ x9_2) = true:=decide_eq_true c13;clear c13;by_cases c14:x9_2 < (x8_2.length:Int)
           ·rw [if_pos c14] at H;have c14b0:decide (x9_2 < (x8_2.length:Int)) = true:=decide_eq_true c14;clear c14;obtain ⟨y106,hy106⟩:∃ y_:List Int,y_ = (x8_2.set (x9_2:Int).toNat ((48 + ((Int.tmod x0_2 8) % 256)) % 256)):=⟨_,rfl⟩
            replace H:(octal_Write.l0 k2 (wrap64 (Int.tdiv x0_2 8)) y106 (wrap64 (x9_2 - 1))) = some (r1,r2):=by first|(rw [hy106];with_reducible exact H)|(have H2_:=(Option.bind_some _ _).symm.trans H;rw [hy106];with_reducible exact H2_)|(have H2_:=(Option.bind_some _ _).symm.trans H;with_reducible exact H2_)|with_reducible exact H|(rw [hy106];exact H)|exact H
            have Ny106:=Aside0.mk hy106;clear hy106;have H':=Aside0.mk H;clear H;have p15:0 ≤ (x9_2:Int):=of_decide_eq_true (by first|(with_reducible assumption)|assumption);have q15:(x9_2:Int) < ((x8_2.length:Int):Int):=of_decide_eq_true (by first|(with_reducible assumption)|assumption);obtain ⟨go15,co15,eo15,gb15,gl15,cl15,HG15⟩:=Kd.R_form HO_8.out (by omega);(first|cases eo15|(injection eo15 with ea_ en_ ec_;(first|subst ea_|(injection ea_ with ea_;subst ea_));subst ec_;clear en_));have GB15:=Aside0.mk gb15;have GG15:=Aside0.mk HG15;clear gb15 gl15 HG15;obtain ⟨hx15_0,hf15_0⟩:=Kd.R_celln 0 HO_8.out (x9_2:Int) p15 q15;replace p15:=eq_true p15;replace q15:=eq_true q15;have HP16:=Kd.R_putg HO_8.out (x9_2:Int) ((48 + ((Int.tmod x0_2 8) % 256)) % 256);go_wp2_with (first|((with_reducible refine gate_store (t:=5) (p:=39) rfl ?_);refine store_event (t:=5) (p:=39) (v:=?vo_w17) (w1:=(wr.setCell ⟨go15,(x9_2:Int).toNat,none⟩ (.int .u8 ((48 + ((Int.tmod x0_2 8) % 256)) % 256)))) ?hg ?ho ?hn ?hr ?_;(case ho=>rfl);(case hg=>rfl);(case hn=>rfl);(case hr=>first|(go_simp;done)|(go_simp;rfl));intro w17 hw;have hg:wr.grownBy w17 (some go15):=(by rw [hw];exact HP16.2);have hp_:Kd.R (Kd.int .u8) 5 w17 w.heap.size (fun _=>True) (.slice (some ⟨go15,0,none⟩) x8_2.length co15) y106:=(by rw [hw,Ny106.out];exact HP16.1);clear HP16;have n0_:=Aside0.mk (hp_);have n1_:=Aside0.mk ((by rw [hw];exact below_set (HB.out) GB15.out:Below w.heap.size w w17));clear HO_8;clear HB;have HO_8:=n0_;have HB:=n1_;clear n0_ n1_;clear hg hw hp_))
            go_roundg k2
            case measure=>have:=HJ4.out;have:=HK2.out;omega
            case rel=>exact ⟨(wrap64 (Int.tdiv x0_2 8)),(y106),(wrap64 (x9_2 - 1)),(by first|rfl|(simp;done)|(simp [*];done)),(by first|rfl|(simp;done)|(simp [*];done)),H',⟨by have:=HJ4.out;have:=HK2.out;omega⟩,⟨by (with_reducible repeat (first|apply Kd.R_alloc|apply Kd.R_drewN|apply Kd.R_drew));exact HO_8.out⟩,⟨by repeat (first|(with_reducible first|exact HB.out|apply bwA|apply pwbN|apply bw1)|exact HB.out)⟩⟩
           ·rw [if_neg c14] at H;exact absurd H (by simp)
          ·rw [if_neg c13] at H;exact absurd H (by simp)
         ·rw [if_neg c12] at H;have c12b0:decide (0 ≤ x9_2) = false:=decide_eq_false c12;clear c12;simp only [Option.some.injEq,Prod.mk.injEq] at H;obtain ⟨rfl,rfl⟩:=H;have hcv18:=own_string (P:=Tryz.prog) Tryz.underlying24 Tryz.underlying5 Tryz.underlying9 (Kd.own_of_R HO_8.out);go_wp2;go_ret2
          exact ⟨by first|rfl|(simp [errW_none,errW_some] <;> rfl)|(simp [*,errW_none,errW_some] <;> rfl),by repeat (first|(with_reducible first|exact HB.out|apply bwA|apply pwbN|apply bw1)|exact HB.out)⟩
      ·rw [if_neg c9] at H;exact absurd H (by simp)
     ·rw [if_neg c8] at H;exact absurd H (by simp)
 ·rw [if_neg c4] at H;have c4b0:(t102 == 0) = false:=beq_eq_false_iff_ne.mpr c4;have c4b1:(t102 != 0) = true:=bne_iff_ne.mpr c4;simp only [Option.some.injEq,Prod.mk.injEq] at H;obtain ⟨rfl,rfl⟩:=H;go_enter Tryz.func69,Tryz.ntmps69;go_wp2_with (first|((with_reducible refine gate_callee (f:=59) rfl ?_);refine goesL_ (some 12) rfl rfl Tryz.func59 (by kernel_rfl) rfl #[.int .i64 a1] rfl (by (try simp only [List.map_toArray,List.map_cons,List.map_nil]);first|done|rfl|(simp only [List.length_drop,List.length_take];rfl)) ?_;(with_reducible refine (octal_Most.calls a1 t101 t102 _ A3.out).mono ?_);rintro e w' ⟨rfl,⟨nd,rfl⟩⟩;refine ⟨_,rfl,?_⟩))
  go_ret2
  exact ⟨by first|rfl|(simp [errW_none,errW_some] <;> rfl)|(simp [*,errW_none,errW_some] <;> rfl),by repeat (first|(with_reducible first|exact HB.out|apply bwA|apply pwbN|apply bw1)|exact HB.out)⟩
end Go.Proofs.YtenbelecmmpdgaaGreatDoor.All
end
section
namespace Go.Proofs.YtenbelecmmpdgaaGreatDoor.All
open Go.RowKit Go.Proofs.YtenbelecmmpdgaaGreatDoorW.PrintWords Go.Proofs.YtenbelecmmpdgaaGreatDoorW.PrintLast Go.Proofs.YtenbelecmmpdgaaGreatDoorW.PrintMore
open Go.Proofs.YtenbelecmmpdgaaGreatDoorW.Mine
attribute [local go_sem] gtr_string leq_string geq_string
attribute [local go_sem] max2_int min2_int max_two min_two max_three min_three max_four min_four
set_option linter.unusedVariables false
set_option linter.unusedSimpArgs false
def head_Sum.l0:Nat→ByteArray→Int→Int→Int→Option (Int × Int)
 | 0,_,_,_,_=>none
 | k + 1,x0,x4,x10,x11=>if x11 < x10 then (if x11 < 148 then (if 0 ≤ x11 then (if x11 < (x0.size:Int) then (head_Sum.l0 k x0 (wrap64 (x4 + (wrap64 (bt x0 x11)))) x10 (wrap64 (x11 + 1))) else (none)) else (none)) else (if x11 ≥ 156 then (if 0 ≤ x11 then (if x11 < (x0.size:Int) then (head_Sum.l0 k x0 (wrap64 (x4 + (wrap64 (bt x0 x11)))) x10 (wrap64 (x11 + 1))) else (none)) else (none)) else (head_Sum.l0 k x0 x4 x10 (wrap64 (x11 + 1))))) else (some (x4,0))
def head_Sum.f (k:Nat) (a0:ByteArray):Option (Int × Int):=if (a0.size:Int) = 512 then (head_Sum.l0 k a0 256 (a0.size:Int) 0) else (some (0,1))
theorem head_Sum.mono_l:∀ k,(∀ y0 y1 y2 y3,LeO (head_Sum.l0 k y0 y1 y2 y3) (head_Sum.l0 (k + 1) y0 y1 y2 y3))
 | 0=>fun _ _ _ _ r h=>by simp [head_Sum.l0] at h
 | k + 1=>by
  have ih0:=head_Sum.mono_l k
  ·intro y0 y1 y2 y3
   unfold head_Sum.l0
   repeat' first
   | (with_reducible exact ih0 _ _ _ _)
   | (with_reducible exact LeO.refl _)
   | (with_reducible exact LeO.none _)
   | (with_reducible refine LeO.ite ?_ ?_)
   | (with_reducible refine LeO.bind ?_ (fun _=>?_))
   | exact ih0 _ _ _ _
   | exact LeO.none _
   | refine LeO.ite ?_ ?_
   | refine LeO.bind ?_ (fun _=>?_)
theorem head_Sum.mono:∀ a0 k,LeO (head_Sum.f k a0) (head_Sum.f (k + 1) a0):=by
 intro a0 k;have ih0:=head_Sum.mono_l k;unfold head_Sum.f;repeat' first
  | (with_reducible exact ih0 _ _ _ _)
  | (with_reducible exact LeO.refl _)
  | (with_reducible exact LeO.none _)
  | (with_reducible refine LeO.ite ?_ ?_)
  | (with_reducible refine LeO.bind ?_ (fun _=>?_))
  | exact ih0 _ _ _ _
  | exact LeO.none _
  | refine LeO.ite ?_ ?_
  | refine LeO.bind ?_ (fun _=>?_)
set_option maxHeartbeats 8000000 in
set_option maxRecDepth 100000 in
theorem head_Sum.calls (k:Nat) (a0:ByteArray) (r1:Int) (r2:Int) (w:World) (h:head_Sum.f k a0 = some (r1,r2)) :
 Calls Tryz.prog 71 #[.string a0] w fun e w'=>e = .returned (.tuple #[.int .i64 r1,.int .i64 r2])∧Drawn0 w w':=by
 have H:(if (a0.size:Int) = 512 then (head_Sum.l0 k a0 256 (a0.size:Int) 0) else (some (0,1))) = some (r1,r2):=h;clear h;by_cases c2:(a0.size:Int) = 512
 ·rw [if_pos c2] at H;have c2b0:((a0.size:Int) == 512) = true:=beq_iff_eq.mpr c2;have c2b1:((a0.size:Int) != 512) = false:=bne_eq_false_iff_eq.mpr c2;clear c2;have H':=Aside0.mk H;clear H;go_enter Tryz.func71,Tryz.ntmps71;go_wp2;go_loopg [4,11] k (fun kq v4 v11 w'=>∃ (x4_1:Int) (x11_1:Int),v4 = .int .i64 x4_1∧v11 = .int .i64 x11_1∧Aside0 (head_Sum.l0 kq a0 x4_1 (a0.size:Int) x11_1 = some (r1,r2))∧Aside0 (kq ≤ k)∧Drawn0 w w')
  case atStart=>exact ⟨(256),(0),(by first|rfl|(simp;done)|(simp [*];done)),(by first|rfl|(simp;done)|(simp [*];done)),H',⟨Nat.le_refl _⟩,by repeat (first|exact Drawn0.refl _|apply Drawn0.step)⟩
  case round =>
   clear H';repeat first|clear c2|clear c2b0|clear c2b1
   obtain ⟨x4_1,x11_1,rfl,rfl,HA,HK1,⟨m1,rfl⟩⟩:=hrel;cases gk with
   | zero=>exact absurd HA.out (by simp [head_Sum.l0])
   | succ k1 =>
    have H:=HA.out;clear HA;simp only [head_Sum.l0] at H;by_cases c3:x11_1 < (a0.size:Int)
    ·rw [if_pos c3] at H;have c3b0:decide (x11_1 < (a0.size:Int)) = true:=decide_eq_true c3;clear c3;by_cases c4:x11_1 < 148
     ·rw [if_pos c4] at H;have c4b0:decide (x11_1 < 148) = true:=decide_eq_true c4;clear c4;by_cases c5:0 ≤ x11_1
      ·rw [if_pos c5] at H;have c5b0:decide (0 ≤ x11_1) = true:=decide_eq_true c5;clear c5;by_cases c6:x11_1 < (a0.size:Int)
       ·rw [if_pos c6] at H;have c6b0:decide (x11_1 < (a0.size:Int)) = true:=decide_eq_true c6;clear c6;have H':=Aside0.mk H;clear H;have p7:0 ≤ (x11_1:Int):=of_decide_eq_true (by first|(with_reducible assumption)|assumption);have q7:x11_1 < (a0.size:Int):=of_decide_eq_true (by first|(with_reducible assumption)|assumption);have hx7:=bt_at a0 x11_1;replace p7:=eq_true p7;replace q7:=eq_true q7;go_wp2;go_roundg k1
        case measure=>have:=HK1.out;omega
        case rel=>exact ⟨(wrap64 (x4_1 + (wrap64 (bt a0 x11_1)))),(wrap64 (x11_1 + 1)),(by first|rfl|(simp;done)|(simp [*];done)),(by first|rfl|(simp;done)|(simp [*];done)),H',⟨by have:=HK1.out;omega⟩,by repeat (first|exact Drawn0.refl _|apply Drawn0.step)⟩
       ·rw [if_neg c6] at H;exact absurd H (by simp)
      ·rw [if_neg c5] at H;exact absurd H (by simp)
     ·rw [if_neg c4] at H;have c4b0:decide (x11_1 < 148) = false:=decide_eq_false c4;clear c4;by_cases c8:x11_1 ≥ 156
      ·rw [if_pos c8] at H;have c8b0:decide (156 ≤ x11_1) = true:=decide_eq_true c8;clear c8;by_cases c9:0 ≤ x11_1
       ·rw [if_pos c9] at H;have c9b0:decide (0 ≤ x11_1) = true:=decide_eq_true c9;clear c9;by_cases c10:x11_1 < (a0.size:Int)
        ·rw [if_pos c10] at H;have c10b0:decide (x11_1 < (a0.size:Int)) = true:=decide_eq_true c10;clear c10;have H':=Aside0.mk H;clear H;have p11:0 ≤ (x11_1:Int):=of_decide_eq_true (by first|(with_reducible assumption)|assumption);have q11:x11_1 < (a0.size:Int):=of_decide_eq_true (by first|(with_reducible assumption)|assumption);have hx11:=bt_at a0 x11_1;replace p11:=eq_true p11;replace q11:=eq_true q11;go_wp2;go_roundg k1
         case measure=>have:=HK1.out;omega
         case rel=>exact ⟨(wrap64 (x4_1 + (wrap64 (bt a0 x11_1)))),(wrap64 (x11_1 + 1)),(by first|rfl|(simp;done)|(simp [*];done)),(by first|rfl|(simp;done)|(simp [*];done)),H',⟨by have:=HK1.out;omega⟩,by repeat (first|exact Drawn0.refl _|apply Drawn0.step)⟩
        ·rw [if_neg c10] at H;exact absurd H (by simp)
       ·rw [if_neg c9] at H;exact absurd H (by simp)
      ·rw [if_neg c8] at H;have c8b0:decide (156 ≤ x11_1) = false:=decide_eq_false c8;clear c8;have H':=Aside0.mk H;clear H;go_wp2;go_roundg k1
       case measure=>have:=HK1.out;omega
       case rel=>exact ⟨(x4_1),(wrap64 (x11_1 + 1)),(by first|rfl|(simp;done)|(simp [*];done)),(by first|rfl|(simp;done)|(simp [*];done)),H',⟨by have:=HK1.out;omega⟩,by repeat (first|exact Drawn0.refl _|apply Drawn0.step)⟩
    ·rw [if_neg c3] at H;have c3b0:decide (x11_1 < (a0.size:Int)) = false:=decide_eq_false c3;clear c3;simp only [Option.some.injEq,Prod.mk.injEq] at H;obtain ⟨rfl,rfl⟩:=H;go_wp2;go_ret2
     exact ⟨by first|rfl|(simp;done)|(simp [*];done),by repeat (first|exact Drawn0.refl _|apply Drawn0.step)⟩
 ·rw [if_neg c2] at H;have c2b0:((a0.size:Int) == 512) = false:=beq_eq_false_iff_ne.mpr c2;have c2b1:((a0.size:Int) != 512) = true:=bne_iff_ne.mpr c2;simp only [Option.some.injEq,Prod.mk.injEq] at H;obtain ⟨rfl,rfl⟩:=H;go_enter Tryz.func71,Tryz.ntmps71;go_wp2;go_ret2
  exact ⟨by first|rfl|(simp;done)|(simp [*];done),by repeat (first|exact Drawn0.refl _|apply Drawn0.step)⟩
end Go.Proofs.YtenbelecmmpdgaaGreatDoor.All
end
