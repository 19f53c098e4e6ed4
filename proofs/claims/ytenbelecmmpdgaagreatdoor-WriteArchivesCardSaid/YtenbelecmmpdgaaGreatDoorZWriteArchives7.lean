/- Made by programs of the prover: walks of Go functions, the words that they use, and plain laws, each text in a section of its own; no condition of its own. -/
import Derived.Test.YtenbelecmmpdgaaGreatDoorZWriteArchives2
import Derived.Test.YtenbelecmmpdgaaGreatDoorZWriteArchives6
section
namespace Go.Proofs.YtenbelecmmpdgaaGreatDoor.All
open Go.RowKit Go.Proofs.YtenbelecmmpdgaaGreatDoorW.PrintWords Go.Proofs.YtenbelecmmpdgaaGreatDoorW.PrintLast Go.Proofs.YtenbelecmmpdgaaGreatDoorW.PrintMore
open Go.Proofs.YtenbelecmmpdgaaGreatDoorW.Mine
attribute [local go_sem] gtr_string leq_string geq_string
attribute [local go_sem] max2_int min2_int max_two min_two max_three min_three max_four min_four
set_option linter.unusedVariables false
set_option linter.unusedSimpArgs false
theorem fR36 {α:Type} {d:Kd α} {e base g:Nat} {ok:Nat→Prop} {w:World} {v:Value} {xs:List α} (i:Nat) (h:Kd.R d e w base (fun k=>ok k∧k ≠ g) v xs) (u:Value):Kd.R d e (w.setCell ⟨g,i,none⟩ u) base (fun k=>ok k∧k ≠ g) v xs:=Kd.R_far (p:=⟨g,i,none⟩) h (fun _ hk=>hk.2) u
def write_Places.l0:Nat→Int→List Int→List (S26)→Int→Int→Option (List Int × Int)
 | 0,_,_,_,_,_=>none
 | k + 1,x5,x6,x17,x18,x19=>if x19 < x18 then (if 0 ≤ x19 then (if x19 < (x17.length:Int) then ((member_Write.f k ((rd_T26 x17 x19).f0) ((rd_T26 x17 x19).f1) ((rd_T26 x17 x19).f2) ((rd_T26 x17 x19).f3.f0) ((rd_T26 x17 x19).f3.f1) ((rd_T26 x17 x19).f3.f2) ((rd_T26 x17 x19).f3.f3) ((rd_T26 x17 x19).f3.f4) ((rd_T26 x17 x19).f3.f5) ((rd_T26 x17 x19).f3.f6) ((rd_T26 x17 x19).f4)).bind fun bt107=>(if x6.length < 17592186044416 then (write_Places.l0 k (wrap64 (x5 + (bt107.1.length:Int))) (x6 ++ [wrap64 (x5 + (bt107.1.length:Int))]) x17 x18 (wrap64 (x19 + 1))) else (none))) else (none)) else (none)) else (if ([]:List Int).length + x6.length < 17592186044416 then (some ((([]:List Int) ++ x6),0)) else (none))
def write_Places.f (k:Nat) (l0:List (S26)):Option (List Int × Int):=(plan_Check.f k l0).bind fun t101=>(if t101 = 0 then (write_Places.l0 k 0 (([0]:List Int)) l0 (l0.length:Int) 0) else (some (([]:List Int),t101)))
set_option maxHeartbeats 8000000 in
set_option maxRecDepth 100000 in
theorem write_Places.calls (k:Nat) (A0:Option Addr) (c0:Nat) (l0:List (S26)) (r1:List Int) (r2:Int) (w:World) (hr0:Kd.C k26 w A0 l0.length l0) (hc0:l0.length ≤ c0) (HT0:Aside0 (Tab w)) (h:write_Places.f k l0 = some (r1,r2)) :
 Calls Tryz.prog 12 #[.slice A0 l0.length c0] w fun e w'=>∃ v0_:Value,e = .returned (.tuple #[v0_,.int .i64 r2])∧Kd.R (Kd.int .i64) 3 w' w.heap.size (fun _=>True) v0_ r1∧Below w.heap.size w w':=by
 have hu26:=Tryz.underlying26;have HR0:=Aside0.mk hr0;have HC0:=Aside0.mk hc0;clear hr0 hc0;have HB:=Aside0.mk (Below.refl w.heap.size w);have H:((plan_Check.f k l0).bind fun t101=>(if t101 = 0 then (write_Places.l0 k 0 (([0]:List Int)) l0 (l0.length:Int) 0) else (some (([]:List Int),t101)))) = some (r1,r2):=h;clear h;replace H:=Option.bind_eq_some_iff.mp H;obtain ⟨t101,A20,H⟩:=H;replace H:(if t101 = 0 then (write_Places.l0 k 0 (([0]:List Int)) l0 (l0.length:Int) 0) else (some (([]:List Int),t101))) = some (r1,r2):=H;have A2:=Aside0.mk A20;clear A20;by_cases c3:t101 = 0
 ·rw [if_pos c3] at H;have c3b0:(t101 == 0) = true:=beq_iff_eq.mpr c3;have c3b1:(t101 != 0) = false:=bne_eq_false_iff_eq.mpr c3;clear c3;obtain ⟨y102,hy102⟩:∃ y_:List Int,y_ = (([0]:List Int)):=⟨_,rfl⟩
  replace H:(write_Places.l0 k 0 y102 l0 (l0.length:Int) 0) = some (r1,r2):=by first|(rw [hy102];with_reducible exact H)|(have H2_:=(Option.bind_some _ _).symm.trans H;rw [hy102];with_reducible exact H2_)|(have H2_:=(Option.bind_some _ _).symm.trans H;with_reducible exact H2_)|with_reducible exact H|(rw [hy102];exact H)|exact H
  have Ny102:=Aside0.mk hy102;clear hy102;have H':=Aside0.mk H;clear H;go_enter Tryz.func12,Tryz.ntmps12;go_wp2_with (first|((with_reducible refine gate_callee (f:=36) rfl ?_);refine goesL_ (some 12) rfl rfl Tryz.func36 (by kernel_rfl) rfl #[.slice A0 l0.length c0] rfl (by (try simp only [List.map_toArray,List.map_cons,List.map_nil]);first|done|rfl|(simp only [List.length_drop,List.length_take];rfl)) ?_;(with_reducible refine (plan_Check.calls k _ _ l0 t101 _ ?side1 ?side2 A2.out).mono ?_);(case side1=>repeat (first|exact HR0.out|(with_reducible refine Kd.C_alloc ?_ _)|(with_reducible refine Kd.C_drewN ?_ _)|(with_reducible refine Kd.C_drew ?_)));(case side2=>exact HC0.out);rintro e w4 ⟨rfl,hb⟩;refine ⟨_,rfl,?_⟩;have n0_:=Aside0.mk (below_step (by repeat (first|(with_reducible first|exact HB.out|apply bwA|apply pwbN|apply bw1)|exact HB.out)) hb);clear HB;have HB:=n0_;clear n0_;(try clear hb);(try clear hb2);(try clear hk);(try clear hi))|((with_reducible refine gate_dst (N:=16) rfl ?_);refine Kd.R_lit (Kd.int .i64) _ 3 ?hg (N:=16) ?hd (xs:=([0]:List Int)) (inner:=[.int .i64 0]) (ok:=fun _=>True) (okp:=fun _=>True) ?hr ?hp (fun _ hk=>hk) trivial (Below.refl _ _) (Nat.le_refl _) (by simp) ?_;(case hd=>rfl);(case hg=>rfl);(case hr=>first|(go_simp;done)|(go_simp;rfl));(case hp=>exact (Reps.one (show Kd.M (Kd.int .i64) _ _ _ 0 [.int .i64 0] from rfl) (Reps.none _ _)));intro v103 w5 ho6 hb hg_ hnew_;clear hg_ hnew_;(first|rw [← Ny102.out] at ho6|(simp only [Int.reduceToNat] at ho6;rw [← Ny102.out] at ho6));have n0_:=Aside0.mk (Kd.R_lower ho6 (below_size (by repeat (first|(with_reducible first|exact HB.out|apply bwA|apply pwbN|apply bw1)|exact HB.out))));have n1_:=Aside0.mk (below_step (by repeat (first|(with_reducible first|exact HB.out|apply bwA|apply pwbN|apply bw1)|exact HB.out)) hb);clear HB;have HO104:=n0_;have HB:=n1_;clear n0_ n1_;clear hb ho6))
  go_loopg [5,6,19] k (fun kq v5 v6 v19 w'=>∃ (x5_1:Int) (x6_1:List Int) (x19_1:Int),v5 = .int .i64 x5_1∧v19 = .int .i64 x19_1∧Aside0 (write_Places.l0 kq x5_1 x6_1 l0 (l0.length:Int) x19_1 = some (r1,r2))∧Aside0 (kq ≤ k)∧Aside0 (Kd.R (Kd.int .i64) 3 w' w.heap.size (fun _=>True) v6 x6_1)∧Aside0 (Below w.heap.size w w'))
  case atStart=>exact ⟨(0),(y102),(0),(by first|rfl|(simp;done)|(simp [*];done)),(by first|rfl|(simp;done)|(simp [*];done)),H',⟨Nat.le_refl _⟩,⟨by (with_reducible repeat (first|apply Kd.R_alloc|apply Kd.R_drewN|apply Kd.R_drew));exact HO104.out⟩,⟨by repeat (first|(with_reducible first|exact HB.out|apply bwA|apply pwbN|apply bw1)|exact HB.out)⟩⟩
  case round =>
   clear H';repeat first|clear c3|clear c3b0|clear c3b1
   obtain ⟨x5_1,x6_1,x19_1,rfl,rfl,HA,HK1,HO_6,HB⟩:=hrel;cases gk with
   | zero=>exact absurd HA.out (by simp [write_Places.l0])
   | succ k1 =>
    have H:=HA.out;clear HA;simp only [write_Places.l0] at H;by_cases c7:x19_1 < (l0.length:Int)
    ·rw [if_pos c7] at H;have c7b0:decide (x19_1 < (l0.length:Int)) = true:=decide_eq_true c7;clear c7;by_cases c8:0 ≤ x19_1
     ·rw [if_pos c8] at H;have c8b0:decide (0 ≤ x19_1) = true:=decide_eq_true c8;clear c8;by_cases c9:x19_1 < (l0.length:Int)
      ·rw [if_pos c9] at H;have c9b0:decide (x19_1 < (l0.length:Int)) = true:=decide_eq_true c9;clear c9;replace H:=Option.bind_eq_some_iff.mp H;obtain ⟨⟨t107,t110⟩,A100,H⟩:=H;replace H:(if x6_1.length < 17592186044416 then (write_Places.l0 k1 (wrap64 (x5_1 + (t107.length:Int))) (x6_1 ++ [wrap64 (x5_1 + (t107.length:Int))]) l0 (l0.length:Int) (wrap64 (x19_1 + 1))) else (none)) = some (r1,r2):=H;have A10:=Aside0.mk A100;clear A100;by_cases c11:x6_1.length < 17592186044416
       ·rw [if_pos c11] at H;have LMc11:=Aside0.mk c11;clear c11;obtain ⟨y111,hy111⟩:∃ y_:List Int,y_ = (x6_1 ++ [wrap64 (x5_1 + (t107.length:Int))]):=⟨_,rfl⟩
        replace H:(write_Places.l0 k1 (wrap64 (x5_1 + (t107.length:Int))) y111 l0 (l0.length:Int) (wrap64 (x19_1 + 1))) = some (r1,r2):=by first|(rw [hy111];with_reducible exact H)|(have H2_:=(Option.bind_some _ _).symm.trans H;rw [hy111];with_reducible exact H2_)|(have H2_:=(Option.bind_some _ _).symm.trans H;with_reducible exact H2_)|with_reducible exact H|(rw [hy111];exact H)|exact H
        have Ny111:=Aside0.mk hy111;clear hy111;have H':=Aside0.mk H;clear H;have p105:0 ≤ (x19_1:Int):=of_decide_eq_true (by first|(with_reducible assumption)|assumption);have q105:x19_1 < (l0.length:Int):=of_decide_eq_true (by first|(with_reducible assumption)|assumption);obtain ⟨ad105,A105_10,c105_10,e105,hx105_0,hx105_1,hx105_2,hx105_3,hx105_4,hx105_5,hx105_6,hx105_7,hx105_8,hx105_9,hx105_10,hl105_10,hi105_10⟩:=at_T26 HR0.out x19_1 p105 q105;cases e105;replace hx105_0:=(HB.out.cell (World.block_lt_of_cell? w _ hx105_0)).trans hx105_0;replace hx105_1:=(HB.out.cell (World.block_lt_of_cell? w _ hx105_1)).trans hx105_1;replace hx105_2:=(HB.out.cell (World.block_lt_of_cell? w _ hx105_2)).trans hx105_2;replace hx105_3:=(HB.out.cell (World.block_lt_of_cell? w _ hx105_3)).trans hx105_3;replace hx105_4:=(HB.out.cell (World.block_lt_of_cell? w _ hx105_4)).trans hx105_4;replace hx105_5:=(HB.out.cell (World.block_lt_of_cell? w _ hx105_5)).trans hx105_5;replace hx105_6:=(HB.out.cell (World.block_lt_of_cell? w _ hx105_6)).trans hx105_6;replace hx105_7:=(HB.out.cell (World.block_lt_of_cell? w _ hx105_7)).trans hx105_7;replace hx105_8:=(HB.out.cell (World.block_lt_of_cell? w _ hx105_8)).trans hx105_8;replace hx105_9:=(HB.out.cell (World.block_lt_of_cell? w _ hx105_9)).trans hx105_9;replace hx105_10:=(HB.out.cell (World.block_lt_of_cell? w _ hx105_10)).trans hx105_10;have HR105_10:=Aside0.mk hi105_10;have HC105_10:=Aside0.mk hl105_10;clear hi105_10 hl105_10;replace p105:=eq_true p105;replace q105:=eq_true q105;go_wp2_with (first|((with_reducible refine gate_dst (N:=8) rfl ?_);refine box_event ?hg (N:=8) ?hd (cs:=#[.string (⟨#[]⟩:ByteArray),.int .i64 0,.string (⟨#[]⟩:ByteArray),.int .i64 0,.int .i64 0,.int .i64 0,.string (⟨#[]⟩:ByteArray),.string (⟨#[]⟩:ByteArray),.int .i64 0,.int .i64 0,.slice none 0 0]) (t:=26) ?hr ?_;(case hd=>rfl);(case hg=>rfl);(case hr=>first|(go_simp;done)|(go_simp;rfl));intro gb106 hg w12 hbox hb;have n0_:=Aside0.mk (Kd.R_below (by (with_reducible repeat (first|apply Kd.R_alloc|apply Kd.R_drewN|apply Kd.R_drew));exact HO_6.out) hb);have n1_:=Aside0.mk (below_step (by repeat (first|(with_reducible first|exact HB.out|apply bwA|apply pwbN|apply bw1)|exact HB.out)) hb);have n2_:=Aside0.mk (hbox);have n3_:=Aside0.mk ((by rw [hg];exact (below_size (by repeat (first|(with_reducible first|exact HB.out|apply bwA|apply pwbN|apply bw1)|exact HB.out))):w.heap.size ≤ gb106));have n4_:=Aside0.mk ((by rw [hg];exact (below_size (by repeat (first|(with_reducible first|exact HB.out|apply bwA|apply pwbN|apply bw1)|exact HB.out))):w.heap.size ≤ gb106));clear HO_6;clear HB;have HO_6:=n0_;have HB:=n1_;have BK106:=n2_;have GW106:=n3_;have GE106:=n4_;clear n0_ n1_ n2_ n3_ n4_;clear hb hbox hg;obtain ⟨_,_,_,_,_,_,_,_,_,_,_,_,_,_,_,_,_,_,_,_,_,_⟩:=blkA11 BK106.out)|((with_reducible refine gate_callee (f:=8) rfl ?_);refine goesL_ (some 25) rfl rfl Tryz.func8 (by kernel_rfl) rfl #[.agg #[.string ((rd_T26 l0 x19_1).f0),.int .i64 ((rd_T26 l0 x19_1).f1),.string ((rd_T26 l0 x19_1).f2),.int .i64 ((rd_T26 l0 x19_1).f3.f0),.int .i64 ((rd_T26 l0 x19_1).f3.f1),.int .i64 ((rd_T26 l0 x19_1).f3.f2),.string ((rd_T26 l0 x19_1).f3.f3),.string ((rd_T26 l0 x19_1).f3.f4),.int .i64 ((rd_T26 l0 x19_1).f3.f5),.int .i64 ((rd_T26 l0 x19_1).f3.f6),.slice A105_10 ((rd_T26 l0 x19_1).f4).length c105_10]] rfl (by (try simp only [List.map_toArray,List.map_cons,List.map_nil]);first|done|rfl|(simp only [List.length_drop,List.length_take];rfl)) ?_;(with_reducible refine (member_Write.calls k1 ((rd_T26 l0 x19_1).f0) ((rd_T26 l0 x19_1).f1) ((rd_T26 l0 x19_1).f2) ((rd_T26 l0 x19_1).f3.f0) ((rd_T26 l0 x19_1).f3.f1) ((rd_T26 l0 x19_1).f3.f2) ((rd_T26 l0 x19_1).f3.f3) ((rd_T26 l0 x19_1).f3.f4) ((rd_T26 l0 x19_1).f3.f5) ((rd_T26 l0 x19_1).f3.f6) _ _ ((rd_T26 l0 x19_1).f4) t107 t110 _ ?side1 ?side2 (by first|exact HT0|exact ⟨tab_on HT0.out HB.out⟩|exact ⟨tab_on HT0.out (by repeat (first|(with_reducible first|exact HB.out|apply bwA|apply pwbN|apply bw1|refine below_set ?_ GE106.out)|exact HB.out|exact Below.refl _ _))⟩) A10.out).mono ?_);(case side1=>exact Kd.C_below HR105_10.out (by repeat (first|(with_reducible first|exact HB.out|apply bwA|apply pwbN|apply bw1|refine below_set ?_ GE106.out)|exact HB.out)));(case side2=>exact HC105_10.out);rintro e w14 ⟨v108,rfl,ho0,hb⟩;refine ⟨_,rfl,?_⟩;have n0_:=Aside0.mk (Kd.R_below (by (with_reducible repeat (first|apply Kd.R_alloc|apply Kd.R_drewN|apply Kd.R_drew));exact (Kd.R_mono (fR36 10 (fR36 9 (fR36 8 (fR36 7 (fR36 6 (fR36 5 (fR36 4 (fR36 3 (fR36 2 (fR36 1 (fR36 0 (Kd.R_types HO_6.out BK106.out (by decide)) _) _) _) _) _) _) _) _) _) _) _) (fun _ h_=>h_.1))) hb);have n1_:=Aside0.mk (Kd.R_lower ho0 (below_size (by repeat (first|(with_reducible first|exact HB.out|apply bwA|apply pwbN|apply bw1|refine below_set ?_ GE106.out)|exact HB.out))));have n2_:=Aside0.mk (blk_below (g:=gb106) (o := .cells #[.string ((rd_T26 l0 x19_1).f0),.int .i64 ((rd_T26 l0 x19_1).f1),.string ((rd_T26 l0 x19_1).f2),.int .i64 ((rd_T26 l0 x19_1).f3.f0),.int .i64 ((rd_T26 l0 x19_1).f3.f1),.int .i64 ((rd_T26 l0 x19_1).f3.f2),.string ((rd_T26 l0 x19_1).f3.f3),.string ((rd_T26 l0 x19_1).f3.f4),.int .i64 ((rd_T26 l0 x19_1).f3.f5),.int .i64 ((rd_T26 l0 x19_1).f3.f6),.slice A105_10 ((rd_T26 l0 x19_1).f4).length c105_10] 26 (0,0)) (by (with_reducible repeat (first|refine blk_drewN ?_ _|refine blk_drew ?_|refine blk_alloc ?_ _));refine blk_put (cs:=#[.string ((rd_T26 l0 x19_1).f0),.int .i64 ((rd_T26 l0 x19_1).f1),.string ((rd_T26 l0 x19_1).f2),.int .i64 ((rd_T26 l0 x19_1).f3.f0),.int .i64 ((rd_T26 l0 x19_1).f3.f1),.int .i64 ((rd_T26 l0 x19_1).f3.f2),.string ((rd_T26 l0 x19_1).f3.f3),.string ((rd_T26 l0 x19_1).f3.f4),.int .i64 ((rd_T26 l0 x19_1).f3.f5),.int .i64 ((rd_T26 l0 x19_1).f3.f6),.slice none 0 0]) ?_ 10 _ rfl;(with_reducible repeat (first|refine blk_drewN ?_ _|refine blk_drew ?_|refine blk_alloc ?_ _));refine blk_put (cs:=#[.string ((rd_T26 l0 x19_1).f0),.int .i64 ((rd_T26 l0 x19_1).f1),.string ((rd_T26 l0 x19_1).f2),.int .i64 ((rd_T26 l0 x19_1).f3.f0),.int .i64 ((rd_T26 l0 x19_1).f3.f1),.int .i64 ((rd_T26 l0 x19_1).f3.f2),.string ((rd_T26 l0 x19_1).f3.f3),.string ((rd_T26 l0 x19_1).f3.f4),.int .i64 ((rd_T26 l0 x19_1).f3.f5),.int .i64 0,.slice none 0 0]) ?_ 9 _ rfl;(with_reducible repeat (first|refine blk_drewN ?_ _|refine blk_drew ?_|refine blk_alloc ?_ _));refine blk_put (cs:=#[.string ((rd_T26 l0 x19_1).f0),.int .i64 ((rd_T26 l0 x19_1).f1),.string ((rd_T26 l0 x19_1).f2),.int .i64 ((rd_T26 l0 x19_1).f3.f0),.int .i64 ((rd_T26 l0 x19_1).f3.f1),.int .i64 ((rd_T26 l0 x19_1).f3.f2),.string ((rd_T26 l0 x19_1).f3.f3),.string ((rd_T26 l0 x19_1).f3.f4),.int .i64 0,.int .i64 0,.slice none 0 0]) ?_ 8 _ rfl;(with_reducible repeat (first|refine blk_drewN ?_ _|refine blk_drew ?_|refine blk_alloc ?_ _));refine blk_put (cs:=#[.string ((rd_T26 l0 x19_1).f0),.int .i64 ((rd_T26 l0 x19_1).f1),.string ((rd_T26 l0 x19_1).f2),.int .i64 ((rd_T26 l0 x19_1).f3.f0),.int .i64 ((rd_T26 l0 x19_1).f3.f1),.int .i64 ((rd_T26 l0 x19_1).f3.f2),.string ((rd_T26 l0 x19_1).f3.f3),.string (⟨#[]⟩:ByteArray),.int .i64 0,.int .i64 0,.slice none 0 0]) ?_ 7 _ rfl;(with_reducible repeat (first|refine blk_drewN ?_ _|refine blk_drew ?_|refine blk_alloc ?_ _));refine blk_put (cs:=#[.string ((rd_T26 l0 x19_1).f0),.int .i64 ((rd_T26 l0 x19_1).f1),.string ((rd_T26 l0 x19_1).f2),.int .i64 ((rd_T26 l0 x19_1).f3.f0),.int .i64 ((rd_T26 l0 x19_1).f3.f1),.int .i64 ((rd_T26 l0 x19_1).f3.f2),.string (⟨#[]⟩:ByteArray),.string (⟨#[]⟩:ByteArray),.int .i64 0,.int .i64 0,.slice none 0 0]) ?_ 6 _ rfl;(with_reducible repeat (first|refine blk_drewN ?_ _|refine blk_drew ?_|refine blk_alloc ?_ _));refine blk_put (cs:=#[.string ((rd_T26 l0 x19_1).f0),.int .i64 ((rd_T26 l0 x19_1).f1),.string ((rd_T26 l0 x19_1).f2),.int .i64 ((rd_T26 l0 x19_1).f3.f0),.int .i64 ((rd_T26 l0 x19_1).f3.f1),.int .i64 0,.string (⟨#[]⟩:ByteArray),.string (⟨#[]⟩:ByteArray),.int .i64 0,.int .i64 0,.slice none 0 0]) ?_ 5 _ rfl;(with_reducible repeat (first|refine blk_drewN ?_ _|refine blk_drew ?_|refine blk_alloc ?_ _));refine blk_put (cs:=#[.string ((rd_T26 l0 x19_1).f0),.int .i64 ((rd_T26 l0 x19_1).f1),.string ((rd_T26 l0 x19_1).f2),.int .i64 ((rd_T26 l0 x19_1).f3.f0),.int .i64 0,.int .i64 0,.string (⟨#[]⟩:ByteArray),.string (⟨#[]⟩:ByteArray),.int .i64 0,.int .i64 0,.slice none 0 0]) ?_ 4 _ rfl;(with_reducible repeat (first|refine blk_drewN ?_ _|refine blk_drew ?_|refine blk_alloc ?_ _));refine blk_put (cs:=#[.string ((rd_T26 l0 x19_1).f0),.int .i64 ((rd_T26 l0 x19_1).f1),.string ((rd_T26 l0 x19_1).f2),.int .i64 0,.int .i64 0,.int .i64 0,.string (⟨#[]⟩:ByteArray),.string (⟨#[]⟩:ByteArray),.int .i64 0,.int .i64 0,.slice none 0 0]) ?_ 3 _ rfl;(with_reducible repeat (first|refine blk_drewN ?_ _|refine blk_drew ?_|refine blk_alloc ?_ _));refine blk_put (cs:=#[.string ((rd_T26 l0 x19_1).f0),.int .i64 ((rd_T26 l0 x19_1).f1),.string (⟨#[]⟩:ByteArray),.int .i64 0,.int .i64 0,.int .i64 0,.string (⟨#[]⟩:ByteArray),.string (⟨#[]⟩:ByteArray),.int .i64 0,.int .i64 0,.slice none 0 0]) ?_ 2 _ rfl;(with_reducible repeat (first|refine blk_drewN ?_ _|refine blk_drew ?_|refine blk_alloc ?_ _));refine blk_put (cs:=#[.string ((rd_T26 l0 x19_1).f0),.int .i64 0,.string (⟨#[]⟩:ByteArray),.int .i64 0,.int .i64 0,.int .i64 0,.string (⟨#[]⟩:ByteArray),.string (⟨#[]⟩:ByteArray),.int .i64 0,.int .i64 0,.slice none 0 0]) ?_ 1 _ rfl;(with_reducible repeat (first|refine blk_drewN ?_ _|refine blk_drew ?_|refine blk_alloc ?_ _));refine blk_put (cs:=#[.string (⟨#[]⟩:ByteArray),.int .i64 0,.string (⟨#[]⟩:ByteArray),.int .i64 0,.int .i64 0,.int .i64 0,.string (⟨#[]⟩:ByteArray),.string (⟨#[]⟩:ByteArray),.int .i64 0,.int .i64 0,.slice none 0 0]) ?_ 0 _ rfl;(with_reducible repeat (first|refine blk_drewN ?_ _|refine blk_drew ?_|refine blk_alloc ?_ _));exact BK106.out) hb);have n3_:=Aside0.mk (below_step (by repeat (first|(with_reducible first|exact HB.out|apply bwA|apply pwbN|apply bw1|refine below_set ?_ GE106.out)|exact HB.out)) hb);clear HO_6;clear BK106;clear HB;have HO_6:=n0_;have HO109:=n1_;have BK106:=n2_;have HB:=n3_;clear n0_ n1_ n2_ n3_;(try clear hb);(try clear hb2);(try clear hk);(try clear hi);(try clear ho0);obtain ⟨Ao15,co15,eo15⟩:=Kd.R_slice HO109.out;subst eo15)|((with_reducible refine gate_builtin (b := .append) (xs:=#[.tmp 32,.tmp 34]) rfl ?_);at_builtin;refine Kd.R_append (Kd.int .i64) (w0:=w) w.heap.size rfl (.tmp 32) (.tmp 34) 34 3 (.int .i64 0) 8 rfl Tryz.underlying34 info3 rfl (by decide) (by omega) u6 x6_1 (wrap64 (x5_1 + (t107.length:Int))) [.int .i64 (wrap64 (x5_1 + (t107.length:Int)))] (fun _=>True) (fun _=>False) rfl rfl ?aP (fun _ hk=>hk.elim) ?aF ?aO ?aB ?aS ?aL ?_;(case aP=>exact rfl);(case aB=>exact (by repeat (first|(with_reducible first|exact HB.out|apply bwA|apply pwbN|apply bw1|refine below_set ?_ GE106.out)|exact HB.out)));(case aF=>exact (fun _ _=>trivial));(case aO=>exact (by (with_reducible repeat (first|apply Kd.R_alloc|apply Kd.R_drewN|apply Kd.R_drew));exact HO_6.out));(case aS=>exact (below_size (by repeat (first|(with_reducible first|exact HB.out|apply bwA|apply pwbN|apply bw1|refine below_set ?_ GE106.out)|exact HB.out))));(case aL=>have:=LMc11.out;omega);intro v112 w16 ho hb hg hat;rw [← Ny111.out] at ho;have n0_:=Aside0.mk (blk_grown (g:=gb106) (o := .cells #[.string ((rd_T26 l0 x19_1).f0),.int .i64 ((rd_T26 l0 x19_1).f1),.string ((rd_T26 l0 x19_1).f2),.int .i64 ((rd_T26 l0 x19_1).f3.f0),.int .i64 ((rd_T26 l0 x19_1).f3.f1),.int .i64 ((rd_T26 l0 x19_1).f3.f2),.string ((rd_T26 l0 x19_1).f3.f3),.string ((rd_T26 l0 x19_1).f3.f4),.int .i64 ((rd_T26 l0 x19_1).f3.f5),.int .i64 ((rd_T26 l0 x19_1).f3.f6),.slice A105_10 ((rd_T26 l0 x19_1).f4).length c105_10] 26 (0,0)) (by (with_reducible repeat (first|refine blk_drewN ?_ _|refine blk_drew ?_|refine blk_alloc ?_ _));exact BK106.out) hg (Kd.R_ne HO_6.out BK106.out (by decide)));have n1_:=Aside0.mk (Kd.R_over' (by (with_reducible repeat (first|apply Kd.R_alloc|apply Kd.R_drewN|apply Kd.R_drew));exact HO109.out) (Kd.R_typed (by (with_reducible repeat (first|apply Kd.R_alloc|apply Kd.R_drewN|apply Kd.R_drew));exact HO_6.out)) (by decide) hg);have n2_:=Aside0.mk (hb);have n3_:=Aside0.mk (ho);clear BK106;clear HO109;clear HB;clear HO_6;have BK106:=n0_;have HO109:=n1_;have HB:=n2_;have HO113:=n3_;clear n0_ n1_ n2_ n3_;clear ho hb hg hat))
        go_roundg k1
        case measure=>have:=HK1.out;omega
        case rel=>exact ⟨(wrap64 (x5_1 + (t107.length:Int))),(y111),(wrap64 (x19_1 + 1)),(by first|rfl|(simp;done)|(simp [*];done)),(by first|rfl|(simp;done)|(simp [*];done)),H',⟨by have:=HK1.out;omega⟩,⟨by (with_reducible repeat (first|apply Kd.R_alloc|apply Kd.R_drewN|apply Kd.R_drew));exact HO113.out⟩,⟨by repeat (first|(with_reducible first|exact HB.out|apply bwA|apply pwbN|apply bw1|refine below_set ?_ GE106.out)|exact HB.out)⟩⟩
       ·rw [if_neg c11] at H;exact absurd H (by simp)
      ·rw [if_neg c9] at H;exact absurd H (by simp)
     ·rw [if_neg c8] at H;exact absurd H (by simp)
    ·rw [if_neg c7] at H;have c7b0:decide (x19_1 < (l0.length:Int)) = false:=decide_eq_false c7;clear c7;by_cases c17:([]:List Int).length + x6_1.length < 17592186044416
     ·rw [if_pos c17] at H;have LMc17:=Aside0.mk c17;clear c17;obtain ⟨y114,hy114⟩:∃ y_:List Int,y_ = (([]:List Int) ++ x6_1):=⟨_,rfl⟩
      replace H:(some (y114,0)) = some (r1,r2):=by first|(rw [hy114];with_reducible exact H)|(have H2_:=(Option.bind_some _ _).symm.trans H;rw [hy114];with_reducible exact H2_)|(have H2_:=(Option.bind_some _ _).symm.trans H;with_reducible exact H2_)|with_reducible exact H|(rw [hy114];exact H)|exact H
      have Ny114:=Aside0.mk hy114;clear hy114;simp only [Option.some.injEq,Prod.mk.injEq] at H;obtain ⟨rfl,rfl⟩:=H;obtain ⟨Ao19,co19,eo19⟩:=Kd.R_slice HO_6.out;subst eo19;go_wp2_with (first|((with_reducible refine gate_builtin (b := .append) (xs:=#[.const (.slice none 0 0),.tmp 37]) rfl ?_);at_builtin;refine Kd.R_append_rows (Kd.int .i64) (w0:=w) w.heap.size rfl (.const (.slice none 0 0)) (.tmp 37) 34 3 (.int .i64 0) 8 rfl Tryz.underlying34 info3 rfl (by decide) (by omega) (.slice none 0 0) ([]:List Int) x6_1 _ _ _ (fun k_=>some k_ ≠ (.slice Ao19 x6_1.length co19:Value).ownBlock) (fun _=>False) rfl rfl ?aO ?aR (fun _ _ h=>h) (fun _ h=>h.elim) ?aF ?aB ?aS ?aL ?_;(case aR=>repeat (first|exact (Kd.R_reads' HO_6.out).2.2|(with_reducible refine Kd.C_alloc ?_ _)|(with_reducible refine Kd.C_drewN ?_ _)|(with_reducible refine Kd.C_drew ?_)));(case aB=>exact (by repeat (first|(with_reducible first|exact HB.out|apply bwA|apply pwbN|apply bw1)|exact HB.out)));(case aF=>exact (fun k_ hk=>Kd.fresh' (Kd.R_lt (by (with_reducible repeat (first|apply Kd.R_alloc|apply Kd.R_drewN|apply Kd.R_drew));exact HO_6.out)) k_ hk));(case aO=>exact ((Kd.R_nil _ _ _ _ (fun k_=>some k_ ≠ (.slice Ao19 x6_1.length co19:Value).ownBlock))));(case aS=>exact (below_size (by repeat (first|(with_reducible first|exact HB.out|apply bwA|apply pwbN|apply bw1)|exact HB.out))));(case aL=>have:=LMc17.out;omega);intro v115 w18 ho hb hg hat;rw [← Ny114.out] at ho;have n0_:=Aside0.mk (Kd.R_after (Kd.R_apart_nil (by (with_reducible repeat (first|apply Kd.R_alloc|apply Kd.R_drewN|apply Kd.R_drew));exact HO_6.out)) hg hat);have n1_:=Aside0.mk (hb);have n2_:=Aside0.mk (ho);clear HO_6;clear HB;have HO_6:=n0_;have HB:=n1_;have HO116:=n2_;clear n0_ n1_ n2_;clear ho hb hg hat))
      go_ret2
      exact ⟨_,by first|rfl|(simp [errW_none,errW_some] <;> rfl)|(simp [*,errW_none,errW_some] <;> rfl),by (with_reducible repeat (first|apply Kd.R_alloc|apply Kd.R_drewN|apply Kd.R_drew));exact Kd.R_mono HO116.out (fun _ hk=>trivial),by repeat (first|(with_reducible first|exact HB.out|apply bwA|apply pwbN|apply bw1)|exact HB.out)⟩
     ·rw [if_neg c17] at H;exact absurd H (by simp)
 ·rw [if_neg c3] at H;have c3b0:(t101 == 0) = false:=beq_eq_false_iff_ne.mpr c3;have c3b1:(t101 != 0) = true:=bne_iff_ne.mpr c3;simp only [Option.some.injEq,Prod.mk.injEq] at H;obtain ⟨rfl,rfl⟩:=H;go_enter Tryz.func12,Tryz.ntmps12;go_wp2_with (first|((with_reducible refine gate_callee (f:=36) rfl ?_);refine goesL_ (some 12) rfl rfl Tryz.func36 (by kernel_rfl) rfl #[.slice A0 l0.length c0] rfl (by (try simp only [List.map_toArray,List.map_cons,List.map_nil]);first|done|rfl|(simp only [List.length_drop,List.length_take];rfl)) ?_;(with_reducible refine (plan_Check.calls k _ _ l0 t101 _ ?side1 ?side2 A2.out).mono ?_);(case side1=>repeat (first|exact HR0.out|(with_reducible refine Kd.C_alloc ?_ _)|(with_reducible refine Kd.C_drewN ?_ _)|(with_reducible refine Kd.C_drew ?_)));(case side2=>exact HC0.out);rintro e w20 ⟨rfl,hb⟩;refine ⟨_,rfl,?_⟩;have n0_:=Aside0.mk (below_step (by repeat (first|(with_reducible first|exact HB.out|apply bwA|apply pwbN|apply bw1)|exact HB.out)) hb);clear HB;have HB:=n0_;clear n0_;(try clear hb);(try clear hb2);(try clear hk);(try clear hi)))
  go_ret2
  exact ⟨_,by first|rfl|(simp [errW_none,errW_some] <;> rfl)|(simp [*,errW_none,errW_some] <;> rfl),by first|exact Kd.R_nil _ _ _ _ _|exact Kd.N_nil _ _ _ _ _|exact Kd.V_nil _ _ _ _ _|exact Kd.Q_nil _ _ _ _ _|exact Kd.S_nil _ _ _ _ _,by repeat (first|(with_reducible first|exact HB.out|apply bwA|apply pwbN|apply bw1)|exact HB.out)⟩
def creelref_has.l0:Nat→ByteArray→Int→Int→Option (Bool)
 | 0,_,_,_=>none
 | k + 1,x0,x1,x5=>if x5 < (x0.size:Int) then (if 0 ≤ x5 then (if (bt x0 x5) = x1 then (some true) else (creelref_has.l0 k x0 x1 (wrap64 (x5 + 1)))) else (none)) else (some false)
def creelref_has.f (k:Nat) (a0:ByteArray) (a1:Int):Option (Bool):=creelref_has.l0 k a0 a1 0
theorem creelref_has.mono_l:∀ k,(∀ y0 y1 y2,LeO (creelref_has.l0 k y0 y1 y2) (creelref_has.l0 (k + 1) y0 y1 y2))
 | 0=>fun _ _ _ r h=>by simp [creelref_has.l0] at h
 | k + 1=>by
  have ih0:=creelref_has.mono_l k
  ·intro y0 y1 y2
   unfold creelref_has.l0
   repeat' first
   | (with_reducible exact ih0 _ _ _)
   | (with_reducible exact LeO.refl _)
   | (with_reducible exact LeO.none _)
   | (with_reducible refine LeO.ite ?_ ?_)
   | (with_reducible refine LeO.bind ?_ (fun _=>?_))
   | exact ih0 _ _ _
   | exact LeO.none _
   | refine LeO.ite ?_ ?_
   | refine LeO.bind ?_ (fun _=>?_)
theorem creelref_has.mono:∀ a0 a1 k,LeO (creelref_has.f k a0 a1) (creelref_has.f (k + 1) a0 a1):=by
 intro a0 a1 k;have ih0:=creelref_has.mono_l k;unfold creelref_has.f;repeat' first
  | (with_reducible exact ih0 _ _ _)
  | (with_reducible exact LeO.refl _)
  | (with_reducible exact LeO.none _)
  | (with_reducible refine LeO.ite ?_ ?_)
  | (with_reducible refine LeO.bind ?_ (fun _=>?_))
  | exact ih0 _ _ _
  | exact LeO.none _
  | refine LeO.ite ?_ ?_
  | refine LeO.bind ?_ (fun _=>?_)
set_option maxHeartbeats 8000000 in
set_option maxRecDepth 100000 in
theorem creelref_has.calls (k:Nat) (a0:ByteArray) (a1:Int) (r:Bool) (w:World) (h:creelref_has.f k a0 a1 = some r) :
 Calls Tryz.prog 77 #[.string a0,.int .u8 a1] w fun e w'=>e = .returned (.bool r)∧Drawn0 w w':=by
 have H:(creelref_has.l0 k a0 a1 0) = some r:=h;clear h;have H':=Aside0.mk H;clear H;go_enter Tryz.func77,Tryz.ntmps77;go_wp2;go_loopg [5] k (fun kq v5 w'=>∃ (x5_1:Int),v5 = .int .i64 x5_1∧Aside0 (creelref_has.l0 kq a0 a1 x5_1 = some r)∧Aside0 (kq ≤ k)∧Drawn0 w w')
 case atStart=>exact ⟨(0),(by first|rfl|(simp;done)|(simp [*];done)),H',⟨Nat.le_refl _⟩,by repeat (first|exact Drawn0.refl _|apply Drawn0.step)⟩
 case round =>
  clear H';obtain ⟨x5_1,rfl,HA,HK1,⟨m1,rfl⟩⟩:=hrel;cases gk with
  | zero=>exact absurd HA.out (by simp [creelref_has.l0])
  | succ k1 =>
   have H:=HA.out;clear HA;simp only [creelref_has.l0] at H;by_cases c3:x5_1 < (a0.size:Int)
   ·rw [if_pos c3] at H;have c3b0:decide (x5_1 < (a0.size:Int)) = true:=decide_eq_true c3;clear c3;by_cases c4:0 ≤ x5_1
    ·rw [if_pos c4] at H;have c4b0:decide (0 ≤ x5_1) = true:=decide_eq_true c4;clear c4;by_cases c6:(bt a0 x5_1) = a1
     ·rw [if_pos c6] at H;have c6b0:((bt a0 x5_1) == a1) = true:=beq_iff_eq.mpr c6;have c6b1:((bt a0 x5_1) != a1) = false:=bne_eq_false_iff_eq.mpr c6;clear c6;obtain rfl:=Option.some.inj H;have p5:0 ≤ (x5_1:Int):=of_decide_eq_true (by first|(with_reducible assumption)|assumption);have q5:x5_1 < (a0.size:Int):=of_decide_eq_true (by first|(with_reducible assumption)|assumption);have hx5:=bt_at a0 x5_1;replace p5:=eq_true p5;replace q5:=eq_true q5;go_wp2;go_ret
      exact ⟨by first|rfl|(simp;done)|(simp [*];done),by repeat (first|exact Drawn0.refl _|apply Drawn0.step)⟩
     ·rw [if_neg c6] at H;have c6b0:((bt a0 x5_1) == a1) = false:=beq_eq_false_iff_ne.mpr c6;have c6b1:((bt a0 x5_1) != a1) = true:=bne_iff_ne.mpr c6;have H':=Aside0.mk H;clear H;have p5:0 ≤ (x5_1:Int):=of_decide_eq_true (by first|(with_reducible assumption)|assumption);have q5:x5_1 < (a0.size:Int):=of_decide_eq_true (by first|(with_reducible assumption)|assumption);have hx5:=bt_at a0 x5_1;replace p5:=eq_true p5;replace q5:=eq_true q5;go_wp2;go_roundg k1
      case measure=>have:=HK1.out;omega
      case rel=>exact ⟨(wrap64 (x5_1 + 1)),(by first|rfl|(simp;done)|(simp [*];done)),H',⟨by have:=HK1.out;omega⟩,by repeat (first|exact Drawn0.refl _|apply Drawn0.step)⟩
    ·rw [if_neg c4] at H;exact absurd H (by simp)
   ·rw [if_neg c3] at H;have c3b0:decide (x5_1 < (a0.size:Int)) = false:=decide_eq_false c3;clear c3;obtain rfl:=Option.some.inj H;go_wp2;go_ret
    exact ⟨by first|rfl|(simp;done)|(simp [*];done),by repeat (first|exact Drawn0.refl _|apply Drawn0.step)⟩
end Go.Proofs.YtenbelecmmpdgaaGreatDoor.All
end
section
namespace Go.Proofs.YtenbelecmmpdgaaGreatDoor.All
open Go.RowKit Go.Proofs.YtenbelecmmpdgaaGreatDoorW.PrintWords Go.Proofs.YtenbelecmmpdgaaGreatDoorW.PrintLast Go.Proofs.YtenbelecmmpdgaaGreatDoorW.PrintMore
open Go.Proofs.YtenbelecmmpdgaaGreatDoorW.Mine
attribute [local go_sem] gtr_string leq_string geq_string
attribute [local go_sem] max2_int min2_int max_two min_two max_three min_three max_four min_four
set_option linter.unusedVariables false
set_option linter.unusedSimpArgs false
mutual
def creelref_CutTwo.j0:Nat→ByteArray→Bool→Option (ByteArray × ByteArray × Int)
 | 0,_,_=>none
 | k + 1,x0,x11=>if x11 = true then (some ((⟨#[]⟩:ByteArray),(⟨#[]⟩:ByteArray),3)) else (if (x0.size:Int) ≤ 100 then (some ((⟨#[]⟩:ByteArray),x0,0)) else (creelref_CutTwo.l0 k x0 1))
def creelref_CutTwo.l0:Nat→ByteArray→Int→Option (ByteArray × ByteArray × Int)
 | 0,_,_=>none
 | k + 1,x0,x5=>if x5 < (wrap64 ((x0.size:Int) - 1)) then (creelref_CutTwo.j2 k x0 x5 (decide (x5 ≤ 155))) else (creelref_CutTwo.j2 k x0 x5 false)
def creelref_CutTwo.j2:Nat→ByteArray→Int→Bool→Option (ByteArray × ByteArray × Int)
 | 0,_,_,_=>none
 | k + 1,x0,x5,x24=>if x24 = true then (if 0 ≤ x5 then (if x5 < (x0.size:Int) then (if (bt x0 x5) = 47 then (if (wrap64 ((wrap64 ((x0.size:Int) - x5)) - 1)) ≤ 100 then (if x5 ≤ (x0.size:Int) then (if 0 ≤ (wrap64 (x5 + 1)) then (if (wrap64 (x5 + 1)) ≤ (x0.size:Int) then (some (x0.extract 0 (x5:Int).toNat,x0.extract ((wrap64 (x5 + 1)):Int).toNat x0.size,0)) else (none)) else (none)) else (none)) else (creelref_CutTwo.l0 k x0 (wrap64 (x5 + 1)))) else (creelref_CutTwo.l0 k x0 (wrap64 (x5 + 1)))) else (none)) else (none)) else (some ((⟨#[]⟩:ByteArray),(⟨#[]⟩:ByteArray),1))
end
def creelref_CutTwo.f (k:Nat) (a0:ByteArray):Option (ByteArray × ByteArray × Int):=if a0.toList = ([]:List UInt8) then (creelref_CutTwo.j0 k a0 true) else ((creelref_has.f k a0 0).bind fun t101=>(creelref_CutTwo.j0 k a0 t101))
set_option maxHeartbeats 8000000 in
set_option maxRecDepth 100000 in
theorem creelref_CutTwo.calls (k:Nat) (a0:ByteArray) (r1:ByteArray) (r2:ByteArray) (r3:Int) (w:World) (h:creelref_CutTwo.f k a0 = some (r1,r2,r3)) :
 Calls Tryz.prog 72 #[.string a0] w fun e w'=>e = .returned (.tuple #[.string r1,.string r2,.int .i64 r3])∧Drawn0 w w':=by
 have H:(if a0.toList = ([]:List UInt8) then (creelref_CutTwo.j0 k a0 true) else ((creelref_has.f k a0 0).bind fun t101=>(creelref_CutTwo.j0 k a0 t101))) = some (r1,r2,r3):=h;clear h;have HC2:=Aside0.mk H;clear H;go_enter Tryz.func72,Tryz.ntmps72;go_upto_region 1 with (fail)
 repeat (go_quiet (fail);go_upto_region 1 with (fail))
 go_cut [11] (fun v11 wc=>∃ (kq:Nat) (x11_1:Bool),v11 = .bool x11_1∧Aside0 (creelref_CutTwo.j0 kq a0 x11_1 = some (r1,r2,r3))∧Aside0 (kq ≤ k)∧Drawn0 w wc)
 case first =>
  have H:=HC2.out;clear HC2;by_cases c3:a0.toList = ([]:List UInt8)
  ·rw [if_pos c3] at H;have c3b0:(a0.toList == ([]:List UInt8)) = true:=beq_iff_eq.mpr c3;have c3b1:(a0.toList != ([]:List UInt8)) = false:=bne_eq_false_iff_eq.mpr c3;clear c3;(first|rw [c3b0]|(simp only [i64_w,i32_w];rw [c3b0])|skip);have H':=Aside0.mk H;clear H;go_wp2;repeat (go_quiet (fail);try go_wp2)
   go_meet
   case rel=>exact ⟨_,(true),(by first|rfl|(simp;done)|(simp [*];done)),H',⟨by first|omega|exact Nat.le_refl _⟩,by repeat (first|exact Drawn0.refl _|apply Drawn0.step)⟩
  ·rw [if_neg c3] at H;have c3b0:(a0.toList == ([]:List UInt8)) = false:=beq_eq_false_iff_ne.mpr c3;have c3b1:(a0.toList != ([]:List UInt8)) = true:=bne_iff_ne.mpr c3;(first|rw [c3b0]|(simp only [i64_w,i32_w];rw [c3b0])|skip);replace H:=Option.bind_eq_some_iff.mp H;obtain ⟨t101,A40,H⟩:=H;replace H:(creelref_CutTwo.j0 k a0 t101) = some (r1,r2,r3):=H;have A4:=Aside0.mk A40;clear A40;have H':=Aside0.mk H;clear H;go_wp2_with (first|(go_at_call 77;(with_reducible refine (creelref_has.calls k a0 0 t101 _ A4.out).mono ?_);rintro e w' ⟨rfl,⟨nd,rfl⟩⟩;(try first|exact ⟨rfl,_,World.drewN_drewN _ _ _⟩|exact ⟨rfl,_,Eq.trans (World.drewN_drewN _ _ _) (congrArg (World.drewN _) (Nat.add_assoc _ _ _))⟩)))
   repeat (go_quiet (first|(go_at_call 77;(with_reducible refine (creelref_has.calls k a0 0 t101 _ A4.out).mono ?_);rintro e w' ⟨rfl,⟨nd,rfl⟩⟩;(try first|exact ⟨rfl,_,World.drewN_drewN _ _ _⟩|exact ⟨rfl,_,Eq.trans (World.drewN_drewN _ _ _) (congrArg (World.drewN _) (Nat.add_assoc _ _ _))⟩)));try go_wp2_with (first|(go_at_call 77;(with_reducible refine (creelref_has.calls k a0 0 t101 _ A4.out).mono ?_);rintro e w' ⟨rfl,⟨nd,rfl⟩⟩;(try first|exact ⟨rfl,_,World.drewN_drewN _ _ _⟩|exact ⟨rfl,_,Eq.trans (World.drewN_drewN _ _ _) (congrArg (World.drewN _) (Nat.add_assoc _ _ _))⟩))))
   go_meet
   case rel=>exact ⟨_,(t101),(by first|rfl|(simp;done)|(simp [*];done)),H',⟨by first|omega|exact Nat.le_refl _⟩,by repeat (first|exact Drawn0.refl _|apply Drawn0.step)⟩
 case rest =>
  clear HC2;obtain ⟨kq,x11_1,rfl,HA,HJ1,⟨mc1,rfl⟩⟩:=hcut;cases kq with
  | zero=>exact absurd HA.out (by simp [creelref_CutTwo.j0])
  | succ kj1 =>
   have H:=HA.out;clear HA;simp only [creelref_CutTwo.j0] at H;by_cases c5:x11_1 = true
   ·subst c5;have H1:(some ((⟨#[]⟩:ByteArray),(⟨#[]⟩:ByteArray),3)) = some (r1,r2,r3):=by rw [if_pos rfl] at H;exact H
    clear H;have H:=H1;clear H1;simp only [Option.some.injEq,Prod.mk.injEq] at H;obtain ⟨rfl,rfl,rfl⟩:=H;go_wp2;repeat (go_quiet (fail);try go_wp2)
    go_ret3
    exact ⟨by first|rfl|(simp;done)|(simp [*];done),by repeat (first|exact Drawn0.refl _|apply Drawn0.step)⟩
   ·replace c5:=Bool.eq_false_iff.mpr c5;subst c5;have H1:(if (a0.size:Int) ≤ 100 then (some ((⟨#[]⟩:ByteArray),a0,0)) else (creelref_CutTwo.l0 kj1 a0 1)) = some (r1,r2,r3):=by rw [if_neg (show ¬ (false = true) by decide)] at H;exact H
    clear H;have H:=H1;clear H1;by_cases c6:(a0.size:Int) ≤ 100
    ·rw [if_pos c6] at H;have c6b0:decide ((a0.size:Int) ≤ 100) = true:=decide_eq_true c6;have c6b1:decide (a0.size ≤ 100) = true:=decide_eq_true (by omega);clear c6;simp only [Option.some.injEq,Prod.mk.injEq] at H;obtain ⟨rfl,rfl,rfl⟩:=H;go_wp2;repeat (go_quiet (fail);try go_wp2)
     go_ret3
     exact ⟨by first|rfl|(simp;done)|(simp [*];done),by repeat (first|exact Drawn0.refl _|apply Drawn0.step)⟩
    ·rw [if_neg c6] at H;have c6b0:decide ((a0.size:Int) ≤ 100) = false:=decide_eq_false c6;have c6b1:decide (a0.size ≤ 100) = false:=decide_eq_false (by omega);clear c6;have H':=Aside0.mk H;clear H;go_wp2;repeat (go_quiet (fail);try go_wp2)
     go_loopg [5] kj1 (fun kq v5 w'=>∃ (x5_2:Int),v5 = .int .i64 x5_2∧Aside0 (creelref_CutTwo.l0 kq a0 x5_2 = some (r1,r2,r3))∧Aside0 (kq ≤ kj1)∧Drawn0 w w')
     case atStart=>exact ⟨(1),(by first|rfl|(simp;done)|(simp [*];done)),H',⟨Nat.le_refl _⟩,by repeat (first|exact Drawn0.refl _|apply Drawn0.step)⟩
     case round =>
      clear H';repeat first|clear c5|clear c6|clear c6b0|clear c6b1
      obtain ⟨x5_2,rfl,HA,HK2,⟨m2,rfl⟩⟩:=hrel;cases gk with
      | zero=>exact absurd HA.out (by simp [creelref_CutTwo.l0])
      | succ k2 =>
       have H:=HA.out;clear HA;simp only [creelref_CutTwo.l0] at H;have HC7:=Aside0.mk H;clear H;go_upto_region 6 with (fail)
       repeat (go_quiet (fail);go_upto_region 6 with (fail))
       go_cut [24] (fun v24 wc=>∃ (kq:Nat) (x24_6:Bool),v24 = .bool x24_6∧Aside0 (creelref_CutTwo.j2 kq a0 x5_2 x24_6 = some (r1,r2,r3))∧Aside0 (kq ≤ k2)∧Drawn0 w wc)
       case first =>
        have H:=HC7.out;clear HC7;by_cases c8:x5_2 < (wrap64 ((a0.size:Int) - 1))
        ·rw [if_pos c8] at H;have c8b0:decide (x5_2 < (wrap64 ((a0.size:Int) - 1))) = true:=decide_eq_true c8;clear c8;(first|rw [c8b0]|(simp only [i64_w,i32_w];rw [c8b0])|skip);have H':=Aside0.mk H;clear H;go_wp2;repeat (go_quiet (fail);try go_wp2)
         go_meet
         case rel=>exact ⟨_,(decide (x5_2 ≤ 155)),(by first|rfl|(simp;done)|(simp [*];done)),H',⟨by have:=HJ1.out;have:=HK2.out;first|omega|exact Nat.le_refl _⟩,by repeat (first|exact Drawn0.refl _|apply Drawn0.step)⟩
        ·rw [if_neg c8] at H;have c8b0:decide (x5_2 < (wrap64 ((a0.size:Int) - 1))) = false:=decide_eq_false c8;clear c8;(first|rw [c8b0]|(simp only [i64_w,i32_w];rw [c8b0])|skip);have H':=Aside0.mk H;clear H;go_wp2;repeat (go_quiet (fail);try go_wp2)
         go_meet
         case rel=>exact ⟨_,(false),(by first|rfl|(simp;done)|(simp [*];done)),H',⟨by have:=HJ1.out;have:=HK2.out;first|omega|exact Nat.le_refl _⟩,by repeat (first|exact Drawn0.refl _|apply Drawn0.step)⟩
       case rest =>
        clear HC7;repeat first|clear c5|clear c6|clear c6b0|clear c6b1
        obtain ⟨kq,x24_6,rfl,HA,HJ6,⟨mc6,rfl⟩⟩:=hcut;cases kq with
        | zero=>exact absurd HA.out (by simp [creelref_CutTwo.j2])
        | succ kj6 =>
         have H:=HA.out;clear HA;simp only [creelref_CutTwo.j2] at H;by_cases c9:x24_6 = true
         ·subst c9;have H1:(if 0 ≤ x5_2 then (if x5_2 < (a0.size:Int) then (if (bt a0 x5_2) = 47 then (if (wrap64 ((wrap64 ((a0.size:Int) - x5_2)) - 1)) ≤ 100 then (if x5_2 ≤ (a0.size:Int) then (if 0 ≤ (wrap64 (x5_2 + 1)) then (if (wrap64 (x5_2 + 1)) ≤ (a0.size:Int) then (some (a0.extract 0 (x5_2:Int).toNat,a0.extract ((wrap64 (x5_2 + 1)):Int).toNat a0.size,0)) else (none)) else (none)) else (none)) else (creelref_CutTwo.l0 kj6 a0 (wrap64 (x5_2 + 1)))) else (creelref_CutTwo.l0 kj6 a0 (wrap64 (x5_2 + 1)))) else (none)) else (none)) = some (r1,r2,r3):=by rw [if_pos rfl] at H;exact H
          clear H;have H:=H1;clear H1;by_cases c10:0 ≤ x5_2
          ·rw [if_pos c10] at H;have c10b0:decide (0 ≤ x5_2) = true:=decide_eq_true c10;clear c10;by_cases c11:x5_2 < (a0.size:Int)
           ·rw [if_pos c11] at H;have c11b0:decide (x5_2 < (a0.size:Int)) = true:=decide_eq_true c11;clear c11;by_cases c13:(bt a0 x5_2) = 47
            ·rw [if_pos c13] at H;have c13b0:((bt a0 x5_2) == 47) = true:=beq_iff_eq.mpr c13;have c13b1:((bt a0 x5_2) != 47) = false:=bne_eq_false_iff_eq.mpr c13;clear c13;by_cases c14:(wrap64 ((wrap64 ((a0.size:Int) - x5_2)) - 1)) ≤ 100
             ·rw [if_pos c14] at H;have c14b0:decide ((wrap64 ((wrap64 ((a0.size:Int) - x5_2)) - 1)) ≤ 100) = true:=decide_eq_true c14;clear c14;have c15b0:=eq_true (of_decide_eq_true (by first|(with_reducible assumption)|assumption):0 ≤ x5_2);by_cases c16:x5_2 ≤ (a0.size:Int)
              ·rw [if_pos c16] at H;have c16b0:=eq_true c16;have c16b1:decide (x5_2 ≤ (a0.size:Int)) = true:=decide_eq_true c16;clear c16;obtain ⟨ji17,hji17⟩:∃ j_:Int,(wrap64 (x5_2 + 1)) = j_:=⟨_,rfl⟩
               replace H:(if 0 ≤ (ji17) then (if (ji17) ≤ (a0.size:Int) then (some (a0.extract 0 (x5_2:Int).toNat,a0.extract ((ji17):Int).toNat a0.size,0)) else (none)) else (none)) = some (r1,r2,r3):=by first|(rw [hji17] at H;exact H)|(simp only [hji17] at H ⊢;exact H)
               have hji17w:(IntKind.i64.wrap (x5_2 + 1)) = ji17:=(i64_w _).trans hji17;by_cases c18:0 ≤ (ji17)
               ·rw [if_pos c18] at H;have c18b0:=eq_true c18;have c18b1:decide (0 ≤ (ji17)) = true:=decide_eq_true c18;clear c18;by_cases c19:(ji17) ≤ (a0.size:Int)
                ·rw [if_pos c19] at H;have c19b0:=eq_true c19;have c19b1:decide ((ji17) ≤ (a0.size:Int)) = true:=decide_eq_true c19;clear c19;simp only [Option.some.injEq,Prod.mk.injEq] at H;obtain ⟨rfl,rfl,rfl⟩:=H;have p12:0 ≤ (x5_2:Int):=of_decide_eq_true (by first|(with_reducible assumption)|assumption);have q12:x5_2 < (a0.size:Int):=of_decide_eq_true (by first|(with_reducible assumption)|assumption);have hx12:=bt_at a0 x5_2;replace p12:=eq_true p12;replace q12:=eq_true q12;go_wp2;repeat (go_quiet (fail);try go_wp2)
                 go_ret3
                 exact ⟨by first|rfl|(simp;done)|(simp only [← hji17] <;> (first|rfl|simp))|(simp [*];done),by repeat (first|exact Drawn0.refl _|apply Drawn0.step)⟩
                ·rw [if_neg c19] at H;exact absurd H (by simp)
               ·rw [if_neg c18] at H;exact absurd H (by simp)
              ·rw [if_neg c16] at H;exact absurd H (by simp)
             ·rw [if_neg c14] at H;have c14b0:decide ((wrap64 ((wrap64 ((a0.size:Int) - x5_2)) - 1)) ≤ 100) = false:=decide_eq_false c14;clear c14;have H':=Aside0.mk H;clear H;have p12:0 ≤ (x5_2:Int):=of_decide_eq_true (by first|(with_reducible assumption)|assumption);have q12:x5_2 < (a0.size:Int):=of_decide_eq_true (by first|(with_reducible assumption)|assumption);have hx12:=bt_at a0 x5_2;replace p12:=eq_true p12;replace q12:=eq_true q12;go_wp2;repeat (go_quiet (fail);try go_wp2)
              go_roundg kj6
              case measure=>have:=HJ1.out;have:=HK2.out;have:=HJ6.out;omega
              case rel=>exact ⟨(wrap64 (x5_2 + 1)),(by first|rfl|(simp;done)|(simp [*];done)),H',⟨by have:=HJ1.out;have:=HK2.out;have:=HJ6.out;omega⟩,by repeat (first|exact Drawn0.refl _|apply Drawn0.step)⟩
            ·rw [if_neg c13] at H;have c13b0:((bt a0 x5_2) == 47) = false:=beq_eq_false_iff_ne.mpr c13;have c13b1:((bt a0 x5_2) != 47) = true:=bne_iff_ne.mpr c13;have H':=Aside0.mk H;clear H;have p12:0 ≤ (x5_2:Int):=of_decide_eq_true (by first|(with_reducible assumption)|assumption);have q12:x5_2 < (a0.size:Int):=of_decide_eq_true (by first|(with_reducible assumption)|assumption);have hx12:=bt_at a0 x5_2;replace p12:=eq_true p12;replace q12:=eq_true q12;go_wp2;repeat (go_quiet (fail);try go_wp2)
             go_roundg kj6
             case measure=>have:=HJ1.out;have:=HK2.out;have:=HJ6.out;omega
             case rel=>exact ⟨(wrap64 (x5_2 + 1)),(by first|rfl|(simp;done)|(simp [*];done)),H',⟨by have:=HJ1.out;have:=HK2.out;have:=HJ6.out;omega⟩,by repeat (first|exact Drawn0.refl _|apply Drawn0.step)⟩
           ·rw [if_neg c11] at H;exact absurd H (by simp)
          ·rw [if_neg c10] at H;exact absurd H (by simp)
         ·replace c9:=Bool.eq_false_iff.mpr c9;subst c9;have H1:(some ((⟨#[]⟩:ByteArray),(⟨#[]⟩:ByteArray),1)) = some (r1,r2,r3):=by rw [if_neg (show ¬ (false = true) by decide)] at H;exact H
          clear H;have H:=H1;clear H1;simp only [Option.some.injEq,Prod.mk.injEq] at H;obtain ⟨rfl,rfl,rfl⟩:=H;go_wp2;repeat (go_quiet (fail);try go_wp2)
          go_ret3
          exact ⟨by first|rfl|(simp;done)|(simp [*];done),by repeat (first|exact Drawn0.refl _|apply Drawn0.step)⟩
end Go.Proofs.YtenbelecmmpdgaaGreatDoor.All
end
section
namespace Go.Proofs.YtenbelecmmpdgaaGreatDoor.All
open Go.RowKit Go.Proofs.YtenbelecmmpdgaaGreatDoorW.PrintWords Go.Proofs.YtenbelecmmpdgaaGreatDoorW.PrintLast Go.Proofs.YtenbelecmmpdgaaGreatDoorW.PrintMore
open Go.Proofs.YtenbelecmmpdgaaGreatDoorW.Mine
attribute [local go_sem] gtr_string leq_string geq_string
attribute [local go_sem] max2_int min2_int max_two min_two max_three min_three max_four min_four
set_option linter.unusedVariables false
set_option linter.unusedSimpArgs false
def creelref_parts.l0:Nat→ByteArray→Int→List ByteArray→Int→Option (List ByteArray)
 | 0,_,_,_,_=>none
 | k + 1,x0,x1,x5,x6=>if x6 < (x0.size:Int) then (if 0 ≤ x6 then (if (bt x0 x6) = x1 then (if x5.length < 8796093022208 then (creelref_parts.l0 k x0 x1 (x5 ++ [(⟨#[]⟩:ByteArray)]) (wrap64 (x6 + 1))) else (none)) else (if 0 ≤ (wrap64 ((x5.length:Int) - 1)) then (if (wrap64 ((x5.length:Int) - 1)) < (x5.length:Int) then (if x6 ≤ (wrap64 (x6 + 1)) then (if (wrap64 (x6 + 1)) ≤ (x0.size:Int) then (if (rdOf ByteArray.empty x5 (wrap64 ((x5.length:Int) - 1))).size + (x0.extract (x6:Int).toNat ((wrap64 (x6 + 1)):Int).toNat).size ≤ 9223372036854775807 then (creelref_parts.l0 k x0 x1 (x5.set ((wrap64 ((x5.length:Int) - 1)):Int).toNat ((rdOf ByteArray.empty x5 (wrap64 ((x5.length:Int) - 1))) ++ (x0.extract (x6:Int).toNat ((wrap64 (x6 + 1)):Int).toNat))) (wrap64 (x6 + 1))) else (none)) else (none)) else (none)) else (none)) else (none))) else (none)) else (some x5)
def creelref_parts.f (k:Nat) (a0:ByteArray) (a1:Int):Option (List ByteArray):=creelref_parts.l0 k a0 a1 (([(⟨#[]⟩:ByteArray)]:List ByteArray)) 0
def creelref_parts.T7:Bool × List (List Nat × List Nat):=(true,[([],[]),([],[]),([1],[1]),([2],[2]),([0,3],[0,3]),([4],[4]),([],[]),([],[]),([],[]),([8],[8]),([6,7,9],[6,7,9]),([5,10],[5,10]),([0,3,0,1,2,3,4,5,6,7,8,9,10,11],[0,3]),([12,11,0,1,2,3,4,5,6,7,8,9,10,11],[11,12])])
def creelref_parts.B7:List Nat:=[0,0,2,6,15,31,0,0,0,256,960,2047,4095,8191]
theorem creelref_parts.tab7:rtab .any (opsOf Tryz.f123 7) = creelref_parts.T7:=by kernel_rfl
theorem creelref_parts.bits7:waitsOk creelref_parts.T7.2 creelref_parts.B7 = true:=by kernel_rfl
set_option maxHeartbeats 8000000 in
set_option maxRecDepth 100000 in
theorem creelref_parts.calls (k:Nat) (a0:ByteArray) (a1:Int) (r:List ByteArray) (w:World) (h:creelref_parts.f k a0 a1 = some r) :
 Calls Tryz.prog 123 #[.string a0,.int .u8 a1] w fun e w'=>∃ v0_:Value,e = .returned (v0_)∧Kd.R Kd.string 9 w' w.heap.size (fun _=>True) v0_ r∧Below w.heap.size w w':=by
 have HB:=Aside0.mk (Below.refl w.heap.size w);have H:(creelref_parts.l0 k a0 a1 (([(⟨#[]⟩:ByteArray)]:List ByteArray)) 0) = some r:=h;clear h;obtain ⟨y101,hy101⟩:∃ y_:List ByteArray,y_ = (([(⟨#[]⟩:ByteArray)]:List ByteArray)):=⟨_,rfl⟩
 replace H:(creelref_parts.l0 k a0 a1 y101 0) = some r:=by first|(rw [hy101];with_reducible exact H)|(have H2_:=(Option.bind_some _ _).symm.trans H;rw [hy101];with_reducible exact H2_)|(have H2_:=(Option.bind_some _ _).symm.trans H;with_reducible exact H2_)|with_reducible exact H|(rw [hy101];exact H)|exact H
 have Ny101:=Aside0.mk hy101;clear hy101;have H':=Aside0.mk H;clear H;go_enter Tryz.func123,Tryz.ntmps123;go_wp2_with (first|((with_reducible refine gate_dst (N:=7) rfl ?_);refine Kd.R_lit Kd.string _ 9 ?hg (N:=7) ?hd (xs:=([(⟨#[]⟩:ByteArray)]:List ByteArray)) (inner:=[.string (⟨#[]⟩:ByteArray)]) (ok:=fun _=>True) (okp:=fun _=>True) ?hr ?hp (fun _ hk=>hk) trivial (Below.refl _ _) (Nat.le_refl _) (by simp) ?_;(case hd=>rfl);(case hg=>rfl);(case hr=>first|(go_simp;done)|(go_simp;rfl));(case hp=>exact (Reps.one (show Kd.M Kd.string _ _ _ (⟨#[]⟩:ByteArray) [.string (⟨#[]⟩:ByteArray)] from rfl) (Reps.none _ _)));intro v102 w3 ho4 hb hg_ hnew_;clear hg_ hnew_;(first|rw [← Ny101.out] at ho4|(simp only [Int.reduceToNat] at ho4;rw [← Ny101.out] at ho4));have n0_:=Aside0.mk (Kd.R_lower ho4 (below_size (by repeat (first|(with_reducible first|exact HB.out|apply bwA|apply pwbN|apply bw1)|exact HB.out))));have n1_:=Aside0.mk (below_step (by repeat (first|(with_reducible first|exact HB.out|apply bwA|apply pwbN|apply bw1)|exact HB.out)) hb);clear HB;have HO103:=n0_;have HB:=n1_;clear n0_ n1_;clear hb ho4))
 go_loopg [5,6] k (fun kq v5 v6 w'=>∃ (x5_1:List ByteArray) (x6_1:Int),v6 = .int .i64 x6_1∧Aside0 (creelref_parts.l0 kq a0 a1 x5_1 x6_1 = some r)∧Aside0 (kq ≤ k)∧Aside0 (Kd.R Kd.string 9 w' w.heap.size (fun _=>True) v5 x5_1)∧Aside0 (Below w.heap.size w w'))
 case atStart=>exact ⟨(y101),(0),(by first|rfl|(simp;done)|(simp [*];done)),H',⟨Nat.le_refl _⟩,⟨by (with_reducible repeat (first|apply Kd.R_alloc|apply Kd.R_drewN|apply Kd.R_drew));exact HO103.out⟩,⟨by repeat (first|(with_reducible first|exact HB.out|apply bwA|apply pwbN|apply bw1)|exact HB.out)⟩⟩
 case round =>
  clear H';obtain ⟨x5_1,x6_1,rfl,HA,HK1,HO_5,HB⟩:=hrel;cases gk with
  | zero=>exact absurd HA.out (by simp [creelref_parts.l0])
  | succ k1 =>
   have H:=HA.out;clear HA;simp only [creelref_parts.l0] at H;by_cases c5:x6_1 < (a0.size:Int)
   ·rw [if_pos c5] at H;have c5b0:decide (x6_1 < (a0.size:Int)) = true:=decide_eq_true c5;clear c5;by_cases c6:0 ≤ x6_1
    ·rw [if_pos c6] at H;have c6b0:decide (0 ≤ x6_1) = true:=decide_eq_true c6;clear c6;by_cases c8:(bt a0 x6_1) = a1
     ·rw [if_pos c8] at H;have c8b0:((bt a0 x6_1) == a1) = true:=beq_iff_eq.mpr c8;have c8b1:((bt a0 x6_1) != a1) = false:=bne_eq_false_iff_eq.mpr c8;clear c8;by_cases c9:x5_1.length < 8796093022208
      ·rw [if_pos c9] at H;have LMc9:=Aside0.mk c9;clear c9;obtain ⟨y104,hy104⟩:∃ y_:List ByteArray,y_ = (x5_1 ++ [(⟨#[]⟩:ByteArray)]):=⟨_,rfl⟩
       replace H:(creelref_parts.l0 k1 a0 a1 y104 (wrap64 (x6_1 + 1))) = some r:=by first|(rw [hy104];with_reducible exact H)|(have H2_:=(Option.bind_some _ _).symm.trans H;rw [hy104];with_reducible exact H2_)|(have H2_:=(Option.bind_some _ _).symm.trans H;with_reducible exact H2_)|with_reducible exact H|(rw [hy104];exact H)|exact H
       have Ny104:=Aside0.mk hy104;clear hy104;have H':=Aside0.mk H;clear H;have p7:0 ≤ (x6_1:Int):=of_decide_eq_true (by first|(with_reducible assumption)|assumption);have q7:x6_1 < (a0.size:Int):=of_decide_eq_true (by first|(with_reducible assumption)|assumption);have hx7:=bt_at a0 x6_1;replace p7:=eq_true p7;replace q7:=eq_true q7;go_wp2_with (first|((with_reducible refine gate_builtin (b := .append) (xs:=#[.tmp 19,.tmp 20]) rfl ?_);at_builtin;refine Kd.R_append Kd.string (w0:=w) w.heap.size rfl (.tmp 19) (.tmp 20) 136 9 (.string ⟨#[]⟩) 16 rfl Tryz.underlying136 info9 rfl (by decide) (by omega) u5 x5_1 (⟨#[]⟩:ByteArray) [.string (⟨#[]⟩:ByteArray)] (fun _=>True) (fun _=>False) rfl rfl ?aP (fun _ hk=>hk.elim) ?aF ?aO ?aB ?aS ?aL ?_;(case aP=>exact rfl);(case aB=>exact (by repeat (first|(with_reducible first|exact HB.out|apply bwA|apply pwbN|apply bw1)|exact HB.out)));(case aF=>exact (fun _ _=>trivial));(case aO=>exact (by (with_reducible repeat (first|apply Kd.R_alloc|apply Kd.R_drewN|apply Kd.R_drew));exact HO_5.out));(case aS=>exact (below_size (by repeat (first|(with_reducible first|exact HB.out|apply bwA|apply pwbN|apply bw1)|exact HB.out))));(case aL=>have:=LMc9.out;omega);intro v105 w10 ho hb hg hat;rw [← Ny104.out] at ho;have n0_:=Aside0.mk (hb);have n1_:=Aside0.mk (ho);clear HB;clear HO_5;have HB:=n0_;have HO106:=n1_;clear n0_ n1_;clear ho hb hg hat))
       go_roundg k1
       case measure=>have:=HK1.out;omega
       case rel=>exact ⟨(y104),(wrap64 (x6_1 + 1)),(by first|rfl|(simp;done)|(simp [*];done)),H',⟨by have:=HK1.out;omega⟩,⟨by (with_reducible repeat (first|apply Kd.R_alloc|apply Kd.R_drewN|apply Kd.R_drew));exact HO106.out⟩,⟨by repeat (first|(with_reducible first|exact HB.out|apply bwA|apply pwbN|apply bw1)|exact HB.out)⟩⟩
      ·rw [if_neg c9] at H;exact absurd H (by simp)
     ·rw [if_neg c8] at H;have c8b0:((bt a0 x6_1) == a1) = false:=beq_eq_false_iff_ne.mpr c8;have c8b1:((bt a0 x6_1) != a1) = true:=bne_iff_ne.mpr c8;obtain ⟨ji11,hji11⟩:∃ j_:Int,(wrap64 ((x5_1.length:Int) - 1)) = j_:=⟨_,rfl⟩
      replace H:(if 0 ≤ (ji11) then (if (ji11) < (x5_1.length:Int) then (if x6_1 ≤ (wrap64 (x6_1 + 1)) then (if (wrap64 (x6_1 + 1)) ≤ (a0.size:Int) then (if (rdOf ByteArray.empty x5_1 (ji11)).size + (a0.extract (x6_1:Int).toNat ((wrap64 (x6_1 + 1)):Int).toNat).size ≤ 9223372036854775807 then (creelref_parts.l0 k1 a0 a1 (x5_1.set ((ji11):Int).toNat ((rdOf ByteArray.empty x5_1 (ji11)) ++ (a0.extract (x6_1:Int).toNat ((wrap64 (x6_1 + 1)):Int).toNat))) (wrap64 (x6_1 + 1))) else (none)) else (none)) else (none)) else (none)) else (none)) = some r:=by first|(rw [hji11] at H;exact H)|(simp only [hji11] at H ⊢;exact H)
      have hji11w:(IntKind.i64.wrap ((x5_1.length:Int) - 1)) = ji11:=(i64_w _).trans hji11;by_cases c12:0 ≤ (ji11)
      ·rw [if_pos c12] at H;have c12b0:decide (0 ≤ (ji11)) = true:=decide_eq_true c12;clear c12;by_cases c13:(ji11) < (x5_1.length:Int)
       ·rw [if_pos c13] at H;have c13b0:decide ((ji11) < (x5_1.length:Int)) = true:=decide_eq_true c13;clear c13;have c14b0:=eq_true (of_decide_eq_true (by first|(with_reducible assumption)|assumption):0 ≤ x6_1);by_cases c15:x6_1 ≤ (wrap64 (x6_1 + 1))
        ·rw [if_pos c15] at H;have c15b0:=eq_true c15;have c15b1:decide (x6_1 ≤ (wrap64 (x6_1 + 1))) = true:=decide_eq_true c15;by_cases c16:(wrap64 (x6_1 + 1)) ≤ (a0.size:Int)
         ·rw [if_pos c16] at H;have c16b0:=eq_true c16;have c16b1:decide ((wrap64 (x6_1 + 1)) ≤ (a0.size:Int)) = true:=decide_eq_true c16;by_cases c17:(rdOf ByteArray.empty x5_1 (ji11)).size + (a0.extract (x6_1:Int).toNat ((wrap64 (x6_1 + 1)):Int).toNat).size ≤ 9223372036854775807
          ·rw [if_pos c17] at H;have c17b0:=eq_true c17;have c17b1:decide ((rdOf ByteArray.empty x5_1 (ji11)).size + (a0.extract (x6_1:Int).toNat ((wrap64 (x6_1 + 1)):Int).toNat).size ≤ 9223372036854775807) = true:=decide_eq_true c17;try have c17b2:(9223372036854775807 < (rdOf ByteArray.empty x5_1 (ji11)).size + (a0.extract (x6_1:Int).toNat ((wrap64 (x6_1 + 1)):Int).toNat).size) = False:=eq_false (Nat.not_lt.2 c17)
           try have c17b3:(9223372036854775807 < (rdOf ByteArray.empty x5_1 (ji11)).size + (((wrap64 (x6_1 + 1))).toNat - (x6_1).toNat)) = False:=eq_false (by have h_:=c17;simp only [ByteArray.size_extract] at h_;omega)
           obtain ⟨y108,hy108⟩:∃ y_:List ByteArray,y_ = (x5_1.set ((ji11):Int).toNat ((rdOf ByteArray.empty x5_1 (ji11)) ++ (a0.extract (x6_1:Int).toNat ((wrap64 (x6_1 + 1)):Int).toNat))):=⟨_,rfl⟩
           replace H:(creelref_parts.l0 k1 a0 a1 y108 (wrap64 (x6_1 + 1))) = some r:=by first|(rw [hy108];with_reducible exact H)|(have H2_:=(Option.bind_some _ _).symm.trans H;rw [hy108];with_reducible exact H2_)|(have H2_:=(Option.bind_some _ _).symm.trans H;with_reducible exact H2_)|with_reducible exact H|(rw [hy108];exact H)|exact H
           have Ny108:=Aside0.mk hy108;clear hy108;have H':=Aside0.mk H;clear H;have p7:0 ≤ (x6_1:Int):=of_decide_eq_true (by first|(with_reducible assumption)|assumption);have q7:x6_1 < (a0.size:Int):=of_decide_eq_true (by first|(with_reducible assumption)|assumption);have hx7:=bt_at a0 x6_1;replace p7:=eq_true p7;replace q7:=eq_true q7;try go_wp2
           have n0_:=Aside0.mk (Kd.R_drew HO_5.out);have n1_:=Aside0.mk (bw1 HB.out);clear HO_5;clear HB;have HO_5:=n0_;have HB:=n1_;clear n0_ n1_;obtain ⟨Ao20,co20,eo20⟩:=Kd.R_slice HO_5.out;(first|subst eo20|(injection eo20 with f1_ f2_ f3_;have f4_:=f1_.symm;have f5_:=f3_.symm;clear f1_ f2_ f3_;subst f4_;subst f5_));have p107:0 ≤ ((ji11):Int):=of_decide_eq_true (by first|(with_reducible assumption)|assumption);have q107:(ji11) < (x5_1.length:Int):=of_decide_eq_true (by first|(with_reducible assumption)|assumption);obtain ⟨ad107,e107,hx107_0⟩:=Kd.at_string (Kd.R_reads' HO_5.out).2.2 (ji11) p107 q107;cases e107;replace p107:=eq_true p107;replace q107:=eq_true q107;have p18:0 ≤ ((ji11):Int):=of_decide_eq_true (by first|(with_reducible assumption)|assumption);have q18:((ji11):Int) < ((x5_1.length:Int):Int):=of_decide_eq_true (by first|(with_reducible assumption)|assumption);obtain ⟨go18,co18,eo18,gb18,gl18,cl18,HG18⟩:=Kd.R_form HO_5.out (by omega);(first|cases eo18|(injection eo18 with ea_ en_ ec_;(first|subst ea_|(injection ea_ with ea_;subst ea_));subst ec_;clear en_));have GB18:=Aside0.mk gb18;have GG18:=Aside0.mk HG18;clear gb18 gl18 HG18;(first|simp only [add_plain] at hx107_0|skip);obtain ⟨hx18_0,hf18_0⟩:=Kd.R_celln (⟨#[]⟩:ByteArray) HO_5.out ((ji11):Int) p18 q18;replace p18:=eq_true p18;replace q18:=eq_true q18;have HP21:=Kd.R_putn HO_5.out ((ji11):Int) ((rdOf ByteArray.empty x5_1 (ji11)) ++ (a0.extract (x6_1:Int).toNat ((wrap64 (x6_1 + 1)):Int).toNat));rw [← Ny108.out] at HP21;have HQ21:=Aside0.mk HP21;clear HP21;refine start_ (n:=14) (S:=fun w'=>w'.cell? ⟨go18,((ji11)).toNat,none⟩ = some (.string (rdOf ByteArray.empty x5_1 (ji11)))) (ds:=[13]) #[false,false,false,false,false,false,false,false,false,false,false,false,false,false] (by kernel_rfl) rfl rfl (hx107_0) (fun hHeld=>?_);refine with_tabW creelref_parts.tab7 creelref_parts.bits7 (fun HT_ HW_=>?_);generalize wr.drew = w19 at HO_5 HB GG18 HQ21 hf18_0 hx107_0 hx18_0 hHeld ⊢;refine pure_ (i:=0) (N:=some 22) (v:=?_) (a':=?_) #[true,false,false,false,false,false,false,false,false,false,false,false,false,false] rfl rfl (any_of HT_.out (by kernel_rfl)) (fun _ _ _ h=>h) (Or.inl ⟨by rfl,?_⟩) ?_ ?_;rotate_left
           ·intro w';go_simp
            with_reducible rfl
           rotate_left
           ·simp only [Act.put,List.setIfInBounds_toArray,List.set_cons_zero,List.set_cons_succ,i64_w,i32_w];rfl
           refine pure_ (i:=1) (N:=some 23) (v:=?_) (a':=?_) #[true,true,false,false,false,false,false,false,false,false,false,false,false,false] rfl rfl (any_of HT_.out (by kernel_rfl)) (fun _ _ _ h=>h) (Or.inl ⟨by rfl,?_⟩) ?_ ?_;rotate_left
           ·intro w';go_simp
            with_reducible rfl
           rotate_left
           ·simp only [Act.put,List.setIfInBounds_toArray,List.set_cons_zero,List.set_cons_succ,i64_w,i32_w];rfl
           refine pure_ (i:=2) (N:=some 24) (v:=?_) (a':=?_) #[true,true,true,false,false,false,false,false,false,false,false,false,false,false] rfl rfl (any_of HT_.out (by kernel_rfl)) (fun _ _ _ h=>h) (Or.inl ⟨by rfl,?_⟩) ?_ ?_;rotate_left
           ·intro w';go_simp
            with_reducible rfl
           rotate_left
           ·simp only [Act.put,List.setIfInBounds_toArray,List.set_cons_zero,List.set_cons_succ,i64_w,i32_w];rfl
           refine pure_ (i:=3) (N:=some 25) (v:=?_) (a':=?_) #[true,true,true,true,false,false,false,false,false,false,false,false,false,false] rfl rfl (any_of HT_.out (by kernel_rfl)) (fun _ _ _ h=>h) (Or.inl ⟨by rfl,?_⟩) ?_ ?_;rotate_left
           ·intro w';go_simp
            with_reducible rfl
           rotate_left
           ·simp only [Act.put,List.setIfInBounds_toArray,List.set_cons_zero,List.set_cons_succ,i64_w,i32_w];rfl
           refine pure_ (i:=4) (N:=some 26) (v:=?_) (a':=?_) #[true,true,true,true,true,false,false,false,false,false,false,false,false,false] rfl rfl (any_of HT_.out (by kernel_rfl)) (fun _ _ _ h=>h) (Or.inl ⟨by rfl,?_⟩) ?_ ?_;rotate_left
           ·intro w';go_simp
            with_reducible rfl
           rotate_left
           ·simp only [Act.put,List.setIfInBounds_toArray,List.set_cons_zero,List.set_cons_succ,i64_w,i32_w];rfl
           refine pure_ (i:=6) (N:=some 28) (v:=?_) (a':=?_) #[true,true,true,true,true,false,true,false,false,false,false,false,false,false] rfl rfl (any_of HT_.out (by kernel_rfl)) (fun _ _ _ h=>h) (Or.inl ⟨by rfl,?_⟩) ?_ ?_;rotate_left
           ·intro w';go_simp
            with_reducible rfl
           rotate_left
           ·simp only [Act.put,List.setIfInBounds_toArray,List.set_cons_zero,List.set_cons_succ,i64_w,i32_w];rfl
           refine pure_ (i:=7) (N:=some 29) (v:=?_) (a':=?_) #[true,true,true,true,true,false,true,true,false,false,false,false,false,false] rfl rfl (any_of HT_.out (by kernel_rfl)) (fun _ _ _ h=>h) (Or.inl ⟨by rfl,?_⟩) ?_ ?_;rotate_left
           ·intro w';go_simp
            with_reducible rfl
           rotate_left
           ·simp only [Act.put,List.setIfInBounds_toArray,List.set_cons_zero,List.set_cons_succ,i64_w,i32_w];rfl
           refine pure_ (i:=8) (N:=some 30) (v:=?_) (a':=?_) #[true,true,true,true,true,false,true,true,true,false,false,false,false,false] rfl rfl (any_of HT_.out (by kernel_rfl)) (fun _ _ _ h=>h) (Or.inl ⟨by rfl,?_⟩) ?_ ?_;rotate_left
           ·intro w';go_simp
            with_reducible rfl
           rotate_left
           ·simp only [Act.put,List.setIfInBounds_toArray,List.set_cons_zero,List.set_cons_succ,i64_w,i32_w];rfl
           refine pure_ (i:=9) (N:=some 31) (v:=?_) (a':=?_) #[true,true,true,true,true,false,true,true,true,true,false,false,false,false] rfl rfl (any_of HT_.out (by kernel_rfl)) (fun _ _ _ h=>h) (Or.inl ⟨by rfl,?_⟩) ?_ ?_;rotate_left
           ·intro w';go_simp
            with_reducible rfl
           rotate_left
           ·simp only [Act.put,List.setIfInBounds_toArray,List.set_cons_zero,List.set_cons_succ,i64_w,i32_w];rfl
           refine pure_ (i:=10) (N:=some 32) (v:=?_) (a':=?_) #[true,true,true,true,true,false,true,true,true,true,true,false,false,false] rfl rfl (any_of HT_.out (by kernel_rfl)) (fun _ _ _ h=>h) (Or.inl ⟨by rfl,?_⟩) ?_ ?_;rotate_left
           ·intro w';go_simp
            with_reducible rfl
           rotate_left
           ·simp only [Act.put,List.setIfInBounds_toArray,List.set_cons_zero,List.set_cons_succ,i64_w,i32_w];rfl
           refine take_ (i:=5) (N:=some 27) (v:=?_) (a':=?_) #[true,true,true,true,true,true,true,true,true,true,true,false,false,false] rfl rfl (take_ofW HT_.out HW_.out (by kernel_rfl)) (fun _ _ _ h=>h) (Or.inl ⟨by rfl,?_⟩) hHeld ?_ ?_;rotate_left
           ·intro w' s0;go_simp
            with_reducible rfl
           rotate_left
           ·simp only [Act.put,List.setIfInBounds_toArray,List.set_cons_zero,List.set_cons_succ,i64_w,i32_w];rfl
           refine pure_ (i:=11) (N:=some 33) (v:=?_) (a':=?_) #[true,true,true,true,true,true,true,true,true,true,true,true,false,false] rfl rfl (any_of HT_.out (by kernel_rfl)) (fun _ _ _ h=>h) (Or.inl ⟨by rfl,?_⟩) ?_ ?_;rotate_left
           ·intro w';go_simp
            with_reducible rfl
           rotate_left
           ·simp only [Act.put,List.setIfInBounds_toArray,List.set_cons_zero,List.set_cons_succ,i64_w,i32_w];rfl
           refine pure_ (i:=12) (N:=some 34) (v:=?_) (a':=?_) #[true,true,true,true,true,true,true,true,true,true,true,true,true,false] rfl rfl (any_of HT_.out (by kernel_rfl)) (fun _ _ _ h=>h) (Or.inl ⟨by rfl,?_⟩) ?_ ?_;rotate_left
           ·intro w';go_simp
            with_reducible rfl
           rotate_left
           ·simp only [Act.put,List.setIfInBounds_toArray,List.set_cons_zero,List.set_cons_succ,i64_w,i32_w];rfl
           refine last_ (i:=13) (N:=none) #[true,true,true,true,true,true,true,true,true,true,true,true,true,true] rfl rfl (one_of HT_.out (by kernel_rfl)) (by decide) (fun K hK=>?_);refine skip_ (w1:=?_) (by rfl) rfl ?_ ?_;rotate_left
           ·go_simp
            rfl
           refine hK.out _ _ ?_;clear hK K;refine done_ (done_of HT_.out (by kernel_rfl)) ?_;try go_wp2
           go_roundg k1
           case measure=>have:=HK1.out;omega
           case rel=>exact ⟨(y108),(wrap64 (x6_1 + 1)),(by first|rfl|(simp;done)|(simp [*];done)),H',⟨by have:=HK1.out;omega⟩,⟨by (with_reducible repeat (first|apply Kd.R_alloc|apply Kd.R_drewN|apply Kd.R_drew));exact HQ21.out⟩,⟨by repeat (first|(with_reducible first|exact HB.out|apply bwA|apply pwbN|apply bw1|refine below_set ?_ GB18.out)|exact HB.out)⟩⟩
          ·rw [if_neg c17] at H;exact absurd H (by simp)
         ·rw [if_neg c16] at H;exact absurd H (by simp)
        ·rw [if_neg c15] at H;exact absurd H (by simp)
       ·rw [if_neg c13] at H;exact absurd H (by simp)
      ·rw [if_neg c12] at H;exact absurd H (by simp)
    ·rw [if_neg c6] at H;exact absurd H (by simp)
   ·rw [if_neg c5] at H;have c5b0:decide (x6_1 < (a0.size:Int)) = false:=decide_eq_false c5;clear c5;obtain rfl:=Option.some.inj H;go_wp2;go_ret
    exact ⟨_,by first|rfl|(simp [errW_none,errW_some] <;> rfl)|(simp [*,errW_none,errW_some] <;> rfl),by (with_reducible repeat (first|apply Kd.R_alloc|apply Kd.R_drewN|apply Kd.R_drew));exact HO_5.out,by repeat (first|(with_reducible first|exact HB.out|apply bwA|apply pwbN|apply bw1)|exact HB.out)⟩
end Go.Proofs.YtenbelecmmpdgaaGreatDoor.All
end
section
namespace Go.Proofs.YtenbelecmmpdgaaGreatDoor.All
open Go.RowKit Go.Proofs.YtenbelecmmpdgaaGreatDoorW.PrintWords Go.Proofs.YtenbelecmmpdgaaGreatDoorW.PrintLast Go.Proofs.YtenbelecmmpdgaaGreatDoorW.PrintMore
open Go.Proofs.YtenbelecmmpdgaaGreatDoorW.Mine
attribute [local go_sem] gtr_string leq_string geq_string
attribute [local go_sem] max2_int min2_int max_two min_two max_three min_three max_four min_four
set_option linter.unusedVariables false
set_option linter.unusedSimpArgs false
mutual
def creelref_PathFault.j0:Nat→ByteArray→Bool→Option (Int)
 | 0,_,_=>none
 | k + 1,x0,x11=>if x11 = true then (some 1) else ((creelref_has.f k x0 0).bind fun t101=>(if t101 = true then (some 3) else ((creelref_parts.f k x0 47).bind fun t102=>(creelref_PathFault.l0 k t102 (t102.length:Int) 0))))
def creelref_PathFault.l0:Nat→List ByteArray→Int→Int→Option (Int)
 | 0,_,_,_=>none
 | k + 1,x15,x16,x17=>if x17 < x16 then (if 0 ≤ x17 then (if x17 < (x15.length:Int) then (if (rdOf ByteArray.empty x15 x17).toList = ([]:List UInt8) then (some 9) else (if (rdOf ByteArray.empty x15 x17).toList = ([46]:List UInt8) then (some 9) else (if (rdOf ByteArray.empty x15 x17).toList = ([46,46]:List UInt8) then (some 9) else (creelref_PathFault.l0 k x15 x16 (wrap64 (x17 + 1)))))) else (none)) else (none)) else (some 0)
end
def creelref_PathFault.f (k:Nat) (a0:ByteArray):Option (Int):=if a0.toList = ([]:List UInt8) then (creelref_PathFault.j0 k a0 true) else (creelref_PathFault.j0 k a0 (decide ((a0.size:Int) > 400)))
set_option maxHeartbeats 8000000 in
set_option maxRecDepth 100000 in
theorem creelref_PathFault.calls (k:Nat) (a0:ByteArray) (r:Int) (w:World) (h:creelref_PathFault.f k a0 = some r) :
 Calls Tryz.prog 113 #[.string a0] w fun e w'=>e = .returned (.int .i64 r)∧Below w.heap.size w w':=by
 have HB:=Aside0.mk (Below.refl w.heap.size w);have H:(if a0.toList = ([]:List UInt8) then (creelref_PathFault.j0 k a0 true) else (creelref_PathFault.j0 k a0 (decide ((a0.size:Int) > 400)))) = some r:=h;clear h;have HC2:=Aside0.mk H;clear H;go_enter Tryz.func113,Tryz.ntmps113;go_upto_region 1 with (fail)
 go_cut [11] (fun v11 wc=>∃ (kq:Nat) (x11_1:Bool),v11 = .bool x11_1∧Aside0 (creelref_PathFault.j0 kq a0 x11_1 = some r)∧Aside0 (kq ≤ k)∧Aside0 (Below w.heap.size w wc))
 case first =>
  have H:=HC2.out;clear HC2;by_cases c3:a0.toList = ([]:List UInt8)
  ·rw [if_pos c3] at H;have c3b0:(a0.toList == ([]:List UInt8)) = true:=beq_iff_eq.mpr c3;have c3b1:(a0.toList != ([]:List UInt8)) = false:=bne_eq_false_iff_eq.mpr c3;clear c3;(first|rw [c3b0]|(simp only [i64_w,i32_w];rw [c3b0])|skip);have H':=Aside0.mk H;clear H;go_wp2;go_meet
   case rel=>exact ⟨_,(true),(by first|rfl|(simp;done)|(simp [*];done)),H',⟨by first|omega|exact Nat.le_refl _⟩,⟨by repeat (first|(with_reducible first|exact HB.out|apply bwA|apply pwbN|apply bw1)|exact HB.out)⟩⟩
  ·rw [if_neg c3] at H;have c3b0:(a0.toList == ([]:List UInt8)) = false:=beq_eq_false_iff_ne.mpr c3;have c3b1:(a0.toList != ([]:List UInt8)) = true:=bne_iff_ne.mpr c3;(first|rw [c3b0]|(simp only [i64_w,i32_w];rw [c3b0])|skip);have H':=Aside0.mk H;clear H;go_wp2;go_meet
   case rel=>exact ⟨_,(decide ((a0.size:Int) > 400)),(by first|rfl|(simp;done)|(simp [*];done)),H',⟨by first|omega|exact Nat.le_refl _⟩,⟨by repeat (first|(with_reducible first|exact HB.out|apply bwA|apply pwbN|apply bw1)|exact HB.out)⟩⟩
 case rest =>
  clear HC2;obtain ⟨kq,x11_1,rfl,HA,HJ1,HB⟩:=hcut;cases kq with
  | zero=>exact absurd HA.out (by simp [creelref_PathFault.j0])
  | succ kj1 =>
   have H:=HA.out;clear HA;simp only [creelref_PathFault.j0] at H;by_cases c4:x11_1 = true
   ·subst c4;have H1:(some 1) = some r:=by rw [if_pos rfl] at H;exact H
    clear H;have H:=H1;clear H1;obtain rfl:=Option.some.inj H;go_wp2;go_ret
    exact ⟨by first|rfl|(simp [errW_none,errW_some] <;> rfl)|(simp [*,errW_none,errW_some] <;> rfl),by repeat (first|(with_reducible first|exact HB.out|apply bwA|apply pwbN|apply bw1)|exact HB.out)⟩
   ·replace c4:=Bool.eq_false_iff.mpr c4;subst c4;have H1:((creelref_has.f kj1 a0 0).bind fun t101=>(if t101 = true then (some 3) else ((creelref_parts.f kj1 a0 47).bind fun t102=>(creelref_PathFault.l0 kj1 t102 (t102.length:Int) 0)))) = some r:=by rw [if_neg (show ¬ (false = true) by decide)] at H;exact H
    clear H;have H:=H1;clear H1;replace H:=Option.bind_eq_some_iff.mp H;obtain ⟨t101,A50,H⟩:=H;replace H:(if t101 = true then (some 3) else ((creelref_parts.f kj1 a0 47).bind fun t102=>(creelref_PathFault.l0 kj1 t102 (t102.length:Int) 0))) = some r:=H;have A5:=Aside0.mk A50;clear A50;by_cases c6:t101 = true
    ·subst c6;have H1:(some 3) = some r:=by rw [if_pos rfl] at H;exact H
     clear H;have H:=H1;clear H1;obtain rfl:=Option.some.inj H;go_wp2_with (first|((with_reducible refine gate_callee (f:=77) rfl ?_);refine goesL_ (some 13) rfl rfl Tryz.func77 (by kernel_rfl) rfl #[.string a0,.int .u8 0] rfl (by (try simp only [List.map_toArray,List.map_cons,List.map_nil]);first|done|rfl|(simp only [List.length_drop,List.length_take];rfl)) ?_;(with_reducible refine (creelref_has.calls kj1 a0 0 true _ A5.out).mono ?_);rintro e w' ⟨rfl,⟨nd,rfl⟩⟩;refine ⟨_,rfl,?_⟩))
     go_ret
     exact ⟨by first|rfl|(simp [errW_none,errW_some] <;> rfl)|(simp [*,errW_none,errW_some] <;> rfl),by repeat (first|(with_reducible first|exact HB.out|apply bwA|apply pwbN|apply bw1)|exact HB.out)⟩
    ·replace c6:=Bool.eq_false_iff.mpr c6;subst c6;have H1:((creelref_parts.f kj1 a0 47).bind fun t102=>(creelref_PathFault.l0 kj1 t102 (t102.length:Int) 0)) = some r:=by rw [if_neg (show ¬ (false = true) by decide)] at H;exact H
     clear H;have H:=H1;clear H1;replace H:=Option.bind_eq_some_iff.mp H;obtain ⟨t102,A70,H⟩:=H;replace H:(creelref_PathFault.l0 kj1 t102 (t102.length:Int) 0) = some r:=H;have A7:=Aside0.mk A70;clear A70;have H':=Aside0.mk H;clear H;go_wp2_with (first|((with_reducible refine gate_callee (f:=77) rfl ?_);refine goesL_ (some 13) rfl rfl Tryz.func77 (by kernel_rfl) rfl #[.string a0,.int .u8 0] rfl (by (try simp only [List.map_toArray,List.map_cons,List.map_nil]);first|done|rfl|(simp only [List.length_drop,List.length_take];rfl)) ?_;(with_reducible refine (creelref_has.calls kj1 a0 0 false _ A5.out).mono ?_);rintro e w' ⟨rfl,⟨nd,rfl⟩⟩;refine ⟨_,rfl,?_⟩)|((with_reducible refine gate_callee (f:=123) rfl ?_);refine goesL_ (some 15) rfl rfl Tryz.func123 (by kernel_rfl) rfl #[.string a0,.int .u8 47] rfl (by (try simp only [List.map_toArray,List.map_cons,List.map_nil]);first|done|rfl|(simp only [List.length_drop,List.length_take];rfl)) ?_;(with_reducible refine (creelref_parts.calls kj1 a0 47 t102 _ A7.out).mono ?_);rintro e w8 ⟨v103,rfl,ho0,hb⟩;refine ⟨_,rfl,?_⟩;have n0_:=Aside0.mk (Kd.R_lower ho0 (below_size (by repeat (first|(with_reducible first|exact HB.out|apply bwA|apply pwbN|apply bw1)|exact HB.out))));have n1_:=Aside0.mk (below_step (by repeat (first|(with_reducible first|exact HB.out|apply bwA|apply pwbN|apply bw1)|exact HB.out)) hb);clear HB;have HO104:=n0_;have HB:=n1_;clear n0_ n1_;(try clear hb);(try clear hb2);(try clear hk);(try clear hi);(try clear ho0);obtain ⟨Ao9,co9,eo9⟩:=Kd.R_slice HO104.out;subst eo9))
     go_loopg [17] kj1 (fun kq v17 w'=>∃ (x17_2:Int),v17 = .int .i64 x17_2∧Aside0 (creelref_PathFault.l0 kq t102 (t102.length:Int) x17_2 = some r)∧Aside0 (kq ≤ kj1)∧Aside0 (Kd.R Kd.string 9 w' w.heap.size (fun _=>True) (.slice Ao9 t102.length co9) t102)∧Aside0 (Below w.heap.size w w'))
     case atStart=>exact ⟨(0),(by first|rfl|(simp;done)|(simp [*];done)),H',⟨Nat.le_refl _⟩,⟨by (with_reducible repeat (first|apply Kd.R_alloc|apply Kd.R_drewN|apply Kd.R_drew));exact HO104.out⟩,⟨by repeat (first|(with_reducible first|exact HB.out|apply bwA|apply pwbN|apply bw1)|exact HB.out)⟩⟩
     case round =>
      clear H';try clear c4
      try clear c6
      obtain ⟨x17_2,rfl,HA,HK2,HO_15,HB⟩:=hrel;cases gk with
      | zero=>exact absurd HA.out (by simp [creelref_PathFault.l0])
      | succ k2 =>
       have H:=HA.out;clear HA;simp only [creelref_PathFault.l0] at H;by_cases c10:x17_2 < (t102.length:Int)
       ·rw [if_pos c10] at H;have c10b0:decide (x17_2 < (t102.length:Int)) = true:=decide_eq_true c10;clear c10;by_cases c11:0 ≤ x17_2
        ·rw [if_pos c11] at H;have c11b0:decide (0 ≤ x17_2) = true:=decide_eq_true c11;clear c11;by_cases c12:x17_2 < (t102.length:Int)
         ·rw [if_pos c12] at H;have c12b0:decide (x17_2 < (t102.length:Int)) = true:=decide_eq_true c12;clear c12;by_cases c13:(rdOf ByteArray.empty t102 x17_2).toList = ([]:List UInt8)
          ·rw [if_pos c13] at H;have c13b0:((rdOf ByteArray.empty t102 x17_2).toList == ([]:List UInt8)) = true:=beq_iff_eq.mpr c13;have c13b1:((rdOf ByteArray.empty t102 x17_2).toList != ([]:List UInt8)) = false:=bne_eq_false_iff_eq.mpr c13;clear c13;obtain rfl:=Option.some.inj H;have p105:0 ≤ (x17_2:Int):=of_decide_eq_true (by first|(with_reducible assumption)|assumption);have q105:x17_2 < (t102.length:Int):=of_decide_eq_true (by first|(with_reducible assumption)|assumption);obtain ⟨ad105,e105,hx105_0⟩:=Kd.at_string (Kd.R_reads' HO_15.out).2.2 x17_2 p105 q105;cases e105;replace p105:=eq_true p105;replace q105:=eq_true q105;go_wp2;go_ret
           exact ⟨by first|rfl|(simp [errW_none,errW_some] <;> rfl)|(simp [*,errW_none,errW_some] <;> rfl),by repeat (first|(with_reducible first|exact HB.out|apply bwA|apply pwbN|apply bw1)|exact HB.out)⟩
          ·rw [if_neg c13] at H;have c13b0:((rdOf ByteArray.empty t102 x17_2).toList == ([]:List UInt8)) = false:=beq_eq_false_iff_ne.mpr c13;have c13b1:((rdOf ByteArray.empty t102 x17_2).toList != ([]:List UInt8)) = true:=bne_iff_ne.mpr c13;by_cases c14:(rdOf ByteArray.empty t102 x17_2).toList = ([46]:List UInt8)
           ·rw [if_pos c14] at H;have c14b0:((rdOf ByteArray.empty t102 x17_2).toList == ([46]:List UInt8)) = true:=beq_iff_eq.mpr c14;have c14b1:((rdOf ByteArray.empty t102 x17_2).toList != ([46]:List UInt8)) = false:=bne_eq_false_iff_eq.mpr c14;clear c14;obtain rfl:=Option.some.inj H;have p105:0 ≤ (x17_2:Int):=of_decide_eq_true (by first|(with_reducible assumption)|assumption);have q105:x17_2 < (t102.length:Int):=of_decide_eq_true (by first|(with_reducible assumption)|assumption);obtain ⟨ad105,e105,hx105_0⟩:=Kd.at_string (Kd.R_reads' HO_15.out).2.2 x17_2 p105 q105;cases e105;replace p105:=eq_true p105;replace q105:=eq_true q105;go_wp2;go_ret
            exact ⟨by first|rfl|(simp [errW_none,errW_some] <;> rfl)|(simp [*,errW_none,errW_some] <;> rfl),by repeat (first|(with_reducible first|exact HB.out|apply bwA|apply pwbN|apply bw1)|exact HB.out)⟩
           ·rw [if_neg c14] at H;have c14b0:((rdOf ByteArray.empty t102 x17_2).toList == ([46]:List UInt8)) = false:=beq_eq_false_iff_ne.mpr c14;have c14b1:((rdOf ByteArray.empty t102 x17_2).toList != ([46]:List UInt8)) = true:=bne_iff_ne.mpr c14;by_cases c15:(rdOf ByteArray.empty t102 x17_2).toList = ([46,46]:List UInt8)
            ·rw [if_pos c15] at H;have c15b0:((rdOf ByteArray.empty t102 x17_2).toList == ([46,46]:List UInt8)) = true:=beq_iff_eq.mpr c15;have c15b1:((rdOf ByteArray.empty t102 x17_2).toList != ([46,46]:List UInt8)) = false:=bne_eq_false_iff_eq.mpr c15;clear c15;obtain rfl:=Option.some.inj H;have p105:0 ≤ (x17_2:Int):=of_decide_eq_true (by first|(with_reducible assumption)|assumption);have q105:x17_2 < (t102.length:Int):=of_decide_eq_true (by first|(with_reducible assumption)|assumption);obtain ⟨ad105,e105,hx105_0⟩:=Kd.at_string (Kd.R_reads' HO_15.out).2.2 x17_2 p105 q105;cases e105;replace p105:=eq_true p105;replace q105:=eq_true q105;go_wp2;go_ret
             exact ⟨by first|rfl|(simp [errW_none,errW_some] <;> rfl)|(simp [*,errW_none,errW_some] <;> rfl),by repeat (first|(with_reducible first|exact HB.out|apply bwA|apply pwbN|apply bw1)|exact HB.out)⟩
            ·rw [if_neg c15] at H;have c15b0:((rdOf ByteArray.empty t102 x17_2).toList == ([46,46]:List UInt8)) = false:=beq_eq_false_iff_ne.mpr c15;have c15b1:((rdOf ByteArray.empty t102 x17_2).toList != ([46,46]:List UInt8)) = true:=bne_iff_ne.mpr c15;have H':=Aside0.mk H;clear H;have p105:0 ≤ (x17_2:Int):=of_decide_eq_true (by first|(with_reducible assumption)|assumption);have q105:x17_2 < (t102.length:Int):=of_decide_eq_true (by first|(with_reducible assumption)|assumption);obtain ⟨ad105,e105,hx105_0⟩:=Kd.at_string (Kd.R_reads' HO_15.out).2.2 x17_2 p105 q105;cases e105;replace p105:=eq_true p105;replace q105:=eq_true q105;go_wp2;go_roundg k2
             case measure=>have:=HJ1.out;have:=HK2.out;omega
             case rel=>exact ⟨(wrap64 (x17_2 + 1)),(by first|rfl|(simp;done)|(simp [*];done)),H',⟨by have:=HJ1.out;have:=HK2.out;omega⟩,⟨by (with_reducible repeat (first|apply Kd.R_alloc|apply Kd.R_drewN|apply Kd.R_drew));exact HO_15.out⟩,⟨by repeat (first|(with_reducible first|exact HB.out|apply bwA|apply pwbN|apply bw1)|exact HB.out)⟩⟩
         ·rw [if_neg c12] at H;exact absurd H (by simp)
        ·rw [if_neg c11] at H;exact absurd H (by simp)
       ·rw [if_neg c10] at H;have c10b0:decide (x17_2 < (t102.length:Int)) = false:=decide_eq_false c10;clear c10;obtain rfl:=Option.some.inj H;go_wp2;go_ret
        exact ⟨by first|rfl|(simp [errW_none,errW_some] <;> rfl)|(simp [*,errW_none,errW_some] <;> rfl),by repeat (first|(with_reducible first|exact HB.out|apply bwA|apply pwbN|apply bw1)|exact HB.out)⟩
end Go.Proofs.YtenbelecmmpdgaaGreatDoor.All
end
section
namespace Go.Proofs.YtenbelecmmpdgaaGreatDoor.All
open Go.RowKit Go.Proofs.YtenbelecmmpdgaaGreatDoorW.PrintWords Go.Proofs.YtenbelecmmpdgaaGreatDoorW.PrintLast Go.Proofs.YtenbelecmmpdgaaGreatDoorW.PrintMore
open Go.Proofs.YtenbelecmmpdgaaGreatDoorW.Mine
attribute [local go_sem] gtr_string leq_string geq_string
attribute [local go_sem] max2_int min2_int max_two min_two max_three min_three max_four min_four
set_option linter.unusedVariables false
set_option linter.unusedSimpArgs false
def creelref_TimeFault.f (a0:Int) (a1:Int):Option (Int):=if a0 < (-1099511627776) then (some 4) else (if a0 > 1099511627776 then (some 4) else (if a1 < 0 then (some 4) else (if a1 ≥ 1000000000 then (some 4) else (some 0))))
set_option maxHeartbeats 8000000 in
set_option maxRecDepth 100000 in
theorem creelref_TimeFault.calls (a0:Int) (a1:Int) (r:Int) (w:World) (h:creelref_TimeFault.f a0 a1 = some r) :
 Calls Tryz.prog 115 #[.int .i64 a0,.int .i64 a1] w fun e w'=>e = .returned (.int .i64 r)∧Drawn0 w w':=by
 have H:(if a0 < (-1099511627776) then (some 4) else (if a0 > 1099511627776 then (some 4) else (if a1 < 0 then (some 4) else (if a1 ≥ 1000000000 then (some 4) else (some 0))))) = some r:=h;clear h;by_cases c3:a0 < (-1099511627776)
 ·rw [if_pos c3] at H;have c3b0:decide (a0 < (-1099511627776)) = true:=decide_eq_true c3;clear c3;obtain rfl:=Option.some.inj H;go_enter Tryz.func115,Tryz.ntmps115;go_wp2;go_ret
  exact ⟨by first|rfl|(simp;done)|(simp [*];done),by repeat (first|exact Drawn0.refl _|apply Drawn0.step)⟩
 ·rw [if_neg c3] at H;have c3b0:decide (a0 < (-1099511627776)) = false:=decide_eq_false c3;clear c3;by_cases c4:a0 > 1099511627776
  ·rw [if_pos c4] at H;have c4b0:decide (1099511627776 < a0) = true:=decide_eq_true c4;clear c4;obtain rfl:=Option.some.inj H;go_enter Tryz.func115,Tryz.ntmps115;go_wp2;go_ret
   exact ⟨by first|rfl|(simp;done)|(simp [*];done),by repeat (first|exact Drawn0.refl _|apply Drawn0.step)⟩
  ·rw [if_neg c4] at H;have c4b0:decide (1099511627776 < a0) = false:=decide_eq_false c4;clear c4;by_cases c5:a1 < 0
   ·rw [if_pos c5] at H;have c5b0:decide (a1 < 0) = true:=decide_eq_true c5;clear c5;obtain rfl:=Option.some.inj H;go_enter Tryz.func115,Tryz.ntmps115;go_wp2;go_ret
    exact ⟨by first|rfl|(simp;done)|(simp [*];done),by repeat (first|exact Drawn0.refl _|apply Drawn0.step)⟩
   ·rw [if_neg c5] at H;have c5b0:decide (a1 < 0) = false:=decide_eq_false c5;clear c5;by_cases c6:a1 ≥ 1000000000
    ·rw [if_pos c6] at H;have c6b0:decide (1000000000 ≤ a1) = true:=decide_eq_true c6;clear c6;obtain rfl:=Option.some.inj H;go_enter Tryz.func115,Tryz.ntmps115;go_wp2;go_ret
     exact ⟨by first|rfl|(simp;done)|(simp [*];done),by repeat (first|exact Drawn0.refl _|apply Drawn0.step)⟩
    ·rw [if_neg c6] at H;have c6b0:decide (1000000000 ≤ a1) = false:=decide_eq_false c6;clear c6;obtain rfl:=Option.some.inj H;go_enter Tryz.func115,Tryz.ntmps115;go_wp2;go_ret
     exact ⟨by first|rfl|(simp;done)|(simp [*];done),by repeat (first|exact Drawn0.refl _|apply Drawn0.step)⟩
end Go.Proofs.YtenbelecmmpdgaaGreatDoor.All
end
section
namespace Go.Proofs.YtenbelecmmpdgaaGreatDoor.All
open Go.RowKit Go.Proofs.YtenbelecmmpdgaaGreatDoorW.PrintWords Go.Proofs.YtenbelecmmpdgaaGreatDoorW.PrintLast Go.Proofs.YtenbelecmmpdgaaGreatDoorW.PrintMore
open Go.Proofs.YtenbelecmmpdgaaGreatDoorW.Mine
attribute [local go_sem] gtr_string leq_string geq_string
attribute [local go_sem] max2_int min2_int max_two min_two max_three min_three max_four min_four
set_option linter.unusedVariables false
set_option linter.unusedSimpArgs false
mutual
def creelref_MetaFault.j0:Nat→Bool→Int→Int→Int→ByteArray→ByteArray→Int→Int→Option (Int)
 | 0,_,_,_,_,_,_,_,_=>none
 | k + 1,x30,x102000,x102001,x102002,x102003,x102004,x102005,x102006=>if x30 = true then (some 4) else (if (x102003.size:Int) > 60 then (creelref_MetaFault.j1 k true x102000 x102001 x102002 x102003 x102004 x102005 x102006) else (creelref_MetaFault.j1 k (decide ((x102004.size:Int) > 60)) x102000 x102001 x102002 x102003 x102004 x102005 x102006))
def creelref_MetaFault.j1:Nat→Bool→Int→Int→Int→ByteArray→ByteArray→Int→Int→Option (Int)
 | 0,_,_,_,_,_,_,_,_=>none
 | k + 1,x40,x102000,x102001,x102002,x102003,x102004,x102005,x102006=>if x40 = true then (some 1) else ((creelref_has.f k x102003 0).bind fun t102=>(if t102 = true then (some 3) else ((creelref_has.f k x102004 0).bind fun t103=>(if t103 = true then (some 3) else ((creelref_TimeFault.f x102005 x102006).bind fun t104=>(some t104))))))
end
def creelref_MetaFault.f (k:Nat) (a0_0:Int) (a0_1:Int) (a0_2:Int) (a0_3:ByteArray) (a0_4:ByteArray) (a0_5:Int) (a0_6:Int):Option (Int):=if a0_0 < 0 then (creelref_MetaFault.j0 k true a0_0 a0_1 a0_2 a0_3 a0_4 a0_5 a0_6) else (if a0_0 ≥ 4096 then (creelref_MetaFault.j0 k true a0_0 a0_1 a0_2 a0_3 a0_4 a0_5 a0_6) else (if a0_1 < 0 then (creelref_MetaFault.j0 k true a0_0 a0_1 a0_2 a0_3 a0_4 a0_5 a0_6) else (if a0_1 > 1125899906842624 then (creelref_MetaFault.j0 k true a0_0 a0_1 a0_2 a0_3 a0_4 a0_5 a0_6) else (if a0_2 < 0 then (creelref_MetaFault.j0 k true a0_0 a0_1 a0_2 a0_3 a0_4 a0_5 a0_6) else (creelref_MetaFault.j0 k (decide (a0_2 > 1125899906842624)) a0_0 a0_1 a0_2 a0_3 a0_4 a0_5 a0_6)))))
set_option maxHeartbeats 8000000 in
set_option maxRecDepth 100000 in
theorem creelref_MetaFault.calls (k:Nat) (a0_0:Int) (a0_1:Int) (a0_2:Int) (a0_3:ByteArray) (a0_4:ByteArray) (a0_5:Int) (a0_6:Int) (r:Int) (w:World) (h:creelref_MetaFault.f k a0_0 a0_1 a0_2 a0_3 a0_4 a0_5 a0_6 = some r) :
 Calls Tryz.prog 114 #[.agg #[.int .i64 a0_0,.int .i64 a0_1,.int .i64 a0_2,.string a0_3,.string a0_4,.int .i64 a0_5,.int .i64 a0_6]] w fun e w'=>e = .returned (.int .i64 r)∧Below w.heap.size w w':=by
 have hu23:=Tryz.underlying23;have HB:=Aside0.mk (Below.refl w.heap.size w);have H:(if a0_0 < 0 then (creelref_MetaFault.j0 k true a0_0 a0_1 a0_2 a0_3 a0_4 a0_5 a0_6) else (if a0_0 ≥ 4096 then (creelref_MetaFault.j0 k true a0_0 a0_1 a0_2 a0_3 a0_4 a0_5 a0_6) else (if a0_1 < 0 then (creelref_MetaFault.j0 k true a0_0 a0_1 a0_2 a0_3 a0_4 a0_5 a0_6) else (if a0_1 > 1125899906842624 then (creelref_MetaFault.j0 k true a0_0 a0_1 a0_2 a0_3 a0_4 a0_5 a0_6) else (if a0_2 < 0 then (creelref_MetaFault.j0 k true a0_0 a0_1 a0_2 a0_3 a0_4 a0_5 a0_6) else (creelref_MetaFault.j0 k (decide (a0_2 > 1125899906842624)) a0_0 a0_1 a0_2 a0_3 a0_4 a0_5 a0_6)))))) = some r:=h;clear h;have HC2:=Aside0.mk H;clear H;go_enter Tryz.func114,Tryz.ntmps114;go_upto_region 1 with (first|((with_reducible refine gate_dst (N:=1) rfl ?_);(try (refine gate_guard (by rfl) ?_;dsimp only));refine box_event ?hg (N:=1) ?hd (cs:=#[.int .i64 a0_0,.int .i64 a0_1,.int .i64 a0_2,.string a0_3,.string a0_4,.int .i64 a0_5,.int .i64 a0_6]) (t:=23) ?hr ?_;(case hd=>rfl);(case hg=>rfl);(case hr=>first|(go_simp;done)|(go_simp;rfl));intro gb101 hg w3 hbox hb;have n0_:=Aside0.mk (below_step (by repeat (first|(with_reducible first|exact HB.out|apply bwA|apply pwbN|apply bw1)|exact HB.out)) hb);have n1_:=Aside0.mk (hbox);have n2_:=Aside0.mk ((by rw [hg];exact (below_size (by repeat (first|(with_reducible first|exact HB.out|apply bwA|apply pwbN|apply bw1)|exact HB.out))):w.heap.size ≤ gb101));have n3_:=Aside0.mk ((by rw [hg];exact (below_size (by repeat (first|(with_reducible first|exact HB.out|apply bwA|apply pwbN|apply bw1)|exact HB.out))):w.heap.size ≤ gb101));clear HB;have HB:=n0_;have BK101:=n1_;have GW101:=n2_;have GE101:=n3_;clear n0_ n1_ n2_ n3_;clear hb hbox hg))
 (try simp only [Act.put,List.setIfInBounds_toArray,List.set_cons_zero,List.set_cons_succ]);go_cut [30] (fun v30 wc=>∃ (kq:Nat) (x30_1:Bool),v30 = .bool x30_1∧Aside0 (creelref_MetaFault.j0 kq x30_1 a0_0 a0_1 a0_2 a0_3 a0_4 a0_5 a0_6 = some r)∧Aside0 (kq ≤ k)∧Aside0 (wc.heap[gb101]? = some (.cells #[.int .i64 a0_0,.int .i64 a0_1,.int .i64 a0_2,.string a0_3,.string a0_4,.int .i64 a0_5,.int .i64 a0_6] 23 (0,0)))∧Aside0 (Below w.heap.size w wc))
 case first =>
  have H:=HC2.out;clear HC2;by_cases c4:a0_0 < 0
  ·rw [if_pos c4] at H;have c4b0:decide (a0_0 < 0) = true:=decide_eq_true c4;clear c4;(first|rw [c4b0]|(simp only [i64_w,i32_w];rw [c4b0])|skip);have H':=Aside0.mk H;clear H;obtain ⟨_,_,_,_,_,_,_,_,_,_,_,_,_,_⟩:=blkA7 BK101.out;go_wp2;go_meet
   case rel=>exact ⟨_,(true),(by first|rfl|(simp;done)|(simp [*];done)),H',⟨by first|omega|exact Nat.le_refl _⟩,⟨by (with_reducible repeat (first|refine blk_drewN ?_ _|refine blk_drew ?_|refine blk_alloc ?_ _));exact BK101.out⟩,⟨by repeat (first|(with_reducible first|exact HB.out|apply bwA|apply pwbN|apply bw1|refine below_set ?_ GE101.out)|exact HB.out)⟩⟩
  ·rw [if_neg c4] at H;have c4b0:decide (a0_0 < 0) = false:=decide_eq_false c4;clear c4;(first|rw [c4b0]|(simp only [i64_w,i32_w];rw [c4b0])|skip);by_cases c6:a0_0 ≥ 4096
   ·rw [if_pos c6] at H;have c6b0:decide (4096 ≤ a0_0) = true:=decide_eq_true c6;clear c6;have H':=Aside0.mk H;clear H;obtain ⟨_,_,_,_,_,_,_,_,_,_,_,_,_,_⟩:=blkA7 BK101.out;go_wp2;go_meet
    case rel=>exact ⟨_,(true),(by first|rfl|(simp;done)|(simp [*];done)),H',⟨by first|omega|exact Nat.le_refl _⟩,⟨by (with_reducible repeat (first|refine blk_drewN ?_ _|refine blk_drew ?_|refine blk_alloc ?_ _));exact BK101.out⟩,⟨by repeat (first|(with_reducible first|exact HB.out|apply bwA|apply pwbN|apply bw1|refine below_set ?_ GE101.out)|exact HB.out)⟩⟩
   ·rw [if_neg c6] at H;have c6b0:decide (4096 ≤ a0_0) = false:=decide_eq_false c6;clear c6;by_cases c8:a0_1 < 0
    ·rw [if_pos c8] at H;have c8b0:decide (a0_1 < 0) = true:=decide_eq_true c8;clear c8;have H':=Aside0.mk H;clear H;obtain ⟨_,_,_,_,_,_,_,_,_,_,_,_,_,_⟩:=blkA7 BK101.out;go_wp2;go_meet
     case rel=>exact ⟨_,(true),(by first|rfl|(simp;done)|(simp [*];done)),H',⟨by first|omega|exact Nat.le_refl _⟩,⟨by (with_reducible repeat (first|refine blk_drewN ?_ _|refine blk_drew ?_|refine blk_alloc ?_ _));exact BK101.out⟩,⟨by repeat (first|(with_reducible first|exact HB.out|apply bwA|apply pwbN|apply bw1|refine below_set ?_ GE101.out)|exact HB.out)⟩⟩
    ·rw [if_neg c8] at H;have c8b0:decide (a0_1 < 0) = false:=decide_eq_false c8;clear c8;by_cases c10:a0_1 > 1125899906842624
     ·rw [if_pos c10] at H;have c10b0:decide (1125899906842624 < a0_1) = true:=decide_eq_true c10;clear c10;have H':=Aside0.mk H;clear H;obtain ⟨_,_,_,_,_,_,_,_,_,_,_,_,_,_⟩:=blkA7 BK101.out;go_wp2;go_meet
      case rel=>exact ⟨_,(true),(by first|rfl|(simp;done)|(simp [*];done)),H',⟨by first|omega|exact Nat.le_refl _⟩,⟨by (with_reducible repeat (first|refine blk_drewN ?_ _|refine blk_drew ?_|refine blk_alloc ?_ _));exact BK101.out⟩,⟨by repeat (first|(with_reducible first|exact HB.out|apply bwA|apply pwbN|apply bw1|refine below_set ?_ GE101.out)|exact HB.out)⟩⟩
     ·rw [if_neg c10] at H;have c10b0:decide (1125899906842624 < a0_1) = false:=decide_eq_false c10;clear c10;by_cases c12:a0_2 < 0
      ·rw [if_pos c12] at H;have c12b0:decide (a0_2 < 0) = true:=decide_eq_true c12;clear c12;have H':=Aside0.mk H;clear H;obtain ⟨_,_,_,_,_,_,_,_,_,_,_,_,_,_⟩:=blkA7 BK101.out;go_wp2;go_meet
       case rel=>exact ⟨_,(true),(by first|rfl|(simp;done)|(simp [*];done)),H',⟨by first|omega|exact Nat.le_refl _⟩,⟨by (with_reducible repeat (first|refine blk_drewN ?_ _|refine blk_drew ?_|refine blk_alloc ?_ _));exact BK101.out⟩,⟨by repeat (first|(with_reducible first|exact HB.out|apply bwA|apply pwbN|apply bw1|refine below_set ?_ GE101.out)|exact HB.out)⟩⟩
      ·rw [if_neg c12] at H;have c12b0:decide (a0_2 < 0) = false:=decide_eq_false c12;clear c12;have H':=Aside0.mk H;clear H;obtain ⟨_,_,_,_,_,_,_,_,_,_,_,_,_,_⟩:=blkA7 BK101.out;go_wp2;go_meet
       case rel=>exact ⟨_,(decide (a0_2 > 1125899906842624)),(by first|rfl|(simp;done)|(simp [*];done)),H',⟨by first|omega|exact Nat.le_refl _⟩,⟨by (with_reducible repeat (first|refine blk_drewN ?_ _|refine blk_drew ?_|refine blk_alloc ?_ _));exact BK101.out⟩,⟨by repeat (first|(with_reducible first|exact HB.out|apply bwA|apply pwbN|apply bw1|refine below_set ?_ GE101.out)|exact HB.out)⟩⟩
 case rest =>
  clear HC2;obtain ⟨kq,x30_1,rfl,HA,HJ1,BK101,HB⟩:=hcut;cases kq with
  | zero=>exact absurd HA.out (by simp [creelref_MetaFault.j0])
  | succ kj1 =>
   have H:=HA.out;clear HA;simp only [creelref_MetaFault.j0] at H;by_cases c15:x30_1 = true
   ·subst c15;have H1:(some 4) = some r:=by rw [if_pos rfl] at H;exact H
    clear H;have H:=H1;clear H1;obtain rfl:=Option.some.inj H;go_wp2;go_ret
    exact ⟨by first|rfl|(simp [errW_none,errW_some] <;> rfl)|(simp [*,errW_none,errW_some] <;> rfl),by repeat (first|(with_reducible first|exact HB.out|apply bwA|apply pwbN|apply bw1|refine below_set ?_ GE101.out)|exact HB.out)⟩
   ·replace c15:=Bool.eq_false_iff.mpr c15;subst c15;have H1:(if (a0_3.size:Int) > 60 then (creelref_MetaFault.j1 kj1 true a0_0 a0_1 a0_2 a0_3 a0_4 a0_5 a0_6) else (creelref_MetaFault.j1 kj1 (decide ((a0_4.size:Int) > 60)) a0_0 a0_1 a0_2 a0_3 a0_4 a0_5 a0_6)) = some r:=by rw [if_neg (show ¬ (false = true) by decide)] at H;exact H
    clear H;have H:=H1;clear H1;have HC16:=Aside0.mk H;clear H;go_upto_region 3 with (fail)
    go_cut [40] (fun v40 wc=>∃ (kq:Nat) (x40_15:Bool),v40 = .bool x40_15∧Aside0 (creelref_MetaFault.j1 kq x40_15 a0_0 a0_1 a0_2 a0_3 a0_4 a0_5 a0_6 = some r)∧Aside0 (kq ≤ kj1)∧Aside0 (wc.heap[gb101]? = some (.cells #[.int .i64 a0_0,.int .i64 a0_1,.int .i64 a0_2,.string a0_3,.string a0_4,.int .i64 a0_5,.int .i64 a0_6] 23 (0,0)))∧Aside0 (Below w.heap.size w wc))
    case first =>
     have H:=HC16.out;clear HC16;by_cases c17:(a0_3.size:Int) > 60
     ·rw [if_pos c17] at H;have c17b0:decide (60 < (a0_3.size:Int)) = true:=decide_eq_true c17;have c17b1:decide (60 < a0_3.size) = true:=decide_eq_true (by omega);clear c17;(first|rw [c17b0]|(simp only [i64_w,i32_w];rw [c17b0])|skip);have H':=Aside0.mk H;clear H;obtain ⟨_,_,_,_,_,_,_,_,_,_,_,_,_,_⟩:=blkA7 BK101.out;go_wp2;go_meet
      case rel=>exact ⟨_,(true),(by first|rfl|(simp;done)|(simp [*];done)),H',⟨by have:=HJ1.out;first|omega|exact Nat.le_refl _⟩,⟨by (with_reducible repeat (first|refine blk_drewN ?_ _|refine blk_drew ?_|refine blk_alloc ?_ _));exact BK101.out⟩,⟨by repeat (first|(with_reducible first|exact HB.out|apply bwA|apply pwbN|apply bw1|refine below_set ?_ GE101.out)|exact HB.out)⟩⟩
     ·rw [if_neg c17] at H;have c17b0:decide (60 < (a0_3.size:Int)) = false:=decide_eq_false c17;have c17b1:decide (60 < a0_3.size) = false:=decide_eq_false (by omega);clear c17;(first|rw [c17b0]|(simp only [i64_w,i32_w];rw [c17b0])|skip);have H':=Aside0.mk H;clear H;obtain ⟨_,_,_,_,_,_,_,_,_,_,_,_,_,_⟩:=blkA7 BK101.out;go_wp2;go_meet
      case rel=>exact ⟨_,(decide ((a0_4.size:Int) > 60)),(by first|rfl|(simp;done)|(simp [*];done)),H',⟨by have:=HJ1.out;first|omega|exact Nat.le_refl _⟩,⟨by (with_reducible repeat (first|refine blk_drewN ?_ _|refine blk_drew ?_|refine blk_alloc ?_ _));exact BK101.out⟩,⟨by repeat (first|(with_reducible first|exact HB.out|apply bwA|apply pwbN|apply bw1|refine below_set ?_ GE101.out)|exact HB.out)⟩⟩
    case rest =>
     clear HC16;try clear c15
     obtain ⟨kq,x40_15,rfl,HA,HJ15,BK101,HB⟩:=hcut;cases kq with
     | zero=>exact absurd HA.out (by simp [creelref_MetaFault.j1])
     | succ kj15 =>
      have H:=HA.out;clear HA;simp only [creelref_MetaFault.j1] at H;by_cases c20:x40_15 = true
      ·subst c20;have H1:(some 1) = some r:=by rw [if_pos rfl] at H;exact H
       clear H;have H:=H1;clear H1;obtain rfl:=Option.some.inj H;go_wp2;go_ret
       exact ⟨by first|rfl|(simp [errW_none,errW_some] <;> rfl)|(simp [*,errW_none,errW_some] <;> rfl),by repeat (first|(with_reducible first|exact HB.out|apply bwA|apply pwbN|apply bw1|refine below_set ?_ GE101.out)|exact HB.out)⟩
      ·replace c20:=Bool.eq_false_iff.mpr c20;subst c20;have H1:((creelref_has.f kj15 a0_3 0).bind fun t102=>(if t102 = true then (some 3) else ((creelref_has.f kj15 a0_4 0).bind fun t103=>(if t103 = true then (some 3) else ((creelref_TimeFault.f a0_5 a0_6).bind fun t104=>(some t104)))))) = some r:=by rw [if_neg (show ¬ (false = true) by decide)] at H;exact H
       clear H;have H:=H1;clear H1;replace H:=Option.bind_eq_some_iff.mp H;obtain ⟨t102,A210,H⟩:=H;replace H:(if t102 = true then (some 3) else ((creelref_has.f kj15 a0_4 0).bind fun t103=>(if t103 = true then (some 3) else ((creelref_TimeFault.f a0_5 a0_6).bind fun t104=>(some t104))))) = some r:=H;have A21:=Aside0.mk A210;clear A210;by_cases c22:t102 = true
       ·subst c22;have H1:(some 3) = some r:=by rw [if_pos rfl] at H;exact H
        clear H;have H:=H1;clear H1;obtain rfl:=Option.some.inj H;obtain ⟨_,_,_,_,_,_,_,_,_,_,_,_,_,_⟩:=blkA7 BK101.out;go_wp2_with (first|((with_reducible refine gate_callee (f:=77) rfl ?_);refine goesL_ (some 43) rfl rfl Tryz.func77 (by kernel_rfl) rfl #[.string a0_3,.int .u8 0] rfl (by (try simp only [List.map_toArray,List.map_cons,List.map_nil]);first|done|rfl|(simp only [List.length_drop,List.length_take];rfl)) ?_;(with_reducible refine (creelref_has.calls kj15 a0_3 0 true _ A21.out).mono ?_);rintro e w' ⟨rfl,⟨nd,rfl⟩⟩;refine ⟨_,rfl,?_⟩))
        go_ret
        exact ⟨by first|rfl|(simp [errW_none,errW_some] <;> rfl)|(simp [*,errW_none,errW_some] <;> rfl),by repeat (first|(with_reducible first|exact HB.out|apply bwA|apply pwbN|apply bw1|refine below_set ?_ GE101.out)|exact HB.out)⟩
       ·replace c22:=Bool.eq_false_iff.mpr c22;subst c22;have H1:((creelref_has.f kj15 a0_4 0).bind fun t103=>(if t103 = true then (some 3) else ((creelref_TimeFault.f a0_5 a0_6).bind fun t104=>(some t104)))) = some r:=by rw [if_neg (show ¬ (false = true) by decide)] at H;exact H
        clear H;have H:=H1;clear H1;replace H:=Option.bind_eq_some_iff.mp H;obtain ⟨t103,A240,H⟩:=H;replace H:(if t103 = true then (some 3) else ((creelref_TimeFault.f a0_5 a0_6).bind fun t104=>(some t104))) = some r:=H;have A24:=Aside0.mk A240;clear A240;by_cases c25:t103 = true
        ·subst c25;have H1:(some 3) = some r:=by rw [if_pos rfl] at H;exact H
         clear H;have H:=H1;clear H1;obtain rfl:=Option.some.inj H;obtain ⟨_,_,_,_,_,_,_,_,_,_,_,_,_,_⟩:=blkA7 BK101.out;go_wp2_with (first|((with_reducible refine gate_callee (f:=77) rfl ?_);refine goesL_ (some 43) rfl rfl Tryz.func77 (by kernel_rfl) rfl #[.string a0_3,.int .u8 0] rfl (by (try simp only [List.map_toArray,List.map_cons,List.map_nil]);first|done|rfl|(simp only [List.length_drop,List.length_take];rfl)) ?_;(with_reducible refine (creelref_has.calls kj15 a0_3 0 false _ A21.out).mono ?_);rintro e w' ⟨rfl,⟨nd,rfl⟩⟩;refine ⟨_,rfl,?_⟩)|(go_at_call 77;(with_reducible refine (creelref_has.calls kj15 a0_4 0 true _ A24.out).mono ?_);rintro e w' ⟨rfl,⟨nd,rfl⟩⟩))
         go_ret
         exact ⟨by first|rfl|(simp [errW_none,errW_some] <;> rfl)|(simp [*,errW_none,errW_some] <;> rfl),by repeat (first|(with_reducible first|exact HB.out|apply bwA|apply pwbN|apply bw1|refine below_set ?_ GE101.out)|exact HB.out)⟩
        ·replace c25:=Bool.eq_false_iff.mpr c25;subst c25;have H1:((creelref_TimeFault.f a0_5 a0_6).bind fun t104=>(some t104)) = some r:=by rw [if_neg (show ¬ (false = true) by decide)] at H;exact H
         clear H;have H:=H1;clear H1;replace H:=Option.bind_eq_some_iff.mp H;obtain ⟨t104,A270,H⟩:=H;replace H:(some t104) = some r:=H;have A27:=Aside0.mk A270;clear A270;obtain rfl:=Option.some.inj H;obtain ⟨_,_,_,_,_,_,_,_,_,_,_,_,_,_⟩:=blkA7 BK101.out;go_wp2_with (first|((with_reducible refine gate_callee (f:=77) rfl ?_);refine goesL_ (some 43) rfl rfl Tryz.func77 (by kernel_rfl) rfl #[.string a0_3,.int .u8 0] rfl (by (try simp only [List.map_toArray,List.map_cons,List.map_nil]);first|done|rfl|(simp only [List.length_drop,List.length_take];rfl)) ?_;(with_reducible refine (creelref_has.calls kj15 a0_3 0 false _ A21.out).mono ?_);rintro e w' ⟨rfl,⟨nd,rfl⟩⟩;refine ⟨_,rfl,?_⟩)|(go_at_call 77;(with_reducible refine (creelref_has.calls kj15 a0_4 0 false _ A24.out).mono ?_);rintro e w' ⟨rfl,⟨nd,rfl⟩⟩)|((with_reducible refine gate_callee (f:=115) rfl ?_);refine goesL_ (some 53) rfl rfl Tryz.func115 (by kernel_rfl) rfl #[.int .i64 a0_5,.int .i64 a0_6] rfl (by (try simp only [List.map_toArray,List.map_cons,List.map_nil]);first|done|rfl|(simp only [List.length_drop,List.length_take];rfl)) ?_;(with_reducible refine (creelref_TimeFault.calls a0_5 a0_6 t104 _ A27.out).mono ?_);rintro e w' ⟨rfl,⟨nd,rfl⟩⟩;refine ⟨_,rfl,?_⟩))
         go_ret
         exact ⟨by first|rfl|(simp [errW_none,errW_some] <;> rfl)|(simp [*,errW_none,errW_some] <;> rfl),by repeat (first|(with_reducible first|exact HB.out|apply bwA|apply pwbN|apply bw1|refine below_set ?_ GE101.out)|exact HB.out)⟩
end Go.Proofs.YtenbelecmmpdgaaGreatDoor.All
end
