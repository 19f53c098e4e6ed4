/- Made by programs of the prover: walks of Go functions, the words that they use, and plain laws, each text in a section of its own; no condition of its own. -/
import Derived.Deep.Slices
import Derived.SizedLaws
import Derived.ChangeSlices
import Derived.ChangeArms
import Derived.ChangeSame
import Derived.ProofKit
import Derived.Lib.Bytealg
import Derived.Lib.IndexAny
import Derived.Lib.IndexLaws
import Derived.Laws.MakeOwn
import Derived.Test.YtlfeijjilndljaaDoorZDiffTells1
import Derived.Test.YtlfeijjilndljaaDoorZDiffTells2
import Derived.Test.YtlfeijjilndljaaDoorZDiffTells3
import Derived.Test.YtlfeijjilndljaaDoorZDiffTells4
import Derived.Test.YtlfeijjilndljaaDoorZDiffTells5
import Derived.Test.YtlfeijjilndljaaDoorZDiffTells7
section
namespace Go.Proofs.YtlfeijjilndljaaDoor.All
open Go.RowKit Go.Proofs.YtlfeijjilndljaaDoorW.PrintWords Go.Proofs.YtlfeijjilndljaaDoorW.PrintLast Go.Proofs.YtlfeijjilndljaaDoorW.PrintMore
open Go.Proofs.YtlfeijjilndljaaDoorW.Mine
attribute [local go_sem] gtr_string leq_string geq_string
attribute [local go_sem] max2_int min2_int max_two min_two max_three min_three max_four min_four
set_option linter.unusedVariables false
set_option linter.unusedSimpArgs false
open Go.Proofs.YtlfeijjilndljaaDoorW.MapOwn
def creellaw_sameChanges.eq (x y:S77):Option Bool:=creellaw_sameChanges_1.f (x).f0 (x).f1.f0 (x).f1.f1 (x).f1.f2 (x).f1.f3 (x).f1.f4.f0 (x).f1.f4.f1 (x).f1.f4.f2 (x).f1.f4.f3 (x).f1.f4.f4 (x).f1.f4.f5 (x).f1.f4.f6 (x).f1.f5 (y).f0 (y).f1.f0 (y).f1.f1 (y).f1.f2 (y).f1.f3 (y).f1.f4.f0 (y).f1.f4.f1 (y).f1.f4.f2 (y).f1.f4.f3 (y).f1.f4.f4 (y).f1.f4.f5 (y).f1.f4.f6 (y).f1.f5
def creellaw_sameChanges.l0:List S77→List S77→Option Bool
 | [],[]=>some true
 | x :: xs,y :: ys=>(creellaw_sameChanges.eq x y).bind fun b=>if b = true then creellaw_sameChanges.l0 xs ys else some false
 | _,_=>none
def creellaw_sameChanges.f (l0 l1:List S77):Option Bool:=if l0.length = l1.length then (if l0.length ≤ 140737488351232 then creellaw_sameChanges.l0 l0 l1 else none) else some false
theorem creellaw_sameChanges.at_ (l:List S77) (n:Nat) (h:n < l.length):l.drop n = rd_T77 l (n:Int) :: l.drop (n + 1):=by
 rw [List.drop_eq_getElem_cons h];congr 1
 unfold rd_T77;rw [Int.toNat_natCast,List.getD_eq_getElem?_getD,List.getElem?_eq_getElem h];rfl
set_option maxHeartbeats 8000000 in
set_option maxRecDepth 100000 in
theorem creellaw_sameChanges.equal (A0:Option Addr) (c0:Nat) (l0:List (S77)) (A1:Option Addr) (c1:Nat) (l1:List (S77)) (r:Bool) (w:World) (hr0:Kd.C k77 w A0 l0.length l0) (hc0:l0.length ≤ c0) (hr1:Kd.C k77 w A1 l1.length l1) (hc1:l1.length ≤ c1) (h:creellaw_sameChanges.f l0 l1 = some r) :
 Calls Tryd.prog 64 #[.slice A0 l0.length c0,.slice A1 l1.length c1,.func (.func 65) #[] #[]] w fun e w'=>e = .returned (.bool r)∧Below w.heap.size w w':=by
 have hu77:=Tryd.underlying77;have HR0:=Aside0.mk hr0;have HR1:=Aside0.mk hr1;clear hr0 hr1 hc0 hc1;unfold creellaw_sameChanges.f at h;by_cases hl:l0.length = l1.length
 ·rw [if_pos hl] at h;by_cases hm:l0.length ≤ 140737488351232
  rotate_left
  ·rw [if_neg hm] at h;cases h
  rw [if_pos hm] at h;have HM:=Aside0.mk hm;clear hm;have HE:=Aside0.mk hl;have H':=Aside0.mk h;have HB:=Aside0.mk (Below.refl w.heap.size w);have q1:((l0.length:Int) != (l1.length:Int)) = false:=by rw [hl];simp
  have q2:(l0.length != l1.length) = false:=by rw [hl];simp
  have q3:((l0.length:Int) == (l1.length:Int)) = true:=by rw [hl];simp
  have q4:(l0.length == l1.length) = true:=by rw [hl];simp
  clear h hl;go_enter Tryd.func64,Tryd.ntmps64;go_wp2;clear q1 q2 q3 q4;go_loopg [17] l0.length (fun kq v17 wx=>∃ (n:Nat),Aside0 (kq = l0.length - n)∧Aside0 (n ≤ l0.length)∧v17 = .int .i64 (n:Int)∧Aside0 (creellaw_sameChanges.l0 (l0.drop n) (l1.drop n) = some r)∧Aside0 (Below w.heap.size w wx))
  case atStart=>exact ⟨0,⟨rfl⟩,⟨Nat.zero_le _⟩,rfl,⟨by rw [List.drop_zero,List.drop_zero];exact H'.out⟩,HB⟩
  case round =>
   clear HB H';obtain ⟨n,HQ,HN,rfl,HA,HB⟩:=hrel;by_cases c3:n < l0.length
   ·have H:=HA.out;clear HA;rw [creellaw_sameChanges.at_ l0 n c3,creellaw_sameChanges.at_ l1 n (by have:=HE.out;omega)] at H;obtain ⟨b,A10,H⟩:=Option.bind_eq_some_iff.mp (show ((creellaw_sameChanges.eq (rd_T77 l0 (n:Int)) (rd_T77 l1 (n:Int))).bind fun b=>if b = true then creellaw_sameChanges.l0 (l0.drop (n + 1)) (l1.drop (n + 1)) else some false) = some r from H);have HA1:=Aside0.mk A10;have HH:=Aside0.mk H;clear A10 H;obtain ⟨ad,A11,c11,e,hx,hl11,hi11⟩:=elem77 HR0.out n c3;cases e;obtain ⟨bd,B11,d11,e,hy,hl12,hi12⟩:=elem77 HR1.out n (by have:=HE.out;omega);cases e;have HXC:=Aside0.mk hx;have HYC:=Aside0.mk hy;have HX:=Aside0.mk hi11;have HXM:=Aside0.mk hl11;have HY:=Aside0.mk hi12;have HYM:=Aside0.mk hl12;have HLT:=Aside0.mk c3;have p3:((n:Int) < (l0.length:Int)) = True:=eq_true (by omega);have p4:(0 ≤ (n:Int)) = True:=eq_true (by omega);have p5:((n:Int) < (l1.length:Int)) = True:=eq_true (by have:=HE.out;omega);have hw1:wrap64 ((n:Int) + 1) = ((n + 1:Nat):Int):=by have:=HM.out;unfold wrap64;omega
    clear hx hy hl11 hi11 hl12 hi12 c3;generalize hx:rd_T77 l0 (n:Int) = x at *;generalize hy:rd_T77 l1 (n:Int) = y at *;clear hx hy;cases b with
    | true =>
     have H:=HH.out;rw [if_pos rfl] at H;have H':=Aside0.mk H;clear HH H;go_wp2_with (first|((with_reducible refine gate_dst (N:=21) rfl ?_);refine load_event (ad:=ad.add (n * 13)) rfl rfl hu77 rfl rfl (cs:=[.int .i64 (x).f0,.string (x).f1.f0,.int .i64 (x).f1.f1,.int .i64 (x).f1.f2,.string (x).f1.f3,.int .i64 (x).f1.f4.f0,.int .i64 (x).f1.f4.f1,.int .i64 (x).f1.f4.f2,.string (x).f1.f4.f3,.string (x).f1.f4.f4,.int .i64 (x).f1.f4.f5,.int .i64 (x).f1.f4.f6,.slice A11 (x).f1.f5.length c11]) sz77 (fun j v hv=>(HB.out.cell (World.block_lt_of_cell? w _ (HXC.out j v hv))).trans (HXC.out j v hv)) ?_)|((with_reducible refine gate_dst (N:=25) rfl ?_);refine load_event (ad:=bd.add (n * 13)) rfl rfl hu77 rfl rfl (cs:=[.int .i64 (y).f0,.string (y).f1.f0,.int .i64 (y).f1.f1,.int .i64 (y).f1.f2,.string (y).f1.f3,.int .i64 (y).f1.f4.f0,.int .i64 (y).f1.f4.f1,.int .i64 (y).f1.f4.f2,.string (y).f1.f4.f3,.string (y).f1.f4.f4,.int .i64 (y).f1.f4.f5,.int .i64 (y).f1.f4.f6,.slice B11 (y).f1.f5.length d11]) sz77 (fun j v hv=>(HB.out.cell (World.block_lt_of_cell? w _ (HYC.out j v hv))).trans (HYC.out j v hv)) ?_)|((with_reducible refine gate_dst (N:=8) rfl ?_);refine box_event ?hg (N:=8) ?hd (cs:=#[.int .i64 0,.string (⟨#[]⟩:ByteArray),.int .i64 0,.int .i64 0,.string (⟨#[]⟩:ByteArray),.int .i64 0,.int .i64 0,.int .i64 0,.string (⟨#[]⟩:ByteArray),.string (⟨#[]⟩:ByteArray),.int .i64 0,.int .i64 0,.slice none 0 0]) (t:=77) ?hr ?_;(case hd=>rfl);(case hg=>rfl);(case hr=>first|(go_simp;done)|(go_simp;rfl));intro g8 hg w2 hbox hb2;have HG:=Aside0.mk (show w.heap.size ≤ g8 by rw [hg];exact HB.out.size);have HK:=Aside0.mk hbox;have HB9:=Aside0.mk (below_step HB.out hb2);clear HB;have HB:=HB9;clear HB9;clear hg hbox hb2)|((with_reducible refine gate_store (t:=77) (p:=8) rfl ?_);refine put_event rfl rfl rfl rfl rfl HK.out sz77 rfl rfl ?_;intro w3 hk3 hg3;have HB9:=Aside0.mk (below_grown HB.out hg3 HG.out (blk_lt HK.out));have HK9:=Aside0.mk (hk3);clear HB HK;have HB:=HB9;have HK:=HK9;clear HB9 HK9;clear hk3 hg3)|((with_reducible refine gate_dst (N:=9) rfl ?_);refine box_event ?hg (N:=9) ?hd (cs:=#[.int .i64 0,.string (⟨#[]⟩:ByteArray),.int .i64 0,.int .i64 0,.string (⟨#[]⟩:ByteArray),.int .i64 0,.int .i64 0,.int .i64 0,.string (⟨#[]⟩:ByteArray),.string (⟨#[]⟩:ByteArray),.int .i64 0,.int .i64 0,.slice none 0 0]) (t:=77) ?hr ?_;(case hd=>rfl);(case hg=>rfl);(case hr=>first|(go_simp;done)|(go_simp;rfl));intro g9 hg w2 hbox hb2;have HG9:=Aside0.mk (show w.heap.size ≤ g9 by rw [hg];exact HB.out.size);have HNE:=Aside0.mk (show g8 ≠ g9 by have:=blk_lt HK.out;omega);have HL:=Aside0.mk hbox;have HB9:=Aside0.mk (below_step HB.out hb2);have HK9:=Aside0.mk (blk_below HK.out hb2);clear HB HK;have HB:=HB9;have HK:=HK9;clear HB9 HK9;clear hg hbox hb2)|((with_reducible refine gate_store (t:=77) (p:=9) rfl ?_);refine put_event rfl rfl rfl rfl rfl HL.out sz77 rfl rfl ?_;intro w3 hk3 hg3;have HB9:=Aside0.mk (below_grown HB.out hg3 HG9.out (blk_lt HL.out));have HK9:=Aside0.mk (blk_grown HK.out hg3 (fun e=>HNE.out (Option.some.inj e)));have HL9:=Aside0.mk (hk3);clear HB HK HL;have HB:=HB9;have HK:=HK9;have HL:=HL9;clear HB9 HK9 HL9;clear hk3 hg3)|((with_reducible refine gate_dst (N:=27) rfl ?_);refine load_event rfl rfl hu77 rfl rfl (cs:=[.int .i64 (x).f0,.string (x).f1.f0,.int .i64 (x).f1.f1,.int .i64 (x).f1.f2,.string (x).f1.f3,.int .i64 (x).f1.f4.f0,.int .i64 (x).f1.f4.f1,.int .i64 (x).f1.f4.f2,.string (x).f1.f4.f3,.string (x).f1.f4.f4,.int .i64 (x).f1.f4.f5,.int .i64 (x).f1.f4.f6,.slice A11 (x).f1.f5.length c11]) sz77 (cells_of_blk HK.out) ?_)|((with_reducible refine gate_dst (N:=28) rfl ?_);refine load_event rfl rfl hu77 rfl rfl (cs:=[.int .i64 (y).f0,.string (y).f1.f0,.int .i64 (y).f1.f1,.int .i64 (y).f1.f2,.string (y).f1.f3,.int .i64 (y).f1.f4.f0,.int .i64 (y).f1.f4.f1,.int .i64 (y).f1.f4.f2,.string (y).f1.f4.f3,.string (y).f1.f4.f4,.int .i64 (y).f1.f4.f5,.int .i64 (y).f1.f4.f6,.slice B11 (y).f1.f5.length d11]) sz77 (cells_of_blk HL.out) ?_)|(go_at_call 65;refine (creellaw_sameChanges_1.calls (x).f0 (x).f1.f0 (x).f1.f1 (x).f1.f2 (x).f1.f3 (x).f1.f4.f0 (x).f1.f4.f1 (x).f1.f4.f2 (x).f1.f4.f3 (x).f1.f4.f4 (x).f1.f4.f5 (x).f1.f4.f6 A11 c11 (x).f1.f5 (y).f0 (y).f1.f0 (y).f1.f1 (y).f1.f2 (y).f1.f3 (y).f1.f4.f0 (y).f1.f4.f1 (y).f1.f4.f2 (y).f1.f4.f3 (y).f1.f4.f4 (y).f1.f4.f5 (y).f1.f4.f6 B11 d11 (y).f1.f5 _ _ (Kd.C_below HX.out HB.out) HXM.out (Kd.C_below HY.out HB.out) HYM.out HA1.out).mono ?_;rintro e w5 ⟨rfl,hb5⟩;have HB9:=Aside0.mk (below_step HB.out hb5);clear HB;have HB:=HB9;clear HB9;clear hb5))
     go_roundg (l0.length - (n + 1))
     case measure=>have:=HQ.out;have:=HLT.out;omega
     case rel=>exact ⟨n + 1,⟨rfl⟩,⟨HLT.out⟩,(by first|rfl|rw [hw1]),H',HB⟩
    | false =>
     have H:=HH.out;rw [if_neg (by decide)] at H;obtain rfl:=Option.some.inj H;clear HH H;go_wp2_with (first|((with_reducible refine gate_dst (N:=21) rfl ?_);refine load_event (ad:=ad.add (n * 13)) rfl rfl hu77 rfl rfl (cs:=[.int .i64 (x).f0,.string (x).f1.f0,.int .i64 (x).f1.f1,.int .i64 (x).f1.f2,.string (x).f1.f3,.int .i64 (x).f1.f4.f0,.int .i64 (x).f1.f4.f1,.int .i64 (x).f1.f4.f2,.string (x).f1.f4.f3,.string (x).f1.f4.f4,.int .i64 (x).f1.f4.f5,.int .i64 (x).f1.f4.f6,.slice A11 (x).f1.f5.length c11]) sz77 (fun j v hv=>(HB.out.cell (World.block_lt_of_cell? w _ (HXC.out j v hv))).trans (HXC.out j v hv)) ?_)|((with_reducible refine gate_dst (N:=25) rfl ?_);refine load_event (ad:=bd.add (n * 13)) rfl rfl hu77 rfl rfl (cs:=[.int .i64 (y).f0,.string (y).f1.f0,.int .i64 (y).f1.f1,.int .i64 (y).f1.f2,.string (y).f1.f3,.int .i64 (y).f1.f4.f0,.int .i64 (y).f1.f4.f1,.int .i64 (y).f1.f4.f2,.string (y).f1.f4.f3,.string (y).f1.f4.f4,.int .i64 (y).f1.f4.f5,.int .i64 (y).f1.f4.f6,.slice B11 (y).f1.f5.length d11]) sz77 (fun j v hv=>(HB.out.cell (World.block_lt_of_cell? w _ (HYC.out j v hv))).trans (HYC.out j v hv)) ?_)|((with_reducible refine gate_dst (N:=8) rfl ?_);refine box_event ?hg (N:=8) ?hd (cs:=#[.int .i64 0,.string (⟨#[]⟩:ByteArray),.int .i64 0,.int .i64 0,.string (⟨#[]⟩:ByteArray),.int .i64 0,.int .i64 0,.int .i64 0,.string (⟨#[]⟩:ByteArray),.string (⟨#[]⟩:ByteArray),.int .i64 0,.int .i64 0,.slice none 0 0]) (t:=77) ?hr ?_;(case hd=>rfl);(case hg=>rfl);(case hr=>first|(go_simp;done)|(go_simp;rfl));intro g8 hg w2 hbox hb2;have HG:=Aside0.mk (show w.heap.size ≤ g8 by rw [hg];exact HB.out.size);have HK:=Aside0.mk hbox;have HB9:=Aside0.mk (below_step HB.out hb2);clear HB;have HB:=HB9;clear HB9;clear hg hbox hb2)|((with_reducible refine gate_store (t:=77) (p:=8) rfl ?_);refine put_event rfl rfl rfl rfl rfl HK.out sz77 rfl rfl ?_;intro w3 hk3 hg3;have HB9:=Aside0.mk (below_grown HB.out hg3 HG.out (blk_lt HK.out));have HK9:=Aside0.mk (hk3);clear HB HK;have HB:=HB9;have HK:=HK9;clear HB9 HK9;clear hk3 hg3)|((with_reducible refine gate_dst (N:=9) rfl ?_);refine box_event ?hg (N:=9) ?hd (cs:=#[.int .i64 0,.string (⟨#[]⟩:ByteArray),.int .i64 0,.int .i64 0,.string (⟨#[]⟩:ByteArray),.int .i64 0,.int .i64 0,.int .i64 0,.string (⟨#[]⟩:ByteArray),.string (⟨#[]⟩:ByteArray),.int .i64 0,.int .i64 0,.slice none 0 0]) (t:=77) ?hr ?_;(case hd=>rfl);(case hg=>rfl);(case hr=>first|(go_simp;done)|(go_simp;rfl));intro g9 hg w2 hbox hb2;have HG9:=Aside0.mk (show w.heap.size ≤ g9 by rw [hg];exact HB.out.size);have HNE:=Aside0.mk (show g8 ≠ g9 by have:=blk_lt HK.out;omega);have HL:=Aside0.mk hbox;have HB9:=Aside0.mk (below_step HB.out hb2);have HK9:=Aside0.mk (blk_below HK.out hb2);clear HB HK;have HB:=HB9;have HK:=HK9;clear HB9 HK9;clear hg hbox hb2)|((with_reducible refine gate_store (t:=77) (p:=9) rfl ?_);refine put_event rfl rfl rfl rfl rfl HL.out sz77 rfl rfl ?_;intro w3 hk3 hg3;have HB9:=Aside0.mk (below_grown HB.out hg3 HG9.out (blk_lt HL.out));have HK9:=Aside0.mk (blk_grown HK.out hg3 (fun e=>HNE.out (Option.some.inj e)));have HL9:=Aside0.mk (hk3);clear HB HK HL;have HB:=HB9;have HK:=HK9;have HL:=HL9;clear HB9 HK9 HL9;clear hk3 hg3)|((with_reducible refine gate_dst (N:=27) rfl ?_);refine load_event rfl rfl hu77 rfl rfl (cs:=[.int .i64 (x).f0,.string (x).f1.f0,.int .i64 (x).f1.f1,.int .i64 (x).f1.f2,.string (x).f1.f3,.int .i64 (x).f1.f4.f0,.int .i64 (x).f1.f4.f1,.int .i64 (x).f1.f4.f2,.string (x).f1.f4.f3,.string (x).f1.f4.f4,.int .i64 (x).f1.f4.f5,.int .i64 (x).f1.f4.f6,.slice A11 (x).f1.f5.length c11]) sz77 (cells_of_blk HK.out) ?_)|((with_reducible refine gate_dst (N:=28) rfl ?_);refine load_event rfl rfl hu77 rfl rfl (cs:=[.int .i64 (y).f0,.string (y).f1.f0,.int .i64 (y).f1.f1,.int .i64 (y).f1.f2,.string (y).f1.f3,.int .i64 (y).f1.f4.f0,.int .i64 (y).f1.f4.f1,.int .i64 (y).f1.f4.f2,.string (y).f1.f4.f3,.string (y).f1.f4.f4,.int .i64 (y).f1.f4.f5,.int .i64 (y).f1.f4.f6,.slice B11 (y).f1.f5.length d11]) sz77 (cells_of_blk HL.out) ?_)|(go_at_call 65;refine (creellaw_sameChanges_1.calls (x).f0 (x).f1.f0 (x).f1.f1 (x).f1.f2 (x).f1.f3 (x).f1.f4.f0 (x).f1.f4.f1 (x).f1.f4.f2 (x).f1.f4.f3 (x).f1.f4.f4 (x).f1.f4.f5 (x).f1.f4.f6 A11 c11 (x).f1.f5 (y).f0 (y).f1.f0 (y).f1.f1 (y).f1.f2 (y).f1.f3 (y).f1.f4.f0 (y).f1.f4.f1 (y).f1.f4.f2 (y).f1.f4.f3 (y).f1.f4.f4 (y).f1.f4.f5 (y).f1.f4.f6 B11 d11 (y).f1.f5 _ _ (Kd.C_below HX.out HB.out) HXM.out (Kd.C_below HY.out HB.out) HYM.out HA1.out).mono ?_;rintro e w5 ⟨rfl,hb5⟩;have HB9:=Aside0.mk (below_step HB.out hb5);clear HB;have HB:=HB9;clear HB9;clear hb5))
     go_ret
     exact ⟨rfl,HB.out⟩
   ·have c3b:decide ((n:Int) < (l0.length:Int)) = false:=decide_eq_false (by omega);have c3n:decide (n < l0.length) = false:=decide_eq_false c3;have c3m:(n < l0.length) = False:=eq_false c3;have H:=HA.out;rw [List.drop_of_length_le (by omega),List.drop_of_length_le (by have:=HE.out;omega)] at H;obtain rfl:=Option.some.inj (show some true = some r from H);clear c3 H HA;go_wp2;go_ret
    exact ⟨rfl,HB.out⟩
 ·rw [if_neg hl] at h;obtain rfl:=Option.some.inj h;have HB:=Aside0.mk (Below.refl w.heap.size w);have q1:((l0.length:Int) != (l1.length:Int)) = true:=by rw [bne_iff_ne];omega
  have q2:(l0.length != l1.length) = true:=by rw [bne_iff_ne];exact hl
  have q3:((l0.length:Int) == (l1.length:Int)) = false:=by rw [beq_eq_false_iff_ne];omega
  have q4:(l0.length == l1.length) = false:=by rw [beq_eq_false_iff_ne];exact hl
  clear h hl;go_enter Tryd.func64,Tryd.ntmps64;go_wp2;go_ret
  exact ⟨rfl,HB.out⟩
set_option maxHeartbeats 8000000 in
set_option maxRecDepth 100000 in
theorem creellaw_sameChanges.calls (A0:Option Addr) (c0:Nat) (l0:List (S77)) (A1:Option Addr) (c1:Nat) (l1:List (S77)) (r:Bool) (w:World) (hr0:Kd.C k77 w A0 l0.length l0) (hc0:l0.length ≤ c0) (hr1:Kd.C k77 w A1 l1.length l1) (hc1:l1.length ≤ c1) (h:creellaw_sameChanges.f l0 l1 = some r) :
 Calls Tryd.prog 26 #[.slice A0 l0.length c0,.slice A1 l1.length c1] w fun e w'=>e = .returned (.bool r)∧Below w.heap.size w w':=by
 have HR0:=Aside0.mk hr0;have HR1:=Aside0.mk hr1;have HC0:=Aside0.mk hc0;have HC1:=Aside0.mk hc1;have H:=Aside0.mk h;clear hr0 hr1 hc0 hc1 h;go_enter Tryd.func26,Tryd.ntmps26;go_wp2_with (go_at_call 64;refine (creellaw_sameChanges.equal A0 c0 l0 A1 c1 l1 r _ HR0.out HC0.out HR1.out HC1.out H.out).mono ?_;rintro e w' ⟨rfl,hb⟩;have HB:=Aside0.mk hb;clear hb)
 go_ret
 exact ⟨rfl,HB.out⟩
end Go.Proofs.YtlfeijjilndljaaDoor.All
end
section
namespace Go.Proofs.YtlfeijjilndljaaDoor.All
open Go.RowKit Go.Proofs.YtlfeijjilndljaaDoorW.PrintWords Go.Proofs.YtlfeijjilndljaaDoorW.PrintLast Go.Proofs.YtlfeijjilndljaaDoorW.PrintMore
open Go.Proofs.YtlfeijjilndljaaDoorW.Mine
attribute [local go_sem] gtr_string leq_string geq_string
attribute [local go_sem] max2_int min2_int max_two min_two max_three min_three max_four min_four
set_option linter.unusedVariables false
set_option linter.unusedSimpArgs false
def creellaw_DiffTells.f (k:Nat) (l0:List (S56)) (l1:List (S56)):Option (Bool):=(diff_Of.f k l0 l1).bind fun bt101=>((creelref_DiffOf.f k l0 l1).bind fun bt105=>((creellaw_sameChanges.f bt101.1 bt105.1).bind fun t109=>(if t109 = true then (some (bt101.2 == bt105.2)) else (some false))))
set_option maxHeartbeats 8000000 in
set_option maxRecDepth 100000 in
theorem creellaw_DiffTells.calls (k:Nat) (A0:Option Addr) (c0:Nat) (l0:List (S56)) (A1:Option Addr) (c1:Nat) (l1:List (S56)) (r:Bool) (w:World) (hr0:Kd.C k56 w A0 l0.length l0) (hc0:l0.length ≤ c0) (hr1:Kd.C k56 w A1 l1.length l1) (hc1:l1.length ≤ c1) (h:creellaw_DiffTells.f k l0 l1 = some r) :
 Calls Tryd.prog 8 #[.slice A0 l0.length c0,.slice A1 l1.length c1] w fun e w'=>e = .returned (.bool r)∧Below w.heap.size w w':=by
 have HR0:=Aside0.mk hr0;have HC0:=Aside0.mk hc0;clear hr0 hc0;have HR1:=Aside0.mk hr1;have HC1:=Aside0.mk hc1;clear hr1 hc1;have HB:=Aside0.mk (Below.refl w.heap.size w);have H:((diff_Of.f k l0 l1).bind fun bt101=>((creelref_DiffOf.f k l0 l1).bind fun bt105=>((creellaw_sameChanges.f bt101.1 bt105.1).bind fun t109=>(if t109 = true then (some (bt101.2 == bt105.2)) else (some false))))) = some r:=h;clear h;replace H:=Option.bind_eq_some_iff.mp H;obtain ⟨⟨t101,t104⟩,A30,H⟩:=H;replace H:((creelref_DiffOf.f k l0 l1).bind fun bt105=>((creellaw_sameChanges.f t101 bt105.1).bind fun t109=>(if t109 = true then (some (t104 == bt105.2)) else (some false)))) = some r:=H;have A3:=Aside0.mk A30;clear A30;replace H:=Option.bind_eq_some_iff.mp H;obtain ⟨⟨t105,t108⟩,A40,H⟩:=H;replace H:((creellaw_sameChanges.f t101 t105).bind fun t109=>(if t109 = true then (some (t104 == t108)) else (some false))) = some r:=H;have A4:=Aside0.mk A40;clear A40;replace H:=Option.bind_eq_some_iff.mp H;obtain ⟨t109,A50,H⟩:=H;replace H:(if t109 = true then (some (t104 == t108)) else (some false)) = some r:=H;have A5:=Aside0.mk A50;clear A50;by_cases c6:t109 = true
 ·subst c6;have H1:(some (t104 == t108)) = some r:=by rw [if_pos rfl] at H;exact H
  clear H;have H:=H1;clear H1;obtain rfl:=Option.some.inj H;go_enter Tryd.func8,Tryd.ntmps8;go_wp2_with (first|((with_reducible refine gate_callee (f:=24) rfl ?_);refine goesL_ (some 12) rfl rfl Tryd.func24 (by kernel_rfl) rfl #[.slice A0 l0.length c0,.slice A1 l1.length c1] rfl (by (try simp only [List.map_toArray,List.map_cons,List.map_nil]);first|done|rfl|(simp only [List.length_drop,List.length_take];rfl)) ?_;(with_reducible refine (diff_Of.calls k _ _ l0 _ _ l1 t101 t104 _ ?side1 ?side2 ?side3 ?side4 A3.out).mono ?_);(case side1=>repeat (first|exact HR0.out|(with_reducible refine Kd.C_alloc ?_ _)|(with_reducible refine Kd.C_drewN ?_ _)|(with_reducible refine Kd.C_drew ?_)));(case side2=>exact HC0.out);(case side3=>repeat (first|exact HR1.out|(with_reducible refine Kd.C_alloc ?_ _)|(with_reducible refine Kd.C_drewN ?_ _)|(with_reducible refine Kd.C_drew ?_)));(case side4=>exact HC1.out);rintro e w7 ⟨v102,rfl,ho0,hb⟩;refine ⟨_,rfl,?_⟩;have n0_:=Aside0.mk (Kd.N_lower (Kd.N_mono (ok':=fun k_=>True) ho0 (fun k_ hk_=>trivial)) (below_size (by repeat (first|(with_reducible first|exact HB.out|apply bwA|apply pwbN|apply bw1)|exact HB.out))));have n1_:=Aside0.mk (below_step (by repeat (first|(with_reducible first|exact HB.out|apply bwA|apply pwbN|apply bw1)|exact HB.out)) hb);clear HB;have HO103:=n0_;have HB:=n1_;clear n0_ n1_;(try clear hb);(try clear hb2);(try clear hk);(try clear hi);(try clear ho0))|((with_reducible refine gate_callee (f:=25) rfl ?_);refine goesL_ (some 18) rfl rfl Tryd.func25 (by kernel_rfl) rfl #[.slice A0 l0.length c0,.slice A1 l1.length c1] rfl (by (try simp only [List.map_toArray,List.map_cons,List.map_nil]);first|done|rfl|(simp only [List.length_drop,List.length_take];rfl)) ?_;(with_reducible refine (creelref_DiffOf.calls k (fun k_=>k_ < w.heap.size) _ _ l0 (fun k_=>k_ < w.heap.size) _ _ l1 t105 t108 _ ?side1 ?side2 A4.out).mono ?_);(case side1=>exact Kd.V_mk HC0.out (Kd.F_below (Kd.C_F k56_heap HR0.out) (by repeat (first|(with_reducible first|exact HB.out|apply bwA|apply pwbN|apply bw1)|exact HB.out))));(case side2=>exact Kd.V_mk HC1.out (Kd.F_below (Kd.C_F k56_heap HR1.out) (by repeat (first|(with_reducible first|exact HB.out|apply bwA|apply pwbN|apply bw1)|exact HB.out))));rintro e w8 ⟨v106,rfl,ho0,hb⟩;refine ⟨_,rfl,?_⟩;have n0_:=Aside0.mk (Kd.N_elder' (by (with_reducible repeat (first|apply Kd.N_alloc|apply Kd.N_drewN|apply Kd.N_drew));exact HO103.out) (Kd.N_base ho0) hb);have n1_:=Aside0.mk (Kd.N_lower (Kd.N_mono (ok':=fun k_=>some k_ ≠ (v102:Value).ownBlock) ho0 (fun k_ hk_=>Or.elim hk_ (fun hs_=>Or.elim hs_ (fun hs_=>fun e_=>Nat.not_le.2 hs_ (Kd.N_base HO103.out k_ e_.symm)) (fun hs_=>fun e_=>Nat.not_le.2 hs_ (Kd.N_base HO103.out k_ e_.symm))) (fun hn_=>(Kd.fresh' (Kd.N_lt (by (with_reducible repeat (first|apply Kd.N_alloc|apply Kd.N_drewN|apply Kd.N_drew));exact HO103.out)) k_ hn_)))) (below_size (by repeat (first|(with_reducible first|exact HB.out|apply bwA|apply pwbN|apply bw1)|exact HB.out))));have n2_:=Aside0.mk (below_step (by repeat (first|(with_reducible first|exact HB.out|apply bwA|apply pwbN|apply bw1)|exact HB.out)) hb);clear HO103;clear HB;have HO103:=n0_;have HO107:=n1_;have HB:=n2_;clear n0_ n1_ n2_;(try clear hb);(try clear hb2);(try clear hk);(try clear hi);(try clear ho0);obtain ⟨Ao9,co9,eo9⟩:=Kd.N_slice HO103.out;subst eo9;obtain ⟨Ao10,co10,eo10⟩:=Kd.N_slice HO107.out;subst eo10)|((with_reducible refine gate_callee (f:=26) rfl ?_);refine goesL_ (some 23) rfl rfl Tryd.func26 (by kernel_rfl) rfl #[.slice Ao9 t101.length co9,.slice Ao10 t105.length co10] rfl (by (try simp only [List.map_toArray,List.map_cons,List.map_nil]);first|done|rfl|(simp only [List.length_drop,List.length_take];rfl)) ?_;(with_reducible refine (creellaw_sameChanges.calls _ _ t101 _ _ t105 true _ ?side1 ?side2 ?side3 ?side4 A5.out).mono ?_);(case side1=>repeat (first|exact (Kd.N_reads' HO103.out).2.2|(with_reducible refine Kd.C_alloc ?_ _)|(with_reducible refine Kd.C_drewN ?_ _)|(with_reducible refine Kd.C_drew ?_)));(case side2=>exact (Kd.N_reads' HO103.out).2.1);(case side3=>repeat (first|exact (Kd.N_reads' HO107.out).2.2|(with_reducible refine Kd.C_alloc ?_ _)|(with_reducible refine Kd.C_drewN ?_ _)|(with_reducible refine Kd.C_drew ?_)));(case side4=>exact (Kd.N_reads' HO107.out).2.1);rintro e w11 ⟨rfl,hb⟩;refine ⟨_,rfl,?_⟩;have n0_:=Aside0.mk (Kd.N_below (by (with_reducible repeat (first|apply Kd.N_alloc|apply Kd.N_drewN|apply Kd.N_drew));exact HO103.out) hb);have n1_:=Aside0.mk (Kd.N_below (by (with_reducible repeat (first|apply Kd.N_alloc|apply Kd.N_drewN|apply Kd.N_drew));exact HO107.out) hb);have n2_:=Aside0.mk (below_step (by repeat (first|(with_reducible first|exact HB.out|apply bwA|apply pwbN|apply bw1)|exact HB.out)) hb);clear HO103;clear HO107;clear HB;have HO103:=n0_;have HO107:=n1_;have HB:=n2_;clear n0_ n1_ n2_;(try clear hb);(try clear hb2);(try clear hk);(try clear hi)))
  go_ret
  exact ⟨by first|rfl|(simp [errW_none,errW_some] <;> rfl)|(simp [*,errW_none,errW_some] <;> rfl),by repeat (first|(with_reducible first|exact HB.out|apply bwA|apply pwbN|apply bw1)|exact HB.out)⟩
 ·replace c6:=Bool.eq_false_iff.mpr c6;subst c6;have H1:(some false) = some r:=by rw [if_neg (show ¬ (false = true) by decide)] at H;exact H
  clear H;have H:=H1;clear H1;obtain rfl:=Option.some.inj H;go_enter Tryd.func8,Tryd.ntmps8;go_wp2_with (first|((with_reducible refine gate_callee (f:=24) rfl ?_);refine goesL_ (some 12) rfl rfl Tryd.func24 (by kernel_rfl) rfl #[.slice A0 l0.length c0,.slice A1 l1.length c1] rfl (by (try simp only [List.map_toArray,List.map_cons,List.map_nil]);first|done|rfl|(simp only [List.length_drop,List.length_take];rfl)) ?_;(with_reducible refine (diff_Of.calls k _ _ l0 _ _ l1 t101 t104 _ ?side1 ?side2 ?side3 ?side4 A3.out).mono ?_);(case side1=>repeat (first|exact HR0.out|(with_reducible refine Kd.C_alloc ?_ _)|(with_reducible refine Kd.C_drewN ?_ _)|(with_reducible refine Kd.C_drew ?_)));(case side2=>exact HC0.out);(case side3=>repeat (first|exact HR1.out|(with_reducible refine Kd.C_alloc ?_ _)|(with_reducible refine Kd.C_drewN ?_ _)|(with_reducible refine Kd.C_drew ?_)));(case side4=>exact HC1.out);rintro e w12 ⟨v102,rfl,ho0,hb⟩;refine ⟨_,rfl,?_⟩;have n0_:=Aside0.mk (Kd.N_lower (Kd.N_mono (ok':=fun k_=>True) ho0 (fun k_ hk_=>trivial)) (below_size (by repeat (first|(with_reducible first|exact HB.out|apply bwA|apply pwbN|apply bw1)|exact HB.out))));have n1_:=Aside0.mk (below_step (by repeat (first|(with_reducible first|exact HB.out|apply bwA|apply pwbN|apply bw1)|exact HB.out)) hb);clear HB;have HO103:=n0_;have HB:=n1_;clear n0_ n1_;(try clear hb);(try clear hb2);(try clear hk);(try clear hi);(try clear ho0))|((with_reducible refine gate_callee (f:=25) rfl ?_);refine goesL_ (some 18) rfl rfl Tryd.func25 (by kernel_rfl) rfl #[.slice A0 l0.length c0,.slice A1 l1.length c1] rfl (by (try simp only [List.map_toArray,List.map_cons,List.map_nil]);first|done|rfl|(simp only [List.length_drop,List.length_take];rfl)) ?_;(with_reducible refine (creelref_DiffOf.calls k (fun k_=>k_ < w.heap.size) _ _ l0 (fun k_=>k_ < w.heap.size) _ _ l1 t105 t108 _ ?side1 ?side2 A4.out).mono ?_);(case side1=>exact Kd.V_mk HC0.out (Kd.F_below (Kd.C_F k56_heap HR0.out) (by repeat (first|(with_reducible first|exact HB.out|apply bwA|apply pwbN|apply bw1)|exact HB.out))));(case side2=>exact Kd.V_mk HC1.out (Kd.F_below (Kd.C_F k56_heap HR1.out) (by repeat (first|(with_reducible first|exact HB.out|apply bwA|apply pwbN|apply bw1)|exact HB.out))));rintro e w13 ⟨v106,rfl,ho0,hb⟩;refine ⟨_,rfl,?_⟩;have n0_:=Aside0.mk (Kd.N_elder' (by (with_reducible repeat (first|apply Kd.N_alloc|apply Kd.N_drewN|apply Kd.N_drew));exact HO103.out) (Kd.N_base ho0) hb);have n1_:=Aside0.mk (Kd.N_lower (Kd.N_mono (ok':=fun k_=>some k_ ≠ (v102:Value).ownBlock) ho0 (fun k_ hk_=>Or.elim hk_ (fun hs_=>Or.elim hs_ (fun hs_=>fun e_=>Nat.not_le.2 hs_ (Kd.N_base HO103.out k_ e_.symm)) (fun hs_=>fun e_=>Nat.not_le.2 hs_ (Kd.N_base HO103.out k_ e_.symm))) (fun hn_=>(Kd.fresh' (Kd.N_lt (by (with_reducible repeat (first|apply Kd.N_alloc|apply Kd.N_drewN|apply Kd.N_drew));exact HO103.out)) k_ hn_)))) (below_size (by repeat (first|(with_reducible first|exact HB.out|apply bwA|apply pwbN|apply bw1)|exact HB.out))));have n2_:=Aside0.mk (below_step (by repeat (first|(with_reducible first|exact HB.out|apply bwA|apply pwbN|apply bw1)|exact HB.out)) hb);clear HO103;clear HB;have HO103:=n0_;have HO107:=n1_;have HB:=n2_;clear n0_ n1_ n2_;(try clear hb);(try clear hb2);(try clear hk);(try clear hi);(try clear ho0);obtain ⟨Ao14,co14,eo14⟩:=Kd.N_slice HO103.out;subst eo14;obtain ⟨Ao15,co15,eo15⟩:=Kd.N_slice HO107.out;subst eo15)|((with_reducible refine gate_callee (f:=26) rfl ?_);refine goesL_ (some 23) rfl rfl Tryd.func26 (by kernel_rfl) rfl #[.slice Ao14 t101.length co14,.slice Ao15 t105.length co15] rfl (by (try simp only [List.map_toArray,List.map_cons,List.map_nil]);first|done|rfl|(simp only [List.length_drop,List.length_take];rfl)) ?_;(with_reducible refine (creellaw_sameChanges.calls _ _ t101 _ _ t105 false _ ?side1 ?side2 ?side3 ?side4 A5.out).mono ?_);(case side1=>repeat (first|exact (Kd.N_reads' HO103.out).2.2|(with_reducible refine Kd.C_alloc ?_ _)|(with_reducible refine Kd.C_drewN ?_ _)|(with_reducible refine Kd.C_drew ?_)));(case side2=>exact (Kd.N_reads' HO103.out).2.1);(case side3=>repeat (first|exact (Kd.N_reads' HO107.out).2.2|(with_reducible refine Kd.C_alloc ?_ _)|(with_reducible refine Kd.C_drewN ?_ _)|(with_reducible refine Kd.C_drew ?_)));(case side4=>exact (Kd.N_reads' HO107.out).2.1);rintro e w16 ⟨rfl,hb⟩;refine ⟨_,rfl,?_⟩;have n0_:=Aside0.mk (Kd.N_below (by (with_reducible repeat (first|apply Kd.N_alloc|apply Kd.N_drewN|apply Kd.N_drew));exact HO103.out) hb);have n1_:=Aside0.mk (Kd.N_below (by (with_reducible repeat (first|apply Kd.N_alloc|apply Kd.N_drewN|apply Kd.N_drew));exact HO107.out) hb);have n2_:=Aside0.mk (below_step (by repeat (first|(with_reducible first|exact HB.out|apply bwA|apply pwbN|apply bw1)|exact HB.out)) hb);clear HO103;clear HO107;clear HB;have HO103:=n0_;have HO107:=n1_;have HB:=n2_;clear n0_ n1_ n2_;(try clear hb);(try clear hb2);(try clear hk);(try clear hi)))
  go_ret
  exact ⟨by first|rfl|(simp [errW_none,errW_some] <;> rfl)|(simp [*,errW_none,errW_some] <;> rfl),by repeat (first|(with_reducible first|exact HB.out|apply bwA|apply pwbN|apply bw1)|exact HB.out)⟩
end Go.Proofs.YtlfeijjilndljaaDoor.All
end
section
namespace Go.Proofs.YtlfeijjilndljaaDoorW.Opens
open Go.RowKit Go.ChangeShapes Go.WideShapes Go.Proofs.YtlfeijjilndljaaDoorW.PrintWords
def Opens {α:Type} (P:Program) (t:TypeId) (d:Kd α) (g:α→Prop):Prop :=
  ∀ (H:Type) (enc:TypeId × Value→H) (w:World) (fuel:Nat) (cs:List Value) (x:DataW H × List MemPlace),
    DataW.trod enc P w 0 (fun _=>true) true fuel t cs = some x→(∀ n ∈ x.1.weights P t,n ≤ reachBytes)→∃ y,d.K w y cs∧g y
theorem opens_int {P:Program} {t:TypeId} {k:IntKind} (ht:P.underlying t = some (.int k)):Opens P t (Kd.int k) (fun a=>(Lit.int k a).wf = true):=by
  intro H enc w fuel cs x h _
  obtain ⟨a,e,_,wa⟩:=DataW.trod_int ht h
  exact ⟨a,e,wa⟩
theorem opens_string {P:Program} {t:TypeId} (ht:P.underlying t = some .string):Opens P t Kd.string (fun s=>s.size ≤ 140737488351232):=by
  intro H enc w fuel cs x h hw
  obtain ⟨a,e,hx,_⟩:=DataW.trod_string ht h
  refine ⟨a,e,?_⟩
  have:=hw a.data.toList.length (by rw [hx];simp [DataW.weights])
  rw [Array.length_toList] at this
  exact this
theorem list_of {α:Type} {p:Nat→α→Prop}:∀ (n:Nat),(∀ i,i < n→∃ y,p i y)→∃ l:List α,l.length = n∧∀ i y,l[i]? = some y→p i y
  | 0,_=>⟨[],rfl,fun i y h=>by simp at h⟩
  | n + 1,h=>by
    obtain ⟨l,hl,hp⟩:=list_of n (fun i hi=>h i (by omega))
    obtain ⟨y,hy⟩:=h n (by omega)
    refine ⟨l ++ [y],by simp [hl],fun i z hz=>?_⟩
    by_cases hi:i < n
    · exact hp i z (by rwa [List.getElem?_append_left (by omega)] at hz)
    · rw [List.getElem?_append_right (by omega),hl] at hz
      have e0:i - n = 0:=by
        rcases Nat.eq_zero_or_pos (i - n) with e|e
        · exact e
        · rw [List.getElem?_eq_none (by simp;omega)] at hz
          simp at hz
      rw [e0] at hz
      have:i = n:=by omega
      subst this
      simp at hz
      subst hz
      exact hy
theorem mem_weightsAll {H:Type} {P:Program} {e:TypeId} {d:DataW H}:∀ {l:List (DataW H)},d ∈ l→∀ n ∈ d.weights P e,n ∈ DataW.weightsAll P e l
  | a :: l,h,n,hn=>by
    simp only [DataW.weightsAll,List.mem_append]
    rcases List.mem_cons.1 h with rfl|h
    · exact .inl hn
    · exact .inr (mem_weightsAll h n hn)
  | [],h,_,_=>by simp at h
theorem opens_slice {α:Type} {P:Program} {t e:TypeId} {B:Nat} {d:Kd α} {g:α→Prop} (ht:P.underlying t = some (.slice e)) (hc:P.cellsOf e = d.sz) (hB:P.bytesOf e = B) (ho:Opens P e d g) :
    Opens P t (Kd.slice e d) (fun l=>l.length * B ≤ 140737488351232∧∀ y ∈ l,g y):=by
  intro H enc w fuel cs x h hw
  rcases Go.Deep.open_slice ht h with ⟨rfl,rfl⟩|⟨a,len,cap,m,n,D,Pl,rfl,_,hl,hm,hmm,rfl,hel⟩
  · exact ⟨[],⟨none,0,rfl,Nat.le_refl _,rfl,by simp,fun h=>absurd h (by simp)⟩,by simp,by simp⟩
  · have hml:len ≤ m:=by
      rw [hmm]
      simp only [if_true]
      exact hl
    have key:∀ i,i < len→∃ y,(∃ c,c.length = d.sz∧d.K w y c∧∀ j u,c[j]? = some u→w.cell? (a.add (i * d.sz + j)) = some u)∧g y:=by
      intro i hi
      obtain ⟨c,h1,h2⟩:=hel i (by omega)
      rw [hc] at h1
      obtain ⟨_,hlen,hcell⟩:=World.cells?_some h1
      obtain ⟨y,hK,hg⟩:=ho H enc w n c (D i,Pl i) h2 (fun q hq=>hw q (by
        simp only [DataW.weights,ht,List.mem_cons,List.mem_append]
        exact .inr (.inl (mem_weightsAll (List.mem_map.2 ⟨i,List.mem_range.2 hi,rfl⟩) q hq))))
      refine ⟨y,⟨c,hlen,hK,fun j u hu=>?_⟩,hg⟩
      have hj:j < d.sz:=by
        rw [← hlen]
        exact (List.getElem?_eq_some_iff.1 hu).1
      rw [← Go.Deep.add_add,hcell j hj,hu]
    obtain ⟨l,hlen,hp⟩:=list_of len key
    subst hlen
    refine ⟨l,⟨some a,cap,rfl,hl,rfl,?_,fun _=>⟨a,rfl,fun j p hj=>?_⟩⟩,?_,?_⟩
    · unfold maxLen at hm
      omega
    · obtain ⟨⟨c,h1,h2,h3⟩,_⟩:=hp j p hj
      exact ⟨c,h1,h2,h3⟩
    · have:=hw ((l.length + (m - l.length)) * P.bytesOf e) (by simp [DataW.weights,ht])
      rw [hB] at this
      exact Nat.le_trans (Nat.mul_le_mul_right _ (by omega)) this
    · intro y hy
      obtain ⟨i,hi⟩:=List.mem_iff_getElem?.1 hy
      exact (hp i y hi).2
def OpensF {α:Type} (P:Program) (fs:List Field) (off:Nat) (d:Kd α) (g:α→Prop):Prop :=
  ∀ (H:Type) (enc:TypeId × Value→H) (w:World) (n:Nat) (cs:List Value) (xs:List (DataW H × List MemPlace)),
    cs.length = off + d.sz→xs.length = fs.length→(∀ (i:Nat) (f:Field),fs[i]? = some f→DataW.trod enc P w 0 (fun _=>true) true n f.type ((cs.drop f.offset).take (P.cellsOf f.type)) = xs[i]?) →
    (∀ m ∈ DataW.weightsEach P (fs.map (·.type)) (xs.map (·.1)),m ≤ reachBytes)→∃ y,d.K w y (cs.drop off)∧g y
theorem opensF_one {α:Type} {P:Program} {f:Field} {off:Nat} {d:Kd α} {g:α→Prop} (hoff:f.offset = off) (hc:P.cellsOf f.type = d.sz) (ho:Opens P f.type d g):OpensF P [f] off d g:=by
  intro H enc w n cs xs hl hx hf hw
  match xs,hx with
  | [x],_ =>
    have h:=hf 0 f rfl
    rw [hoff,hc,List.take_of_length_le (by rw [List.length_drop];omega)] at h
    exact ho H enc w n (cs.drop off) x h (fun m hm=>hw m (by simp only [List.map_cons,List.map_nil,DataW.weightsEach,List.append_nil];exact hm))
theorem opensF_cons {α β:Type} {P:Program} {f:Field} {fs:List Field} {off off2:Nat} {d1:Kd α} {d2:Kd β} {g1:α→Prop} {g2:β→Prop} (hoff:f.offset = off) (hc:P.cellsOf f.type = d1.sz) (ho:Opens P f.type d1 g1)
    (h2:off + d1.sz = off2) (hr:OpensF P fs off2 d2 g2):OpensF P (f :: fs) off (Kd.pair d1 d2) (fun p=>g1 p.1∧g2 p.2):=by
  intro H enc w n cs xs hl hx hf hw
  match xs,hx with
  | x :: xs,hx =>
    subst h2
    have hl':cs.length = off + (d1.sz + d2.sz):=hl
    have h:=hf 0 f rfl
    rw [hoff,hc] at h
    obtain ⟨y1,k1,q1⟩:=ho H enc w n _ x h (fun m hm=>hw m (by simp only [List.map_cons,DataW.weightsEach,List.mem_append];exact .inl hm))
    obtain ⟨y2,k2,q2⟩:=hr H enc w n cs xs (by omega) (by simpa using hx) (fun i f' hi=>by simpa using hf (i + 1) f' (by simpa using hi)) (fun m hm=>hw m (by simp only [List.map_cons,DataW.weightsEach,List.mem_append];exact .inr hm))
    refine ⟨(y1,y2),⟨_,_,?_,k1,k2⟩,q1,q2⟩
    rw [← List.drop_drop,List.take_append_drop]
theorem opens_struct {α:Type} {P:Program} {t:TypeId} {fs:Array Field} {d:Kd α} {g:α→Prop} (ht:P.underlying t = some (.struct fs)) (hc:P.cellsOf t = d.sz) (hF:OpensF P fs.toList 0 d g):Opens P t d g:=by
  intro H enc w fuel cs x h hw
  obtain ⟨xs,n,_,rfl,hl,hlen,hf⟩:=DataW.trod_struct ht h
  have:=hF H enc w n cs xs (by omega) (by simpa using hlen) (fun i f hi=>hf i f (by simpa using hi)) (fun m hm=>hw m (by simpa only [DataW.weights,ht] using hm))
  simpa using this
theorem opens_iso {α β:Type} {P:Program} {t:TypeId} {d:Kd α} {g:α→Prop} {f:β→α} (inv:α→β) (hinv:∀ y,f (inv y) = y) (ho:Opens P t d g):Opens P t (Kd.iso d f) (fun x=>g (f x)):=by
  intro H enc w fuel cs x h hw
  obtain ⟨y,hK,hg⟩:=ho H enc w fuel cs x h hw
  exact ⟨inv y,by show d.K w (f (inv y)) cs;rw [hinv];exact hK,by show g (f (inv y));rw [hinv];exact hg⟩
theorem opens_at {α:Type} {P:Program} {t:TypeId} {d:Kd α} {g:α→Prop} (ho:Opens P t d g) {H:Type} {enc:TypeId × Value→H} {w:World} {v:Value} {x:DataW H} {ps:List MemPlace} {ts:List TypeId} {ds:List (DataW H)} {j:Nat}
    (hsz:(DataW.weightsEach P ts ds).all (· ≤ reachBytes) = true) (ht:ts[j]? = some t) (hd:ds[j]? = some x) (h:DataW.Trod enc P w 0 (fun _=>true) true t v x ps):∃ y,d.K w y v.cells.toList∧g y:=by
  obtain ⟨fuel,hf⟩:=h
  exact ho H enc w fuel _ (x,ps) hf (fun n hn=>by simpa using List.all_eq_true.1 hsz n (DataW.weights_mem_each ht hd n hn))
end Go.Proofs.YtlfeijjilndljaaDoorW.Opens
end
section
namespace Go.Proofs.YtlfeijjilndljaaDoor.GDiffTells
open Go.RowKit Go.Proofs.YtlfeijjilndljaaDoor.All Go.Proofs.YtlfeijjilndljaaDoorW.PrintWords Go.Proofs.YtlfeijjilndljaaDoorW.PrintLast Go.Proofs.YtlfeijjilndljaaDoorW.Opens
set_option linter.unusedVariables false
def good32 (x:S32):Prop:=((Lit.int .i64 x.f0).wf = true)∧((Lit.int .i64 x.f1).wf = true)∧((Lit.int .i64 x.f2).wf = true)∧(x.f3.size ≤ 140737488351232)∧(x.f4.size ≤ 140737488351232)∧((Lit.int .i64 x.f5).wf = true)∧((Lit.int .i64 x.f6).wf = true)
theorem opens32:Opens Tryd.prog 32 k32 good32:=opens_iso (f:=(fun x:S32=>(x.f0,x.f1,x.f2,x.f3,x.f4,x.f5,x.f6))) (fun p=>⟨p.1,p.2.1,p.2.2.1,p.2.2.2.1,p.2.2.2.2.1,p.2.2.2.2.2.1,p.2.2.2.2.2.2⟩) (fun _=>rfl) (opens_struct Tryd.underlying32 (by kernel_rfl) (opensF_cons (off2:=1) rfl (by kernel_rfl) (opens_int Tryd.underlying3) rfl (opensF_cons (off2:=2) rfl (by kernel_rfl) (opens_int Tryd.underlying3) rfl (opensF_cons (off2:=3) rfl (by kernel_rfl) (opens_int Tryd.underlying3) rfl (opensF_cons (off2:=4) rfl (by kernel_rfl) (opens_string Tryd.underlying9) rfl (opensF_cons (off2:=5) rfl (by kernel_rfl) (opens_string Tryd.underlying9) rfl (opensF_cons (off2:=6) rfl (by kernel_rfl) (opens_int Tryd.underlying3) rfl (opensF_one rfl (by kernel_rfl) (opens_int Tryd.underlying3)))))))))
def good56 (x:S56):Prop:=(x.f0.size ≤ 140737488351232)∧((Lit.int .i64 x.f1).wf = true)∧((Lit.int .i64 x.f2).wf = true)∧(x.f3.size ≤ 140737488351232)∧(good32 x.f4)∧(x.f5.length * 1 ≤ 140737488351232∧∀ y ∈ x.f5,(Lit.int .u8 y).wf = true)
theorem opens56:Opens Tryd.prog 56 k56 good56:=opens_iso (f:=(fun x:S56=>(x.f0,x.f1,x.f2,x.f3,x.f4,x.f5))) (fun p=>⟨p.1,p.2.1,p.2.2.1,p.2.2.2.1,p.2.2.2.2.1,p.2.2.2.2.2⟩) (fun _=>rfl) (opens_struct Tryd.underlying56 (by kernel_rfl) (opensF_cons (off2:=1) rfl (by kernel_rfl) (opens_string Tryd.underlying9) rfl (opensF_cons (off2:=2) rfl (by kernel_rfl) (opens_int Tryd.underlying3) rfl (opensF_cons (off2:=3) rfl (by kernel_rfl) (opens_int Tryd.underlying3) rfl (opensF_cons (off2:=4) rfl (by kernel_rfl) (opens_string Tryd.underlying9) rfl (opensF_cons (off2:=11) rfl (by kernel_rfl) opens32 rfl (opensF_one rfl (by kernel_rfl) (opens_slice (B:=1) Tryd.underlying33 (by kernel_rfl) (by kernel_rfl) (opens_int Tryd.underlying5)))))))))
def Pure:Prop:=∀ (l0:List S56) (l1:List S56),(l0.length * 144 ≤ 140737488351232∧∀ y ∈ l0,good56 y)→(l1.length * 144 ≤ 140737488351232∧∀ y ∈ l1,good56 y)→∃ k,creellaw_DiffTells.f k l0 l1 = some true
theorem walk (P:Pure) (l0:List S56) (l1:List S56) (w:World) (g0:l0.length * 144 ≤ 140737488351232∧∀ y ∈ l0,good56 y) (g1:l1.length * 144 ≤ 140737488351232∧∀ y ∈ l1,good56 y) {A0:Option Addr} {c0:Nat} (r0:Kd.C k56 w A0 l0.length l0) (hc0:l0.length ≤ c0) {A1:Option Addr} {c1:Nat} (r1:Kd.C k56 w A1 l1.length l1) (hc1:l1.length ≤ c1) :
 Calls Tryd.prog 8 #[.slice A0 l0.length c0,.slice A1 l1.length c1] w fun e w'=>e = .returned (.bool true)∧Below w.heap.size w w':=by
 obtain ⟨k,h⟩:=P l0 l1 g0 g1;refine (creellaw_DiffTells.calls k A0 c0 l0 A1 c1 l1 true w r0 hc0 r1 hc1 h).mono ?_;rintro e w' ⟨rfl,hd⟩;exact ⟨rfl,hd⟩
end Go.Proofs.YtlfeijjilndljaaDoor.GDiffTells
end
section
namespace Go.Proofs.YtlfeijjilndljaaDoorW.PureBase
open Go.RowKit Go.Proofs.YtlfeijjilndljaaDoorW.PrintWords
theorem wrap_is {x:Int} (h0:-9223372036854775808 ≤ x) (h:x ≤ 9223372036854775807):wrap64 x = x:=by unfold wrap64;omega
theorem toList_data (s:ByteArray):s.toList = s.data.toList:=ByteArray.toList_eq s
theorem bt_get (s:ByteArray) (i:Nat) (h:i < s.size):bt s i = ((s.data.toList[i]'(by simpa using h)).toNat:Int):=by
  unfold bt
  rw [dif_pos (by simpa using h)]
  simp
  rfl
theorem bt_eq_iff (s:ByteArray) (i:Nat) (h:i < s.size) (c:Int) (c0:0 ≤ c) (c1:c ≤ 255):bt s i = c ↔ s.data.toList[i]? = some c.toNat.toUInt8:=by
  rw [bt_get s i h,List.getElem?_eq_getElem (by simpa using h)]
  simp only [Option.some.injEq]
  constructor
  · intro e
    rw [← e]
    simp
  · intro e
    rw [e]
    simp
    omega
theorem size_list (s:ByteArray):s.data.toList.length = s.size:=by simp
theorem of_list (s:ByteArray):(⟨s.data.toList.toArray⟩:ByteArray) = s:=by simp
theorem ext_list {s t:ByteArray} (h:s.data.toList = t.data.toList):s = t:=by
  rw [← of_list s,← of_list t,h]
theorem toList_inj {s t:ByteArray} (h:s.toList = t.toList):s = t:=by
  rw [toList_data,toList_data] at h
  exact ext_list h
theorem mem_bt (s:ByteArray) (c:Int) (c0:0 ≤ c) (c1:c ≤ 255):(∃ j:Int,0 ≤ j∧j < s.size∧bt s j = c) ↔ s.data.toList.contains c.toNat.toUInt8 = true:=by
  rw [List.contains_iff_mem]
  constructor
  · rintro ⟨j,h0,h1,h2⟩
    obtain ⟨i,rfl⟩:=Int.eq_ofNat_of_zero_le h0
    have:=(bt_eq_iff s i (by omega) c c0 c1).1 h2
    exact List.mem_of_getElem? this
  · intro h
    obtain ⟨i,hi,he⟩:=List.mem_iff_getElem.1 h
    have hs:i < s.size:=by simpa using hi
    refine ⟨i,by omega,by omega,?_⟩
    rw [bt_eq_iff s i hs c c0 c1,List.getElem?_eq_getElem hi,he]
theorem index_ge (l:List UInt8) (c:UInt8):decide (Lib.indexByte l c ≥ 0) = l.contains c:=by
  rw [Lib.contains_iff_indexByte]
theorem Ev.from_ {α:Type} {g:Nat→Option α} {r:α} (K:Nat) (h:∀ k,K ≤ k→g k = some r):Ev g r:=⟨K,h⟩
theorem Ev.const {α:Type} {o:Option α} {r:α} (h:o = some r):Ev (fun _=>o) r:=⟨0,fun _ _=>h⟩
theorem Ev.ifp {α:Type} {c:Prop} [Decidable c] {g f:Nat→Option α} {r:α} (hc:c) (h:Ev g r):Ev (fun k=>if c then g k else f k) r:=by
  obtain ⟨K,hk⟩:=h
  exact ⟨K,fun k h=>(if_pos hc).trans (hk k h)⟩
theorem Ev.ifn {α:Type} {c:Prop} [Decidable c] {g f:Nat→Option α} {r:α} (hc:¬ c) (h:Ev f r):Ev (fun k=>if c then g k else f k) r:=by
  obtain ⟨K,hk⟩:=h
  exact ⟨K,fun k h=>(if_neg hc).trans (hk k h)⟩
end Go.Proofs.YtlfeijjilndljaaDoorW.PureBase
end
section
namespace Go.Proofs.YtlfeijjilndljaaDoorW.MakeCap
open Go Go.RowKit Go.Proofs.YtlfeijjilndljaaDoorW.PrintWords
end Go.Proofs.YtlfeijjilndljaaDoorW.MakeCap
end
section
namespace Go.Proofs.YtlfeijjilndljaaDoor.All
open Go.RowKit Go.Proofs.YtlfeijjilndljaaDoorW.PrintWords Go.Proofs.YtlfeijjilndljaaDoorW.PrintLast Go.Proofs.YtlfeijjilndljaaDoorW.PrintMore
open Go.Proofs.YtlfeijjilndljaaDoorW.Mine
attribute [local go_sem] gtr_string leq_string geq_string
attribute [local go_sem] max2_int min2_int max_two min_two max_three min_three max_four min_four
set_option linter.unusedVariables false
set_option linter.unusedSimpArgs false
open Go.Proofs.YtlfeijjilndljaaDoorW.MapOwn
def tree_Copy.f (l0:List S56):Option (List S56):=if l0.length < 977343669134∧(l0.all fun x=>decide (x.f5.length ≤ 140737488355327)) = true then some l0 else none
end Go.Proofs.YtlfeijjilndljaaDoor.All
end
section
namespace Go.Proofs.YtlfeijjilndljaaDoor.Q
set_option linter.unusedVariables false
set_option linter.unusedSimpArgs false
open Go.RowKit Go.Proofs.YtlfeijjilndljaaDoor.All Go.Proofs.YtlfeijjilndljaaDoorW.PrintWords Go.Proofs.YtlfeijjilndljaaDoorW.PrintLast Go.Proofs.YtlfeijjilndljaaDoorW.PrintMore Go.Proofs.YtlfeijjilndljaaDoorW.PureBase
theorem has_from (s:ByteArray) (c:Int) (hb:s.size ≤ 140737488351232) (d:Nat):∀ (k:Nat) (i:Int),0 ≤ i→i ≤ s.size→(s.size:Int) - i = d→d < k →
    ∃ b,creelref_has.l0 k s c i = some b∧(b = true ↔ ∃ j:Int,i ≤ j∧j < s.size∧bt s j = c):=by
  induction d with
  | zero =>
    intro k i h0 h1 hd hk
    obtain ⟨k,rfl⟩:∃ m,k = m + 1:=⟨k - 1,by omega⟩
    refine ⟨false,?_,?_⟩
    · simp only [creelref_has.l0];rw [if_neg (by omega)]
    · constructor
      · intro h;cases h
      · rintro ⟨j,h1,h2,_⟩;omega
  | succ d ih =>
    intro k i h0 h1 hd hk
    obtain ⟨k,rfl⟩:∃ m,k = m + 1:=⟨k - 1,by omega⟩
    have hlt:i < (s.size:Int):=by omega
    have hw:wrap64 (i + 1) = i + 1:=by unfold wrap64;omega
    by_cases e:bt s i = c
    · refine ⟨true,?_,?_⟩
      · simp only [creelref_has.l0];rw [if_pos hlt,if_pos h0,if_pos e]
      · exact ⟨fun _=>⟨i,by omega,hlt,e⟩,fun _=>rfl⟩
    · obtain ⟨b,hb1,hb2⟩:=ih k (i + 1) (by omega) (by omega) (by omega) (by omega)
      refine ⟨b,?_,?_⟩
      · simp only [creelref_has.l0];rw [if_pos hlt,if_pos h0,hw,if_neg e];exact hb1
      · rw [hb2]
        constructor
        · rintro ⟨j,h1,h2,h3⟩;exact ⟨j,by omega,h2,h3⟩
        · rintro ⟨j,h1,h2,h3⟩
          have:j ≠ i:=by rintro rfl;exact e h3
          exact ⟨j,by omega,h2,h3⟩
theorem has_ev (s:ByteArray) (c:Int) (c0:0 ≤ c) (c1:c ≤ 255) (hb:s.size ≤ 140737488351232):Ev (fun k=>creelref_has.f k s c) (s.data.toList.contains c.toNat.toUInt8):=by
  refine ⟨s.size + 1,fun k hk=>?_⟩
  obtain ⟨b,h1,h2⟩:=has_from s c hb s.size k 0 (by omega) (by omega) (by omega) (by omega)
  show creelref_has.l0 k s c 0 = _
  rw [h1]
  congr 1
  rw [Bool.eq_iff_iff,h2]
  exact mem_bt s c c0 c1
def sp (c:UInt8):List UInt8→List (List UInt8)
  | []=>[[]]
  | b :: l=>if b = c then [] :: sp c l else match sp c l with
    | p :: ps=>(b :: p) :: ps
    | []=>[[b]]
theorem sp_ne (c:UInt8) (l:List UInt8):sp c l ≠ []:=by
  cases l with
  | nil=>simp [sp]
  | cons b l =>
    simp only [sp]
    split
    · simp
    · split <;> simp
theorem sp_go (c:UInt8):∀ (l p:List UInt8),c ∉ p→sp c (p ++ l) = (match sp c l with|q :: qs=>(p ++ q) :: qs|[]=>[p])
  | l,[],_=>by
    cases h:sp c l with
    | nil=>exact absurd h (sp_ne c l)
    | cons q qs=>simp [h]
  | l,a :: p,hp=>by
    have ha:¬ a = c:=fun e=>hp (by simp [e])
    have ih:=sp_go c l p (fun h=>hp (List.mem_cons_of_mem _ h))
    simp only [List.cons_append,sp]
    rw [if_neg ha,ih]
    cases h:sp c l with
    | nil=>exact absurd h (sp_ne c l)
    | cons q qs=>simp
theorem sp_cut (c:UInt8) (p l:List UInt8) (hp:c ∉ p):sp c (p ++ c :: l) = p :: sp c l:=by
  rw [sp_go c (c :: l) p hp]
  simp [sp]
theorem sp_whole (c:UInt8) (p:List UInt8) (hp:c ∉ p):sp c p = [p]:=by
  have:=sp_go c [] p hp
  simpa [sp] using this
theorem sp_len_le (c:UInt8) (l:List UInt8):(sp c l).length ≤ l.length + 1:=by
  induction l with
  | nil=>simp [sp]
  | cons b l ih =>
    simp only [sp]
    split
    · simp;omega
    · split
      · rename_i h;rw [h] at ih;simp at ih ⊢;omega
      · simp
def mk (l:List UInt8):ByteArray:=⟨l.toArray⟩
theorem mk_data (l:List UInt8):(mk l).data.toList = l:=rfl
theorem mk_of (s:ByteArray):mk s.data.toList = s:=of_list s
theorem mk_size (l:List UInt8):(mk l).size = l.length:=rfl
def pp (s:ByteArray):List ByteArray:=(sp 47 s.data.toList).map mk
theorem index_one_none {l:List UInt8} {c:UInt8} (h:Lib.index l [c] = -1):c ∉ l:=by
  rw [Lib.index_one] at h
  intro hm
  obtain ⟨i,hi,he⟩:=List.mem_iff_getElem.1 hm
  exact Lib.indexByte_none h i (by rw [List.getElem?_eq_getElem hi,he])
theorem index_one_some {l:List UInt8} {c:UInt8} {o:Nat} (h:Lib.index l [c] = (o:Int)):o < l.length∧c ∉ l.take o∧l = l.take o ++ c :: l.drop (o + 1):=by
  rw [Lib.index_one] at h
  obtain ⟨h1,h2⟩:=Lib.indexByte_some h
  have hlt:=(List.getElem?_eq_some_iff.1 h1).1
  have he:=(List.getElem?_eq_some_iff.1 h1).2
  refine ⟨hlt,?_,?_⟩
  · intro hm
    obtain ⟨i,hi,hie⟩:=List.mem_iff_getElem.1 hm
    rw [List.length_take] at hi
    rw [List.getElem_take] at hie
    exact h2 i (by omega) (by rw [List.getElem?_eq_getElem (by omega),hie])
  · conv=>lhs;rw [← List.take_append_drop o l]
    rw [List.drop_eq_getElem_cons hlt,he]
theorem split_sp (c:UInt8):∀ (k:Nat) (l:List UInt8),Lib.count l [c] ≤ k→Lib.splitK [c] 0 k l = sp c l
  | 0,l,h=>by
    rw [Lib.count_one] at h
    have:c ∉ l:=by
      intro hm
      have:=List.count_pos_iff.2 hm
      omega
    rw [sp_whole c l this];rfl
  | k + 1,l,h=>by
    unfold Lib.splitK
    by_cases hi:Lib.index l [c] = -1
    · rw [if_pos (by simpa using hi),sp_whole c l (index_one_none hi)]
    · rw [if_neg (by simpa using hi)]
      have hge:=Lib.indexByte_ge l c
      rw [← Lib.index_one] at hge
      obtain ⟨o,ho⟩:=Int.eq_ofNat_of_zero_le (show 0 ≤ Lib.index l [c] by omega)
      obtain ⟨h1,h2,h3⟩:=index_one_some ho
      rw [ho]
      simp only [Int.toNat_natCast,Nat.add_zero,List.length_singleton]
      have hc:Lib.count (l.drop (o + 1)) [c] ≤ k:=by
        rw [Lib.count_one] at h ⊢
        rw [h3,List.count_append,List.count_cons_self] at h
        omega
      rw [split_sp c k _ hc]
      conv=>rhs;rw [h3]
      rw [sp_cut c _ _ h2]
theorem split_is (s:ByteArray) (hs:s.size < 4294967281):strings_Split.f s ⟨#[47]⟩ = some (pp s):=by
  unfold strings_Split.f
  simp only
  rw [if_pos hs]
  congr 1
  have h:=Lib.splitB_data ⟨#[47]⟩ 0 (Lib.countB s ⟨#[47]⟩) s
  rw [show (⟨#[47]⟩:ByteArray).data.toList = [47] from rfl,split_sp 47 _ _ (Nat.le_refl _)] at h
  unfold pp
  rw [← h,List.map_map]
  conv=>lhs;rw [← List.map_id (Lib.splitB ⟨#[47]⟩ 0 (Lib.countB s ⟨#[47]⟩) s)]
  apply List.map_congr_left
  intro x _
  exact (mk_of x).symm
theorem drop_cons (s:ByteArray) (i:Nat) (h:i < s.size):∃ b:UInt8,s.data.toList.drop i = b :: s.data.toList.drop (i + 1)∧(b.toNat:Int) = bt s (i:Int)∧s.extract i (i + 1) = mk [b]:=by
  have hl:i < s.data.toList.length:=by rw [size_list];exact h
  refine ⟨s.data.toList[i],List.drop_eq_getElem_cons hl,(bt_get s i h).symm,?_⟩
  apply ext_list
  rw [Lib.extract_data,List.drop_eq_getElem_cons hl,show i + 1 - i = 1 from by omega]
  rfl
theorem byte_eq (b:UInt8) (c:Int) (h:(b.toNat:Int) = c) (n:UInt8):c = (n.toNat:Int) ↔ b = n:=by
  rw [← h]
  constructor
  · intro e
    apply UInt8.toNat_inj.1
    omega
  · intro e
    rw [e]
theorem parts_loop (s:ByteArray) (d:Nat):∀ (k i:Nat) (done:List ByteArray) (cur:List UInt8),s.size - i = d→i ≤ s.size→d < k→done.length + d < 8796093022207→cur.length + d ≤ 4611686018427387904→s.size ≤ 4611686018427387904 →
    creelref_parts.l0 k s 47 (done ++ [mk cur]) (i:Int) = some (done ++ (match sp 47 (s.data.toList.drop i) with|q :: qs=>mk (cur ++ q) :: qs.map mk|[]=>[mk cur])):=by
  induction d with
  | zero =>
    intro k i done cur hd hi hk hn hc hs
    obtain ⟨k,rfl⟩:∃ m,k = m + 1:=⟨k - 1,by omega⟩
    simp only [creelref_parts.l0]
    rw [if_neg (by omega),List.drop_eq_nil_of_le (by rw [size_list];omega)]
    simp [sp]
  | succ d ih =>
    intro k i done cur hd hi hk hn hc hs
    obtain ⟨k,rfl⟩:∃ m,k = m + 1:=⟨k - 1,by omega⟩
    have hlt:i < s.size:=by omega
    obtain ⟨b,h1,h2,h3⟩:=drop_cons s i hlt
    have hw:wrap64 ((i:Int) + 1) = ((i + 1:Nat):Int):=by rw [wrap_is (by omega) (by omega)];omega
    have hlen:(done ++ [mk cur]).length = done.length + 1:=by simp
    simp only [creelref_parts.l0]
    rw [if_pos (by omega),if_pos (show (0:Int) ≤ i by omega),h1,hw,hlen]
    simp only [sp]
    have h47:bt s (i:Int) = 47 ↔ b = 47:=byte_eq b _ h2 47
    by_cases e:b = 47
    · rw [if_pos (h47.2 e),if_pos (by omega),if_pos e]
      have:=ih k (i + 1) (done ++ [mk cur]) [] (by omega) (by omega) (by omega) (by simp only [List.length_append,List.length_singleton];omega) (by simp only [List.length_nil];omega) hs
      rw [show (⟨#[]⟩:ByteArray) = mk [] from rfl,this]
      cases hsp:sp 47 (s.data.toList.drop (i + 1)) with
      | nil=>exact absurd hsp (sp_ne _ _)
      | cons q qs=>simp
    · have hne:¬ bt s (i:Int) = 47:=fun h=>e (h47.1 h)
      have hw2:wrap64 (((done.length + 1:Nat):Int) - 1) = (done.length:Int):=by rw [wrap_is (by omega) (by omega)];omega
      have hrd:rdOf ByteArray.empty (done ++ [mk cur]) (done.length:Int) = mk cur:=by
        unfold rdOf
        rw [Int.toNat_natCast,List.getD_eq_getElem?_getD,List.getElem?_append_right (Nat.le_refl _),Nat.sub_self];rfl
      have hex:s.extract ((i:Int)).toNat (((i + 1:Nat):Int)).toNat = mk [b]:=by rw [Int.toNat_natCast,Int.toNat_natCast,h3]
      have happ:mk cur ++ mk [b] = mk (cur ++ [b]):=by apply ext_list;simp [mk]
      have hset:(done ++ [mk cur]).set done.length (mk (cur ++ [b])) = done ++ [mk (cur ++ [b])]:=by
        rw [List.set_append_right _ _ (Nat.le_refl _),Nat.sub_self];rfl
      rw [if_neg hne,hw2,hrd,hex,if_pos (by omega),if_pos (by omega),if_pos (by omega),if_pos (by omega),if_pos (by rw [mk_size,mk_size];simp only [List.length_singleton];omega),happ,Int.toNat_natCast,hset,if_neg e]
      rw [ih k (i + 1) done (cur ++ [b]) (by omega) (by omega) (by omega) (by omega) (by simp only [List.length_append,List.length_singleton];omega) hs]
      cases hsp:sp 47 (s.data.toList.drop (i + 1)) with
      | nil=>exact absurd hsp (sp_ne _ _)
      | cons q qs=>simp
theorem parts_is (s:ByteArray) (k:Nat) (hs:s.size ≤ 4294967296) (hk:s.size < k):creelref_parts.f k s 47 = some (pp s):=by
  unfold creelref_parts.f
  have:=parts_loop s s.size k 0 [] [] (by omega) (by omega) hk (by simp only [List.length_nil];omega) (by simp only [List.length_nil];omega) (by omega)
  rw [show ([(⟨#[]⟩:ByteArray)]:List ByteArray) = [] ++ [mk []] from rfl]
  rw [show ((0:Nat):Int) = 0 from rfl] at this
  rw [this]
  unfold pp
  rw [List.drop_zero]
  cases hsp:sp 47 s.data.toList with
  | nil=>exact absurd hsp (sp_ne _ _)
  | cons q qs=>simp
theorem pp_len (s:ByteArray):(pp s).length ≤ s.size + 1:=by
  unfold pp
  rw [List.length_map]
  have:=sp_len_le 47 s.data.toList
  rw [size_list] at this
  exact this
def bad (p:ByteArray):Bool:=decide (p.toList = []) || decide (p.toList = [46]) || decide (p.toList = [46,46])
def pathR (s:ByteArray):Int:=if s.size < 1 ∨ 400 < s.size then 1 else if s.data.toList.contains 0 = true then 3 else if (pp s).any bad = true then 9 else 0
theorem check_loop (l:List ByteArray) (hl:l.length ≤ 4294967297) (d:Nat):∀ (k i:Nat),l.length - i = d→i ≤ l.length→d < k →
    path_Check.l0 k l (l.length:Int) (i:Int) = some (if (l.drop i).any bad = true then 9 else 0)∧creelref_PathFault.l0 k l (l.length:Int) (i:Int) = some (if (l.drop i).any bad = true then 9 else 0):=by
  induction d with
  | zero =>
    intro k i hd hi hk
    obtain ⟨k,rfl⟩:∃ m,k = m + 1:=⟨k - 1,by omega⟩
    simp only [path_Check.l0,creelref_PathFault.l0]
    have hge:¬ (i:Int) < l.length:=by omega
    rw [if_neg hge,if_neg hge,List.drop_eq_nil_of_le (by omega)]
    simp
  | succ d ih =>
    intro k i hd hi hk
    obtain ⟨k,rfl⟩:∃ m,k = m + 1:=⟨k - 1,by omega⟩
    have hlt:i < l.length:=by omega
    have hw:wrap64 ((i:Int) + 1) = ((i + 1:Nat):Int):=by rw [wrap_is (by omega) (by omega)];omega
    have hrd:rdOf ByteArray.empty l (i:Int) = l[i]:=by
      unfold rdOf
      rw [Int.toNat_natCast,List.getD_eq_getElem?_getD,List.getElem?_eq_getElem hlt];rfl
    obtain ⟨h1,h2⟩:=ih k (i + 1) (by omega) (by omega) (by omega)
    simp only [path_Check.l0,creelref_PathFault.l0]
    rw [hw,hrd,h1,h2,List.drop_eq_getElem_cons hlt,List.any_cons]
    generalize l[i] = p
    have c1:(i:Int) < l.length:=by omega
    have c2:(0:Int) ≤ i:=by omega
    simp only [if_pos c1,if_pos c2]
    unfold bad
    by_cases e1:p.toList = []
    · simp [e1]
    · by_cases e2:p.toList = [46]
      · simp [e2]
      · by_cases e3:p.toList = [46,46]
        · simp [e3]
        · simp [e1,e2,e3]
theorem empty_size (s:ByteArray):s.toList = ([]:List UInt8) ↔ s.size = 0:=by
  rw [toList_data,← size_list]
  exact List.length_eq_zero_iff.symm
theorem path_same (s:ByteArray) (hs:s.size ≤ 140737488351232):Ev (fun k=>path_Check.f k s) (pathR s)∧Ev (fun k=>creelref_PathFault.f k s) (pathR s):=by
  obtain ⟨K,hK⟩:=has_ev s 0 (by omega) (by omega) hs
  replace hK:∀ k,K ≤ k→creelref_has.f k s 0 = some (s.data.toList.contains 0):=hK
  have hi:(Lib.indexByte s.data.toList ((0:Int).toNat.toUInt8) ≥ 0) ↔ s.data.toList.contains 0 = true:=by
    have:=index_ge s.data.toList ((0:Int).toNat.toUInt8)
    rw [← decide_eq_true_iff (p:=Lib.indexByte s.data.toList ((0:Int).toNat.toUInt8) ≥ 0),this];rfl
  by_cases c:s.size < 1 ∨ 400 < s.size
  · have e:pathR s = 1:=by unfold pathR;rw [if_pos c]
    rw [e]
    refine ⟨⟨1,fun k hk=>?_⟩,⟨1,fun k hk=>?_⟩⟩
    · obtain ⟨k,rfl⟩:∃ m,k = m + 1:=⟨k - 1,by omega⟩
      show path_Check.f (k + 1) s = _
      unfold path_Check.f
      by_cases h:(s.size:Int) < 1
      · rw [if_pos h];simp [path_Check.j0]
      · rw [if_neg h,decide_eq_true (show (s.size:Int) > 400 by omega)];simp [path_Check.j0]
    · obtain ⟨k,rfl⟩:∃ m,k = m + 1:=⟨k - 1,by omega⟩
      show creelref_PathFault.f (k + 1) s = _
      unfold creelref_PathFault.f
      by_cases h:s.toList = ([]:List UInt8)
      · rw [if_pos h];simp [creelref_PathFault.j0]
      · rw [if_neg h]
        rw [empty_size] at h
        rw [decide_eq_true (show (s.size:Int) > 400 by omega)];simp [creelref_PathFault.j0]
  · have h0:¬ s.toList = ([]:List UInt8):=by rw [empty_size];omega
    have hsp:=split_is s (by omega)
    have hpl:=pp_len s
    by_cases hz:s.data.toList.contains 0 = true
    · have e:pathR s = 3:=by unfold pathR;rw [if_neg c,if_pos hz]
      rw [e]
      refine ⟨⟨1,fun k hk=>?_⟩,⟨K + 1,fun k hk=>?_⟩⟩
      · obtain ⟨k,rfl⟩:∃ m,k = m + 1:=⟨k - 1,by omega⟩
        show path_Check.f (k + 1) s = _
        unfold path_Check.f
        rw [if_neg (show ¬ (s.size:Int) < 1 by omega),decide_eq_false (show ¬ (s.size:Int) > 400 by omega)]
        simp only [path_Check.j0,Bool.false_eq_true,if_false,strings_IndexByte.f,Option.bind_some]
        rw [if_pos (hi.2 hz)]
      · obtain ⟨k,rfl⟩:∃ m,k = m + 1:=⟨k - 1,by omega⟩
        show creelref_PathFault.f (k + 1) s = _
        unfold creelref_PathFault.f
        rw [if_neg h0,decide_eq_false (show ¬ (s.size:Int) > 400 by omega)]
        simp only [creelref_PathFault.j0,Bool.false_eq_true,if_false]
        rw [hK k (by omega)]
        simp only [Option.bind_some,hz,if_true]
    · have hz':s.data.toList.contains 0 = false:=by simpa using hz
      have e:pathR s = (if (pp s).any bad = true then 9 else 0):=by unfold pathR;rw [if_neg c,if_neg hz]
      rw [e]
      refine ⟨⟨500,fun k hk=>?_⟩,⟨K + 500,fun k hk=>?_⟩⟩
      · obtain ⟨k,rfl⟩:∃ m,k = m + 1:=⟨k - 1,by omega⟩
        obtain ⟨h1,_⟩:=check_loop (pp s) (by omega) (pp s).length k 0 (by omega) (by omega) (by omega)
        show path_Check.f (k + 1) s = _
        unfold path_Check.f
        rw [if_neg (show ¬ (s.size:Int) < 1 by omega),decide_eq_false (show ¬ (s.size:Int) > 400 by omega)]
        simp only [path_Check.j0,Bool.false_eq_true,if_false,strings_IndexByte.f,Option.bind_some]
        rw [if_neg (fun h=>hz (hi.1 h)),hsp]
        simp only [Option.bind_some]
        rw [List.drop_zero] at h1
        exact h1
      · obtain ⟨k,rfl⟩:∃ m,k = m + 1:=⟨k - 1,by omega⟩
        obtain ⟨_,h2⟩:=check_loop (pp s) (by omega) (pp s).length k 0 (by omega) (by omega) (by omega)
        show creelref_PathFault.f (k + 1) s = _
        unfold creelref_PathFault.f
        rw [if_neg h0,decide_eq_false (show ¬ (s.size:Int) > 400 by omega)]
        simp only [creelref_PathFault.j0,Bool.false_eq_true,if_false]
        rw [hK k (by omega)]
        simp only [Option.bind_some,hz',Bool.false_eq_true,if_false]
        rw [parts_is s k (by omega) (by omega)]
        simp only [Option.bind_some]
        rw [List.drop_zero] at h2
        exact h2
def joinS:List (List UInt8)→List UInt8
  | []=>[]
  | [p]=>p
  | p :: q :: r=>p ++ 47 :: joinS (q :: r)
theorem joinS_cons (p:List UInt8) {r:List (List UInt8)} (h:r ≠ []):joinS (p :: r) = p ++ 47 :: joinS r:=by
  cases r with
  | nil=>exact absurd rfl h
  | cons q r=>rfl
theorem joinS_snoc (xs:List (List UInt8)) (x:List UInt8) (h:xs ≠ []):joinS (xs ++ [x]) = joinS xs ++ 47 :: x:=by
  induction xs with
  | nil=>exact absurd rfl h
  | cons p xs ih =>
    cases xs with
    | nil=>rfl
    | cons q xs =>
      have:=ih (by simp)
      rw [List.cons_append,joinS_cons p (by simp),this,joinS_cons p (by simp)]
      simp
theorem join_sp (l:List UInt8):joinS (sp 47 l) = l:=by
  induction l with
  | nil=>rfl
  | cons b l ih =>
    simp only [sp]
    by_cases hb:b = 47
    · rw [if_pos hb,joinS_cons _ (sp_ne _ _),ih,hb];rfl
    · rw [if_neg hb]
      cases hs:sp 47 l with
      | nil=>exact absurd hs (sp_ne _ _)
      | cons p ps =>
        rw [hs] at ih
        cases ps with
        | nil=>simp [joinS] at ih ⊢;exact ih
        | cons q qs =>
          simp only [joinS_cons _ (show (q :: qs) ≠ [] by simp)] at ih ⊢
          rw [List.cons_append,ih]
theorem join_take_le (xs:List (List UInt8)):∀ i,(joinS (xs.take i)).length ≤ (joinS xs).length:=by
  induction xs with
  | nil=>intro i;simp [joinS]
  | cons p xs ih =>
    intro i
    cases i with
    | zero=>simp [joinS]
    | succ i =>
      rw [List.take_succ_cons]
      cases xs with
      | nil=>simp [joinS]
      | cons q xs =>
        cases i with
        | zero =>
          rw [List.take_zero,joinS_cons p (show (q :: xs) ≠ [] by simp)]
          simp [joinS]
        | succ i =>
          have:=ih (i + 1)
          rw [joinS_cons p (show (q :: xs).take (i + 1) ≠ [] by simp),joinS_cons p (by simp)]
          simp only [List.length_append,List.length_cons]
          omega
theorem sp_last (A B:List UInt8) (hB:(47:UInt8) ∉ B):sp 47 (A ++ 47 :: B) = sp 47 A ++ [B]:=by
  induction A with
  | nil=>simp [sp,sp_whole 47 B hB]
  | cons a A ih =>
    simp only [List.cons_append,sp]
    by_cases ha:a = 47
    · rw [if_pos ha,if_pos ha,ih];rfl
    · rw [if_neg ha,if_neg ha,ih]
      cases hs:sp 47 A with
      | nil=>exact absurd hs (sp_ne _ _)
      | cons p ps=>simp
theorem split_loop (xs:List (List UInt8)) (hx:xs ≠ []) (hn:xs.length ≤ 4294967297) (hj:(joinS xs).length ≤ 4294967296) (d:Nat):∀ (k i:Nat),xs.length - 1 - i = d→i ≤ xs.length - 1→d < k →
    creelref_PathSplit.l0 k (xs.map mk) (mk (joinS (xs.take i))) (i:Int) = some (mk (joinS (xs.take (xs.length - 1))),mk (xs.getLast hx)):=by
  have hlen:0 < xs.length:=List.length_pos_iff.2 hx
  have hrd:∀ j (h:j < xs.length),rdOf ByteArray.empty (xs.map mk) (j:Int) = mk xs[j]:=by
    intro j h
    unfold rdOf
    rw [Int.toNat_natCast,List.getD_eq_getElem?_getD,List.getElem?_map,List.getElem?_eq_getElem h];rfl
  have hw1:wrap64 ((xs.length:Int) - 1) = ((xs.length - 1:Nat):Int):=by rw [wrap_is (by omega) (by omega)];omega
  induction d with
  | zero =>
    intro k i hd hi hk
    obtain ⟨k,rfl⟩:∃ m,k = m + 1:=⟨k - 1,by omega⟩
    obtain rfl:i = xs.length - 1:=by omega
    simp only [creelref_PathSplit.l0,List.length_map]
    rw [hw1,if_neg (show ¬ ((xs.length - 1:Nat):Int) < ((xs.length - 1:Nat):Int) by omega),if_pos (show (0:Int) ≤ ((xs.length - 1:Nat):Int) by omega),if_pos (show ((xs.length - 1:Nat):Int) < (xs.length:Int) by omega),hrd (xs.length - 1) (by omega),List.getLast_eq_getElem]
  | succ d ih =>
    intro k i hd hi hk
    obtain ⟨k,rfl⟩:∃ m,k = m + 1:=⟨k - 1,by omega⟩
    have hlt:i < xs.length:=by omega
    have hw:wrap64 ((i:Int) + 1) = ((i + 1:Nat):Int):=by rw [wrap_is (by omega) (by omega)];omega
    have hnext:=ih k (i + 1) (by omega) (by omega) (by omega)
    have ht:xs.take (i + 1) = xs.take i ++ [xs[i]]:=(List.take_append_getElem hlt).symm
    have hle:=join_take_le xs (i + 1)
    simp only [creelref_PathSplit.l0,List.length_map]
    rw [hw1,if_pos (show (i:Int) < ((xs.length - 1:Nat):Int) by omega),hw,hrd i hlt]
    by_cases h0:i = 0
    · subst h0
      rw [if_neg (by omega),if_pos (by omega),if_pos (by omega)]
      have h1:xs.take (0 + 1) = [xs[0]]:=by rw [ht];rfl
      rw [h1] at hle
      have e:mk (joinS (xs.take 0)) ++ mk xs[0] = mk (joinS (xs.take (0 + 1))):=by
        rw [h1];apply ext_list;simp [mk,joinS]
      have hsz:(mk (joinS (xs.take 0))).size + (mk xs[0]).size ≤ 9223372036854775807:=by
        have hle':xs[0].length ≤ (joinS xs).length:=hle
        rw [mk_size,mk_size,List.take_zero]
        show 0 + xs[0].length ≤ _
        omega
      rw [if_pos hsz,e];exact hnext
    · have hne:xs.take i ≠ []:=by
        intro h
        have h2:=congrArg List.length h
        rw [List.length_take,List.length_nil] at h2
        omega
      have hj2:joinS (xs.take (i + 1)) = joinS (xs.take i) ++ 47 :: xs[i]:=by rw [ht,joinS_snoc _ _ hne]
      have e:(mk (joinS (xs.take i)) ++ (⟨#[47]⟩:ByteArray)) ++ mk xs[i] = mk (joinS (xs.take (i + 1))):=by
        rw [hj2];apply ext_list;simp [mk]
      rw [hj2] at hle
      simp only [List.length_append,List.length_cons] at hle
      have hs1:(mk (joinS (xs.take i)) ++ (⟨#[47]⟩:ByteArray)).size = (joinS (xs.take i)).length + 1:=by rw [ByteArray.size_append,mk_size];rfl
      rw [if_pos (by omega),if_pos (by rw [mk_size];omega),if_pos (by omega),if_pos (by omega),if_pos (by rw [hs1,mk_size];omega),e]
      exact hnext
theorem split_at (s:ByteArray) (k:Nat) (hs:s.size ≤ 1048576) (hk:s.size + 2 < k):creelref_PathSplit.f k s = some (mk (joinS ((sp 47 s.data.toList).take ((sp 47 s.data.toList).length - 1))),mk ((sp 47 s.data.toList).getLast (sp_ne _ _))):=by
  unfold creelref_PathSplit.f
  rw [parts_is s k (by omega) (by omega)]
  simp only [Option.bind_some]
  have hl:=sp_len_le 47 s.data.toList
  rw [size_list] at hl
  have:=split_loop (sp 47 s.data.toList) (sp_ne _ _) (by omega) (by rw [join_sp,size_list];omega) ((sp 47 s.data.toList).length - 1) k 0 (by omega) (by omega) (by omega)
  exact this
theorem data_get (s:ByteArray) (i:Nat) (h:i < s.size):((s.data[i]!).toNat:Int) = bt s (i:Int):=by
  rw [bt_get s i h]
  have h':i < s.data.size:=h
  rw [getElem!_pos s.data i h']
  simp
theorem last_f (s:ByteArray) (hb:s.size < 4611686018427387904) (t:Int) (e:Lib.lastIndexByte s 47 = t):strings_LastIndexByte.f s 47 = some t:=by
  unfold strings_LastIndexByte.f
  rw [if_pos hb,e]
theorem up0 (s:ByteArray) (n:Nat) (e:strings_LastIndexByte.f s 47 = some (n:Int)) (hn:n ≤ s.size):path_Up.f s = some (s.extract 0 n):=by
  unfold path_Up.f
  rw [e]
  simp only [Option.bind_some]
  rw [if_neg (show ¬ (n:Int) < 0 by omega),if_pos (Int.natCast_nonneg n),if_pos (Int.ofNat_le.2 hn),Int.toNat_natCast]
theorem up_none (s:ByteArray) (hs:s.size ≤ 1048576) (e:Lib.lastIndexByte s 47 = -1):path_Up.f s = some (⟨#[]⟩:ByteArray):=by
  have h:=last_f s (by omega) _ e
  unfold path_Up.f
  rw [h];simp
theorem up_some (s:ByteArray) (hs:s.size ≤ 1048576) (i:Nat) (hi:i < s.size) (e:Lib.lastIndexByte s 47 = (i:Int)):path_Up.f s = some (s.extract 0 i):=up0 s i (last_f s (by omega) _ e) (by omega)
theorem last_cut (s:ByteArray) (i:Nat) (hi:i < s.size) (hc:((s.data[i]!).toNat:Int) = 47) (hn:∀ j,i < j→j < s.size→((s.data[j]!).toNat:Int) ≠ 47) :
    (47:UInt8) ∉ s.data.toList.drop (i + 1)∧s.data.toList = s.data.toList.take i ++ 47 :: s.data.toList.drop (i + 1):=by
  have hl:i < s.data.toList.length:=by rw [size_list];exact hi
  have h47:(47:Int).toNat.toUInt8 = 47:=rfl
  have hb:s.data.toList[i] = 47:=by
    rw [data_get s i hi,bt_eq_iff s i hi 47 (by omega) (by omega),List.getElem?_eq_getElem hl,h47] at hc
    exact Option.some.inj hc
  refine ⟨?_,?_⟩
  · intro hm
    obtain ⟨j,hj,hje⟩:=List.mem_iff_getElem.1 hm
    rw [List.length_drop,size_list] at hj
    rw [List.getElem_drop] at hje
    apply hn (i + 1 + j) (by omega) (by omega)
    rw [data_get s _ (by omega),bt_eq_iff s _ (by omega) 47 (by omega) (by omega),List.getElem?_eq_getElem (by rw [size_list];omega),hje,h47]
  · conv=>lhs;rw [← List.take_append_drop i s.data.toList,List.drop_eq_getElem_cons hl,hb]
theorem last_none (s:ByteArray) (hn:∀ j,j < s.size→((s.data[j]!).toNat:Int) ≠ 47):(47:UInt8) ∉ s.data.toList:=by
  have h47:(47:Int).toNat.toUInt8 = 47:=rfl
  intro hm
  obtain ⟨j,hj,hje⟩:=List.mem_iff_getElem.1 hm
  have hjs:j < s.size:=by simpa using hj
  apply hn j hjs
  rw [data_get s j hjs,bt_eq_iff s j hjs 47 (by omega) (by omega),List.getElem?_eq_getElem hj,hje,h47]
theorem split_last (A B:List UInt8) (hB:(47:UInt8) ∉ B) (l:List UInt8) (hl:l = A ++ 47 :: B) (hx:sp 47 l ≠ []):joinS ((sp 47 l).take ((sp 47 l).length - 1)) = A∧(sp 47 l).getLast hx = B:=by
  have h1:sp 47 l = sp 47 A ++ [B]:=by rw [hl];exact sp_last A B hB
  refine ⟨?_,?_⟩
  · rw [h1,List.length_append,List.length_singleton,Nat.add_sub_cancel,List.take_left,join_sp]
  · have h2:(sp 47 l).getLast? = some B:=by rw [h1];simp
    rw [List.getLast?_eq_some_getLast hx] at h2
    exact Option.some.inj h2
theorem split_only (l:List UInt8) (h:(47:UInt8) ∉ l) (hx:sp 47 l ≠ []):joinS ((sp 47 l).take ((sp 47 l).length - 1)) = []∧(sp 47 l).getLast hx = l:=by
  have h1:=sp_whole 47 l h
  refine ⟨by rw [h1];rfl,?_⟩
  have h2:(sp 47 l).getLast? = some l:=by rw [h1];simp
  rw [List.getLast?_eq_some_getLast hx] at h2
  exact Option.some.inj h2
theorem up_only (s:ByteArray) (k:Nat) (hs:s.size ≤ 1048576) (hk:s.size + 2 < k):(Lib.lastIndexByte s 47 = -1∧path_Up.f s = some (⟨#[]⟩:ByteArray)∧creelref_PathSplit.f k s = some ((⟨#[]⟩:ByteArray),s)) ∨
    ∃ i,i < s.size∧Lib.lastIndexByte s 47 = (i:Int)∧path_Up.f s = some (s.extract 0 i)∧creelref_PathSplit.f k s = some (s.extract 0 i,s.extract (i + 1) s.size):=by
  have hsp:=split_at s k hs hk
  rcases Lib.lastIndexByte_spec s 47 with ⟨e,hn⟩|⟨i,hi,e,hc,hn⟩
  · obtain ⟨h3,h4⟩:=split_only _ (last_none s hn) (sp_ne 47 s.data.toList)
    refine Or.inl ⟨e,up_none s hs e,?_⟩
    rw [hsp,h3,h4,mk_of];rfl
  · obtain ⟨c1,c2⟩:=last_cut s i hi hc hn
    obtain ⟨h3,h4⟩:=split_last _ _ c1 _ c2 (sp_ne 47 s.data.toList)
    have x1:mk (s.data.toList.take i) = s.extract 0 i:=by apply ext_list;rw [mk_data,Lib.extract_data];simp
    have x2:mk (s.data.toList.drop (i + 1)) = s.extract (i + 1) s.size:=by apply ext_list;rw [mk_data,Lib.extract_to_end]
    refine Or.inr ⟨i,hi,e,up_some s hs i hi e,?_⟩
    rw [hsp,h3,h4,x1,x2]
def wrong (a b c:Int) (u g:ByteArray) (s n:Int):Int :=
  if a < 0 ∨ a > 4095 ∨ b < 0 ∨ b > 1125899906842624 ∨ c < 0 ∨ c > 1125899906842624 then 4
  else if (u.size:Int) > 60 ∨ (g.size:Int) > 60 then 1
  else if u.data.toList.contains 0 = true ∨ g.data.toList.contains 0 = true then 3
  else if s < -1099511627776 ∨ s > 1099511627776 ∨ n < 0 ∨ n > 999999999 then 4 else 0
theorem stamp_is (s n:Int):stamp_Check.f s n = some (if s < -1099511627776 ∨ s > 1099511627776 ∨ n < 0 ∨ n > 999999999 then 4 else 0):=by
  unfold stamp_Check.f
  by_cases h1:s < -1099511627776
  · simp [h1]
  · by_cases h2:s > 1099511627776
    · simp [h1,h2]
    · by_cases h3:n < 0
      · simp [h1,h2,h3]
      · by_cases h4:n > 999999999 <;> simp [h1,h2,h3,h4]
theorem time_is (s n:Int):creelref_TimeFault.f s n = some (if s < -1099511627776 ∨ s > 1099511627776 ∨ n < 0 ∨ n > 999999999 then 4 else 0):=by
  unfold creelref_TimeFault.f
  by_cases h1:s < -1099511627776
  · simp [h1]
  · by_cases h2:s > 1099511627776
    · simp [h1,h2]
    · by_cases h3:n < 0
      · simp [h1,h2,h3]
      · by_cases h4:n > 999999999
        · rw [if_neg h1,if_neg h2,if_neg h3,if_pos (by omega),if_pos (by omega)]
        · rw [if_neg h1,if_neg h2,if_neg h3,if_neg (by omega),if_neg (by omega)]
theorem check_ev (a b c:Int) (u g:ByteArray) (s n:Int):Ev (fun k=>meta_Check.f k a b c u g s n) (wrong a b c u g s n):=by
  refine ⟨10,fun k hk=>?_⟩
  obtain ⟨k,rfl⟩:∃ m,k = m + 10:=⟨k - 10,by omega⟩
  have j2:∀ (b2:Bool) (m:Nat),(b2 = false→u.size ≤ 60∧g.size ≤ 60)→meta_Check.j2 (m + 1) b2 a b c u g s n = some (if b2 = true then 1 else if u.data.toList.contains 0 = true ∨ g.data.toList.contains 0 = true then 3
      else if s < -1099511627776 ∨ s > 1099511627776 ∨ n < 0 ∨ n > 999999999 then 4 else 0):=by
    intro b2 m hb
    simp only [meta_Check.j2]
    cases b2 with
    | true=>simp
    | false =>
      obtain ⟨h1,h2⟩:=hb rfl
      simp only [Bool.false_eq_true,if_false];rw [if_pos (by omega)]
      unfold strings_IndexByte.f
      simp only [Option.bind_some]
      have e:(Lib.indexByte (u ++ g).data.toList ((0:Int).toNat.toUInt8) ≥ 0) ↔ (u.data.toList.contains 0 = true ∨ g.data.toList.contains 0 = true):=by
        have:=index_ge (u ++ g).data.toList ((0:Int).toNat.toUInt8)
        rw [← decide_eq_true_iff (p:=Lib.indexByte (u ++ g).data.toList ((0:Int).toNat.toUInt8) ≥ 0),this]
        simp
      by_cases h:u.data.toList.contains 0 = true ∨ g.data.toList.contains 0 = true
      · rw [if_pos h,if_pos (e.2 h)]
      · rw [if_neg h,if_neg (fun x=>h (e.1 x)),stamp_is];rfl
  have j1:∀ (b1:Bool) (m:Nat),meta_Check.j1 (m + 2) b1 a b c u g s n = some (if b1 = true then 4 else if (u.size:Int) > 60 ∨ (g.size:Int) > 60 then 1 else if u.data.toList.contains 0 = true ∨ g.data.toList.contains 0 = true then 3
      else if s < -1099511627776 ∨ s > 1099511627776 ∨ n < 0 ∨ n > 999999999 then 4 else 0):=by
    intro b1 m
    simp only [meta_Check.j1]
    cases b1 with
    | true=>simp
    | false =>
      simp only [Bool.false_eq_true,if_false]
      by_cases h1:(u.size:Int) > 60
      · rw [if_pos h1,j2 true m (by simp)];simp [h1]
      · rw [if_neg h1]
        by_cases h2:(g.size:Int) > 60
        · rw [decide_eq_true h2,j2 true m (by simp)];simp [h2]
        · rw [decide_eq_false h2,j2 false m (fun _=>⟨by omega,by omega⟩)];simp [h1,h2]
  show meta_Check.f (k + 10) a b c u g s n = _
  unfold meta_Check.f wrong
  by_cases h1:a < 0
  · simp [meta_Check.j0,j1,h1]
  · by_cases h2:a > 4095
    · simp [meta_Check.j0,j1,h1,h2]
    · by_cases h3:b < 0
      · simp [meta_Check.j0,j1,h1,h2,h3]
      · by_cases h4:b > 1125899906842624
        · simp [meta_Check.j0,j1,h1,h2,h3,h4]
        · by_cases h5:c < 0
          · simp [meta_Check.j0,j1,h1,h2,h3,h4,h5]
          · by_cases h6:c > 1125899906842624
            · simp [meta_Check.j0,j1,h1,h2,h3,h4,h5,h6]
            · simp [meta_Check.j0,j1,h1,h2,h3,h4,h5,h6]
theorem fault_ev (a b c:Int) (u g:ByteArray) (s n:Int) (hu:u.size ≤ 140737488351232) (hg:g.size ≤ 140737488351232):Ev (fun k=>creelref_MetaFault.f k a b c u g s n) (wrong a b c u g s n):=by
  obtain ⟨K1,e1⟩:=has_ev u 0 (by omega) (by omega) hu
  obtain ⟨K2,e2⟩:=has_ev g 0 (by omega) (by omega) hg
  replace e1:∀ k,K1 ≤ k→creelref_has.f k u 0 = some (u.data.toList.contains 0):=e1
  replace e2:∀ k,K2 ≤ k→creelref_has.f k g 0 = some (g.data.toList.contains 0):=e2
  refine ⟨max K1 K2 + 10,fun k hk=>?_⟩
  obtain ⟨k,rfl⟩:∃ m,k = m + 2:=⟨k - 2,by omega⟩
  have j1:∀ (b1:Bool),creelref_MetaFault.j1 (k + 1) b1 a b c u g s n = some (if b1 = true then 1 else if u.data.toList.contains 0 = true ∨ g.data.toList.contains 0 = true then 3
      else if s < -1099511627776 ∨ s > 1099511627776 ∨ n < 0 ∨ n > 999999999 then 4 else 0):=by
    intro b1
    simp only [creelref_MetaFault.j1]
    cases b1 with
    | true=>simp
    | false =>
      simp only [Bool.false_eq_true,if_false];rw [e1 k (by omega),e2 k (by omega)]
      simp only [Option.bind_some]
      by_cases h1:u.data.toList.contains 0 = true
      · rw [if_pos h1,if_pos (.inl h1)]
      · rw [if_neg h1]
        by_cases h2:g.data.toList.contains 0 = true
        · rw [if_pos h2,if_pos (.inr h2)]
        · rw [if_neg h2,if_neg (by rintro (h|h);exact h1 h;exact h2 h),time_is];rfl
  have j0:∀ (b1:Bool),creelref_MetaFault.j0 (k + 2) b1 a b c u g s n = some (if b1 = true then 4 else if (u.size:Int) > 60 ∨ (g.size:Int) > 60 then 1 else if u.data.toList.contains 0 = true ∨ g.data.toList.contains 0 = true then 3
      else if s < -1099511627776 ∨ s > 1099511627776 ∨ n < 0 ∨ n > 999999999 then 4 else 0):=by
    intro b1
    simp only [creelref_MetaFault.j0]
    cases b1 with
    | true=>simp
    | false =>
      simp only [Bool.false_eq_true,if_false]
      by_cases h1:(u.size:Int) > 60
      · rw [if_pos h1,j1];simp [h1]
      · rw [if_neg h1]
        by_cases h2:(g.size:Int) > 60
        · rw [decide_eq_true h2,j1];simp [h2]
        · rw [decide_eq_false h2,j1];simp [h1,h2]
  have hx:a ≥ 4096 ↔ a > 4095:=by omega
  show creelref_MetaFault.f (k + 2) a b c u g s n = _
  unfold creelref_MetaFault.f wrong
  by_cases h1:a < 0
  · simp [j0,hx,h1]
  · by_cases h2:a > 4095
    · simp [j0,hx,h1,h2]
    · by_cases h3:b < 0
      · simp [j0,hx,h1,h2,h3]
      · by_cases h4:b > 1125899906842624
        · simp [j0,hx,h1,h2,h3,h4]
        · by_cases h5:c < 0
          · simp [j0,hx,h1,h2,h3,h4,h5]
          · by_cases h6:c > 1125899906842624
            · simp [j0,hx,h1,h2,h3,h4,h5,h6]
            · simp [j0,hx,h1,h2,h3,h4,h5,h6]
def restR (kind same:Int) (t:ByteArray) (n:Nat):Int :=
  if kind = 1 then (if t.toList ≠ [] ∨ same < 0 then 3 else if n > 2000 then 1 else 0)
  else if kind = 2 then (if n > 0 ∨ same ≠ 0 ∨ t.toList ≠ [] then 3 else 0)
  else if kind = 3 then (if n > 0 ∨ same ≠ 0 ∨ t.toList = [] ∨ t.data.toList.contains 0 = true then 3 else if t.size > 400 then 1 else 0)
  else 2
def nodeR (p:ByteArray) (kind same:Int) (t:ByteArray) (a b c:Int) (u g:ByteArray) (s n:Int) (d:Nat):Int :=
  if pathR p = 0 then (if wrong a b c u g s n = 0 then restR kind same t d else wrong a b c u g s n) else pathR p
theorem idx0 (t:ByteArray):(Lib.indexByte t.data.toList ((0:Int).toNat.toUInt8) ≥ 0) ↔ t.data.toList.contains 0 = true:=by
  have:=index_ge t.data.toList ((0:Int).toNat.toUInt8)
  rw [← decide_eq_true_iff (p:=Lib.indexByte t.data.toList ((0:Int).toNat.toUInt8) ≥ 0),this];rfl
theorem right_ev (p:ByteArray) (kind same:Int) (t:ByteArray) (a b c:Int) (u g:ByteArray) (s n:Int) (d:List Int) (hp:p.size ≤ 140737488351232) :
    Ev (fun k=>tree_Right.f k p kind same t a b c u g s n d) (nodeR p kind same t a b c u g s n d.length):=by
  obtain ⟨K1,a1⟩:=(path_same p hp).1
  replace a1:∀ k,K1 ≤ k→path_Check.f k p = some (pathR p):=a1
  obtain ⟨K2,a2⟩:=check_ev a b c u g s n
  replace a2:∀ k,K2 ≤ k→meta_Check.f k a b c u g s n = some (wrong a b c u g s n):=a2
  refine ⟨K1 + K2 + 10,fun k hk=>?_⟩
  show tree_Right.f k p kind same t a b c u g s n d = _
  unfold tree_Right.f nodeR
  rw [a1 k (by omega)]
  simp only [Option.bind_some]
  by_cases hP:pathR p = 0
  · rw [if_pos hP,if_pos hP,a2 k (by omega)]
    simp only [Option.bind_some]
    by_cases hM:wrong a b c u g s n = 0
    · rw [if_pos hM,if_pos hM]
      obtain ⟨k,rfl⟩:∃ m,k = m + 4:=⟨k - 4,by omega⟩
      have hi:=idx0 t
      unfold restR
      generalize t.data.toList.contains 0 = z at hi ⊢
      by_cases k1:kind = 1
      · subst k1
        by_cases t0:t.toList = []
        · by_cases s0:same < 0 <;> simp [tree_Right.j0,t0,s0] <;> (split <;> split <;> first|rfl|(exfalso;omega))
        · simp [tree_Right.j0,t0]
      · by_cases k2:kind = 2
        · subst k2
          by_cases d0:d.length > 0
          · have d0':d ≠ []:=by rintro rfl;simp at d0
            simp [tree_Right.j1,tree_Right.j2,d0,d0']
          · have d0':d = []:=List.eq_nil_of_length_eq_zero (by omega)
            subst d0'
            by_cases s0:same = 0
            · by_cases t0:t.toList = []
              · have hz:t.size = 0:=(empty_size t).1 t0
                simp [tree_Right.j1,tree_Right.j2,tree_Right.j3,s0,t0,hz]
              · simp [tree_Right.j1,tree_Right.j2,tree_Right.j3,s0,t0]
            · simp [tree_Right.j1,tree_Right.j2,s0]
        · by_cases k3:kind = 3
          · subst k3
            by_cases d0:d.length > 0
            · have d0':d ≠ []:=by rintro rfl;simp at d0
              simp [tree_Right.j1,tree_Right.j2,d0,d0']
            · have d0':d = []:=List.eq_nil_of_length_eq_zero (by omega)
              subst d0'
              by_cases s0:same = 0
              · by_cases t0:t.toList = []
                · simp [tree_Right.j1,tree_Right.j2,tree_Right.j3,s0,t0]
                · by_cases z0:z = true
                  · have:=hi.2 z0
                    simp only [tree_Right.j1,tree_Right.j2,tree_Right.j3,strings_IndexByte.f,Option.bind_some,decide_eq_true this]
                    simp [s0,t0,z0]
                  · have:=fun h=>z0 (hi.1 h)
                    simp only [tree_Right.j1,tree_Right.j2,tree_Right.j3,strings_IndexByte.f,Option.bind_some,decide_eq_false this]
                    simp [s0,t0,z0]
                    split <;> split <;> first|rfl|(exfalso;omega)
              · simp [tree_Right.j1,tree_Right.j2,s0]
          · simp [tree_Right.j1,k1,k2,k3]
    · rw [if_neg hM,if_neg hM]
  · rw [if_neg hP,if_neg hP]
theorem refnode_ev (p:ByteArray) (kind same:Int) (t:ByteArray) (a b c:Int) (u g:ByteArray) (s n:Int) (d:List Int) (hp:p.size ≤ 140737488351232) (ht:t.size ≤ 140737488351232) (hu:u.size ≤ 140737488351232) (hg:g.size ≤ 140737488351232) :
    Ev (fun k=>rNF.f k p kind same t a b c u g s n d) (nodeR p kind same t a b c u g s n d.length):=by
  obtain ⟨K1,a1⟩:=(path_same p hp).2
  replace a1:∀ k,K1 ≤ k→creelref_PathFault.f k p = some (pathR p):=a1
  obtain ⟨K2,a2⟩:=fault_ev a b c u g s n hu hg
  replace a2:∀ k,K2 ≤ k→creelref_MetaFault.f k a b c u g s n = some (wrong a b c u g s n):=a2
  obtain ⟨K3,a3⟩:=has_ev t 0 (by omega) (by omega) ht
  replace a3:∀ k,K3 ≤ k→creelref_has.f k t 0 = some (t.data.toList.contains 0):=a3
  refine ⟨K1 + K2 + K3 + 10,fun k hk=>?_⟩
  show rNF.f k p kind same t a b c u g s n d = _
  unfold rNF.f nodeR
  rw [a1 k (by omega)]
  simp only [Option.bind_some]
  by_cases hP:pathR p = 0
  · rw [if_pos hP,if_pos hP,a2 k (by omega)]
    simp only [Option.bind_some]
    by_cases hM:wrong a b c u g s n = 0
    · rw [if_pos hM,if_pos hM]
      obtain ⟨k,rfl⟩:∃ m,k = m + 4:=⟨k - 4,by omega⟩
      have a3':creelref_has.f (k + 3) t 0 = some (t.data.toList.contains 0):=a3 _ (by omega)
      have hc:t.toList = []→t.data.toList.contains 0 = false:=fun t0=>by rw [← toList_data,t0];rfl
      unfold restR
      generalize t.data.toList.contains 0 = z at a3' hc ⊢
      by_cases k1:kind = 1
      · subst k1
        by_cases t0:t.toList = []
        · by_cases s0:same < 0 <;> simp [rNF.j0,rNF.j1,t0,s0] <;> (split <;> split <;> first|rfl|(exfalso;omega))
        · simp [rNF.j0,rNF.j1,t0]
      · by_cases k2:kind = 2
        · subst k2
          by_cases d0:d = []
          · subst d0
            by_cases s0:same = 0
            · by_cases t0:t.toList = []
              · have hz:t.size = 0:=(empty_size t).1 t0
                have hc':=hc t0
                subst hc'
                simp [rNF.j0,rNF.j2,s0,t0,hz,a3']
              · simp [rNF.j0,rNF.j2,s0,t0]
            · simp [rNF.j0,rNF.j2,s0]
          · have d1:d.length ≠ 0:=fun h=>d0 (List.eq_nil_of_length_eq_zero h)
            have d2:0 < d.length:=by omega
            simp [rNF.j0,rNF.j2,d0,d1,d2]
        · by_cases k3:kind = 3
          · subst k3
            by_cases d0:d = []
            · subst d0
              by_cases s0:same = 0
              · by_cases t0:t.toList = []
                · simp [rNF.j0,rNF.j2,s0,t0]
                · by_cases z0:z = true
                  · simp [rNF.j0,rNF.j2,s0,t0,a3',z0]
                  · have z1:z = false:=Bool.eq_false_iff.mpr z0
                    simp only [rNF.j0,rNF.j2,a3',z1,Option.bind_some]
                    simp [s0,t0]
                    split <;> split <;> first|rfl|(exfalso;omega)
              · simp [rNF.j0,rNF.j2,s0]
            · have d1:d.length ≠ 0:=fun h=>d0 (List.eq_nil_of_length_eq_zero h)
              have d2:0 < d.length:=by omega
              simp [rNF.j0,rNF.j2,d0,d1,d2]
          · simp [rNF.j0,k1,k2,k3]
    · rw [if_neg hM,if_neg hM]
  · rw [if_neg hP,if_neg hP]
end Go.Proofs.YtlfeijjilndljaaDoor.Q
end
