/- Made by programs of the prover: walks of Go functions, the words that they use, and plain laws, each text in a section of its own; no condition of its own. -/
import Derived.Deep.Slices
import Derived.SizedLaws
import Derived.ChangeSlices
import Derived.ChangeArms
import Derived.ChangeSame
import Derived.ProofKit
import Derived.Lib.Bytealg
import Derived.Lib.IndexAny
import Derived.Lib.IndexLaws
import Derived.Test.YtenbelecmmpdgaaGreatDoorZWriteArchives1
import Derived.Test.YtenbelecmmpdgaaGreatDoorZWriteArchives2
import Derived.Test.YtenbelecmmpdgaaGreatDoorZWriteArchives3
import Derived.Test.YtenbelecmmpdgaaGreatDoorZWriteArchives6
import Derived.Test.YtenbelecmmpdgaaGreatDoorZWriteArchives7
import Derived.Test.YtenbelecmmpdgaaGreatDoorZWriteArchives8
import Derived.Test.YtenbelecmmpdgaaGreatDoorZWriteArchives10
section
namespace Go.Proofs.YtenbelecmmpdgaaGreatDoor.All
open Go.RowKit Go.Proofs.YtenbelecmmpdgaaGreatDoorW.PrintWords Go.Proofs.YtenbelecmmpdgaaGreatDoorW.PrintLast Go.Proofs.YtenbelecmmpdgaaGreatDoorW.PrintMore
open Go.Proofs.YtenbelecmmpdgaaGreatDoorW.Mine
attribute [local go_sem] gtr_string leq_string geq_string
attribute [local go_sem] max2_int min2_int max_two min_two max_three min_three max_four min_four
set_option linter.unusedVariables false
set_option linter.unusedSimpArgs false
open Go.Proofs.YtenbelecmmpdgaaGreatDoorW.MapOwn Go.Proofs.YtenbelecmmpdgaaGreatDoorW.MarkRow
theorem creelref_Arc.info:(Tryz.prog.info? 5).map (fun i=>(i.zero,i.size,i.bytes)) = some (some (.int .u8 0),1,1):=by kernel_rfl
def creelref_Arc.one (k:Nat) (x:S26):Option (List Int × Int):=creelref_MemberBytes.f k x.f0 x.f1 x.f2 x.f3.f0 x.f3.f1 x.f3.f2 x.f3.f3 x.f3.f4 x.f3.f5 x.f3.f6 x.f4
def creelref_Arc.run (k:Nat) (l:List (S26)):Nat→List Int→Option (List Int)
 | 0,o=>some o
 | n + 1,o=>(creelref_Arc.one k (rd_T26 l (n:Int))).bind fun b=>if b.1.length < 50000000000000∧o.length < 50000000000000 then creelref_Arc.run k l n (b.1 ++ o) else none
def creelref_Arc.f (k:Nat) (l0:List (S26)):Option (List Int × Int):=(creelref_EntriesFault.f k l0).bind fun e=>if e = 0 then (creelref_Arc.run k l0 l0.length (List.replicate 1024 0)).bind fun o=>some (o,0) else some ([],e)
theorem creelref_Arc.made:∀ W:World,(Instr.makeSlice 24 (.int .i64 1024) (.int .i64 1024)).run Tryz.prog W = .ok (.slice (some ⟨W.heap.size,0,none⟩) 1024 1024) (W.alloc (.cells (madeCells #[.int .u8 0] 1024) 5)):=print_make 24 5 .u8 1 Tryz.underlying24 creelref_Arc.info (by decide) 1024 (by decide)
theorem creelref_Arc.readsC {w:World} {base:Nat} {e:TypeId} {A:Option Addr} {n c:Nat} {xs:List Int} (h:MRow w base e (.slice A n c) xs):(Kd.int .u8).C w A xs.length xs:=by
 obtain ⟨A',c',e',_,hc⟩:=MRow.reads h;cases e';exact hc
set_option maxHeartbeats 8000000 in
set_option maxRecDepth 100000 in
theorem creelref_Arc.calls (k:Nat) (A0:Option Addr) (c0:Nat) (l0:List (S26)) (r1:List Int) (r2:Int) (w:World) (hr0:Kd.C k26 w A0 l0.length l0) (hc0:l0.length ≤ c0) (HT0:Aside0 (Tab w)) (h:creelref_Arc.f k l0 = some (r1,r2)) :
 Calls Tryz.prog 13 #[.slice A0 l0.length c0] w fun e w'=>∃ v0_:Value,e = .returned (.tuple #[v0_,.int .i64 r2])∧MRow w' w.heap.size 5 v0_ r1∧Below w.heap.size w w':=by
 have hu26:=Tryz.underlying26;have HR0:=Aside0.mk hr0;have HC0:=Aside0.mk hc0;have HT63:=Aside0.mk (show l0.length ≤ 9223372036854775807 from hr0.2.1);clear hr0 hc0;unfold creelref_Arc.f at h;obtain ⟨e1,h1,hq⟩:=Option.bind_eq_some_iff.1 h;clear h;have h:=hq;clear hq;have H1:=Aside0.mk h1;clear h1;by_cases c1:e1 = 0
 ·subst c1;rw [if_pos rfl] at h;obtain ⟨res,h2,hq⟩:=Option.bind_eq_some_iff.1 h;clear h;have h:=hq;clear hq;have H2:=Aside0.mk h2;clear h2;obtain ⟨rfl,rfl⟩:=Prod.mk.inj (Option.some.inj h);clear h;have hmk:=creelref_Arc.made;have hw1:wrap64 ((l0.length:Int) - 1) = (l0.length:Int) - 1:=by have:=HT63.out;unfold wrap64;omega
  go_enter Tryz.func13,Tryz.ntmps13;go_wp2_with (go_at_call 38;refine (creelref_EntriesFault.calls k A0 c0 l0 0 _ HR0.out HC0.out H1.out).mono ?_;rintro e w1 ⟨rfl,hb1⟩;have HB1:=Aside0.mk hb1;clear hb1)
  go_loopg [5,6] l0.length (fun kq v5 v6 wx=>∃ o:List Int,v6 = .int .i64 ((kq:Int) - 1)∧Aside0 (kq ≤ l0.length)∧Aside0 (creelref_Arc.run k l0 kq o = some res)∧Aside0 (MRow wx w.heap.size 5 v5 o)∧Aside0 (Below w.heap.size w wx))
  case atStart=>exact ⟨List.replicate 1024 0,(by first|rfl|rw [hw1]),⟨Nat.le_refl _⟩,H2,⟨MRow.of_R (ok:=fun _=>True) (Kd.R_of_own (by simpa [encs,nums] using own_made w1 w.heap.size 5 .u8 1024 (below_size HB1.out) (by decide)) (fun _ _=>trivial))⟩,⟨bwA HB1.out _⟩⟩
  case round =>
   clear H2 hw1;obtain ⟨o,rfl,HQ,HA,HM,HB⟩:=hrel;obtain ⟨Ao,co,rfl,hlo,hco⟩:=MRow.reads HM.out;clear hlo hco;cases gk with
   | zero =>
    have H:=HA.out;unfold creelref_Arc.run at H;obtain rfl:=Option.some.inj H;clear H HA;go_wp2;go_ret2
    exact ⟨_,rfl,HM.out,HB.out⟩
   | succ i =>
    have c3:i < l0.length:=HQ.out;have e6:(((i + 1:Nat):Int) - 1) = (i:Int):=by omega
    rw [e6];clear e6;have p3:((i:Int) < (l0.length:Int)) = True:=eq_true (by omega);have p4:(0 ≤ (i:Int)) = True:=eq_true (by omega);obtain ⟨ad,Ax,cx,e,hx,hlx,hix⟩:=elem26 HR0.out i c3;cases e;have H:=HA.out;rw [creelref_Arc.run] at H;clear HA;have HXC:=Aside0.mk hx;have HLX:=Aside0.mk hlx;have HIX:=Aside0.mk hix;have HLT:=Aside0.mk c3;clear hx hlx hix c3;generalize hx:rd_T26 l0 (i:Int) = x at *;clear hx;obtain ⟨⟨b1,b2⟩,h3,H⟩:=Option.bind_eq_some_iff.1 H;have H3:=Aside0.mk (show creelref_MemberBytes.f k x.f0 x.f1 x.f2 x.f3.f0 x.f3.f1 x.f3.f2 x.f3.f3 x.f3.f4 x.f3.f5 x.f3.f6 x.f4 = some (b1,b2) from h3);clear h3;by_cases c5:b1.length < 50000000000000∧o.length < 50000000000000
    ·rw [if_pos c5] at H;have HL:=Aside0.mk c5;have H':=Aside0.mk H;clear H c5;go_wp2_with (first|((with_reducible refine gate_dst (N:=26) rfl ?_);refine load_event (ad:=ad.add (i * 11)) rfl rfl hu26 rfl rfl (cs:=[.string x.f0,.int .i64 x.f1,.string x.f2,.int .i64 x.f3.f0,.int .i64 x.f3.f1,.int .i64 x.f3.f2,.string x.f3.f3,.string x.f3.f4,.int .i64 x.f3.f5,.int .i64 x.f3.f6,.slice Ax x.f4.length cx]) sz26 (fun j v hv=>(HB.out.cell (World.block_lt_of_cell? w _ (HXC.out j v hv))).trans (HXC.out j v hv)) ?_)|(go_at_call 9;refine (creelref_MemberBytes.calls k x.f0 x.f1 x.f2 x.f3.f0 x.f3.f1 x.f3.f2 x.f3.f3 x.f3.f4 x.f3.f5 x.f3.f6 Ax cx x.f4 b1 b2 _ (Kd.C_below HIX.out HB.out) HLX.out ⟨tab_on HT0.out HB.out⟩ H3.out).mono ?_;rintro e w3 ⟨vb,rfl,hm,hb⟩;have HN:=Aside0.mk (MRow.lower hm (below_size HB.out));have HM9:=Aside0.mk (MRow.below HM.out hb);have HB9:=Aside0.mk (below_step HB.out hb);clear hm hb;clear HM HB;have HM:=HM9;have HB:=HB9;clear HM9 HB9)|((with_reducible refine gate_builtin (b := .append) (xs:=#[.tmp 30,.tmp 31]) rfl ?_);at_builtin;refine wp_append_M rfl (.tmp 30) (.tmp 31) 24 rfl Tryz.underlying24 creelref_Arc.info rfl rfl rfl HN.out (creelref_Arc.readsC HM.out) HB.out (below_size HB.out) (Nat.le_of_lt (Nat.lt_of_lt_of_le (Nat.add_lt_add HL.out.1 HL.out.2) (by decide))) ?_;intro v8 w8 hm hb hg;have HM9:=Aside0.mk hm;have HB9:=Aside0.mk hb;clear HN hm hb hg;clear HM HB;have HM:=HM9;have HB:=HB9;clear HM9 HB9))
     go_roundg i
     case measure=>exact Nat.lt_succ_self _
     case rel=>exact ⟨_,(by first|rfl|(unfold wrap64;congr 1;have:=HLT.out;have:=HT63.out;omega)|go_num),⟨Nat.le_of_lt HLT.out⟩,H',HM,HB⟩
    ·rw [if_neg c5] at H;cases H
 ·rw [if_neg c1] at h;obtain ⟨rfl,rfl⟩:=Prod.mk.inj (Option.some.inj h);have c1b:(e1 != 0) = true:=bne_iff_ne.mpr c1;clear c1 h;go_enter Tryz.func13,Tryz.ntmps13;go_wp2_with (go_at_call 38;refine (creelref_EntriesFault.calls k A0 c0 l0 e1 _ HR0.out HC0.out H1.out).mono ?_;rintro e w1 ⟨rfl,hb1⟩;have HB1:=Aside0.mk hb1;clear hb1)
  go_ret2
  exact ⟨_,rfl,MRow.nil _ _ _,HB1.out⟩
theorem creelref_ArcPlaces.info:(Tryz.prog.info? 3).map (fun i=>(i.zero,i.size,i.bytes)) = some (some (.int .i64 0),1,8):=by kernel_rfl
def creelref_ArcPlaces.run (k:Nat) (l:List (S26)):Nat→Nat→List Int→Option (List Int)
 | 0,_,o=>some o
 | n + 1,i,o=>(creelref_Arc.f k (l.take i)).bind fun b=>if b.1.length < 50000000000000∧o.length < 1000000000000 then creelref_ArcPlaces.run k l n (i + 1) (o ++ [(b.1.length:Int) - 1024]) else none
def creelref_ArcPlaces.f (k:Nat) (l0:List (S26)):Option (List Int × Int):=(creelref_EntriesFault.f k l0).bind fun e=>if e = 0 then (creelref_ArcPlaces.run k l0 l0.length 1 [0]).bind fun o=>some (o,0) else some ([],e)
theorem creelref_ArcPlaces.append {P:Program} {w0 W:World} {base:Nat} {ops:Array Oper} {rest:List Oper} {o:Oper} {a:Act} {Q:Exit→Act→World→Prop} (hgd:o.guard = none) (s x:Operand) (t e:TypeId)
 (ho:o.op = .call { callee := .builtin .append,args:=#[s,x],argTypes:=#[t,t] }) (ht:P.underlying t = some (.slice e)) (hinfo:(P.info? e).map (fun i=>(i.zero,i.size,i.bytes)) = some (some (.int .i64 0),1,8))
 {v:Value} {xs:List Int} {y:Int} (hs:a.eval s = v) (hx:a.eval x = .slice (some ⟨W.heap.size,0,none⟩) 1 1) (h:(Kd.int .i64).R e W base (fun _=>True) v xs) (hb:Below base w0 W) (hbase:base ≤ W.heap.size) (hl:xs.length < 1000000000000)
 (k:∀ v' w',(Kd.int .i64).R e w' base (fun _=>True) v' (xs ++ [y])→Below base w0 w'→wpList P ops Q rest (a.put o.dst v') w'):wpList P ops Q (o :: rest) a (W.alloc (.cells #[.int .i64 y] e)) :=
 print_append_num (w0:=w0) base hgd s x t e .i64 8 ho ht hinfo (by decide) v xs y hs hx (by simpa [encs,nums] using Kd.own_of_R h) hb hbase (by omega) fun v1 w1 h1 h2 _ _=>k v1 w1 (Kd.R_of_own (by simpa [encs,nums] using h1) (fun _ _=>trivial)) h2
theorem creelref_ArcPlaces.start {w W:World} (hb:Below w.heap.size w W):(Kd.int .i64).R 3 (W.alloc (.cells #[.int .i64 0] 3)) w.heap.size (fun _=>True) (.slice (some ⟨W.heap.size,0,none⟩) 1 1) [0]:=by
 refine Kd.R_of_own ⟨rfl,Or.inr ⟨W.heap.size,1,#[.int .i64 0],rfl,below_size hb,heap_alloc_new W _,Nat.le_refl _,by simp [maxLen],rfl,rfl⟩⟩ (fun _ _=>trivial)
set_option maxHeartbeats 8000000 in
set_option maxRecDepth 100000 in
theorem creelref_ArcPlaces.calls (k:Nat) (A0:Option Addr) (c0:Nat) (l0:List (S26)) (r1:List Int) (r2:Int) (w:World) (hr0:Kd.C k26 w A0 l0.length l0) (hc0:l0.length ≤ c0) (HT0:Aside0 (Tab w)) (h:creelref_ArcPlaces.f k l0 = some (r1,r2)) :
 Calls Tryz.prog 14 #[.slice A0 l0.length c0] w fun e w'=>∃ v0_:Value,e = .returned (.tuple #[v0_,.int .i64 r2])∧(Kd.int .i64).R 3 w' w.heap.size (fun _=>True) v0_ r1∧Below w.heap.size w w':=by
 have hu26:=Tryz.underlying26;have HR0:=Aside0.mk hr0;have HC0:=Aside0.mk hc0;have HT63:=Aside0.mk (show l0.length ≤ 9223372036854775807 from hr0.2.1);clear hr0 hc0;unfold creelref_ArcPlaces.f at h;obtain ⟨e1,h1,hq⟩:=Option.bind_eq_some_iff.1 h;clear h;have h:=hq;clear hq;have H1:=Aside0.mk h1;clear h1;by_cases c1:e1 = 0
 ·subst c1;rw [if_pos rfl] at h;obtain ⟨res,h2,hq⟩:=Option.bind_eq_some_iff.1 h;clear h;have h:=hq;clear hq;have H2:=Aside0.mk h2;clear h2;obtain ⟨rfl,rfl⟩:=Prod.mk.inj (Option.some.inj h);clear h;go_enter Tryz.func14,Tryz.ntmps14;go_wp2_with (go_at_call 38;refine (creelref_EntriesFault.calls k A0 c0 l0 0 _ HR0.out HC0.out H1.out).mono ?_;rintro e w1 ⟨rfl,hb1⟩;have HB1:=Aside0.mk hb1;clear hb1)
  go_loopg [5,6] l0.length (fun kq v5 v6 wx=>∃ (o:List Int) (i:Nat),v6 = .int .i64 (i:Int)∧Aside0 (kq + i = l0.length + 1∧1 ≤ i∧o.length = i)∧Aside0 (creelref_ArcPlaces.run k l0 kq i o = some res)∧Aside0 ((Kd.int .i64).R 3 wx w.heap.size (fun _=>True) v5 o)∧Aside0 (Below w.heap.size w wx))
  case atStart=>exact ⟨[0],1,rfl,⟨rfl,Nat.le_refl _,rfl⟩,H2,⟨creelref_ArcPlaces.start HB1.out⟩,⟨bwA HB1.out _⟩⟩
  case round =>
   clear H2;obtain ⟨o,i,rfl,HQ,HA,HM,HB⟩:=hrel;cases gk with
   | zero =>
    have H:=HA.out;unfold creelref_ArcPlaces.run at H;obtain rfl:=Option.some.inj H;have c3b:decide ((i:Int) ≤ (l0.length:Int)) = false:=decide_eq_false (by have:=HQ.out;omega);have c3c:decide (i ≤ l0.length) = false:=decide_eq_false (by have:=HQ.out;omega);clear H HA;go_wp2;go_ret2
    exact ⟨_,rfl,HM.out,HB.out⟩
   | succ q =>
    have c3:i ≤ l0.length:=by have:=HQ.out;omega
    have c3b:decide ((i:Int) ≤ (l0.length:Int)) = true:=decide_eq_true (by omega);have c3c:decide (i ≤ l0.length) = true:=decide_eq_true c3;have H:=HA.out;rw [creelref_ArcPlaces.run] at H;clear HA;obtain ⟨⟨b1,b2⟩,h3,H⟩:=Option.bind_eq_some_iff.1 H;by_cases c5:b1.length < 50000000000000∧o.length < 1000000000000
    ·rw [if_pos c5] at H;have HL:=Aside0.mk c5;have H':=Aside0.mk H;obtain ⟨ad,_,_,e,_⟩:=elem26 HR0.out 0 (by have:=HQ.out;omega);cases e;have HF:Aside0 (∀ W,Below w.heap.size w W→Calls Tryz.prog 13 #[.slice (some ad) i c0] W fun e w'=>∃ v0_:Value,e = .returned (.tuple #[v0_,.int .i64 b2])∧MRow w' W.heap.size 5 v0_ b1∧Below W.heap.size W w'):=⟨fun W hb=>by
      have hlen:(l0.take i).length = i:=by simp;omega
      have:=creelref_Arc.calls k (some ad) c0 (l0.take i) b1 b2 W (Kd.C_below (Kd.C_take HR0.out c3) hb) (by have:=HC0.out;omega) ⟨tab_on HT0.out hb⟩ h3;rw [hlen] at this;exact this⟩
     have hnc:(i:Int) ≤ (c0:Int):=by have:=HC0.out;omega
     have hnc':i ≤ c0:=by omega
     have hiM:(i:Int) < 9223372036854775807:=by have:=HQ.out;omega
     have hw:wrap64 ((b1.length:Int) - 1024) = (b1.length:Int) - 1024:=by unfold wrap64;omega
     clear H h3 c5 c3;go_wp2_with (first|(go_at_call 13;refine (HF.out _ HB.out).mono ?_;rintro e w3 ⟨vb,rfl,hm,hb⟩;obtain ⟨Ab,cb,rfl,hlb,hcb⟩:=MRow.reads hm;have HM9:=Aside0.mk (Kd.R_below HM.out hb);have HB9:=Aside0.mk (below_step HB.out hb);clear hm hlb hcb hb;clear HM HB;have HM:=HM9;have HB:=HB9;clear HM9 HB9)|((with_reducible refine gate_builtin (b := .append) (xs:=#[.tmp 28,.tmp 32]) rfl ?_);at_builtin;refine creelref_ArcPlaces.append rfl (.tmp 28) (.tmp 32) 34 3 rfl Tryz.underlying34 creelref_ArcPlaces.info rfl rfl HM.out HB.out (below_size HB.out) HL.out.2 ?_;intro v8 w8 hm hb;have HM9:=Aside0.mk hm;have HB9:=Aside0.mk hb;clear hm hb;clear HM HB;have HM:=HM9;have HB:=HB9;clear HM9 HB9))
     go_roundg q
     case measure=>exact Nat.lt_succ_self _
     case rel=>exact ⟨_,i + 1,(by first|rfl|go_num),⟨by have:=HQ.out;omega,by omega,by have:=HQ.out;rw [List.length_append,List.length_singleton];omega⟩,H',(by first|exact HM|(rw [hw] at HM;exact HM)),HB⟩
    ·rw [if_neg c5] at H;cases H
 ·rw [if_neg c1] at h;obtain ⟨rfl,rfl⟩:=Prod.mk.inj (Option.some.inj h);have c1b:(e1 != 0) = true:=bne_iff_ne.mpr c1;clear c1 h;go_enter Tryz.func14,Tryz.ntmps14;go_wp2_with (go_at_call 38;refine (creelref_EntriesFault.calls k A0 c0 l0 e1 _ HR0.out HC0.out H1.out).mono ?_;rintro e w1 ⟨rfl,hb1⟩;have HB1:=Aside0.mk hb1;clear hb1)
  go_ret2
  exact ⟨_,rfl,Kd.R_nil _ _ _ _ _,HB1.out⟩
end Go.Proofs.YtenbelecmmpdgaaGreatDoor.All
end
section
namespace Go.Proofs.YtenbelecmmpdgaaGreatDoor.All
open Go.RowKit Go.Proofs.YtenbelecmmpdgaaGreatDoorW.PrintWords Go.Proofs.YtenbelecmmpdgaaGreatDoorW.PrintLast Go.Proofs.YtenbelecmmpdgaaGreatDoorW.PrintMore
open Go.Proofs.YtenbelecmmpdgaaGreatDoorW.Mine
attribute [local go_sem] gtr_string leq_string geq_string
attribute [local go_sem] max2_int min2_int max_two min_two max_three min_three max_four min_four
set_option linter.unusedVariables false
set_option linter.unusedSimpArgs false
def slices_Equal_int_int.l0:Nat→List Int→List Int→Int→Int→Option (Bool)
 | 0,_,_,_,_=>none
 | k + 1,x0,x1,x12,x13=>if x13 < x12 then (if 0 ≤ x13 then (if x13 < (x0.length:Int) then (if x13 < (x1.length:Int) then (if (rd x0 x13) = (rd x1 x13) then (slices_Equal_int_int.l0 k x0 x1 x12 (wrap64 (x13 + 1))) else (some false)) else (none)) else (none)) else (none)) else (some true)
def slices_Equal_int_int.f (k:Nat) (l0:List Int) (l1:List Int):Option (Bool):=if (l0.length:Int) = (l1.length:Int) then (slices_Equal_int_int.l0 k l0 l1 (l0.length:Int) 0) else (some false)
set_option maxHeartbeats 8000000 in
set_option maxRecDepth 100000 in
theorem slices_Equal_int_int.calls (k:Nat) (A0:Option Addr) (c0:Nat) (l0:List Int) (A1:Option Addr) (c1:Nat) (l1:List Int) (r:Bool) (w:World) (hr0:Kd.C (Kd.int .i64) w A0 l0.length l0) (hc0:l0.length ≤ c0) (hr1:Kd.C (Kd.int .i64) w A1 l1.length l1) (hc1:l1.length ≤ c1) (h:slices_Equal_int_int.f k l0 l1 = some r) :
 Calls Tryz.prog 39 #[.slice A0 l0.length c0,.slice A1 l1.length c1] w fun e w'=>e = .returned (.bool r)∧Drawn0 w w':=by
 have HR0:=Aside0.mk hr0;have HC0:=Aside0.mk hc0;clear hr0 hc0;have HR1:=Aside0.mk hr1;have HC1:=Aside0.mk hc1;clear hr1 hc1;have H:(if (l0.length:Int) = (l1.length:Int) then (slices_Equal_int_int.l0 k l0 l1 (l0.length:Int) 0) else (some false)) = some r:=h;clear h;by_cases c3:(l0.length:Int) = (l1.length:Int)
 ·rw [if_pos c3] at H;have c3b0:((l0.length:Int) == (l1.length:Int)) = true:=beq_iff_eq.mpr c3;have c3b1:((l0.length:Int) != (l1.length:Int)) = false:=bne_eq_false_iff_eq.mpr c3;have c3b2:(l0.length == l1.length) = true:=by first|simpa using c3|(simp at c3 ⊢;omega)
  clear c3;have H':=Aside0.mk H;clear H;go_enter Tryz.func39,Tryz.ntmps39;go_wp2;repeat (go_quiet (fail);try go_wp2)
  go_loopg [13] k (fun kq v13 w'=>∃ (x13_1:Int),v13 = .int .i64 x13_1∧Aside0 (slices_Equal_int_int.l0 kq l0 l1 (l0.length:Int) x13_1 = some r)∧Aside0 (kq ≤ k)∧Drawn0 w w')
  case atStart=>exact ⟨(0),(by first|rfl|(simp;done)|(simp [*];done)),H',⟨Nat.le_refl _⟩,by repeat (first|exact Drawn0.refl _|apply Drawn0.step)⟩
  case round =>
   clear H';repeat first|clear c1|clear c3|clear c3b0|clear c3b1|clear c3b2
   obtain ⟨x13_1,rfl,HA,HK1,⟨m1,rfl⟩⟩:=hrel;cases gk with
   | zero=>exact absurd HA.out (by simp [slices_Equal_int_int.l0])
   | succ k1 =>
    have H:=HA.out;clear HA;simp only [slices_Equal_int_int.l0] at H;by_cases c4:x13_1 < (l0.length:Int)
    ·rw [if_pos c4] at H;have c4b0:decide (x13_1 < (l0.length:Int)) = true:=decide_eq_true c4;clear c4;by_cases c5:0 ≤ x13_1
     ·rw [if_pos c5] at H;have c5b0:decide (0 ≤ x13_1) = true:=decide_eq_true c5;clear c5;by_cases c6:x13_1 < (l0.length:Int)
      ·rw [if_pos c6] at H;have c6b0:decide (x13_1 < (l0.length:Int)) = true:=decide_eq_true c6;clear c6;by_cases c7:x13_1 < (l1.length:Int)
       ·rw [if_pos c7] at H;have c7b0:decide (x13_1 < (l1.length:Int)) = true:=decide_eq_true c7;clear c7;by_cases c8:(rd l0 x13_1) = (rd l1 x13_1)
        ·rw [if_pos c8] at H;have c8b0:((rd l0 x13_1) == (rd l1 x13_1)) = true:=beq_iff_eq.mpr c8;have c8b1:((rd l0 x13_1) != (rd l1 x13_1)) = false:=bne_eq_false_iff_eq.mpr c8;clear c8;have H':=Aside0.mk H;clear H;have p101:0 ≤ (x13_1:Int):=of_decide_eq_true (by first|(with_reducible assumption)|assumption);have q101:x13_1 < (l0.length:Int):=of_decide_eq_true (by first|(with_reducible assumption)|assumption);obtain ⟨ad101,e101,hx101_0⟩:=Kd.at_int HR0.out x13_1 p101 q101;cases e101;replace p101:=eq_true p101;replace q101:=eq_true q101;have p102:0 ≤ (x13_1:Int):=of_decide_eq_true (by first|(with_reducible assumption)|assumption);have q102:x13_1 < (l1.length:Int):=of_decide_eq_true (by first|(with_reducible assumption)|assumption);obtain ⟨ad102,e102,hx102_0⟩:=Kd.at_int HR1.out x13_1 p102 q102;cases e102;replace p102:=eq_true p102;replace q102:=eq_true q102;go_wp2;repeat (go_quiet (fail);try go_wp2)
         go_roundg k1
         case measure=>have:=HK1.out;omega
         case rel=>exact ⟨(wrap64 (x13_1 + 1)),(by first|rfl|(simp;done)|(simp [*];done)),H',⟨by have:=HK1.out;omega⟩,by repeat (first|exact Drawn0.refl _|apply Drawn0.step)⟩
        ·rw [if_neg c8] at H;have c8b0:((rd l0 x13_1) == (rd l1 x13_1)) = false:=beq_eq_false_iff_ne.mpr c8;have c8b1:((rd l0 x13_1) != (rd l1 x13_1)) = true:=bne_iff_ne.mpr c8;obtain rfl:=Option.some.inj H;have p101:0 ≤ (x13_1:Int):=of_decide_eq_true (by first|(with_reducible assumption)|assumption);have q101:x13_1 < (l0.length:Int):=of_decide_eq_true (by first|(with_reducible assumption)|assumption);obtain ⟨ad101,e101,hx101_0⟩:=Kd.at_int HR0.out x13_1 p101 q101;cases e101;replace p101:=eq_true p101;replace q101:=eq_true q101;have p102:0 ≤ (x13_1:Int):=of_decide_eq_true (by first|(with_reducible assumption)|assumption);have q102:x13_1 < (l1.length:Int):=of_decide_eq_true (by first|(with_reducible assumption)|assumption);obtain ⟨ad102,e102,hx102_0⟩:=Kd.at_int HR1.out x13_1 p102 q102;cases e102;replace p102:=eq_true p102;replace q102:=eq_true q102;go_wp2;repeat (go_quiet (fail);try go_wp2)
         go_ret
         exact ⟨by first|rfl|(simp;done)|(simp [*];done),by repeat (first|exact Drawn0.refl _|apply Drawn0.step)⟩
       ·rw [if_neg c7] at H;exact absurd H (by simp)
      ·rw [if_neg c6] at H;exact absurd H (by simp)
     ·rw [if_neg c5] at H;exact absurd H (by simp)
    ·rw [if_neg c4] at H;have c4b0:decide (x13_1 < (l0.length:Int)) = false:=decide_eq_false c4;clear c4;obtain rfl:=Option.some.inj H;go_wp2;repeat (go_quiet (fail);try go_wp2)
     go_ret
     exact ⟨by first|rfl|(simp;done)|(simp [*];done),by repeat (first|exact Drawn0.refl _|apply Drawn0.step)⟩
 ·rw [if_neg c3] at H;have c3b0:((l0.length:Int) == (l1.length:Int)) = false:=beq_eq_false_iff_ne.mpr c3;have c3b1:((l0.length:Int) != (l1.length:Int)) = true:=bne_iff_ne.mpr c3;have c3b2:(l0.length == l1.length) = false:=by first|simpa using c3|(simp at c3 ⊢;omega)
  obtain rfl:=Option.some.inj H;go_enter Tryz.func39,Tryz.ntmps39;go_wp2;repeat (go_quiet (fail);try go_wp2)
  go_ret
  exact ⟨by first|rfl|(simp;done)|(simp [*];done),by repeat (first|exact Drawn0.refl _|apply Drawn0.step)⟩
def creellaw_sameInts.f (k:Nat) (l0:List Int) (l1:List Int):Option (Bool):=(slices_Equal_int_int.f k l0 l1).bind fun t101=>(some t101)
set_option maxHeartbeats 8000000 in
set_option maxRecDepth 100000 in
theorem creellaw_sameInts.calls (k:Nat) (A0:Option Addr) (c0:Nat) (l0:List Int) (A1:Option Addr) (c1:Nat) (l1:List Int) (r:Bool) (w:World) (hr0:Kd.C (Kd.int .i64) w A0 l0.length l0) (hc0:l0.length ≤ c0) (hr1:Kd.C (Kd.int .i64) w A1 l1.length l1) (hc1:l1.length ≤ c1) (h:creellaw_sameInts.f k l0 l1 = some r) :
 Calls Tryz.prog 15 #[.slice A0 l0.length c0,.slice A1 l1.length c1] w fun e w'=>e = .returned (.bool r)∧Drawn0 w w':=by
 have HR0:=Aside0.mk hr0;have HC0:=Aside0.mk hc0;clear hr0 hc0;have HR1:=Aside0.mk hr1;have HC1:=Aside0.mk hc1;clear hr1 hc1;have H:((slices_Equal_int_int.f k l0 l1).bind fun t101=>(some t101)) = some r:=h;clear h;replace H:=Option.bind_eq_some_iff.mp H;obtain ⟨t101,A30,H⟩:=H;replace H:(some t101) = some r:=H;have A3:=Aside0.mk A30;clear A30;obtain rfl:=Option.some.inj H;go_enter Tryz.func15,Tryz.ntmps15;go_wp2_with (first|((with_reducible refine gate_callee (f:=39) rfl ?_);refine goesL_ (some 7) rfl rfl Tryz.func39 (by kernel_rfl) rfl #[.slice A0 l0.length c0,.slice A1 l1.length c1] rfl (by (try simp only [List.map_toArray,List.map_cons,List.map_nil]);first|done|rfl|(simp only [List.length_drop,List.length_take];rfl)) ?_;(with_reducible refine (slices_Equal_int_int.calls k _ _ l0 _ _ l1 t101 _ ?side1 ?side2 ?side3 ?side4 A3.out).mono ?_);(case side1=>repeat (first|exact HR0.out|(with_reducible refine Kd.C_alloc ?_ _)|(with_reducible refine Kd.C_drewN ?_ _)|(with_reducible refine Kd.C_drew ?_)));(case side2=>exact HC0.out);(case side3=>repeat (first|exact HR1.out|(with_reducible refine Kd.C_alloc ?_ _)|(with_reducible refine Kd.C_drewN ?_ _)|(with_reducible refine Kd.C_drew ?_)));(case side4=>exact HC1.out);rintro e w' ⟨rfl,⟨nd,rfl⟩⟩;refine ⟨_,rfl,?_⟩))
 go_ret
 exact ⟨by first|rfl|(simp;done)|(simp [*];done),by repeat (first|exact Drawn0.refl _|apply Drawn0.step)⟩
end Go.Proofs.YtenbelecmmpdgaaGreatDoor.All
end
section
namespace Go.Proofs.YtenbelecmmpdgaaGreatDoor.All
open Go.RowKit Go.Proofs.YtenbelecmmpdgaaGreatDoorW.PrintWords Go.Proofs.YtenbelecmmpdgaaGreatDoorW.PrintLast Go.Proofs.YtenbelecmmpdgaaGreatDoorW.PrintMore
open Go.Proofs.YtenbelecmmpdgaaGreatDoorW.Mine
attribute [local go_sem] gtr_string leq_string geq_string
attribute [local go_sem] max2_int min2_int max_two min_two max_three min_three max_four min_four
set_option linter.unusedVariables false
set_option linter.unusedSimpArgs false
open Go.Proofs.YtenbelecmmpdgaaGreatDoorW.MapOwn Go.Proofs.YtenbelecmmpdgaaGreatDoorW.MarkRow
def creellaw_WriteArchives.f (k:Nat) (l0:List (S26)):Option Bool:=(write_Archive.f k l0).bind fun p=>(write_Places.f k l0).bind fun q=>(creelref_Arc.f k l0).bind fun r=>(creelref_ArcPlaces.f k l0).bind fun s=>(creellaw_sameBytes.f p.1 r.1).bind fun b=>(creellaw_sameInts.f k q.1 s.1).bind fun c=>if b = true∧p.2 = r.2∧c = true∧q.2 = s.2 then some true else none
set_option maxHeartbeats 8000000 in
set_option maxRecDepth 100000 in
theorem creellaw_WriteArchives.calls (k:Nat) (A0:Option Addr) (c0:Nat) (l0:List (S26)) (r:Bool) (w:World) (hr0:Kd.C k26 w A0 l0.length l0) (hc0:l0.length ≤ c0) (HT0:Aside0 (Tab w)) (h:creellaw_WriteArchives.f k l0 = some r) :
 Calls Tryz.prog 4 #[.slice A0 l0.length c0] w fun e w'=>e = .returned (.bool r)∧Below w.heap.size w w':=by
 have HR0:=Aside0.mk hr0;have HC0:=Aside0.mk hc0;clear hr0 hc0;unfold creellaw_WriteArchives.f at h;obtain ⟨⟨p1,p2⟩,h1,hq⟩:=Option.bind_eq_some_iff.1 h;clear h;have h:=hq;clear hq;have H1:=Aside0.mk h1;clear h1;obtain ⟨⟨q1,q2⟩,h2,hq⟩:=Option.bind_eq_some_iff.1 h;clear h;have h:=hq;clear hq;have H2:=Aside0.mk h2;clear h2;obtain ⟨⟨r1,r2⟩,h3,hq⟩:=Option.bind_eq_some_iff.1 h;clear h;have h:=hq;clear hq;have H3:=Aside0.mk h3;clear h3;obtain ⟨⟨s1,s2⟩,h4,hq⟩:=Option.bind_eq_some_iff.1 h;clear h;have h:=hq;clear hq;have H4:=Aside0.mk h4;clear h4;obtain ⟨b,h5,hq⟩:=Option.bind_eq_some_iff.1 h;clear h;have h:=hq;clear hq;have H5:=Aside0.mk h5;clear h5;obtain ⟨c,h6,hq⟩:=Option.bind_eq_some_iff.1 h;clear h;have h:=hq;clear hq;have H6:=Aside0.mk h6;clear h6;simp only at h;by_cases d:b = true∧p2 = r2∧c = true∧q2 = s2
 ·rw [if_pos d] at h;obtain rfl:=Option.some.inj h;obtain ⟨rfl,rfl,rfl,rfl⟩:=d;clear h;go_enter Tryz.func4,Tryz.ntmps4;go_wp2_with (first|(go_at_call 11;refine (write_Archive.calls k A0 c0 l0 p1 p2 _ HR0.out HC0.out HT0 H1.out).mono ?_;rintro e w1 ⟨v1,rfl,hr,hb⟩;obtain ⟨A1,c1,rfl,hl,hc⟩:=Kd.R_reads hr;have HP:=Aside0.mk hc;have HPL:=Aside0.mk hl;have HB:=Aside0.mk hb;clear hr hl hc hb)|(go_at_call 12;refine (write_Places.calls k A0 c0 l0 q1 q2 _ (Kd.C_below HR0.out HB.out) HC0.out ⟨tab_on HT0.out HB.out⟩ H2.out).mono ?_;rintro e w2 ⟨v2,rfl,hr,hb⟩;obtain ⟨A2,c2,rfl,hl,hc⟩:=Kd.R_reads hr;have HQ:=Aside0.mk hc;have HQL:=Aside0.mk hl;have HP9:=Aside0.mk (Kd.C_below HP.out hb);have HB9:=Aside0.mk (below_step HB.out hb);clear hr hl hc hb;clear HP HB;have HP:=HP9;have HB:=HB9;clear HP9 HB9)|(go_at_call 13;refine (creelref_Arc.calls k A0 c0 l0 r1 _ _ (Kd.C_below HR0.out HB.out) HC0.out ⟨tab_on HT0.out HB.out⟩ H3.out).mono ?_;rintro e w3 ⟨v3,rfl,hr,hb⟩;obtain ⟨A3,c3,rfl,hl,hc⟩:=MRow.reads hr;have HR:=Aside0.mk hc;have HRL:=Aside0.mk hl;have HP9:=Aside0.mk (Kd.C_below HP.out hb);have HQ9:=Aside0.mk (Kd.C_below HQ.out hb);have HB9:=Aside0.mk (below_step HB.out hb);clear hr hl hc hb;clear HP HQ HB;have HP:=HP9;have HQ:=HQ9;have HB:=HB9;clear HP9 HQ9 HB9)|(go_at_call 14;refine (creelref_ArcPlaces.calls k A0 c0 l0 s1 _ _ (Kd.C_below HR0.out HB.out) HC0.out ⟨tab_on HT0.out HB.out⟩ H4.out).mono ?_;rintro e w4 ⟨v4,rfl,hr,hb⟩;obtain ⟨A4,c4,rfl,hl,hc⟩:=Kd.R_reads hr;have HS:=Aside0.mk hc;have HSL:=Aside0.mk hl;have HP9:=Aside0.mk (Kd.C_below HP.out hb);have HQ9:=Aside0.mk (Kd.C_below HQ.out hb);have HR9:=Aside0.mk (Kd.C_below HR.out hb);have HB9:=Aside0.mk (below_step HB.out hb);clear hr hl hc hb;clear HP HQ HR HB;have HP:=HP9;have HQ:=HQ9;have HR:=HR9;have HB:=HB9;clear HP9 HQ9 HR9 HB9)|(go_at_call 10;refine (creellaw_sameBytes.calls A1 c1 p1 A3 c3 r1 true _ HP.out HPL.out HR.out HRL.out H5.out).mono ?_;rintro e w5 ⟨rfl,⟨nd,rfl⟩⟩;have HQ9:=Aside0.mk (Kd.C_drewN HQ.out nd);have HS9:=Aside0.mk (Kd.C_drewN HS.out nd);have HB9:=Aside0.mk (pwbN HB.out nd);clear HQ HS HB;have HQ:=HQ9;have HS:=HS9;have HB:=HB9;clear HQ9 HS9 HB9)|(go_at_call 15;refine (creellaw_sameInts.calls k A2 c2 q1 A4 c4 s1 true _ HQ.out HQL.out HS.out HSL.out H6.out).mono ?_;rintro e w6 ⟨rfl,⟨nd6,rfl⟩⟩;have HB9:=Aside0.mk (pwbN HB.out nd6);clear HB;have HB:=HB9;clear HB9))
  go_ret
  exact ⟨rfl,by rw [← World.drewN_drewN];exact HB.out⟩
 ·rw [if_neg d] at h;cases h
end Go.Proofs.YtenbelecmmpdgaaGreatDoor.All
end
section
namespace Go.Proofs.YtenbelecmmpdgaaGreatDoorW.Opens
open Go.RowKit Go.ChangeShapes Go.WideShapes Go.Proofs.YtenbelecmmpdgaaGreatDoorW.PrintWords
def Opens {α:Type} (P:Program) (t:TypeId) (d:Kd α) (g:α→Prop):Prop :=
  ∀ (H:Type) (enc:TypeId × Value→H) (w:World) (fuel:Nat) (cs:List Value) (x:DataW H × List MemPlace),
    DataW.trod enc P w 0 (fun _=>true) true fuel t cs = some x→(∀ n ∈ x.1.weights P t,n ≤ reachBytes)→∃ y,d.K w y cs∧g y
theorem opens_int {P:Program} {t:TypeId} {k:IntKind} (ht:P.underlying t = some (.int k)):Opens P t (Kd.int k) (fun a=>(Lit.int k a).wf = true):=by
  intro H enc w fuel cs x h _
  obtain ⟨a,e,_,wa⟩:=DataW.trod_int ht h
  exact ⟨a,e,wa⟩
theorem opens_string {P:Program} {t:TypeId} (ht:P.underlying t = some .string):Opens P t Kd.string (fun s=>s.size ≤ 140737488351232):=by
  intro H enc w fuel cs x h hw
  obtain ⟨a,e,hx,_⟩:=DataW.trod_string ht h
  refine ⟨a,e,?_⟩
  have:=hw a.data.toList.length (by rw [hx];simp [DataW.weights])
  rw [Array.length_toList] at this
  exact this
theorem list_of {α:Type} {p:Nat→α→Prop}:∀ (n:Nat),(∀ i,i < n→∃ y,p i y)→∃ l:List α,l.length = n∧∀ i y,l[i]? = some y→p i y
  | 0,_=>⟨[],rfl,fun i y h=>by simp at h⟩
  | n + 1,h=>by
    obtain ⟨l,hl,hp⟩:=list_of n (fun i hi=>h i (by omega))
    obtain ⟨y,hy⟩:=h n (by omega)
    refine ⟨l ++ [y],by simp [hl],fun i z hz=>?_⟩
    by_cases hi:i < n
    · exact hp i z (by rwa [List.getElem?_append_left (by omega)] at hz)
    · rw [List.getElem?_append_right (by omega),hl] at hz
      have e0:i - n = 0:=by
        rcases Nat.eq_zero_or_pos (i - n) with e|e
        · exact e
        · rw [List.getElem?_eq_none (by simp;omega)] at hz
          simp at hz
      rw [e0] at hz
      have:i = n:=by omega
      subst this
      simp at hz
      subst hz
      exact hy
theorem mem_weightsAll {H:Type} {P:Program} {e:TypeId} {d:DataW H}:∀ {l:List (DataW H)},d ∈ l→∀ n ∈ d.weights P e,n ∈ DataW.weightsAll P e l
  | a :: l,h,n,hn=>by
    simp only [DataW.weightsAll,List.mem_append]
    rcases List.mem_cons.1 h with rfl|h
    · exact .inl hn
    · exact .inr (mem_weightsAll h n hn)
  | [],h,_,_=>by simp at h
theorem opens_slice {α:Type} {P:Program} {t e:TypeId} {B:Nat} {d:Kd α} {g:α→Prop} (ht:P.underlying t = some (.slice e)) (hc:P.cellsOf e = d.sz) (hB:P.bytesOf e = B) (ho:Opens P e d g) :
    Opens P t (Kd.slice e d) (fun l=>l.length * B ≤ 140737488351232∧∀ y ∈ l,g y):=by
  intro H enc w fuel cs x h hw
  rcases Go.Deep.open_slice ht h with ⟨rfl,rfl⟩|⟨a,len,cap,m,n,D,Pl,rfl,_,hl,hm,hmm,rfl,hel⟩
  · exact ⟨[],⟨none,0,rfl,Nat.le_refl _,rfl,by simp,fun h=>absurd h (by simp)⟩,by simp,by simp⟩
  · have hml:len ≤ m:=by
      rw [hmm]
      simp only [if_true]
      exact hl
    have key:∀ i,i < len→∃ y,(∃ c,c.length = d.sz∧d.K w y c∧∀ j u,c[j]? = some u→w.cell? (a.add (i * d.sz + j)) = some u)∧g y:=by
      intro i hi
      obtain ⟨c,h1,h2⟩:=hel i (by omega)
      rw [hc] at h1
      obtain ⟨_,hlen,hcell⟩:=World.cells?_some h1
      obtain ⟨y,hK,hg⟩:=ho H enc w n c (D i,Pl i) h2 (fun q hq=>hw q (by
        simp only [DataW.weights,ht,List.mem_cons,List.mem_append]
        exact .inr (.inl (mem_weightsAll (List.mem_map.2 ⟨i,List.mem_range.2 hi,rfl⟩) q hq))))
      refine ⟨y,⟨c,hlen,hK,fun j u hu=>?_⟩,hg⟩
      have hj:j < d.sz:=by
        rw [← hlen]
        exact (List.getElem?_eq_some_iff.1 hu).1
      rw [← Go.Deep.add_add,hcell j hj,hu]
    obtain ⟨l,hlen,hp⟩:=list_of len key
    subst hlen
    refine ⟨l,⟨some a,cap,rfl,hl,rfl,?_,fun _=>⟨a,rfl,fun j p hj=>?_⟩⟩,?_,?_⟩
    · unfold maxLen at hm
      omega
    · obtain ⟨⟨c,h1,h2,h3⟩,_⟩:=hp j p hj
      exact ⟨c,h1,h2,h3⟩
    · have:=hw ((l.length + (m - l.length)) * P.bytesOf e) (by simp [DataW.weights,ht])
      rw [hB] at this
      exact Nat.le_trans (Nat.mul_le_mul_right _ (by omega)) this
    · intro y hy
      obtain ⟨i,hi⟩:=List.mem_iff_getElem?.1 hy
      exact (hp i y hi).2
def OpensF {α:Type} (P:Program) (fs:List Field) (off:Nat) (d:Kd α) (g:α→Prop):Prop :=
  ∀ (H:Type) (enc:TypeId × Value→H) (w:World) (n:Nat) (cs:List Value) (xs:List (DataW H × List MemPlace)),
    cs.length = off + d.sz→xs.length = fs.length→(∀ (i:Nat) (f:Field),fs[i]? = some f→DataW.trod enc P w 0 (fun _=>true) true n f.type ((cs.drop f.offset).take (P.cellsOf f.type)) = xs[i]?) →
    (∀ m ∈ DataW.weightsEach P (fs.map (·.type)) (xs.map (·.1)),m ≤ reachBytes)→∃ y,d.K w y (cs.drop off)∧g y
theorem opensF_one {α:Type} {P:Program} {f:Field} {off:Nat} {d:Kd α} {g:α→Prop} (hoff:f.offset = off) (hc:P.cellsOf f.type = d.sz) (ho:Opens P f.type d g):OpensF P [f] off d g:=by
  intro H enc w n cs xs hl hx hf hw
  match xs,hx with
  | [x],_ =>
    have h:=hf 0 f rfl
    rw [hoff,hc,List.take_of_length_le (by rw [List.length_drop];omega)] at h
    exact ho H enc w n (cs.drop off) x h (fun m hm=>hw m (by simp only [List.map_cons,List.map_nil,DataW.weightsEach,List.append_nil];exact hm))
theorem opensF_cons {α β:Type} {P:Program} {f:Field} {fs:List Field} {off off2:Nat} {d1:Kd α} {d2:Kd β} {g1:α→Prop} {g2:β→Prop} (hoff:f.offset = off) (hc:P.cellsOf f.type = d1.sz) (ho:Opens P f.type d1 g1)
    (h2:off + d1.sz = off2) (hr:OpensF P fs off2 d2 g2):OpensF P (f :: fs) off (Kd.pair d1 d2) (fun p=>g1 p.1∧g2 p.2):=by
  intro H enc w n cs xs hl hx hf hw
  match xs,hx with
  | x :: xs,hx =>
    subst h2
    have hl':cs.length = off + (d1.sz + d2.sz):=hl
    have h:=hf 0 f rfl
    rw [hoff,hc] at h
    obtain ⟨y1,k1,q1⟩:=ho H enc w n _ x h (fun m hm=>hw m (by simp only [List.map_cons,DataW.weightsEach,List.mem_append];exact .inl hm))
    obtain ⟨y2,k2,q2⟩:=hr H enc w n cs xs (by omega) (by simpa using hx) (fun i f' hi=>by simpa using hf (i + 1) f' (by simpa using hi)) (fun m hm=>hw m (by simp only [List.map_cons,DataW.weightsEach,List.mem_append];exact .inr hm))
    refine ⟨(y1,y2),⟨_,_,?_,k1,k2⟩,q1,q2⟩
    rw [← List.drop_drop,List.take_append_drop]
theorem opens_struct {α:Type} {P:Program} {t:TypeId} {fs:Array Field} {d:Kd α} {g:α→Prop} (ht:P.underlying t = some (.struct fs)) (hc:P.cellsOf t = d.sz) (hF:OpensF P fs.toList 0 d g):Opens P t d g:=by
  intro H enc w fuel cs x h hw
  obtain ⟨xs,n,_,rfl,hl,hlen,hf⟩:=DataW.trod_struct ht h
  have:=hF H enc w n cs xs (by omega) (by simpa using hlen) (fun i f hi=>hf i f (by simpa using hi)) (fun m hm=>hw m (by simpa only [DataW.weights,ht] using hm))
  simpa using this
theorem opens_iso {α β:Type} {P:Program} {t:TypeId} {d:Kd α} {g:α→Prop} {f:β→α} (inv:α→β) (hinv:∀ y,f (inv y) = y) (ho:Opens P t d g):Opens P t (Kd.iso d f) (fun x=>g (f x)):=by
  intro H enc w fuel cs x h hw
  obtain ⟨y,hK,hg⟩:=ho H enc w fuel cs x h hw
  exact ⟨inv y,by show d.K w (f (inv y)) cs;rw [hinv];exact hK,by show g (f (inv y));rw [hinv];exact hg⟩
theorem opens_at {α:Type} {P:Program} {t:TypeId} {d:Kd α} {g:α→Prop} (ho:Opens P t d g) {H:Type} {enc:TypeId × Value→H} {w:World} {v:Value} {x:DataW H} {ps:List MemPlace} {ts:List TypeId} {ds:List (DataW H)} {j:Nat}
    (hsz:(DataW.weightsEach P ts ds).all (· ≤ reachBytes) = true) (ht:ts[j]? = some t) (hd:ds[j]? = some x) (h:DataW.Trod enc P w 0 (fun _=>true) true t v x ps):∃ y,d.K w y v.cells.toList∧g y:=by
  obtain ⟨fuel,hf⟩:=h
  exact ho H enc w fuel _ (x,ps) hf (fun n hn=>by simpa using List.all_eq_true.1 hsz n (DataW.weights_mem_each ht hd n hn))
end Go.Proofs.YtenbelecmmpdgaaGreatDoorW.Opens
end
section
namespace Go.Proofs.YtenbelecmmpdgaaGreatDoor.GWriteArchives
open Go.RowKit Go.Proofs.YtenbelecmmpdgaaGreatDoor.All Go.Proofs.YtenbelecmmpdgaaGreatDoorW.PrintWords Go.Proofs.YtenbelecmmpdgaaGreatDoorW.PrintLast Go.Proofs.YtenbelecmmpdgaaGreatDoorW.Opens
set_option linter.unusedVariables false
def good23 (x:S23):Prop:=((Lit.int .i64 x.f0).wf = true)∧((Lit.int .i64 x.f1).wf = true)∧((Lit.int .i64 x.f2).wf = true)∧(x.f3.size ≤ 140737488351232)∧(x.f4.size ≤ 140737488351232)∧((Lit.int .i64 x.f5).wf = true)∧((Lit.int .i64 x.f6).wf = true)
theorem opens23:Opens Tryz.prog 23 k23 good23:=opens_iso (f:=(fun x:S23=>(x.f0,x.f1,x.f2,x.f3,x.f4,x.f5,x.f6))) (fun p=>⟨p.1,p.2.1,p.2.2.1,p.2.2.2.1,p.2.2.2.2.1,p.2.2.2.2.2.1,p.2.2.2.2.2.2⟩) (fun _=>rfl) (opens_struct Tryz.underlying23 (by kernel_rfl) (opensF_cons (off2:=1) rfl (by kernel_rfl) (opens_int Tryz.underlying3) rfl (opensF_cons (off2:=2) rfl (by kernel_rfl) (opens_int Tryz.underlying3) rfl (opensF_cons (off2:=3) rfl (by kernel_rfl) (opens_int Tryz.underlying3) rfl (opensF_cons (off2:=4) rfl (by kernel_rfl) (opens_string Tryz.underlying9) rfl (opensF_cons (off2:=5) rfl (by kernel_rfl) (opens_string Tryz.underlying9) rfl (opensF_cons (off2:=6) rfl (by kernel_rfl) (opens_int Tryz.underlying3) rfl (opensF_one rfl (by kernel_rfl) (opens_int Tryz.underlying3)))))))))
def good26 (x:S26):Prop:=(x.f0.size ≤ 140737488351232)∧((Lit.int .i64 x.f1).wf = true)∧(x.f2.size ≤ 140737488351232)∧(good23 x.f3)∧(x.f4.length * 1 ≤ 140737488351232∧∀ y ∈ x.f4,(Lit.int .u8 y).wf = true)
theorem opens26:Opens Tryz.prog 26 k26 good26:=opens_iso (f:=(fun x:S26=>(x.f0,x.f1,x.f2,x.f3,x.f4))) (fun p=>⟨p.1,p.2.1,p.2.2.1,p.2.2.2.1,p.2.2.2.2⟩) (fun _=>rfl) (opens_struct Tryz.underlying26 (by kernel_rfl) (opensF_cons (off2:=1) rfl (by kernel_rfl) (opens_string Tryz.underlying9) rfl (opensF_cons (off2:=2) rfl (by kernel_rfl) (opens_int Tryz.underlying3) rfl (opensF_cons (off2:=3) rfl (by kernel_rfl) (opens_string Tryz.underlying9) rfl (opensF_cons (off2:=10) rfl (by kernel_rfl) opens23 rfl (opensF_one rfl (by kernel_rfl) (opens_slice (B:=1) Tryz.underlying24 (by kernel_rfl) (by kernel_rfl) (opens_int Tryz.underlying5))))))))
def Pure:Prop:=∀ (l0:List S26),(l0.length * 136 ≤ 140737488351232∧∀ y ∈ l0,good26 y)→∃ k,creellaw_WriteArchives.f k l0 = some true
theorem walk (P:Pure) (l0:List S26) (w:World) (g0:l0.length * 136 ≤ 140737488351232∧∀ y ∈ l0,good26 y) {A0:Option Addr} {c0:Nat} (r0:Kd.C k26 w A0 l0.length l0) (hc0:l0.length ≤ c0) (HT0:Aside0 (Go.Proofs.YtenbelecmmpdgaaGreatDoorW.Mine.Tab w)) :
 Calls Tryz.prog 4 #[.slice A0 l0.length c0] w fun e w'=>e = .returned (.bool true)∧Below w.heap.size w w':=by
 obtain ⟨k,h⟩:=P l0 g0;refine (creellaw_WriteArchives.calls k A0 c0 l0 true w r0 hc0 HT0 h).mono ?_;rintro e w' ⟨rfl,hd⟩;exact ⟨rfl,hd⟩
end Go.Proofs.YtenbelecmmpdgaaGreatDoor.GWriteArchives
end
section
namespace Go.Proofs.YtenbelecmmpdgaaGreatDoorW.PureBase
open Go.RowKit Go.Proofs.YtenbelecmmpdgaaGreatDoorW.PrintWords
theorem wrap_is {x:Int} (h0:-9223372036854775808 ≤ x) (h:x ≤ 9223372036854775807):wrap64 x = x:=by unfold wrap64;omega
theorem wrap_nat {x:Int} (h0:0 ≤ x) (h:x ≤ 9223372036854775807):wrap64 x = x:=wrap_is (by omega) h
theorem toList_data (s:ByteArray):s.toList = s.data.toList:=ByteArray.toList_eq s
theorem bt_get (s:ByteArray) (i:Nat) (h:i < s.size):bt s i = ((s.data.toList[i]'(by simpa using h)).toNat:Int):=by
  unfold bt
  rw [dif_pos (by simpa using h)]
  simp
  rfl
theorem bt_eq_iff (s:ByteArray) (i:Nat) (h:i < s.size) (c:Int) (c0:0 ≤ c) (c1:c ≤ 255):bt s i = c ↔ s.data.toList[i]? = some c.toNat.toUInt8:=by
  rw [bt_get s i h,List.getElem?_eq_getElem (by simpa using h)]
  simp only [Option.some.injEq]
  constructor
  · intro e
    rw [← e]
    simp
  · intro e
    rw [e]
    simp
    omega
theorem size_list (s:ByteArray):s.data.toList.length = s.size:=by simp
theorem of_list (s:ByteArray):(⟨s.data.toList.toArray⟩:ByteArray) = s:=by simp
theorem ext_list {s t:ByteArray} (h:s.data.toList = t.data.toList):s = t:=by
  rw [← of_list s,← of_list t,h]
theorem toList_inj {s t:ByteArray} (h:s.toList = t.toList):s = t:=by
  rw [toList_data,toList_data] at h
  exact ext_list h
theorem mem_bt (s:ByteArray) (c:Int) (c0:0 ≤ c) (c1:c ≤ 255):(∃ j:Int,0 ≤ j∧j < s.size∧bt s j = c) ↔ s.data.toList.contains c.toNat.toUInt8 = true:=by
  rw [List.contains_iff_mem]
  constructor
  · rintro ⟨j,h0,h1,h2⟩
    obtain ⟨i,rfl⟩:=Int.eq_ofNat_of_zero_le h0
    have:=(bt_eq_iff s i (by omega) c c0 c1).1 h2
    exact List.mem_of_getElem? this
  · intro h
    obtain ⟨i,hi,he⟩:=List.mem_iff_getElem.1 h
    have hs:i < s.size:=by simpa using hi
    refine ⟨i,by omega,by omega,?_⟩
    rw [bt_eq_iff s i hs c c0 c1,List.getElem?_eq_getElem hi,he]
theorem index_ge (l:List UInt8) (c:UInt8):decide (Lib.indexByte l c ≥ 0) = l.contains c:=by
  rw [Lib.contains_iff_indexByte]
theorem Ev.const {α:Type} {o:Option α} {r:α} (h:o = some r):Ev (fun _=>o) r:=⟨0,fun _ _=>h⟩
theorem Ev.ifp {α:Type} {c:Prop} [Decidable c] {g f:Nat→Option α} {r:α} (hc:c) (h:Ev g r):Ev (fun k=>if c then g k else f k) r:=by
  obtain ⟨K,hk⟩:=h
  exact ⟨K,fun k h=>(if_pos hc).trans (hk k h)⟩
theorem Ev.ifn {α:Type} {c:Prop} [Decidable c] {g f:Nat→Option α} {r:α} (hc:¬ c) (h:Ev f r):Ev (fun k=>if c then g k else f k) r:=by
  obtain ⟨K,hk⟩:=h
  exact ⟨K,fun k h=>(if_neg hc).trans (hk k h)⟩
end Go.Proofs.YtenbelecmmpdgaaGreatDoorW.PureBase
end
section
namespace Go.Proofs.YtenbelecmmpdgaaGreatDoor.Q
set_option linter.unusedVariables false
set_option linter.unusedSimpArgs false
open Go.RowKit Go.Proofs.YtenbelecmmpdgaaGreatDoor.All Go.Proofs.YtenbelecmmpdgaaGreatDoorW.PrintWords Go.Proofs.YtenbelecmmpdgaaGreatDoorW.PrintLast Go.Proofs.YtenbelecmmpdgaaGreatDoorW.PrintMore Go.Proofs.YtenbelecmmpdgaaGreatDoorW.PureBase
theorem has_from (s:ByteArray) (c:Int) (hb:s.size ≤ 140737488351232) (d:Nat):∀ (k:Nat) (i:Int),0 ≤ i→i ≤ s.size→(s.size:Int) - i = d→d < k →
    ∃ b,creelref_has.l0 k s c i = some b∧(b = true ↔ ∃ j:Int,i ≤ j∧j < s.size∧bt s j = c):=by
  induction d with
  | zero =>
    intro k i h0 h1 hd hk
    obtain ⟨k,rfl⟩:∃ m,k = m + 1:=⟨k - 1,by omega⟩
    refine ⟨false,?_,?_⟩
    · simp only [creelref_has.l0];rw [if_neg (by omega)]
    · constructor
      · intro h;cases h
      · rintro ⟨j,h1,h2,_⟩;omega
  | succ d ih =>
    intro k i h0 h1 hd hk
    obtain ⟨k,rfl⟩:∃ m,k = m + 1:=⟨k - 1,by omega⟩
    have hlt:i < (s.size:Int):=by omega
    have hw:wrap64 (i + 1) = i + 1:=by unfold wrap64;omega
    by_cases e:bt s i = c
    · refine ⟨true,?_,?_⟩
      · simp only [creelref_has.l0];rw [if_pos hlt,if_pos h0,if_pos e]
      · exact ⟨fun _=>⟨i,by omega,hlt,e⟩,fun _=>rfl⟩
    · obtain ⟨b,hb1,hb2⟩:=ih k (i + 1) (by omega) (by omega) (by omega) (by omega)
      refine ⟨b,?_,?_⟩
      · simp only [creelref_has.l0];rw [if_pos hlt,if_pos h0,hw,if_neg e];exact hb1
      · rw [hb2]
        constructor
        · rintro ⟨j,h1,h2,h3⟩;exact ⟨j,by omega,h2,h3⟩
        · rintro ⟨j,h1,h2,h3⟩
          have:j ≠ i:=by rintro rfl;exact e h3
          exact ⟨j,by omega,h2,h3⟩
theorem has_ev (s:ByteArray) (c:Int) (c0:0 ≤ c) (c1:c ≤ 255) (hb:s.size ≤ 140737488351232):Ev (fun k=>creelref_has.f k s c) (s.data.toList.contains c.toNat.toUInt8):=by
  refine ⟨s.size + 1,fun k hk=>?_⟩
  obtain ⟨b,h1,h2⟩:=has_from s c hb s.size k 0 (by omega) (by omega) (by omega) (by omega)
  show creelref_has.l0 k s c 0 = _
  rw [h1]
  congr 1
  rw [Bool.eq_iff_iff,h2]
  exact mem_bt s c c0 c1
def sp (c:UInt8):List UInt8→List (List UInt8)
  | []=>[[]]
  | b :: l=>if b = c then [] :: sp c l else match sp c l with
    | p :: ps=>(b :: p) :: ps
    | []=>[[b]]
theorem sp_ne (c:UInt8) (l:List UInt8):sp c l ≠ []:=by
  cases l with
  | nil=>simp [sp]
  | cons b l =>
    simp only [sp]
    split
    · simp
    · split <;> simp
theorem sp_go (c:UInt8):∀ (l p:List UInt8),c ∉ p→sp c (p ++ l) = (match sp c l with|q :: qs=>(p ++ q) :: qs|[]=>[p])
  | l,[],_=>by
    cases h:sp c l with
    | nil=>exact absurd h (sp_ne c l)
    | cons q qs=>simp [h]
  | l,a :: p,hp=>by
    have ha:¬ a = c:=fun e=>hp (by simp [e])
    have ih:=sp_go c l p (fun h=>hp (List.mem_cons_of_mem _ h))
    simp only [List.cons_append,sp]
    rw [if_neg ha,ih]
    cases h:sp c l with
    | nil=>exact absurd h (sp_ne c l)
    | cons q qs=>simp
theorem sp_cut (c:UInt8) (p l:List UInt8) (hp:c ∉ p):sp c (p ++ c :: l) = p :: sp c l:=by
  rw [sp_go c (c :: l) p hp]
  simp [sp]
theorem sp_whole (c:UInt8) (p:List UInt8) (hp:c ∉ p):sp c p = [p]:=by
  have:=sp_go c [] p hp
  simpa [sp] using this
theorem sp_len_le (c:UInt8) (l:List UInt8):(sp c l).length ≤ l.length + 1:=by
  induction l with
  | nil=>simp [sp]
  | cons b l ih =>
    simp only [sp]
    split
    · simp;omega
    · split
      · rename_i h;rw [h] at ih;simp at ih ⊢;omega
      · simp
def mk (l:List UInt8):ByteArray:=⟨l.toArray⟩
theorem mk_data (l:List UInt8):(mk l).data.toList = l:=rfl
theorem mk_of (s:ByteArray):mk s.data.toList = s:=of_list s
theorem mk_size (l:List UInt8):(mk l).size = l.length:=rfl
def pp (s:ByteArray):List ByteArray:=(sp 47 s.data.toList).map mk
theorem index_one_none {l:List UInt8} {c:UInt8} (h:Lib.index l [c] = -1):c ∉ l:=by
  rw [Lib.index_one] at h
  intro hm
  obtain ⟨i,hi,he⟩:=List.mem_iff_getElem.1 hm
  exact Lib.indexByte_none h i (by rw [List.getElem?_eq_getElem hi,he])
theorem index_one_some {l:List UInt8} {c:UInt8} {o:Nat} (h:Lib.index l [c] = (o:Int)):o < l.length∧c ∉ l.take o∧l = l.take o ++ c :: l.drop (o + 1):=by
  rw [Lib.index_one] at h
  obtain ⟨h1,h2⟩:=Lib.indexByte_some h
  have hlt:=(List.getElem?_eq_some_iff.1 h1).1
  have he:=(List.getElem?_eq_some_iff.1 h1).2
  refine ⟨hlt,?_,?_⟩
  · intro hm
    obtain ⟨i,hi,hie⟩:=List.mem_iff_getElem.1 hm
    rw [List.length_take] at hi
    rw [List.getElem_take] at hie
    exact h2 i (by omega) (by rw [List.getElem?_eq_getElem (by omega),hie])
  · conv=>lhs;rw [← List.take_append_drop o l]
    rw [List.drop_eq_getElem_cons hlt,he]
theorem split_sp (c:UInt8):∀ (k:Nat) (l:List UInt8),Lib.count l [c] ≤ k→Lib.splitK [c] 0 k l = sp c l
  | 0,l,h=>by
    rw [Lib.count_one] at h
    have:c ∉ l:=by
      intro hm
      have:=List.count_pos_iff.2 hm
      omega
    rw [sp_whole c l this];rfl
  | k + 1,l,h=>by
    unfold Lib.splitK
    by_cases hi:Lib.index l [c] = -1
    · rw [if_pos (by simpa using hi),sp_whole c l (index_one_none hi)]
    · rw [if_neg (by simpa using hi)]
      have hge:=Lib.indexByte_ge l c
      rw [← Lib.index_one] at hge
      obtain ⟨o,ho⟩:=Int.eq_ofNat_of_zero_le (show 0 ≤ Lib.index l [c] by omega)
      obtain ⟨h1,h2,h3⟩:=index_one_some ho
      rw [ho]
      simp only [Int.toNat_natCast,Nat.add_zero,List.length_singleton]
      have hc:Lib.count (l.drop (o + 1)) [c] ≤ k:=by
        rw [Lib.count_one] at h ⊢
        rw [h3,List.count_append,List.count_cons_self] at h
        omega
      rw [split_sp c k _ hc]
      conv=>rhs;rw [h3]
      rw [sp_cut c _ _ h2]
theorem split_is (s:ByteArray) (hs:s.size < 4294967281):strings_Split.f s ⟨#[47]⟩ = some (pp s):=by
  unfold strings_Split.f
  simp only
  rw [if_pos hs]
  congr 1
  have h:=Lib.splitB_data ⟨#[47]⟩ 0 (Lib.countB s ⟨#[47]⟩) s
  rw [show (⟨#[47]⟩:ByteArray).data.toList = [47] from rfl,split_sp 47 _ _ (Nat.le_refl _)] at h
  unfold pp
  rw [← h,List.map_map]
  conv=>lhs;rw [← List.map_id (Lib.splitB ⟨#[47]⟩ 0 (Lib.countB s ⟨#[47]⟩) s)]
  apply List.map_congr_left
  intro x _
  exact (mk_of x).symm
theorem drop_cons (s:ByteArray) (i:Nat) (h:i < s.size):∃ b:UInt8,s.data.toList.drop i = b :: s.data.toList.drop (i + 1)∧(b.toNat:Int) = bt s (i:Int)∧s.extract i (i + 1) = mk [b]:=by
  have hl:i < s.data.toList.length:=by rw [size_list];exact h
  refine ⟨s.data.toList[i],List.drop_eq_getElem_cons hl,(bt_get s i h).symm,?_⟩
  apply ext_list
  rw [Lib.extract_data,List.drop_eq_getElem_cons hl,show i + 1 - i = 1 from by omega]
  rfl
theorem byte_eq (b:UInt8) (c:Int) (h:(b.toNat:Int) = c) (n:UInt8):c = (n.toNat:Int) ↔ b = n:=by
  rw [← h]
  constructor
  · intro e
    apply UInt8.toNat_inj.1
    omega
  · intro e
    rw [e]
theorem parts_loop (s:ByteArray) (d:Nat):∀ (k i:Nat) (done:List ByteArray) (cur:List UInt8),s.size - i = d→i ≤ s.size→d < k→done.length + d < 8796093022207→cur.length + d ≤ 4611686018427387904→s.size ≤ 4611686018427387904 →
    creelref_parts.l0 k s 47 (done ++ [mk cur]) (i:Int) = some (done ++ (match sp 47 (s.data.toList.drop i) with|q :: qs=>mk (cur ++ q) :: qs.map mk|[]=>[mk cur])):=by
  induction d with
  | zero =>
    intro k i done cur hd hi hk hn hc hs
    obtain ⟨k,rfl⟩:∃ m,k = m + 1:=⟨k - 1,by omega⟩
    simp only [creelref_parts.l0]
    rw [if_neg (by omega),List.drop_eq_nil_of_le (by rw [size_list];omega)]
    simp [sp]
  | succ d ih =>
    intro k i done cur hd hi hk hn hc hs
    obtain ⟨k,rfl⟩:∃ m,k = m + 1:=⟨k - 1,by omega⟩
    have hlt:i < s.size:=by omega
    obtain ⟨b,h1,h2,h3⟩:=drop_cons s i hlt
    have hw:wrap64 ((i:Int) + 1) = ((i + 1:Nat):Int):=by rw [wrap_is (by omega) (by omega)];omega
    have hlen:(done ++ [mk cur]).length = done.length + 1:=by simp
    simp only [creelref_parts.l0]
    rw [if_pos (by omega),if_pos (show (0:Int) ≤ i by omega),h1,hw,hlen]
    simp only [sp]
    have h47:bt s (i:Int) = 47 ↔ b = 47:=byte_eq b _ h2 47
    by_cases e:b = 47
    · rw [if_pos (h47.2 e),if_pos (by omega),if_pos e]
      have:=ih k (i + 1) (done ++ [mk cur]) [] (by omega) (by omega) (by omega) (by simp only [List.length_append,List.length_singleton];omega) (by simp only [List.length_nil];omega) hs
      rw [show (⟨#[]⟩:ByteArray) = mk [] from rfl,this]
      cases hsp:sp 47 (s.data.toList.drop (i + 1)) with
      | nil=>exact absurd hsp (sp_ne _ _)
      | cons q qs=>simp
    · have hne:¬ bt s (i:Int) = 47:=fun h=>e (h47.1 h)
      have hw2:wrap64 (((done.length + 1:Nat):Int) - 1) = (done.length:Int):=by rw [wrap_is (by omega) (by omega)];omega
      have hrd:rdOf ByteArray.empty (done ++ [mk cur]) (done.length:Int) = mk cur:=by
        unfold rdOf
        rw [Int.toNat_natCast,List.getD_eq_getElem?_getD,List.getElem?_append_right (Nat.le_refl _),Nat.sub_self];rfl
      have hex:s.extract ((i:Int)).toNat (((i + 1:Nat):Int)).toNat = mk [b]:=by rw [Int.toNat_natCast,Int.toNat_natCast,h3]
      have happ:mk cur ++ mk [b] = mk (cur ++ [b]):=by apply ext_list;simp [mk]
      have hset:(done ++ [mk cur]).set done.length (mk (cur ++ [b])) = done ++ [mk (cur ++ [b])]:=by
        rw [List.set_append_right _ _ (Nat.le_refl _),Nat.sub_self];rfl
      rw [if_neg hne,hw2,hrd,hex,if_pos (by omega),if_pos (by omega),if_pos (by omega),if_pos (by omega),if_pos (by rw [mk_size,mk_size];simp only [List.length_singleton];omega),happ,Int.toNat_natCast,hset,if_neg e]
      rw [ih k (i + 1) done (cur ++ [b]) (by omega) (by omega) (by omega) (by omega) (by simp only [List.length_append,List.length_singleton];omega) hs]
      cases hsp:sp 47 (s.data.toList.drop (i + 1)) with
      | nil=>exact absurd hsp (sp_ne _ _)
      | cons q qs=>simp
theorem parts_is (s:ByteArray) (k:Nat) (hs:s.size ≤ 4294967296) (hk:s.size < k):creelref_parts.f k s 47 = some (pp s):=by
  unfold creelref_parts.f
  have:=parts_loop s s.size k 0 [] [] (by omega) (by omega) hk (by simp only [List.length_nil];omega) (by simp only [List.length_nil];omega) (by omega)
  rw [show ([(⟨#[]⟩:ByteArray)]:List ByteArray) = [] ++ [mk []] from rfl]
  rw [show ((0:Nat):Int) = 0 from rfl] at this
  rw [this]
  unfold pp
  rw [List.drop_zero]
  cases hsp:sp 47 s.data.toList with
  | nil=>exact absurd hsp (sp_ne _ _)
  | cons q qs=>simp
theorem pp_len (s:ByteArray):(pp s).length ≤ s.size + 1:=by
  unfold pp
  rw [List.length_map]
  have:=sp_len_le 47 s.data.toList
  rw [size_list] at this
  exact this
def bad (p:ByteArray):Bool:=decide (p.toList = []) || decide (p.toList = [46]) || decide (p.toList = [46,46])
def pathR (s:ByteArray):Int:=if s.size < 1 ∨ 400 < s.size then 1 else if s.data.toList.contains 0 = true then 3 else if (pp s).any bad = true then 9 else 0
theorem check_loop (l:List ByteArray) (hl:l.length ≤ 4294967297) (d:Nat):∀ (k i:Nat),l.length - i = d→i ≤ l.length→d < k →
    path_Check.l0 k l (l.length:Int) (i:Int) = some (if (l.drop i).any bad = true then 9 else 0)∧creelref_PathFault.l0 k l (l.length:Int) (i:Int) = some (if (l.drop i).any bad = true then 9 else 0):=by
  induction d with
  | zero =>
    intro k i hd hi hk
    obtain ⟨k,rfl⟩:∃ m,k = m + 1:=⟨k - 1,by omega⟩
    simp only [path_Check.l0,creelref_PathFault.l0]
    have hge:¬ (i:Int) < l.length:=by omega
    rw [if_neg hge,if_neg hge,List.drop_eq_nil_of_le (by omega)]
    simp
  | succ d ih =>
    intro k i hd hi hk
    obtain ⟨k,rfl⟩:∃ m,k = m + 1:=⟨k - 1,by omega⟩
    have hlt:i < l.length:=by omega
    have hw:wrap64 ((i:Int) + 1) = ((i + 1:Nat):Int):=by rw [wrap_is (by omega) (by omega)];omega
    have hrd:rdOf ByteArray.empty l (i:Int) = l[i]:=by
      unfold rdOf
      rw [Int.toNat_natCast,List.getD_eq_getElem?_getD,List.getElem?_eq_getElem hlt];rfl
    obtain ⟨h1,h2⟩:=ih k (i + 1) (by omega) (by omega) (by omega)
    simp only [path_Check.l0,creelref_PathFault.l0]
    rw [hw,hrd,h1,h2,List.drop_eq_getElem_cons hlt,List.any_cons]
    generalize l[i] = p
    have c1:(i:Int) < l.length:=by omega
    have c2:(0:Int) ≤ i:=by omega
    simp only [if_pos c1,if_pos c2]
    unfold bad
    by_cases e1:p.toList = []
    · simp [e1]
    · by_cases e2:p.toList = [46]
      · simp [e2]
      · by_cases e3:p.toList = [46,46]
        · simp [e3]
        · simp [e1,e2,e3]
theorem empty_size (s:ByteArray):s.toList = ([]:List UInt8) ↔ s.size = 0:=by
  rw [toList_data,← size_list]
  exact List.length_eq_zero_iff.symm
theorem path_same (s:ByteArray) (hs:s.size ≤ 140737488351232):Ev (fun k=>path_Check.f k s) (pathR s)∧Ev (fun k=>creelref_PathFault.f k s) (pathR s):=by
  obtain ⟨K,hK⟩:=has_ev s 0 (by omega) (by omega) hs
  replace hK:∀ k,K ≤ k→creelref_has.f k s 0 = some (s.data.toList.contains 0):=hK
  have hi:(Lib.indexByte s.data.toList ((0:Int).toNat.toUInt8) ≥ 0) ↔ s.data.toList.contains 0 = true:=by
    have:=index_ge s.data.toList ((0:Int).toNat.toUInt8)
    rw [← decide_eq_true_iff (p:=Lib.indexByte s.data.toList ((0:Int).toNat.toUInt8) ≥ 0),this];rfl
  by_cases c:s.size < 1 ∨ 400 < s.size
  · have e:pathR s = 1:=by unfold pathR;rw [if_pos c]
    rw [e]
    refine ⟨⟨1,fun k hk=>?_⟩,⟨1,fun k hk=>?_⟩⟩
    · obtain ⟨k,rfl⟩:∃ m,k = m + 1:=⟨k - 1,by omega⟩
      show path_Check.f (k + 1) s = _
      unfold path_Check.f
      by_cases h:(s.size:Int) < 1
      · rw [if_pos h];simp [path_Check.j0]
      · rw [if_neg h,decide_eq_true (show (s.size:Int) > 400 by omega)];simp [path_Check.j0]
    · obtain ⟨k,rfl⟩:∃ m,k = m + 1:=⟨k - 1,by omega⟩
      show creelref_PathFault.f (k + 1) s = _
      unfold creelref_PathFault.f
      by_cases h:s.toList = ([]:List UInt8)
      · rw [if_pos h];simp [creelref_PathFault.j0]
      · rw [if_neg h]
        rw [empty_size] at h
        rw [decide_eq_true (show (s.size:Int) > 400 by omega)];simp [creelref_PathFault.j0]
  · have h0:¬ s.toList = ([]:List UInt8):=by rw [empty_size];omega
    have hsp:=split_is s (by omega)
    have hpl:=pp_len s
    by_cases hz:s.data.toList.contains 0 = true
    · have e:pathR s = 3:=by unfold pathR;rw [if_neg c,if_pos hz]
      rw [e]
      refine ⟨⟨1,fun k hk=>?_⟩,⟨K + 1,fun k hk=>?_⟩⟩
      · obtain ⟨k,rfl⟩:∃ m,k = m + 1:=⟨k - 1,by omega⟩
        show path_Check.f (k + 1) s = _
        unfold path_Check.f
        rw [if_neg (show ¬ (s.size:Int) < 1 by omega),decide_eq_false (show ¬ (s.size:Int) > 400 by omega)]
        simp only [path_Check.j0,Bool.false_eq_true,if_false,strings_IndexByte.f,Option.bind_some]
        rw [if_pos (hi.2 hz)]
      · obtain ⟨k,rfl⟩:∃ m,k = m + 1:=⟨k - 1,by omega⟩
        show creelref_PathFault.f (k + 1) s = _
        unfold creelref_PathFault.f
        rw [if_neg h0,decide_eq_false (show ¬ (s.size:Int) > 400 by omega)]
        simp only [creelref_PathFault.j0,Bool.false_eq_true,if_false]
        rw [hK k (by omega)]
        simp only [Option.bind_some,hz,if_true]
    · have hz':s.data.toList.contains 0 = false:=by simpa using hz
      have e:pathR s = (if (pp s).any bad = true then 9 else 0):=by unfold pathR;rw [if_neg c,if_neg hz]
      rw [e]
      refine ⟨⟨500,fun k hk=>?_⟩,⟨K + 500,fun k hk=>?_⟩⟩
      · obtain ⟨k,rfl⟩:∃ m,k = m + 1:=⟨k - 1,by omega⟩
        obtain ⟨h1,_⟩:=check_loop (pp s) (by omega) (pp s).length k 0 (by omega) (by omega) (by omega)
        show path_Check.f (k + 1) s = _
        unfold path_Check.f
        rw [if_neg (show ¬ (s.size:Int) < 1 by omega),decide_eq_false (show ¬ (s.size:Int) > 400 by omega)]
        simp only [path_Check.j0,Bool.false_eq_true,if_false,strings_IndexByte.f,Option.bind_some]
        rw [if_neg (fun h=>hz (hi.1 h)),hsp]
        simp only [Option.bind_some]
        rw [List.drop_zero] at h1
        exact h1
      · obtain ⟨k,rfl⟩:∃ m,k = m + 1:=⟨k - 1,by omega⟩
        obtain ⟨_,h2⟩:=check_loop (pp s) (by omega) (pp s).length k 0 (by omega) (by omega) (by omega)
        show creelref_PathFault.f (k + 1) s = _
        unfold creelref_PathFault.f
        rw [if_neg h0,decide_eq_false (show ¬ (s.size:Int) > 400 by omega)]
        simp only [creelref_PathFault.j0,Bool.false_eq_true,if_false]
        rw [hK k (by omega)]
        simp only [Option.bind_some,hz',Bool.false_eq_true,if_false]
        rw [parts_is s k (by omega) (by omega)]
        simp only [Option.bind_some]
        rw [List.drop_zero] at h2
        exact h2
def joinS:List (List UInt8)→List UInt8
  | []=>[]
  | [p]=>p
  | p :: q :: r=>p ++ 47 :: joinS (q :: r)
theorem joinS_cons (p:List UInt8) {r:List (List UInt8)} (h:r ≠ []):joinS (p :: r) = p ++ 47 :: joinS r:=by
  cases r with
  | nil=>exact absurd rfl h
  | cons q r=>rfl
theorem joinS_snoc (xs:List (List UInt8)) (x:List UInt8) (h:xs ≠ []):joinS (xs ++ [x]) = joinS xs ++ 47 :: x:=by
  induction xs with
  | nil=>exact absurd rfl h
  | cons p xs ih =>
    cases xs with
    | nil=>rfl
    | cons q xs =>
      have:=ih (by simp)
      rw [List.cons_append,joinS_cons p (by simp),this,joinS_cons p (by simp)]
      simp
theorem join_sp (l:List UInt8):joinS (sp 47 l) = l:=by
  induction l with
  | nil=>rfl
  | cons b l ih =>
    simp only [sp]
    by_cases hb:b = 47
    · rw [if_pos hb,joinS_cons _ (sp_ne _ _),ih,hb];rfl
    · rw [if_neg hb]
      cases hs:sp 47 l with
      | nil=>exact absurd hs (sp_ne _ _)
      | cons p ps =>
        rw [hs] at ih
        cases ps with
        | nil=>simp [joinS] at ih ⊢;exact ih
        | cons q qs =>
          simp only [joinS_cons _ (show (q :: qs) ≠ [] by simp)] at ih ⊢
          rw [List.cons_append,ih]
theorem join_take_le (xs:List (List UInt8)):∀ i,(joinS (xs.take i)).length ≤ (joinS xs).length:=by
  induction xs with
  | nil=>intro i;simp [joinS]
  | cons p xs ih =>
    intro i
    cases i with
    | zero=>simp [joinS]
    | succ i =>
      rw [List.take_succ_cons]
      cases xs with
      | nil=>simp [joinS]
      | cons q xs =>
        cases i with
        | zero =>
          rw [List.take_zero,joinS_cons p (show (q :: xs) ≠ [] by simp)]
          simp [joinS]
        | succ i =>
          have:=ih (i + 1)
          rw [joinS_cons p (show (q :: xs).take (i + 1) ≠ [] by simp),joinS_cons p (by simp)]
          simp only [List.length_append,List.length_cons]
          omega
theorem sp_last (A B:List UInt8) (hB:(47:UInt8) ∉ B):sp 47 (A ++ 47 :: B) = sp 47 A ++ [B]:=by
  induction A with
  | nil=>simp [sp,sp_whole 47 B hB]
  | cons a A ih =>
    simp only [List.cons_append,sp]
    by_cases ha:a = 47
    · rw [if_pos ha,if_pos ha,ih];rfl
    · rw [if_neg ha,if_neg ha,ih]
      cases hs:sp 47 A with
      | nil=>exact absurd hs (sp_ne _ _)
      | cons p ps=>simp
theorem split_loop (xs:List (List UInt8)) (hx:xs ≠ []) (hn:xs.length ≤ 4294967297) (hj:(joinS xs).length ≤ 4294967296) (d:Nat):∀ (k i:Nat),xs.length - 1 - i = d→i ≤ xs.length - 1→d < k →
    creelref_PathSplit.l0 k (xs.map mk) (mk (joinS (xs.take i))) (i:Int) = some (mk (joinS (xs.take (xs.length - 1))),mk (xs.getLast hx)):=by
  have hlen:0 < xs.length:=List.length_pos_iff.2 hx
  have hrd:∀ j (h:j < xs.length),rdOf ByteArray.empty (xs.map mk) (j:Int) = mk xs[j]:=by
    intro j h
    unfold rdOf
    rw [Int.toNat_natCast,List.getD_eq_getElem?_getD,List.getElem?_map,List.getElem?_eq_getElem h];rfl
  have hw1:wrap64 ((xs.length:Int) - 1) = ((xs.length - 1:Nat):Int):=by rw [wrap_is (by omega) (by omega)];omega
  induction d with
  | zero =>
    intro k i hd hi hk
    obtain ⟨k,rfl⟩:∃ m,k = m + 1:=⟨k - 1,by omega⟩
    obtain rfl:i = xs.length - 1:=by omega
    simp only [creelref_PathSplit.l0,List.length_map]
    rw [hw1,if_neg (show ¬ ((xs.length - 1:Nat):Int) < ((xs.length - 1:Nat):Int) by omega),if_pos (show (0:Int) ≤ ((xs.length - 1:Nat):Int) by omega),if_pos (show ((xs.length - 1:Nat):Int) < (xs.length:Int) by omega),hrd (xs.length - 1) (by omega),List.getLast_eq_getElem]
  | succ d ih =>
    intro k i hd hi hk
    obtain ⟨k,rfl⟩:∃ m,k = m + 1:=⟨k - 1,by omega⟩
    have hlt:i < xs.length:=by omega
    have hw:wrap64 ((i:Int) + 1) = ((i + 1:Nat):Int):=by rw [wrap_is (by omega) (by omega)];omega
    have hnext:=ih k (i + 1) (by omega) (by omega) (by omega)
    have ht:xs.take (i + 1) = xs.take i ++ [xs[i]]:=(List.take_append_getElem hlt).symm
    have hle:=join_take_le xs (i + 1)
    simp only [creelref_PathSplit.l0,List.length_map]
    rw [hw1,if_pos (show (i:Int) < ((xs.length - 1:Nat):Int) by omega),hw,hrd i hlt]
    by_cases h0:i = 0
    · subst h0
      rw [if_neg (by omega),if_pos (by omega),if_pos (by omega)]
      have h1:xs.take (0 + 1) = [xs[0]]:=by rw [ht];rfl
      rw [h1] at hle
      have e:mk (joinS (xs.take 0)) ++ mk xs[0] = mk (joinS (xs.take (0 + 1))):=by
        rw [h1];apply ext_list;simp [mk,joinS]
      have hsz:(mk (joinS (xs.take 0))).size + (mk xs[0]).size ≤ 9223372036854775807:=by
        have hle':xs[0].length ≤ (joinS xs).length:=hle
        rw [mk_size,mk_size,List.take_zero]
        show 0 + xs[0].length ≤ _
        omega
      rw [if_pos hsz,e];exact hnext
    · have hne:xs.take i ≠ []:=by
        intro h
        have h2:=congrArg List.length h
        rw [List.length_take,List.length_nil] at h2
        omega
      have hj2:joinS (xs.take (i + 1)) = joinS (xs.take i) ++ 47 :: xs[i]:=by rw [ht,joinS_snoc _ _ hne]
      have e:(mk (joinS (xs.take i)) ++ (⟨#[47]⟩:ByteArray)) ++ mk xs[i] = mk (joinS (xs.take (i + 1))):=by
        rw [hj2];apply ext_list;simp [mk]
      rw [hj2] at hle
      simp only [List.length_append,List.length_cons] at hle
      have hs1:(mk (joinS (xs.take i)) ++ (⟨#[47]⟩:ByteArray)).size = (joinS (xs.take i)).length + 1:=by rw [ByteArray.size_append,mk_size];rfl
      rw [if_pos (by omega),if_pos (by rw [mk_size];omega),if_pos (by omega),if_pos (by omega),if_pos (by rw [hs1,mk_size];omega),e]
      exact hnext
theorem split_at (s:ByteArray) (k:Nat) (hs:s.size ≤ 1048576) (hk:s.size + 2 < k):creelref_PathSplit.f k s = some (mk (joinS ((sp 47 s.data.toList).take ((sp 47 s.data.toList).length - 1))),mk ((sp 47 s.data.toList).getLast (sp_ne _ _))):=by
  unfold creelref_PathSplit.f
  rw [parts_is s k (by omega) (by omega)]
  simp only [Option.bind_some]
  have hl:=sp_len_le 47 s.data.toList
  rw [size_list] at hl
  have:=split_loop (sp 47 s.data.toList) (sp_ne _ _) (by omega) (by rw [join_sp,size_list];omega) ((sp 47 s.data.toList).length - 1) k 0 (by omega) (by omega) (by omega)
  exact this
theorem data_get (s:ByteArray) (i:Nat) (h:i < s.size):((s.data[i]!).toNat:Int) = bt s (i:Int):=by
  rw [bt_get s i h]
  have h':i < s.data.size:=h
  rw [getElem!_pos s.data i h']
  simp
theorem last_f (s:ByteArray) (hb:s.size < 4611686018427387904) (t:Int) (e:Lib.lastIndexByte s 47 = t):strings_LastIndexByte.f s 47 = some t:=by
  unfold strings_LastIndexByte.f
  rw [if_pos hb,e]
theorem up0 (s:ByteArray) (n:Nat) (e:strings_LastIndexByte.f s 47 = some (n:Int)) (hn:n ≤ s.size):path_Up.f s = some (s.extract 0 n):=by
  unfold path_Up.f
  rw [e]
  simp only [Option.bind_some]
  rw [if_neg (show ¬ (n:Int) < 0 by omega),if_pos (Int.natCast_nonneg n),if_pos (Int.ofNat_le.2 hn),Int.toNat_natCast]
theorem up_none (s:ByteArray) (hs:s.size ≤ 1048576) (e:Lib.lastIndexByte s 47 = -1):path_Up.f s = some (⟨#[]⟩:ByteArray):=by
  have h:=last_f s (by omega) _ e
  unfold path_Up.f
  rw [h];simp
theorem up_some (s:ByteArray) (hs:s.size ≤ 1048576) (i:Nat) (hi:i < s.size) (e:Lib.lastIndexByte s 47 = (i:Int)):path_Up.f s = some (s.extract 0 i):=up0 s i (last_f s (by omega) _ e) (by omega)
theorem last_cut (s:ByteArray) (i:Nat) (hi:i < s.size) (hc:((s.data[i]!).toNat:Int) = 47) (hn:∀ j,i < j→j < s.size→((s.data[j]!).toNat:Int) ≠ 47) :
    (47:UInt8) ∉ s.data.toList.drop (i + 1)∧s.data.toList = s.data.toList.take i ++ 47 :: s.data.toList.drop (i + 1):=by
  have hl:i < s.data.toList.length:=by rw [size_list];exact hi
  have h47:(47:Int).toNat.toUInt8 = 47:=rfl
  have hb:s.data.toList[i] = 47:=by
    rw [data_get s i hi,bt_eq_iff s i hi 47 (by omega) (by omega),List.getElem?_eq_getElem hl,h47] at hc
    exact Option.some.inj hc
  refine ⟨?_,?_⟩
  · intro hm
    obtain ⟨j,hj,hje⟩:=List.mem_iff_getElem.1 hm
    rw [List.length_drop,size_list] at hj
    rw [List.getElem_drop] at hje
    apply hn (i + 1 + j) (by omega) (by omega)
    rw [data_get s _ (by omega),bt_eq_iff s _ (by omega) 47 (by omega) (by omega),List.getElem?_eq_getElem (by rw [size_list];omega),hje,h47]
  · conv=>lhs;rw [← List.take_append_drop i s.data.toList,List.drop_eq_getElem_cons hl,hb]
theorem last_none (s:ByteArray) (hn:∀ j,j < s.size→((s.data[j]!).toNat:Int) ≠ 47):(47:UInt8) ∉ s.data.toList:=by
  have h47:(47:Int).toNat.toUInt8 = 47:=rfl
  intro hm
  obtain ⟨j,hj,hje⟩:=List.mem_iff_getElem.1 hm
  have hjs:j < s.size:=by simpa using hj
  apply hn j hjs
  rw [data_get s j hjs,bt_eq_iff s j hjs 47 (by omega) (by omega),List.getElem?_eq_getElem hj,hje,h47]
theorem split_last (A B:List UInt8) (hB:(47:UInt8) ∉ B) (l:List UInt8) (hl:l = A ++ 47 :: B) (hx:sp 47 l ≠ []):joinS ((sp 47 l).take ((sp 47 l).length - 1)) = A∧(sp 47 l).getLast hx = B:=by
  have h1:sp 47 l = sp 47 A ++ [B]:=by rw [hl];exact sp_last A B hB
  refine ⟨?_,?_⟩
  · rw [h1,List.length_append,List.length_singleton,Nat.add_sub_cancel,List.take_left,join_sp]
  · have h2:(sp 47 l).getLast? = some B:=by rw [h1];simp
    rw [List.getLast?_eq_some_getLast hx] at h2
    exact Option.some.inj h2
theorem split_only (l:List UInt8) (h:(47:UInt8) ∉ l) (hx:sp 47 l ≠ []):joinS ((sp 47 l).take ((sp 47 l).length - 1)) = []∧(sp 47 l).getLast hx = l:=by
  have h1:=sp_whole 47 l h
  refine ⟨by rw [h1];rfl,?_⟩
  have h2:(sp 47 l).getLast? = some l:=by rw [h1];simp
  rw [List.getLast?_eq_some_getLast hx] at h2
  exact Option.some.inj h2
theorem up_only (s:ByteArray) (k:Nat) (hs:s.size ≤ 1048576) (hk:s.size + 2 < k):(Lib.lastIndexByte s 47 = -1∧path_Up.f s = some (⟨#[]⟩:ByteArray)∧creelref_PathSplit.f k s = some ((⟨#[]⟩:ByteArray),s)) ∨
    ∃ i,i < s.size∧Lib.lastIndexByte s 47 = (i:Int)∧path_Up.f s = some (s.extract 0 i)∧creelref_PathSplit.f k s = some (s.extract 0 i,s.extract (i + 1) s.size):=by
  have hsp:=split_at s k hs hk
  rcases Lib.lastIndexByte_spec s 47 with ⟨e,hn⟩|⟨i,hi,e,hc,hn⟩
  · obtain ⟨h3,h4⟩:=split_only _ (last_none s hn) (sp_ne 47 s.data.toList)
    refine Or.inl ⟨e,up_none s hs e,?_⟩
    rw [hsp,h3,h4,mk_of];rfl
  · obtain ⟨c1,c2⟩:=last_cut s i hi hc hn
    obtain ⟨h3,h4⟩:=split_last _ _ c1 _ c2 (sp_ne 47 s.data.toList)
    have x1:mk (s.data.toList.take i) = s.extract 0 i:=by apply ext_list;rw [mk_data,Lib.extract_data];simp
    have x2:mk (s.data.toList.drop (i + 1)) = s.extract (i + 1) s.size:=by apply ext_list;rw [mk_data,Lib.extract_to_end]
    refine Or.inr ⟨i,hi,e,up_some s hs i hi e,?_⟩
    rw [hsp,h3,h4,x1,x2]
def wrong (a b c:Int) (u g:ByteArray) (s n:Int):Int :=
  if a < 0 ∨ a > 4095 ∨ b < 0 ∨ b > 1125899906842624 ∨ c < 0 ∨ c > 1125899906842624 then 4
  else if (u.size:Int) > 60 ∨ (g.size:Int) > 60 then 1
  else if u.data.toList.contains 0 = true ∨ g.data.toList.contains 0 = true then 3
  else if s < -1099511627776 ∨ s > 1099511627776 ∨ n < 0 ∨ n > 999999999 then 4 else 0
theorem stamp_is (s n:Int):stamp_Check.f s n = some (if s < -1099511627776 ∨ s > 1099511627776 ∨ n < 0 ∨ n > 999999999 then 4 else 0):=by
  unfold stamp_Check.f
  by_cases h1:s < -1099511627776
  · simp [h1]
  · by_cases h2:s > 1099511627776
    · simp [h1,h2]
    · by_cases h3:n < 0
      · simp [h1,h2,h3]
      · by_cases h4:n > 999999999 <;> simp [h1,h2,h3,h4]
theorem time_is (s n:Int):creelref_TimeFault.f s n = some (if s < -1099511627776 ∨ s > 1099511627776 ∨ n < 0 ∨ n > 999999999 then 4 else 0):=by
  unfold creelref_TimeFault.f
  by_cases h1:s < -1099511627776
  · simp [h1]
  · by_cases h2:s > 1099511627776
    · simp [h1,h2]
    · by_cases h3:n < 0
      · simp [h1,h2,h3]
      · by_cases h4:n > 999999999
        · rw [if_neg h1,if_neg h2,if_neg h3,if_pos (by omega),if_pos (by omega)]
        · rw [if_neg h1,if_neg h2,if_neg h3,if_neg (by omega),if_neg (by omega)]
theorem check_ev (a b c:Int) (u g:ByteArray) (s n:Int):Ev (fun k=>meta_Check.f k a b c u g s n) (wrong a b c u g s n):=by
  refine ⟨10,fun k hk=>?_⟩
  obtain ⟨k,rfl⟩:∃ m,k = m + 10:=⟨k - 10,by omega⟩
  have j2:∀ (b2:Bool) (m:Nat),(b2 = false→u.size ≤ 60∧g.size ≤ 60)→meta_Check.j2 (m + 1) b2 a b c u g s n = some (if b2 = true then 1 else if u.data.toList.contains 0 = true ∨ g.data.toList.contains 0 = true then 3
      else if s < -1099511627776 ∨ s > 1099511627776 ∨ n < 0 ∨ n > 999999999 then 4 else 0):=by
    intro b2 m hb
    simp only [meta_Check.j2]
    cases b2 with
    | true=>simp
    | false =>
      obtain ⟨h1,h2⟩:=hb rfl
      simp only [Bool.false_eq_true,if_false];rw [if_pos (by omega)]
      unfold strings_IndexByte.f
      simp only [Option.bind_some]
      have e:(Lib.indexByte (u ++ g).data.toList ((0:Int).toNat.toUInt8) ≥ 0) ↔ (u.data.toList.contains 0 = true ∨ g.data.toList.contains 0 = true):=by
        have:=index_ge (u ++ g).data.toList ((0:Int).toNat.toUInt8)
        rw [← decide_eq_true_iff (p:=Lib.indexByte (u ++ g).data.toList ((0:Int).toNat.toUInt8) ≥ 0),this]
        simp
      by_cases h:u.data.toList.contains 0 = true ∨ g.data.toList.contains 0 = true
      · rw [if_pos h,if_pos (e.2 h)]
      · rw [if_neg h,if_neg (fun x=>h (e.1 x)),stamp_is];rfl
  have j1:∀ (b1:Bool) (m:Nat),meta_Check.j1 (m + 2) b1 a b c u g s n = some (if b1 = true then 4 else if (u.size:Int) > 60 ∨ (g.size:Int) > 60 then 1 else if u.data.toList.contains 0 = true ∨ g.data.toList.contains 0 = true then 3
      else if s < -1099511627776 ∨ s > 1099511627776 ∨ n < 0 ∨ n > 999999999 then 4 else 0):=by
    intro b1 m
    simp only [meta_Check.j1]
    cases b1 with
    | true=>simp
    | false =>
      simp only [Bool.false_eq_true,if_false]
      by_cases h1:(u.size:Int) > 60
      · rw [if_pos h1,j2 true m (by simp)];simp [h1]
      · rw [if_neg h1]
        by_cases h2:(g.size:Int) > 60
        · rw [decide_eq_true h2,j2 true m (by simp)];simp [h2]
        · rw [decide_eq_false h2,j2 false m (fun _=>⟨by omega,by omega⟩)];simp [h1,h2]
  show meta_Check.f (k + 10) a b c u g s n = _
  unfold meta_Check.f wrong
  by_cases h1:a < 0
  · simp [meta_Check.j0,j1,h1]
  · by_cases h2:a > 4095
    · simp [meta_Check.j0,j1,h1,h2]
    · by_cases h3:b < 0
      · simp [meta_Check.j0,j1,h1,h2,h3]
      · by_cases h4:b > 1125899906842624
        · simp [meta_Check.j0,j1,h1,h2,h3,h4]
        · by_cases h5:c < 0
          · simp [meta_Check.j0,j1,h1,h2,h3,h4,h5]
          · by_cases h6:c > 1125899906842624
            · simp [meta_Check.j0,j1,h1,h2,h3,h4,h5,h6]
            · simp [meta_Check.j0,j1,h1,h2,h3,h4,h5,h6]
theorem fault_ev (a b c:Int) (u g:ByteArray) (s n:Int) (hu:u.size ≤ 140737488351232) (hg:g.size ≤ 140737488351232):Ev (fun k=>creelref_MetaFault.f k a b c u g s n) (wrong a b c u g s n):=by
  obtain ⟨K1,e1⟩:=has_ev u 0 (by omega) (by omega) hu
  obtain ⟨K2,e2⟩:=has_ev g 0 (by omega) (by omega) hg
  replace e1:∀ k,K1 ≤ k→creelref_has.f k u 0 = some (u.data.toList.contains 0):=e1
  replace e2:∀ k,K2 ≤ k→creelref_has.f k g 0 = some (g.data.toList.contains 0):=e2
  refine ⟨max K1 K2 + 10,fun k hk=>?_⟩
  obtain ⟨k,rfl⟩:∃ m,k = m + 2:=⟨k - 2,by omega⟩
  have j1:∀ (b1:Bool),creelref_MetaFault.j1 (k + 1) b1 a b c u g s n = some (if b1 = true then 1 else if u.data.toList.contains 0 = true ∨ g.data.toList.contains 0 = true then 3
      else if s < -1099511627776 ∨ s > 1099511627776 ∨ n < 0 ∨ n > 999999999 then 4 else 0):=by
    intro b1
    simp only [creelref_MetaFault.j1]
    cases b1 with
    | true=>simp
    | false =>
      simp only [Bool.false_eq_true,if_false];rw [e1 k (by omega),e2 k (by omega)]
      simp only [Option.bind_some]
      by_cases h1:u.data.toList.contains 0 = true
      · rw [if_pos h1,if_pos (.inl h1)]
      · rw [if_neg h1]
        by_cases h2:g.data.toList.contains 0 = true
        · rw [if_pos h2,if_pos (.inr h2)]
        · rw [if_neg h2,if_neg (by rintro (h|h);exact h1 h;exact h2 h),time_is];rfl
  have j0:∀ (b1:Bool),creelref_MetaFault.j0 (k + 2) b1 a b c u g s n = some (if b1 = true then 4 else if (u.size:Int) > 60 ∨ (g.size:Int) > 60 then 1 else if u.data.toList.contains 0 = true ∨ g.data.toList.contains 0 = true then 3
      else if s < -1099511627776 ∨ s > 1099511627776 ∨ n < 0 ∨ n > 999999999 then 4 else 0):=by
    intro b1
    simp only [creelref_MetaFault.j0]
    cases b1 with
    | true=>simp
    | false =>
      simp only [Bool.false_eq_true,if_false]
      by_cases h1:(u.size:Int) > 60
      · rw [if_pos h1,j1];simp [h1]
      · rw [if_neg h1]
        by_cases h2:(g.size:Int) > 60
        · rw [decide_eq_true h2,j1];simp [h2]
        · rw [decide_eq_false h2,j1];simp [h1,h2]
  have hx:a ≥ 4096 ↔ a > 4095:=by omega
  show creelref_MetaFault.f (k + 2) a b c u g s n = _
  unfold creelref_MetaFault.f wrong
  by_cases h1:a < 0
  · simp [j0,hx,h1]
  · by_cases h2:a > 4095
    · simp [j0,hx,h1,h2]
    · by_cases h3:b < 0
      · simp [j0,hx,h1,h2,h3]
      · by_cases h4:b > 1125899906842624
        · simp [j0,hx,h1,h2,h3,h4]
        · by_cases h5:c < 0
          · simp [j0,hx,h1,h2,h3,h4,h5]
          · by_cases h6:c > 1125899906842624
            · simp [j0,hx,h1,h2,h3,h4,h5,h6]
            · simp [j0,hx,h1,h2,h3,h4,h5,h6]
theorem idx00 (t:ByteArray):(Lib.indexByte t.data.toList ((0:Int).toNat.toUInt8) ≥ 0) ↔ t.data.toList.contains 0 = true:=by
  have:=index_ge t.data.toList ((0:Int).toNat.toUInt8)
  rw [← decide_eq_true_iff (p:=Lib.indexByte t.data.toList ((0:Int).toNat.toUInt8) ≥ 0),this];rfl
def tailE (b:Bool) (kind:Int) (t:ByteArray):Int:=if b = true then 1 else if kind = 4 then pathR t else if t.data.toList.contains 0 = true then 3 else 0
def midE (x:Bool) (kind:Int) (t:ByteArray) (n:Nat):Int:=if x = true then 3 else tailE (decide ((n:Int) > 2000) || decide ((t.size:Int) > 400)) kind t
def restE (kind:Int) (t:ByteArray) (n:Nat):Int:=if kind < 1 ∨ 4 < kind then 2 else midE ((decide (kind ≠ 1) && decide (0 < n)) || ((t.toList != ([]:List UInt8)) != decide (kind ≥ 3))) kind t n
def entryR (p:ByteArray) (kind:Int) (t:ByteArray) (a b c:Int) (u g:ByteArray) (s n:Int) (d:Nat):Int :=
  if pathR p = 0 then (if wrong a b c u g s n = 0 then restE kind t d else wrong a b c u g s n) else pathR p
theorem pr_j2 (k:Nat) (x:Bool) (p:ByteArray) (kind:Int) (t:ByteArray) (a b c:Int) (u g:ByteArray) (s n:Int) (d:List Int) (h:path_Check.f k t = some (pathR t)) :
    plan_Right.j2 (k + 1) x p kind t a b c u g s n d = some (tailE x kind t):=by
  have hi:=idx00 t
  simp only [plan_Right.j2,h,strings_IndexByte.f,Option.bind_some]
  unfold tailE
  by_cases z:t.data.toList.contains 0 = true
  · rw [if_pos (hi.2 z),if_pos z]
    by_cases x0:x = true <;> by_cases k4:kind = 4 <;> simp [x0,k4]
  · rw [if_neg (fun h=>z (hi.1 h)),if_neg z]
    by_cases x0:x = true <;> by_cases k4:kind = 4 <;> simp [x0,k4]
theorem pr_j1 (k:Nat) (x:Bool) (p:ByteArray) (kind:Int) (t:ByteArray) (a b c:Int) (u g:ByteArray) (s n:Int) (d:List Int) (h:path_Check.f k t = some (pathR t)) :
    plan_Right.j1 (k + 2) x p kind t a b c u g s n d = some (midE x kind t d.length):=by
  simp only [plan_Right.j1,pr_j2 k _ p kind t a b c u g s n d h]
  unfold midE
  by_cases x0:x = true
  · rw [if_pos x0,if_pos x0]
  · rw [if_neg x0,if_neg x0]
    by_cases d0:(d.length:Int) > 2000
    · rw [if_pos d0,decide_eq_true d0];rfl
    · rw [if_neg d0,decide_eq_false d0];rfl
theorem pr_j0 (k:Nat) (x:Bool) (p:ByteArray) (kind:Int) (t:ByteArray) (a b c:Int) (u g:ByteArray) (s n:Int) (d:List Int) (h:path_Check.f k t = some (pathR t)) :
    plan_Right.j0 (k + 3) x p kind t a b c u g s n d = some (if x = true then 2 else midE ((decide (kind ≠ 1) && decide (0 < d.length)) || ((t.toList != ([]:List UInt8)) != decide (kind ≥ 3))) kind t d.length):=by
  simp only [plan_Right.j0,pr_j1 k _ p kind t a b c u g s n d h]
  by_cases x0:x = true
  · rw [if_pos x0,if_pos x0]
  · rw [if_neg x0,if_neg x0]
    by_cases k1:kind = 1
    · rw [if_pos k1,decide_eq_false (show ¬ kind ≠ 1 from fun h=>h k1)];rfl
    · rw [if_neg k1,decide_eq_true (show kind ≠ 1 from k1)]
      by_cases d0:(d.length:Int) > 0
      · rw [if_pos d0,decide_eq_true (show 0 < d.length by omega)];rfl
      · rw [if_neg d0,decide_eq_false (show ¬ 0 < d.length by omega)];rfl
theorem ef_j2 (k:Nat) (x:Bool) (p:ByteArray) (kind:Int) (t:ByteArray) (a b c:Int) (u g:ByteArray) (s n:Int) (d:List Int) (h:creelref_PathFault.f k t = some (pathR t)) (h':creelref_has.f k t 0 = some (t.data.toList.contains 0)) :
    rEF.j2 (k + 1) x p kind t a b c u g s n d = some (tailE x kind t):=by
  simp only [rEF.j2,h,h',Option.bind_some]
  unfold tailE
  generalize t.data.toList.contains 0 = z
  cases z <;> cases x <;> by_cases k4:kind = 4 <;> simp [k4]
theorem ef_j1 (k:Nat) (x:Bool) (p:ByteArray) (kind:Int) (t:ByteArray) (a b c:Int) (u g:ByteArray) (s n:Int) (d:List Int) (h:creelref_PathFault.f k t = some (pathR t)) (h':creelref_has.f k t 0 = some (t.data.toList.contains 0)) :
    rEF.j1 (k + 2) x p kind t a b c u g s n d = some (midE x kind t d.length):=by
  simp only [rEF.j1,ef_j2 k _ p kind t a b c u g s n d h h']
  unfold midE
  by_cases x0:x = true
  · rw [if_pos x0,if_pos x0]
  · rw [if_neg x0,if_neg x0]
    by_cases d0:(d.length:Int) > 2000
    · rw [if_pos d0,decide_eq_true d0];rfl
    · rw [if_neg d0,decide_eq_false d0];rfl
theorem ef_j0 (k:Nat) (x:Bool) (p:ByteArray) (kind:Int) (t:ByteArray) (a b c:Int) (u g:ByteArray) (s n:Int) (d:List Int) (h:creelref_PathFault.f k t = some (pathR t)) (h':creelref_has.f k t 0 = some (t.data.toList.contains 0)) (hk:1 ≤ kind) :
    rEF.j0 (k + 3) x p kind t a b c u g s n d = some (if x = true then 2 else midE ((decide (kind ≠ 1) && decide (0 < d.length)) || ((t.toList != ([]:List UInt8)) != decide (kind ≥ 3))) kind t d.length):=by
  simp only [rEF.j0,ef_j1 k _ p kind t a b c u g s n d h h']
  by_cases x0:x = true
  · rw [if_pos x0,if_pos x0]
  · rw [if_neg x0,if_neg x0]
    have hd:((d.length:Int) != 0) = decide (0 < d.length):=by
      by_cases d0:d.length = 0
      · rw [d0];rfl
      · rw [decide_eq_true (show 0 < d.length by omega)];simpa using fun h=>d0 (by rw [h];rfl)
    by_cases g2:kind > 2
    · rw [if_pos g2,if_pos (show kind > 1 by omega),decide_eq_true (show kind ≠ 1 by omega),decide_eq_true (show kind ≥ 3 by omega),hd]
      by_cases t0:t.toList = ([]:List UInt8)
      · rw [if_pos t0,t0]
        cases decide (0 < d.length) <;> rfl
      · rw [if_neg t0,bne_iff_ne.mpr t0]
        cases decide (0 < d.length) <;> rfl
    · rw [if_neg g2,decide_eq_false (show ¬ kind ≥ 3 by omega),hd]
      by_cases t0:t.toList = ([]:List UInt8)
      · rw [if_pos t0,t0]
        by_cases g1:kind > 1
        · rw [if_pos g1,decide_eq_true (show kind ≠ 1 by omega)]
          cases decide (0 < d.length) <;> rfl
        · rw [if_neg g1,decide_eq_false (show ¬ kind ≠ 1 by omega)]
          cases decide (0 < d.length) <;> rfl
      · rw [if_neg t0,bne_iff_ne.mpr t0]
        cases decide (kind ≠ 1) <;> cases decide (0 < d.length) <;> rfl
theorem plan_ev (p:ByteArray) (kind:Int) (t:ByteArray) (a b c:Int) (u g:ByteArray) (s n:Int) (d:List Int) (hp:p.size ≤ 140737488351232) (ht:t.size ≤ 140737488351232) :
    Ev (fun k=>plan_Right.f k p kind t a b c u g s n d) (entryR p kind t a b c u g s n d.length):=by
  obtain ⟨K1,a1⟩:=(path_same p hp).1
  replace a1:∀ k,K1 ≤ k→path_Check.f k p = some (pathR p):=a1
  obtain ⟨K2,a2⟩:=check_ev a b c u g s n
  replace a2:∀ k,K2 ≤ k→meta_Check.f k a b c u g s n = some (wrong a b c u g s n):=a2
  obtain ⟨K3,a3⟩:=(path_same t ht).1
  replace a3:∀ k,K3 ≤ k→path_Check.f k t = some (pathR t):=a3
  refine ⟨K1 + K2 + K3 + 10,fun k hk=>?_⟩
  show plan_Right.f k p kind t a b c u g s n d = _
  unfold plan_Right.f entryR
  rw [a1 k (by omega)]
  simp only [Option.bind_some]
  by_cases hP:pathR p = 0
  · rw [if_pos hP,if_pos hP,a2 k (by omega)]
    simp only [Option.bind_some]
    by_cases hM:wrong a b c u g s n = 0
    · rw [if_pos hM,if_pos hM]
      obtain ⟨k,rfl⟩:∃ m,k = m + 3:=⟨k - 3,by omega⟩
      rw [pr_j0 k _ p kind t a b c u g s n d (a3 k (by omega)),pr_j0 k _ p kind t a b c u g s n d (a3 k (by omega))]
      unfold restE
      by_cases l1:kind < 1
      · rw [if_pos l1,if_pos rfl,if_pos (Or.inl l1)]
      · rw [if_neg l1]
        by_cases g4:kind > 4
        · rw [decide_eq_true g4,if_pos rfl,if_pos (Or.inr g4)]
        · rw [decide_eq_false g4,if_neg (by simp),if_neg (by omega)]
    · rw [if_neg hM,if_neg hM]
  · rw [if_neg hP,if_neg hP]
theorem refentry_ev (p:ByteArray) (kind:Int) (t:ByteArray) (a b c:Int) (u g:ByteArray) (s n:Int) (d:List Int) (hp:p.size ≤ 140737488351232) (ht:t.size ≤ 140737488351232) (hu:u.size ≤ 140737488351232) (hg:g.size ≤ 140737488351232) :
    Ev (fun k=>rEF.f k p kind t a b c u g s n d) (entryR p kind t a b c u g s n d.length):=by
  obtain ⟨K1,a1⟩:=(path_same p hp).2
  replace a1:∀ k,K1 ≤ k→creelref_PathFault.f k p = some (pathR p):=a1
  obtain ⟨K2,a2⟩:=fault_ev a b c u g s n hu hg
  replace a2:∀ k,K2 ≤ k→creelref_MetaFault.f k a b c u g s n = some (wrong a b c u g s n):=a2
  obtain ⟨K3,a3⟩:=(path_same t ht).2
  replace a3:∀ k,K3 ≤ k→creelref_PathFault.f k t = some (pathR t):=a3
  obtain ⟨K4,a4⟩:=has_ev t 0 (by omega) (by omega) ht
  replace a4:∀ k,K4 ≤ k→creelref_has.f k t 0 = some (t.data.toList.contains 0):=a4
  refine ⟨K1 + K2 + K3 + K4 + 10,fun k hk=>?_⟩
  show rEF.f k p kind t a b c u g s n d = _
  unfold rEF.f entryR
  rw [a1 k (by omega)]
  simp only [Option.bind_some]
  by_cases hP:pathR p = 0
  · rw [if_pos hP,if_pos hP,a2 k (by omega)]
    simp only [Option.bind_some]
    by_cases hM:wrong a b c u g s n = 0
    · rw [if_pos hM,if_pos hM]
      obtain ⟨k,rfl⟩:∃ m,k = m + 3:=⟨k - 3,by omega⟩
      unfold restE
      by_cases l1:kind < 1
      · rw [if_pos l1,if_pos (Or.inl l1)]
        simp [rEF.j0]
      · rw [if_neg l1,ef_j0 k _ p kind t a b c u g s n d (a3 k (by omega)) (a4 k (by omega)) (by omega)]
        by_cases g4:kind > 4
        · rw [decide_eq_true g4,if_pos rfl,if_pos (Or.inr g4)]
        · rw [decide_eq_false g4,if_neg (by simp),if_neg (by omega)]
    · rw [if_neg hM,if_neg hM]
  · rw [if_neg hP,if_neg hP]
end Go.Proofs.YtenbelecmmpdgaaGreatDoor.Q
end
