/- Made by programs of the prover: walks of Go functions, the words that they use, and plain laws, each text in a section of its own; no condition of its own. -/
import Derived.Test.YtlfeijjilndljaaDoorZPlanGrows2
import Derived.Test.YtlfeijjilndljaaDoorZPlanGrows3
section
namespace Go.Proofs.YtlfeijjilndljaaDoor.All
open Go.RowKit Go.Proofs.YtlfeijjilndljaaDoorW.PrintWords Go.Proofs.YtlfeijjilndljaaDoorW.PrintLast Go.Proofs.YtlfeijjilndljaaDoorW.PrintMore
open Go.Proofs.YtlfeijjilndljaaDoorW.Mine
attribute [local go_sem] gtr_string leq_string geq_string
attribute [local go_sem] max2_int min2_int max_two min_two max_three min_three max_four min_four
set_option linter.unusedVariables false
set_option linter.unusedSimpArgs false
open Go.Proofs.YtlfeijjilndljaaDoorW.MapOwn
def tree_Copy.f (l0:List S56):Option (List S56):=if l0.length < 977343669134∧(l0.all fun x=>decide (x.f5.length ≤ 140737488355327)) = true then some l0 else none
theorem tree_Copy.info:(Tryd.prog.info? 5).map (fun i=>(i.zero,i.size,i.bytes)) = some (some (.int .u8 0),1,1):=by kernel_rfl
theorem tree_Copy.nilS {α:Type} {d:Kd α} {e base:Nat} {w:World} {ok:Nat→Prop} {v:Value} (h:d.R e w base ok v []):Kd.S d e w base ok v []:=by
 obtain ⟨h0,inner,hown,hr⟩:=h;exact ⟨fun _=>0,h0,inner,hown,hr.1,fun j x hx=>by simp at hx⟩
theorem tree_Copy.elemR {W w1:World} {ok:Nat→Prop} {v u:Value} {xs:List Int} {l:List S56} {base gb:Nat} {cells:Array Value} (h:(Kd.int .u8).R 5 w1 W.heap.size (fun _=>True) v xs) (ho:Kd.S k56 56 W base ok u l) (hk:W.heap[gb]? = some (.cells cells 56 (0,0))) (hb:base ≤ W.heap.size:=by first|exact below_size HB.out|assumption):(Kd.int .u8).R 5 w1 base (fun k=>((True∧some k ≠ u.ownBlock)∧k ≠ gb)∧W.heap.size ≤ k) v xs :=
 Kd.R_lower (Kd.R_mono (Kd.R_bound (Kd.R_newB (Kd.R_new' h (Kd.S_lt ho)) hk)) (fun k hk=>⟨hk.1,hk.2.1⟩)) hb
set_option maxHeartbeats 8000000 in
set_option maxRecDepth 100000 in
theorem tree_Copy.calls (A0:Option Addr) (c0:Nat) (l0:List (S56)) (r:List (S56)) (w:World) (hr0:Kd.C k56 w A0 l0.length l0) (hc0:l0.length ≤ c0) (h:tree_Copy.f l0 = some r) :
 Calls Tryd.prog 30 #[.slice A0 l0.length c0] w fun e w'=>∃ v0_:Value,e = .returned (v0_)∧Kd.S k56 56 w' w.heap.size (fun _=>True) v0_ r∧Below w.heap.size w w':=by
 have hu56:=Tryd.underlying56;have HR0:=Aside0.mk hr0;have HC0:=Aside0.mk hc0;clear hr0 hc0;unfold tree_Copy.f at h;by_cases hl:l0.length < 977343669134∧(l0.all fun x=>decide (x.f5.length ≤ 140737488355327)) = true
 ·rw [if_pos hl] at h;obtain rfl:=Option.some.inj h;have HL:=Aside0.mk hl;clear h hl;go_enter Tryd.func30,Tryd.ntmps30;go_wp2_with ((with_reducible refine gate_dst (N:=8) rfl ?_);refine Go.Proofs.YtlfeijjilndljaaDoorW.MakeCap.R_makecap k56 (w0:=w) w.heap.size 56 rfl (N:=8) rfl 23 _ _ rfl (l0.length:Int) rfl rfl Tryd.underlying23 (.agg #[.string (⟨#[]⟩:ByteArray),.int .i64 0,.int .i64 0,.string (⟨#[]⟩:ByteArray),.int .i64 0,.int .i64 0,.int .i64 0,.string (⟨#[]⟩:ByteArray),.string (⟨#[]⟩:ByteArray),.int .i64 0,.int .i64 0,.slice none 0 0]) 144 info56 (by decide) (by omega) (ok:=fun _=>True) trivial (by omega) (by have:=HL.out.1;simp only [Int.toNat_natCast];omega) (Below.refl _ _) (Nat.le_refl _) ?_;intro v8 w1 hr8 hb8 hg8 hat8;have HO:=Aside0.mk (tree_Copy.nilS hr8);have HB:=Aside0.mk hb8;clear hr8 hb8 hg8 hat8)
  go_loopg [3,11] l0.length (fun kq v3 v11 wx=>∃ (n:Nat),Aside0 (kq = l0.length - n)∧Aside0 (n ≤ l0.length)∧v11 = .int .i64 (n:Int)∧Aside0 (Kd.S k56 56 wx w.heap.size (fun _=>True) v3 (l0.take n))∧Aside0 (Below w.heap.size w wx))
  case atStart=>exact ⟨0,⟨rfl⟩,⟨Nat.zero_le _⟩,rfl,HO,HB⟩
  case round =>
   clear HO HB;obtain ⟨n,HQ,HN,rfl,HO,HB⟩:=hrel;by_cases c3:n < l0.length
   ·have c3b:decide ((n:Int) < (l0.length:Int)) = true:=decide_eq_true (by omega);obtain ⟨ad,A11,c11,e,hx,hl11,hi11⟩:=elem56 HR0.out n c3;cases e;have HXC:=Aside0.mk hx;have HXL:=Aside0.mk (of_decide_eq_true (List.all_eq_true.mp HL.out.2 _ (List.getElem_mem c3)));have htk:l0.take (n + 1) = l0.take n ++ [rd_T56 l0 (n:Int)]:=by rw [List.take_succ_eq_append_getElem c3];congr 2;unfold rd_T56;rw [Int.toNat_natCast,List.getD_eq_getElem?_getD,List.getElem?_eq_getElem c3];rfl
    have hxe:l0[n] = rd_T56 l0 (n:Int):=by unfold rd_T56;rw [Int.toNat_natCast,List.getD_eq_getElem?_getD,List.getElem?_eq_getElem c3];rfl
    rw [hxe] at HXL;have HTK:=Aside0.mk htk;clear hx hxe htk;have p3:((n:Int) < (l0.length:Int)) = True:=eq_true (by omega);have p4:(0 ≤ (n:Int)) = True:=eq_true (by omega);have HX:=Aside0.mk hi11;have HXM:=Aside0.mk hl11;have HLT:=Aside0.mk c3;have hw1:wrap64 ((n:Int) + 1) = ((n + 1:Nat):Int):=by have:=HL.out.1;unfold wrap64;omega
    clear hi11 hl11 c3;generalize hx:rd_T56 l0 (n:Int) = x at *;clear hx;go_wp2_with (first|((with_reducible refine gate_dst (N:=14) rfl ?_);refine load_event (ad:=ad.add (n * 12)) rfl rfl hu56 rfl rfl (cs:=[.string (x).f0,.int .i64 (x).f1,.int .i64 (x).f2,.string (x).f3,.int .i64 (x).f4.f0,.int .i64 (x).f4.f1,.int .i64 (x).f4.f2,.string (x).f4.f3,.string (x).f4.f4,.int .i64 (x).f4.f5,.int .i64 (x).f4.f6,.slice A11 (x).f5.length c11]) sz56 (fun j v hv=>(HB.out.cell (World.block_lt_of_cell? w _ (HXC.out j v hv))).trans (HXC.out j v hv)) ?_)|((with_reducible refine gate_dst (N:=5) rfl ?_);refine box_event ?hg (N:=5) ?hd (cs:=#[.string (⟨#[]⟩:ByteArray),.int .i64 0,.int .i64 0,.string (⟨#[]⟩:ByteArray),.int .i64 0,.int .i64 0,.int .i64 0,.string (⟨#[]⟩:ByteArray),.string (⟨#[]⟩:ByteArray),.int .i64 0,.int .i64 0,.slice none 0 0]) (t:=56) ?hr ?_;(case hd=>rfl);(case hg=>rfl);(case hr=>first|(go_simp;done)|(go_simp;rfl));intro gb hg w2 hbox hb2;have HG:=Aside0.mk (show w.heap.size ≤ gb by rw [hg];exact HB.out.size);have HO2:=Aside0.mk (Kd.S_below (Kd.S_elderB HO.out gb (Nat.le_of_eq hg.symm)) hb2);have HB2:=Aside0.mk (below_step HB.out hb2);have HK:=Aside0.mk hbox;clear hg hbox hb2 HO HB;have HO:=HO2;have HB:=HB2;clear HO2 HB2)|((with_reducible refine gate_store (t:=56) (p:=5) rfl ?_);refine put_event rfl rfl rfl rfl rfl HK.out sz56 rfl rfl ?_;intro w3 hk3 hg3;have HO3:=Aside0.mk (Kd.S_grown HO.out hg3 (fun k hk=>(fun e=>hk.2 (Option.some.inj e))));have HB3:=Aside0.mk (below_grown HB.out hg3 HG.out (blk_lt HK.out));clear HO HB HK;have HO:=HO3;have HB:=HB3;have HK:=Aside0.mk hk3;clear HO3 HB3 hk3 hg3;have hc11:=blk_cell HK.out 11;have hf11:=blkF HK.out 11)|((with_reducible refine gate_builtin (b := .append) (xs:=#[.const (.slice none 0 0),.tmp 16]) rfl ?_);at_builtin;refine Kd.R_append_row (Value.int .u8) 0 (w0:=w3) w3.heap.size rfl (.const (.slice none 0 0)) (.tmp 16) 33 5 (.int .u8 0) 1 rfl Tryd.underlying33 tree_Copy.info rfl (by decide) (.slice none 0 0) [] x.f5 A11 x.f5.length c11 (fun _=>True) rfl rfl (fun _ _=>trivial) (Kd.R_nil _ _ _ _ _) (Kd.C_below HX.out HB.out) (Below.refl _ _) (Nat.le_refl _) (by have:=HXL.out;simp only [List.length_nil];omega) ?_;intro v17 w5 ho hb hg hat;obtain ⟨A17,c17,e17⟩:=Kd.R_slice ho;simp only [List.nil_append] at ho e17;subst e17;have HY:=Aside0.mk (tree_Copy.elemR ho HO.out HK.out);have HO5:=Aside0.mk (Kd.S_old HO.out hb);have HK5:=Aside0.mk (blk_grown HK.out hg (by simp [Value.ownBlock]));have HB5:=Aside0.mk (below_step HB.out hb);clear HO HB HK ho hb hg hat hc11 hf11;have HO:=HO5;have HB:=HB5;have HK:=HK5;clear HO5 HB5 HK5;have hc11:=blk_cell HK.out 11;have hf11:=blkF HK.out 11)|((with_reducible refine gate_dst (N:=20) rfl ?_);refine load_event rfl rfl hu56 rfl rfl (cs:=[.string (x).f0,.int .i64 (x).f1,.int .i64 (x).f2,.string (x).f3,.int .i64 (x).f4.f0,.int .i64 (x).f4.f1,.int .i64 (x).f4.f2,.string (x).f4.f3,.string (x).f4.f4,.int .i64 (x).f4.f5,.int .i64 (x).f4.f6,.slice A17 (x).f5.length c17]) sz56 (cells_of_blk (blk_put (cs:=#[.string (x).f0,.int .i64 (x).f1,.int .i64 (x).f2,.string (x).f3,.int .i64 (x).f4.f0,.int .i64 (x).f4.f1,.int .i64 (x).f4.f2,.string (x).f4.f3,.string (x).f4.f4,.int .i64 (x).f4.f5,.int .i64 (x).f4.f6,.slice A11 (x).f5.length c11]) HK.out 11 _ rfl)) ?_)|((with_reducible refine gate_builtin (b := .append) (xs:=#[.tmp 19,.tmp 21]) rfl ?_);at_builtin;refine Kd.S_append k56 (w0:=w) w.heap.size rfl (.tmp 19) (.tmp 21) 23 56 (.agg #[.string (⟨#[]⟩:ByteArray),.int .i64 0,.int .i64 0,.string (⟨#[]⟩:ByteArray),.int .i64 0,.int .i64 0,.int .i64 0,.string (⟨#[]⟩:ByteArray),.string (⟨#[]⟩:ByteArray),.int .i64 0,.int .i64 0,.slice none 0 0]) 144 rfl Tryd.underlying23 info56 rfl (by decide) (by omega) u3 (l0.take n) x [.string (x).f0,.int .i64 (x).f1,.int .i64 (x).f2,.string (x).f3,.int .i64 (x).f4.f0,.int .i64 (x).f4.f1,.int .i64 (x).f4.f2,.string (x).f4.f3,.string (x).f4.f4,.int .i64 (x).f4.f5,.int .i64 (x).f4.f6,.slice A17 (x).f5.length c17] (fun k_=>True∧k_ ≠ gb) (fun k_=>((True∧some k_ ≠ u3.ownBlock)∧k_ ≠ gb)∧w3.heap.size ≤ k_) rfl (by first|(go_simp;done)|(go_simp;rfl)) (k56_mkM _ _ _ x (Kd.R_far (p:=⟨gb,11,none⟩) HY.out (fun _ hk=>hk.1.2) _)) (fun k_ hk=>⟨⟨trivial,hk.1.2⟩,hk.1.1.2⟩) (fun k_ hk=>⟨trivial,by have h1:=blk_lt HK.out;have h2:(w5.setCell ⟨gb,11,none⟩ (.slice A17 (x).f5.length c17)).heap.size = w5.heap.size:=(by simp [World.setCell]);omega⟩) (Kd.S_mono (Kd.S_far (p:=⟨gb,11,none⟩) HO.out (fun _ hk=>hk.1.2) _) (fun k_ hk=>⟨hk.1,fun h=>absurd h.2 (by have:=hk.2;omega)⟩)) (HB.out.setCell (p:=⟨gb,11,none⟩) HG.out _) (below_size (HB.out.setCell (p:=⟨gb,11,none⟩) HG.out _)) (by have:=HL.out.1;have:=HLT.out;simp only [List.length_take];omega) ?_;intro v22 w7 ho hb hg hat;have HO7:=Aside0.mk (Kd.S_mono ho (fun k_ hk=>hk.1));have HB7:=Aside0.mk hb;clear HO HB HK HY ho hb hg hat hc11 hf11;have HO:=HO7;have HB:=HB7;clear HO7 HB7))
    go_roundg (l0.length - (n + 1))
    case measure=>have:=HQ.out;have:=HLT.out;omega
    case rel=>exact ⟨n + 1,⟨rfl⟩,⟨HLT.out⟩,(by first|rfl|rw [hw1]),(by rw [HTK.out];exact HO),HB⟩
   ·have c3b:decide ((n:Int) < (l0.length:Int)) = false:=decide_eq_false (by omega);have c3n:decide (n < l0.length) = false:=decide_eq_false c3;have c3m:(n < l0.length) = False:=eq_false c3;have hn:n = l0.length:=by have:=HN.out;omega
    have HE:=Aside0.mk (show l0.take n = l0 by rw [hn,List.take_length]);clear c3 hn;obtain ⟨Ao,co,eo⟩:=Kd.S_slice HO.out;subst eo;go_wp2;go_ret
    exact ⟨_,rfl,by have h9:=HO.out;rw [HE.out] at h9 ⊢;exact h9,HB.out⟩
 ·rw [if_neg hl] at h;cases h
end Go.Proofs.YtlfeijjilndljaaDoor.All
end
section
namespace Go.Proofs.YtlfeijjilndljaaDoor.All
open Go.RowKit Go.Proofs.YtlfeijjilndljaaDoorW.PrintWords Go.Proofs.YtlfeijjilndljaaDoorW.PrintLast Go.Proofs.YtlfeijjilndljaaDoorW.PrintMore
open Go.Proofs.YtlfeijjilndljaaDoorW.Mine
attribute [local go_sem] gtr_string leq_string geq_string
attribute [local go_sem] max2_int min2_int max_two min_two max_three min_three max_four min_four
set_option linter.unusedVariables false
set_option linter.unusedSimpArgs false
open Go.Proofs.YtlfeijjilndljaaDoorW.MapOwn Go.Proofs.YtlfeijjilndljaaDoorW.SubRow
def plan_Tree.nod (x:S35):S56:=⟨x.f0,x.f1,0,x.f2,x.f3,x.f4⟩
def plan_Tree.sam (z:S56) (s:Int):S56:=⟨z.f0,z.f1,s,z.f3,z.f4,z.f5⟩
def plan_Tree.ren (z:S56) (s:Int) (p:ByteArray):S56:=⟨p,z.f1,s,z.f3,z.f4,z.f5⟩
def plan_Tree.run (l:List (S35)):Nat→Nat→List (List UInt8 × Int)→List (S56)→Option (List (S56))
 | 0,_,_,o=>some o
 | d + 1,i,m,o=>if (rd_T35 l (i:Int)).f0.size ≤ maxLen∧(rd_T35 l (i:Int)).f2.size ≤ maxLen∧o.length < 977343669134 then (if (rd_T35 l (i:Int)).f1 = 4 then (get m (rd_T35 l (i:Int)).f2.data.toList).bind fun k=>if 0 ≤ k∧k < (o.length:Int) then plan_Tree.run l d (i + 1) (((rd_T35 l (i:Int)).f0.data.toList,(i:Int)) :: m) (o.set k.toNat (plan_Tree.sam (rd_T56 o k) (k + 1)) ++ [plan_Tree.ren (rd_T56 o k) (k + 1) (rd_T35 l (i:Int)).f0]) else none else plan_Tree.run l d (i + 1) (((rd_T35 l (i:Int)).f0.data.toList,(i:Int)) :: m) (o ++ [plan_Tree.nod (rd_T35 l (i:Int))])) else none
def plan_Tree.f (k:Nat) (l0:List (S35)):Option (List (S56) × Int):=(plan_Check.f k l0).bind fun e=>if e = 0 then (plan_Tree.run l0 l0.length 0 [] []).bind fun o=>(tree_Copy.f o).bind fun r=>some (r,0) else some ([],e)
theorem plan_Tree.built (x:S35) (A:Option Addr) (n c:Nat):Tryd.prog.built 56 [(0,.string x.f0),(1,.int .i64 x.f1),(3,.string x.f2),(4,.agg #[.int .i64 x.f3.f0,.int .i64 x.f3.f1,.int .i64 x.f3.f2,.string x.f3.f3,.string x.f3.f4,.int .i64 x.f3.f5,.int .i64 x.f3.f6]),(5,.slice A n c)] = some #[.string x.f0,.int .i64 x.f1,.int .i64 0,.string x.f2,.int .i64 x.f3.f0,.int .i64 x.f3.f1,.int .i64 x.f3.f2,.string x.f3.f3,.string x.f3.f4,.int .i64 x.f3.f5,.int .i64 x.f3.f6,.slice A n c]:=by kernel_rfl
theorem plan_Tree.at_add (g m j:Nat):(⟨g,m,none⟩:Addr).add j = ⟨g,m + j,none⟩:=by
 by_cases h:j = 0
 ·subst h;rfl
 ·simp [Addr.add,h]
def plan_Tree.Rep (y:Int) (v:Value):Prop:=v = .int .i64 y
theorem plan_Tree.zeroI (w:World):(zeroValue 3).run Tryd.prog w = .ok (.int .i64 0) w:=by kernel_rfl
structure plan_Tree.St (w W:World) (gm n:Nat) (m:List (List UInt8 × Int)) (v:Value) (o:List (S56)):Prop where
 map:MapAt Lit.string Tryd.prog 9 plan_Tree.Rep W gm n m
 mle:w.heap.size ≤ gm
 row:Sub k56 56 w W v o
 below:Below w.heap.size w W
section
variable {w W W':World} {gm n g:Nat} {m m':List (List UInt8 × Int)} {v v':Value} {o o':List (S56)}
theorem plan_Tree.St.ne (h:plan_Tree.St w W gm n m v o):some gm ≠ v.ownBlock:=fun e=>by
 obtain ⟨D,⟨es,clock,hes,_⟩,_⟩:=h.map
 obtain ⟨cells,hc⟩:=h.row.typed gm e.symm
 rw [hes] at hc
 cases hc
theorem plan_Tree.St.fresh (h:plan_Tree.St w W gm n m v o) (hg:g = W.heap.size):w.heap.size ≤ g∧gm ≠ g∧some g ≠ v.ownBlock:=⟨by rw [hg];exact below_size h.below,by have:=h.map.lt;omega,fun e=>by have:=h.row.lt g e.symm;omega⟩
theorem plan_Tree.St.step (h:plan_Tree.St w W gm n m v o) (hb:Below W.heap.size W W'):plan_Tree.St w W' gm n m v o:=⟨h.map.below hb,h.mle,h.row.below hb,below_step h.below hb⟩
theorem plan_Tree.St.other (h:plan_Tree.St w W gm n m v o) (hg:W.grownBy W' (some g)) (h1:w.heap.size ≤ g) (h2:g < W.heap.size) (h3:gm ≠ g) (h4:some g ≠ v.ownBlock):plan_Tree.St w W' gm n m v o:=⟨h.map.kept hg (fun e=>h3 (Option.some.inj e)),h.mle,h.row.grown hg h4,below_grown h.below hg h1 h2⟩
theorem plan_Tree.St.met (h:plan_Tree.St w W gm n m v o) (hm:MapAt Lit.string Tryd.prog 9 plan_Tree.Rep W' gm (n + 1) m') (hg:W.grownBy W' (some gm)):plan_Tree.St w W' gm (n + 1) m' v o:=⟨hm,h.mle,h.row.grown hg h.ne,below_grown h.below hg h.mle h.map.lt⟩
theorem plan_Tree.St.app (h:plan_Tree.St w W gm n m v o) (hr:Sub k56 56 w W' v' o') (hb:Below w.heap.size w W') (hg:W.grownBy W' v.ownBlock):plan_Tree.St w W' gm n m v' o':=⟨h.map.kept hg h.ne,h.mle,hr,hb⟩
end
theorem plan_Tree.szI:(Tryd.prog.info? 3).map (·.size) = some 1:=by kernel_rfl
theorem plan_Tree.szS:(Tryd.prog.info? 9).map (·.size) = some 1:=by kernel_rfl
theorem plan_Tree.cells_at {W:World} {g o:Nat} {cs:List Value} {t:TypeId} (h:W.heap[g]? = some (.cells cs.toArray t (0,0))):∀ j v,(cs.drop o)[j]? = some v→W.cell? ((⟨g,o,none⟩:Addr).add j) = some v:=by
 intro j v hj;have:=cells_of_blk h (o + j) v (by rw [List.getElem?_drop] at hj;exact hj);rw [← this];congr 1
 by_cases h0:j = 0
 ·subst h0;by_cases h1:o = 0
  ·subst h1;rfl
  ·simp [Addr.add,h1]
 ·have:o + j ≠ 0:=by omega
  simp [Addr.add,h0,this]
theorem plan_Tree.set_event {P:Program} {ops:Array Oper} {rest:List Oper} {o:Oper} {a:Act} {Q:Exit→Act→World→Prop} {W:World} (hgd:o.guard = none) (hd:o.dst = none) {t:TypeId} {x y:Operand} (ho:o.op = .store t x y) {g j:Nat} {v:Value} {cs:Array Value} {T:TypeId} (hx:a.eval x = .pointer (some ⟨g,j,none⟩)) (hy:a.eval y = v) (hok:(match v with|.int _ _=>true|.string _=>true|.slice _ _ _=>true|.bool _=>true|_=>false) = true) (hsz:(P.info? t).map (·.size) = some 1) (hg:W.heap[g]? = some (.cells cs T (0,0))) (hj:j < cs.size) (h:∀ W',W'.heap[g]? = some (.cells (cs.setIfInBounds j v) T (0,0))→W.grownBy W' (some g)→wpList P ops Q rest a W'):wpList P ops Q (o :: rest) a W:=by
 refine wpList_plain hgd fun K hK=>?_
 obtain ⟨i0,hi0,hi1⟩:=Option.map_eq_some_iff.1 hsz;have hc:W.cell? ⟨g,j,none⟩ = some (cs[j]):=(blk_cell hg j).trans (by simp [hj]);have hrun:(Instr.storeAt t (.pointer (some ⟨g,j,none⟩)) v).run P W = .ok () (W.setCell ⟨g,j,none⟩ v):=by
  cases v <;> first|(simp [Instr.storeAt,Instr.sureAddr,storeVar,sizeOf,typeInfo,hi0,hi1,Value.cells,storeCells,go_sem,hc,blkF hg j];done)|(exfalso;revert hok;simp)
 unfold Oper.wp execOp;simp only [ho,hx,hy,Sem.run_bind,hrun,Result.andThen_ok];refine hK _ _ ?_;rw [hd];exact h _ (blk_put hg j _ rfl) (Go.Proofs.YtlfeijjilndljaaDoorW.Blks.grownBy_setCell W g j _)
theorem plan_Tree.build_event {P:Program} {ops:Array Oper} {rest:List Oper} {o:Oper} {a:Act} {Q:Exit→Act→World→Prop} {W:World} (hgd:o.guard = none) {t:TypeId} {parts:Array (Nat × Operand)} (ho:o.op = .build t parts) {cells:Array Value} (hp:P.built t (parts.map fun (i,x)=>(i,a.eval x)).toList = some cells) (h:wpList P ops Q rest (a.put o.dst (.agg cells)) W):wpList P ops Q (o :: rest) a W:=by
 refine wpList_build hgd t parts ho (by rw [hp];rfl) ?_;rw [hp];exact h
set_option maxHeartbeats 16000000 in
set_option maxRecDepth 100000 in
theorem plan_Tree.calls (k:Nat) (A0:Option Addr) (c0:Nat) (l0:List (S35)) (r1:List (S56)) (r2:Int) (w:World) (hr0:Kd.C k35 w A0 l0.length l0) (hc0:l0.length ≤ c0) (h:plan_Tree.f k l0 = some (r1,r2)) :
 Calls Tryd.prog 10 #[.slice A0 l0.length c0] w fun e w'=>∃ v0_:Value,e = .returned (.tuple #[v0_,.int .i64 r2])∧Kd.S k56 56 w' w.heap.size (fun _=>True) v0_ r1∧Below w.heap.size w w':=by
 have hu56:=Tryd.underlying56;have hu35:=Tryd.underlying35;have HR0:=Aside0.mk hr0;have HC0:=Aside0.mk hc0;have HT63:=Aside0.mk (show l0.length ≤ 9223372036854775807 from hr0.2.1);clear hr0 hc0;unfold plan_Tree.f at h;obtain ⟨e1,h1,hq⟩:=Option.bind_eq_some_iff.1 h;clear h;have h:=hq;clear hq;have H1:=Aside0.mk h1;clear h1;by_cases c1':e1 = 0
 ·subst c1';rw [if_pos rfl] at h;obtain ⟨res,h3,hq⟩:=Option.bind_eq_some_iff.1 h;clear h;have h:=hq;clear hq;obtain ⟨cp,h5,hq⟩:=Option.bind_eq_some_iff.1 h;clear h;have h:=hq;clear hq;obtain ⟨rfl,rfl⟩:=Prod.mk.inj (Option.some.inj h);have H3:=Aside0.mk h3;have H5:=Aside0.mk h5;clear h h3 h5;have hmm:=@run_makeMap Tryd.prog;go_enter Tryd.func10,Tryd.ntmps10;go_wp2_with (go_at_call 29;refine (plan_Check.calls k A0 c0 l0 0 _ HR0.out HC0.out H1.out).mono ?_;rintro e w1 ⟨rfl,hb1⟩;have HB1:=Aside0.mk hb1;clear hb1)
  go_loopg [5,19] l0.length (fun kq v5 v19 wx=>∃ (i:Nat) (m:List (List UInt8 × Int)) (o:List (S56)),v19 = .int .i64 (i:Int)∧Aside0 (kq + i = l0.length)∧Aside0 (plan_Tree.run l0 kq i m o = some res)∧Aside0 (plan_Tree.St w wx w1.heap.size i m v5 o))
  case atStart=>exact ⟨0,[],[],rfl,⟨rfl⟩,H3,⟨⟨MapAt.made _ _ _ _ _,below_size HB1.out,Sub.nil _ _ _ _,bwA HB1.out _⟩⟩⟩
  case round =>
   clear H3;obtain ⟨i,m,o,rfl,HQ,HA,HS⟩:=hrel;cases gk with
   | succ q =>
    have c3:i < l0.length:=by have:=HQ.out;omega
    have c3b:decide ((i:Int) < (l0.length:Int)) = true:=decide_eq_true (by omega);have p3:((i:Int) < (l0.length:Int)) = True:=eq_true (by omega);have p4:(0 ≤ (i:Int)) = True:=eq_true (by omega);have hiM:(i:Int) < 9223372036854775807:=by have:=HT63.out;omega
    obtain ⟨ad,Ax,cx,e,hx,hlx,hix⟩:=elem35 HR0.out i c3;cases e;have H:=HA.out;rw [plan_Tree.run] at H;clear HA;have HXC:=Aside0.mk hx;have HLX:=Aside0.mk hlx;have HIX:=Aside0.mk hix;have HLT:=Aside0.mk c3;clear hx hlx hix c3;generalize hx:rd_T35 l0 (i:Int) = x at *;clear hx;by_cases c5:x.f0.size ≤ maxLen∧x.f2.size ≤ maxLen∧o.length < 977343669134
    ·rw [if_pos c5] at H;have HZ0:=Aside0.mk c5.1;have HZ2:=Aside0.mk c5.2.1;have HOL:=Aside0.mk c5.2.2;clear c5;by_cases f1:x.f1 = 4
     ·have f1b:(x.f1 == 4) = true:=beq_iff_eq.mpr f1;rw [if_pos f1] at H;obtain ⟨kk,hk,hq⟩:=Option.bind_eq_some_iff.1 H;clear H;have H:=hq;clear hq;by_cases f2:0 ≤ kk∧kk < (o.length:Int)
      ·rw [if_pos f2] at H;obtain ⟨k1,rfl⟩:=Int.eq_ofNat_of_zero_le f2.1;rw [Int.toNat_natCast] at H;have hk1:k1 < o.length:=by omega
       have H':=Aside0.mk H;have HGET:=Aside0.mk hk;have HKL:=Aside0.mk hk1;have p5:(0 ≤ (k1:Int)) = True:=eq_true f2.1;have p6:((k1:Int) < (o.length:Int)) = True:=eq_true f2.2;have hkM:(k1:Int) < 9223372036854775807:=by have:=HOL.out;omega
       obtain ⟨A5,c5,e5⟩:=HS.out.row.slice;subst e5;obtain ⟨g,rfl⟩:=HS.out.row.head (by omega);clear H hk f1 f2;obtain ⟨z,hz⟩:∃ z,rd_T56 o (k1:Int) = z:=⟨_,rfl⟩
       rw [hz] at H';have HZO:=Aside0.mk (show o[k1]? = some z by rw [← hz];unfold rd_T56;rw [Int.toNat_natCast,List.getD_eq_getElem?_getD,List.getElem?_eq_getElem hk1];rfl);clear hz hk1;go_upto_region 11 with (first|((with_reducible refine gate_dst (N:=23) rfl ?_);refine load_event (ad:=ad.add (i * 11)) rfl rfl hu35 rfl rfl (cs:=[.string (x).f0,.int .i64 (x).f1,.string (x).f2,.int .i64 (x).f3.f0,.int .i64 (x).f3.f1,.int .i64 (x).f3.f2,.string (x).f3.f3,.string (x).f3.f4,.int .i64 (x).f3.f5,.int .i64 (x).f3.f6,.slice Ax (x).f4.length cx]) sz35 (fun j v hv=>(HS.out.below.cell (World.block_lt_of_cell? w _ (HXC.out j v hv))).trans (HXC.out j v hv)) ?_)|((with_reducible refine gate_dst (N:=8) rfl ?_);refine box_event ?hg (N:=8) ?hd (cs:=#[.string (⟨#[]⟩:ByteArray),.int .i64 0,.string (⟨#[]⟩:ByteArray),.int .i64 0,.int .i64 0,.int .i64 0,.string (⟨#[]⟩:ByteArray),.string (⟨#[]⟩:ByteArray),.int .i64 0,.int .i64 0,.slice none 0 0]) (t:=35) ?hr ?_;(case hd=>rfl);(case hg=>rfl);(case hr=>first|(go_simp;done)|(go_simp;rfl));intro gx hg w2 hbox hb2;have HS2:=Aside0.mk (HS.out.step hb2);have HGX:=Aside0.mk (HS.out.fresh hg).1;have HMX:=Aside0.mk (HS.out.fresh hg).2.1;have HVX:=Aside0.mk (HS.out.fresh hg).2.2;have HKX:=Aside0.mk hbox;clear HS;have HS:=HS2;clear HS2;clear hg hbox hb2)|((with_reducible refine gate_store (t:=35) (p:=8) rfl ?_);refine put_event rfl rfl rfl rfl rfl HKX.out sz35 rfl rfl ?_;intro w3 hk3 hg3;have HS2:=Aside0.mk (HS.out.other hg3 HGX.out (blk_lt HKX.out) HMX.out HVX.out);have HK9:=Aside0.mk hk3;clear HKX;have HKX:=HK9;clear HK9;clear HS;have HS:=HS2;clear HS2;have hc0:=blk_cell HKX.out 0;have hc1:=blk_cell HKX.out 1;have hc2:=blk_cell HKX.out 2;have hc10:=blk_cell HKX.out 10;clear hk3 hg3)|((with_reducible refine gate_dst (N:=31) rfl ?_);refine load_event rfl rfl Tryd.underlying32 rfl rfl (cs:=[.int .i64 x.f3.f0,.int .i64 x.f3.f1,.int .i64 x.f3.f2,.string x.f3.f3,.string x.f3.f4,.int .i64 x.f3.f5,.int .i64 x.f3.f6]) sz32 (fun j v hv=>plan_Tree.cells_at (o:=3) (cs:=[.string (x).f0,.int .i64 (x).f1,.string (x).f2,.int .i64 (x).f3.f0,.int .i64 (x).f3.f1,.int .i64 (x).f3.f2,.string (x).f3.f3,.string (x).f3.f4,.int .i64 (x).f3.f5,.int .i64 (x).f3.f6,.slice Ax (x).f4.length cx]) HKX.out j v (by rcases j with _|_|_|_|_|_|_|j <;> first|exact hv|(exact absurd hv (by simp)))) ?_)|((with_reducible refine gate_dst (N:=34) rfl ?_);refine plan_Tree.build_event rfl rfl (by (try simp only [List.map_toArray,List.map_cons,List.map_nil]);exact plan_Tree.built x _ _ _) ?_)|((with_reducible refine gate_dst (N:=9) rfl ?_);refine box_event ?hg (N:=9) ?hd (cs:=#[.string (⟨#[]⟩:ByteArray),.int .i64 0,.int .i64 0,.string (⟨#[]⟩:ByteArray),.int .i64 0,.int .i64 0,.int .i64 0,.string (⟨#[]⟩:ByteArray),.string (⟨#[]⟩:ByteArray),.int .i64 0,.int .i64 0,.slice none 0 0]) (t:=56) ?hr ?_;(case hd=>rfl);(case hg=>rfl);(case hr=>first|(go_simp;done)|(go_simp;rfl));intro gn hg w2 hbox hb2;have HS2:=Aside0.mk (HS.out.step hb2);have HGN:=Aside0.mk (HS.out.fresh hg).1;have HMN:=Aside0.mk (HS.out.fresh hg).2.1;have HVN:=Aside0.mk (HS.out.fresh hg).2.2;have HKN:=Aside0.mk hbox;have HNE:=Aside0.mk (show gx ≠ gn by have:=blk_lt HKX.out;omega);have HK9:=Aside0.mk (blk_below HKX.out hb2);clear HKX hc0 hc1 hc2 hc10;have HKX:=HK9;clear HK9;clear HS;have HS:=HS2;clear HS2;clear hg hbox hb2)|(((with_reducible refine gate_store (t:=56) (p:=9) rfl ?_);refine put_event rfl rfl rfl rfl rfl HKN.out sz56 rfl rfl ?_;intro w3 hk3 hg3;have HS2:=Aside0.mk (HS.out.other hg3 HGN.out (blk_lt HKN.out) HMN.out HVN.out);have HK9:=Aside0.mk (blk_grown HKX.out hg3 (fun e_=>HNE.out (Option.some.inj e_)));have HK8:=Aside0.mk hk3;clear HKX HKN;have HKX:=HK9;have HKN:=HK8;clear HK9 HK8;clear HS;have HS:=HS2;clear HS2;clear hk3 hg3);have hc1:=blk_cell HKX.out 1))
       have hc2:=blk_cell HKX.out 2;go_upto_region 12 with ((with_reducible refine gate_dst (N:=41) rfl ?_);refine wp_look_hit _ rfl _ _ 54 rfl 3 (Maps.string_keyed Tryd.underlying9) Tryd.underlying54 (plan_Tree.zeroI _) w1.heap.size i rfl HS.out.map _ rfl (Go.WideMaps.keyOf_string_mk Tryd.underlying9 HZ2.out) HGET.out ?_;rintro v hv;obtain rfl:v = .int .i64 (k1:Int):=hv)
       obtain ⟨cs0,hK0,hC0⟩:=Sub.elem HS.out.row k1 z HZO.out;obtain ⟨Az,cz,rfl,lz,gz⟩:=k56_open hK0;have HZC:=Aside0.mk hC0;have HKS:=Aside0.mk (k56_mk w (plan_Tree.sam z ((k1:Int) + 1)) lz gz);clear hK0 hC0 lz gz;go_upto_region 13 with ((with_reducible refine gate_store (t:=3) (p:=47) rfl ?_);refine Sub.store k56 rfl rfl _ _ _ rfl 56 k1 2 o (plan_Tree.sam z ((k1:Int) + 1)) (.int .i64 ((k1:Int) + 1)) [.int .i64 ((k1:Int) + 1)] [.string z.f0,.int .i64 z.f1,.int .i64 z.f2,.string z.f3,.int .i64 z.f4.f0,.int .i64 z.f4.f1,.int .i64 z.f4.f2,.string z.f4.f3,.string z.f4.f4,.int .i64 z.f4.f5,.int .i64 z.f4.f6,(.slice Az z.f5.length cz)] rfl rfl rfl rfl plan_Tree.szI (by simp [Value.oneCell']) HS.out.row HKL.out rfl HZC.out (show 3 ≤ 12 by omega) HKS.out HS.out.below ?_;intro w5 ho hb hg;have HS2:=Aside0.mk (HS.out.app ho hb hg);obtain ⟨cs9,hK9,hC9⟩:=Sub.elem ho k1 (plan_Tree.sam z ((k1:Int) + 1)) (List.getElem?_set_self HKL.out);obtain ⟨A9,c9,rfl,l9,g9⟩:=k56_open hK9;have HK9:=Aside0.mk (blk_grown HKX.out hg (fun e_=>HVX.out e_));have HK8:=Aside0.mk (blk_grown HKN.out hg (fun e_=>HVN.out e_));have HC9:=Aside0.mk hC9;have HL9:=Aside0.mk l9;have HG9:=Aside0.mk g9;clear HKX HKN HZC HKS ho hb hg hK9 hC9 l9 g9;(try clear hc2);have HKX:=HK9;have HKN:=HK8;clear HK9 HK8;clear HS;have HS:=HS2;clear HS2)
       go_upto_region 14 with (first|((with_reducible refine gate_dst (N:=51) rfl ?_);refine load_event (ad:=(⟨g,k1 * 12,none⟩:Addr)) rfl rfl hu56 rfl rfl (cs:=[.string z.f0,.int .i64 z.f1,.int .i64 ((k1:Int) + 1),.string z.f3,.int .i64 z.f4.f0,.int .i64 z.f4.f1,.int .i64 z.f4.f2,.string z.f4.f3,.string z.f4.f4,.int .i64 z.f4.f5,.int .i64 z.f4.f6,(.slice A9 z.f5.length c9)]) sz56 (fun j v hv=>(congrArg _ (plan_Tree.at_add _ _ j)).trans (HC9.out j v hv)) ?_)|((with_reducible refine gate_store (t:=56) (p:=9) rfl ?_);refine put_event rfl rfl rfl rfl rfl HKN.out sz56 rfl rfl ?_;intro w3 hk3 hg3;have HS2:=Aside0.mk (HS.out.other hg3 HGN.out (blk_lt HKN.out) HMN.out HVN.out);have HK9:=Aside0.mk (blk_grown HKX.out hg3 (fun e_=>HNE.out (Option.some.inj e_)));have HK8:=Aside0.mk hk3;clear HKX HKN;have HKX:=HK9;have HKN:=HK8;clear HK9 HK8;clear HS;have HS:=HS2;clear HS2;(try clear hc0);(try clear hc2);have hc0:=blk_cell HKX.out 0;clear hk3 hg3))
       go_upto_region 15 with ((with_reducible refine gate_store (t:=9) (p:=54) rfl ?_);refine plan_Tree.set_event rfl rfl rfl rfl rfl rfl plan_Tree.szS HKN.out (by simp) ?_;intro w5 hk3 hg3;(try clear hc0);have HS2:=Aside0.mk (HS.out.other hg3 HGN.out (blk_lt HKN.out) HMN.out HVN.out);have HK9:=Aside0.mk (blk_grown HKX.out hg3 (fun e_=>HNE.out (Option.some.inj e_)));have HK8:=Aside0.mk hk3;clear HKX HKN;have HKX:=HK9;have HKN:=HK8;clear HK9 HK8;clear HS;have HS:=HS2;clear HS2;clear hk3 hg3)
       have hc0:=blk_cell HKX.out 0;go_upto_region 16 with (at_mapUpdate;refine wp_put _ (fun a b h=>by injection h) rfl _ _ _ 54 rfl 3 (Maps.string_keyed Tryd.underlying9) Tryd.underlying54 w1.heap.size i rfl HS.out.map (by have:=HT63.out;have:=HLT.out;unfold maxLen;omega) _ _ rfl rfl (Go.WideMaps.keyOf_string_mk Tryd.underlying9 HZ0.out) (y:=(i:Int)) rfl ?_;intro w4 hm4 hg4;have HS2:=Aside0.mk (HS.out.met hm4 hg4);have HK9:=Aside0.mk (blk_grown HKX.out hg4 (fun e_=>HMX.out (Option.some.inj e_).symm));have HK8:=Aside0.mk (blk_grown HKN.out hg4 (fun e_=>HMN.out (Option.some.inj e_).symm));clear HKX HKN hm4 hg4;(try clear hc0);have HKX:=HK9;have HKN:=HK8;clear HK9 HK8;clear HS;have HS:=HS2;clear HS2)
       go_wp2_with (first|((with_reducible refine gate_dst (N:=60) rfl ?_);refine load_event rfl rfl hu56 rfl rfl (cs:=[.string x.f0,.int .i64 z.f1,.int .i64 ((k1:Int) + 1),.string z.f3,.int .i64 z.f4.f0,.int .i64 z.f4.f1,.int .i64 z.f4.f2,.string z.f4.f3,.string z.f4.f4,.int .i64 z.f4.f5,.int .i64 z.f4.f6,(.slice A9 z.f5.length c9)]) sz56 (cells_of_blk (cs:=[.string x.f0,.int .i64 z.f1,.int .i64 ((k1:Int) + 1),.string z.f3,.int .i64 z.f4.f0,.int .i64 z.f4.f1,.int .i64 z.f4.f2,.string z.f4.f3,.string z.f4.f4,.int .i64 z.f4.f5,.int .i64 z.f4.f6,(.slice A9 z.f5.length c9)]) HKN.out) ?_)|((with_reducible refine gate_builtin (b := .append) (xs:=#[.tmp 59,.tmp 61]) rfl ?_);at_builtin;refine Sub.append2 k56 rfl (.tmp 59) (.tmp 61) 23 56 (.agg #[.string (⟨#[]⟩:ByteArray),.int .i64 0,.int .i64 0,.string (⟨#[]⟩:ByteArray),.int .i64 0,.int .i64 0,.int .i64 0,.string (⟨#[]⟩:ByteArray),.string (⟨#[]⟩:ByteArray),.int .i64 0,.int .i64 0,.slice none 0 0]) 144 rfl Tryd.underlying23 info56 rfl (by decide) (by omega) _ _ (plan_Tree.ren z ((k1:Int) + 1) x.f0) [.string x.f0,.int .i64 z.f1,.int .i64 ((k1:Int) + 1),.string z.f3,.int .i64 z.f4.f0,.int .i64 z.f4.f1,.int .i64 z.f4.f2,.string z.f4.f3,.string z.f4.f4,.int .i64 z.f4.f5,.int .i64 z.f4.f6,(.slice A9 z.f5.length c9)] rfl (by first|(go_simp;done)|(go_simp;rfl)) (k56_mk w (plan_Tree.ren z ((k1:Int) + 1) x.f0) HL9.out HG9.out) HS.out.row HS.out.below (by have:=HOL.out;(try simp only [List.length_set]);omega) ?_;intro v9 w9 ho hb hg hat;have HS2:=Aside0.mk (HS.out.app ho hb hg);clear HKX HKN ho hb hg hat;clear HS;have HS:=HS2;clear HS2))
       go_roundg q
       case measure=>exact Nat.lt_succ_self _
       case rel=>exact ⟨i + 1,_,_,(by first|rfl|(unfold wrap64;omega)),⟨by have:=HQ.out;omega⟩,H',HS⟩
      ·rw [if_neg f2] at H;cases H
     ·have f1b:(x.f1 == 4) = false:=beq_eq_false_iff_ne.mpr f1;rw [if_neg f1] at H;have H':=Aside0.mk H;clear H f1;go_wp2_with (first|((with_reducible refine gate_dst (N:=23) rfl ?_);refine load_event (ad:=ad.add (i * 11)) rfl rfl hu35 rfl rfl (cs:=[.string (x).f0,.int .i64 (x).f1,.string (x).f2,.int .i64 (x).f3.f0,.int .i64 (x).f3.f1,.int .i64 (x).f3.f2,.string (x).f3.f3,.string (x).f3.f4,.int .i64 (x).f3.f5,.int .i64 (x).f3.f6,.slice Ax (x).f4.length cx]) sz35 (fun j v hv=>(HS.out.below.cell (World.block_lt_of_cell? w _ (HXC.out j v hv))).trans (HXC.out j v hv)) ?_)|((with_reducible refine gate_dst (N:=8) rfl ?_);refine box_event ?hg (N:=8) ?hd (cs:=#[.string (⟨#[]⟩:ByteArray),.int .i64 0,.string (⟨#[]⟩:ByteArray),.int .i64 0,.int .i64 0,.int .i64 0,.string (⟨#[]⟩:ByteArray),.string (⟨#[]⟩:ByteArray),.int .i64 0,.int .i64 0,.slice none 0 0]) (t:=35) ?hr ?_;(case hd=>rfl);(case hg=>rfl);(case hr=>first|(go_simp;done)|(go_simp;rfl));intro gx hg w2 hbox hb2;have HS2:=Aside0.mk (HS.out.step hb2);have HGX:=Aside0.mk (HS.out.fresh hg).1;have HMX:=Aside0.mk (HS.out.fresh hg).2.1;have HVX:=Aside0.mk (HS.out.fresh hg).2.2;have HKX:=Aside0.mk hbox;clear HS;have HS:=HS2;clear HS2;clear hg hbox hb2)|((with_reducible refine gate_store (t:=35) (p:=8) rfl ?_);refine put_event rfl rfl rfl rfl rfl HKX.out sz35 rfl rfl ?_;intro w3 hk3 hg3;have HS2:=Aside0.mk (HS.out.other hg3 HGX.out (blk_lt HKX.out) HMX.out HVX.out);have HK9:=Aside0.mk hk3;clear HKX;have HKX:=HK9;clear HK9;clear HS;have HS:=HS2;clear HS2;have hc0:=blk_cell HKX.out 0;have hc1:=blk_cell HKX.out 1;have hc2:=blk_cell HKX.out 2;have hc10:=blk_cell HKX.out 10;clear hk3 hg3)|((with_reducible refine gate_dst (N:=31) rfl ?_);refine load_event rfl rfl Tryd.underlying32 rfl rfl (cs:=[.int .i64 x.f3.f0,.int .i64 x.f3.f1,.int .i64 x.f3.f2,.string x.f3.f3,.string x.f3.f4,.int .i64 x.f3.f5,.int .i64 x.f3.f6]) sz32 (fun j v hv=>plan_Tree.cells_at (o:=3) (cs:=[.string (x).f0,.int .i64 (x).f1,.string (x).f2,.int .i64 (x).f3.f0,.int .i64 (x).f3.f1,.int .i64 (x).f3.f2,.string (x).f3.f3,.string (x).f3.f4,.int .i64 (x).f3.f5,.int .i64 (x).f3.f6,.slice Ax (x).f4.length cx]) HKX.out j v (by rcases j with _|_|_|_|_|_|_|j <;> first|exact hv|(exact absurd hv (by simp)))) ?_)|((with_reducible refine gate_dst (N:=34) rfl ?_);refine plan_Tree.build_event rfl rfl (by (try simp only [List.map_toArray,List.map_cons,List.map_nil]);exact plan_Tree.built x _ _ _) ?_)|((with_reducible refine gate_dst (N:=9) rfl ?_);refine box_event ?hg (N:=9) ?hd (cs:=#[.string (⟨#[]⟩:ByteArray),.int .i64 0,.int .i64 0,.string (⟨#[]⟩:ByteArray),.int .i64 0,.int .i64 0,.int .i64 0,.string (⟨#[]⟩:ByteArray),.string (⟨#[]⟩:ByteArray),.int .i64 0,.int .i64 0,.slice none 0 0]) (t:=56) ?hr ?_;(case hd=>rfl);(case hg=>rfl);(case hr=>first|(go_simp;done)|(go_simp;rfl));intro gn hg w2 hbox hb2;have HS2:=Aside0.mk (HS.out.step hb2);have HGN:=Aside0.mk (HS.out.fresh hg).1;have HMN:=Aside0.mk (HS.out.fresh hg).2.1;have HVN:=Aside0.mk (HS.out.fresh hg).2.2;have HKN:=Aside0.mk hbox;have HNE:=Aside0.mk (show gx ≠ gn by have:=blk_lt HKX.out;omega);have HK9:=Aside0.mk (blk_below HKX.out hb2);clear HKX hc0 hc1 hc2 hc10;have HKX:=HK9;clear HK9;clear HS;have HS:=HS2;clear HS2;clear hg hbox hb2)|(((with_reducible refine gate_store (t:=56) (p:=9) rfl ?_);refine put_event rfl rfl rfl rfl rfl HKN.out sz56 rfl rfl ?_;intro w3 hk3 hg3;have HS2:=Aside0.mk (HS.out.other hg3 HGN.out (blk_lt HKN.out) HMN.out HVN.out);have HK9:=Aside0.mk (blk_grown HKX.out hg3 (fun e_=>HNE.out (Option.some.inj e_)));have HK8:=Aside0.mk hk3;clear HKX HKN;have HKX:=HK9;have HKN:=HK8;clear HK9 HK8;clear HS;have HS:=HS2;clear HS2;clear hk3 hg3);have hc0:=blk_cell HKX.out 0;have hc1:=blk_cell HKX.out 1)|(at_mapUpdate;refine wp_put _ (fun a b h=>by injection h) rfl _ _ _ 54 rfl 3 (Maps.string_keyed Tryd.underlying9) Tryd.underlying54 w1.heap.size i rfl HS.out.map (by have:=HT63.out;have:=HLT.out;unfold maxLen;omega) _ _ rfl rfl (Go.WideMaps.keyOf_string_mk Tryd.underlying9 HZ0.out) (y:=(i:Int)) rfl ?_;intro w4 hm4 hg4;have HS2:=Aside0.mk (HS.out.met hm4 hg4);have HK9:=Aside0.mk (blk_grown HKX.out hg4 (fun e_=>HMX.out (Option.some.inj e_).symm));have HK8:=Aside0.mk (blk_grown HKN.out hg4 (fun e_=>HMN.out (Option.some.inj e_).symm));clear HKX HKN hm4 hg4;(try clear hc0);(try clear hc1);have HKX:=HK9;have HKN:=HK8;clear HK9 HK8;clear HS;have HS:=HS2;clear HS2)|((with_reducible refine gate_dst (N:=60) rfl ?_);refine load_event rfl rfl hu56 rfl rfl (cs:=[.string x.f0,.int .i64 x.f1,.int .i64 0,.string x.f2,.int .i64 x.f3.f0,.int .i64 x.f3.f1,.int .i64 x.f3.f2,.string x.f3.f3,.string x.f3.f4,.int .i64 x.f3.f5,.int .i64 x.f3.f6,(.slice Ax x.f4.length cx)]) sz56 (cells_of_blk (cs:=[.string x.f0,.int .i64 x.f1,.int .i64 0,.string x.f2,.int .i64 x.f3.f0,.int .i64 x.f3.f1,.int .i64 x.f3.f2,.string x.f3.f3,.string x.f3.f4,.int .i64 x.f3.f5,.int .i64 x.f3.f6,(.slice Ax x.f4.length cx)]) HKN.out) ?_)|((with_reducible refine gate_builtin (b := .append) (xs:=#[.tmp 59,.tmp 61]) rfl ?_);at_builtin;refine Sub.append2 k56 rfl (.tmp 59) (.tmp 61) 23 56 (.agg #[.string (⟨#[]⟩:ByteArray),.int .i64 0,.int .i64 0,.string (⟨#[]⟩:ByteArray),.int .i64 0,.int .i64 0,.int .i64 0,.string (⟨#[]⟩:ByteArray),.string (⟨#[]⟩:ByteArray),.int .i64 0,.int .i64 0,.slice none 0 0]) 144 rfl Tryd.underlying23 info56 rfl (by decide) (by omega) u5 o (plan_Tree.nod x) [.string x.f0,.int .i64 x.f1,.int .i64 0,.string x.f2,.int .i64 x.f3.f0,.int .i64 x.f3.f1,.int .i64 x.f3.f2,.string x.f3.f3,.string x.f3.f4,.int .i64 x.f3.f5,.int .i64 x.f3.f6,(.slice Ax x.f4.length cx)] rfl (by first|(go_simp;done)|(go_simp;rfl)) (k56_mk w (plan_Tree.nod x) HLX.out HIX.out) HS.out.row HS.out.below (by have:=HOL.out;(try simp only [List.length_set]);omega) ?_;intro v9 w9 ho hb hg hat;have HS2:=Aside0.mk (HS.out.app ho hb hg);clear HKX HKN ho hb hg hat;clear HS;have HS:=HS2;clear HS2))
      go_roundg q
      case measure=>exact Nat.lt_succ_self _
      case rel=>exact ⟨i + 1,_,_,(by first|rfl|(unfold wrap64;omega)),⟨by have:=HQ.out;omega⟩,H',HS⟩
    ·rw [if_neg c5] at H;cases H
   | zero =>
    have H:=HA.out;obtain rfl:=Option.some.inj H;have c3b:decide ((i:Int) < (l0.length:Int)) = false:=decide_eq_false (by have:=HQ.out;omega);have p3:((i:Int) < (l0.length:Int)) = False:=eq_false (by have:=HQ.out;omega);clear H HA;obtain ⟨Ao,co,e9,hco⟩:=HS.out.row.reads HS.out.below;subst e9;have HCo:=Aside0.mk hco;clear hco;go_wp2_with (go_at_call 30;refine (tree_Copy.calls Ao co o cp _ HCo.out.2 HCo.out.1 H5.out).mono ?_;rintro e w6 ⟨v6,rfl,hN6,hb6⟩;have HN6:=Aside0.mk (Kd.S_lower hN6 (below_size HS.out.below));have HB6:=Aside0.mk (below_step HS.out.below hb6);clear hN6 hb6)
    go_ret2
    exact ⟨_,rfl,HN6.out,HB6.out⟩
 ·rw [if_neg c1'] at h;obtain ⟨rfl,rfl⟩:=Prod.mk.inj (Option.some.inj h);have c1b:(e1 != 0) = true:=bne_iff_ne.mpr c1';clear c1' h;go_enter Tryd.func10,Tryd.ntmps10;go_wp2_with (go_at_call 29;refine (plan_Check.calls k A0 c0 l0 e1 _ HR0.out HC0.out H1.out).mono ?_;rintro e w1 ⟨rfl,hb1⟩;have HB1:=Aside0.mk hb1;clear hb1)
  go_ret2
  exact ⟨_,rfl,Kd.S_nil _ _ _ _ _,HB1.out⟩
end Go.Proofs.YtlfeijjilndljaaDoor.All
end
section
namespace Go.Proofs.YtlfeijjilndljaaDoor.All
open Go.RowKit Go.Proofs.YtlfeijjilndljaaDoorW.PrintWords Go.Proofs.YtlfeijjilndljaaDoorW.PrintLast Go.Proofs.YtlfeijjilndljaaDoorW.PrintMore
open Go.Proofs.YtlfeijjilndljaaDoorW.Mine
attribute [local go_sem] gtr_string leq_string geq_string
attribute [local go_sem] max2_int min2_int max_two min_two max_three min_three max_four min_four
set_option linter.unusedVariables false
set_option linter.unusedSimpArgs false
def creelref_EntryAt.l0:Nat→List (S35)→ByteArray→Int→Option (Int)
 | 0,_,_,_=>none
 | k + 1,x0,x1,x5=>if x5 < (x0.length:Int) then (if 0 ≤ x5 then (if ((rd_T35 x0 x5).f0).toList = x1.toList then (some x5) else (creelref_EntryAt.l0 k x0 x1 (wrap64 (x5 + 1)))) else (none)) else (some x5)
def creelref_EntryAt.f (k:Nat) (l0:List (S35)) (a1:ByteArray):Option (Int):=creelref_EntryAt.l0 k l0 a1 0
set_option maxHeartbeats 8000000 in
set_option maxRecDepth 100000 in
theorem creelref_EntryAt.calls (k:Nat) (A0:Option Addr) (c0:Nat) (l0:List (S35)) (a1:ByteArray) (r:Int) (w:World) (hr0:Kd.C k35 w A0 l0.length l0) (hc0:l0.length ≤ c0) (h:creelref_EntryAt.f k l0 a1 = some r) :
 Calls Tryd.prog 32 #[.slice A0 l0.length c0,.string a1] w fun e w'=>e = .returned (.int .i64 r)∧Drawn0 w w':=by
 have HR0:=Aside0.mk hr0;have HC0:=Aside0.mk hc0;clear hr0 hc0;have H:(creelref_EntryAt.l0 k l0 a1 0) = some r:=h;clear h;have H':=Aside0.mk H;clear H;go_enter Tryd.func32,Tryd.ntmps32;go_wp2;go_loopg [5] k (fun kq v5 w'=>∃ (x5_1:Int),v5 = .int .i64 x5_1∧Aside0 (creelref_EntryAt.l0 kq l0 a1 x5_1 = some r)∧Aside0 (kq ≤ k)∧Drawn0 w w')
 case atStart=>exact ⟨(0),(by first|rfl|(simp;done)|(simp [*];done)),H',⟨Nat.le_refl _⟩,by repeat (first|exact Drawn0.refl _|apply Drawn0.step)⟩
 case round =>
  clear H';obtain ⟨x5_1,rfl,HA,HK1,⟨m1,rfl⟩⟩:=hrel;cases gk with
  | zero=>exact absurd HA.out (by simp [creelref_EntryAt.l0])
  | succ k1 =>
   have H:=HA.out;clear HA;simp only [creelref_EntryAt.l0] at H;by_cases c3:x5_1 < (l0.length:Int)
   ·rw [if_pos c3] at H;have c3b0:decide (x5_1 < (l0.length:Int)) = true:=decide_eq_true c3;clear c3;by_cases c4:0 ≤ x5_1
    ·rw [if_pos c4] at H;have c4b0:decide (0 ≤ x5_1) = true:=decide_eq_true c4;clear c4;by_cases c5:((rd_T35 l0 x5_1).f0).toList = a1.toList
     ·rw [if_pos c5] at H;have c5b0:(((rd_T35 l0 x5_1).f0).toList == a1.toList) = true:=beq_iff_eq.mpr c5;have c5b1:(((rd_T35 l0 x5_1).f0).toList != a1.toList) = false:=bne_eq_false_iff_eq.mpr c5;clear c5;obtain rfl:=Option.some.inj H;have p101:0 ≤ (x5_1:Int):=of_decide_eq_true (by first|(with_reducible assumption)|assumption);have q101:x5_1 < (l0.length:Int):=of_decide_eq_true (by first|(with_reducible assumption)|assumption);obtain ⟨ad101,A101_10,c101_10,e101,hx101_0,hx101_1,hx101_2,hx101_3,hx101_4,hx101_5,hx101_6,hx101_7,hx101_8,hx101_9,hx101_10,hl101_10,hi101_10⟩:=at_T35 HR0.out x5_1 p101 q101;cases e101;have HR101_10:=Aside0.mk hi101_10;have HC101_10:=Aside0.mk hl101_10;clear hi101_10 hl101_10;replace p101:=eq_true p101;replace q101:=eq_true q101;go_wp2;go_ret
      exact ⟨by first|rfl|(simp;done)|(simp [*];done),by repeat (first|exact Drawn0.refl _|apply Drawn0.step)⟩
     ·rw [if_neg c5] at H;have c5b0:(((rd_T35 l0 x5_1).f0).toList == a1.toList) = false:=beq_eq_false_iff_ne.mpr c5;have c5b1:(((rd_T35 l0 x5_1).f0).toList != a1.toList) = true:=bne_iff_ne.mpr c5;have H':=Aside0.mk H;clear H;have p101:0 ≤ (x5_1:Int):=of_decide_eq_true (by first|(with_reducible assumption)|assumption);have q101:x5_1 < (l0.length:Int):=of_decide_eq_true (by first|(with_reducible assumption)|assumption);obtain ⟨ad101,A101_10,c101_10,e101,hx101_0,hx101_1,hx101_2,hx101_3,hx101_4,hx101_5,hx101_6,hx101_7,hx101_8,hx101_9,hx101_10,hl101_10,hi101_10⟩:=at_T35 HR0.out x5_1 p101 q101;cases e101;have HR101_10:=Aside0.mk hi101_10;have HC101_10:=Aside0.mk hl101_10;clear hi101_10 hl101_10;replace p101:=eq_true p101;replace q101:=eq_true q101;go_wp2;go_roundg k1
      case measure=>have:=HK1.out;omega
      case rel=>exact ⟨(wrap64 (x5_1 + 1)),(by first|rfl|(simp;done)|(simp [*];done)),H',⟨by have:=HK1.out;omega⟩,by repeat (first|exact Drawn0.refl _|apply Drawn0.step)⟩
    ·rw [if_neg c4] at H;exact absurd H (by simp)
   ·rw [if_neg c3] at H;have c3b0:decide (x5_1 < (l0.length:Int)) = false:=decide_eq_false c3;clear c3;obtain rfl:=Option.some.inj H;go_wp2;go_ret
    exact ⟨by first|rfl|(simp;done)|(simp [*];done),by repeat (first|exact Drawn0.refl _|apply Drawn0.step)⟩
def creelref_has.l0:Nat→ByteArray→Int→Int→Option (Bool)
 | 0,_,_,_=>none
 | k + 1,x0,x1,x5=>if x5 < (x0.size:Int) then (if 0 ≤ x5 then (if (bt x0 x5) = x1 then (some true) else (creelref_has.l0 k x0 x1 (wrap64 (x5 + 1)))) else (none)) else (some false)
def creelref_has.f (k:Nat) (a0:ByteArray) (a1:Int):Option (Bool):=creelref_has.l0 k a0 a1 0
set_option maxHeartbeats 8000000 in
set_option maxRecDepth 100000 in
theorem creelref_has.calls (k:Nat) (a0:ByteArray) (a1:Int) (r:Bool) (w:World) (h:creelref_has.f k a0 a1 = some r) :
 Calls Tryd.prog 85 #[.string a0,.int .u8 a1] w fun e w'=>e = .returned (.bool r)∧Drawn0 w w':=by
 have H:(creelref_has.l0 k a0 a1 0) = some r:=h;clear h;have H':=Aside0.mk H;clear H;go_enter Tryd.func85,Tryd.ntmps85;go_wp2;go_loopg [5] k (fun kq v5 w'=>∃ (x5_1:Int),v5 = .int .i64 x5_1∧Aside0 (creelref_has.l0 kq a0 a1 x5_1 = some r)∧Aside0 (kq ≤ k)∧Drawn0 w w')
 case atStart=>exact ⟨(0),(by first|rfl|(simp;done)|(simp [*];done)),H',⟨Nat.le_refl _⟩,by repeat (first|exact Drawn0.refl _|apply Drawn0.step)⟩
 case round =>
  clear H';obtain ⟨x5_1,rfl,HA,HK1,⟨m1,rfl⟩⟩:=hrel;cases gk with
  | zero=>exact absurd HA.out (by simp [creelref_has.l0])
  | succ k1 =>
   have H:=HA.out;clear HA;simp only [creelref_has.l0] at H;by_cases c3:x5_1 < (a0.size:Int)
   ·rw [if_pos c3] at H;have c3b0:decide (x5_1 < (a0.size:Int)) = true:=decide_eq_true c3;clear c3;by_cases c4:0 ≤ x5_1
    ·rw [if_pos c4] at H;have c4b0:decide (0 ≤ x5_1) = true:=decide_eq_true c4;clear c4;by_cases c6:(bt a0 x5_1) = a1
     ·rw [if_pos c6] at H;have c6b0:((bt a0 x5_1) == a1) = true:=beq_iff_eq.mpr c6;have c6b1:((bt a0 x5_1) != a1) = false:=bne_eq_false_iff_eq.mpr c6;clear c6;obtain rfl:=Option.some.inj H;have p5:0 ≤ (x5_1:Int):=of_decide_eq_true (by first|(with_reducible assumption)|assumption);have q5:x5_1 < (a0.size:Int):=of_decide_eq_true (by first|(with_reducible assumption)|assumption);have hx5:=bt_at a0 x5_1;replace p5:=eq_true p5;replace q5:=eq_true q5;go_wp2;go_ret
      exact ⟨by first|rfl|(simp;done)|(simp [*];done),by repeat (first|exact Drawn0.refl _|apply Drawn0.step)⟩
     ·rw [if_neg c6] at H;have c6b0:((bt a0 x5_1) == a1) = false:=beq_eq_false_iff_ne.mpr c6;have c6b1:((bt a0 x5_1) != a1) = true:=bne_iff_ne.mpr c6;have H':=Aside0.mk H;clear H;have p5:0 ≤ (x5_1:Int):=of_decide_eq_true (by first|(with_reducible assumption)|assumption);have q5:x5_1 < (a0.size:Int):=of_decide_eq_true (by first|(with_reducible assumption)|assumption);have hx5:=bt_at a0 x5_1;replace p5:=eq_true p5;replace q5:=eq_true q5;go_wp2;go_roundg k1
      case measure=>have:=HK1.out;omega
      case rel=>exact ⟨(wrap64 (x5_1 + 1)),(by first|rfl|(simp;done)|(simp [*];done)),H',⟨by have:=HK1.out;omega⟩,by repeat (first|exact Drawn0.refl _|apply Drawn0.step)⟩
    ·rw [if_neg c4] at H;exact absurd H (by simp)
   ·rw [if_neg c3] at H;have c3b0:decide (x5_1 < (a0.size:Int)) = false:=decide_eq_false c3;clear c3;obtain rfl:=Option.some.inj H;go_wp2;go_ret
    exact ⟨by first|rfl|(simp;done)|(simp [*];done),by repeat (first|exact Drawn0.refl _|apply Drawn0.step)⟩
def creelref_parts.l0:Nat→ByteArray→Int→List ByteArray→Int→Option (List ByteArray)
 | 0,_,_,_,_=>none
 | k + 1,x0,x1,x5,x6=>if x6 < (x0.size:Int) then (if 0 ≤ x6 then (if (bt x0 x6) = x1 then (if x5.length < 8796093022208 then (creelref_parts.l0 k x0 x1 (x5 ++ [(⟨#[]⟩:ByteArray)]) (wrap64 (x6 + 1))) else (none)) else (if 0 ≤ (wrap64 ((x5.length:Int) - 1)) then (if (wrap64 ((x5.length:Int) - 1)) < (x5.length:Int) then (if x6 ≤ (wrap64 (x6 + 1)) then (if (wrap64 (x6 + 1)) ≤ (x0.size:Int) then (if (rdOf ByteArray.empty x5 (wrap64 ((x5.length:Int) - 1))).size + (x0.extract (x6:Int).toNat ((wrap64 (x6 + 1)):Int).toNat).size ≤ 9223372036854775807 then (creelref_parts.l0 k x0 x1 (x5.set ((wrap64 ((x5.length:Int) - 1)):Int).toNat ((rdOf ByteArray.empty x5 (wrap64 ((x5.length:Int) - 1))) ++ (x0.extract (x6:Int).toNat ((wrap64 (x6 + 1)):Int).toNat))) (wrap64 (x6 + 1))) else (none)) else (none)) else (none)) else (none)) else (none))) else (none)) else (some x5)
def creelref_parts.f (k:Nat) (a0:ByteArray) (a1:Int):Option (List ByteArray):=creelref_parts.l0 k a0 a1 (([(⟨#[]⟩:ByteArray)]:List ByteArray)) 0
def creelref_parts.T7:Bool × List (List Nat × List Nat):=(true,[([],[]),([],[]),([1],[1]),([2],[2]),([0,3],[0,3]),([4],[4]),([],[]),([],[]),([],[]),([8],[8]),([6,7,9],[6,7,9]),([5,10],[5,10]),([0,3,0,1,2,3,4,5,6,7,8,9,10,11],[0,3]),([12,11,0,1,2,3,4,5,6,7,8,9,10,11],[11,12])])
def creelref_parts.B7:List Nat:=[0,0,2,6,15,31,0,0,0,256,960,2047,4095,8191]
theorem creelref_parts.tab7:rtab .any (opsOf Tryd.f97 7) = creelref_parts.T7:=by kernel_rfl
theorem creelref_parts.bits7:waitsOk creelref_parts.T7.2 creelref_parts.B7 = true:=by kernel_rfl
set_option maxHeartbeats 8000000 in
set_option maxRecDepth 100000 in
theorem creelref_parts.calls (k:Nat) (a0:ByteArray) (a1:Int) (r:List ByteArray) (w:World) (h:creelref_parts.f k a0 a1 = some r) :
 Calls Tryd.prog 97 #[.string a0,.int .u8 a1] w fun e w'=>∃ v0_:Value,e = .returned (v0_)∧Kd.R Kd.string 9 w' w.heap.size (fun _=>True) v0_ r∧Below w.heap.size w w':=by
 have HB:=Aside0.mk (Below.refl w.heap.size w);have H:(creelref_parts.l0 k a0 a1 (([(⟨#[]⟩:ByteArray)]:List ByteArray)) 0) = some r:=h;clear h;obtain ⟨y101,hy101⟩:∃ y_:List ByteArray,y_ = (([(⟨#[]⟩:ByteArray)]:List ByteArray)):=⟨_,rfl⟩
 replace H:(creelref_parts.l0 k a0 a1 y101 0) = some r:=by first|(rw [hy101];with_reducible exact H)|(have H2_:=(Option.bind_some _ _).symm.trans H;rw [hy101];with_reducible exact H2_)|(have H2_:=(Option.bind_some _ _).symm.trans H;with_reducible exact H2_)|with_reducible exact H|(rw [hy101];exact H)|exact H
 have Ny101:=Aside0.mk hy101;clear hy101;have H':=Aside0.mk H;clear H;go_enter Tryd.func97,Tryd.ntmps97;go_wp2_with (first|((with_reducible refine gate_dst (N:=7) rfl ?_);refine Kd.R_lit Kd.string _ 9 ?hg (N:=7) ?hd (xs:=([(⟨#[]⟩:ByteArray)]:List ByteArray)) (inner:=[.string (⟨#[]⟩:ByteArray)]) (ok:=fun _=>True) (okp:=fun _=>True) ?hr ?hp (fun _ hk=>hk) trivial (Below.refl _ _) (Nat.le_refl _) (by simp) ?_;(case hd=>rfl);(case hg=>rfl);(case hr=>first|(go_simp;done)|(go_simp;rfl));(case hp=>exact (Reps.one (show Kd.M Kd.string _ _ _ (⟨#[]⟩:ByteArray) [.string (⟨#[]⟩:ByteArray)] from rfl) (Reps.none _ _)));intro v102 w3 ho4 hb hg_ hnew_;clear hg_ hnew_;(first|rw [← Ny101.out] at ho4|(simp only [Int.reduceToNat] at ho4;rw [← Ny101.out] at ho4));have n0_:=Aside0.mk (Kd.R_lower ho4 (below_size (by repeat (first|(with_reducible first|exact HB.out|apply bwA|apply pwbN|apply bw1)|exact HB.out))));have n1_:=Aside0.mk (below_step (by repeat (first|(with_reducible first|exact HB.out|apply bwA|apply pwbN|apply bw1)|exact HB.out)) hb);clear HB;have HO103:=n0_;have HB:=n1_;clear n0_ n1_;clear hb ho4))
 go_loopg [5,6] k (fun kq v5 v6 w'=>∃ (x5_1:List ByteArray) (x6_1:Int),v6 = .int .i64 x6_1∧Aside0 (creelref_parts.l0 kq a0 a1 x5_1 x6_1 = some r)∧Aside0 (kq ≤ k)∧Aside0 (Kd.R Kd.string 9 w' w.heap.size (fun _=>True) v5 x5_1)∧Aside0 (Below w.heap.size w w'))
 case atStart=>exact ⟨(y101),(0),(by first|rfl|(simp;done)|(simp [*];done)),H',⟨Nat.le_refl _⟩,⟨by (with_reducible repeat (first|apply Kd.R_alloc|apply Kd.R_drewN|apply Kd.R_drew));exact HO103.out⟩,⟨by repeat (first|(with_reducible first|exact HB.out|apply bwA|apply pwbN|apply bw1)|exact HB.out)⟩⟩
 case round =>
  clear H';obtain ⟨x5_1,x6_1,rfl,HA,HK1,HO_5,HB⟩:=hrel;cases gk with
  | zero=>exact absurd HA.out (by simp [creelref_parts.l0])
  | succ k1 =>
   have H:=HA.out;clear HA;simp only [creelref_parts.l0] at H;by_cases c5:x6_1 < (a0.size:Int)
   ·rw [if_pos c5] at H;have c5b0:decide (x6_1 < (a0.size:Int)) = true:=decide_eq_true c5;clear c5;by_cases c6:0 ≤ x6_1
    ·rw [if_pos c6] at H;have c6b0:decide (0 ≤ x6_1) = true:=decide_eq_true c6;clear c6;by_cases c8:(bt a0 x6_1) = a1
     ·rw [if_pos c8] at H;have c8b0:((bt a0 x6_1) == a1) = true:=beq_iff_eq.mpr c8;have c8b1:((bt a0 x6_1) != a1) = false:=bne_eq_false_iff_eq.mpr c8;clear c8;by_cases c9:x5_1.length < 8796093022208
      ·rw [if_pos c9] at H;have LMc9:=Aside0.mk c9;clear c9;obtain ⟨y104,hy104⟩:∃ y_:List ByteArray,y_ = (x5_1 ++ [(⟨#[]⟩:ByteArray)]):=⟨_,rfl⟩
       replace H:(creelref_parts.l0 k1 a0 a1 y104 (wrap64 (x6_1 + 1))) = some r:=by first|(rw [hy104];with_reducible exact H)|(have H2_:=(Option.bind_some _ _).symm.trans H;rw [hy104];with_reducible exact H2_)|(have H2_:=(Option.bind_some _ _).symm.trans H;with_reducible exact H2_)|with_reducible exact H|(rw [hy104];exact H)|exact H
       have Ny104:=Aside0.mk hy104;clear hy104;have H':=Aside0.mk H;clear H;have p7:0 ≤ (x6_1:Int):=of_decide_eq_true (by first|(with_reducible assumption)|assumption);have q7:x6_1 < (a0.size:Int):=of_decide_eq_true (by first|(with_reducible assumption)|assumption);have hx7:=bt_at a0 x6_1;replace p7:=eq_true p7;replace q7:=eq_true q7;go_wp2_with (first|((with_reducible refine gate_builtin (b := .append) (xs:=#[.tmp 19,.tmp 20]) rfl ?_);at_builtin;refine Kd.R_append Kd.string (w0:=w) w.heap.size rfl (.tmp 19) (.tmp 20) 38 9 (.string ⟨#[]⟩) 16 rfl Tryd.underlying38 info9 rfl (by decide) (by omega) u5 x5_1 (⟨#[]⟩:ByteArray) [.string (⟨#[]⟩:ByteArray)] (fun _=>True) (fun _=>False) rfl rfl ?aP (fun _ hk=>hk.elim) ?aF ?aO ?aB ?aS ?aL ?_;(case aP=>exact rfl);(case aB=>exact (by repeat (first|(with_reducible first|exact HB.out|apply bwA|apply pwbN|apply bw1)|exact HB.out)));(case aF=>exact (fun _ _=>trivial));(case aO=>exact (by (with_reducible repeat (first|apply Kd.R_alloc|apply Kd.R_drewN|apply Kd.R_drew));exact HO_5.out));(case aS=>exact (below_size (by repeat (first|(with_reducible first|exact HB.out|apply bwA|apply pwbN|apply bw1)|exact HB.out))));(case aL=>have:=LMc9.out;omega);intro v105 w10 ho hb hg hat;rw [← Ny104.out] at ho;have n0_:=Aside0.mk (hb);have n1_:=Aside0.mk (ho);clear HB;clear HO_5;have HB:=n0_;have HO106:=n1_;clear n0_ n1_;clear ho hb hg hat))
       go_roundg k1
       case measure=>have:=HK1.out;omega
       case rel=>exact ⟨(y104),(wrap64 (x6_1 + 1)),(by first|rfl|(simp;done)|(simp [*];done)),H',⟨by have:=HK1.out;omega⟩,⟨by (with_reducible repeat (first|apply Kd.R_alloc|apply Kd.R_drewN|apply Kd.R_drew));exact HO106.out⟩,⟨by repeat (first|(with_reducible first|exact HB.out|apply bwA|apply pwbN|apply bw1)|exact HB.out)⟩⟩
      ·rw [if_neg c9] at H;exact absurd H (by simp)
     ·rw [if_neg c8] at H;have c8b0:((bt a0 x6_1) == a1) = false:=beq_eq_false_iff_ne.mpr c8;have c8b1:((bt a0 x6_1) != a1) = true:=bne_iff_ne.mpr c8;obtain ⟨ji11,hji11⟩:∃ j_:Int,(wrap64 ((x5_1.length:Int) - 1)) = j_:=⟨_,rfl⟩
      replace H:(if 0 ≤ (ji11) then (if (ji11) < (x5_1.length:Int) then (if x6_1 ≤ (wrap64 (x6_1 + 1)) then (if (wrap64 (x6_1 + 1)) ≤ (a0.size:Int) then (if (rdOf ByteArray.empty x5_1 (ji11)).size + (a0.extract (x6_1:Int).toNat ((wrap64 (x6_1 + 1)):Int).toNat).size ≤ 9223372036854775807 then (creelref_parts.l0 k1 a0 a1 (x5_1.set ((ji11):Int).toNat ((rdOf ByteArray.empty x5_1 (ji11)) ++ (a0.extract (x6_1:Int).toNat ((wrap64 (x6_1 + 1)):Int).toNat))) (wrap64 (x6_1 + 1))) else (none)) else (none)) else (none)) else (none)) else (none)) = some r:=by first|(rw [hji11] at H;exact H)|(simp only [hji11] at H ⊢;exact H)
      have hji11w:(IntKind.i64.wrap ((x5_1.length:Int) - 1)) = ji11:=(i64_w _).trans hji11;by_cases c12:0 ≤ (ji11)
      ·rw [if_pos c12] at H;have c12b0:decide (0 ≤ (ji11)) = true:=decide_eq_true c12;clear c12;by_cases c13:(ji11) < (x5_1.length:Int)
       ·rw [if_pos c13] at H;have c13b0:decide ((ji11) < (x5_1.length:Int)) = true:=decide_eq_true c13;clear c13;have c14b0:=eq_true (of_decide_eq_true (by first|(with_reducible assumption)|assumption):0 ≤ x6_1);by_cases c15:x6_1 ≤ (wrap64 (x6_1 + 1))
        ·rw [if_pos c15] at H;have c15b0:=eq_true c15;have c15b1:decide (x6_1 ≤ (wrap64 (x6_1 + 1))) = true:=decide_eq_true c15;by_cases c16:(wrap64 (x6_1 + 1)) ≤ (a0.size:Int)
         ·rw [if_pos c16] at H;have c16b0:=eq_true c16;have c16b1:decide ((wrap64 (x6_1 + 1)) ≤ (a0.size:Int)) = true:=decide_eq_true c16;by_cases c17:(rdOf ByteArray.empty x5_1 (ji11)).size + (a0.extract (x6_1:Int).toNat ((wrap64 (x6_1 + 1)):Int).toNat).size ≤ 9223372036854775807
          ·rw [if_pos c17] at H;have c17b0:=eq_true c17;have c17b1:decide ((rdOf ByteArray.empty x5_1 (ji11)).size + (a0.extract (x6_1:Int).toNat ((wrap64 (x6_1 + 1)):Int).toNat).size ≤ 9223372036854775807) = true:=decide_eq_true c17;try have c17b2:(9223372036854775807 < (rdOf ByteArray.empty x5_1 (ji11)).size + (a0.extract (x6_1:Int).toNat ((wrap64 (x6_1 + 1)):Int).toNat).size) = False:=eq_false (Nat.not_lt.2 c17)
           try have c17b3:(9223372036854775807 < (rdOf ByteArray.empty x5_1 (ji11)).size + (((wrap64 (x6_1 + 1))).toNat - (x6_1).toNat)) = False:=eq_false (by have h_:=c17;simp only [ByteArray.size_extract] at h_;omega)
           obtain ⟨y108,hy108⟩:∃ y_:List ByteArray,y_ = (x5_1.set ((ji11):Int).toNat ((rdOf ByteArray.empty x5_1 (ji11)) ++ (a0.extract (x6_1:Int).toNat ((wrap64 (x6_1 + 1)):Int).toNat))):=⟨_,rfl⟩
           replace H:(creelref_parts.l0 k1 a0 a1 y108 (wrap64 (x6_1 + 1))) = some r:=by first|(rw [hy108];with_reducible exact H)|(have H2_:=(Option.bind_some _ _).symm.trans H;rw [hy108];with_reducible exact H2_)|(have H2_:=(Option.bind_some _ _).symm.trans H;with_reducible exact H2_)|with_reducible exact H|(rw [hy108];exact H)|exact H
           have Ny108:=Aside0.mk hy108;clear hy108;have H':=Aside0.mk H;clear H;have p7:0 ≤ (x6_1:Int):=of_decide_eq_true (by first|(with_reducible assumption)|assumption);have q7:x6_1 < (a0.size:Int):=of_decide_eq_true (by first|(with_reducible assumption)|assumption);have hx7:=bt_at a0 x6_1;replace p7:=eq_true p7;replace q7:=eq_true q7;try go_wp2
           have n0_:=Aside0.mk (Kd.R_drew HO_5.out);have n1_:=Aside0.mk (bw1 HB.out);clear HO_5;clear HB;have HO_5:=n0_;have HB:=n1_;clear n0_ n1_;obtain ⟨Ao20,co20,eo20⟩:=Kd.R_slice HO_5.out;(first|subst eo20|(injection eo20 with f1_ f2_ f3_;have f4_:=f1_.symm;have f5_:=f3_.symm;clear f1_ f2_ f3_;subst f4_;subst f5_));have p107:0 ≤ ((ji11):Int):=of_decide_eq_true (by first|(with_reducible assumption)|assumption);have q107:(ji11) < (x5_1.length:Int):=of_decide_eq_true (by first|(with_reducible assumption)|assumption);obtain ⟨ad107,e107,hx107_0⟩:=Kd.at_string (Kd.R_reads' HO_5.out).2.2 (ji11) p107 q107;cases e107;replace p107:=eq_true p107;replace q107:=eq_true q107;have p18:0 ≤ ((ji11):Int):=of_decide_eq_true (by first|(with_reducible assumption)|assumption);have q18:((ji11):Int) < ((x5_1.length:Int):Int):=of_decide_eq_true (by first|(with_reducible assumption)|assumption);obtain ⟨go18,co18,eo18,gb18,gl18,cl18,HG18⟩:=Kd.R_form HO_5.out (by omega);(first|cases eo18|(injection eo18 with ea_ en_ ec_;(first|subst ea_|(injection ea_ with ea_;subst ea_));subst ec_;clear en_));have GB18:=Aside0.mk gb18;have GG18:=Aside0.mk HG18;clear gb18 gl18 HG18;(first|simp only [add_plain] at hx107_0|skip);obtain ⟨hx18_0,hf18_0⟩:=Kd.R_celln (⟨#[]⟩:ByteArray) HO_5.out ((ji11):Int) p18 q18;replace p18:=eq_true p18;replace q18:=eq_true q18;have HP21:=Kd.R_putn HO_5.out ((ji11):Int) ((rdOf ByteArray.empty x5_1 (ji11)) ++ (a0.extract (x6_1:Int).toNat ((wrap64 (x6_1 + 1)):Int).toNat));rw [← Ny108.out] at HP21;have HQ21:=Aside0.mk HP21;clear HP21;refine start_ (n:=14) (S:=fun w'=>w'.cell? ⟨go18,((ji11)).toNat,none⟩ = some (.string (rdOf ByteArray.empty x5_1 (ji11)))) (ds:=[13]) #[false,false,false,false,false,false,false,false,false,false,false,false,false,false] (by kernel_rfl) rfl rfl (hx107_0) (fun hHeld=>?_);refine with_tabW creelref_parts.tab7 creelref_parts.bits7 (fun HT_ HW_=>?_);generalize wr.drew = w19 at HO_5 HB GG18 HQ21 hf18_0 hx107_0 hx18_0 hHeld ⊢;refine pure_ (i:=0) (N:=some 22) (v:=?_) (a':=?_) #[true,false,false,false,false,false,false,false,false,false,false,false,false,false] rfl rfl (any_of HT_.out (by kernel_rfl)) (fun _ _ _ h=>h) (Or.inl ⟨by rfl,?_⟩) ?_ ?_;rotate_left
           ·intro w';go_simp
            with_reducible rfl
           rotate_left
           ·simp only [Act.put,List.setIfInBounds_toArray,List.set_cons_zero,List.set_cons_succ,i64_w,i32_w];rfl
           refine pure_ (i:=1) (N:=some 23) (v:=?_) (a':=?_) #[true,true,false,false,false,false,false,false,false,false,false,false,false,false] rfl rfl (any_of HT_.out (by kernel_rfl)) (fun _ _ _ h=>h) (Or.inl ⟨by rfl,?_⟩) ?_ ?_;rotate_left
           ·intro w';go_simp
            with_reducible rfl
           rotate_left
           ·simp only [Act.put,List.setIfInBounds_toArray,List.set_cons_zero,List.set_cons_succ,i64_w,i32_w];rfl
           refine pure_ (i:=2) (N:=some 24) (v:=?_) (a':=?_) #[true,true,true,false,false,false,false,false,false,false,false,false,false,false] rfl rfl (any_of HT_.out (by kernel_rfl)) (fun _ _ _ h=>h) (Or.inl ⟨by rfl,?_⟩) ?_ ?_;rotate_left
           ·intro w';go_simp
            with_reducible rfl
           rotate_left
           ·simp only [Act.put,List.setIfInBounds_toArray,List.set_cons_zero,List.set_cons_succ,i64_w,i32_w];rfl
           refine pure_ (i:=3) (N:=some 25) (v:=?_) (a':=?_) #[true,true,true,true,false,false,false,false,false,false,false,false,false,false] rfl rfl (any_of HT_.out (by kernel_rfl)) (fun _ _ _ h=>h) (Or.inl ⟨by rfl,?_⟩) ?_ ?_;rotate_left
           ·intro w';go_simp
            with_reducible rfl
           rotate_left
           ·simp only [Act.put,List.setIfInBounds_toArray,List.set_cons_zero,List.set_cons_succ,i64_w,i32_w];rfl
           refine pure_ (i:=4) (N:=some 26) (v:=?_) (a':=?_) #[true,true,true,true,true,false,false,false,false,false,false,false,false,false] rfl rfl (any_of HT_.out (by kernel_rfl)) (fun _ _ _ h=>h) (Or.inl ⟨by rfl,?_⟩) ?_ ?_;rotate_left
           ·intro w';go_simp
            with_reducible rfl
           rotate_left
           ·simp only [Act.put,List.setIfInBounds_toArray,List.set_cons_zero,List.set_cons_succ,i64_w,i32_w];rfl
           refine pure_ (i:=6) (N:=some 28) (v:=?_) (a':=?_) #[true,true,true,true,true,false,true,false,false,false,false,false,false,false] rfl rfl (any_of HT_.out (by kernel_rfl)) (fun _ _ _ h=>h) (Or.inl ⟨by rfl,?_⟩) ?_ ?_;rotate_left
           ·intro w';go_simp
            with_reducible rfl
           rotate_left
           ·simp only [Act.put,List.setIfInBounds_toArray,List.set_cons_zero,List.set_cons_succ,i64_w,i32_w];rfl
           refine pure_ (i:=7) (N:=some 29) (v:=?_) (a':=?_) #[true,true,true,true,true,false,true,true,false,false,false,false,false,false] rfl rfl (any_of HT_.out (by kernel_rfl)) (fun _ _ _ h=>h) (Or.inl ⟨by rfl,?_⟩) ?_ ?_;rotate_left
           ·intro w';go_simp
            with_reducible rfl
           rotate_left
           ·simp only [Act.put,List.setIfInBounds_toArray,List.set_cons_zero,List.set_cons_succ,i64_w,i32_w];rfl
           refine pure_ (i:=8) (N:=some 30) (v:=?_) (a':=?_) #[true,true,true,true,true,false,true,true,true,false,false,false,false,false] rfl rfl (any_of HT_.out (by kernel_rfl)) (fun _ _ _ h=>h) (Or.inl ⟨by rfl,?_⟩) ?_ ?_;rotate_left
           ·intro w';go_simp
            with_reducible rfl
           rotate_left
           ·simp only [Act.put,List.setIfInBounds_toArray,List.set_cons_zero,List.set_cons_succ,i64_w,i32_w];rfl
           refine pure_ (i:=9) (N:=some 31) (v:=?_) (a':=?_) #[true,true,true,true,true,false,true,true,true,true,false,false,false,false] rfl rfl (any_of HT_.out (by kernel_rfl)) (fun _ _ _ h=>h) (Or.inl ⟨by rfl,?_⟩) ?_ ?_;rotate_left
           ·intro w';go_simp
            with_reducible rfl
           rotate_left
           ·simp only [Act.put,List.setIfInBounds_toArray,List.set_cons_zero,List.set_cons_succ,i64_w,i32_w];rfl
           refine pure_ (i:=10) (N:=some 32) (v:=?_) (a':=?_) #[true,true,true,true,true,false,true,true,true,true,true,false,false,false] rfl rfl (any_of HT_.out (by kernel_rfl)) (fun _ _ _ h=>h) (Or.inl ⟨by rfl,?_⟩) ?_ ?_;rotate_left
           ·intro w';go_simp
            with_reducible rfl
           rotate_left
           ·simp only [Act.put,List.setIfInBounds_toArray,List.set_cons_zero,List.set_cons_succ,i64_w,i32_w];rfl
           refine take_ (i:=5) (N:=some 27) (v:=?_) (a':=?_) #[true,true,true,true,true,true,true,true,true,true,true,false,false,false] rfl rfl (take_ofW HT_.out HW_.out (by kernel_rfl)) (fun _ _ _ h=>h) (Or.inl ⟨by rfl,?_⟩) hHeld ?_ ?_;rotate_left
           ·intro w' s0;go_simp
            with_reducible rfl
           rotate_left
           ·simp only [Act.put,List.setIfInBounds_toArray,List.set_cons_zero,List.set_cons_succ,i64_w,i32_w];rfl
           refine pure_ (i:=11) (N:=some 33) (v:=?_) (a':=?_) #[true,true,true,true,true,true,true,true,true,true,true,true,false,false] rfl rfl (any_of HT_.out (by kernel_rfl)) (fun _ _ _ h=>h) (Or.inl ⟨by rfl,?_⟩) ?_ ?_;rotate_left
           ·intro w';go_simp
            with_reducible rfl
           rotate_left
           ·simp only [Act.put,List.setIfInBounds_toArray,List.set_cons_zero,List.set_cons_succ,i64_w,i32_w];rfl
           refine pure_ (i:=12) (N:=some 34) (v:=?_) (a':=?_) #[true,true,true,true,true,true,true,true,true,true,true,true,true,false] rfl rfl (any_of HT_.out (by kernel_rfl)) (fun _ _ _ h=>h) (Or.inl ⟨by rfl,?_⟩) ?_ ?_;rotate_left
           ·intro w';go_simp
            with_reducible rfl
           rotate_left
           ·simp only [Act.put,List.setIfInBounds_toArray,List.set_cons_zero,List.set_cons_succ,i64_w,i32_w];rfl
           refine last_ (i:=13) (N:=none) #[true,true,true,true,true,true,true,true,true,true,true,true,true,true] rfl rfl (one_of HT_.out (by kernel_rfl)) (by decide) (fun K hK=>?_);refine skip_ (w1:=?_) (by rfl) rfl ?_ ?_;rotate_left
           ·go_simp
            rfl
           refine hK.out _ _ ?_;clear hK K;refine done_ (done_of HT_.out (by kernel_rfl)) ?_;try go_wp2
           go_roundg k1
           case measure=>have:=HK1.out;omega
           case rel=>exact ⟨(y108),(wrap64 (x6_1 + 1)),(by first|rfl|(simp;done)|(simp [*];done)),H',⟨by have:=HK1.out;omega⟩,⟨by (with_reducible repeat (first|apply Kd.R_alloc|apply Kd.R_drewN|apply Kd.R_drew));exact HQ21.out⟩,⟨by repeat (first|(with_reducible first|exact HB.out|apply bwA|apply pwbN|apply bw1|refine below_set ?_ GB18.out)|exact HB.out)⟩⟩
          ·rw [if_neg c17] at H;exact absurd H (by simp)
         ·rw [if_neg c16] at H;exact absurd H (by simp)
        ·rw [if_neg c15] at H;exact absurd H (by simp)
       ·rw [if_neg c13] at H;exact absurd H (by simp)
      ·rw [if_neg c12] at H;exact absurd H (by simp)
    ·rw [if_neg c6] at H;exact absurd H (by simp)
   ·rw [if_neg c5] at H;have c5b0:decide (x6_1 < (a0.size:Int)) = false:=decide_eq_false c5;clear c5;obtain rfl:=Option.some.inj H;go_wp2;go_ret
    exact ⟨_,by first|rfl|(simp [errW_none,errW_some] <;> rfl)|(simp [*,errW_none,errW_some] <;> rfl),by (with_reducible repeat (first|apply Kd.R_alloc|apply Kd.R_drewN|apply Kd.R_drew));exact HO_5.out,by repeat (first|(with_reducible first|exact HB.out|apply bwA|apply pwbN|apply bw1)|exact HB.out)⟩
end Go.Proofs.YtlfeijjilndljaaDoor.All
end
section
namespace Go.Proofs.YtlfeijjilndljaaDoor.All
open Go.RowKit Go.Proofs.YtlfeijjilndljaaDoorW.PrintWords Go.Proofs.YtlfeijjilndljaaDoorW.PrintLast Go.Proofs.YtlfeijjilndljaaDoorW.PrintMore
open Go.Proofs.YtlfeijjilndljaaDoorW.Mine
attribute [local go_sem] gtr_string leq_string geq_string
attribute [local go_sem] max2_int min2_int max_two min_two max_three min_three max_four min_four
set_option linter.unusedVariables false
set_option linter.unusedSimpArgs false
mutual
def creelref_PathFault.j0:Nat→ByteArray→Bool→Option (Int)
 | 0,_,_=>none
 | k + 1,x0,x11=>if x11 = true then (some 1) else ((creelref_has.f k x0 0).bind fun t101=>(if t101 = true then (some 3) else ((creelref_parts.f k x0 47).bind fun t102=>(creelref_PathFault.l0 k t102 (t102.length:Int) 0))))
def creelref_PathFault.l0:Nat→List ByteArray→Int→Int→Option (Int)
 | 0,_,_,_=>none
 | k + 1,x15,x16,x17=>if x17 < x16 then (if 0 ≤ x17 then (if x17 < (x15.length:Int) then (if (rdOf ByteArray.empty x15 x17).toList = ([]:List UInt8) then (some 9) else (if (rdOf ByteArray.empty x15 x17).toList = ([46]:List UInt8) then (some 9) else (if (rdOf ByteArray.empty x15 x17).toList = ([46,46]:List UInt8) then (some 9) else (creelref_PathFault.l0 k x15 x16 (wrap64 (x17 + 1)))))) else (none)) else (none)) else (some 0)
end
def creelref_PathFault.f (k:Nat) (a0:ByteArray):Option (Int):=if a0.toList = ([]:List UInt8) then (creelref_PathFault.j0 k a0 true) else (creelref_PathFault.j0 k a0 (decide ((a0.size:Int) > 400)))
set_option maxHeartbeats 8000000 in
set_option maxRecDepth 100000 in
theorem creelref_PathFault.calls (k:Nat) (a0:ByteArray) (r:Int) (w:World) (h:creelref_PathFault.f k a0 = some r) :
 Calls Tryd.prog 83 #[.string a0] w fun e w'=>e = .returned (.int .i64 r)∧Below w.heap.size w w':=by
 have HB:=Aside0.mk (Below.refl w.heap.size w);have H:(if a0.toList = ([]:List UInt8) then (creelref_PathFault.j0 k a0 true) else (creelref_PathFault.j0 k a0 (decide ((a0.size:Int) > 400)))) = some r:=h;clear h;have HC2:=Aside0.mk H;clear H;go_enter Tryd.func83,Tryd.ntmps83;go_upto_region 1 with (fail)
 go_cut [11] (fun v11 wc=>∃ (kq:Nat) (x11_1:Bool),v11 = .bool x11_1∧Aside0 (creelref_PathFault.j0 kq a0 x11_1 = some r)∧Aside0 (kq ≤ k)∧Aside0 (Below w.heap.size w wc))
 case first =>
  have H:=HC2.out;clear HC2;by_cases c3:a0.toList = ([]:List UInt8)
  ·rw [if_pos c3] at H;have c3b0:(a0.toList == ([]:List UInt8)) = true:=beq_iff_eq.mpr c3;have c3b1:(a0.toList != ([]:List UInt8)) = false:=bne_eq_false_iff_eq.mpr c3;clear c3;(first|rw [c3b0]|(simp only [i64_w,i32_w];rw [c3b0])|skip);have H':=Aside0.mk H;clear H;go_wp2;go_meet
   case rel=>exact ⟨_,(true),(by first|rfl|(simp;done)|(simp [*];done)),H',⟨by first|omega|exact Nat.le_refl _⟩,⟨by repeat (first|(with_reducible first|exact HB.out|apply bwA|apply pwbN|apply bw1)|exact HB.out)⟩⟩
  ·rw [if_neg c3] at H;have c3b0:(a0.toList == ([]:List UInt8)) = false:=beq_eq_false_iff_ne.mpr c3;have c3b1:(a0.toList != ([]:List UInt8)) = true:=bne_iff_ne.mpr c3;(first|rw [c3b0]|(simp only [i64_w,i32_w];rw [c3b0])|skip);have H':=Aside0.mk H;clear H;go_wp2;go_meet
   case rel=>exact ⟨_,(decide ((a0.size:Int) > 400)),(by first|rfl|(simp;done)|(simp [*];done)),H',⟨by first|omega|exact Nat.le_refl _⟩,⟨by repeat (first|(with_reducible first|exact HB.out|apply bwA|apply pwbN|apply bw1)|exact HB.out)⟩⟩
 case rest =>
  clear HC2;obtain ⟨kq,x11_1,rfl,HA,HJ1,HB⟩:=hcut;cases kq with
  | zero=>exact absurd HA.out (by simp [creelref_PathFault.j0])
  | succ kj1 =>
   have H:=HA.out;clear HA;simp only [creelref_PathFault.j0] at H;by_cases c4:x11_1 = true
   ·subst c4;have H1:(some 1) = some r:=by rw [if_pos rfl] at H;exact H
    clear H;have H:=H1;clear H1;obtain rfl:=Option.some.inj H;go_wp2;go_ret
    exact ⟨by first|rfl|(simp [errW_none,errW_some] <;> rfl)|(simp [*,errW_none,errW_some] <;> rfl),by repeat (first|(with_reducible first|exact HB.out|apply bwA|apply pwbN|apply bw1)|exact HB.out)⟩
   ·replace c4:=Bool.eq_false_iff.mpr c4;subst c4;have H1:((creelref_has.f kj1 a0 0).bind fun t101=>(if t101 = true then (some 3) else ((creelref_parts.f kj1 a0 47).bind fun t102=>(creelref_PathFault.l0 kj1 t102 (t102.length:Int) 0)))) = some r:=by rw [if_neg (show ¬ (false = true) by decide)] at H;exact H
    clear H;have H:=H1;clear H1;replace H:=Option.bind_eq_some_iff.mp H;obtain ⟨t101,A50,H⟩:=H;replace H:(if t101 = true then (some 3) else ((creelref_parts.f kj1 a0 47).bind fun t102=>(creelref_PathFault.l0 kj1 t102 (t102.length:Int) 0))) = some r:=H;have A5:=Aside0.mk A50;clear A50;by_cases c6:t101 = true
    ·subst c6;have H1:(some 3) = some r:=by rw [if_pos rfl] at H;exact H
     clear H;have H:=H1;clear H1;obtain rfl:=Option.some.inj H;go_wp2_with (first|((with_reducible refine gate_callee (f:=85) rfl ?_);refine goesL_ (some 13) rfl rfl Tryd.func85 (by kernel_rfl) rfl #[.string a0,.int .u8 0] rfl (by (try simp only [List.map_toArray,List.map_cons,List.map_nil]);first|done|rfl|(simp only [List.length_drop,List.length_take];rfl)) ?_;(with_reducible refine (creelref_has.calls kj1 a0 0 true _ A5.out).mono ?_);rintro e w' ⟨rfl,⟨nd,rfl⟩⟩;refine ⟨_,rfl,?_⟩))
     go_ret
     exact ⟨by first|rfl|(simp [errW_none,errW_some] <;> rfl)|(simp [*,errW_none,errW_some] <;> rfl),by repeat (first|(with_reducible first|exact HB.out|apply bwA|apply pwbN|apply bw1)|exact HB.out)⟩
    ·replace c6:=Bool.eq_false_iff.mpr c6;subst c6;have H1:((creelref_parts.f kj1 a0 47).bind fun t102=>(creelref_PathFault.l0 kj1 t102 (t102.length:Int) 0)) = some r:=by rw [if_neg (show ¬ (false = true) by decide)] at H;exact H
     clear H;have H:=H1;clear H1;replace H:=Option.bind_eq_some_iff.mp H;obtain ⟨t102,A70,H⟩:=H;replace H:(creelref_PathFault.l0 kj1 t102 (t102.length:Int) 0) = some r:=H;have A7:=Aside0.mk A70;clear A70;have H':=Aside0.mk H;clear H;go_wp2_with (first|((with_reducible refine gate_callee (f:=85) rfl ?_);refine goesL_ (some 13) rfl rfl Tryd.func85 (by kernel_rfl) rfl #[.string a0,.int .u8 0] rfl (by (try simp only [List.map_toArray,List.map_cons,List.map_nil]);first|done|rfl|(simp only [List.length_drop,List.length_take];rfl)) ?_;(with_reducible refine (creelref_has.calls kj1 a0 0 false _ A5.out).mono ?_);rintro e w' ⟨rfl,⟨nd,rfl⟩⟩;refine ⟨_,rfl,?_⟩)|((with_reducible refine gate_callee (f:=97) rfl ?_);refine goesL_ (some 15) rfl rfl Tryd.func97 (by kernel_rfl) rfl #[.string a0,.int .u8 47] rfl (by (try simp only [List.map_toArray,List.map_cons,List.map_nil]);first|done|rfl|(simp only [List.length_drop,List.length_take];rfl)) ?_;(with_reducible refine (creelref_parts.calls kj1 a0 47 t102 _ A7.out).mono ?_);rintro e w8 ⟨v103,rfl,ho0,hb⟩;refine ⟨_,rfl,?_⟩;have n0_:=Aside0.mk (Kd.R_lower ho0 (below_size (by repeat (first|(with_reducible first|exact HB.out|apply bwA|apply pwbN|apply bw1)|exact HB.out))));have n1_:=Aside0.mk (below_step (by repeat (first|(with_reducible first|exact HB.out|apply bwA|apply pwbN|apply bw1)|exact HB.out)) hb);clear HB;have HO104:=n0_;have HB:=n1_;clear n0_ n1_;(try clear hb);(try clear hb2);(try clear hk);(try clear hi);(try clear ho0);obtain ⟨Ao9,co9,eo9⟩:=Kd.R_slice HO104.out;subst eo9))
     go_loopg [17] kj1 (fun kq v17 w'=>∃ (x17_2:Int),v17 = .int .i64 x17_2∧Aside0 (creelref_PathFault.l0 kq t102 (t102.length:Int) x17_2 = some r)∧Aside0 (kq ≤ kj1)∧Aside0 (Kd.R Kd.string 9 w' w.heap.size (fun _=>True) (.slice Ao9 t102.length co9) t102)∧Aside0 (Below w.heap.size w w'))
     case atStart=>exact ⟨(0),(by first|rfl|(simp;done)|(simp [*];done)),H',⟨Nat.le_refl _⟩,⟨by (with_reducible repeat (first|apply Kd.R_alloc|apply Kd.R_drewN|apply Kd.R_drew));exact HO104.out⟩,⟨by repeat (first|(with_reducible first|exact HB.out|apply bwA|apply pwbN|apply bw1)|exact HB.out)⟩⟩
     case round =>
      clear H';try clear c4
      try clear c6
      obtain ⟨x17_2,rfl,HA,HK2,HO_15,HB⟩:=hrel;cases gk with
      | zero=>exact absurd HA.out (by simp [creelref_PathFault.l0])
      | succ k2 =>
       have H:=HA.out;clear HA;simp only [creelref_PathFault.l0] at H;by_cases c10:x17_2 < (t102.length:Int)
       ·rw [if_pos c10] at H;have c10b0:decide (x17_2 < (t102.length:Int)) = true:=decide_eq_true c10;clear c10;by_cases c11:0 ≤ x17_2
        ·rw [if_pos c11] at H;have c11b0:decide (0 ≤ x17_2) = true:=decide_eq_true c11;clear c11;by_cases c12:x17_2 < (t102.length:Int)
         ·rw [if_pos c12] at H;have c12b0:decide (x17_2 < (t102.length:Int)) = true:=decide_eq_true c12;clear c12;by_cases c13:(rdOf ByteArray.empty t102 x17_2).toList = ([]:List UInt8)
          ·rw [if_pos c13] at H;have c13b0:((rdOf ByteArray.empty t102 x17_2).toList == ([]:List UInt8)) = true:=beq_iff_eq.mpr c13;have c13b1:((rdOf ByteArray.empty t102 x17_2).toList != ([]:List UInt8)) = false:=bne_eq_false_iff_eq.mpr c13;clear c13;obtain rfl:=Option.some.inj H;have p105:0 ≤ (x17_2:Int):=of_decide_eq_true (by first|(with_reducible assumption)|assumption);have q105:x17_2 < (t102.length:Int):=of_decide_eq_true (by first|(with_reducible assumption)|assumption);obtain ⟨ad105,e105,hx105_0⟩:=Kd.at_string (Kd.R_reads' HO_15.out).2.2 x17_2 p105 q105;cases e105;replace p105:=eq_true p105;replace q105:=eq_true q105;go_wp2;go_ret
           exact ⟨by first|rfl|(simp [errW_none,errW_some] <;> rfl)|(simp [*,errW_none,errW_some] <;> rfl),by repeat (first|(with_reducible first|exact HB.out|apply bwA|apply pwbN|apply bw1)|exact HB.out)⟩
          ·rw [if_neg c13] at H;have c13b0:((rdOf ByteArray.empty t102 x17_2).toList == ([]:List UInt8)) = false:=beq_eq_false_iff_ne.mpr c13;have c13b1:((rdOf ByteArray.empty t102 x17_2).toList != ([]:List UInt8)) = true:=bne_iff_ne.mpr c13;by_cases c14:(rdOf ByteArray.empty t102 x17_2).toList = ([46]:List UInt8)
           ·rw [if_pos c14] at H;have c14b0:((rdOf ByteArray.empty t102 x17_2).toList == ([46]:List UInt8)) = true:=beq_iff_eq.mpr c14;have c14b1:((rdOf ByteArray.empty t102 x17_2).toList != ([46]:List UInt8)) = false:=bne_eq_false_iff_eq.mpr c14;clear c14;obtain rfl:=Option.some.inj H;have p105:0 ≤ (x17_2:Int):=of_decide_eq_true (by first|(with_reducible assumption)|assumption);have q105:x17_2 < (t102.length:Int):=of_decide_eq_true (by first|(with_reducible assumption)|assumption);obtain ⟨ad105,e105,hx105_0⟩:=Kd.at_string (Kd.R_reads' HO_15.out).2.2 x17_2 p105 q105;cases e105;replace p105:=eq_true p105;replace q105:=eq_true q105;go_wp2;go_ret
            exact ⟨by first|rfl|(simp [errW_none,errW_some] <;> rfl)|(simp [*,errW_none,errW_some] <;> rfl),by repeat (first|(with_reducible first|exact HB.out|apply bwA|apply pwbN|apply bw1)|exact HB.out)⟩
           ·rw [if_neg c14] at H;have c14b0:((rdOf ByteArray.empty t102 x17_2).toList == ([46]:List UInt8)) = false:=beq_eq_false_iff_ne.mpr c14;have c14b1:((rdOf ByteArray.empty t102 x17_2).toList != ([46]:List UInt8)) = true:=bne_iff_ne.mpr c14;by_cases c15:(rdOf ByteArray.empty t102 x17_2).toList = ([46,46]:List UInt8)
            ·rw [if_pos c15] at H;have c15b0:((rdOf ByteArray.empty t102 x17_2).toList == ([46,46]:List UInt8)) = true:=beq_iff_eq.mpr c15;have c15b1:((rdOf ByteArray.empty t102 x17_2).toList != ([46,46]:List UInt8)) = false:=bne_eq_false_iff_eq.mpr c15;clear c15;obtain rfl:=Option.some.inj H;have p105:0 ≤ (x17_2:Int):=of_decide_eq_true (by first|(with_reducible assumption)|assumption);have q105:x17_2 < (t102.length:Int):=of_decide_eq_true (by first|(with_reducible assumption)|assumption);obtain ⟨ad105,e105,hx105_0⟩:=Kd.at_string (Kd.R_reads' HO_15.out).2.2 x17_2 p105 q105;cases e105;replace p105:=eq_true p105;replace q105:=eq_true q105;go_wp2;go_ret
             exact ⟨by first|rfl|(simp [errW_none,errW_some] <;> rfl)|(simp [*,errW_none,errW_some] <;> rfl),by repeat (first|(with_reducible first|exact HB.out|apply bwA|apply pwbN|apply bw1)|exact HB.out)⟩
            ·rw [if_neg c15] at H;have c15b0:((rdOf ByteArray.empty t102 x17_2).toList == ([46,46]:List UInt8)) = false:=beq_eq_false_iff_ne.mpr c15;have c15b1:((rdOf ByteArray.empty t102 x17_2).toList != ([46,46]:List UInt8)) = true:=bne_iff_ne.mpr c15;have H':=Aside0.mk H;clear H;have p105:0 ≤ (x17_2:Int):=of_decide_eq_true (by first|(with_reducible assumption)|assumption);have q105:x17_2 < (t102.length:Int):=of_decide_eq_true (by first|(with_reducible assumption)|assumption);obtain ⟨ad105,e105,hx105_0⟩:=Kd.at_string (Kd.R_reads' HO_15.out).2.2 x17_2 p105 q105;cases e105;replace p105:=eq_true p105;replace q105:=eq_true q105;go_wp2;go_roundg k2
             case measure=>have:=HJ1.out;have:=HK2.out;omega
             case rel=>exact ⟨(wrap64 (x17_2 + 1)),(by first|rfl|(simp;done)|(simp [*];done)),H',⟨by have:=HJ1.out;have:=HK2.out;omega⟩,⟨by (with_reducible repeat (first|apply Kd.R_alloc|apply Kd.R_drewN|apply Kd.R_drew));exact HO_15.out⟩,⟨by repeat (first|(with_reducible first|exact HB.out|apply bwA|apply pwbN|apply bw1)|exact HB.out)⟩⟩
         ·rw [if_neg c12] at H;exact absurd H (by simp)
        ·rw [if_neg c11] at H;exact absurd H (by simp)
       ·rw [if_neg c10] at H;have c10b0:decide (x17_2 < (t102.length:Int)) = false:=decide_eq_false c10;clear c10;obtain rfl:=Option.some.inj H;go_wp2;go_ret
        exact ⟨by first|rfl|(simp [errW_none,errW_some] <;> rfl)|(simp [*,errW_none,errW_some] <;> rfl),by repeat (first|(with_reducible first|exact HB.out|apply bwA|apply pwbN|apply bw1)|exact HB.out)⟩
end Go.Proofs.YtlfeijjilndljaaDoor.All
end
section
namespace Go.Proofs.YtlfeijjilndljaaDoor.All
open Go.RowKit Go.Proofs.YtlfeijjilndljaaDoorW.PrintWords Go.Proofs.YtlfeijjilndljaaDoorW.PrintLast Go.Proofs.YtlfeijjilndljaaDoorW.PrintMore
open Go.Proofs.YtlfeijjilndljaaDoorW.Mine
attribute [local go_sem] gtr_string leq_string geq_string
attribute [local go_sem] max2_int min2_int max_two min_two max_three min_three max_four min_four
set_option linter.unusedVariables false
set_option linter.unusedSimpArgs false
def creelref_TimeFault.f (a0:Int) (a1:Int):Option (Int):=if a0 < (-1099511627776) then (some 4) else (if a0 > 1099511627776 then (some 4) else (if a1 < 0 then (some 4) else (if a1 ≥ 1000000000 then (some 4) else (some 0))))
set_option maxHeartbeats 8000000 in
set_option maxRecDepth 100000 in
theorem creelref_TimeFault.calls (a0:Int) (a1:Int) (r:Int) (w:World) (h:creelref_TimeFault.f a0 a1 = some r) :
 Calls Tryd.prog 103 #[.int .i64 a0,.int .i64 a1] w fun e w'=>e = .returned (.int .i64 r)∧Drawn0 w w':=by
 have H:(if a0 < (-1099511627776) then (some 4) else (if a0 > 1099511627776 then (some 4) else (if a1 < 0 then (some 4) else (if a1 ≥ 1000000000 then (some 4) else (some 0))))) = some r:=h;clear h;by_cases c3:a0 < (-1099511627776)
 ·rw [if_pos c3] at H;have c3b0:decide (a0 < (-1099511627776)) = true:=decide_eq_true c3;clear c3;obtain rfl:=Option.some.inj H;go_enter Tryd.func103,Tryd.ntmps103;go_wp2;go_ret
  exact ⟨by first|rfl|(simp;done)|(simp [*];done),by repeat (first|exact Drawn0.refl _|apply Drawn0.step)⟩
 ·rw [if_neg c3] at H;have c3b0:decide (a0 < (-1099511627776)) = false:=decide_eq_false c3;clear c3;by_cases c4:a0 > 1099511627776
  ·rw [if_pos c4] at H;have c4b0:decide (1099511627776 < a0) = true:=decide_eq_true c4;clear c4;obtain rfl:=Option.some.inj H;go_enter Tryd.func103,Tryd.ntmps103;go_wp2;go_ret
   exact ⟨by first|rfl|(simp;done)|(simp [*];done),by repeat (first|exact Drawn0.refl _|apply Drawn0.step)⟩
  ·rw [if_neg c4] at H;have c4b0:decide (1099511627776 < a0) = false:=decide_eq_false c4;clear c4;by_cases c5:a1 < 0
   ·rw [if_pos c5] at H;have c5b0:decide (a1 < 0) = true:=decide_eq_true c5;clear c5;obtain rfl:=Option.some.inj H;go_enter Tryd.func103,Tryd.ntmps103;go_wp2;go_ret
    exact ⟨by first|rfl|(simp;done)|(simp [*];done),by repeat (first|exact Drawn0.refl _|apply Drawn0.step)⟩
   ·rw [if_neg c5] at H;have c5b0:decide (a1 < 0) = false:=decide_eq_false c5;clear c5;by_cases c6:a1 ≥ 1000000000
    ·rw [if_pos c6] at H;have c6b0:decide (1000000000 ≤ a1) = true:=decide_eq_true c6;clear c6;obtain rfl:=Option.some.inj H;go_enter Tryd.func103,Tryd.ntmps103;go_wp2;go_ret
     exact ⟨by first|rfl|(simp;done)|(simp [*];done),by repeat (first|exact Drawn0.refl _|apply Drawn0.step)⟩
    ·rw [if_neg c6] at H;have c6b0:decide (1000000000 ≤ a1) = false:=decide_eq_false c6;clear c6;obtain rfl:=Option.some.inj H;go_enter Tryd.func103,Tryd.ntmps103;go_wp2;go_ret
     exact ⟨by first|rfl|(simp;done)|(simp [*];done),by repeat (first|exact Drawn0.refl _|apply Drawn0.step)⟩
end Go.Proofs.YtlfeijjilndljaaDoor.All
end
section
namespace Go.Proofs.YtlfeijjilndljaaDoor.All
open Go.RowKit Go.Proofs.YtlfeijjilndljaaDoorW.PrintWords Go.Proofs.YtlfeijjilndljaaDoorW.PrintLast Go.Proofs.YtlfeijjilndljaaDoorW.PrintMore
open Go.Proofs.YtlfeijjilndljaaDoorW.Mine
attribute [local go_sem] gtr_string leq_string geq_string
attribute [local go_sem] max2_int min2_int max_two min_two max_three min_three max_four min_four
set_option linter.unusedVariables false
set_option linter.unusedSimpArgs false
mutual
def creelref_MetaFault.j0:Nat→Bool→Int→Int→Int→ByteArray→ByteArray→Int→Int→Option (Int)
 | 0,_,_,_,_,_,_,_,_=>none
 | k + 1,x30,x102000,x102001,x102002,x102003,x102004,x102005,x102006=>if x30 = true then (some 4) else (if (x102003.size:Int) > 60 then (creelref_MetaFault.j1 k true x102000 x102001 x102002 x102003 x102004 x102005 x102006) else (creelref_MetaFault.j1 k (decide ((x102004.size:Int) > 60)) x102000 x102001 x102002 x102003 x102004 x102005 x102006))
def creelref_MetaFault.j1:Nat→Bool→Int→Int→Int→ByteArray→ByteArray→Int→Int→Option (Int)
 | 0,_,_,_,_,_,_,_,_=>none
 | k + 1,x40,x102000,x102001,x102002,x102003,x102004,x102005,x102006=>if x40 = true then (some 1) else ((creelref_has.f k x102003 0).bind fun t102=>(if t102 = true then (some 3) else ((creelref_has.f k x102004 0).bind fun t103=>(if t103 = true then (some 3) else ((creelref_TimeFault.f x102005 x102006).bind fun t104=>(some t104))))))
end
def creelref_MetaFault.f (k:Nat) (a0_0:Int) (a0_1:Int) (a0_2:Int) (a0_3:ByteArray) (a0_4:ByteArray) (a0_5:Int) (a0_6:Int):Option (Int):=if a0_0 < 0 then (creelref_MetaFault.j0 k true a0_0 a0_1 a0_2 a0_3 a0_4 a0_5 a0_6) else (if a0_0 ≥ 4096 then (creelref_MetaFault.j0 k true a0_0 a0_1 a0_2 a0_3 a0_4 a0_5 a0_6) else (if a0_1 < 0 then (creelref_MetaFault.j0 k true a0_0 a0_1 a0_2 a0_3 a0_4 a0_5 a0_6) else (if a0_1 > 1125899906842624 then (creelref_MetaFault.j0 k true a0_0 a0_1 a0_2 a0_3 a0_4 a0_5 a0_6) else (if a0_2 < 0 then (creelref_MetaFault.j0 k true a0_0 a0_1 a0_2 a0_3 a0_4 a0_5 a0_6) else (creelref_MetaFault.j0 k (decide (a0_2 > 1125899906842624)) a0_0 a0_1 a0_2 a0_3 a0_4 a0_5 a0_6)))))
set_option maxHeartbeats 8000000 in
set_option maxRecDepth 100000 in
theorem creelref_MetaFault.calls (k:Nat) (a0_0:Int) (a0_1:Int) (a0_2:Int) (a0_3:ByteArray) (a0_4:ByteArray) (a0_5:Int) (a0_6:Int) (r:Int) (w:World) (h:creelref_MetaFault.f k a0_0 a0_1 a0_2 a0_3 a0_4 a0_5 a0_6 = some r) :
 Calls Tryd.prog 84 #[.agg #[.int .i64 a0_0,.int .i64 a0_1,.int .i64 a0_2,.string a0_3,.string a0_4,.int .i64 a0_5,.int .i64 a0_6]] w fun e w'=>e = .returned (.int .i64 r)∧Below w.heap.size w w':=by
 have hu32:=Tryd.underlying32;have HB:=Aside0.mk (Below.refl w.heap.size w);have H:(if a0_0 < 0 then (creelref_MetaFault.j0 k true a0_0 a0_1 a0_2 a0_3 a0_4 a0_5 a0_6) else (if a0_0 ≥ 4096 then (creelref_MetaFault.j0 k true a0_0 a0_1 a0_2 a0_3 a0_4 a0_5 a0_6) else (if a0_1 < 0 then (creelref_MetaFault.j0 k true a0_0 a0_1 a0_2 a0_3 a0_4 a0_5 a0_6) else (if a0_1 > 1125899906842624 then (creelref_MetaFault.j0 k true a0_0 a0_1 a0_2 a0_3 a0_4 a0_5 a0_6) else (if a0_2 < 0 then (creelref_MetaFault.j0 k true a0_0 a0_1 a0_2 a0_3 a0_4 a0_5 a0_6) else (creelref_MetaFault.j0 k (decide (a0_2 > 1125899906842624)) a0_0 a0_1 a0_2 a0_3 a0_4 a0_5 a0_6)))))) = some r:=h;clear h;have HC2:=Aside0.mk H;clear H;go_enter Tryd.func84,Tryd.ntmps84;go_upto_region 1 with (first|((with_reducible refine gate_dst (N:=1) rfl ?_);(try (refine gate_guard (by rfl) ?_;dsimp only));refine box_event ?hg (N:=1) ?hd (cs:=#[.int .i64 a0_0,.int .i64 a0_1,.int .i64 a0_2,.string a0_3,.string a0_4,.int .i64 a0_5,.int .i64 a0_6]) (t:=32) ?hr ?_;(case hd=>rfl);(case hg=>rfl);(case hr=>first|(go_simp;done)|(go_simp;rfl));intro gb101 hg w3 hbox hb;have n0_:=Aside0.mk (below_step (by repeat (first|(with_reducible first|exact HB.out|apply bwA|apply pwbN|apply bw1)|exact HB.out)) hb);have n1_:=Aside0.mk (hbox);have n2_:=Aside0.mk ((by rw [hg];exact (below_size (by repeat (first|(with_reducible first|exact HB.out|apply bwA|apply pwbN|apply bw1)|exact HB.out))):w.heap.size ≤ gb101));have n3_:=Aside0.mk ((by rw [hg];exact (below_size (by repeat (first|(with_reducible first|exact HB.out|apply bwA|apply pwbN|apply bw1)|exact HB.out))):w.heap.size ≤ gb101));clear HB;have HB:=n0_;have BK101:=n1_;have GW101:=n2_;have GE101:=n3_;clear n0_ n1_ n2_ n3_;clear hb hbox hg))
 (try simp only [Act.put,List.setIfInBounds_toArray,List.set_cons_zero,List.set_cons_succ]);go_cut [30] (fun v30 wc=>∃ (kq:Nat) (x30_1:Bool),v30 = .bool x30_1∧Aside0 (creelref_MetaFault.j0 kq x30_1 a0_0 a0_1 a0_2 a0_3 a0_4 a0_5 a0_6 = some r)∧Aside0 (kq ≤ k)∧Aside0 (wc.heap[gb101]? = some (.cells #[.int .i64 a0_0,.int .i64 a0_1,.int .i64 a0_2,.string a0_3,.string a0_4,.int .i64 a0_5,.int .i64 a0_6] 32 (0,0)))∧Aside0 (Below w.heap.size w wc))
 case first =>
  have H:=HC2.out;clear HC2;by_cases c4:a0_0 < 0
  ·rw [if_pos c4] at H;have c4b0:decide (a0_0 < 0) = true:=decide_eq_true c4;clear c4;(first|rw [c4b0]|(simp only [i64_w,i32_w];rw [c4b0])|skip);have H':=Aside0.mk H;clear H;obtain ⟨_,_,_,_,_,_,_,_,_,_,_,_,_,_⟩:=blkA7 BK101.out;go_wp2;go_meet
   case rel=>exact ⟨_,(true),(by first|rfl|(simp;done)|(simp [*];done)),H',⟨by first|omega|exact Nat.le_refl _⟩,⟨by (with_reducible repeat (first|refine blk_drewN ?_ _|refine blk_drew ?_|refine blk_alloc ?_ _));exact BK101.out⟩,⟨by repeat (first|(with_reducible first|exact HB.out|apply bwA|apply pwbN|apply bw1|refine below_set ?_ GE101.out)|exact HB.out)⟩⟩
  ·rw [if_neg c4] at H;have c4b0:decide (a0_0 < 0) = false:=decide_eq_false c4;clear c4;(first|rw [c4b0]|(simp only [i64_w,i32_w];rw [c4b0])|skip);by_cases c6:a0_0 ≥ 4096
   ·rw [if_pos c6] at H;have c6b0:decide (4096 ≤ a0_0) = true:=decide_eq_true c6;clear c6;have H':=Aside0.mk H;clear H;obtain ⟨_,_,_,_,_,_,_,_,_,_,_,_,_,_⟩:=blkA7 BK101.out;go_wp2;go_meet
    case rel=>exact ⟨_,(true),(by first|rfl|(simp;done)|(simp [*];done)),H',⟨by first|omega|exact Nat.le_refl _⟩,⟨by (with_reducible repeat (first|refine blk_drewN ?_ _|refine blk_drew ?_|refine blk_alloc ?_ _));exact BK101.out⟩,⟨by repeat (first|(with_reducible first|exact HB.out|apply bwA|apply pwbN|apply bw1|refine below_set ?_ GE101.out)|exact HB.out)⟩⟩
   ·rw [if_neg c6] at H;have c6b0:decide (4096 ≤ a0_0) = false:=decide_eq_false c6;clear c6;by_cases c8:a0_1 < 0
    ·rw [if_pos c8] at H;have c8b0:decide (a0_1 < 0) = true:=decide_eq_true c8;clear c8;have H':=Aside0.mk H;clear H;obtain ⟨_,_,_,_,_,_,_,_,_,_,_,_,_,_⟩:=blkA7 BK101.out;go_wp2;go_meet
     case rel=>exact ⟨_,(true),(by first|rfl|(simp;done)|(simp [*];done)),H',⟨by first|omega|exact Nat.le_refl _⟩,⟨by (with_reducible repeat (first|refine blk_drewN ?_ _|refine blk_drew ?_|refine blk_alloc ?_ _));exact BK101.out⟩,⟨by repeat (first|(with_reducible first|exact HB.out|apply bwA|apply pwbN|apply bw1|refine below_set ?_ GE101.out)|exact HB.out)⟩⟩
    ·rw [if_neg c8] at H;have c8b0:decide (a0_1 < 0) = false:=decide_eq_false c8;clear c8;by_cases c10:a0_1 > 1125899906842624
     ·rw [if_pos c10] at H;have c10b0:decide (1125899906842624 < a0_1) = true:=decide_eq_true c10;clear c10;have H':=Aside0.mk H;clear H;obtain ⟨_,_,_,_,_,_,_,_,_,_,_,_,_,_⟩:=blkA7 BK101.out;go_wp2;go_meet
      case rel=>exact ⟨_,(true),(by first|rfl|(simp;done)|(simp [*];done)),H',⟨by first|omega|exact Nat.le_refl _⟩,⟨by (with_reducible repeat (first|refine blk_drewN ?_ _|refine blk_drew ?_|refine blk_alloc ?_ _));exact BK101.out⟩,⟨by repeat (first|(with_reducible first|exact HB.out|apply bwA|apply pwbN|apply bw1|refine below_set ?_ GE101.out)|exact HB.out)⟩⟩
     ·rw [if_neg c10] at H;have c10b0:decide (1125899906842624 < a0_1) = false:=decide_eq_false c10;clear c10;by_cases c12:a0_2 < 0
      ·rw [if_pos c12] at H;have c12b0:decide (a0_2 < 0) = true:=decide_eq_true c12;clear c12;have H':=Aside0.mk H;clear H;obtain ⟨_,_,_,_,_,_,_,_,_,_,_,_,_,_⟩:=blkA7 BK101.out;go_wp2;go_meet
       case rel=>exact ⟨_,(true),(by first|rfl|(simp;done)|(simp [*];done)),H',⟨by first|omega|exact Nat.le_refl _⟩,⟨by (with_reducible repeat (first|refine blk_drewN ?_ _|refine blk_drew ?_|refine blk_alloc ?_ _));exact BK101.out⟩,⟨by repeat (first|(with_reducible first|exact HB.out|apply bwA|apply pwbN|apply bw1|refine below_set ?_ GE101.out)|exact HB.out)⟩⟩
      ·rw [if_neg c12] at H;have c12b0:decide (a0_2 < 0) = false:=decide_eq_false c12;clear c12;have H':=Aside0.mk H;clear H;obtain ⟨_,_,_,_,_,_,_,_,_,_,_,_,_,_⟩:=blkA7 BK101.out;go_wp2;go_meet
       case rel=>exact ⟨_,(decide (a0_2 > 1125899906842624)),(by first|rfl|(simp;done)|(simp [*];done)),H',⟨by first|omega|exact Nat.le_refl _⟩,⟨by (with_reducible repeat (first|refine blk_drewN ?_ _|refine blk_drew ?_|refine blk_alloc ?_ _));exact BK101.out⟩,⟨by repeat (first|(with_reducible first|exact HB.out|apply bwA|apply pwbN|apply bw1|refine below_set ?_ GE101.out)|exact HB.out)⟩⟩
 case rest =>
  clear HC2;obtain ⟨kq,x30_1,rfl,HA,HJ1,BK101,HB⟩:=hcut;cases kq with
  | zero=>exact absurd HA.out (by simp [creelref_MetaFault.j0])
  | succ kj1 =>
   have H:=HA.out;clear HA;simp only [creelref_MetaFault.j0] at H;by_cases c15:x30_1 = true
   ·subst c15;have H1:(some 4) = some r:=by rw [if_pos rfl] at H;exact H
    clear H;have H:=H1;clear H1;obtain rfl:=Option.some.inj H;go_wp2;go_ret
    exact ⟨by first|rfl|(simp [errW_none,errW_some] <;> rfl)|(simp [*,errW_none,errW_some] <;> rfl),by repeat (first|(with_reducible first|exact HB.out|apply bwA|apply pwbN|apply bw1|refine below_set ?_ GE101.out)|exact HB.out)⟩
   ·replace c15:=Bool.eq_false_iff.mpr c15;subst c15;have H1:(if (a0_3.size:Int) > 60 then (creelref_MetaFault.j1 kj1 true a0_0 a0_1 a0_2 a0_3 a0_4 a0_5 a0_6) else (creelref_MetaFault.j1 kj1 (decide ((a0_4.size:Int) > 60)) a0_0 a0_1 a0_2 a0_3 a0_4 a0_5 a0_6)) = some r:=by rw [if_neg (show ¬ (false = true) by decide)] at H;exact H
    clear H;have H:=H1;clear H1;have HC16:=Aside0.mk H;clear H;go_upto_region 3 with (fail)
    go_cut [40] (fun v40 wc=>∃ (kq:Nat) (x40_15:Bool),v40 = .bool x40_15∧Aside0 (creelref_MetaFault.j1 kq x40_15 a0_0 a0_1 a0_2 a0_3 a0_4 a0_5 a0_6 = some r)∧Aside0 (kq ≤ kj1)∧Aside0 (wc.heap[gb101]? = some (.cells #[.int .i64 a0_0,.int .i64 a0_1,.int .i64 a0_2,.string a0_3,.string a0_4,.int .i64 a0_5,.int .i64 a0_6] 32 (0,0)))∧Aside0 (Below w.heap.size w wc))
    case first =>
     have H:=HC16.out;clear HC16;by_cases c17:(a0_3.size:Int) > 60
     ·rw [if_pos c17] at H;have c17b0:decide (60 < (a0_3.size:Int)) = true:=decide_eq_true c17;have c17b1:decide (60 < a0_3.size) = true:=decide_eq_true (by omega);clear c17;(first|rw [c17b0]|(simp only [i64_w,i32_w];rw [c17b0])|skip);have H':=Aside0.mk H;clear H;obtain ⟨_,_,_,_,_,_,_,_,_,_,_,_,_,_⟩:=blkA7 BK101.out;go_wp2;go_meet
      case rel=>exact ⟨_,(true),(by first|rfl|(simp;done)|(simp [*];done)),H',⟨by have:=HJ1.out;first|omega|exact Nat.le_refl _⟩,⟨by (with_reducible repeat (first|refine blk_drewN ?_ _|refine blk_drew ?_|refine blk_alloc ?_ _));exact BK101.out⟩,⟨by repeat (first|(with_reducible first|exact HB.out|apply bwA|apply pwbN|apply bw1|refine below_set ?_ GE101.out)|exact HB.out)⟩⟩
     ·rw [if_neg c17] at H;have c17b0:decide (60 < (a0_3.size:Int)) = false:=decide_eq_false c17;have c17b1:decide (60 < a0_3.size) = false:=decide_eq_false (by omega);clear c17;(first|rw [c17b0]|(simp only [i64_w,i32_w];rw [c17b0])|skip);have H':=Aside0.mk H;clear H;obtain ⟨_,_,_,_,_,_,_,_,_,_,_,_,_,_⟩:=blkA7 BK101.out;go_wp2;go_meet
      case rel=>exact ⟨_,(decide ((a0_4.size:Int) > 60)),(by first|rfl|(simp;done)|(simp [*];done)),H',⟨by have:=HJ1.out;first|omega|exact Nat.le_refl _⟩,⟨by (with_reducible repeat (first|refine blk_drewN ?_ _|refine blk_drew ?_|refine blk_alloc ?_ _));exact BK101.out⟩,⟨by repeat (first|(with_reducible first|exact HB.out|apply bwA|apply pwbN|apply bw1|refine below_set ?_ GE101.out)|exact HB.out)⟩⟩
    case rest =>
     clear HC16;try clear c15
     obtain ⟨kq,x40_15,rfl,HA,HJ15,BK101,HB⟩:=hcut;cases kq with
     | zero=>exact absurd HA.out (by simp [creelref_MetaFault.j1])
     | succ kj15 =>
      have H:=HA.out;clear HA;simp only [creelref_MetaFault.j1] at H;by_cases c20:x40_15 = true
      ·subst c20;have H1:(some 1) = some r:=by rw [if_pos rfl] at H;exact H
       clear H;have H:=H1;clear H1;obtain rfl:=Option.some.inj H;go_wp2;go_ret
       exact ⟨by first|rfl|(simp [errW_none,errW_some] <;> rfl)|(simp [*,errW_none,errW_some] <;> rfl),by repeat (first|(with_reducible first|exact HB.out|apply bwA|apply pwbN|apply bw1|refine below_set ?_ GE101.out)|exact HB.out)⟩
      ·replace c20:=Bool.eq_false_iff.mpr c20;subst c20;have H1:((creelref_has.f kj15 a0_3 0).bind fun t102=>(if t102 = true then (some 3) else ((creelref_has.f kj15 a0_4 0).bind fun t103=>(if t103 = true then (some 3) else ((creelref_TimeFault.f a0_5 a0_6).bind fun t104=>(some t104)))))) = some r:=by rw [if_neg (show ¬ (false = true) by decide)] at H;exact H
       clear H;have H:=H1;clear H1;replace H:=Option.bind_eq_some_iff.mp H;obtain ⟨t102,A210,H⟩:=H;replace H:(if t102 = true then (some 3) else ((creelref_has.f kj15 a0_4 0).bind fun t103=>(if t103 = true then (some 3) else ((creelref_TimeFault.f a0_5 a0_6).bind fun t104=>(some t104))))) = some r:=H;have A21:=Aside0.mk A210;clear A210;by_cases c22:t102 = true
       ·subst c22;have H1:(some 3) = some r:=by rw [if_pos rfl] at H;exact H
        clear H;have H:=H1;clear H1;obtain rfl:=Option.some.inj H;obtain ⟨_,_,_,_,_,_,_,_,_,_,_,_,_,_⟩:=blkA7 BK101.out;go_wp2_with (first|((with_reducible refine gate_callee (f:=85) rfl ?_);refine goesL_ (some 43) rfl rfl Tryd.func85 (by kernel_rfl) rfl #[.string a0_3,.int .u8 0] rfl (by (try simp only [List.map_toArray,List.map_cons,List.map_nil]);first|done|rfl|(simp only [List.length_drop,List.length_take];rfl)) ?_;(with_reducible refine (creelref_has.calls kj15 a0_3 0 true _ A21.out).mono ?_);rintro e w' ⟨rfl,⟨nd,rfl⟩⟩;refine ⟨_,rfl,?_⟩))
        go_ret
        exact ⟨by first|rfl|(simp [errW_none,errW_some] <;> rfl)|(simp [*,errW_none,errW_some] <;> rfl),by repeat (first|(with_reducible first|exact HB.out|apply bwA|apply pwbN|apply bw1|refine below_set ?_ GE101.out)|exact HB.out)⟩
       ·replace c22:=Bool.eq_false_iff.mpr c22;subst c22;have H1:((creelref_has.f kj15 a0_4 0).bind fun t103=>(if t103 = true then (some 3) else ((creelref_TimeFault.f a0_5 a0_6).bind fun t104=>(some t104)))) = some r:=by rw [if_neg (show ¬ (false = true) by decide)] at H;exact H
        clear H;have H:=H1;clear H1;replace H:=Option.bind_eq_some_iff.mp H;obtain ⟨t103,A240,H⟩:=H;replace H:(if t103 = true then (some 3) else ((creelref_TimeFault.f a0_5 a0_6).bind fun t104=>(some t104))) = some r:=H;have A24:=Aside0.mk A240;clear A240;by_cases c25:t103 = true
        ·subst c25;have H1:(some 3) = some r:=by rw [if_pos rfl] at H;exact H
         clear H;have H:=H1;clear H1;obtain rfl:=Option.some.inj H;obtain ⟨_,_,_,_,_,_,_,_,_,_,_,_,_,_⟩:=blkA7 BK101.out;go_wp2_with (first|((with_reducible refine gate_callee (f:=85) rfl ?_);refine goesL_ (some 43) rfl rfl Tryd.func85 (by kernel_rfl) rfl #[.string a0_3,.int .u8 0] rfl (by (try simp only [List.map_toArray,List.map_cons,List.map_nil]);first|done|rfl|(simp only [List.length_drop,List.length_take];rfl)) ?_;(with_reducible refine (creelref_has.calls kj15 a0_3 0 false _ A21.out).mono ?_);rintro e w' ⟨rfl,⟨nd,rfl⟩⟩;refine ⟨_,rfl,?_⟩)|(go_at_call 85;(with_reducible refine (creelref_has.calls kj15 a0_4 0 true _ A24.out).mono ?_);rintro e w' ⟨rfl,⟨nd,rfl⟩⟩))
         go_ret
         exact ⟨by first|rfl|(simp [errW_none,errW_some] <;> rfl)|(simp [*,errW_none,errW_some] <;> rfl),by repeat (first|(with_reducible first|exact HB.out|apply bwA|apply pwbN|apply bw1|refine below_set ?_ GE101.out)|exact HB.out)⟩
        ·replace c25:=Bool.eq_false_iff.mpr c25;subst c25;have H1:((creelref_TimeFault.f a0_5 a0_6).bind fun t104=>(some t104)) = some r:=by rw [if_neg (show ¬ (false = true) by decide)] at H;exact H
         clear H;have H:=H1;clear H1;replace H:=Option.bind_eq_some_iff.mp H;obtain ⟨t104,A270,H⟩:=H;replace H:(some t104) = some r:=H;have A27:=Aside0.mk A270;clear A270;obtain rfl:=Option.some.inj H;obtain ⟨_,_,_,_,_,_,_,_,_,_,_,_,_,_⟩:=blkA7 BK101.out;go_wp2_with (first|((with_reducible refine gate_callee (f:=85) rfl ?_);refine goesL_ (some 43) rfl rfl Tryd.func85 (by kernel_rfl) rfl #[.string a0_3,.int .u8 0] rfl (by (try simp only [List.map_toArray,List.map_cons,List.map_nil]);first|done|rfl|(simp only [List.length_drop,List.length_take];rfl)) ?_;(with_reducible refine (creelref_has.calls kj15 a0_3 0 false _ A21.out).mono ?_);rintro e w' ⟨rfl,⟨nd,rfl⟩⟩;refine ⟨_,rfl,?_⟩)|(go_at_call 85;(with_reducible refine (creelref_has.calls kj15 a0_4 0 false _ A24.out).mono ?_);rintro e w' ⟨rfl,⟨nd,rfl⟩⟩)|((with_reducible refine gate_callee (f:=103) rfl ?_);refine goesL_ (some 53) rfl rfl Tryd.func103 (by kernel_rfl) rfl #[.int .i64 a0_5,.int .i64 a0_6] rfl (by (try simp only [List.map_toArray,List.map_cons,List.map_nil]);first|done|rfl|(simp only [List.length_drop,List.length_take];rfl)) ?_;(with_reducible refine (creelref_TimeFault.calls a0_5 a0_6 t104 _ A27.out).mono ?_);rintro e w' ⟨rfl,⟨nd,rfl⟩⟩;refine ⟨_,rfl,?_⟩))
         go_ret
         exact ⟨by first|rfl|(simp [errW_none,errW_some] <;> rfl)|(simp [*,errW_none,errW_some] <;> rfl),by repeat (first|(with_reducible first|exact HB.out|apply bwA|apply pwbN|apply bw1|refine below_set ?_ GE101.out)|exact HB.out)⟩
end Go.Proofs.YtlfeijjilndljaaDoor.All
end
