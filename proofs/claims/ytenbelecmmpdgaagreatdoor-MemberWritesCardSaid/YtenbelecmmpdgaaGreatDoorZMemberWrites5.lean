/- Made by programs of the prover: walks of Go functions, the words that they use, and plain laws, each text in a section of its own; no condition of its own. -/
import Derived.Test.YtenbelecmmpdgaaGreatDoorZMemberWrites2
import Derived.Test.YtenbelecmmpdgaaGreatDoorZMemberWrites3
import Derived.Test.YtenbelecmmpdgaaGreatDoorZMemberWrites4
section
namespace Go.Proofs.YtenbelecmmpdgaaGreatDoor.All
open Go.RowKit Go.Proofs.YtenbelecmmpdgaaGreatDoorW.PrintWords Go.Proofs.YtenbelecmmpdgaaGreatDoorW.PrintLast Go.Proofs.YtenbelecmmpdgaaGreatDoorW.PrintMore
open Go.Proofs.YtenbelecmmpdgaaGreatDoorW.Mine
attribute [local go_sem] gtr_string leq_string geq_string
attribute [local go_sem] max2_int min2_int max_two min_two max_three min_three max_four min_four
set_option linter.unusedVariables false
set_option linter.unusedSimpArgs false
open Go.Proofs.YtenbelecmmpdgaaGreatDoorW.MapOwn
theorem head_Write.sizeB:(Tryz.prog.info? 104).map (·.size) = some 2:=by kernel_rfl
theorem head_Write.liesB:liesAt Tryz.prog Tryz.prog.depth 109 (3 / Tryz.prog.cellsOf 109) 0 104 1 = true:=by kernel_rfl
theorem head_Write.infoB:(Tryz.prog.info? 5).map (fun i=>(i.zero,i.size,i.bytes)) = some (some (.int .u8 0),1,1):=by kernel_rfl
def head_Write.PenAt (B b:Nat) (p:Value) (bs:List Value) (e:Int) (w:World):Prop :=
 B ≤ b∧∃ v,w.heap[b]? = some (.cells #[p,v,.int .i64 e] 109 (0,0))∧w.ownsRow B 5 1 v bs.length bs∧v.ownBlock ≠ some b
def head_Write.IsPen (B b:Nat) (bs:List Value) (e:Int) (w:World):Prop :=
 head_Write.PenAt B b (.pointer none) bs e w ∨ head_Write.PenAt B b (.pointer (some ⟨b,0,none⟩)) bs e w
theorem head_Write.PenAt.lt {B b:Nat} {p:Value} {bs:List Value} {e:Int} {w:World} (h:head_Write.PenAt B b p bs e w):b < w.heap.size:=by
 obtain ⟨_,v,hb,_⟩:=h;exact (Array.getElem?_eq_some_iff.1 hb).1
set_option maxHeartbeats 1000000 in
set_option maxRecDepth 100000 in
theorem head_Write.copy_used (b:Nat) (w:World) (h0:w.cell? ⟨b,0,none⟩ = some (.pointer (some ⟨b,0,none⟩))) :
 Calls Tryz.prog 108 #[.pointer (some ⟨b,0,none⟩)] w fun e w'=>e = .returned (.tuple #[])∧w' = w:=by
 obtain ⟨j,hj,_⟩:=Option.map_eq_some_iff.1 head_Write.sizeB;go_enter Tryz.func108,Tryz.ntmps108;go_wp2;rw [Lib.run_neq_ptr_same w _ Tryz.underlying102 hj];go_wp2;go_end0
 exact ⟨rfl,rfl⟩
set_option maxHeartbeats 1000000 in
set_option maxRecDepth 100000 in
theorem head_Write.copy_fresh (b:Nat) (w:World) (h0:w.cell? ⟨b,0,none⟩ = some (.pointer none)) (hsh:w.shape? b = some (109,3)) (hfz:w.frozen? ⟨b,0,none⟩ = false) :
 Calls Tryz.prog 108 #[.pointer (some ⟨b,0,none⟩)] w fun e w'=>e = .returned (.tuple #[])∧w' = w.setCell ⟨b,0,none⟩ (.pointer (some ⟨b,0,none⟩)):=by
 obtain ⟨j,hj,hjs⟩:=Option.map_eq_some_iff.1 head_Write.sizeB;go_enter Tryz.func108,Tryz.ntmps108;go_wp2;rw [Lib.run_to_unsafe w ⟨b,0,none⟩ Tryz.underlying102 Tryz.underlying181 hj (by rw [hjs];decide) hsh (by show 0 < 3;omega)];simp only [Result.andThen];rw [Oper.upon_value];go_wp2;rw [run_callFunc_extern Tryz.func158 (by kernel_rfl) (by kernel_rfl) (by kernel_rfl) (e:=Extern.AbiNoEscape.same) (by kernel_rfl)];rw [Lib.run_noEscape];simp only [Result.andThen];rw [Oper.upon_value];go_wp2;rw [Lib.run_from_unsafe w ⟨b,0,none⟩ Tryz.underlying181 Tryz.underlying102 hj hsh head_Write.liesB];simp only [Result.andThen];rw [Oper.upon_value];go_wp2;go_end0
 exact ⟨rfl,rfl⟩
theorem head_Write.copy (B b:Nat) (bs:List Value) (x:Int) (w:World) (h:head_Write.IsPen B b bs x w) :
 Calls Tryz.prog 108 #[.pointer (some ⟨b,0,none⟩)] w fun e w'=>e = .returned (.tuple #[])∧(head_Write.PenAt B b (.pointer (some ⟨b,0,none⟩)) bs x w'∧Below B w w'):=by
 rcases h with h|h
 ·have hlt:=h.lt;obtain ⟨hB,v,hb,hown,hne⟩:=h;refine (head_Write.copy_fresh b w (by rw [Lib.cell_of_heap hb];rfl) (by simp [World.shape?,hb]) (Lib.frozen_of_heap hb 0)).mono ?_;rintro e w' ⟨rfl,rfl⟩;refine ⟨rfl,⟨hB,v,?_,?_,hne⟩,(Below.refl B w).setCell (p:=⟨b,0,none⟩) hB _⟩
  ·simp [World.setCell,Array.getElem?_modify,hb]
  ·exact hown.kept (row:=some b) ⟨rfl,rfl,rfl,by simp [World.setCell],fun k _ hk=>Below.heap_setCell _ _ _ _ (fun e=>hk (by simp [e]))⟩ (Or.inr hne)
 ·have hc:w.cell? ⟨b,0,none⟩ = some (.pointer (some ⟨b,0,none⟩)):=by
   obtain ⟨_,v,hb,_⟩:=h;rw [Lib.cell_of_heap hb];rfl
  refine (head_Write.copy_used b w hc).mono ?_;rintro e w' ⟨rfl,rfl⟩;exact ⟨rfl,h,Below.refl B _⟩
set_option maxHeartbeats 2000000 in
set_option maxRecDepth 100000 in
theorem head_Write.writeString (B b:Nat) (bs:List Value) (x:Int) (s:ByteArray) (w:World) (h:head_Write.IsPen B b bs x w) (hlen:bs.length + s.size ≤ 140737488355328) (hBw:B ≤ w.heap.size) :
 Calls Tryz.prog 65 #[.pointer (some ⟨b,0,none⟩),.string s] w fun e w'=>e = .returned (.tuple #[.int .i64 s.size,.nilIface])∧(head_Write.PenAt B b (.pointer (some ⟨b,0,none⟩)) (bs ++ Lib.strCells s) x w'∧Below B w w'):=by
 obtain ⟨i0,hi,hz0,hz1,hz2⟩:=info_parts head_Write.infoB;go_enter Tryz.func65,Tryz.ntmps65;go_wp2_with (go_at_call 108;refine (head_Write.copy B b bs x _ h).mono ?_)
 rintro e w1 ⟨rfl,h1,hb1⟩;obtain ⟨hB,v,hbk,hown,hne⟩:=h1;have c0:w1.cell? ⟨b,0,none⟩ = some (.pointer (some ⟨b,0,none⟩)):=by rw [Lib.cell_of_heap hbk];rfl
 have c1:w1.cell? ⟨b,1,none⟩ = some v:=by rw [Lib.cell_of_heap hbk];rfl
 go_wp2_with (at_builtin;refine Lib.wpList_append_own_string _ rfl _ _ 24 9 rfl B 5 i0 Tryz.underlying24 Tryz.underlying9 hi hz0 hz1 hz2 _ _ _ rfl hown s rfl ?c3 ?c4 ?c5 ?_)
 case c3=>unfold maxLen;omega
 case c4=>omega
 case c5=>have:=hb1.size;omega
 intro v' w2 hown' hgrow _;have hlt:b < w1.heap.size:=(Array.getElem?_eq_some_iff.1 hbk).1;have hb2:w2.heap[b]? = some (.cells #[.pointer (some ⟨b,0,none⟩),v,.int .i64 x] 109 (0,0)):=by
  rw [hgrow.block b hlt (fun e=>hne e.symm)];exact hbk
 have d0:w2.cell? ⟨b,0,none⟩ = some (.pointer (some ⟨b,0,none⟩)):=by rw [Lib.cell_of_heap hb2];rfl
 have d1:w2.cell? ⟨b,1,none⟩ = some v:=by rw [Lib.cell_of_heap hb2];rfl
 have f1:w2.frozen? ⟨b,1,none⟩ = false:=Lib.frozen_of_heap hb2 1;obtain ⟨ao,n',cap,rfl⟩:∃ ao n' cap,v' = .slice ao n' cap:=by
  rcases hown'.2 with ⟨hv,_⟩|⟨g,cap,cur,hv,_⟩
  ·exact ⟨_,_,_,hv⟩
  ·exact ⟨_,_,_,hv⟩
 go_wp2;go_ret2
 have hne2:=Lib.ownBlock_ne hown' hb2 (by decide);refine ⟨rfl,⟨hB,_,?_,?_,hne2⟩,?_⟩
 ·simp [World.setCell,Array.getElem?_modify,hb2]
 ·have hk:=hown'.kept (w':=w2.setCell ⟨b,1,none⟩ (.slice ao n' cap)) (row:=some b) ⟨rfl,rfl,rfl,by simp [World.setCell],fun k _ hk=>Below.heap_setCell _ _ _ _ (fun e=>hk (by simp [e]))⟩ (Or.inr hne2);simpa [Lib.strCells_length] using hk
 ·exact (hb1.grown hgrow (by have:=hb1.size;omega) (fun k hk=>(hown.lt k hk).1)).setCell (p:=⟨b,1,none⟩) hB _
set_option maxHeartbeats 2000000 in
set_option maxRecDepth 100000 in
theorem head_Write.put (B b:Nat) (bs:List Value) (x:Int) (s:ByteArray) (e1:Int) (w:World) (h:head_Write.IsPen B b bs x w) (hlen:bs.length + s.size ≤ 140737488355328) (hBw:B ≤ w.heap.size) :
 Calls Tryz.prog 67 #[.pointer (some ⟨b,0,none⟩),.string s,.int .i64 e1] w fun e w'=>e = .returned (.tuple #[])∧(head_Write.IsPen B b (if x = 0 then bs ++ Lib.strCells s else bs) (if x = 0 then e1 else x) w'∧Below B w w'):=by
 obtain ⟨p,h1,hp⟩:∃ p,head_Write.PenAt B b p bs x w∧(p = .pointer none ∨ p = .pointer (some ⟨b,0,none⟩)):=by
  rcases h with h|h
  ·exact ⟨_,h,Or.inl rfl⟩
  ·exact ⟨_,h,Or.inr rfl⟩
 obtain ⟨hB,v,hbk,hown,hne⟩:=h1;have c2:w.cell? ⟨b,2,none⟩ = some (.int .i64 x):=by rw [Lib.cell_of_heap hbk];rfl
 have f2:w.frozen? ⟨b,2,none⟩ = false:=Lib.frozen_of_heap hbk 2;by_cases hx:x = 0
 ·subst hx;rw [if_pos rfl,if_pos rfl];have hP:head_Write.IsPen B b bs e1 (w.setCell ⟨b,2,none⟩ (.int .i64 e1)):=by
   have hk:(w.setCell ⟨b,2,none⟩ (.int .i64 e1)).heap[b]? = some (.cells #[p,v,.int .i64 e1] 109 (0,0)):=by
    simp [World.setCell,Array.getElem?_modify,hbk]
   have ho:=hown.kept (w':=w.setCell ⟨b,2,none⟩ (.int .i64 e1)) (row:=some b) ⟨rfl,rfl,rfl,by simp [World.setCell],fun k _ hk=>Below.heap_setCell _ _ _ _ (fun e=>hk (by simp [e]))⟩ (Or.inr hne);rcases hp with rfl|rfl
   ·exact Or.inl ⟨hB,v,hk,ho,hne⟩
   ·exact Or.inr ⟨hB,v,hk,ho,hne⟩
  have HP:=Aside0.mk hP;have hbw:=(Below.refl B w).setCell (p:=⟨b,2,none⟩) hB (.int .i64 e1);have HW:=Aside0.mk hbw;clear hP hbw h hown hbk hne hp;go_enter Tryz.func67,Tryz.ntmps67;go_wp2_with (go_at_call 65;refine (head_Write.writeString B b bs e1 s _ HP.out hlen (Nat.le_trans hBw HW.out.size)).mono ?_;rintro e w1 ⟨rfl,hat,hb1⟩;have H1:=Aside0.mk hat;have H2:=Aside0.mk hb1;clear hat hb1)
  go_end0
  exact ⟨rfl,Or.inr H1.out,HW.out.trans H2.out⟩
 ·rw [if_neg hx,if_neg hx];have hx0:(x == 0) = false:=beq_eq_false_iff_ne.2 hx;have HP:=Aside0.mk h;clear h hown hbk hne hp hx;go_enter Tryz.func67,Tryz.ntmps67;go_wp2;go_end0
  exact ⟨rfl,HP.out,Below.refl B w⟩
theorem head_Write.cellsB:Tryz.prog.cellsOf 5 = 1:=by kernel_rfl
set_option maxHeartbeats 1000000 in
set_option maxRecDepth 100000 in
theorem head_Write.str (B b:Nat) (l:List UInt8) (x:Int) (w:World) (h:head_Write.IsPen B b (Lib.byteCells l) x w) (h0:l ≠ []) :
 Calls Tryz.prog 66 #[.pointer (some ⟨b,0,none⟩)] w fun e w'=>e = .returned (.string ⟨l.toArray⟩)∧Below B w w':=by
 obtain ⟨p,hB,v,hbk,hown,hne⟩:∃ p,head_Write.PenAt B b p (Lib.byteCells l) x w:=by
  rcases h with h|h
  ·exact ⟨_,h⟩
  ·exact ⟨_,h⟩
 have hl0:l.length ≠ 0:=by simpa using h0
 rw [Lib.byteCells_length] at hown;obtain ⟨g,cap,cur,rfl,hbg,hg,hnc,hcm,hcs,htake⟩:∃ g cap cur,v = .slice (some ⟨g,0,none⟩) l.length cap∧B ≤ g∧w.heap[g]? = some (.cells cur 5 (0,0))∧l.length ≤ cap∧cap ≤ maxLen∧cur.size = cap * 1∧cur.toList.take (l.length * 1) = Lib.byteCells l:=by
  rcases hown.2 with ⟨_,hz⟩|⟨g,cap,cur,hv,r⟩
  ·exact absurd hz hl0
  ·exact ⟨g,cap,cur,hv,r⟩
 have c1:w.drew.cell? ⟨b,1,none⟩ = some (.slice (some ⟨g,0,none⟩) l.length cap):=by
  have:w.drew.heap[b]? = some (.cells #[p,.slice (some ⟨g,0,none⟩) l.length cap,.int .i64 x] 109 (0,0)):=hbk;rw [Lib.cell_of_heap this];rfl
 have hSD:(Builtin.unsafeSliceData_ #[24] 140 #[.slice (some ⟨g,0,none⟩) l.length cap]).run Tryz.prog w.drew = .ok (.pointer (some ⟨g,0,none⟩)) w.drew :=
  Lib.run_unsafeSliceData_row _ _ _ _ _ _ (by omega)
 have hUS:(Builtin.unsafeString_ #[140,3] 9 #[.pointer (some ⟨g,0,none⟩),.int .i64 l.length]).run Tryz.prog w.drew = .ok (.string ⟨l.toArray⟩) (w.drew.freeze ⟨g,0,none⟩ l.length):=by
  refine Lib.run_unsafeString_row w.drew 140 3 9 5 Tryz.underlying140 head_Write.cellsB g cur.size (by have hg':w.drew.heap[g]? = some (.cells cur 5 (0,0)):=hg;simp [World.shape?,hg']) l h0 (by omega) (by unfold maxLen at hcm;omega) ?_;intro j x hx;have:=hown.cells (g:=g) rfl j (.int .u8 x.toNat) (by simp [Lib.byteCells,hx]);exact this
 have mixed:Tryz.prog.follows Departure.mixedOrders = true:=by kernel_rfl
 go_enter Tryz.func66,Tryz.ntmps66;go_wp2;go_region_o
 all_goals (go_wp2;go_ret;exact ⟨rfl,Lib.below_freeze (Below.drew (Below.refl B w)) (p:=⟨g,0,none⟩) hbg _⟩)
def head_Write.pt (q:Int × ByteArray) (s:ByteArray) (e:Int):Int × ByteArray:=if q.1 = 0 then (e,q.2 ++ s) else q
def head_Write.blank (t:Int):ByteArray:=(⟨#[32,32,32,32,32,32,32,32]⟩:ByteArray) ++ strOfNums [t]
def head_Write.tail (k:Nat) (q:Int × ByteArray):Option (ByteArray × Int):=if q.1 = 0 then ((head_Sum.f k q.2).bind fun n=>(octal_Write.f k n.1 7).bind fun u=>if 156 ≤ q.2.size∧u.1.size ≤ 10000∧q.2.size ≤ 1000000 then some (q.2.extract 0 148 ++ u.1 ++ (⟨#[32]⟩:ByteArray) ++ q.2.extract 156 q.2.size,0) else none) else some ((⟨#[]⟩:ByteArray),q.1)
def head_Write.f (k:Nat) (a0_0:ByteArray) (a0_1:ByteArray) (a0_2:ByteArray) (a0_3:Int) (a0_4:Int) (a0_5:Int) (a0_6:Int) (a0_7:Int) (a0_8:Int) (a0_9:ByteArray) (a0_10:ByteArray):Option (ByteArray × Int):=(strings_IndexByte.f (⟨#[48,49,50,53,120]⟩:ByteArray) a0_8).bind fun b=>if b < 0 then some ((⟨#[]⟩:ByteArray),2) else ((field_Write.f k a0_0 100 true).bind fun r1=>(octal_Write.f k a0_3 8).bind fun r2=>(octal_Write.f k a0_4 8).bind fun r3=>(octal_Write.f k a0_5 8).bind fun r4=>(octal_Write.f k a0_6 12).bind fun r5=>(octal_Write.f k a0_7 12).bind fun r6=>(field_Write.f k a0_2 100 true).bind fun r7=>(field_Write.f k a0_9 32 false).bind fun r8=>(field_Write.f k a0_10 32 false).bind fun r9=>(field_Write.f k a0_1 155 true).bind fun r10=>(strings_Repeat.f (⟨#[0]⟩:ByteArray) 12).bind fun z=>if r1.1.size + r2.1.size + r3.1.size + r4.1.size + r5.1.size + r6.1.size + r7.1.size + r8.1.size + r9.1.size + r10.1.size + z.size ≤ 100000 then head_Write.tail k (head_Write.pt (head_Write.pt (head_Write.pt (head_Write.pt (head_Write.pt (head_Write.pt (head_Write.pt (head_Write.pt (head_Write.pt (head_Write.pt (head_Write.pt (head_Write.pt (head_Write.pt (head_Write.pt ((0,(⟨#[]⟩:ByteArray)):Int × ByteArray) r1.1 r1.2) r2.1 r2.2) r3.1 r3.2) r4.1 r4.2) r5.1 r5.2) r6.1 r6.2) (head_Write.blank a0_8) 0) r7.1 r7.2) ((⟨#[117,115,116,97,114,0,48,48]⟩:ByteArray)) 0) r8.1 r8.2) r9.1 r9.2) ((⟨#[48,48,48,48,48,48,48,0,48,48,48,48,48,48,48,0]⟩:ByteArray)) 0) r10.1 r10.2) (z) 0) else none)
theorem head_Write.pt_size (q:Int × ByteArray) (s:ByteArray) (e:Int):(head_Write.pt q s e).2.size ≤ q.2.size + s.size:=by
 unfold head_Write.pt;split
 ·simp [ByteArray.size_append]
 ·omega
theorem head_Write.blank_size (t:Int):(head_Write.blank t).size = 9:=by simp [head_Write.blank,strOfNums,ByteArray.size_append];rfl
theorem head_Write.keep {B b:Nat} {bs:List Value} {x:Int} {w w':World} (h:head_Write.IsPen B b bs x w) (hb:Below w.heap.size w w'):head_Write.IsPen B b bs x w':=by
 rcases h with h|h
 ·have hlt:=h.lt;obtain ⟨hB,v,hbk,hown,hne⟩:=h;exact Or.inl ⟨hB,v,(hb.block b hlt).trans hbk,hown.kept (row:=none) ⟨hb.os,hb.tape,hb.output,hb.size,fun k hk _=>hb.block k hk⟩ (by cases hv:v.ownBlock <;> simp),hne⟩
 ·have hlt:=h.lt;obtain ⟨hB,v,hbk,hown,hne⟩:=h;exact Or.inr ⟨hB,v,(hb.block b hlt).trans hbk,hown.kept (row:=none) ⟨hb.os,hb.tape,hb.output,hb.size,fun k hk _=>hb.block k hk⟩ (by cases hv:v.ownBlock <;> simp),hne⟩
def head_Write.St (w W:World) (B:Nat) (H:Array Value) (gb gp:Nat) (q:Int × ByteArray) (n:Nat):Prop :=
 (w.heap.size ≤ gb∧gb < B∧B ≤ W.heap.size∧q.2.size ≤ n)∧W.heap[gb]? = some (.cells H 55 (0,0))∧head_Write.IsPen B gp (Lib.strCells q.2) q.1 W∧Below w.heap.size w W
theorem head_Write.St.step {w W W':World} {B:Nat} {H:Array Value} {gb gp:Nat} {q:Int × ByteArray} {n:Nat} (h:head_Write.St w W B H gb gp q n) (hb:Below W.heap.size W W'):head_Write.St w W' B H gb gp q n:=by
 obtain ⟨⟨h0,h1,h2,h6⟩,h3,h4,h5⟩:=h;exact ⟨⟨h0,h1,Nat.le_trans h2 hb.size,h6⟩,blk_below h3 hb,head_Write.keep h4 hb,below_step h5 hb⟩
theorem head_Write.St.start {w w1 w2:World} {H:Array Value} {gb gp nd:Nat} (hg:gb = w.heap.size) (hk:w1.heap[gb]? = some (.cells H 55 (0,0))) (hb:Below w.heap.size w w1) (hg2:gp = (w1.drewN nd).heap.size) (hk2:w2.heap[gp]? = some (.cells #[.pointer none,.slice none 0 0,.int .i64 0] 109 (0,0))) (hb2:Below (w1.drewN nd).heap.size (w1.drewN nd) w2):head_Write.St w w2 w1.heap.size H gb gp (0,(⟨#[]⟩:ByteArray)) 0:=by
 have l1:gb < w1.heap.size:=blk_lt hk;refine ⟨⟨by omega,l1,hb2.size,Nat.le_refl _⟩,blk_below (show (w1.drewN nd).heap[gb]? = _ from hk) hb2,Or.inl ⟨by rw [hg2];exact Nat.le_refl _,.slice none 0 0,hk2,⟨rfl,Or.inl ⟨rfl,rfl⟩⟩,by simp [Value.ownBlock]⟩,below_step (pwbN hb nd) hb2⟩
theorem head_Write.putS (w W:World) (B:Nat) (H:Array Value) (gb gp:Nat) (q:Int × ByteArray) (n:Nat) (s:ByteArray) (e1:Int) (hS:head_Write.St w W B H gb gp q n) (hlen:n + s.size ≤ 140737488355328) :
 Calls Tryz.prog 67 #[.pointer (some ⟨gp,0,none⟩),.string s,.int .i64 e1] W fun e w'=>e = .returned (.tuple #[])∧head_Write.St w w' B H gb gp (head_Write.pt q s e1) (n + s.size):=by
 obtain ⟨⟨h0,h1,h2,h6⟩,h3,h4,h5⟩:=hS;refine (head_Write.put B gp (Lib.strCells q.2) q.1 s e1 W h4 (by rw [Lib.strCells_length];omega) h2).mono ?_;rintro e w' ⟨rfl,hp,hb⟩;refine ⟨rfl,⟨h0,h1,Nat.le_trans h2 hb.size,Nat.le_trans (head_Write.pt_size q s e1) (Nat.add_le_add_right h6 _)⟩,(hb.block gb h1).trans h3,?_,h5.trans (hb.mono (by omega))⟩;unfold head_Write.pt;by_cases hq:q.1 = 0
 ·rw [if_pos hq,if_pos hq] at hp;rw [if_pos hq,show Lib.strCells ((e1,q.2 ++ s):Int × ByteArray).2 = Lib.strCells q.2 ++ Lib.strCells s from by simp [Lib.strCells]];exact hp
 ·rw [if_neg hq,if_neg hq] at hp;rw [if_neg hq];exact hp
theorem head_Write.errAt {w W:World} {B:Nat} {H:Array Value} {gb gp:Nat} {q:Int × ByteArray} {n:Nat} (h:head_Write.St w W B H gb gp q n):W.cell? ⟨gp,2,none⟩ = some (.int .i64 q.1):=by
 obtain ⟨_,_,h4,_⟩:=h;rcases h4 with ⟨_,v,hb,_⟩|⟨_,v,hb,_⟩ <;> exact (blk_cell hb 2).trans rfl
theorem head_Write.strS (w W:World) (B:Nat) (H:Array Value) (gb gp:Nat) (q:Int × ByteArray) (n:Nat) (hS:head_Write.St w W B H gb gp q n) (h0:0 < q.2.size) :
 Calls Tryz.prog 66 #[.pointer (some ⟨gp,0,none⟩)] W fun e w'=>e = .returned (.string q.2)∧Below w.heap.size w w':=by
 obtain ⟨⟨i0,i1,i2,i6⟩,i3,i4,i5⟩:=hS;refine (head_Write.str B gp q.2.data.toList q.1 W i4 (fun e=>?_)).mono ?_
 ·have h3:q.2.size = q.2.data.toList.length:=rfl;rw [e,List.length_nil] at h3;omega
 ·rintro e w' ⟨rfl,hb⟩;exact ⟨rfl,i5.trans (hb.mono (by omega))⟩
theorem head_Write.ix30 (x y z:Value) (w:World):(Instr.index 112 (.agg #[x,y,z]) (.int .i64 0)).run Tryz.prog w = .ok x w:=by kernel_rfl
theorem head_Write.ix31 (x y z:Value) (w:World):(Instr.index 112 (.agg #[x,y,z]) (.int .i64 1)).run Tryz.prog w = .ok y w:=by kernel_rfl
theorem head_Write.ix32 (x y z:Value) (w:World):(Instr.index 112 (.agg #[x,y,z]) (.int .i64 2)).run Tryz.prog w = .ok z w:=by kernel_rfl
theorem head_Write.ix20 (x y:Value) (w:World):(Instr.index 113 (.agg #[x,y]) (.int .i64 0)).run Tryz.prog w = .ok x w:=by kernel_rfl
theorem head_Write.ix21 (x y:Value) (w:World):(Instr.index 113 (.agg #[x,y]) (.int .i64 1)).run Tryz.prog w = .ok y w:=by kernel_rfl
theorem head_Write.conv1 (W:World) (x:Int):(convert 24 9 (.slice (some ⟨W.heap.size,0,none⟩) 1 1)).run Tryz.prog (W.alloc (.cells #[.int .u8 x] 5 (0,0))) = .ok (.string (strOfNums [x])) (W.alloc (.cells #[.int .u8 x] 5 (0,0))):=by
 refine string_of_reads (xs:=[x]) Tryz.underlying24 Tryz.underlying5 Tryz.underlying9 ⟨rfl,by decide,fun _=>⟨⟨W.heap.size,0,none⟩,rfl,fun j hj=>?_⟩⟩;obtain rfl:j = 0:=by omega
 exact (blk_cell (blk_new W _) 0).trans rfl
set_option maxHeartbeats 8000000 in
set_option maxRecDepth 100000 in
theorem head_Write.calls (k:Nat) (a0_0:ByteArray) (a0_1:ByteArray) (a0_2:ByteArray) (a0_3:Int) (a0_4:Int) (a0_5:Int) (a0_6:Int) (a0_7:Int) (a0_8:Int) (a0_9:ByteArray) (a0_10:ByteArray) (x1:ByteArray) (x2:Int) (w:World) (h:head_Write.f k a0_0 a0_1 a0_2 a0_3 a0_4 a0_5 a0_6 a0_7 a0_8 a0_9 a0_10 = some (x1,x2)) :
 Calls Tryz.prog 29 #[.agg #[.string a0_0,.string a0_1,.string a0_2,.int .i64 a0_3,.int .i64 a0_4,.int .i64 a0_5,.int .i64 a0_6,.int .i64 a0_7,.int .u8 a0_8,.string a0_9,.string a0_10]] w fun e w'=>e = .returned (.tuple #[.string x1,.int .i64 x2])∧Below w.heap.size w w':=by
 unfold head_Write.f at h;obtain ⟨b,A0,h2⟩:=Option.bind_eq_some_iff.mp h;clear h;have h:=h2;clear h2;have HA0:=Aside0.mk A0;clear A0;by_cases hb0:b < 0
 ·rw [if_pos hb0] at h;simp only [Option.some.injEq,Prod.mk.injEq] at h;obtain ⟨rfl,rfl⟩:=h;have hb0b:=decide_eq_true hb0;clear hb0;go_enter Tryz.func29,Tryz.ntmps29;go_wp2_with (first|((with_reducible refine gate_dst (N:=1) rfl ?_);refine box_event ?hg (N:=1) ?hd (cs:=#[.string a0_0,.string a0_1,.string a0_2,.int .i64 a0_3,.int .i64 a0_4,.int .i64 a0_5,.int .i64 a0_6,.int .i64 a0_7,.int .u8 a0_8,.string a0_9,.string a0_10]) (t:=55) ?hr ?_;(case hd=>rfl);(case hg=>rfl);(case hr=>first|(go_simp;done)|(go_simp;rfl));intro gb hg w1 hbox hb1;have HG:=Aside0.mk hg;have HK:=Aside0.mk hbox;have HB1:=Aside0.mk hb1;have hc8:w1.cell? ⟨gb,8,none⟩ = some (.int .u8 a0_8):=(blk_cell HK.out 8).trans rfl;clear hg hbox hb1)|(go_at_call 56;refine (strings_IndexByte.calls _ _ b _ HA0.out).mono ?_;rintro e w2 ⟨rfl,nd,rfl⟩))
  go_ret2
  exact ⟨rfl,pwbN HB1.out nd⟩
 ·rw [if_neg hb0] at h;have hb0b:=decide_eq_false hb0;clear hb0;obtain ⟨r1,Ar1,h2⟩:=Option.bind_eq_some_iff.mp h;clear h;have h:=h2;clear h2;obtain ⟨r2,Ar2,h2⟩:=Option.bind_eq_some_iff.mp h;clear h;have h:=h2;clear h2;obtain ⟨r3,Ar3,h2⟩:=Option.bind_eq_some_iff.mp h;clear h;have h:=h2;clear h2;obtain ⟨r4,Ar4,h2⟩:=Option.bind_eq_some_iff.mp h;clear h;have h:=h2;clear h2;obtain ⟨r5,Ar5,h2⟩:=Option.bind_eq_some_iff.mp h;clear h;have h:=h2;clear h2;obtain ⟨r6,Ar6,h2⟩:=Option.bind_eq_some_iff.mp h;clear h;have h:=h2;clear h2;obtain ⟨r7,Ar7,h2⟩:=Option.bind_eq_some_iff.mp h;clear h;have h:=h2;clear h2;obtain ⟨r8,Ar8,h2⟩:=Option.bind_eq_some_iff.mp h;clear h;have h:=h2;clear h2;obtain ⟨r9,Ar9,h2⟩:=Option.bind_eq_some_iff.mp h;clear h;have h:=h2;clear h2;obtain ⟨r10,Ar10,h2⟩:=Option.bind_eq_some_iff.mp h;clear h;have h:=h2;clear h2;obtain ⟨z,Az,h2⟩:=Option.bind_eq_some_iff.mp h;clear h;have h:=h2;clear h2;by_cases hsz:r1.1.size + r2.1.size + r3.1.size + r4.1.size + r5.1.size + r6.1.size + r7.1.size + r8.1.size + r9.1.size + r10.1.size + z.size ≤ 100000
  ·rw [if_pos hsz] at h;have HH:=Aside0.mk h;have HZ:=Aside0.mk hsz;clear h hsz;have Hr1:=Aside0.mk Ar1;clear Ar1;have Hr2:=Aside0.mk Ar2;clear Ar2;have Hr3:=Aside0.mk Ar3;clear Ar3;have Hr4:=Aside0.mk Ar4;clear Ar4;have Hr5:=Aside0.mk Ar5;clear Ar5;have Hr6:=Aside0.mk Ar6;clear Ar6;have Hr7:=Aside0.mk Ar7;clear Ar7;have Hr8:=Aside0.mk Ar8;clear Ar8;have Hr9:=Aside0.mk Ar9;clear Ar9;have Hr10:=Aside0.mk Ar10;clear Ar10;have Hz:=Aside0.mk Az;clear Az;go_enter Tryz.func29,Tryz.ntmps29;go_upto_region 4 with (first|((with_reducible refine gate_dst (N:=1) rfl ?_);refine box_event ?hg (N:=1) ?hd (cs:=#[.string a0_0,.string a0_1,.string a0_2,.int .i64 a0_3,.int .i64 a0_4,.int .i64 a0_5,.int .i64 a0_6,.int .i64 a0_7,.int .u8 a0_8,.string a0_9,.string a0_10]) (t:=55) ?hr ?_;(case hd=>rfl);(case hg=>rfl);(case hr=>first|(go_simp;done)|(go_simp;rfl));intro gb hg w1 hbox hb1;have HG:=Aside0.mk hg;have HK:=Aside0.mk hbox;have HB1:=Aside0.mk hb1;have hc8:w1.cell? ⟨gb,8,none⟩ = some (.int .u8 a0_8):=(blk_cell HK.out 8).trans rfl;clear hg hbox hb1)|(go_at_call 56;refine (strings_IndexByte.calls _ _ b _ HA0.out).mono ?_;rintro e w2 ⟨rfl,nd,rfl⟩)|((with_reducible refine gate_dst (N:=19) rfl ?_);refine box_event ?hg (N:=19) ?hd (cs:=#[.pointer none,.slice none 0 0,.int .i64 0]) (t:=109) ?hr ?_;(case hd=>rfl);(case hg=>rfl);(case hr=>first|(go_simp;done)|(go_simp;rfl));intro gp hg w3 hbox3 hb3;have HG3:=Aside0.mk hg;have HK3:=Aside0.mk hbox3;have HB3:=Aside0.mk hb3;clear hg hbox3 hb3))
   have HS:=Aside0.mk (head_Write.St.start HG.out HK.out HB1.out HG3.out HK3.out HB3.out);clear HG HK HB1 HG3 HK3 HB3 HA0 hc8;have hv0:=blk_cell HS.out.2.1 0;have hv1:=blk_cell HS.out.2.1 1;have hv2:=blk_cell HS.out.2.1 2;have hv3:=blk_cell HS.out.2.1 3;have hv4:=blk_cell HS.out.2.1 4;have hv5:=blk_cell HS.out.2.1 5;have hv6:=blk_cell HS.out.2.1 6;have hv7:=blk_cell HS.out.2.1 7;have hv8:=blk_cell HS.out.2.1 8;have hv9:=blk_cell HS.out.2.1 9;have hv10:=blk_cell HS.out.2.1 10;go_wp2_with (first|(go_at_call 68;(first|(with_reducible refine (field_Write.calls k a0_0 100 true r1.1 r1.2 _ Hr1.out).mono ?_)|(with_reducible refine (field_Write.calls k a0_2 100 true r7.1 r7.2 _ Hr7.out).mono ?_)|(with_reducible refine (field_Write.calls k a0_9 32 false r8.1 r8.2 _ Hr8.out).mono ?_)|(with_reducible refine (field_Write.calls k a0_10 32 false r9.1 r9.2 _ Hr9.out).mono ?_)|(with_reducible refine (field_Write.calls k a0_1 155 true r10.1 r10.2 _ Hr10.out).mono ?_));rintro e w8 ⟨rfl,hb8⟩;have HS8:=Aside0.mk (HS.out.step hb8);clear HS hb8;have HS:=HS8;clear HS8;have hv0:=blk_cell HS.out.2.1 0;have hv1:=blk_cell HS.out.2.1 1;have hv2:=blk_cell HS.out.2.1 2;have hv3:=blk_cell HS.out.2.1 3;have hv4:=blk_cell HS.out.2.1 4;have hv5:=blk_cell HS.out.2.1 5;have hv6:=blk_cell HS.out.2.1 6;have hv7:=blk_cell HS.out.2.1 7;have hv8:=blk_cell HS.out.2.1 8;have hv9:=blk_cell HS.out.2.1 9;have hv10:=blk_cell HS.out.2.1 10)|(go_at_call 67;(with_reducible refine (head_Write.putS w _ w1.heap.size #[.string a0_0,.string a0_1,.string a0_2,.int .i64 a0_3,.int .i64 a0_4,.int .i64 a0_5,.int .i64 a0_6,.int .i64 a0_7,.int .u8 a0_8,.string a0_9,.string a0_10] gb gp _ _ _ _ HS.out ?hlen).mono ?_);(case hlen=>exact (by have h1:=HZ.out;have h3:=head_Write.blank_size a0_8;have h4:(⟨#[117,115,116,97,114,0,48,48]⟩:ByteArray).size = 8:=rfl;have h5:(⟨#[48,48,48,48,48,48,48,0,48,48,48,48,48,48,48,0]⟩:ByteArray).size = 16:=rfl;have h6:((⟨#[32,32,32,32,32,32,32,32]⟩:ByteArray) ++ strOfNums [a0_8]).size = 9:=h3;omega));rintro e w9 ⟨rfl,hS⟩;have HS9:=Aside0.mk hS;clear HS hS;have HS:=HS9;clear HS9;have hv0:=blk_cell HS.out.2.1 0;have hv1:=blk_cell HS.out.2.1 1;have hv2:=blk_cell HS.out.2.1 2;have hv3:=blk_cell HS.out.2.1 3;have hv4:=blk_cell HS.out.2.1 4;have hv5:=blk_cell HS.out.2.1 5;have hv6:=blk_cell HS.out.2.1 6;have hv7:=blk_cell HS.out.2.1 7;have hv8:=blk_cell HS.out.2.1 8;have hv9:=blk_cell HS.out.2.1 9;have hv10:=blk_cell HS.out.2.1 10))
   go_loopg [34] 3 (fun g sx wx=>(g = 3∧sx = .int .i64 0∧Aside0 (head_Write.St w wx w1.heap.size #[.string a0_0,.string a0_1,.string a0_2,.int .i64 a0_3,.int .i64 a0_4,.int .i64 a0_5,.int .i64 a0_6,.int .i64 a0_7,.int .u8 a0_8,.string a0_9,.string a0_10] gb gp (head_Write.pt ((0,(⟨#[]⟩:ByteArray)):Int × ByteArray) r1.1 r1.2) (0 + r1.1.size))) ∨ (g = 2∧sx = .int .i64 1∧Aside0 (head_Write.St w wx w1.heap.size #[.string a0_0,.string a0_1,.string a0_2,.int .i64 a0_3,.int .i64 a0_4,.int .i64 a0_5,.int .i64 a0_6,.int .i64 a0_7,.int .u8 a0_8,.string a0_9,.string a0_10] gb gp (head_Write.pt (head_Write.pt ((0,(⟨#[]⟩:ByteArray)):Int × ByteArray) r1.1 r1.2) r2.1 r2.2) ((0 + r1.1.size) + r2.1.size))) ∨ (g = 1∧sx = .int .i64 2∧Aside0 (head_Write.St w wx w1.heap.size #[.string a0_0,.string a0_1,.string a0_2,.int .i64 a0_3,.int .i64 a0_4,.int .i64 a0_5,.int .i64 a0_6,.int .i64 a0_7,.int .u8 a0_8,.string a0_9,.string a0_10] gb gp (head_Write.pt (head_Write.pt (head_Write.pt ((0,(⟨#[]⟩:ByteArray)):Int × ByteArray) r1.1 r1.2) r2.1 r2.2) r3.1 r3.2) (((0 + r1.1.size) + r2.1.size) + r3.1.size))) ∨ (g = 0∧sx = .int .i64 3∧Aside0 (head_Write.St w wx w1.heap.size #[.string a0_0,.string a0_1,.string a0_2,.int .i64 a0_3,.int .i64 a0_4,.int .i64 a0_5,.int .i64 a0_6,.int .i64 a0_7,.int .u8 a0_8,.string a0_9,.string a0_10] gb gp (head_Write.pt (head_Write.pt (head_Write.pt (head_Write.pt ((0,(⟨#[]⟩:ByteArray)):Int × ByteArray) r1.1 r1.2) r2.1 r2.2) r3.1 r3.2) r4.1 r4.2) ((((0 + r1.1.size) + r2.1.size) + r3.1.size) + r4.1.size))))
   case atStart=>exact Or.inl ⟨rfl,rfl,HS⟩
   case round =>
    clear hv0 hv1 hv2 hv3 hv4 hv5 hv6 hv7 hv8 hv9 hv10 HS;have hi0:=fun W=>head_Write.ix30 (.int .i64 a0_3) (.int .i64 a0_4) (.int .i64 a0_5) W
    have hi1:=fun W=>head_Write.ix31 (.int .i64 a0_3) (.int .i64 a0_4) (.int .i64 a0_5) W
    have hi2:=fun W=>head_Write.ix32 (.int .i64 a0_3) (.int .i64 a0_4) (.int .i64 a0_5) W
    rcases hrel with ⟨rfl,rfl,HS⟩|⟨rfl,rfl,HS⟩|⟨rfl,rfl,HS⟩|⟨rfl,rfl,HS⟩
    ·have hv0:=blk_cell HS.out.2.1 0;have hv1:=blk_cell HS.out.2.1 1;have hv2:=blk_cell HS.out.2.1 2;have hv3:=blk_cell HS.out.2.1 3;have hv4:=blk_cell HS.out.2.1 4;have hv5:=blk_cell HS.out.2.1 5;have hv6:=blk_cell HS.out.2.1 6;have hv7:=blk_cell HS.out.2.1 7;have hv8:=blk_cell HS.out.2.1 8;have hv9:=blk_cell HS.out.2.1 9;have hv10:=blk_cell HS.out.2.1 10;go_wp2_with (first|(go_at_call 69;(first|(with_reducible refine (octal_Write.calls k a0_3 8 r2.1 r2.2 _ Hr2.out).mono ?_)|(with_reducible refine (octal_Write.calls k a0_4 8 r3.1 r3.2 _ Hr3.out).mono ?_)|(with_reducible refine (octal_Write.calls k a0_5 8 r4.1 r4.2 _ Hr4.out).mono ?_)|(with_reducible refine (octal_Write.calls k a0_6 12 r5.1 r5.2 _ Hr5.out).mono ?_)|(with_reducible refine (octal_Write.calls k a0_7 12 r6.1 r6.2 _ Hr6.out).mono ?_));rintro e w8 ⟨rfl,hb8⟩;have HS8:=Aside0.mk (HS.out.step hb8);clear HS hb8;have HS:=HS8;clear HS8;have hv0:=blk_cell HS.out.2.1 0;have hv1:=blk_cell HS.out.2.1 1;have hv2:=blk_cell HS.out.2.1 2;have hv3:=blk_cell HS.out.2.1 3;have hv4:=blk_cell HS.out.2.1 4;have hv5:=blk_cell HS.out.2.1 5;have hv6:=blk_cell HS.out.2.1 6;have hv7:=blk_cell HS.out.2.1 7;have hv8:=blk_cell HS.out.2.1 8;have hv9:=blk_cell HS.out.2.1 9;have hv10:=blk_cell HS.out.2.1 10)|(go_at_call 67;(with_reducible refine (head_Write.putS w _ w1.heap.size #[.string a0_0,.string a0_1,.string a0_2,.int .i64 a0_3,.int .i64 a0_4,.int .i64 a0_5,.int .i64 a0_6,.int .i64 a0_7,.int .u8 a0_8,.string a0_9,.string a0_10] gb gp _ _ _ _ HS.out ?hlen).mono ?_);(case hlen=>exact (by have h1:=HZ.out;have h3:=head_Write.blank_size a0_8;have h4:(⟨#[117,115,116,97,114,0,48,48]⟩:ByteArray).size = 8:=rfl;have h5:(⟨#[48,48,48,48,48,48,48,0,48,48,48,48,48,48,48,0]⟩:ByteArray).size = 16:=rfl;have h6:((⟨#[32,32,32,32,32,32,32,32]⟩:ByteArray) ++ strOfNums [a0_8]).size = 9:=h3;omega));rintro e w9 ⟨rfl,hS⟩;have HS9:=Aside0.mk hS;clear HS hS;have HS:=HS9;clear HS9;have hv0:=blk_cell HS.out.2.1 0;have hv1:=blk_cell HS.out.2.1 1;have hv2:=blk_cell HS.out.2.1 2;have hv3:=blk_cell HS.out.2.1 3;have hv4:=blk_cell HS.out.2.1 4;have hv5:=blk_cell HS.out.2.1 5;have hv6:=blk_cell HS.out.2.1 6;have hv7:=blk_cell HS.out.2.1 7;have hv8:=blk_cell HS.out.2.1 8;have hv9:=blk_cell HS.out.2.1 9;have hv10:=blk_cell HS.out.2.1 10))
     go_roundg 2
     case measure=>omega
     case rel=>exact Or.inr (Or.inl ⟨rfl,rfl,HS⟩)
    ·have hv0:=blk_cell HS.out.2.1 0;have hv1:=blk_cell HS.out.2.1 1;have hv2:=blk_cell HS.out.2.1 2;have hv3:=blk_cell HS.out.2.1 3;have hv4:=blk_cell HS.out.2.1 4;have hv5:=blk_cell HS.out.2.1 5;have hv6:=blk_cell HS.out.2.1 6;have hv7:=blk_cell HS.out.2.1 7;have hv8:=blk_cell HS.out.2.1 8;have hv9:=blk_cell HS.out.2.1 9;have hv10:=blk_cell HS.out.2.1 10;go_wp2_with (first|(go_at_call 69;(first|(with_reducible refine (octal_Write.calls k a0_3 8 r2.1 r2.2 _ Hr2.out).mono ?_)|(with_reducible refine (octal_Write.calls k a0_4 8 r3.1 r3.2 _ Hr3.out).mono ?_)|(with_reducible refine (octal_Write.calls k a0_5 8 r4.1 r4.2 _ Hr4.out).mono ?_)|(with_reducible refine (octal_Write.calls k a0_6 12 r5.1 r5.2 _ Hr5.out).mono ?_)|(with_reducible refine (octal_Write.calls k a0_7 12 r6.1 r6.2 _ Hr6.out).mono ?_));rintro e w8 ⟨rfl,hb8⟩;have HS8:=Aside0.mk (HS.out.step hb8);clear HS hb8;have HS:=HS8;clear HS8;have hv0:=blk_cell HS.out.2.1 0;have hv1:=blk_cell HS.out.2.1 1;have hv2:=blk_cell HS.out.2.1 2;have hv3:=blk_cell HS.out.2.1 3;have hv4:=blk_cell HS.out.2.1 4;have hv5:=blk_cell HS.out.2.1 5;have hv6:=blk_cell HS.out.2.1 6;have hv7:=blk_cell HS.out.2.1 7;have hv8:=blk_cell HS.out.2.1 8;have hv9:=blk_cell HS.out.2.1 9;have hv10:=blk_cell HS.out.2.1 10)|(go_at_call 67;(with_reducible refine (head_Write.putS w _ w1.heap.size #[.string a0_0,.string a0_1,.string a0_2,.int .i64 a0_3,.int .i64 a0_4,.int .i64 a0_5,.int .i64 a0_6,.int .i64 a0_7,.int .u8 a0_8,.string a0_9,.string a0_10] gb gp _ _ _ _ HS.out ?hlen).mono ?_);(case hlen=>exact (by have h1:=HZ.out;have h3:=head_Write.blank_size a0_8;have h4:(⟨#[117,115,116,97,114,0,48,48]⟩:ByteArray).size = 8:=rfl;have h5:(⟨#[48,48,48,48,48,48,48,0,48,48,48,48,48,48,48,0]⟩:ByteArray).size = 16:=rfl;have h6:((⟨#[32,32,32,32,32,32,32,32]⟩:ByteArray) ++ strOfNums [a0_8]).size = 9:=h3;omega));rintro e w9 ⟨rfl,hS⟩;have HS9:=Aside0.mk hS;clear HS hS;have HS:=HS9;clear HS9;have hv0:=blk_cell HS.out.2.1 0;have hv1:=blk_cell HS.out.2.1 1;have hv2:=blk_cell HS.out.2.1 2;have hv3:=blk_cell HS.out.2.1 3;have hv4:=blk_cell HS.out.2.1 4;have hv5:=blk_cell HS.out.2.1 5;have hv6:=blk_cell HS.out.2.1 6;have hv7:=blk_cell HS.out.2.1 7;have hv8:=blk_cell HS.out.2.1 8;have hv9:=blk_cell HS.out.2.1 9;have hv10:=blk_cell HS.out.2.1 10))
     go_roundg 1
     case measure=>omega
     case rel=>exact Or.inr (Or.inr (Or.inl ⟨rfl,rfl,HS⟩))
    ·have hv0:=blk_cell HS.out.2.1 0;have hv1:=blk_cell HS.out.2.1 1;have hv2:=blk_cell HS.out.2.1 2;have hv3:=blk_cell HS.out.2.1 3;have hv4:=blk_cell HS.out.2.1 4;have hv5:=blk_cell HS.out.2.1 5;have hv6:=blk_cell HS.out.2.1 6;have hv7:=blk_cell HS.out.2.1 7;have hv8:=blk_cell HS.out.2.1 8;have hv9:=blk_cell HS.out.2.1 9;have hv10:=blk_cell HS.out.2.1 10;go_wp2_with (first|(go_at_call 69;(first|(with_reducible refine (octal_Write.calls k a0_3 8 r2.1 r2.2 _ Hr2.out).mono ?_)|(with_reducible refine (octal_Write.calls k a0_4 8 r3.1 r3.2 _ Hr3.out).mono ?_)|(with_reducible refine (octal_Write.calls k a0_5 8 r4.1 r4.2 _ Hr4.out).mono ?_)|(with_reducible refine (octal_Write.calls k a0_6 12 r5.1 r5.2 _ Hr5.out).mono ?_)|(with_reducible refine (octal_Write.calls k a0_7 12 r6.1 r6.2 _ Hr6.out).mono ?_));rintro e w8 ⟨rfl,hb8⟩;have HS8:=Aside0.mk (HS.out.step hb8);clear HS hb8;have HS:=HS8;clear HS8;have hv0:=blk_cell HS.out.2.1 0;have hv1:=blk_cell HS.out.2.1 1;have hv2:=blk_cell HS.out.2.1 2;have hv3:=blk_cell HS.out.2.1 3;have hv4:=blk_cell HS.out.2.1 4;have hv5:=blk_cell HS.out.2.1 5;have hv6:=blk_cell HS.out.2.1 6;have hv7:=blk_cell HS.out.2.1 7;have hv8:=blk_cell HS.out.2.1 8;have hv9:=blk_cell HS.out.2.1 9;have hv10:=blk_cell HS.out.2.1 10)|(go_at_call 67;(with_reducible refine (head_Write.putS w _ w1.heap.size #[.string a0_0,.string a0_1,.string a0_2,.int .i64 a0_3,.int .i64 a0_4,.int .i64 a0_5,.int .i64 a0_6,.int .i64 a0_7,.int .u8 a0_8,.string a0_9,.string a0_10] gb gp _ _ _ _ HS.out ?hlen).mono ?_);(case hlen=>exact (by have h1:=HZ.out;have h3:=head_Write.blank_size a0_8;have h4:(⟨#[117,115,116,97,114,0,48,48]⟩:ByteArray).size = 8:=rfl;have h5:(⟨#[48,48,48,48,48,48,48,0,48,48,48,48,48,48,48,0]⟩:ByteArray).size = 16:=rfl;have h6:((⟨#[32,32,32,32,32,32,32,32]⟩:ByteArray) ++ strOfNums [a0_8]).size = 9:=h3;omega));rintro e w9 ⟨rfl,hS⟩;have HS9:=Aside0.mk hS;clear HS hS;have HS:=HS9;clear HS9;have hv0:=blk_cell HS.out.2.1 0;have hv1:=blk_cell HS.out.2.1 1;have hv2:=blk_cell HS.out.2.1 2;have hv3:=blk_cell HS.out.2.1 3;have hv4:=blk_cell HS.out.2.1 4;have hv5:=blk_cell HS.out.2.1 5;have hv6:=blk_cell HS.out.2.1 6;have hv7:=blk_cell HS.out.2.1 7;have hv8:=blk_cell HS.out.2.1 8;have hv9:=blk_cell HS.out.2.1 9;have hv10:=blk_cell HS.out.2.1 10))
     go_roundg 0
     case measure=>omega
     case rel=>exact Or.inr (Or.inr (Or.inr (⟨rfl,rfl,HS⟩)))
    ·clear hi0 hi1 hi2;have hv0:=blk_cell HS.out.2.1 0;have hv1:=blk_cell HS.out.2.1 1;have hv2:=blk_cell HS.out.2.1 2;have hv3:=blk_cell HS.out.2.1 3;have hv4:=blk_cell HS.out.2.1 4;have hv5:=blk_cell HS.out.2.1 5;have hv6:=blk_cell HS.out.2.1 6;have hv7:=blk_cell HS.out.2.1 7;have hv8:=blk_cell HS.out.2.1 8;have hv9:=blk_cell HS.out.2.1 9;have hv10:=blk_cell HS.out.2.1 10;go_wp2;go_loopg [49] 2 (fun g sx wx=>(g = 2∧sx = .int .i64 0∧Aside0 (head_Write.St w wx w1.heap.size #[.string a0_0,.string a0_1,.string a0_2,.int .i64 a0_3,.int .i64 a0_4,.int .i64 a0_5,.int .i64 a0_6,.int .i64 a0_7,.int .u8 a0_8,.string a0_9,.string a0_10] gb gp (head_Write.pt (head_Write.pt (head_Write.pt (head_Write.pt ((0,(⟨#[]⟩:ByteArray)):Int × ByteArray) r1.1 r1.2) r2.1 r2.2) r3.1 r3.2) r4.1 r4.2) ((((0 + r1.1.size) + r2.1.size) + r3.1.size) + r4.1.size))) ∨ (g = 1∧sx = .int .i64 1∧Aside0 (head_Write.St w wx w1.heap.size #[.string a0_0,.string a0_1,.string a0_2,.int .i64 a0_3,.int .i64 a0_4,.int .i64 a0_5,.int .i64 a0_6,.int .i64 a0_7,.int .u8 a0_8,.string a0_9,.string a0_10] gb gp (head_Write.pt (head_Write.pt (head_Write.pt (head_Write.pt (head_Write.pt ((0,(⟨#[]⟩:ByteArray)):Int × ByteArray) r1.1 r1.2) r2.1 r2.2) r3.1 r3.2) r4.1 r4.2) r5.1 r5.2) (((((0 + r1.1.size) + r2.1.size) + r3.1.size) + r4.1.size) + r5.1.size))) ∨ (g = 0∧sx = .int .i64 2∧Aside0 (head_Write.St w wx w1.heap.size #[.string a0_0,.string a0_1,.string a0_2,.int .i64 a0_3,.int .i64 a0_4,.int .i64 a0_5,.int .i64 a0_6,.int .i64 a0_7,.int .u8 a0_8,.string a0_9,.string a0_10] gb gp (head_Write.pt (head_Write.pt (head_Write.pt (head_Write.pt (head_Write.pt (head_Write.pt ((0,(⟨#[]⟩:ByteArray)):Int × ByteArray) r1.1 r1.2) r2.1 r2.2) r3.1 r3.2) r4.1 r4.2) r5.1 r5.2) r6.1 r6.2) ((((((0 + r1.1.size) + r2.1.size) + r3.1.size) + r4.1.size) + r5.1.size) + r6.1.size))))
     case atStart=>exact Or.inl ⟨rfl,rfl,HS⟩
     case round =>
      clear hv0 hv1 hv2 hv3 hv4 hv5 hv6 hv7 hv8 hv9 hv10 HS;have hi0:=fun W=>head_Write.ix20 (.int .i64 a0_6) (.int .i64 a0_7) W
      have hi1:=fun W=>head_Write.ix21 (.int .i64 a0_6) (.int .i64 a0_7) W
      rcases hrel with ⟨rfl,rfl,HS⟩|⟨rfl,rfl,HS⟩|⟨rfl,rfl,HS⟩
      ·have hv0:=blk_cell HS.out.2.1 0;have hv1:=blk_cell HS.out.2.1 1;have hv2:=blk_cell HS.out.2.1 2;have hv3:=blk_cell HS.out.2.1 3;have hv4:=blk_cell HS.out.2.1 4;have hv5:=blk_cell HS.out.2.1 5;have hv6:=blk_cell HS.out.2.1 6;have hv7:=blk_cell HS.out.2.1 7;have hv8:=blk_cell HS.out.2.1 8;have hv9:=blk_cell HS.out.2.1 9;have hv10:=blk_cell HS.out.2.1 10;go_wp2_with (first|(go_at_call 69;(first|(with_reducible refine (octal_Write.calls k a0_3 8 r2.1 r2.2 _ Hr2.out).mono ?_)|(with_reducible refine (octal_Write.calls k a0_4 8 r3.1 r3.2 _ Hr3.out).mono ?_)|(with_reducible refine (octal_Write.calls k a0_5 8 r4.1 r4.2 _ Hr4.out).mono ?_)|(with_reducible refine (octal_Write.calls k a0_6 12 r5.1 r5.2 _ Hr5.out).mono ?_)|(with_reducible refine (octal_Write.calls k a0_7 12 r6.1 r6.2 _ Hr6.out).mono ?_));rintro e w8 ⟨rfl,hb8⟩;have HS8:=Aside0.mk (HS.out.step hb8);clear HS hb8;have HS:=HS8;clear HS8;have hv0:=blk_cell HS.out.2.1 0;have hv1:=blk_cell HS.out.2.1 1;have hv2:=blk_cell HS.out.2.1 2;have hv3:=blk_cell HS.out.2.1 3;have hv4:=blk_cell HS.out.2.1 4;have hv5:=blk_cell HS.out.2.1 5;have hv6:=blk_cell HS.out.2.1 6;have hv7:=blk_cell HS.out.2.1 7;have hv8:=blk_cell HS.out.2.1 8;have hv9:=blk_cell HS.out.2.1 9;have hv10:=blk_cell HS.out.2.1 10)|(go_at_call 67;(with_reducible refine (head_Write.putS w _ w1.heap.size #[.string a0_0,.string a0_1,.string a0_2,.int .i64 a0_3,.int .i64 a0_4,.int .i64 a0_5,.int .i64 a0_6,.int .i64 a0_7,.int .u8 a0_8,.string a0_9,.string a0_10] gb gp _ _ _ _ HS.out ?hlen).mono ?_);(case hlen=>exact (by have h1:=HZ.out;have h3:=head_Write.blank_size a0_8;have h4:(⟨#[117,115,116,97,114,0,48,48]⟩:ByteArray).size = 8:=rfl;have h5:(⟨#[48,48,48,48,48,48,48,0,48,48,48,48,48,48,48,0]⟩:ByteArray).size = 16:=rfl;have h6:((⟨#[32,32,32,32,32,32,32,32]⟩:ByteArray) ++ strOfNums [a0_8]).size = 9:=h3;omega));rintro e w9 ⟨rfl,hS⟩;have HS9:=Aside0.mk hS;clear HS hS;have HS:=HS9;clear HS9;have hv0:=blk_cell HS.out.2.1 0;have hv1:=blk_cell HS.out.2.1 1;have hv2:=blk_cell HS.out.2.1 2;have hv3:=blk_cell HS.out.2.1 3;have hv4:=blk_cell HS.out.2.1 4;have hv5:=blk_cell HS.out.2.1 5;have hv6:=blk_cell HS.out.2.1 6;have hv7:=blk_cell HS.out.2.1 7;have hv8:=blk_cell HS.out.2.1 8;have hv9:=blk_cell HS.out.2.1 9;have hv10:=blk_cell HS.out.2.1 10))
       go_roundg 1
       case measure=>omega
       case rel=>exact Or.inr (Or.inl ⟨rfl,rfl,HS⟩)
      ·have hv0:=blk_cell HS.out.2.1 0;have hv1:=blk_cell HS.out.2.1 1;have hv2:=blk_cell HS.out.2.1 2;have hv3:=blk_cell HS.out.2.1 3;have hv4:=blk_cell HS.out.2.1 4;have hv5:=blk_cell HS.out.2.1 5;have hv6:=blk_cell HS.out.2.1 6;have hv7:=blk_cell HS.out.2.1 7;have hv8:=blk_cell HS.out.2.1 8;have hv9:=blk_cell HS.out.2.1 9;have hv10:=blk_cell HS.out.2.1 10;go_wp2_with (first|(go_at_call 69;(first|(with_reducible refine (octal_Write.calls k a0_3 8 r2.1 r2.2 _ Hr2.out).mono ?_)|(with_reducible refine (octal_Write.calls k a0_4 8 r3.1 r3.2 _ Hr3.out).mono ?_)|(with_reducible refine (octal_Write.calls k a0_5 8 r4.1 r4.2 _ Hr4.out).mono ?_)|(with_reducible refine (octal_Write.calls k a0_6 12 r5.1 r5.2 _ Hr5.out).mono ?_)|(with_reducible refine (octal_Write.calls k a0_7 12 r6.1 r6.2 _ Hr6.out).mono ?_));rintro e w8 ⟨rfl,hb8⟩;have HS8:=Aside0.mk (HS.out.step hb8);clear HS hb8;have HS:=HS8;clear HS8;have hv0:=blk_cell HS.out.2.1 0;have hv1:=blk_cell HS.out.2.1 1;have hv2:=blk_cell HS.out.2.1 2;have hv3:=blk_cell HS.out.2.1 3;have hv4:=blk_cell HS.out.2.1 4;have hv5:=blk_cell HS.out.2.1 5;have hv6:=blk_cell HS.out.2.1 6;have hv7:=blk_cell HS.out.2.1 7;have hv8:=blk_cell HS.out.2.1 8;have hv9:=blk_cell HS.out.2.1 9;have hv10:=blk_cell HS.out.2.1 10)|(go_at_call 67;(with_reducible refine (head_Write.putS w _ w1.heap.size #[.string a0_0,.string a0_1,.string a0_2,.int .i64 a0_3,.int .i64 a0_4,.int .i64 a0_5,.int .i64 a0_6,.int .i64 a0_7,.int .u8 a0_8,.string a0_9,.string a0_10] gb gp _ _ _ _ HS.out ?hlen).mono ?_);(case hlen=>exact (by have h1:=HZ.out;have h3:=head_Write.blank_size a0_8;have h4:(⟨#[117,115,116,97,114,0,48,48]⟩:ByteArray).size = 8:=rfl;have h5:(⟨#[48,48,48,48,48,48,48,0,48,48,48,48,48,48,48,0]⟩:ByteArray).size = 16:=rfl;have h6:((⟨#[32,32,32,32,32,32,32,32]⟩:ByteArray) ++ strOfNums [a0_8]).size = 9:=h3;omega));rintro e w9 ⟨rfl,hS⟩;have HS9:=Aside0.mk hS;clear HS hS;have HS:=HS9;clear HS9;have hv0:=blk_cell HS.out.2.1 0;have hv1:=blk_cell HS.out.2.1 1;have hv2:=blk_cell HS.out.2.1 2;have hv3:=blk_cell HS.out.2.1 3;have hv4:=blk_cell HS.out.2.1 4;have hv5:=blk_cell HS.out.2.1 5;have hv6:=blk_cell HS.out.2.1 6;have hv7:=blk_cell HS.out.2.1 7;have hv8:=blk_cell HS.out.2.1 8;have hv9:=blk_cell HS.out.2.1 9;have hv10:=blk_cell HS.out.2.1 10))
       go_roundg 0
       case measure=>omega
       case rel=>exact Or.inr (Or.inr (⟨rfl,rfl,HS⟩))
      ·clear hi0 hi1;have hv0:=blk_cell HS.out.2.1 0;have hv1:=blk_cell HS.out.2.1 1;have hv2:=blk_cell HS.out.2.1 2;have hv3:=blk_cell HS.out.2.1 3;have hv4:=blk_cell HS.out.2.1 4;have hv5:=blk_cell HS.out.2.1 5;have hv6:=blk_cell HS.out.2.1 6;have hv7:=blk_cell HS.out.2.1 7;have hv8:=blk_cell HS.out.2.1 8;have hv9:=blk_cell HS.out.2.1 9;have hv10:=blk_cell HS.out.2.1 10;have hcv:=head_Write.conv1 wr a0_8;have hz1:(9223372036854775807 < 8 + (strOfNums [a0_8]).size) = False:=eq_false (Nat.not_lt.2 (by show 9 ≤ 9223372036854775807;decide));go_upto_region 23 with (first|(go_at_call 67;(with_reducible refine (head_Write.putS w _ w1.heap.size #[.string a0_0,.string a0_1,.string a0_2,.int .i64 a0_3,.int .i64 a0_4,.int .i64 a0_5,.int .i64 a0_6,.int .i64 a0_7,.int .u8 a0_8,.string a0_9,.string a0_10] gb gp _ _ _ _ HS.out ?hlen).mono ?_);(case hlen=>exact (by have h1:=HZ.out;have h3:=head_Write.blank_size a0_8;have h4:(⟨#[117,115,116,97,114,0,48,48]⟩:ByteArray).size = 8:=rfl;have h5:(⟨#[48,48,48,48,48,48,48,0,48,48,48,48,48,48,48,0]⟩:ByteArray).size = 16:=rfl;have h6:((⟨#[32,32,32,32,32,32,32,32]⟩:ByteArray) ++ strOfNums [a0_8]).size = 9:=h3;omega));rintro e w9 ⟨rfl,hS⟩;have HS9:=Aside0.mk hS;clear HS hS;have HS:=HS9;clear HS9;have hv0:=blk_cell HS.out.2.1 0;have hv1:=blk_cell HS.out.2.1 1;have hv2:=blk_cell HS.out.2.1 2;have hv3:=blk_cell HS.out.2.1 3;have hv4:=blk_cell HS.out.2.1 4;have hv5:=blk_cell HS.out.2.1 5;have hv6:=blk_cell HS.out.2.1 6;have hv7:=blk_cell HS.out.2.1 7;have hv8:=blk_cell HS.out.2.1 8;have hv9:=blk_cell HS.out.2.1 9;have hv10:=blk_cell HS.out.2.1 10)|(go_at_call 67;(with_reducible refine (head_Write.putS w _ w1.heap.size #[.string a0_0,.string a0_1,.string a0_2,.int .i64 a0_3,.int .i64 a0_4,.int .i64 a0_5,.int .i64 a0_6,.int .i64 a0_7,.int .u8 a0_8,.string a0_9,.string a0_10] gb gp _ _ _ _ (HS.out.step (bwA (Below.refl _ _) _)) ?hlen).mono ?_);(case hlen=>exact (by have h1:=HZ.out;have h3:=head_Write.blank_size a0_8;have h4:(⟨#[117,115,116,97,114,0,48,48]⟩:ByteArray).size = 8:=rfl;have h5:(⟨#[48,48,48,48,48,48,48,0,48,48,48,48,48,48,48,0]⟩:ByteArray).size = 16:=rfl;have h6:((⟨#[32,32,32,32,32,32,32,32]⟩:ByteArray) ++ strOfNums [a0_8]).size = 9:=h3;omega));rintro e w9 ⟨rfl,hS⟩;have HS9:=Aside0.mk hS;clear HS hS;have HS:=HS9;clear HS9;have hv0:=blk_cell HS.out.2.1 0;have hv1:=blk_cell HS.out.2.1 1;have hv2:=blk_cell HS.out.2.1 2;have hv3:=blk_cell HS.out.2.1 3;have hv4:=blk_cell HS.out.2.1 4;have hv5:=blk_cell HS.out.2.1 5;have hv6:=blk_cell HS.out.2.1 6;have hv7:=blk_cell HS.out.2.1 7;have hv8:=blk_cell HS.out.2.1 8;have hv9:=blk_cell HS.out.2.1 9;have hv10:=blk_cell HS.out.2.1 10)|(go_at_call 68;(first|(with_reducible refine (field_Write.calls k a0_0 100 true r1.1 r1.2 _ Hr1.out).mono ?_)|(with_reducible refine (field_Write.calls k a0_2 100 true r7.1 r7.2 _ Hr7.out).mono ?_)|(with_reducible refine (field_Write.calls k a0_9 32 false r8.1 r8.2 _ Hr8.out).mono ?_)|(with_reducible refine (field_Write.calls k a0_10 32 false r9.1 r9.2 _ Hr9.out).mono ?_)|(with_reducible refine (field_Write.calls k a0_1 155 true r10.1 r10.2 _ Hr10.out).mono ?_));rintro e w8 ⟨rfl,hb8⟩;have HS8:=Aside0.mk (HS.out.step hb8);clear HS hb8;have HS:=HS8;clear HS8;have hv0:=blk_cell HS.out.2.1 0;have hv1:=blk_cell HS.out.2.1 1;have hv2:=blk_cell HS.out.2.1 2;have hv3:=blk_cell HS.out.2.1 3;have hv4:=blk_cell HS.out.2.1 4;have hv5:=blk_cell HS.out.2.1 5;have hv6:=blk_cell HS.out.2.1 6;have hv7:=blk_cell HS.out.2.1 7;have hv8:=blk_cell HS.out.2.1 8;have hv9:=blk_cell HS.out.2.1 9;have hv10:=blk_cell HS.out.2.1 10)|(go_at_call 70;refine (strings_Repeat.calls _ _ z _ Hz.out).mono ?_;rintro e w8 ⟨rfl,hb8⟩;have HS8:=Aside0.mk (HS.out.step hb8);clear HS hb8;have HS:=HS8;clear HS8;have hv0:=blk_cell HS.out.2.1 0;have hv1:=blk_cell HS.out.2.1 1;have hv2:=blk_cell HS.out.2.1 2;have hv3:=blk_cell HS.out.2.1 3;have hv4:=blk_cell HS.out.2.1 4;have hv5:=blk_cell HS.out.2.1 5;have hv6:=blk_cell HS.out.2.1 6;have hv7:=blk_cell HS.out.2.1 7;have hv8:=blk_cell HS.out.2.1 8;have hv9:=blk_cell HS.out.2.1 9;have hv10:=blk_cell HS.out.2.1 10))
       have HT:Aside0 (head_Write.St w w9 w1.heap.size #[.string a0_0,.string a0_1,.string a0_2,.int .i64 a0_3,.int .i64 a0_4,.int .i64 a0_5,.int .i64 a0_6,.int .i64 a0_7,.int .u8 a0_8,.string a0_9,.string a0_10] gb gp (head_Write.pt (head_Write.pt (head_Write.pt (head_Write.pt (head_Write.pt (head_Write.pt (head_Write.pt (head_Write.pt (head_Write.pt (head_Write.pt (head_Write.pt (head_Write.pt (head_Write.pt (head_Write.pt ((0,(⟨#[]⟩:ByteArray)):Int × ByteArray) r1.1 r1.2) r2.1 r2.2) r3.1 r3.2) r4.1 r4.2) r5.1 r5.2) r6.1 r6.2) (head_Write.blank a0_8) 0) r7.1 r7.2) ((⟨#[117,115,116,97,114,0,48,48]⟩:ByteArray)) 0) r8.1 r8.2) r9.1 r9.2) ((⟨#[48,48,48,48,48,48,48,0,48,48,48,48,48,48,48,0]⟩:ByteArray)) 0) r10.1 r10.2) (z) 0) ((((((((((((((0 + r1.1.size) + r2.1.size) + r3.1.size) + r4.1.size) + r5.1.size) + r6.1.size) + (head_Write.blank a0_8).size) + r7.1.size) + (⟨#[117,115,116,97,114,0,48,48]⟩:ByteArray).size) + r8.1.size) + r9.1.size) + (⟨#[48,48,48,48,48,48,48,0,48,48,48,48,48,48,48,0]⟩:ByteArray).size) + r10.1.size) + z.size)):=⟨HS.out⟩
       clear hv0 hv1 hv2 hv3 hv4 hv5 hv6 hv7 hv8 hv9 hv10 HS hcv hz1;have HS:=HT;clear HT;have hQ:=HH.out;have hlt:((((((((((((((0 + r1.1.size) + r2.1.size) + r3.1.size) + r4.1.size) + r5.1.size) + r6.1.size) + (head_Write.blank a0_8).size) + r7.1.size) + (⟨#[117,115,116,97,114,0,48,48]⟩:ByteArray).size) + r8.1.size) + r9.1.size) + (⟨#[48,48,48,48,48,48,48,0,48,48,48,48,48,48,48,0]⟩:ByteArray).size) + r10.1.size) + z.size) ≤ 100400:=(by have h1:=HZ.out;have h3:=head_Write.blank_size a0_8;have h4:(⟨#[117,115,116,97,114,0,48,48]⟩:ByteArray).size = 8:=rfl;have h5:(⟨#[48,48,48,48,48,48,48,0,48,48,48,48,48,48,48,0]⟩:ByteArray).size = 16:=rfl;have h6:((⟨#[32,32,32,32,32,32,32,32]⟩:ByteArray) ++ strOfNums [a0_8]).size = 9:=h3;omega)
       clear HH Hr1 Hr2 Hr3 Hr4 Hr5 Hr6 Hr7 Hr8 Hr9 Hr10 Hz HZ;generalize ((((((((((((((0 + r1.1.size) + r2.1.size) + r3.1.size) + r4.1.size) + r5.1.size) + r6.1.size) + (head_Write.blank a0_8).size) + r7.1.size) + (⟨#[117,115,116,97,114,0,48,48]⟩:ByteArray).size) + r8.1.size) + r9.1.size) + (⟨#[48,48,48,48,48,48,48,0,48,48,48,48,48,48,48,0]⟩:ByteArray).size) + r10.1.size) + z.size) = nj at *;generalize (head_Write.pt (head_Write.pt (head_Write.pt (head_Write.pt (head_Write.pt (head_Write.pt (head_Write.pt (head_Write.pt (head_Write.pt (head_Write.pt (head_Write.pt (head_Write.pt (head_Write.pt (head_Write.pt ((0,(⟨#[]⟩:ByteArray)):Int × ByteArray) r1.1 r1.2) r2.1 r2.2) r3.1 r3.2) r4.1 r4.2) r5.1 r5.2) r6.1 r6.2) (head_Write.blank a0_8) 0) r7.1 r7.2) ((⟨#[117,115,116,97,114,0,48,48]⟩:ByteArray)) 0) r8.1 r8.2) r9.1 r9.2) ((⟨#[48,48,48,48,48,48,48,0,48,48,48,48,48,48,48,0]⟩:ByteArray)) 0) r10.1 r10.2) (z) 0) = q at *;have hgw:=head_Write.errAt HS.out;unfold head_Write.tail at hQ;by_cases h0:q.1 = 0
       ·rw [if_pos h0] at hQ;obtain ⟨n,An,hQ2⟩:=Option.bind_eq_some_iff.mp hQ;obtain ⟨u,Au,hQ3⟩:=Option.bind_eq_some_iff.mp hQ2;by_cases h1:156 ≤ q.2.size∧u.1.size ≤ 10000∧q.2.size ≤ 1000000
        ·rw [if_pos h1] at hQ3;simp only [Option.some.injEq,Prod.mk.injEq] at hQ3;obtain ⟨rfl,rfl⟩:=hQ3;have HAn:=Aside0.mk An;have HAu:=Aside0.mk Au;have h0a:(q.1 == 0) = true:=beq_iff_eq.mpr h0;have h0b:(q.1 != 0) = false:=bne_eq_false_iff_eq.mpr h0;obtain ⟨hs1,hs2,hs3⟩:=h1;have hs0:0 < q.2.size:=by omega
         clear hQ hQ2 An Au h0 hlt;go_wp2_with (first|(go_at_call 66;refine (head_Write.strS w _ _ _ gb gp q _ HS.out hs0).mono ?_;rintro e w2 ⟨rfl,hb2⟩;have HB2:=Aside0.mk hb2;clear hb2)|(go_at_call 71;refine (head_Sum.calls k q.2 n.1 n.2 _ HAn.out).mono ?_;rintro e w3 ⟨rfl,nd3,rfl⟩)|(go_at_call 69;refine (octal_Write.calls k n.1 7 u.1 u.2 _ HAu.out).mono ?_;rintro e w4 ⟨rfl,hb4⟩;have HB4:=Aside0.mk hb4;clear hb4))
         have hi1:(148:Int) ≤ (q.2.size:Int):=by omega
         have hi2:(156:Int) ≤ (q.2.size:Int):=by omega
         have hi3:148 ≤ q.2.size:=by omega
         go_quiet (fail)
         go_wp2;go_ret2
         exact ⟨rfl,by first|exact pwbN (below_step (pwbN HB2.out _) HB4.out) _|exact below_step (pwbN HB2.out _) HB4.out⟩
        ·rw [if_neg h1] at hQ3;cases hQ3
       ·rw [if_neg h0] at hQ;simp only [Option.some.injEq,Prod.mk.injEq] at hQ;obtain ⟨rfl,rfl⟩:=hQ;have h0a:(q.1 == 0) = false:=beq_eq_false_iff_ne.mpr h0;have h0b:(q.1 != 0) = true:=bne_iff_ne.mpr h0;clear h0 hlt;go_wp2;go_quiet (fail)
        go_wp2;go_ret2
        exact ⟨rfl,pwbN HS.out.2.2.2 _⟩
  ·rw [if_neg hsz] at h;cases h
end Go.Proofs.YtenbelecmmpdgaaGreatDoor.All
end
section
namespace Go.Proofs.YtenbelecmmpdgaaGreatDoor.All
open Go.RowKit Go.Proofs.YtenbelecmmpdgaaGreatDoorW.PrintWords Go.Proofs.YtenbelecmmpdgaaGreatDoorW.PrintLast Go.Proofs.YtenbelecmmpdgaaGreatDoorW.PrintMore
open Go.Proofs.YtenbelecmmpdgaaGreatDoorW.Mine
attribute [local go_sem] gtr_string leq_string geq_string
attribute [local go_sem] max2_int min2_int max_two min_two max_three min_three max_four min_four
set_option linter.unusedVariables false
set_option linter.unusedSimpArgs false
def pad_Fill.f (l0:List Int):Option (List Int):=if ([]:List Int).length + l0.length < 140737488355328 then ((some (([]:List Int) ++ l0:List Int)).bind fun y101=>(if 0 ≤ ((512 - ((l0.length:Int) % 512)) % 512) then (if y101.length + ((512 - ((l0.length:Int) % 512)) % 512:Int).toNat < 140737488355328 then (some (y101 ++ List.replicate ((512 - ((l0.length:Int) % 512)) % 512:Int).toNat 0)) else (none)) else (none))) else (none)
set_option maxHeartbeats 8000000 in
set_option maxRecDepth 100000 in
theorem pad_Fill.calls (A0:Option Addr) (c0:Nat) (l0:List Int) (r:List Int) (w:World) (hr0:Kd.C (Kd.int .u8) w A0 l0.length l0) (hc0:l0.length ≤ c0) (h:pad_Fill.f l0 = some r) :
 Calls Tryz.prog 30 #[.slice A0 l0.length c0] w fun e w'=>∃ v0_:Value,e = .returned (v0_)∧Kd.R (Kd.int .u8) 5 w' w.heap.size (fun _=>True) v0_ r∧Below w.heap.size w w':=by
 have HR0:=Aside0.mk hr0;have HC0:=Aside0.mk hc0;clear hr0 hc0;have HB:=Aside0.mk (Below.refl w.heap.size w);have H:(if ([]:List Int).length + l0.length < 140737488355328 then ((some (([]:List Int) ++ l0:List Int)).bind fun y101=>(if 0 ≤ ((512 - ((l0.length:Int) % 512)) % 512) then (if y101.length + ((512 - ((l0.length:Int) % 512)) % 512:Int).toNat < 140737488355328 then (some (y101 ++ List.replicate ((512 - ((l0.length:Int) % 512)) % 512:Int).toNat 0)) else (none)) else (none))) else (none)) = some r:=h;clear h;by_cases c2:([]:List Int).length + l0.length < 140737488355328
 ·rw [if_pos c2] at H;have LMc2:=Aside0.mk c2;clear c2;obtain ⟨y101,hy101⟩:∃ y_:List Int,y_ = (([]:List Int) ++ l0):=⟨_,rfl⟩
  replace H:(if 0 ≤ ((512 - ((l0.length:Int) % 512)) % 512) then (if y101.length + ((512 - ((l0.length:Int) % 512)) % 512:Int).toNat < 140737488355328 then (some (y101 ++ List.replicate ((512 - ((l0.length:Int) % 512)) % 512:Int).toNat 0)) else (none)) else (none)) = some r:=by first|(rw [hy101];with_reducible exact H)|(have H2_:=(Option.bind_some _ _).symm.trans H;rw [hy101];with_reducible exact H2_)|(have H2_:=(Option.bind_some _ _).symm.trans H;with_reducible exact H2_)|with_reducible exact H|(rw [hy101];exact H)|exact H
  have Ny101:=Aside0.mk hy101;clear hy101;obtain ⟨ji3,hji3⟩:∃ j_:Int,((512 - ((l0.length:Int) % 512)) % 512) = j_:=⟨_,rfl⟩
  replace H:(if 0 ≤ (ji3) then (if y101.length + (ji3:Int).toNat < 140737488355328 then (some (y101 ++ List.replicate (ji3:Int).toNat 0)) else (none)) else (none)) = some r:=by first|(rw [hji3] at H;exact H)|(simp only [hji3] at H ⊢;exact H)
  by_cases c4:0 ≤ (ji3)
  ·rw [if_pos c4] at H;have c4b0:=eq_true c4;have c4b1:decide (0 ≤ (ji3)) = true:=decide_eq_true c4;clear c4;by_cases c5:y101.length + (ji3:Int).toNat < 140737488355328
   ·rw [if_pos c5] at H;have LMc5:=Aside0.mk c5;clear c5;obtain ⟨y104,hy104⟩:∃ y_:List Int,y_ = (y101 ++ List.replicate (ji3:Int).toNat 0):=⟨_,rfl⟩
    replace H:(some y104) = some r:=by first|(rw [hy104];with_reducible exact H)|(have H2_:=(Option.bind_some _ _).symm.trans H;rw [hy104];with_reducible exact H2_)|(have H2_:=(Option.bind_some _ _).symm.trans H;with_reducible exact H2_)|with_reducible exact H|(rw [hy104];exact H)|exact H
    have Ny104:=Aside0.mk hy104;clear hy104;obtain rfl:=Option.some.inj H;go_enter Tryz.func30,Tryz.ntmps30;go_wp2_with (first|((with_reducible refine gate_builtin (b := .append) (xs:=#[.const (.slice none 0 0),.tmp 9]) rfl ?_);at_builtin;refine Kd.R_append_rows (Kd.int .u8) (w0:=w) w.heap.size rfl (.const (.slice none 0 0)) (.tmp 9) 24 5 (.int .u8 0) 1 rfl Tryz.underlying24 info5 rfl (by decide) (by omega) (.slice none 0 0) ([]:List Int) l0 _ _ _ (fun _=>True) (fun _=>False) rfl rfl ?aO ?aR (fun _ _ h=>h) (fun _ h=>h.elim) ?aF ?aB ?aS ?aL ?_;(case aR=>repeat (first|exact HR0.out|(with_reducible refine Kd.C_alloc ?_ _)|(with_reducible refine Kd.C_drewN ?_ _)|(with_reducible refine Kd.C_drew ?_)));(case aB=>exact (by repeat (first|(with_reducible first|exact HB.out|apply bwA|apply pwbN|apply bw1)|exact HB.out)));(case aF=>exact (fun _ _=>trivial));(case aO=>exact ((Kd.R_nil _ _ _ _ (fun _=>True))));(case aS=>exact (below_size (by repeat (first|(with_reducible first|exact HB.out|apply bwA|apply pwbN|apply bw1)|exact HB.out))));(case aL=>have:=LMc2.out;omega);intro v102 w6 ho hb hg hat;rw [← Ny101.out] at ho;have n0_:=Aside0.mk (hb);have n1_:=Aside0.mk (ho);clear HB;have HB:=n0_;have HO103:=n1_;clear n0_ n1_;clear ho hb hg hat)|(at_builtin;refine Kd.R_append_zeros (Kd.int .u8) (w0:=w) w.heap.size rfl (.tmp 10) (.tmp 11) 24 3 5 (.int .u8 0) 1 rfl Tryz.underlying24 Tryz.underlying3 info5 rfl (by decide) (by omega) v102 y101 0 (ji3:Int) (fun _=>True) rfl rfl rfl ?aF ?aO (of_decide_eq_true (by first|(with_reducible assumption)|assumption)) ?aB ?aS ?aL ?_;(case aB=>exact (by repeat (first|(with_reducible first|exact HB.out|apply bwA|apply pwbN|apply bw1)|exact HB.out)));(case aF=>exact (fun _ _=>trivial));(case aO=>exact (by (with_reducible repeat (first|apply Kd.R_alloc|apply Kd.R_drewN|apply Kd.R_drew));exact HO103.out));(case aS=>exact (below_size (by repeat (first|(with_reducible first|exact HB.out|apply bwA|apply pwbN|apply bw1)|exact HB.out))));(case aL=>have:=LMc5.out;omega);intro v105 w7 ho hb hg hat;rw [← Ny104.out] at ho;have n0_:=Aside0.mk (hb);have n1_:=Aside0.mk (ho);clear HB;clear HO103;have HB:=n0_;have HO106:=n1_;clear n0_ n1_;clear ho hb hg hat))
    go_ret
    exact ⟨_,by first|rfl|(simp [errW_none,errW_some] <;> rfl)|(simp only [← hji3];first|rfl|(simp [errW_none,errW_some] <;> rfl))|(simp [*,errW_none,errW_some] <;> rfl),by (with_reducible repeat (first|apply Kd.R_alloc|apply Kd.R_drewN|apply Kd.R_drew));exact HO106.out,by repeat (first|(with_reducible first|exact HB.out|apply bwA|apply pwbN|apply bw1)|exact HB.out)⟩
   ·rw [if_neg c5] at H;exact absurd H (by simp)
  ·rw [if_neg c4] at H;exact absurd H (by simp)
 ·rw [if_neg c2] at H;exact absurd H (by simp)
end Go.Proofs.YtenbelecmmpdgaaGreatDoor.All
end
section
namespace Go.Proofs.YtenbelecmmpdgaaGreatDoor.All
open Go.RowKit Go.Proofs.YtenbelecmmpdgaaGreatDoorW.PrintWords Go.Proofs.YtenbelecmmpdgaaGreatDoorW.PrintLast Go.Proofs.YtenbelecmmpdgaaGreatDoorW.PrintMore
open Go.Proofs.YtenbelecmmpdgaaGreatDoorW.Mine
attribute [local go_sem] gtr_string leq_string geq_string
attribute [local go_sem] max2_int min2_int max_two min_two max_three min_three max_four min_four
set_option linter.unusedVariables false
set_option linter.unusedSimpArgs false
open Go.Proofs.YtenbelecmmpdgaaGreatDoorW.MapOwn Go.Proofs.YtenbelecmmpdgaaGreatDoorW.MarkRow
theorem member_Write.szH:(Tryz.prog.info? 55).map (·.size) = some 11:=by kernel_rfl
theorem member_Write.info:(Tryz.prog.info? 5).map (fun i=>(i.zero,i.size,i.bytes)) = some (some (.int .u8 0),1,1):=by kernel_rfl
theorem member_Write.builtH (n:Int):Tryz.prog.built 55 [(0,.string (⟨#[64,112,97,120]⟩:ByteArray)),(6,.int .i64 n),(8,.int .u8 120)] = some #[.string (⟨#[64,112,97,120]⟩:ByteArray),.string (⟨#[]⟩:ByteArray),.string (⟨#[]⟩:ByteArray),.int .i64 0,.int .i64 0,.int .i64 0,.int .i64 n,.int .i64 0,.int .u8 120,.string (⟨#[]⟩:ByteArray),.string (⟨#[]⟩:ByteArray)]:=by kernel_rfl
theorem member_Write.cells_at {W:World} {g o:Nat} {cs:List Value} {t:TypeId} (h:W.heap[g]? = some (.cells cs.toArray t (0,0))):∀ j v,(cs.drop o)[j]? = some v→W.cell? ((⟨g,o,none⟩:Addr).add j) = some v:=by
 intro j v hj;have:=cells_of_blk h (o + j) v (by rw [List.getElem?_drop] at hj;exact hj);rw [← this];congr 1
 by_cases h0:j = 0
 ·subst h0;by_cases h1:o = 0
  ·subst h1;rfl
  ·simp [Addr.add,h1]
 ·have:o + j ≠ 0:=by omega
  simp [Addr.add,h0,this]
theorem member_Write.build_event {P:Program} {ops:Array Oper} {rest:List Oper} {o:Oper} {a:Act} {Q:Exit→Act→World→Prop} {W:World} (hgd:o.guard = none) {t:TypeId} {parts:Array (Nat × Operand)} (ho:o.op = .build t parts) {cells:Array Value} (hp:P.built t (parts.map fun (i,x)=>(i,a.eval x)).toList = some cells) (h:wpList P ops Q rest (a.put o.dst (.agg cells)) W):wpList P ops Q (o :: rest) a W:=by
 refine wpList_build hgd t parts ho (by rw [hp];rfl) ?_;rw [hp];exact h
def member_Write.pre (k:Nat) (l:List (S78)):Option (List Int):=if 0 < l.length then (pax_Write.f k l).bind fun s=>(head_Write.f k (⟨#[64,112,97,120]⟩:ByteArray) (⟨#[]⟩:ByteArray) (⟨#[]⟩:ByteArray) 0 0 0 (s.1.size:Int) 0 120 (⟨#[]⟩:ByteArray) (⟨#[]⟩:ByteArray)).bind fun h=>(pad_Fill.f (bytesOf s.1)).bind fun fl=>if s.1.size < 100000000000000∧h.1.size + fl.length < 100000000000000 then some (bytesOf h.1 ++ fl) else none else some []
def member_Write.f (k:Nat) (a0:ByteArray) (a1:Int) (a2:ByteArray) (a3 a4 a5:Int) (a6 a7:ByteArray) (a8 a9:Int) (l0:List Int):Option (List Int × Int):=(plan_Right.f k a0 a1 a2 a3 a4 a5 a6 a7 a8 a9 l0).bind fun e=>if e = 0 then (member_pack.f k a0 a1 a2 a3 a4 a5 a6 a7 a8 a9 l0).bind fun p=>(member_Write.pre k p.2).bind fun pre=>(head_Write.f k p.1.f0 p.1.f1 p.1.f2 p.1.f3 p.1.f4 p.1.f5 p.1.f6 p.1.f7 p.1.f8 p.1.f9 p.1.f10).bind fun h=>(pad_Fill.f l0).bind fun fl=>if pre.length < 100000000000000∧h.1.size < 10000000000000∧fl.length < 10000000000000 then some ((pre ++ bytesOf h.1) ++ fl,0) else none else some ([],e)
theorem member_Write.le2 {p f:List Int} {t:ByteArray} (h:p.length < 100000000000000∧t.size < 10000000000000∧f.length < 10000000000000):p.length + t.size ≤ 140737488355328:=by omega
theorem member_Write.le3 {p f:List Int} {t:ByteArray} (h:p.length < 100000000000000∧t.size < 10000000000000∧f.length < 10000000000000):(p ++ bytesOf t).length + f.length ≤ 140737488355328:=by
 rw [List.length_append,bytesOf_length];omega
theorem member_Write.conv:∀ (W:World) (s:ByteArray),(convert 9 24 (.string s)).run Tryz.prog W = .ok (.slice (some ⟨W.heap.size,0,none⟩) (bytesOf s).length (grownCap W s.size 0 5)) (Lib.bytesWorld W 5 s):=fun W s=>by
 rw [bytesOf_length]
 exact Lib.run_convert_string_bytes W 9 24 5 s Tryz.underlying9 Tryz.underlying24 Tryz.underlying5
set_option maxHeartbeats 16000000 in
set_option maxRecDepth 100000 in
theorem member_Write.calls (k:Nat) (a0:ByteArray) (a1:Int) (a2:ByteArray) (a3 a4 a5:Int) (a6 a7:ByteArray) (a8 a9:Int) (A0:Option Addr) (c0:Nat) (l0:List Int) (r1:List Int) (r2:Int) (w:World) (hr0:Kd.C (Kd.int .u8) w A0 l0.length l0) (hc0:l0.length ≤ c0) (HT0:Aside0 (Tab w)) (h:member_Write.f k a0 a1 a2 a3 a4 a5 a6 a7 a8 a9 l0 = some (r1,r2)) :
 Calls Tryz.prog 8 #[.agg #[.string a0,.int .i64 a1,.string a2,.int .i64 a3,.int .i64 a4,.int .i64 a5,.string a6,.string a7,.int .i64 a8,.int .i64 a9,.slice A0 l0.length c0]] w fun e w'=>∃ v0_:Value,e = .returned (.tuple #[v0_,.int .i64 r2])∧Kd.R (Kd.int .u8) 5 w' w.heap.size (fun _=>True) v0_ r1∧Below w.heap.size w w':=by
 have hu26:=Tryz.underlying26;have hu55:=Tryz.underlying55;have HR0:=Aside0.mk hr0;have HC0:=Aside0.mk hc0;clear hr0 hc0;unfold member_Write.f at h;obtain ⟨e1,h1,hq⟩:=Option.bind_eq_some_iff.1 h;clear h;have h:=hq;clear hq;have H1:=Aside0.mk h1;clear h1;by_cases c1:e1 = 0
 ·subst c1;rw [if_pos rfl] at h;obtain ⟨⟨hd_,rs⟩,h2,hq⟩:=Option.bind_eq_some_iff.1 h;clear h;have h:=hq;clear hq;have H2:=Aside0.mk h2;clear h2;obtain ⟨pre,h3,hq⟩:=Option.bind_eq_some_iff.1 h;clear h;have h:=hq;clear hq;have H3:=Aside0.mk h3;clear h3;obtain ⟨⟨ht,he⟩,h4,hq⟩:=Option.bind_eq_some_iff.1 h;clear h;have h:=hq;clear hq;have H4:=Aside0.mk h4;clear h4;obtain ⟨fl,h5,hq⟩:=Option.bind_eq_some_iff.1 h;clear h;have h:=hq;clear hq;have H5:=Aside0.mk h5;clear h5;by_cases c2:pre.length < 100000000000000∧ht.size < 10000000000000∧fl.length < 10000000000000
  ·rw [if_pos c2] at h;obtain ⟨rfl,rfl⟩:=Prod.mk.inj (Option.some.inj h);have HL:=Aside0.mk c2;clear h c2;go_enter Tryz.func8,Tryz.ntmps8;go_upto_region 6 with (first|((with_reducible refine gate_dst (N:=1) rfl ?_);refine box_event ?hg (N:=1) ?hd (cs:=#[.string a0,.int .i64 a1,.string a2,.int .i64 a3,.int .i64 a4,.int .i64 a5,.string a6,.string a7,.int .i64 a8,.int .i64 a9,.slice A0 l0.length c0]) (t:=26) ?hr ?_;(case hd=>rfl);(case hg=>rfl);(case hr=>first|(go_simp;done)|(go_simp;rfl));intro gx hg w1 hbox hb1;have HKX:=Aside0.mk hbox;have HB1:=Aside0.mk hb1;clear hg hbox hb1)|((with_reducible refine gate_dst (N:=13) rfl ?_);refine load_event rfl rfl hu26 rfl rfl (cs:=[.string a0,.int .i64 a1,.string a2,.int .i64 a3,.int .i64 a4,.int .i64 a5,.string a6,.string a7,.int .i64 a8,.int .i64 a9,.slice A0 l0.length c0]) sz26 (cells_of_blk (cs:=[.string a0,.int .i64 a1,.string a2,.int .i64 a3,.int .i64 a4,.int .i64 a5,.string a6,.string a7,.int .i64 a8,.int .i64 a9,.slice A0 l0.length c0]) HKX.out) ?_)|(go_at_call 26;refine (plan_Right.calls k a0 a1 a2 a3 a4 a5 a6 a7 a8 a9 A0 c0 l0 0 _ (Kd.C_below HR0.out HB1.out) HC0.out H1.out).mono ?_;rintro e w2 ⟨rfl,hb2⟩;have HB2:=Aside0.mk (below_step HB1.out hb2);have HKX2:=Aside0.mk (blk_below HKX.out hb2);clear HKX hb2;have HKX:=HKX2;clear HKX2)|((with_reducible refine gate_dst (N:=18) rfl ?_);refine load_event rfl rfl hu26 rfl rfl (cs:=[.string a0,.int .i64 a1,.string a2,.int .i64 a3,.int .i64 a4,.int .i64 a5,.string a6,.string a7,.int .i64 a8,.int .i64 a9,.slice A0 l0.length c0]) sz26 (cells_of_blk (cs:=[.string a0,.int .i64 a1,.string a2,.int .i64 a3,.int .i64 a4,.int .i64 a5,.string a6,.string a7,.int .i64 a8,.int .i64 a9,.slice A0 l0.length c0]) HKX.out) ?_)|(go_at_call 27;refine (member_pack.calls k a0 a1 a2 a3 a4 a5 a6 a7 a8 a9 A0 c0 l0 hd_ rs _ ⟨tab_on HT0.out HB2.out⟩ H2.out).mono ?_;rintro e w3 ⟨gp,vr,rfl,hp⟩;have HP:=Aside0.mk hp;clear hp))
   obtain ⟨Ar,cr,rfl,hle,hrc⟩:=Kd.R_reads HP.out.row;have HRC:=Aside0.mk hrc;have HRL:=Aside0.mk hle;have HK:=Aside0.mk HP.out.blk;have HB3:=Aside0.mk HP.out.below;have HTX:=Aside0.mk (tab_on HT0.out (below_step HB2.out HP.out.below));have HX3:=Aside0.mk (blk_below HKX.out HP.out.below);clear hrc hle HP HKX;have hc11:w3.cell? ⟨gp,11,none⟩ = some (.slice Ar rs.length cr):=(blk_cell HK.out 11).trans rfl;have hcv:=member_Write.conv;go_upto_if 25 with (fail)
   go_cut [6] (fun v6 wc=>Aside0 (Kd.R (Kd.int .u8) 5 wc w3.heap.size (fun _=>True) v6 pre)∧Aside0 (Below w3.heap.size w3 wc))
   case first =>
    have H:=H3.out;unfold member_Write.pre at H;by_cases d:0 < rs.length
    ·have db:decide (0 < (rs.length:Int)) = true:=decide_eq_true (by omega);have db2:decide (0 < rs.length) = true:=decide_eq_true d;try rw [db]
     try rw [db2]
     rw [if_pos d] at H;obtain ⟨⟨s1,s2⟩,h6,hq⟩:=Option.bind_eq_some_iff.1 H;clear H;have H:=hq;clear hq;have H6:=Aside0.mk h6;clear h6;obtain ⟨⟨s3,s4⟩,h7,hq⟩:=Option.bind_eq_some_iff.1 H;clear H;have H:=hq;clear hq;have H7:=Aside0.mk h7;clear h7;obtain ⟨fx,h8,hq⟩:=Option.bind_eq_some_iff.1 H;clear H;have H:=hq;clear hq;have H8:=Aside0.mk h8;clear h8;by_cases d2:s1.size < 100000000000000∧s3.size + fx.length < 100000000000000
     ·rw [if_pos d2] at H;obtain rfl:=Option.some.inj H;have HD:=Aside0.mk d2;clear H d d2;go_upto_region 9 with (first|(go_at_call 28;refine (pax_Write.calls k Ar cr rs s1 s2 _ HRC.out HRL.out ⟨HTX.out⟩ H6.out).mono ?_;rintro e w4 ⟨rfl,hb4⟩;have HX:=Aside0.mk hb4;clear hb4)|((with_reducible refine gate_dst (N:=37) rfl ?_);refine member_Write.build_event rfl rfl (by (try simp only [List.map_toArray,List.map_cons,List.map_nil]);exact member_Write.builtH _) ?_)|(go_at_call 29;refine (head_Write.calls k (⟨#[64,112,97,120]⟩:ByteArray) (⟨#[]⟩:ByteArray) (⟨#[]⟩:ByteArray) 0 0 0 (s1.size:Int) 0 120 (⟨#[]⟩:ByteArray) (⟨#[]⟩:ByteArray) s3 s4 _ H7.out).mono ?_;rintro e w5 ⟨rfl,hb5⟩;have HX9:=Aside0.mk (below_step HX.out hb5);clear HX hb5;have HX:=HX9;clear HX9))
      go_wp2_with (first|((with_reducible refine gate_builtin (b := .append) (xs:=#[.tmp 41,.tmp 42]) rfl ?_);at_builtin;refine wp_append_S rfl (.tmp 41) (.tmp 42) 24 9 rfl Tryz.underlying24 Tryz.underlying9 member_Write.info (v := .slice none 0 0) (xs:=[]) (base:=w3.heap.size) rfl s3 rfl (Kd.R_nil _ _ _ _ _) HX.out (below_size HX.out) ?aL ?aK;(case aL=>have:=HD.out.2;simp only [List.length_nil];omega);intro v6 w6 ho hb hg;have HO:=Aside0.mk ho;have HX1:=Aside0.mk hb;clear HX ho hb hg)|(go_at_call 30;obtain ⟨Ab,cb,eb,hlb,hcb⟩:=(MRow.of_bytes w6 0 5 s1 (Nat.zero_le _) (by have:=HD.out.1;unfold maxLen;omega)).reads;cases eb;refine (pad_Fill.calls _ _ (bytesOf s1) fx _ hcb hlb H8.out).mono ?_;rintro e w7 ⟨vf,rfl,hrf,hb7⟩;have HB7:=Aside0.mk (below_then (bytes_below (Below.refl w6.heap.size w6) (Nat.le_refl _) 5 s1) (by rw [Lib.bytesWorld_size];omega) hb7);have HO9:=Aside0.mk (Kd.R_below HO.out HB7.out);have HX9:=Aside0.mk (below_step HX1.out HB7.out);have HF:=Aside0.mk hrf;clear HO HX1 hrf hb7 hcb hlb HB7;have HO:=HO9;have HX1:=HX9;clear HO9 HX9;obtain ⟨Af,cf,rfl,hlf,hcf⟩:=Kd.R_reads HF.out;have HCF:=Aside0.mk hcf;clear hcf hlf)|((with_reducible refine gate_builtin (b := .append) (xs:=#[.tmp 43,.tmp 46]) rfl ?_);at_builtin;refine wp_append_R rfl (.tmp 43) (.tmp 46) 24 rfl Tryz.underlying24 member_Write.info (v:=v6) rfl rfl HO.out HCF.out HX1.out (below_size HX1.out) (by have:=HD.out.2;simp only [List.length_append,List.length_nil,bytesOf_length];omega) ?_;intro v8 w8 ho hb hg;have HO2:=Aside0.mk ho;have HX2:=Aside0.mk hb;clear HO HX1 ho hb hg))
      go_meet
      case rel=>exact ⟨HO2,HX2⟩
     ·rw [if_neg d2] at H;cases H
    ·rw [if_neg d] at H;obtain rfl:=Option.some.inj H;obtain rfl:rs = []:=List.eq_nil_of_length_eq_zero (by omega);clear H d;go_wp2;go_meet
     case rel=>exact ⟨⟨Kd.R_nil _ _ _ _ _⟩,⟨Below.refl _ _⟩⟩
   case rest =>
   clear hc11 H3;obtain ⟨HO,HX⟩:=hcut;go_upto_region 11 with (first|((with_reducible refine gate_dst (N:=52) rfl ?_);refine load_event rfl rfl Tryz.underlying55 rfl rfl (cs:=[.string hd_.f0,.string hd_.f1,.string hd_.f2,.int .i64 hd_.f3,.int .i64 hd_.f4,.int .i64 hd_.f5,.int .i64 hd_.f6,.int .i64 hd_.f7,.int .u8 hd_.f8,.string hd_.f9,.string hd_.f10]) member_Write.szH (fun j v hv=>member_Write.cells_at (o:=0) (cs:=[.string hd_.f0,.string hd_.f1,.string hd_.f2,.int .i64 hd_.f3,.int .i64 hd_.f4,.int .i64 hd_.f5,.int .i64 hd_.f6,.int .i64 hd_.f7,.int .u8 hd_.f8,.string hd_.f9,.string hd_.f10,.slice Ar rs.length cr]) (blk_below HK.out HX.out) j v (by rcases j with _|_|_|_|_|_|_|_|_|_|_|j <;> first|exact hv|(exact absurd hv (by simp)))) ?_)|(go_at_call 29;refine (head_Write.calls k hd_.f0 hd_.f1 hd_.f2 hd_.f3 hd_.f4 hd_.f5 hd_.f6 hd_.f7 hd_.f8 hd_.f9 hd_.f10 ht he _ H4.out).mono ?_;rintro e w5 ⟨rfl,hb5⟩;have HX9:=Aside0.mk (below_step HX.out hb5);have HO9:=Aside0.mk (Kd.R_below HO.out hb5);clear HX HO hb5;have HX:=HX9;have HO:=HO9;clear HX9 HO9))
   have HO9:=Aside0.mk (Kd.R_below HO.out (below_drew (Below.refl _ _)));have HX9:=Aside0.mk (below_drew HX.out);clear HO HX;have HO:=HO9;have HX:=HX9;clear HO9 HX9;go_region_held3 (fun w'=>w'.cell? ⟨gx,10,none⟩ = some (.slice A0 l0.length c0)) (first|exact blk_cell (blk_below HX3.out HX.out) 10|go_keep) (first|((refine step_append_S (by rfl) (.tmp 56) (.tmp 57) 24 9 (by rfl) Tryz.underlying24 Tryz.underlying9 member_Write.info (xs:=pre) (base:=w3.heap.size) (by rfl) ht (by rfl) HO.out HX.out (below_size HX.out) (member_Write.le2 HL.out) ?_;intro v7 w6 ho hb hg;have HO9:=Aside0.mk ho;have HX9:=Aside0.mk hb;(try have HF9:=Aside0.mk (Kd.R_grown2 HF.out rfl hg HNF.out));(try (clear HF;have HF:=HF9;clear HF9));clear HO HX ho hb hg;have HO:=HO9;have HX:=HX9;clear HO9 HX9))|((go_at_call 30;refine (pad_Fill.calls A0 c0 l0 fl _ (Kd.C_below HR0.out (below_step (below_step HB2.out HB3.out) HX.out)) HC0.out H5.out).mono ?_;rintro e w7 ⟨vf,rfl,hrf,hb7⟩;have HNF:=Aside0.mk (show ∀ k,Value.ownBlock _ = some k→some k ≠ vf.ownBlock from fun k hk he=>by have h1:=Kd.R_base hrf k he.symm;have h2:=Kd.R_lt HO.out k hk;omega);have HO9:=Aside0.mk (Kd.R_below HO.out hb7);have HX9:=Aside0.mk (below_step HX.out hb7);have HF:=Aside0.mk hrf;clear HO HX hrf hb7;have HO:=HO9;have HX:=HX9;clear HO9 HX9;obtain ⟨Af,cf,rfl,hlf,hcf⟩:=Kd.R_reads HF.out;clear hlf hcf))|((refine step_append_R (by rfl) (.tmp 58) (.tmp 61) 24 (by rfl) Tryz.underlying24 member_Write.info (base:=w3.heap.size) (by rfl) (by rfl) HO.out (Kd.R_reads' HF.out).2.2 HX.out (below_size HX.out) (member_Write.le3 HL.out) ?_;intro v8 w8 ho hb hg;have HO9:=Aside0.mk ho;have HX9:=Aside0.mk hb;clear HO HX ho hb hg;have HO:=HO9;have HX:=HX9;clear HO9 HX9)))
   all_goals
    go_wp2;go_ret2
    exact ⟨_,rfl,Kd.R_lower HO.out (below_size (below_step HB2.out HB3.out)),below_step (below_step HB2.out HB3.out) HX.out⟩
  ·rw [if_neg c2] at h;cases h
 ·rw [if_neg c1] at h;obtain ⟨rfl,rfl⟩:=Prod.mk.inj (Option.some.inj h);have c1b:(e1 != 0) = true:=bne_iff_ne.mpr c1;clear c1 h;go_enter Tryz.func8,Tryz.ntmps8;go_wp2_with (first|((with_reducible refine gate_dst (N:=1) rfl ?_);refine box_event ?hg (N:=1) ?hd (cs:=#[.string a0,.int .i64 a1,.string a2,.int .i64 a3,.int .i64 a4,.int .i64 a5,.string a6,.string a7,.int .i64 a8,.int .i64 a9,.slice A0 l0.length c0]) (t:=26) ?hr ?_;(case hd=>rfl);(case hg=>rfl);(case hr=>first|(go_simp;done)|(go_simp;rfl));intro gx hg w1 hbox hb1;have HKX:=Aside0.mk hbox;have HB1:=Aside0.mk hb1;clear hg hbox hb1)|((with_reducible refine gate_dst (N:=13) rfl ?_);refine load_event rfl rfl hu26 rfl rfl (cs:=[.string a0,.int .i64 a1,.string a2,.int .i64 a3,.int .i64 a4,.int .i64 a5,.string a6,.string a7,.int .i64 a8,.int .i64 a9,.slice A0 l0.length c0]) sz26 (cells_of_blk (cs:=[.string a0,.int .i64 a1,.string a2,.int .i64 a3,.int .i64 a4,.int .i64 a5,.string a6,.string a7,.int .i64 a8,.int .i64 a9,.slice A0 l0.length c0]) HKX.out) ?_)|(go_at_call 26;refine (plan_Right.calls k a0 a1 a2 a3 a4 a5 a6 a7 a8 a9 A0 c0 l0 e1 _ (Kd.C_below HR0.out HB1.out) HC0.out H1.out).mono ?_;rintro e w2 ⟨rfl,hb2⟩;have HB2:=Aside0.mk (below_step HB1.out hb2);have HKX2:=Aside0.mk (blk_below HKX.out hb2);clear HKX hb2;have HKX:=HKX2;clear HKX2))
  go_ret2
  exact ⟨_,rfl,Kd.R_nil _ _ _ _ _,HB2.out⟩
end Go.Proofs.YtenbelecmmpdgaaGreatDoor.All
end
section
namespace Go.Proofs.YtenbelecmmpdgaaGreatDoor.All
open Go.RowKit Go.Proofs.YtenbelecmmpdgaaGreatDoorW.PrintWords Go.Proofs.YtenbelecmmpdgaaGreatDoorW.PrintLast Go.Proofs.YtenbelecmmpdgaaGreatDoorW.PrintMore
open Go.Proofs.YtenbelecmmpdgaaGreatDoorW.Mine
attribute [local go_sem] gtr_string leq_string geq_string
attribute [local go_sem] max2_int min2_int max_two min_two max_three min_three max_four min_four
set_option linter.unusedVariables false
set_option linter.unusedSimpArgs false
def creelref_has.l0:Nat→ByteArray→Int→Int→Option (Bool)
 | 0,_,_,_=>none
 | k + 1,x0,x1,x5=>if x5 < (x0.size:Int) then (if 0 ≤ x5 then (if (bt x0 x5) = x1 then (some true) else (creelref_has.l0 k x0 x1 (wrap64 (x5 + 1)))) else (none)) else (some false)
def creelref_has.f (k:Nat) (a0:ByteArray) (a1:Int):Option (Bool):=creelref_has.l0 k a0 a1 0
theorem creelref_has.mono_l:∀ k,(∀ y0 y1 y2,LeO (creelref_has.l0 k y0 y1 y2) (creelref_has.l0 (k + 1) y0 y1 y2))
 | 0=>fun _ _ _ r h=>by simp [creelref_has.l0] at h
 | k + 1=>by
  have ih0:=creelref_has.mono_l k
  ·intro y0 y1 y2
   unfold creelref_has.l0
   repeat' first
   | (with_reducible exact ih0 _ _ _)
   | (with_reducible exact LeO.refl _)
   | (with_reducible exact LeO.none _)
   | (with_reducible refine LeO.ite ?_ ?_)
   | (with_reducible refine LeO.bind ?_ (fun _=>?_))
   | exact ih0 _ _ _
   | exact LeO.none _
   | refine LeO.ite ?_ ?_
   | refine LeO.bind ?_ (fun _=>?_)
theorem creelref_has.mono:∀ a0 a1 k,LeO (creelref_has.f k a0 a1) (creelref_has.f (k + 1) a0 a1):=by
 intro a0 a1 k;have ih0:=creelref_has.mono_l k;unfold creelref_has.f;repeat' first
  | (with_reducible exact ih0 _ _ _)
  | (with_reducible exact LeO.refl _)
  | (with_reducible exact LeO.none _)
  | (with_reducible refine LeO.ite ?_ ?_)
  | (with_reducible refine LeO.bind ?_ (fun _=>?_))
  | exact ih0 _ _ _
  | exact LeO.none _
  | refine LeO.ite ?_ ?_
  | refine LeO.bind ?_ (fun _=>?_)
set_option maxHeartbeats 8000000 in
set_option maxRecDepth 100000 in
theorem creelref_has.calls (k:Nat) (a0:ByteArray) (a1:Int) (r:Bool) (w:World) (h:creelref_has.f k a0 a1 = some r) :
 Calls Tryz.prog 77 #[.string a0,.int .u8 a1] w fun e w'=>e = .returned (.bool r)∧Drawn0 w w':=by
 have H:(creelref_has.l0 k a0 a1 0) = some r:=h;clear h;have H':=Aside0.mk H;clear H;go_enter Tryz.func77,Tryz.ntmps77;go_wp2;go_loopg [5] k (fun kq v5 w'=>∃ (x5_1:Int),v5 = .int .i64 x5_1∧Aside0 (creelref_has.l0 kq a0 a1 x5_1 = some r)∧Aside0 (kq ≤ k)∧Drawn0 w w')
 case atStart=>exact ⟨(0),(by first|rfl|(simp;done)|(simp [*];done)),H',⟨Nat.le_refl _⟩,by repeat (first|exact Drawn0.refl _|apply Drawn0.step)⟩
 case round =>
  clear H';obtain ⟨x5_1,rfl,HA,HK1,⟨m1,rfl⟩⟩:=hrel;cases gk with
  | zero=>exact absurd HA.out (by simp [creelref_has.l0])
  | succ k1 =>
   have H:=HA.out;clear HA;simp only [creelref_has.l0] at H;by_cases c3:x5_1 < (a0.size:Int)
   ·rw [if_pos c3] at H;have c3b0:decide (x5_1 < (a0.size:Int)) = true:=decide_eq_true c3;clear c3;by_cases c4:0 ≤ x5_1
    ·rw [if_pos c4] at H;have c4b0:decide (0 ≤ x5_1) = true:=decide_eq_true c4;clear c4;by_cases c6:(bt a0 x5_1) = a1
     ·rw [if_pos c6] at H;have c6b0:((bt a0 x5_1) == a1) = true:=beq_iff_eq.mpr c6;have c6b1:((bt a0 x5_1) != a1) = false:=bne_eq_false_iff_eq.mpr c6;clear c6;obtain rfl:=Option.some.inj H;have p5:0 ≤ (x5_1:Int):=of_decide_eq_true (by first|(with_reducible assumption)|assumption);have q5:x5_1 < (a0.size:Int):=of_decide_eq_true (by first|(with_reducible assumption)|assumption);have hx5:=bt_at a0 x5_1;replace p5:=eq_true p5;replace q5:=eq_true q5;go_wp2;go_ret
      exact ⟨by first|rfl|(simp;done)|(simp [*];done),by repeat (first|exact Drawn0.refl _|apply Drawn0.step)⟩
     ·rw [if_neg c6] at H;have c6b0:((bt a0 x5_1) == a1) = false:=beq_eq_false_iff_ne.mpr c6;have c6b1:((bt a0 x5_1) != a1) = true:=bne_iff_ne.mpr c6;have H':=Aside0.mk H;clear H;have p5:0 ≤ (x5_1:Int):=of_decide_eq_true (by first|(with_reducible assumption)|assumption);have q5:x5_1 < (a0.size:Int):=of_decide_eq_true (by first|(with_reducible assumption)|assumption);have hx5:=bt_at a0 x5_1;replace p5:=eq_true p5;replace q5:=eq_true q5;go_wp2;go_roundg k1
      case measure=>have:=HK1.out;omega
      case rel=>exact ⟨(wrap64 (x5_1 + 1)),(by first|rfl|(simp;done)|(simp [*];done)),H',⟨by have:=HK1.out;omega⟩,by repeat (first|exact Drawn0.refl _|apply Drawn0.step)⟩
    ·rw [if_neg c4] at H;exact absurd H (by simp)
   ·rw [if_neg c3] at H;have c3b0:decide (x5_1 < (a0.size:Int)) = false:=decide_eq_false c3;clear c3;obtain rfl:=Option.some.inj H;go_wp2;go_ret
    exact ⟨by first|rfl|(simp;done)|(simp [*];done),by repeat (first|exact Drawn0.refl _|apply Drawn0.step)⟩
end Go.Proofs.YtenbelecmmpdgaaGreatDoor.All
end
section
namespace Go.Proofs.YtenbelecmmpdgaaGreatDoor.All
open Go.RowKit Go.Proofs.YtenbelecmmpdgaaGreatDoorW.PrintWords Go.Proofs.YtenbelecmmpdgaaGreatDoorW.PrintLast Go.Proofs.YtenbelecmmpdgaaGreatDoorW.PrintMore
open Go.Proofs.YtenbelecmmpdgaaGreatDoorW.Mine
attribute [local go_sem] gtr_string leq_string geq_string
attribute [local go_sem] max2_int min2_int max_two min_two max_three min_three max_four min_four
set_option linter.unusedVariables false
set_option linter.unusedSimpArgs false
mutual
def creelref_CutTwo.j0:Nat→ByteArray→Bool→Option (ByteArray × ByteArray × Int)
 | 0,_,_=>none
 | k + 1,x0,x11=>if x11 = true then (some ((⟨#[]⟩:ByteArray),(⟨#[]⟩:ByteArray),3)) else (if (x0.size:Int) ≤ 100 then (some ((⟨#[]⟩:ByteArray),x0,0)) else (creelref_CutTwo.l0 k x0 1))
def creelref_CutTwo.l0:Nat→ByteArray→Int→Option (ByteArray × ByteArray × Int)
 | 0,_,_=>none
 | k + 1,x0,x5=>if x5 < (wrap64 ((x0.size:Int) - 1)) then (creelref_CutTwo.j2 k x0 x5 (decide (x5 ≤ 155))) else (creelref_CutTwo.j2 k x0 x5 false)
def creelref_CutTwo.j2:Nat→ByteArray→Int→Bool→Option (ByteArray × ByteArray × Int)
 | 0,_,_,_=>none
 | k + 1,x0,x5,x24=>if x24 = true then (if 0 ≤ x5 then (if x5 < (x0.size:Int) then (if (bt x0 x5) = 47 then (if (wrap64 ((wrap64 ((x0.size:Int) - x5)) - 1)) ≤ 100 then (if x5 ≤ (x0.size:Int) then (if 0 ≤ (wrap64 (x5 + 1)) then (if (wrap64 (x5 + 1)) ≤ (x0.size:Int) then (some (x0.extract 0 (x5:Int).toNat,x0.extract ((wrap64 (x5 + 1)):Int).toNat x0.size,0)) else (none)) else (none)) else (none)) else (creelref_CutTwo.l0 k x0 (wrap64 (x5 + 1)))) else (creelref_CutTwo.l0 k x0 (wrap64 (x5 + 1)))) else (none)) else (none)) else (some ((⟨#[]⟩:ByteArray),(⟨#[]⟩:ByteArray),1))
end
def creelref_CutTwo.f (k:Nat) (a0:ByteArray):Option (ByteArray × ByteArray × Int):=if a0.toList = ([]:List UInt8) then (creelref_CutTwo.j0 k a0 true) else ((creelref_has.f k a0 0).bind fun t101=>(creelref_CutTwo.j0 k a0 t101))
set_option maxHeartbeats 8000000 in
set_option maxRecDepth 100000 in
theorem creelref_CutTwo.calls (k:Nat) (a0:ByteArray) (r1:ByteArray) (r2:ByteArray) (r3:Int) (w:World) (h:creelref_CutTwo.f k a0 = some (r1,r2,r3)) :
 Calls Tryz.prog 72 #[.string a0] w fun e w'=>e = .returned (.tuple #[.string r1,.string r2,.int .i64 r3])∧Drawn0 w w':=by
 have H:(if a0.toList = ([]:List UInt8) then (creelref_CutTwo.j0 k a0 true) else ((creelref_has.f k a0 0).bind fun t101=>(creelref_CutTwo.j0 k a0 t101))) = some (r1,r2,r3):=h;clear h;have HC2:=Aside0.mk H;clear H;go_enter Tryz.func72,Tryz.ntmps72;go_upto_region 1 with (fail)
 repeat (go_quiet (fail);go_upto_region 1 with (fail))
 go_cut [11] (fun v11 wc=>∃ (kq:Nat) (x11_1:Bool),v11 = .bool x11_1∧Aside0 (creelref_CutTwo.j0 kq a0 x11_1 = some (r1,r2,r3))∧Aside0 (kq ≤ k)∧Drawn0 w wc)
 case first =>
  have H:=HC2.out;clear HC2;by_cases c3:a0.toList = ([]:List UInt8)
  ·rw [if_pos c3] at H;have c3b0:(a0.toList == ([]:List UInt8)) = true:=beq_iff_eq.mpr c3;have c3b1:(a0.toList != ([]:List UInt8)) = false:=bne_eq_false_iff_eq.mpr c3;clear c3;(first|rw [c3b0]|(simp only [i64_w,i32_w];rw [c3b0])|skip);have H':=Aside0.mk H;clear H;go_wp2;repeat (go_quiet (fail);try go_wp2)
   go_meet
   case rel=>exact ⟨_,(true),(by first|rfl|(simp;done)|(simp [*];done)),H',⟨by first|omega|exact Nat.le_refl _⟩,by repeat (first|exact Drawn0.refl _|apply Drawn0.step)⟩
  ·rw [if_neg c3] at H;have c3b0:(a0.toList == ([]:List UInt8)) = false:=beq_eq_false_iff_ne.mpr c3;have c3b1:(a0.toList != ([]:List UInt8)) = true:=bne_iff_ne.mpr c3;(first|rw [c3b0]|(simp only [i64_w,i32_w];rw [c3b0])|skip);replace H:=Option.bind_eq_some_iff.mp H;obtain ⟨t101,A40,H⟩:=H;replace H:(creelref_CutTwo.j0 k a0 t101) = some (r1,r2,r3):=H;have A4:=Aside0.mk A40;clear A40;have H':=Aside0.mk H;clear H;go_wp2_with (first|(go_at_call 77;(with_reducible refine (creelref_has.calls k a0 0 t101 _ A4.out).mono ?_);rintro e w' ⟨rfl,⟨nd,rfl⟩⟩;(try first|exact ⟨rfl,_,World.drewN_drewN _ _ _⟩|exact ⟨rfl,_,Eq.trans (World.drewN_drewN _ _ _) (congrArg (World.drewN _) (Nat.add_assoc _ _ _))⟩)))
   repeat (go_quiet (first|(go_at_call 77;(with_reducible refine (creelref_has.calls k a0 0 t101 _ A4.out).mono ?_);rintro e w' ⟨rfl,⟨nd,rfl⟩⟩;(try first|exact ⟨rfl,_,World.drewN_drewN _ _ _⟩|exact ⟨rfl,_,Eq.trans (World.drewN_drewN _ _ _) (congrArg (World.drewN _) (Nat.add_assoc _ _ _))⟩)));try go_wp2_with (first|(go_at_call 77;(with_reducible refine (creelref_has.calls k a0 0 t101 _ A4.out).mono ?_);rintro e w' ⟨rfl,⟨nd,rfl⟩⟩;(try first|exact ⟨rfl,_,World.drewN_drewN _ _ _⟩|exact ⟨rfl,_,Eq.trans (World.drewN_drewN _ _ _) (congrArg (World.drewN _) (Nat.add_assoc _ _ _))⟩))))
   go_meet
   case rel=>exact ⟨_,(t101),(by first|rfl|(simp;done)|(simp [*];done)),H',⟨by first|omega|exact Nat.le_refl _⟩,by repeat (first|exact Drawn0.refl _|apply Drawn0.step)⟩
 case rest =>
  clear HC2;obtain ⟨kq,x11_1,rfl,HA,HJ1,⟨mc1,rfl⟩⟩:=hcut;cases kq with
  | zero=>exact absurd HA.out (by simp [creelref_CutTwo.j0])
  | succ kj1 =>
   have H:=HA.out;clear HA;simp only [creelref_CutTwo.j0] at H;by_cases c5:x11_1 = true
   ·subst c5;have H1:(some ((⟨#[]⟩:ByteArray),(⟨#[]⟩:ByteArray),3)) = some (r1,r2,r3):=by rw [if_pos rfl] at H;exact H
    clear H;have H:=H1;clear H1;simp only [Option.some.injEq,Prod.mk.injEq] at H;obtain ⟨rfl,rfl,rfl⟩:=H;go_wp2;repeat (go_quiet (fail);try go_wp2)
    go_ret3
    exact ⟨by first|rfl|(simp;done)|(simp [*];done),by repeat (first|exact Drawn0.refl _|apply Drawn0.step)⟩
   ·replace c5:=Bool.eq_false_iff.mpr c5;subst c5;have H1:(if (a0.size:Int) ≤ 100 then (some ((⟨#[]⟩:ByteArray),a0,0)) else (creelref_CutTwo.l0 kj1 a0 1)) = some (r1,r2,r3):=by rw [if_neg (show ¬ (false = true) by decide)] at H;exact H
    clear H;have H:=H1;clear H1;by_cases c6:(a0.size:Int) ≤ 100
    ·rw [if_pos c6] at H;have c6b0:decide ((a0.size:Int) ≤ 100) = true:=decide_eq_true c6;have c6b1:decide (a0.size ≤ 100) = true:=decide_eq_true (by omega);clear c6;simp only [Option.some.injEq,Prod.mk.injEq] at H;obtain ⟨rfl,rfl,rfl⟩:=H;go_wp2;repeat (go_quiet (fail);try go_wp2)
     go_ret3
     exact ⟨by first|rfl|(simp;done)|(simp [*];done),by repeat (first|exact Drawn0.refl _|apply Drawn0.step)⟩
    ·rw [if_neg c6] at H;have c6b0:decide ((a0.size:Int) ≤ 100) = false:=decide_eq_false c6;have c6b1:decide (a0.size ≤ 100) = false:=decide_eq_false (by omega);clear c6;have H':=Aside0.mk H;clear H;go_wp2;repeat (go_quiet (fail);try go_wp2)
     go_loopg [5] kj1 (fun kq v5 w'=>∃ (x5_2:Int),v5 = .int .i64 x5_2∧Aside0 (creelref_CutTwo.l0 kq a0 x5_2 = some (r1,r2,r3))∧Aside0 (kq ≤ kj1)∧Drawn0 w w')
     case atStart=>exact ⟨(1),(by first|rfl|(simp;done)|(simp [*];done)),H',⟨Nat.le_refl _⟩,by repeat (first|exact Drawn0.refl _|apply Drawn0.step)⟩
     case round =>
      clear H';repeat first|clear c5|clear c6|clear c6b0|clear c6b1
      obtain ⟨x5_2,rfl,HA,HK2,⟨m2,rfl⟩⟩:=hrel;cases gk with
      | zero=>exact absurd HA.out (by simp [creelref_CutTwo.l0])
      | succ k2 =>
       have H:=HA.out;clear HA;simp only [creelref_CutTwo.l0] at H;have HC7:=Aside0.mk H;clear H;go_upto_region 6 with (fail)
       repeat (go_quiet (fail);go_upto_region 6 with (fail))
       go_cut [24] (fun v24 wc=>∃ (kq:Nat) (x24_6:Bool),v24 = .bool x24_6∧Aside0 (creelref_CutTwo.j2 kq a0 x5_2 x24_6 = some (r1,r2,r3))∧Aside0 (kq ≤ k2)∧Drawn0 w wc)
       case first =>
        have H:=HC7.out;clear HC7;by_cases c8:x5_2 < (wrap64 ((a0.size:Int) - 1))
        ·rw [if_pos c8] at H;have c8b0:decide (x5_2 < (wrap64 ((a0.size:Int) - 1))) = true:=decide_eq_true c8;clear c8;(first|rw [c8b0]|(simp only [i64_w,i32_w];rw [c8b0])|skip);have H':=Aside0.mk H;clear H;go_wp2;repeat (go_quiet (fail);try go_wp2)
         go_meet
         case rel=>exact ⟨_,(decide (x5_2 ≤ 155)),(by first|rfl|(simp;done)|(simp [*];done)),H',⟨by have:=HJ1.out;have:=HK2.out;first|omega|exact Nat.le_refl _⟩,by repeat (first|exact Drawn0.refl _|apply Drawn0.step)⟩
        ·rw [if_neg c8] at H;have c8b0:decide (x5_2 < (wrap64 ((a0.size:Int) - 1))) = false:=decide_eq_false c8;clear c8;(first|rw [c8b0]|(simp only [i64_w,i32_w];rw [c8b0])|skip);have H':=Aside0.mk H;clear H;go_wp2;repeat (go_quiet (fail);try go_wp2)
         go_meet
         case rel=>exact ⟨_,(false),(by first|rfl|(simp;done)|(simp [*];done)),H',⟨by have:=HJ1.out;have:=HK2.out;first|omega|exact Nat.le_refl _⟩,by repeat (first|exact Drawn0.refl _|apply Drawn0.step)⟩
       case rest =>
        clear HC7;repeat first|clear c5|clear c6|clear c6b0|clear c6b1
        obtain ⟨kq,x24_6,rfl,HA,HJ6,⟨mc6,rfl⟩⟩:=hcut;cases kq with
        | zero=>exact absurd HA.out (by simp [creelref_CutTwo.j2])
        | succ kj6 =>
         have H:=HA.out;clear HA;simp only [creelref_CutTwo.j2] at H;by_cases c9:x24_6 = true
         ·subst c9;have H1:(if 0 ≤ x5_2 then (if x5_2 < (a0.size:Int) then (if (bt a0 x5_2) = 47 then (if (wrap64 ((wrap64 ((a0.size:Int) - x5_2)) - 1)) ≤ 100 then (if x5_2 ≤ (a0.size:Int) then (if 0 ≤ (wrap64 (x5_2 + 1)) then (if (wrap64 (x5_2 + 1)) ≤ (a0.size:Int) then (some (a0.extract 0 (x5_2:Int).toNat,a0.extract ((wrap64 (x5_2 + 1)):Int).toNat a0.size,0)) else (none)) else (none)) else (none)) else (creelref_CutTwo.l0 kj6 a0 (wrap64 (x5_2 + 1)))) else (creelref_CutTwo.l0 kj6 a0 (wrap64 (x5_2 + 1)))) else (none)) else (none)) = some (r1,r2,r3):=by rw [if_pos rfl] at H;exact H
          clear H;have H:=H1;clear H1;by_cases c10:0 ≤ x5_2
          ·rw [if_pos c10] at H;have c10b0:decide (0 ≤ x5_2) = true:=decide_eq_true c10;clear c10;by_cases c11:x5_2 < (a0.size:Int)
           ·rw [if_pos c11] at H;have c11b0:decide (x5_2 < (a0.size:Int)) = true:=decide_eq_true c11;clear c11;by_cases c13:(bt a0 x5_2) = 47
            ·rw [if_pos c13] at H;have c13b0:((bt a0 x5_2) == 47) = true:=beq_iff_eq.mpr c13;have c13b1:((bt a0 x5_2) != 47) = false:=bne_eq_false_iff_eq.mpr c13;clear c13;by_cases c14:(wrap64 ((wrap64 ((a0.size:Int) - x5_2)) - 1)) ≤ 100
             ·rw [if_pos c14] at H;have c14b0:decide ((wrap64 ((wrap64 ((a0.size:Int) - x5_2)) - 1)) ≤ 100) = true:=decide_eq_true c14;clear c14;have c15b0:=eq_true (of_decide_eq_true (by first|(with_reducible assumption)|assumption):0 ≤ x5_2);by_cases c16:x5_2 ≤ (a0.size:Int)
              ·rw [if_pos c16] at H;have c16b0:=eq_true c16;have c16b1:decide (x5_2 ≤ (a0.size:Int)) = true:=decide_eq_true c16;clear c16;obtain ⟨ji17,hji17⟩:∃ j_:Int,(wrap64 (x5_2 + 1)) = j_:=⟨_,rfl⟩
               replace H:(if 0 ≤ (ji17) then (if (ji17) ≤ (a0.size:Int) then (some (a0.extract 0 (x5_2:Int).toNat,a0.extract ((ji17):Int).toNat a0.size,0)) else (none)) else (none)) = some (r1,r2,r3):=by first|(rw [hji17] at H;exact H)|(simp only [hji17] at H ⊢;exact H)
               have hji17w:(IntKind.i64.wrap (x5_2 + 1)) = ji17:=(i64_w _).trans hji17;by_cases c18:0 ≤ (ji17)
               ·rw [if_pos c18] at H;have c18b0:=eq_true c18;have c18b1:decide (0 ≤ (ji17)) = true:=decide_eq_true c18;clear c18;by_cases c19:(ji17) ≤ (a0.size:Int)
                ·rw [if_pos c19] at H;have c19b0:=eq_true c19;have c19b1:decide ((ji17) ≤ (a0.size:Int)) = true:=decide_eq_true c19;clear c19;simp only [Option.some.injEq,Prod.mk.injEq] at H;obtain ⟨rfl,rfl,rfl⟩:=H;have p12:0 ≤ (x5_2:Int):=of_decide_eq_true (by first|(with_reducible assumption)|assumption);have q12:x5_2 < (a0.size:Int):=of_decide_eq_true (by first|(with_reducible assumption)|assumption);have hx12:=bt_at a0 x5_2;replace p12:=eq_true p12;replace q12:=eq_true q12;go_wp2;repeat (go_quiet (fail);try go_wp2)
                 go_ret3
                 exact ⟨by first|rfl|(simp;done)|(simp only [← hji17] <;> (first|rfl|simp))|(simp [*];done),by repeat (first|exact Drawn0.refl _|apply Drawn0.step)⟩
                ·rw [if_neg c19] at H;exact absurd H (by simp)
               ·rw [if_neg c18] at H;exact absurd H (by simp)
              ·rw [if_neg c16] at H;exact absurd H (by simp)
             ·rw [if_neg c14] at H;have c14b0:decide ((wrap64 ((wrap64 ((a0.size:Int) - x5_2)) - 1)) ≤ 100) = false:=decide_eq_false c14;clear c14;have H':=Aside0.mk H;clear H;have p12:0 ≤ (x5_2:Int):=of_decide_eq_true (by first|(with_reducible assumption)|assumption);have q12:x5_2 < (a0.size:Int):=of_decide_eq_true (by first|(with_reducible assumption)|assumption);have hx12:=bt_at a0 x5_2;replace p12:=eq_true p12;replace q12:=eq_true q12;go_wp2;repeat (go_quiet (fail);try go_wp2)
              go_roundg kj6
              case measure=>have:=HJ1.out;have:=HK2.out;have:=HJ6.out;omega
              case rel=>exact ⟨(wrap64 (x5_2 + 1)),(by first|rfl|(simp;done)|(simp [*];done)),H',⟨by have:=HJ1.out;have:=HK2.out;have:=HJ6.out;omega⟩,by repeat (first|exact Drawn0.refl _|apply Drawn0.step)⟩
            ·rw [if_neg c13] at H;have c13b0:((bt a0 x5_2) == 47) = false:=beq_eq_false_iff_ne.mpr c13;have c13b1:((bt a0 x5_2) != 47) = true:=bne_iff_ne.mpr c13;have H':=Aside0.mk H;clear H;have p12:0 ≤ (x5_2:Int):=of_decide_eq_true (by first|(with_reducible assumption)|assumption);have q12:x5_2 < (a0.size:Int):=of_decide_eq_true (by first|(with_reducible assumption)|assumption);have hx12:=bt_at a0 x5_2;replace p12:=eq_true p12;replace q12:=eq_true q12;go_wp2;repeat (go_quiet (fail);try go_wp2)
             go_roundg kj6
             case measure=>have:=HJ1.out;have:=HK2.out;have:=HJ6.out;omega
             case rel=>exact ⟨(wrap64 (x5_2 + 1)),(by first|rfl|(simp;done)|(simp [*];done)),H',⟨by have:=HJ1.out;have:=HK2.out;have:=HJ6.out;omega⟩,by repeat (first|exact Drawn0.refl _|apply Drawn0.step)⟩
           ·rw [if_neg c11] at H;exact absurd H (by simp)
          ·rw [if_neg c10] at H;exact absurd H (by simp)
         ·replace c9:=Bool.eq_false_iff.mpr c9;subst c9;have H1:(some ((⟨#[]⟩:ByteArray),(⟨#[]⟩:ByteArray),1)) = some (r1,r2,r3):=by rw [if_neg (show ¬ (false = true) by decide)] at H;exact H
          clear H;have H:=H1;clear H1;simp only [Option.some.injEq,Prod.mk.injEq] at H;obtain ⟨rfl,rfl,rfl⟩:=H;go_wp2;repeat (go_quiet (fail);try go_wp2)
          go_ret3
          exact ⟨by first|rfl|(simp;done)|(simp [*];done),by repeat (first|exact Drawn0.refl _|apply Drawn0.step)⟩
end Go.Proofs.YtenbelecmmpdgaaGreatDoor.All
end
section
namespace Go.Proofs.YtenbelecmmpdgaaGreatDoor.All
open Go.RowKit Go.Proofs.YtenbelecmmpdgaaGreatDoorW.PrintWords Go.Proofs.YtenbelecmmpdgaaGreatDoorW.PrintLast Go.Proofs.YtenbelecmmpdgaaGreatDoorW.PrintMore
open Go.Proofs.YtenbelecmmpdgaaGreatDoorW.Mine
attribute [local go_sem] gtr_string leq_string geq_string
attribute [local go_sem] max2_int min2_int max_two min_two max_three min_three max_four min_four
set_option linter.unusedVariables false
set_option linter.unusedSimpArgs false
def creelref_parts.l0:Nat→ByteArray→Int→List ByteArray→Int→Option (List ByteArray)
 | 0,_,_,_,_=>none
 | k + 1,x0,x1,x5,x6=>if x6 < (x0.size:Int) then (if 0 ≤ x6 then (if (bt x0 x6) = x1 then (if x5.length < 8796093022208 then (creelref_parts.l0 k x0 x1 (x5 ++ [(⟨#[]⟩:ByteArray)]) (wrap64 (x6 + 1))) else (none)) else (if 0 ≤ (wrap64 ((x5.length:Int) - 1)) then (if (wrap64 ((x5.length:Int) - 1)) < (x5.length:Int) then (if x6 ≤ (wrap64 (x6 + 1)) then (if (wrap64 (x6 + 1)) ≤ (x0.size:Int) then (if (rdOf ByteArray.empty x5 (wrap64 ((x5.length:Int) - 1))).size + (x0.extract (x6:Int).toNat ((wrap64 (x6 + 1)):Int).toNat).size ≤ 9223372036854775807 then (creelref_parts.l0 k x0 x1 (x5.set ((wrap64 ((x5.length:Int) - 1)):Int).toNat ((rdOf ByteArray.empty x5 (wrap64 ((x5.length:Int) - 1))) ++ (x0.extract (x6:Int).toNat ((wrap64 (x6 + 1)):Int).toNat))) (wrap64 (x6 + 1))) else (none)) else (none)) else (none)) else (none)) else (none))) else (none)) else (some x5)
def creelref_parts.f (k:Nat) (a0:ByteArray) (a1:Int):Option (List ByteArray):=creelref_parts.l0 k a0 a1 (([(⟨#[]⟩:ByteArray)]:List ByteArray)) 0
def creelref_parts.T7:Bool × List (List Nat × List Nat):=(true,[([],[]),([],[]),([1],[1]),([2],[2]),([0,3],[0,3]),([4],[4]),([],[]),([],[]),([],[]),([8],[8]),([6,7,9],[6,7,9]),([5,10],[5,10]),([0,3,0,1,2,3,4,5,6,7,8,9,10,11],[0,3]),([12,11,0,1,2,3,4,5,6,7,8,9,10,11],[11,12])])
def creelref_parts.B7:List Nat:=[0,0,2,6,15,31,0,0,0,256,960,2047,4095,8191]
theorem creelref_parts.tab7:rtab .any (opsOf Tryz.f123 7) = creelref_parts.T7:=by kernel_rfl
theorem creelref_parts.bits7:waitsOk creelref_parts.T7.2 creelref_parts.B7 = true:=by kernel_rfl
set_option maxHeartbeats 8000000 in
set_option maxRecDepth 100000 in
theorem creelref_parts.calls (k:Nat) (a0:ByteArray) (a1:Int) (r:List ByteArray) (w:World) (h:creelref_parts.f k a0 a1 = some r) :
 Calls Tryz.prog 123 #[.string a0,.int .u8 a1] w fun e w'=>∃ v0_:Value,e = .returned (v0_)∧Kd.R Kd.string 9 w' w.heap.size (fun _=>True) v0_ r∧Below w.heap.size w w':=by
 have HB:=Aside0.mk (Below.refl w.heap.size w);have H:(creelref_parts.l0 k a0 a1 (([(⟨#[]⟩:ByteArray)]:List ByteArray)) 0) = some r:=h;clear h;obtain ⟨y101,hy101⟩:∃ y_:List ByteArray,y_ = (([(⟨#[]⟩:ByteArray)]:List ByteArray)):=⟨_,rfl⟩
 replace H:(creelref_parts.l0 k a0 a1 y101 0) = some r:=by first|(rw [hy101];with_reducible exact H)|(have H2_:=(Option.bind_some _ _).symm.trans H;rw [hy101];with_reducible exact H2_)|(have H2_:=(Option.bind_some _ _).symm.trans H;with_reducible exact H2_)|with_reducible exact H|(rw [hy101];exact H)|exact H
 have Ny101:=Aside0.mk hy101;clear hy101;have H':=Aside0.mk H;clear H;go_enter Tryz.func123,Tryz.ntmps123;go_wp2_with (first|((with_reducible refine gate_dst (N:=7) rfl ?_);refine Kd.R_lit Kd.string _ 9 ?hg (N:=7) ?hd (xs:=([(⟨#[]⟩:ByteArray)]:List ByteArray)) (inner:=[.string (⟨#[]⟩:ByteArray)]) (ok:=fun _=>True) (okp:=fun _=>True) ?hr ?hp (fun _ hk=>hk) trivial (Below.refl _ _) (Nat.le_refl _) (by simp) ?_;(case hd=>rfl);(case hg=>rfl);(case hr=>first|(go_simp;done)|(go_simp;rfl));(case hp=>exact (Reps.one (show Kd.M Kd.string _ _ _ (⟨#[]⟩:ByteArray) [.string (⟨#[]⟩:ByteArray)] from rfl) (Reps.none _ _)));intro v102 w3 ho4 hb hg_ hnew_;clear hg_ hnew_;(first|rw [← Ny101.out] at ho4|(simp only [Int.reduceToNat] at ho4;rw [← Ny101.out] at ho4));have n0_:=Aside0.mk (Kd.R_lower ho4 (below_size (by repeat (first|(with_reducible first|exact HB.out|apply bwA|apply pwbN|apply bw1)|exact HB.out))));have n1_:=Aside0.mk (below_step (by repeat (first|(with_reducible first|exact HB.out|apply bwA|apply pwbN|apply bw1)|exact HB.out)) hb);clear HB;have HO103:=n0_;have HB:=n1_;clear n0_ n1_;clear hb ho4))
 go_loopg [5,6] k (fun kq v5 v6 w'=>∃ (x5_1:List ByteArray) (x6_1:Int),v6 = .int .i64 x6_1∧Aside0 (creelref_parts.l0 kq a0 a1 x5_1 x6_1 = some r)∧Aside0 (kq ≤ k)∧Aside0 (Kd.R Kd.string 9 w' w.heap.size (fun _=>True) v5 x5_1)∧Aside0 (Below w.heap.size w w'))
 case atStart=>exact ⟨(y101),(0),(by first|rfl|(simp;done)|(simp [*];done)),H',⟨Nat.le_refl _⟩,⟨by (with_reducible repeat (first|apply Kd.R_alloc|apply Kd.R_drewN|apply Kd.R_drew));exact HO103.out⟩,⟨by repeat (first|(with_reducible first|exact HB.out|apply bwA|apply pwbN|apply bw1)|exact HB.out)⟩⟩
 case round =>
  clear H';obtain ⟨x5_1,x6_1,rfl,HA,HK1,HO_5,HB⟩:=hrel;cases gk with
  | zero=>exact absurd HA.out (by simp [creelref_parts.l0])
  | succ k1 =>
   have H:=HA.out;clear HA;simp only [creelref_parts.l0] at H;by_cases c5:x6_1 < (a0.size:Int)
   ·rw [if_pos c5] at H;have c5b0:decide (x6_1 < (a0.size:Int)) = true:=decide_eq_true c5;clear c5;by_cases c6:0 ≤ x6_1
    ·rw [if_pos c6] at H;have c6b0:decide (0 ≤ x6_1) = true:=decide_eq_true c6;clear c6;by_cases c8:(bt a0 x6_1) = a1
     ·rw [if_pos c8] at H;have c8b0:((bt a0 x6_1) == a1) = true:=beq_iff_eq.mpr c8;have c8b1:((bt a0 x6_1) != a1) = false:=bne_eq_false_iff_eq.mpr c8;clear c8;by_cases c9:x5_1.length < 8796093022208
      ·rw [if_pos c9] at H;have LMc9:=Aside0.mk c9;clear c9;obtain ⟨y104,hy104⟩:∃ y_:List ByteArray,y_ = (x5_1 ++ [(⟨#[]⟩:ByteArray)]):=⟨_,rfl⟩
       replace H:(creelref_parts.l0 k1 a0 a1 y104 (wrap64 (x6_1 + 1))) = some r:=by first|(rw [hy104];with_reducible exact H)|(have H2_:=(Option.bind_some _ _).symm.trans H;rw [hy104];with_reducible exact H2_)|(have H2_:=(Option.bind_some _ _).symm.trans H;with_reducible exact H2_)|with_reducible exact H|(rw [hy104];exact H)|exact H
       have Ny104:=Aside0.mk hy104;clear hy104;have H':=Aside0.mk H;clear H;have p7:0 ≤ (x6_1:Int):=of_decide_eq_true (by first|(with_reducible assumption)|assumption);have q7:x6_1 < (a0.size:Int):=of_decide_eq_true (by first|(with_reducible assumption)|assumption);have hx7:=bt_at a0 x6_1;replace p7:=eq_true p7;replace q7:=eq_true q7;go_wp2_with (first|((with_reducible refine gate_builtin (b := .append) (xs:=#[.tmp 19,.tmp 20]) rfl ?_);at_builtin;refine Kd.R_append Kd.string (w0:=w) w.heap.size rfl (.tmp 19) (.tmp 20) 136 9 (.string ⟨#[]⟩) 16 rfl Tryz.underlying136 info9 rfl (by decide) (by omega) u5 x5_1 (⟨#[]⟩:ByteArray) [.string (⟨#[]⟩:ByteArray)] (fun _=>True) (fun _=>False) rfl rfl ?aP (fun _ hk=>hk.elim) ?aF ?aO ?aB ?aS ?aL ?_;(case aP=>exact rfl);(case aB=>exact (by repeat (first|(with_reducible first|exact HB.out|apply bwA|apply pwbN|apply bw1)|exact HB.out)));(case aF=>exact (fun _ _=>trivial));(case aO=>exact (by (with_reducible repeat (first|apply Kd.R_alloc|apply Kd.R_drewN|apply Kd.R_drew));exact HO_5.out));(case aS=>exact (below_size (by repeat (first|(with_reducible first|exact HB.out|apply bwA|apply pwbN|apply bw1)|exact HB.out))));(case aL=>have:=LMc9.out;omega);intro v105 w10 ho hb hg hat;rw [← Ny104.out] at ho;have n0_:=Aside0.mk (hb);have n1_:=Aside0.mk (ho);clear HB;clear HO_5;have HB:=n0_;have HO106:=n1_;clear n0_ n1_;clear ho hb hg hat))
       go_roundg k1
       case measure=>have:=HK1.out;omega
       case rel=>exact ⟨(y104),(wrap64 (x6_1 + 1)),(by first|rfl|(simp;done)|(simp [*];done)),H',⟨by have:=HK1.out;omega⟩,⟨by (with_reducible repeat (first|apply Kd.R_alloc|apply Kd.R_drewN|apply Kd.R_drew));exact HO106.out⟩,⟨by repeat (first|(with_reducible first|exact HB.out|apply bwA|apply pwbN|apply bw1)|exact HB.out)⟩⟩
      ·rw [if_neg c9] at H;exact absurd H (by simp)
     ·rw [if_neg c8] at H;have c8b0:((bt a0 x6_1) == a1) = false:=beq_eq_false_iff_ne.mpr c8;have c8b1:((bt a0 x6_1) != a1) = true:=bne_iff_ne.mpr c8;obtain ⟨ji11,hji11⟩:∃ j_:Int,(wrap64 ((x5_1.length:Int) - 1)) = j_:=⟨_,rfl⟩
      replace H:(if 0 ≤ (ji11) then (if (ji11) < (x5_1.length:Int) then (if x6_1 ≤ (wrap64 (x6_1 + 1)) then (if (wrap64 (x6_1 + 1)) ≤ (a0.size:Int) then (if (rdOf ByteArray.empty x5_1 (ji11)).size + (a0.extract (x6_1:Int).toNat ((wrap64 (x6_1 + 1)):Int).toNat).size ≤ 9223372036854775807 then (creelref_parts.l0 k1 a0 a1 (x5_1.set ((ji11):Int).toNat ((rdOf ByteArray.empty x5_1 (ji11)) ++ (a0.extract (x6_1:Int).toNat ((wrap64 (x6_1 + 1)):Int).toNat))) (wrap64 (x6_1 + 1))) else (none)) else (none)) else (none)) else (none)) else (none)) = some r:=by first|(rw [hji11] at H;exact H)|(simp only [hji11] at H ⊢;exact H)
      have hji11w:(IntKind.i64.wrap ((x5_1.length:Int) - 1)) = ji11:=(i64_w _).trans hji11;by_cases c12:0 ≤ (ji11)
      ·rw [if_pos c12] at H;have c12b0:decide (0 ≤ (ji11)) = true:=decide_eq_true c12;clear c12;by_cases c13:(ji11) < (x5_1.length:Int)
       ·rw [if_pos c13] at H;have c13b0:decide ((ji11) < (x5_1.length:Int)) = true:=decide_eq_true c13;clear c13;have c14b0:=eq_true (of_decide_eq_true (by first|(with_reducible assumption)|assumption):0 ≤ x6_1);by_cases c15:x6_1 ≤ (wrap64 (x6_1 + 1))
        ·rw [if_pos c15] at H;have c15b0:=eq_true c15;have c15b1:decide (x6_1 ≤ (wrap64 (x6_1 + 1))) = true:=decide_eq_true c15;by_cases c16:(wrap64 (x6_1 + 1)) ≤ (a0.size:Int)
         ·rw [if_pos c16] at H;have c16b0:=eq_true c16;have c16b1:decide ((wrap64 (x6_1 + 1)) ≤ (a0.size:Int)) = true:=decide_eq_true c16;by_cases c17:(rdOf ByteArray.empty x5_1 (ji11)).size + (a0.extract (x6_1:Int).toNat ((wrap64 (x6_1 + 1)):Int).toNat).size ≤ 9223372036854775807
          ·rw [if_pos c17] at H;have c17b0:=eq_true c17;have c17b1:decide ((rdOf ByteArray.empty x5_1 (ji11)).size + (a0.extract (x6_1:Int).toNat ((wrap64 (x6_1 + 1)):Int).toNat).size ≤ 9223372036854775807) = true:=decide_eq_true c17;try have c17b2:(9223372036854775807 < (rdOf ByteArray.empty x5_1 (ji11)).size + (a0.extract (x6_1:Int).toNat ((wrap64 (x6_1 + 1)):Int).toNat).size) = False:=eq_false (Nat.not_lt.2 c17)
           try have c17b3:(9223372036854775807 < (rdOf ByteArray.empty x5_1 (ji11)).size + (((wrap64 (x6_1 + 1))).toNat - (x6_1).toNat)) = False:=eq_false (by have h_:=c17;simp only [ByteArray.size_extract] at h_;omega)
           obtain ⟨y108,hy108⟩:∃ y_:List ByteArray,y_ = (x5_1.set ((ji11):Int).toNat ((rdOf ByteArray.empty x5_1 (ji11)) ++ (a0.extract (x6_1:Int).toNat ((wrap64 (x6_1 + 1)):Int).toNat))):=⟨_,rfl⟩
           replace H:(creelref_parts.l0 k1 a0 a1 y108 (wrap64 (x6_1 + 1))) = some r:=by first|(rw [hy108];with_reducible exact H)|(have H2_:=(Option.bind_some _ _).symm.trans H;rw [hy108];with_reducible exact H2_)|(have H2_:=(Option.bind_some _ _).symm.trans H;with_reducible exact H2_)|with_reducible exact H|(rw [hy108];exact H)|exact H
           have Ny108:=Aside0.mk hy108;clear hy108;have H':=Aside0.mk H;clear H;have p7:0 ≤ (x6_1:Int):=of_decide_eq_true (by first|(with_reducible assumption)|assumption);have q7:x6_1 < (a0.size:Int):=of_decide_eq_true (by first|(with_reducible assumption)|assumption);have hx7:=bt_at a0 x6_1;replace p7:=eq_true p7;replace q7:=eq_true q7;try go_wp2
           have n0_:=Aside0.mk (Kd.R_drew HO_5.out);have n1_:=Aside0.mk (bw1 HB.out);clear HO_5;clear HB;have HO_5:=n0_;have HB:=n1_;clear n0_ n1_;obtain ⟨Ao20,co20,eo20⟩:=Kd.R_slice HO_5.out;(first|subst eo20|(injection eo20 with f1_ f2_ f3_;have f4_:=f1_.symm;have f5_:=f3_.symm;clear f1_ f2_ f3_;subst f4_;subst f5_));have p107:0 ≤ ((ji11):Int):=of_decide_eq_true (by first|(with_reducible assumption)|assumption);have q107:(ji11) < (x5_1.length:Int):=of_decide_eq_true (by first|(with_reducible assumption)|assumption);obtain ⟨ad107,e107,hx107_0⟩:=Kd.at_string (Kd.R_reads' HO_5.out).2.2 (ji11) p107 q107;cases e107;replace p107:=eq_true p107;replace q107:=eq_true q107;have p18:0 ≤ ((ji11):Int):=of_decide_eq_true (by first|(with_reducible assumption)|assumption);have q18:((ji11):Int) < ((x5_1.length:Int):Int):=of_decide_eq_true (by first|(with_reducible assumption)|assumption);obtain ⟨go18,co18,eo18,gb18,gl18,cl18,HG18⟩:=Kd.R_form HO_5.out (by omega);(first|cases eo18|(injection eo18 with ea_ en_ ec_;(first|subst ea_|(injection ea_ with ea_;subst ea_));subst ec_;clear en_));have GB18:=Aside0.mk gb18;have GG18:=Aside0.mk HG18;clear gb18 gl18 HG18;(first|simp only [add_plain] at hx107_0|skip);obtain ⟨hx18_0,hf18_0⟩:=Kd.R_celln (⟨#[]⟩:ByteArray) HO_5.out ((ji11):Int) p18 q18;replace p18:=eq_true p18;replace q18:=eq_true q18;have HP21:=Kd.R_putn HO_5.out ((ji11):Int) ((rdOf ByteArray.empty x5_1 (ji11)) ++ (a0.extract (x6_1:Int).toNat ((wrap64 (x6_1 + 1)):Int).toNat));rw [← Ny108.out] at HP21;have HQ21:=Aside0.mk HP21;clear HP21;refine start_ (n:=14) (S:=fun w'=>w'.cell? ⟨go18,((ji11)).toNat,none⟩ = some (.string (rdOf ByteArray.empty x5_1 (ji11)))) (ds:=[13]) #[false,false,false,false,false,false,false,false,false,false,false,false,false,false] (by kernel_rfl) rfl rfl (hx107_0) (fun hHeld=>?_);refine with_tabW creelref_parts.tab7 creelref_parts.bits7 (fun HT_ HW_=>?_);generalize wr.drew = w19 at HO_5 HB GG18 HQ21 hf18_0 hx107_0 hx18_0 hHeld ⊢;refine pure_ (i:=0) (N:=some 22) (v:=?_) (a':=?_) #[true,false,false,false,false,false,false,false,false,false,false,false,false,false] rfl rfl (any_of HT_.out (by kernel_rfl)) (fun _ _ _ h=>h) (Or.inl ⟨by rfl,?_⟩) ?_ ?_;rotate_left
           ·intro w';go_simp
            with_reducible rfl
           rotate_left
           ·simp only [Act.put,List.setIfInBounds_toArray,List.set_cons_zero,List.set_cons_succ,i64_w,i32_w];rfl
           refine pure_ (i:=1) (N:=some 23) (v:=?_) (a':=?_) #[true,true,false,false,false,false,false,false,false,false,false,false,false,false] rfl rfl (any_of HT_.out (by kernel_rfl)) (fun _ _ _ h=>h) (Or.inl ⟨by rfl,?_⟩) ?_ ?_;rotate_left
           ·intro w';go_simp
            with_reducible rfl
           rotate_left
           ·simp only [Act.put,List.setIfInBounds_toArray,List.set_cons_zero,List.set_cons_succ,i64_w,i32_w];rfl
           refine pure_ (i:=2) (N:=some 24) (v:=?_) (a':=?_) #[true,true,true,false,false,false,false,false,false,false,false,false,false,false] rfl rfl (any_of HT_.out (by kernel_rfl)) (fun _ _ _ h=>h) (Or.inl ⟨by rfl,?_⟩) ?_ ?_;rotate_left
           ·intro w';go_simp
            with_reducible rfl
           rotate_left
           ·simp only [Act.put,List.setIfInBounds_toArray,List.set_cons_zero,List.set_cons_succ,i64_w,i32_w];rfl
           refine pure_ (i:=3) (N:=some 25) (v:=?_) (a':=?_) #[true,true,true,true,false,false,false,false,false,false,false,false,false,false] rfl rfl (any_of HT_.out (by kernel_rfl)) (fun _ _ _ h=>h) (Or.inl ⟨by rfl,?_⟩) ?_ ?_;rotate_left
           ·intro w';go_simp
            with_reducible rfl
           rotate_left
           ·simp only [Act.put,List.setIfInBounds_toArray,List.set_cons_zero,List.set_cons_succ,i64_w,i32_w];rfl
           refine pure_ (i:=4) (N:=some 26) (v:=?_) (a':=?_) #[true,true,true,true,true,false,false,false,false,false,false,false,false,false] rfl rfl (any_of HT_.out (by kernel_rfl)) (fun _ _ _ h=>h) (Or.inl ⟨by rfl,?_⟩) ?_ ?_;rotate_left
           ·intro w';go_simp
            with_reducible rfl
           rotate_left
           ·simp only [Act.put,List.setIfInBounds_toArray,List.set_cons_zero,List.set_cons_succ,i64_w,i32_w];rfl
           refine pure_ (i:=6) (N:=some 28) (v:=?_) (a':=?_) #[true,true,true,true,true,false,true,false,false,false,false,false,false,false] rfl rfl (any_of HT_.out (by kernel_rfl)) (fun _ _ _ h=>h) (Or.inl ⟨by rfl,?_⟩) ?_ ?_;rotate_left
           ·intro w';go_simp
            with_reducible rfl
           rotate_left
           ·simp only [Act.put,List.setIfInBounds_toArray,List.set_cons_zero,List.set_cons_succ,i64_w,i32_w];rfl
           refine pure_ (i:=7) (N:=some 29) (v:=?_) (a':=?_) #[true,true,true,true,true,false,true,true,false,false,false,false,false,false] rfl rfl (any_of HT_.out (by kernel_rfl)) (fun _ _ _ h=>h) (Or.inl ⟨by rfl,?_⟩) ?_ ?_;rotate_left
           ·intro w';go_simp
            with_reducible rfl
           rotate_left
           ·simp only [Act.put,List.setIfInBounds_toArray,List.set_cons_zero,List.set_cons_succ,i64_w,i32_w];rfl
           refine pure_ (i:=8) (N:=some 30) (v:=?_) (a':=?_) #[true,true,true,true,true,false,true,true,true,false,false,false,false,false] rfl rfl (any_of HT_.out (by kernel_rfl)) (fun _ _ _ h=>h) (Or.inl ⟨by rfl,?_⟩) ?_ ?_;rotate_left
           ·intro w';go_simp
            with_reducible rfl
           rotate_left
           ·simp only [Act.put,List.setIfInBounds_toArray,List.set_cons_zero,List.set_cons_succ,i64_w,i32_w];rfl
           refine pure_ (i:=9) (N:=some 31) (v:=?_) (a':=?_) #[true,true,true,true,true,false,true,true,true,true,false,false,false,false] rfl rfl (any_of HT_.out (by kernel_rfl)) (fun _ _ _ h=>h) (Or.inl ⟨by rfl,?_⟩) ?_ ?_;rotate_left
           ·intro w';go_simp
            with_reducible rfl
           rotate_left
           ·simp only [Act.put,List.setIfInBounds_toArray,List.set_cons_zero,List.set_cons_succ,i64_w,i32_w];rfl
           refine pure_ (i:=10) (N:=some 32) (v:=?_) (a':=?_) #[true,true,true,true,true,false,true,true,true,true,true,false,false,false] rfl rfl (any_of HT_.out (by kernel_rfl)) (fun _ _ _ h=>h) (Or.inl ⟨by rfl,?_⟩) ?_ ?_;rotate_left
           ·intro w';go_simp
            with_reducible rfl
           rotate_left
           ·simp only [Act.put,List.setIfInBounds_toArray,List.set_cons_zero,List.set_cons_succ,i64_w,i32_w];rfl
           refine take_ (i:=5) (N:=some 27) (v:=?_) (a':=?_) #[true,true,true,true,true,true,true,true,true,true,true,false,false,false] rfl rfl (take_ofW HT_.out HW_.out (by kernel_rfl)) (fun _ _ _ h=>h) (Or.inl ⟨by rfl,?_⟩) hHeld ?_ ?_;rotate_left
           ·intro w' s0;go_simp
            with_reducible rfl
           rotate_left
           ·simp only [Act.put,List.setIfInBounds_toArray,List.set_cons_zero,List.set_cons_succ,i64_w,i32_w];rfl
           refine pure_ (i:=11) (N:=some 33) (v:=?_) (a':=?_) #[true,true,true,true,true,true,true,true,true,true,true,true,false,false] rfl rfl (any_of HT_.out (by kernel_rfl)) (fun _ _ _ h=>h) (Or.inl ⟨by rfl,?_⟩) ?_ ?_;rotate_left
           ·intro w';go_simp
            with_reducible rfl
           rotate_left
           ·simp only [Act.put,List.setIfInBounds_toArray,List.set_cons_zero,List.set_cons_succ,i64_w,i32_w];rfl
           refine pure_ (i:=12) (N:=some 34) (v:=?_) (a':=?_) #[true,true,true,true,true,true,true,true,true,true,true,true,true,false] rfl rfl (any_of HT_.out (by kernel_rfl)) (fun _ _ _ h=>h) (Or.inl ⟨by rfl,?_⟩) ?_ ?_;rotate_left
           ·intro w';go_simp
            with_reducible rfl
           rotate_left
           ·simp only [Act.put,List.setIfInBounds_toArray,List.set_cons_zero,List.set_cons_succ,i64_w,i32_w];rfl
           refine last_ (i:=13) (N:=none) #[true,true,true,true,true,true,true,true,true,true,true,true,true,true] rfl rfl (one_of HT_.out (by kernel_rfl)) (by decide) (fun K hK=>?_);refine skip_ (w1:=?_) (by rfl) rfl ?_ ?_;rotate_left
           ·go_simp
            rfl
           refine hK.out _ _ ?_;clear hK K;refine done_ (done_of HT_.out (by kernel_rfl)) ?_;try go_wp2
           go_roundg k1
           case measure=>have:=HK1.out;omega
           case rel=>exact ⟨(y108),(wrap64 (x6_1 + 1)),(by first|rfl|(simp;done)|(simp [*];done)),H',⟨by have:=HK1.out;omega⟩,⟨by (with_reducible repeat (first|apply Kd.R_alloc|apply Kd.R_drewN|apply Kd.R_drew));exact HQ21.out⟩,⟨by repeat (first|(with_reducible first|exact HB.out|apply bwA|apply pwbN|apply bw1|refine below_set ?_ GB18.out)|exact HB.out)⟩⟩
          ·rw [if_neg c17] at H;exact absurd H (by simp)
         ·rw [if_neg c16] at H;exact absurd H (by simp)
        ·rw [if_neg c15] at H;exact absurd H (by simp)
       ·rw [if_neg c13] at H;exact absurd H (by simp)
      ·rw [if_neg c12] at H;exact absurd H (by simp)
    ·rw [if_neg c6] at H;exact absurd H (by simp)
   ·rw [if_neg c5] at H;have c5b0:decide (x6_1 < (a0.size:Int)) = false:=decide_eq_false c5;clear c5;obtain rfl:=Option.some.inj H;go_wp2;go_ret
    exact ⟨_,by first|rfl|(simp [errW_none,errW_some] <;> rfl)|(simp [*,errW_none,errW_some] <;> rfl),by (with_reducible repeat (first|apply Kd.R_alloc|apply Kd.R_drewN|apply Kd.R_drew));exact HO_5.out,by repeat (first|(with_reducible first|exact HB.out|apply bwA|apply pwbN|apply bw1)|exact HB.out)⟩
end Go.Proofs.YtenbelecmmpdgaaGreatDoor.All
end
section
namespace Go.Proofs.YtenbelecmmpdgaaGreatDoor.All
open Go.RowKit Go.Proofs.YtenbelecmmpdgaaGreatDoorW.PrintWords Go.Proofs.YtenbelecmmpdgaaGreatDoorW.PrintLast Go.Proofs.YtenbelecmmpdgaaGreatDoorW.PrintMore
open Go.Proofs.YtenbelecmmpdgaaGreatDoorW.Mine
attribute [local go_sem] gtr_string leq_string geq_string
attribute [local go_sem] max2_int min2_int max_two min_two max_three min_three max_four min_four
set_option linter.unusedVariables false
set_option linter.unusedSimpArgs false
mutual
def creelref_PathFault.j0:Nat→ByteArray→Bool→Option (Int)
 | 0,_,_=>none
 | k + 1,x0,x11=>if x11 = true then (some 1) else ((creelref_has.f k x0 0).bind fun t101=>(if t101 = true then (some 3) else ((creelref_parts.f k x0 47).bind fun t102=>(creelref_PathFault.l0 k t102 (t102.length:Int) 0))))
def creelref_PathFault.l0:Nat→List ByteArray→Int→Int→Option (Int)
 | 0,_,_,_=>none
 | k + 1,x15,x16,x17=>if x17 < x16 then (if 0 ≤ x17 then (if x17 < (x15.length:Int) then (if (rdOf ByteArray.empty x15 x17).toList = ([]:List UInt8) then (some 9) else (if (rdOf ByteArray.empty x15 x17).toList = ([46]:List UInt8) then (some 9) else (if (rdOf ByteArray.empty x15 x17).toList = ([46,46]:List UInt8) then (some 9) else (creelref_PathFault.l0 k x15 x16 (wrap64 (x17 + 1)))))) else (none)) else (none)) else (some 0)
end
def creelref_PathFault.f (k:Nat) (a0:ByteArray):Option (Int):=if a0.toList = ([]:List UInt8) then (creelref_PathFault.j0 k a0 true) else (creelref_PathFault.j0 k a0 (decide ((a0.size:Int) > 400)))
set_option maxHeartbeats 8000000 in
set_option maxRecDepth 100000 in
theorem creelref_PathFault.calls (k:Nat) (a0:ByteArray) (r:Int) (w:World) (h:creelref_PathFault.f k a0 = some r) :
 Calls Tryz.prog 113 #[.string a0] w fun e w'=>e = .returned (.int .i64 r)∧Below w.heap.size w w':=by
 have HB:=Aside0.mk (Below.refl w.heap.size w);have H:(if a0.toList = ([]:List UInt8) then (creelref_PathFault.j0 k a0 true) else (creelref_PathFault.j0 k a0 (decide ((a0.size:Int) > 400)))) = some r:=h;clear h;have HC2:=Aside0.mk H;clear H;go_enter Tryz.func113,Tryz.ntmps113;go_upto_region 1 with (fail)
 go_cut [11] (fun v11 wc=>∃ (kq:Nat) (x11_1:Bool),v11 = .bool x11_1∧Aside0 (creelref_PathFault.j0 kq a0 x11_1 = some r)∧Aside0 (kq ≤ k)∧Aside0 (Below w.heap.size w wc))
 case first =>
  have H:=HC2.out;clear HC2;by_cases c3:a0.toList = ([]:List UInt8)
  ·rw [if_pos c3] at H;have c3b0:(a0.toList == ([]:List UInt8)) = true:=beq_iff_eq.mpr c3;have c3b1:(a0.toList != ([]:List UInt8)) = false:=bne_eq_false_iff_eq.mpr c3;clear c3;(first|rw [c3b0]|(simp only [i64_w,i32_w];rw [c3b0])|skip);have H':=Aside0.mk H;clear H;go_wp2;go_meet
   case rel=>exact ⟨_,(true),(by first|rfl|(simp;done)|(simp [*];done)),H',⟨by first|omega|exact Nat.le_refl _⟩,⟨by repeat (first|(with_reducible first|exact HB.out|apply bwA|apply pwbN|apply bw1)|exact HB.out)⟩⟩
  ·rw [if_neg c3] at H;have c3b0:(a0.toList == ([]:List UInt8)) = false:=beq_eq_false_iff_ne.mpr c3;have c3b1:(a0.toList != ([]:List UInt8)) = true:=bne_iff_ne.mpr c3;(first|rw [c3b0]|(simp only [i64_w,i32_w];rw [c3b0])|skip);have H':=Aside0.mk H;clear H;go_wp2;go_meet
   case rel=>exact ⟨_,(decide ((a0.size:Int) > 400)),(by first|rfl|(simp;done)|(simp [*];done)),H',⟨by first|omega|exact Nat.le_refl _⟩,⟨by repeat (first|(with_reducible first|exact HB.out|apply bwA|apply pwbN|apply bw1)|exact HB.out)⟩⟩
 case rest =>
  clear HC2;obtain ⟨kq,x11_1,rfl,HA,HJ1,HB⟩:=hcut;cases kq with
  | zero=>exact absurd HA.out (by simp [creelref_PathFault.j0])
  | succ kj1 =>
   have H:=HA.out;clear HA;simp only [creelref_PathFault.j0] at H;by_cases c4:x11_1 = true
   ·subst c4;have H1:(some 1) = some r:=by rw [if_pos rfl] at H;exact H
    clear H;have H:=H1;clear H1;obtain rfl:=Option.some.inj H;go_wp2;go_ret
    exact ⟨by first|rfl|(simp [errW_none,errW_some] <;> rfl)|(simp [*,errW_none,errW_some] <;> rfl),by repeat (first|(with_reducible first|exact HB.out|apply bwA|apply pwbN|apply bw1)|exact HB.out)⟩
   ·replace c4:=Bool.eq_false_iff.mpr c4;subst c4;have H1:((creelref_has.f kj1 a0 0).bind fun t101=>(if t101 = true then (some 3) else ((creelref_parts.f kj1 a0 47).bind fun t102=>(creelref_PathFault.l0 kj1 t102 (t102.length:Int) 0)))) = some r:=by rw [if_neg (show ¬ (false = true) by decide)] at H;exact H
    clear H;have H:=H1;clear H1;replace H:=Option.bind_eq_some_iff.mp H;obtain ⟨t101,A50,H⟩:=H;replace H:(if t101 = true then (some 3) else ((creelref_parts.f kj1 a0 47).bind fun t102=>(creelref_PathFault.l0 kj1 t102 (t102.length:Int) 0))) = some r:=H;have A5:=Aside0.mk A50;clear A50;by_cases c6:t101 = true
    ·subst c6;have H1:(some 3) = some r:=by rw [if_pos rfl] at H;exact H
     clear H;have H:=H1;clear H1;obtain rfl:=Option.some.inj H;go_wp2_with (first|((with_reducible refine gate_callee (f:=77) rfl ?_);refine goesL_ (some 13) rfl rfl Tryz.func77 (by kernel_rfl) rfl #[.string a0,.int .u8 0] rfl (by (try simp only [List.map_toArray,List.map_cons,List.map_nil]);first|done|rfl|(simp only [List.length_drop,List.length_take];rfl)) ?_;(with_reducible refine (creelref_has.calls kj1 a0 0 true _ A5.out).mono ?_);rintro e w' ⟨rfl,⟨nd,rfl⟩⟩;refine ⟨_,rfl,?_⟩))
     go_ret
     exact ⟨by first|rfl|(simp [errW_none,errW_some] <;> rfl)|(simp [*,errW_none,errW_some] <;> rfl),by repeat (first|(with_reducible first|exact HB.out|apply bwA|apply pwbN|apply bw1)|exact HB.out)⟩
    ·replace c6:=Bool.eq_false_iff.mpr c6;subst c6;have H1:((creelref_parts.f kj1 a0 47).bind fun t102=>(creelref_PathFault.l0 kj1 t102 (t102.length:Int) 0)) = some r:=by rw [if_neg (show ¬ (false = true) by decide)] at H;exact H
     clear H;have H:=H1;clear H1;replace H:=Option.bind_eq_some_iff.mp H;obtain ⟨t102,A70,H⟩:=H;replace H:(creelref_PathFault.l0 kj1 t102 (t102.length:Int) 0) = some r:=H;have A7:=Aside0.mk A70;clear A70;have H':=Aside0.mk H;clear H;go_wp2_with (first|((with_reducible refine gate_callee (f:=77) rfl ?_);refine goesL_ (some 13) rfl rfl Tryz.func77 (by kernel_rfl) rfl #[.string a0,.int .u8 0] rfl (by (try simp only [List.map_toArray,List.map_cons,List.map_nil]);first|done|rfl|(simp only [List.length_drop,List.length_take];rfl)) ?_;(with_reducible refine (creelref_has.calls kj1 a0 0 false _ A5.out).mono ?_);rintro e w' ⟨rfl,⟨nd,rfl⟩⟩;refine ⟨_,rfl,?_⟩)|((with_reducible refine gate_callee (f:=123) rfl ?_);refine goesL_ (some 15) rfl rfl Tryz.func123 (by kernel_rfl) rfl #[.string a0,.int .u8 47] rfl (by (try simp only [List.map_toArray,List.map_cons,List.map_nil]);first|done|rfl|(simp only [List.length_drop,List.length_take];rfl)) ?_;(with_reducible refine (creelref_parts.calls kj1 a0 47 t102 _ A7.out).mono ?_);rintro e w8 ⟨v103,rfl,ho0,hb⟩;refine ⟨_,rfl,?_⟩;have n0_:=Aside0.mk (Kd.R_lower ho0 (below_size (by repeat (first|(with_reducible first|exact HB.out|apply bwA|apply pwbN|apply bw1)|exact HB.out))));have n1_:=Aside0.mk (below_step (by repeat (first|(with_reducible first|exact HB.out|apply bwA|apply pwbN|apply bw1)|exact HB.out)) hb);clear HB;have HO104:=n0_;have HB:=n1_;clear n0_ n1_;(try clear hb);(try clear hb2);(try clear hk);(try clear hi);(try clear ho0);obtain ⟨Ao9,co9,eo9⟩:=Kd.R_slice HO104.out;subst eo9))
     go_loopg [17] kj1 (fun kq v17 w'=>∃ (x17_2:Int),v17 = .int .i64 x17_2∧Aside0 (creelref_PathFault.l0 kq t102 (t102.length:Int) x17_2 = some r)∧Aside0 (kq ≤ kj1)∧Aside0 (Kd.R Kd.string 9 w' w.heap.size (fun _=>True) (.slice Ao9 t102.length co9) t102)∧Aside0 (Below w.heap.size w w'))
     case atStart=>exact ⟨(0),(by first|rfl|(simp;done)|(simp [*];done)),H',⟨Nat.le_refl _⟩,⟨by (with_reducible repeat (first|apply Kd.R_alloc|apply Kd.R_drewN|apply Kd.R_drew));exact HO104.out⟩,⟨by repeat (first|(with_reducible first|exact HB.out|apply bwA|apply pwbN|apply bw1)|exact HB.out)⟩⟩
     case round =>
      clear H';try clear c4
      try clear c6
      obtain ⟨x17_2,rfl,HA,HK2,HO_15,HB⟩:=hrel;cases gk with
      | zero=>exact absurd HA.out (by simp [creelref_PathFault.l0])
      | succ k2 =>
       have H:=HA.out;clear HA;simp only [creelref_PathFault.l0] at H;by_cases c10:x17_2 < (t102.length:Int)
       ·rw [if_pos c10] at H;have c10b0:decide (x17_2 < (t102.length:Int)) = true:=decide_eq_true c10;clear c10;by_cases c11:0 ≤ x17_2
        ·rw [if_pos c11] at H;have c11b0:decide (0 ≤ x17_2) = true:=decide_eq_true c11;clear c11;by_cases c12:x17_2 < (t102.length:Int)
         ·rw [if_pos c12] at H;have c12b0:decide (x17_2 < (t102.length:Int)) = true:=decide_eq_true c12;clear c12;by_cases c13:(rdOf ByteArray.empty t102 x17_2).toList = ([]:List UInt8)
          ·rw [if_pos c13] at H;have c13b0:((rdOf ByteArray.empty t102 x17_2).toList == ([]:List UInt8)) = true:=beq_iff_eq.mpr c13;have c13b1:((rdOf ByteArray.empty t102 x17_2).toList != ([]:List UInt8)) = false:=bne_eq_false_iff_eq.mpr c13;clear c13;obtain rfl:=Option.some.inj H;have p105:0 ≤ (x17_2:Int):=of_decide_eq_true (by first|(with_reducible assumption)|assumption);have q105:x17_2 < (t102.length:Int):=of_decide_eq_true (by first|(with_reducible assumption)|assumption);obtain ⟨ad105,e105,hx105_0⟩:=Kd.at_string (Kd.R_reads' HO_15.out).2.2 x17_2 p105 q105;cases e105;replace p105:=eq_true p105;replace q105:=eq_true q105;go_wp2;go_ret
           exact ⟨by first|rfl|(simp [errW_none,errW_some] <;> rfl)|(simp [*,errW_none,errW_some] <;> rfl),by repeat (first|(with_reducible first|exact HB.out|apply bwA|apply pwbN|apply bw1)|exact HB.out)⟩
          ·rw [if_neg c13] at H;have c13b0:((rdOf ByteArray.empty t102 x17_2).toList == ([]:List UInt8)) = false:=beq_eq_false_iff_ne.mpr c13;have c13b1:((rdOf ByteArray.empty t102 x17_2).toList != ([]:List UInt8)) = true:=bne_iff_ne.mpr c13;by_cases c14:(rdOf ByteArray.empty t102 x17_2).toList = ([46]:List UInt8)
           ·rw [if_pos c14] at H;have c14b0:((rdOf ByteArray.empty t102 x17_2).toList == ([46]:List UInt8)) = true:=beq_iff_eq.mpr c14;have c14b1:((rdOf ByteArray.empty t102 x17_2).toList != ([46]:List UInt8)) = false:=bne_eq_false_iff_eq.mpr c14;clear c14;obtain rfl:=Option.some.inj H;have p105:0 ≤ (x17_2:Int):=of_decide_eq_true (by first|(with_reducible assumption)|assumption);have q105:x17_2 < (t102.length:Int):=of_decide_eq_true (by first|(with_reducible assumption)|assumption);obtain ⟨ad105,e105,hx105_0⟩:=Kd.at_string (Kd.R_reads' HO_15.out).2.2 x17_2 p105 q105;cases e105;replace p105:=eq_true p105;replace q105:=eq_true q105;go_wp2;go_ret
            exact ⟨by first|rfl|(simp [errW_none,errW_some] <;> rfl)|(simp [*,errW_none,errW_some] <;> rfl),by repeat (first|(with_reducible first|exact HB.out|apply bwA|apply pwbN|apply bw1)|exact HB.out)⟩
           ·rw [if_neg c14] at H;have c14b0:((rdOf ByteArray.empty t102 x17_2).toList == ([46]:List UInt8)) = false:=beq_eq_false_iff_ne.mpr c14;have c14b1:((rdOf ByteArray.empty t102 x17_2).toList != ([46]:List UInt8)) = true:=bne_iff_ne.mpr c14;by_cases c15:(rdOf ByteArray.empty t102 x17_2).toList = ([46,46]:List UInt8)
            ·rw [if_pos c15] at H;have c15b0:((rdOf ByteArray.empty t102 x17_2).toList == ([46,46]:List UInt8)) = true:=beq_iff_eq.mpr c15;have c15b1:((rdOf ByteArray.empty t102 x17_2).toList != ([46,46]:List UInt8)) = false:=bne_eq_false_iff_eq.mpr c15;clear c15;obtain rfl:=Option.some.inj H;have p105:0 ≤ (x17_2:Int):=of_decide_eq_true (by first|(with_reducible assumption)|assumption);have q105:x17_2 < (t102.length:Int):=of_decide_eq_true (by first|(with_reducible assumption)|assumption);obtain ⟨ad105,e105,hx105_0⟩:=Kd.at_string (Kd.R_reads' HO_15.out).2.2 x17_2 p105 q105;cases e105;replace p105:=eq_true p105;replace q105:=eq_true q105;go_wp2;go_ret
             exact ⟨by first|rfl|(simp [errW_none,errW_some] <;> rfl)|(simp [*,errW_none,errW_some] <;> rfl),by repeat (first|(with_reducible first|exact HB.out|apply bwA|apply pwbN|apply bw1)|exact HB.out)⟩
            ·rw [if_neg c15] at H;have c15b0:((rdOf ByteArray.empty t102 x17_2).toList == ([46,46]:List UInt8)) = false:=beq_eq_false_iff_ne.mpr c15;have c15b1:((rdOf ByteArray.empty t102 x17_2).toList != ([46,46]:List UInt8)) = true:=bne_iff_ne.mpr c15;have H':=Aside0.mk H;clear H;have p105:0 ≤ (x17_2:Int):=of_decide_eq_true (by first|(with_reducible assumption)|assumption);have q105:x17_2 < (t102.length:Int):=of_decide_eq_true (by first|(with_reducible assumption)|assumption);obtain ⟨ad105,e105,hx105_0⟩:=Kd.at_string (Kd.R_reads' HO_15.out).2.2 x17_2 p105 q105;cases e105;replace p105:=eq_true p105;replace q105:=eq_true q105;go_wp2;go_roundg k2
             case measure=>have:=HJ1.out;have:=HK2.out;omega
             case rel=>exact ⟨(wrap64 (x17_2 + 1)),(by first|rfl|(simp;done)|(simp [*];done)),H',⟨by have:=HJ1.out;have:=HK2.out;omega⟩,⟨by (with_reducible repeat (first|apply Kd.R_alloc|apply Kd.R_drewN|apply Kd.R_drew));exact HO_15.out⟩,⟨by repeat (first|(with_reducible first|exact HB.out|apply bwA|apply pwbN|apply bw1)|exact HB.out)⟩⟩
         ·rw [if_neg c12] at H;exact absurd H (by simp)
        ·rw [if_neg c11] at H;exact absurd H (by simp)
       ·rw [if_neg c10] at H;have c10b0:decide (x17_2 < (t102.length:Int)) = false:=decide_eq_false c10;clear c10;obtain rfl:=Option.some.inj H;go_wp2;go_ret
        exact ⟨by first|rfl|(simp [errW_none,errW_some] <;> rfl)|(simp [*,errW_none,errW_some] <;> rfl),by repeat (first|(with_reducible first|exact HB.out|apply bwA|apply pwbN|apply bw1)|exact HB.out)⟩
end Go.Proofs.YtenbelecmmpdgaaGreatDoor.All
end
