/- Made by programs of the prover: walks of Go functions, the words that they use, and plain laws, each text in a section of its own; no condition of its own. -/
import Derived.Below
import Derived.Lib.FrozenHead
import Derived.Laws.Strings
import Derived.Lib.AppendIntMem
import Derived.Lib.LaidTab
import Derived.Test.YtenbelecmmpdgaaGreatDoorProg
import Derived.Maps.Ext
import Derived.Maps.OwnSet
import Derived.Maps.OwnOps
import Derived.Maps.Views
import Derived.Shelf.Strings.Builder1
import Derived.Shelf.Strings.Trim
import Derived.Shelf.Small.Utf8
import Derived.Shelf.Small.Strs
import Derived.Shelf.Strconv.Atoi
import Derived.Shelf.LaysM
import Derived.Shelf.Strconv.Itoa3
import Derived.Shelf.Strings.Search2
import Derived.Shelf.Strings.Search3
import Derived.Shelf.Strings.Count
import Derived.Shelf.Strings.LastIndex
import Derived.Shelf.Strings.Prefix
import Derived.Shelf.Strings.Runes
import Derived.Shelf.Strings.IndexAny
import Derived.Shelf.Strings.IndexAnyAll
import Derived.Shelf.Strings.Repeat
import Derived.StillTailTactics
import Derived.Lib.TrimU
import Derived.Lib.OthersKept
import Derived.Shelf.Strings.SplitCore
import Derived.Lib.SplitLaws
import Derived.Lib.IndexBytes
import Derived.Shelf.Strings.SlTrimAscii
import Derived.Lib.SmallJoins
import Derived.Deep.Draws
import Derived.Deep.AppendLies
import Derived.Maps.AppendAt
import Derived.OwnWalk
import Derived.Laws.BytesArg
import Derived.Laws.MakeOwn
import Derived.Laws.OwnMore
import Derived.Deep.OwnRows
import Derived.Tactics
import Derived.Lib.ConvBytes
import Derived.Laws.Slices
import Derived.WalkKit
import Derived.KernelRfl
import Derived.RowKit3
import Derived.Deep.LoopGhost
import Derived.Deep.QuietTactic
import Derived.BigQuiet
import Derived.WideLaws
import Derived.Deep.DeepCutAuto
import Derived.Deep.CutBlock
import Derived.Deep.RegionHeld3
import Derived.Laws.Rows
import Derived.Lib.AppendStr
import Derived.ArgAppend
import Derived.Laws.IdiomCopy
import Derived.OrdersHeld
import Derived.Laws.BitsLemmas
import Derived.RowKit
import Derived.Test.YtenbelecmmpdgaaGreatDoorZWriteArchives1
section
namespace Go.Proofs.YtenbelecmmpdgaaGreatDoorW.MarkRow
open Go.RowKit Go.Proofs.YtenbelecmmpdgaaGreatDoorW.PrintWords Go.Proofs.YtenbelecmmpdgaaGreatDoorW.PrintLast
set_option linter.unusedVariables false
def Soft (fz:Nat × Nat) (n:Nat):Prop:=∀ j,j < n→¬ (fz.1 ≤ j∧j < fz.2)
theorem run_store_soft (P:Program) (g o:Nat) (t:TypeId) (fz:Nat × Nat):∀ (vs:List Value) (i:Nat) (cur:Array Value) (w:World),w.heap[g]? = some (.cells cur t fz)→Soft fz cur.size→o + i + vs.length ≤ cur.size→(∀ v ∈ vs,v.oneCell' = true) →
    (storeCells ⟨g,o,none⟩ vs i).run P w = .ok () (w.setRow g (cur.toList.take (o + i) ++ vs ++ cur.toList.drop (o + i + vs.length)).toArray)
  | [],i,cur,w,hg,_,_,_=>by
    simp only [storeCells,List.append_nil,List.length_nil,Nat.add_zero,List.take_append_drop,Array.toArray_toList]
    rw [setRow_self w g cur t fz hg]
    rfl
  | v :: rest,i,cur,w,hg,hfz,hl,h1=>by
    have hi:o + i < cur.size:=by simp at hl;omega
    have hadd:(⟨g,o,none⟩:Addr).add i = ⟨g,o + i,none⟩:=by unfold Addr.add;split <;> simp_all
    have hcell:w.cell? ⟨g,o + i,none⟩ = some cur[o + i]:=by simp [World.cell?,hg,hi]
    have hfro:w.frozen? ⟨g,o + i,none⟩ = false:=by
      have:=hfz (o + i) hi
      obtain ⟨lo,hi'⟩:=fz
      simp only [World.frozen?,hg,Bool.and_eq_false_iff,decide_eq_false_iff_not]
      simp only at this
      omega
    have hst:(store ((⟨g,o,none⟩:Addr).add i) v).run P w = .ok () (w.setRow g (cur.setIfInBounds (o + i) v)):=by
      rw [hadd,run_store P w _ v _ (h1 v (by simp)),hcell]
      simp [hfro,setCell_eq_setRow w g (o + i) cur t fz v hg]
    have ih:=run_store_soft P g o t fz rest (i + 1) (cur.setIfInBounds (o + i) v) (w.setRow g (cur.setIfInBounds (o + i) v)) (setRow_heap w g cur _ t _ hg) (by simpa using hfz) (by simp at hl ⊢;omega) (fun x hx=>h1 x (by simp [hx]))
    simp only [storeCells,Sem.run_bind,hst,Result.andThen_ok,ih,setRow_setRow]
    congr 3
    have e:=list_seg_step cur.toList (o + i) v rest (by simp at hl ⊢;omega)
    simpa [Array.toList_setIfInBounds,Nat.add_assoc] using e
def MRow (w:World) (base:Nat) (e:TypeId) (v:Value) (xs:List Int):Prop :=
  (v = .slice none 0 0∧xs = []) ∨ ∃ g cap cur fz,v = .slice (some ⟨g,0,none⟩) xs.length cap∧base ≤ g∧w.heap[g]? = some (.cells cur e fz)∧Soft fz cur.size∧xs.length ≤ cap∧cap ≤ maxLen∧cur.size = cap∧cur.toList.take xs.length = nums .u8 xs
section
variable {w w' W:World} {base:Nat} {e:TypeId} {v:Value} {xs ys:List Int}
theorem MRow.nil (w:World) (base:Nat) (e:TypeId):MRow w base e (.slice none 0 0) []:=Or.inl ⟨rfl,rfl⟩
theorem MRow.of_R {ok:Nat→Prop} (h:(Kd.int .u8).R e w base ok v xs):MRow w base e v xs:=by
  have ho:=Kd.own_of_R h
  rcases ho.2 with ⟨hv,h0⟩|⟨g,cap,cur,hv,hb,hg,hnc,hcm,hcs,htake⟩
  · exact Or.inl ⟨hv,List.eq_nil_of_length_eq_zero h0⟩
  · exact Or.inr ⟨g,cap,cur,(0,0),hv,hb,hg,fun j _=>by omega,hnc,hcm,by simpa using hcs,by simpa [encs,nums] using htake⟩
theorem MRow.lower {b:Nat} (h:MRow w base e v xs) (hb:b ≤ base):MRow w b e v xs:=by
  rcases h with h|⟨g,cap,cur,fz,hv,hbg,r⟩
  · exact Or.inl h
  · exact Or.inr ⟨g,cap,cur,fz,hv,Nat.le_trans hb hbg,r⟩
theorem MRow.block (h:MRow w base e v xs):∀ k,v.ownBlock = some k→base ≤ k∧k < w.heap.size∧∃ cs fz,w.heap[k]? = some (.cells cs e fz):=by
  intro k hk
  rcases h with ⟨rfl,_⟩|⟨g,cap,cur,fz,rfl,hb,hg,_⟩
  · simp [Value.ownBlock] at hk
  · simp [Value.ownBlock] at hk
    subst hk
    exact ⟨hb,(Array.getElem?_eq_some_iff.1 hg).1,cur,fz,hg⟩
theorem MRow.move (h:MRow w base e v xs) (hm:∀ k,v.ownBlock = some k→w'.heap[k]? = w.heap[k]?):MRow w' base e v xs:=by
  rcases h with h|⟨g,cap,cur,fz,rfl,hbg,hg,r⟩
  · exact Or.inl h
  · exact Or.inr ⟨g,cap,cur,fz,rfl,hbg,(hm g rfl).trans hg,r⟩
theorem MRow.below (h:MRow w base e v xs) (hb:Below w.heap.size w w'):MRow w' base e v xs:=h.move fun k hk=>hb.block k (h.block k hk).2.1
theorem MRow.grown {row:Option Nat} (h:MRow w base e v xs) (hg:w.grownBy w' row) (hne:row ≠ v.ownBlock ∨ v.ownBlock = none):MRow w' base e v xs :=
  h.move fun k hk=>hg.block k (h.block k hk).2.1 (fun he=>hne.elim (fun hn=>hn (he.symm.trans hk.symm)) (fun hn=>by rw [hn] at hk;cases hk))
theorem MRow.cells {g:Nat} (h:MRow w base e v xs) (hg:v.ownBlock = some g):∀ j u,(nums .u8 xs)[j]? = some u→w.cell? ((⟨g,0,none⟩:Addr).add j) = some u:=by
  intro j u hu
  rcases h with ⟨rfl,_⟩|⟨g',cap,cur,fz,rfl,_,hgg,_,_,_,_,htake⟩
  · simp [Value.ownBlock] at hg
  · simp [Value.ownBlock] at hg
    subst hg
    have hadd:(⟨g',0,none⟩:Addr).add j = ⟨g',j,none⟩:=by unfold Addr.add;split <;> simp_all
    rw [hadd,cell_of_row w g' j cur e fz hgg]
    rw [← htake,List.getElem?_take] at hu
    split at hu
    · simpa using hu
    · cases hu
theorem MRow.reads (h:MRow w base e v xs):∃ A c,v = .slice A xs.length c∧xs.length ≤ c∧(Kd.int .u8).C w A xs.length xs:=by
  have h':=h
  rcases h' with ⟨rfl,rfl⟩|⟨g,cap,cur,fz,rfl,_,hgg,_,hc,hm,hs,_⟩
  · exact ⟨none,0,rfl,Nat.le_refl _,Kd.C_of_reads (d:=0) ⟨rfl,by simp,fun h0=>by simp at h0⟩⟩
  · refine ⟨_,cap,rfl,hc,Kd.C_of_reads (d:=0) ⟨rfl,by simp only [maxLen] at hm;omega,fun _=>⟨_,rfl,fun j hj=>h.cells (g:=g) rfl j _ ?_⟩⟩⟩
    simp [nums,List.getElem?_eq_getElem hj,List.getD_eq_getElem?_getD]
end
theorem MRow.of_bytes (W:World) (base:Nat) (e:TypeId) (s:ByteArray) (hb:base ≤ W.heap.size) (hs:s.size ≤ maxLen):MRow (Lib.bytesWorld W e s) base e (.slice (some ⟨W.heap.size,0,none⟩) (bytesOf s).length (grownCap W s.size 0 e)) (bytesOf s):=by
  have hl:(bytesOf s).length = s.size:=bytesOf_length s
  have hge:=grownCap_ge W s.size 0 e
  have hcm:=grownCap_le_maxLen W s.size 0 e hs
  have hsz:(Lib.bytesCells W e s).size = grownCap W s.size 0 e:=by
    simp only [Lib.bytesCells,Array.size_append,Array.size_map,Array.size_replicate]
    have:s.data.size = s.size:=rfl
    omega
  refine Or.inr ⟨W.heap.size,_,_,_,rfl,hb,Lib.bytesWorld_at_new W e s,fun j hj=>by simp only;omega,by rw [hl];exact hge,hcm,hsz,?_⟩
  rw [hl]
  simp only [Lib.bytesCells,Array.toList_append,Array.toList_map]
  rw [List.take_append_of_le_length (by simp),List.take_of_length_le (by simp)]
  simp [nums,bytesOf]
section
variable {P:Program} {w:World} {base:Nat} {e:TypeId} {v:Value} {xs ys:List Int}
theorem run_append_M (t ty:TypeId) (ht:P.underlying t = some (.slice e)) (hinfo:(P.info? e).map (fun i=>(i.zero,i.size,i.bytes)) = some (some (.int .u8 0),1,1))
    (h:MRow w base e v xs) {A:Option Addr} {c:Nat} (hy:(Kd.int .u8).C w A ys.length ys) (hl:xs.length + ys.length ≤ 140737488355328) (hbase:base ≤ w.heap.size) :
    ∃ v' w',(Builtin.append_ #[t,t] ty #[v,.slice A ys.length c]).run P w = .ok v' w'∧MRow w' base e v' (xs ++ ys)∧w.grownBy w' v.ownBlock:=by
  obtain ⟨i,hi,hz⟩:=Option.map_eq_some_iff.1 hinfo
  obtain ⟨hz0,hz1,hz2⟩:=Prod.mk.inj hz |>.imp id Prod.mk.inj
  have hyr:=Kd.reads_of_C (d:=(0:Int)) hy
  have hnl:(nums .u8 ys).length = ys.length:=nums_length _ _
  have h1:∀ u ∈ nums .u8 ys,u.oneCell' = true:=fun u hu=>by
    obtain ⟨x,_,rfl⟩:=List.mem_map.1 hu
    rfl
  rcases Nat.eq_zero_or_pos ys.length with h0|h0
  · obtain rfl:ys = []:=List.eq_nil_of_length_eq_zero h0
    have hf:∀ W:World,(Builtin.firstCells i.size 0 (.slice A 0 c)).run P W = .ok #[] W:=fun W=>by
      cases A <;> simp [Builtin.firstCells,loadCells,loadCellsFrom]
    rcases h with ⟨rfl,rfl⟩|⟨g,cap,cur,fz,rfl,hbg,hg,hs,hnc,hcm,hcs,htk⟩
    · refine ⟨.slice none 0 0,w,?_,Or.inl ⟨rfl,rfl⟩,World.grownBy.refl w _⟩
      simp [Builtin.append_,run_underlying ht,sizeOf,typeInfo,hi,Builtin.lenOf,hf]
    · refine ⟨.slice (some ⟨g,0,none⟩) xs.length cap,w,?_,by rw [List.append_nil];exact Or.inr ⟨g,cap,cur,fz,rfl,hbg,hg,hs,hnc,hcm,hcs,htk⟩,World.grownBy.refl w _⟩
      simp [Builtin.append_,run_underlying ht,sizeOf,typeInfo,hi,Builtin.lenOf,hf,hnc,storeCells]
  · obtain ⟨ad,rfl,hcell⟩:=hyr.2.2 h0
    have hnews:∀ j u,(nums .u8 ys)[j]? = some u→w.cell? (ad.add j) = some u:=fun j u hu=>by
      unfold nums at hu
      rw [List.getElem?_map] at hu
      obtain ⟨x,hx,rfl⟩:=Option.map_eq_some_iff.1 hu
      have hj:j < ys.length:=(List.getElem?_eq_some_iff.1 hx).1
      rw [hcell j hj,List.getD_eq_getElem?_getD,hx];rfl
    have grown:∀ (old:Nat) (row:Option Nat),
        MRow (w.drew.alloc (.cells ((nums .u8 xs).toArray ++ (nums .u8 ys).toArray ++ Builtin.zeroCells (Value.int .u8 0).cells (grownCap w (xs.length + ys.length) old e - (xs.length + ys.length))) e)) base e
          (.slice (some ⟨w.heap.size,0,none⟩) (xs.length + ys.length) (grownCap w (xs.length + ys.length) old e)) (xs ++ ys) ∧
        w.grownBy (w.drew.alloc (.cells ((nums .u8 xs).toArray ++ (nums .u8 ys).toArray ++ Builtin.zeroCells (Value.int .u8 0).cells (grownCap w (xs.length + ys.length) old e - (xs.length + ys.length))) e)) row:=by
      intro old row
      have hge:=grownCap_ge w (xs.length + ys.length) old e
      have hcm:grownCap w (xs.length + ys.length) old e ≤ maxLen:=grownCap_le_maxLen w _ old e (by simp only [maxLen];omega)
      refine ⟨Or.inr ⟨w.heap.size,_,_,(0,0),by rw [List.length_append],hbase,heap_alloc_new w.drew _,fun j _=>by omega,by rw [List.length_append];exact hge,hcm,?_,?_⟩,⟨rfl,rfl,rfl,by simp,fun k hk _=>heap_alloc_old w.drew _ hk⟩⟩
      · have hz1:(Value.int IntKind.u8 0).cells.size = 1:=rfl
        simp only [Array.size_append,List.size_toArray,size_zeroCells,hz1,nums_length]
        omega
      · simp only [Array.toList_append]
        rw [List.take_append_of_le_length (by simp [nums_length]),List.take_of_length_le (by simp [nums_length]),nums_append]
    rcases h with ⟨rfl,rfl⟩|⟨g,cap,cur,fz,rfl,hbg,hg,hs,hnc,hcm,hcs,htk⟩
    · have hr:=run_append_nil (P:=P) w t ty e i _ ht hi hz0 ad ys.length c (nums .u8 ys) (by rw [hz1,hnl,Nat.mul_one]) hnews (by omega) (by omega) (by rw [hz2];have:=hl;simp at this;omega)
      have hgr:=grown 0 (Value.ownBlock (.slice none 0 0))
      simp only [List.length_nil,Nat.zero_add,List.nil_append] at hgr
      exact ⟨_,_,by simpa [nums] using hr,by simpa [nums] using hgr.1,by simpa [nums] using hgr.2⟩
    · by_cases hroom:xs.length + ys.length ≤ cap
      · have hf:=run_firstCells_some (P:=P) w i.size ys.length ad ys.length c (nums .u8 ys) (by rw [hz1,hnl,Nat.mul_one]) hnews
        have hst:=run_store_soft P g xs.length e fz (nums .u8 ys) 0 cur w hg hs (by rw [hnl];omega) h1
        simp only [Nat.add_zero] at hst
        have hst2:(storeCells ⟨g,xs.length * i.size,none⟩ (nums .u8 ys)).run P w = .ok () (w.setRow g (cur.toList.take xs.length ++ nums .u8 ys ++ cur.toList.drop (xs.length + (nums .u8 ys).length)).toArray):=by rw [hz1,Nat.mul_one];exact hst
        have hr:(Builtin.append_ #[t,t] ty #[.slice (some ⟨g,0,none⟩) xs.length cap,.slice (some ad) ys.length c]).run P w = .ok (.slice (some ⟨g,0,none⟩) (xs.length + ys.length) cap) (w.setRow g (cur.toList.take xs.length ++ nums .u8 ys ++ cur.toList.drop (xs.length + (nums .u8 ys).length)).toArray):=by
          simp only [List.append_assoc] at hst2 ⊢
          simp [Builtin.append_,run_underlying ht,sizeOf,typeInfo,hi,Builtin.lenOf,hroom,hf,Addr.add_lit,hst2]
        refine ⟨.slice (some ⟨g,0,none⟩) (xs.length + ys.length) cap,_,hr,Or.inr ⟨g,cap,_,fz,by rw [List.length_append],hbg,setRow_heap w g cur _ e _ hg,?_,by rw [List.length_append];exact hroom,hcm,?_,?_⟩,⟨rfl,rfl,rfl,by simp,fun k _ hk=>setRow_other w g k _ (fun e=>hk (by simp [Value.ownBlock,e]))⟩⟩
        · intro j hj
          refine hs j ?_
          simp only [List.size_toArray,List.length_append,List.length_take,List.length_drop,Array.length_toList,hnl] at hj
          omega
        · simp only [List.size_toArray,List.length_append,List.length_take,List.length_drop,Array.length_toList,hnl]
          omega
        · have e1:cur.toList.take xs.length = nums .u8 xs:=htk
          rw [e1,List.take_append_of_le_length (by simp [nums_length]),List.take_of_length_le (by simp [nums_length]),nums_append]
      · have holds:∀ j u,(nums .u8 xs)[j]? = some u→w.cell? ((⟨g,0,none⟩:Addr).add j) = some u:=MRow.cells (v := .slice (some ⟨g,0,none⟩) xs.length cap) (base:=base) (Or.inr ⟨g,cap,cur,fz,rfl,hbg,hg,hs,hnc,hcm,hcs,htk⟩) (g:=g) rfl
        have hr:=run_append_grow (P:=P) w t ty e i _ ht hi hz0 ⟨g,0,none⟩ xs.length cap (nums .u8 xs) (by rw [hz1,nums_length,Nat.mul_one]) holds ad ys.length c (nums .u8 ys) (by rw [hz1,hnl,Nat.mul_one]) hnews (by omega) (by omega) (growslice_fits (by omega) (by rw [hz2];omega))
        exact ⟨_,_,hr,(grown cap none).1,(grown cap _).2⟩
theorem wp_append_S {ops:Array Oper} {rest:List Oper} {o:Oper} {a:Act} {Q:Exit→Act→World→Prop} {w0:World} (hgd:o.guard = none) (s x:Operand) (t u:TypeId)
    (ho:o.op = .call { callee := .builtin .append,args:=#[s,x],argTypes:=#[t,u] }) (ht:P.underlying t = some (.slice e)) (hu:P.underlying u = some .string) (hinfo:(P.info? e).map (fun i=>(i.zero,i.size,i.bytes)) = some (some (.int .u8 0),1,1))
    (hs:a.eval s = v) (y:ByteArray) (hx:a.eval x = .string y) (h:(Kd.int .u8).R e w base (fun _=>True) v xs) (hb:Below base w0 w) (hbase:base ≤ w.heap.size) (hl:xs.length + y.size ≤ 140737488355328)
    (k:∀ v' w',(Kd.int .u8).R e w' base (fun _=>True) v' (xs ++ bytesOf y)→Below base w0 w'→w.grownBy w' v.ownBlock→wpList P ops Q rest (a.put o.dst v') w'):wpList P ops Q (o :: rest) a w:=by
  refine print_append_str (w0:=w0) base hgd s x t u e ho ht hu hinfo v xs y hs hx (by simpa [encs,nums] using Kd.own_of_R h) hb hbase hl fun v1 w1 h1 h2 h3=>k v1 w1 (Kd.R_of_own (by simpa [encs,nums] using h1) (fun _ _=>trivial)) h2 h3
theorem step_append_S {ops:Array Oper} {o:Oper} {a:Act} {K:Act→World→Prop} {Q:Exit→Act→World→Prop} {E:Prop} {w0:World} (hgd:o.guard = none) (s x:Operand) (t u:TypeId)
    (ho:o.op = .call { callee := .builtin .append,args:=#[s,x],argTypes:=#[t,u] }) (ht:P.underlying t = some (.slice e)) (hu:P.underlying u = some .string) (hinfo:(P.info? e).map (fun i=>(i.zero,i.size,i.bytes)) = some (some (.int .u8 0),1,1))
    (hs:a.eval s = v) (y:ByteArray) (hx:a.eval x = .string y) (h:(Kd.int .u8).R e w base (fun _=>True) v xs) (hb:Below base w0 w) (hbase:base ≤ w.heap.size) (hl:xs.length + y.size ≤ 140737488355328)
    (k:∀ v' w',(Kd.int .u8).R e w' base (fun _=>True) v' (xs ++ bytesOf y)→Below base w0 w'→w.grownBy w' v.ownBlock→K (a.put o.dst v') w'):if Region.wanted o (yielded ops a.tmps) = true then Oper.wp P o a w K Q else E:=by
  have hw:Region.wanted o (yielded ops a.tmps) = true:=by simp [Region.wanted,hgd]
  rw [if_pos hw]
  obtain ⟨i0,hi,hzz⟩:=Option.map_eq_some_iff.1 hinfo
  simp only [Prod.mk.injEq] at hzz
  obtain ⟨hz0,hz1,hz2⟩:=hzz
  have ho':w.ownsRow base e 1 v xs.length (nums .u8 xs):=by simpa [encs,nums] using Kd.own_of_R h
  obtain ⟨v',w',hr,h1,h2,_⟩:=Lib.run_append_own_string (P:=P) w base t u o.type e i0 ht hu hi hz0 hz1 hz2 v xs.length (nums .u8 xs) ho' y (by simp only [maxLen];omega) hl hbase
  unfold Oper.wp execOp
  simp only [ho,resolve,invoke,builtin,Sem.run_bind,Sem.run_pure,Result.andThen_ok,List.map_toArray,List.map_cons,List.map_nil,hs,hx,hr]
  have hl2:(xs ++ bytesOf y).length = xs.length + y.size:=by rw [List.length_append,bytesOf_length]
  have hc:nums .u8 (xs ++ bytesOf y) = nums .u8 xs ++ Lib.strCells y:=by
    rw [nums_append]
    congr 1
    simp [nums,bytesOf,Lib.strCells]
  refine k v' w' (Kd.R_of_own ?_ (fun _ _=>trivial)) (hb.grown h2 hbase (own_base ho')) h2
  rw [hl2]
  have:encs (Value.int .u8) (xs ++ bytesOf y) = nums .u8 (xs ++ bytesOf y):=by simp [encs,nums]
  rw [this,hc]
  exact h1
theorem step_append_R {ops:Array Oper} {o:Oper} {a:Act} {K:Act→World→Prop} {Q:Exit→Act→World→Prop} {E:Prop} {w0:World} (hgd:o.guard = none) (s x:Operand) (t:TypeId)
    (ho:o.op = .call { callee := .builtin .append,args:=#[s,x],argTypes:=#[t,t] }) (ht:P.underlying t = some (.slice e)) (hinfo:(P.info? e).map (fun i=>(i.zero,i.size,i.bytes)) = some (some (.int .u8 0),1,1))
    (hs:a.eval s = v) {A:Option Addr} {c:Nat} (hx:a.eval x = .slice A ys.length c) (h:(Kd.int .u8).R e w base (fun _=>True) v xs) (hy:(Kd.int .u8).C w A ys.length ys) (hb:Below base w0 w) (hbase:base ≤ w.heap.size) (hl:xs.length + ys.length ≤ 140737488355328)
    (k:∀ v' w',(Kd.int .u8).R e w' base (fun _=>True) v' (xs ++ ys)→Below base w0 w'→w.grownBy w' v.ownBlock→K (a.put o.dst v') w'):if Region.wanted o (yielded ops a.tmps) = true then Oper.wp P o a w K Q else E:=by
  have hw:Region.wanted o (yielded ops a.tmps) = true:=by simp [Region.wanted,hgd]
  have z:=Kd.R_append_rows_step (Kd.int .u8) (w0:=w0) (Kc:=K) (Q:=Q) (P:=P) base hw s x t e (.int .u8 0) 1 ho ht hinfo rfl (by decide) (by omega) v xs ys A ys.length c (fun _=>True) (fun _=>False) hs hx h hy (fun _ _ h=>h) (fun _ h=>h.elim) (fun _ _=>trivial) hb hbase (by omega) (fun v1 w1 h1 h2 h3 _=>k v1 w1 h1 h2 h3)
  rw [if_pos hw] at z ⊢
  exact z
theorem wp_append_R {ops:Array Oper} {rest:List Oper} {o:Oper} {a:Act} {Q:Exit→Act→World→Prop} {w0:World} (hgd:o.guard = none) (s x:Operand) (t:TypeId)
    (ho:o.op = .call { callee := .builtin .append,args:=#[s,x],argTypes:=#[t,t] }) (ht:P.underlying t = some (.slice e)) (hinfo:(P.info? e).map (fun i=>(i.zero,i.size,i.bytes)) = some (some (.int .u8 0),1,1))
    (hs:a.eval s = v) {A:Option Addr} {c:Nat} (hx:a.eval x = .slice A ys.length c) (h:(Kd.int .u8).R e w base (fun _=>True) v xs) (hy:(Kd.int .u8).C w A ys.length ys) (hb:Below base w0 w) (hbase:base ≤ w.heap.size) (hl:xs.length + ys.length ≤ 140737488355328)
    (k:∀ v' w',(Kd.int .u8).R e w' base (fun _=>True) v' (xs ++ ys)→Below base w0 w'→w.grownBy w' v.ownBlock→wpList P ops Q rest (a.put o.dst v') w'):wpList P ops Q (o :: rest) a w :=
  Kd.R_append_rows (Kd.int .u8) (w0:=w0) base hgd s x t e (.int .u8 0) 1 ho ht hinfo rfl (by decide) (by omega) v xs ys A ys.length c (fun _=>True) (fun _=>False) hs hx h hy (fun _ _ h=>h) (fun _ h=>h.elim) (fun _ _=>trivial) hb hbase (by omega) (fun v1 w1 h1 h2 h3 _=>k v1 w1 h1 h2 h3)
theorem wp_append_M {ops:Array Oper} {rest:List Oper} {o:Oper} {a:Act} {Q:Exit→Act→World→Prop} {w0:World} (hgd:o.guard = none) (s x:Operand) (t:TypeId)
    (ho:o.op = .call { callee := .builtin .append,args:=#[s,x],argTypes:=#[t,t] }) (ht:P.underlying t = some (.slice e)) (hinfo:(P.info? e).map (fun i=>(i.zero,i.size,i.bytes)) = some (some (.int .u8 0),1,1))
    (hs:a.eval s = v) {A:Option Addr} {c n:Nat} (hx:a.eval x = .slice A n c) (hn:n = ys.length) (h:MRow w base e v xs) (hy:(Kd.int .u8).C w A ys.length ys) (hb:Below base w0 w) (hbase:base ≤ w.heap.size) (hl:xs.length + ys.length ≤ 140737488355328)
    (k:∀ v' w',MRow w' base e v' (xs ++ ys)→Below base w0 w'→w.grownBy w' v.ownBlock→wpList P ops Q rest (a.put o.dst v') w'):wpList P ops Q (o :: rest) a w:=by
  subst hn
  obtain ⟨v',w',hr,h1,h2⟩:=run_append_M (P:=P) t o.type ht hinfo h (c:=c) hy hl hbase
  refine wpList_plain hgd fun K hK=>?_
  unfold Oper.wp execOp
  simp only [ho,resolve,invoke,builtin,Sem.run_bind,Sem.run_pure,Result.andThen_ok,List.map_toArray,List.map_cons,List.map_nil,hs,hx,hr]
  exact hK _ _ (k v' w' h1 (hb.grown h2 hbase (fun g hg=>(h.block g hg).1)) h2)
end
end Go.Proofs.YtenbelecmmpdgaaGreatDoorW.MarkRow
end
section
namespace Go.Proofs.YtenbelecmmpdgaaGreatDoorW.Mine
open Go.RowKit
theorem bytesLess_swap:∀ a b:List UInt8,(!(Op.bytesLess a b || a == b)) = Op.bytesLess b a
  | [],[]=>by simp [Op.bytesLess]
  | [],b :: y=>by simp [Op.bytesLess]
  | a :: x,[]=>by simp [Op.bytesLess]
  | a :: x,b :: y=>by
    have ih:=bytesLess_swap x y
    simp only [Op.bytesLess]
    by_cases h1:a < b
    · have h2:¬ b < a:=by rw [UInt8.lt_iff_toNat_lt] at h1 ⊢;omega
      have h3:(b == a) = false:=by
        rw [beq_eq_false_iff_ne]
        rintro rfl
        rw [UInt8.lt_iff_toNat_lt] at h1
        omega
      simp [h1,h2,h3]
    · by_cases h2:b < a
      · have h3:(a == b) = false:=by
          rw [beq_eq_false_iff_ne]
          rintro rfl
          rw [UInt8.lt_iff_toNat_lt] at h2
          omega
        simp [h1,h2,h3]
      · have e:a = b:=by
          apply UInt8.toNat_inj.1
          rw [UInt8.lt_iff_toNat_lt] at h1 h2
          omega
        subst e
        simp [h1,← ih]
theorem gtr_string (t:TypeId) (a b:ByteArray):binOp .gtr t (.string a) (.string b) = pure (.bool (Op.bytesLess b.toList a.toList)):=by
  have:binOp .gtr t (.string a) (.string b) = pure (.bool !(Op.bytesLess a.toList b.toList || a.toList == b.toList)):=by simp [binOp,Op.stringOp]
  rw [this,bytesLess_swap]
theorem leq_string (t:TypeId) (a b:ByteArray):binOp .leq t (.string a) (.string b) = pure (.bool (!Op.bytesLess b.toList a.toList)):=by
  have:binOp .leq t (.string a) (.string b) = pure (.bool (Op.bytesLess a.toList b.toList || a.toList == b.toList)):=by simp [binOp,Op.stringOp]
  rw [this,← bytesLess_swap a.toList b.toList,Bool.not_not]
theorem geq_string (t:TypeId) (a b:ByteArray):binOp .geq t (.string a) (.string b) = pure (.bool (!Op.bytesLess a.toList b.toList)):=by simp [binOp,Op.stringOp]
def Tab (w : World) : Prop := Lib.TabIs Tryz.prog w "internal/strconv.uint64pow10" .u64 Lib.pow10Tab
theorem tab_on {w w':World} (h:Tab w) (hb:Below w.heap.size w w'):Tab w':=Lib.tabBelow_of_tabIs h w' hb
theorem laidMet_tail {P:Program} {W:World} {x:String × DataW Unit} {rest:List (String × DataW Unit)} (h:laidMet P (x :: rest) W):laidMet P rest W:=by
  obtain ⟨n,d⟩:=x
  obtain ⟨ps,⟨g,t,cs,fuel,p,q,_,_,_,_,hq,rfl⟩,hnd,hc⟩:=h
  exact ⟨q,hq,(List.nodup_append.1 hnd).2.1,fun b off hb=>hc b off (List.mem_append.2 (Or.inr hb))⟩
def modeBit (m i:Nat):Nat:=m / 2 ^ i % 2
def modeLit (j:Nat):Nat:=if j % 3 = 0 then 114 else if j % 3 = 1 then 119 else 120
def modeBase (m j:Nat):Nat:=if modeBit m (8 - j) = 1 then modeLit j else 45
def modeSp (m j:Nat):Nat:=if j % 3 = 2 then modeBit m (9 + (8 - j) / 3) else 0
def modeChr (m j:Nat):Nat:=if modeSp m j = 1 then (if modeBase m j = 45 then (if j = 8 then 84 else 83) else (if j = 8 then 116 else 115)) else modeBase m j
def modeText (m:Nat):ByteArray:=⟨((List.range 9).map fun j=>(modeChr m j).toUInt8).toArray⟩
end Go.Proofs.YtenbelecmmpdgaaGreatDoorW.Mine
end
section
namespace Go.Proofs.YtenbelecmmpdgaaGreatDoorW.MapOwn
set_option linter.unusedVariables false
set_option linter.unusedSimpArgs false
open Go Go.RowKit Go.Maps Go.Proofs.YtenbelecmmpdgaaGreatDoorW.PrintWords
def asIs (v:Value):Option (DataW Value × List MemPlace):=some (.held v,[])
section
variable {α κ:Type} [DecidableEq κ] {lit:κ→Lit} {P:Program} {k:TypeId} {w w':World} {b n:Nat} {Rep:α→Value→Prop} {m:List (κ × α)} {kl:κ}
def get (m:List (κ × α)) (kl:κ):Option α:=(m.find? fun p=>decide (p.1 = kl)).map (·.2)
theorem get_same (m:List (κ × α)) (kl:κ) (x:α):get ((kl,x) :: m) kl = some x:=by simp [get]
theorem get_other (m:List (κ × α)) {kl kl':κ} (x:α) (h:kl' ≠ kl):get ((kl',x) :: m) kl = get m kl:=by
  simp [get,List.find?_cons,h]
def MapAt (lit:κ→Lit) (P:Program) (k:TypeId) (Rep:α→Value→Prop) (w:World) (b n:Nat) (m:List (κ × α)):Prop :=
  ∃ D:DataW Value,w.ownsMap P k asIs b n D∧∀ kl,match get m kl with
    | some y=>Maps.has D (lit kl) = true∧∃ v,Rep y v∧∀ z,D.atKey (lit kl) z = .held v
    | none=>Maps.has D (lit kl) = false∧∀ z,D.atKey (lit kl) z = z
theorem MapAt.hit (h:MapAt lit P k Rep w b n m) {y:α} (hg:get m kl = some y):∃ D:DataW Value,w.ownsMap P k asIs b n D∧Maps.has D (lit kl) = true∧∃ v,Rep y v∧∀ z,D.atKey (lit kl) z = .held v:=by
  obtain ⟨D,h1,h2⟩:=h
  have:=h2 kl
  rw [hg] at this
  exact ⟨D,h1,this⟩
theorem MapAt.miss (h:MapAt lit P k Rep w b n m) (hg:get m kl = none):∃ D:DataW Value,w.ownsMap P k asIs b n D∧Maps.has D (lit kl) = false∧∀ z,D.atKey (lit kl) z = z:=by
  obtain ⟨D,h1,h2⟩:=h
  have:=h2 kl
  rw [hg] at this
  exact ⟨D,h1,this⟩
theorem MapAt.made (lit:κ→Lit) (w:World) (P:Program) (k:TypeId) (Rep:α→Value→Prop):MapAt lit P k Rep (w.alloc (.map #[] 0)) w.heap.size 0 [] :=
  ⟨.map [],World.ownsMap_made w P k asIs,fun kl=>⟨rfl,fun z=>rfl⟩⟩
theorem MapAt.lt (h:MapAt lit P k Rep w b n m):b < w.heap.size:=by
  obtain ⟨D,h1,h2⟩:=h
  exact h1.lt
theorem MapAt.kept {row:Option Nat} (h:MapAt lit P k Rep w b n m) (hg:w.grownBy w' row) (hne:some b ≠ row):MapAt lit P k Rep w' b n m:=by
  obtain ⟨D,h1,h2⟩:=h
  exact ⟨D,h1.kept hg hne,h2⟩
theorem MapAt.same (h:MapAt lit P k Rep w b n m) (hb:w'.heap[b]? = w.heap[b]?):MapAt lit P k Rep w' b n m:=by
  obtain ⟨D,⟨es,clock,hes,r⟩,h2⟩:=h
  exact ⟨D,⟨es,clock,hb.trans hes,r⟩,h2⟩
theorem MapAt.below (h:MapAt lit P k Rep w b n m) (hb:Below w.heap.size w w'):MapAt lit P k Rep w' b n m:=h.same (hb.block b h.lt)
theorem MapAt.put (h:MapAt lit P k Rep w b n m) (inj:∀ a b:κ,lit a = lit b→a = b) (K:Keyed P k) {t e:TypeId} (ht:P.underlying t = some (.map k e)) (hn:n < maxLen) {key val:Value} (hkey:keyOf P k key = some (lit kl)) {x:α} (hx:Rep x val) :
    ∃ w',(Instr.mapUpdate t (.map (some b)) key val).run P w = .ok () w'∧MapAt lit P k Rep w' b (n + 1) ((kl,x) :: m)∧w.mapTurned w' b:=by
  obtain ⟨D,h1,h2⟩:=h
  obtain ⟨w1,hrun,hown,hgr⟩:=h1.store K ht hn hkey (show asIs val = some (.held val,[]) from rfl)
  refine ⟨w1,hrun,⟨_,hown,fun kl'=>?_⟩,hgr⟩
  by_cases e:kl = kl'
  · subst e
    rw [get_same]
    exact ⟨Maps.has_put_same h1.isMap (K.key hkey) _,val,hx,fun z=>Maps.atKey_put_same h1.isMap (K.key hkey) _ z⟩
  · rw [get_other _ _ e]
    have:=h2 kl'
    rw [Maps.has_put_other (fun e1=>e (inj _ _ e1).symm)]
    cases hg:get m kl' with
    | none=>rw [hg] at this;exact ⟨this.1,fun z=>(Maps.atKey_put_other (fun e1=>e (inj _ _ e1).symm) _ z).trans (this.2 z)⟩
    | some y =>
      rw [hg] at this
      obtain ⟨a1,v,a2,a3⟩:=this
      exact ⟨a1,v,a2,fun z=>(Maps.atKey_put_other (fun e1=>e (inj _ _ e1).symm) _ z).trans (a3 z)⟩
end
section
variable {α κ:Type} [DecidableEq κ] {lit:κ→Lit} {P:Program} {k:TypeId} {Rep:α→Value→Prop} {m:List (κ × α)} {kl:κ} (w:World) {ops:Array Oper} {rest:List Oper} {o:Oper} {a:Act} {Q:Exit→Act→World→Prop}
theorem wpList_want (hw:Region.wanted o (yielded ops a.tmps) = true) (h:∀ K:Act→World→Prop,(∀ a w,wpList P ops Q rest a w→K a w)→o.wp P a w K Q):wpList P ops Q (o :: rest) a w :=
  wpList_step fun K hK=>by rw [if_pos hw];exact h K hK
theorem MapAt.run_hit {b n:Nat} (h:MapAt lit P k Rep w b n m) (K:Keyed P k) {t e:TypeId} (ht:P.underlying t = some (.map k e)) {z:Value} (hz:(zeroValue e).run P w = .ok z w) {key:Value} (hkey:keyOf P k key = some (lit kl)) {y:α} (hget:get m kl = some y) :
    ∃ v,Rep y v∧(Instr.lookup t (.map (some b)) key false).run P w = .ok v w:=by
  obtain ⟨D,h1,h2,v,h3,h4⟩:=h.hit hget
  obtain ⟨v',ps,hrun,hv⟩:=h1.lookup K ht hz (show asIs z = some (.held z,[]) from rfl) hkey
  rw [h4] at hv
  simp only [asIs,Option.some.injEq,Prod.mk.injEq,DataW.held.injEq] at hv
  exact ⟨v,h3,by rw [hrun,hv.1]⟩
theorem MapAt.run_miss {b n:Nat} (h:MapAt lit P k Rep w b n m) (K:Keyed P k) {t e:TypeId} (ht:P.underlying t = some (.map k e)) {z:Value} (hz:(zeroValue e).run P w = .ok z w) {key:Value} (hkey:keyOf P k key = some (lit kl)) (hget:get m kl = none) :
    (Instr.lookup t (.map (some b)) key false).run P w = .ok z w:=by
  obtain ⟨D,h1,h2,h4⟩:=h.miss hget
  obtain ⟨v',ps,hrun,hv⟩:=h1.lookup K ht hz (show asIs z = some (.held z,[]) from rfl) hkey
  rw [h4] at hv
  simp only [asIs,Option.some.injEq,Prod.mk.injEq,DataW.held.injEq] at hv
  rw [hrun,hv.1]
theorem wp_look_hit (hg:Region.wanted o (yielded ops a.tmps) = true) (mo x:Operand) (t:TypeId) (hop:o.op = Op.lookup t mo x false) (e:TypeId) (K:Keyed P k) (ht:P.underlying t = some (.map k e)) {z:Value} (hz:(zeroValue e).run P w = .ok z w)
    (b n:Nat) (hm:a.eval mo = .map (some b)) (h:MapAt lit P k Rep w b n m) (key:Value) (hx:a.eval x = key) (hkey:keyOf P k key = some (lit kl)) {y:α} (hget:get m kl = some y)
    (hK:∀ v,Rep y v→wpList P ops Q rest (a.put o.dst v) w):wpList P ops Q (o :: rest) a w:=by
  refine wpList_want w hg fun K' hK'=>?_
  obtain ⟨v,h3,hrun⟩:=h.run_hit w K ht hz hkey hget
  unfold Oper.wp
  simp [execOp,hop,hm,hx,hrun,Result.andThen]
  exact hK' _ _ (hK v h3)
theorem wp_look_miss (hg:Region.wanted o (yielded ops a.tmps) = true) (mo x:Operand) (t:TypeId) (hop:o.op = Op.lookup t mo x false) (e:TypeId) (K:Keyed P k) (ht:P.underlying t = some (.map k e)) {z:Value} (hz:(zeroValue e).run P w = .ok z w)
    (b n:Nat) (hm:a.eval mo = .map (some b)) (h:MapAt lit P k Rep w b n m) (key:Value) (hx:a.eval x = key) (hkey:keyOf P k key = some (lit kl)) (hget:get m kl = none)
    (hK:wpList P ops Q rest (a.put o.dst z) w):wpList P ops Q (o :: rest) a w:=by
  refine wpList_want w hg fun K' hK'=>?_
  have hrun:=h.run_miss w K ht hz hkey hget
  unfold Oper.wp
  simp [execOp,hop,hm,hx,hrun,Result.andThen]
  exact hK' _ _ hK
theorem wp_put (inj:∀ a b:κ,lit a = lit b→a = b) (hg:Region.wanted o (yielded ops a.tmps) = true) (mo x v:Operand) (t:TypeId) (hop:o.op = Op.mapUpdate t mo x v) (e:TypeId) (K:Keyed P k) (ht:P.underlying t = some (.map k e))
    (b n:Nat) (hm:a.eval mo = .map (some b)) (h:MapAt lit P k Rep w b n m) (hn:n < maxLen) (key val:Value) (hx:a.eval x = key) (hv:a.eval v = val) (hkey:keyOf P k key = some (lit kl)) {y:α} (hy:Rep y val)
    (hK:∀ w',MapAt lit P k Rep w' b (n + 1) ((kl,y) :: m)→w.grownBy w' (some b)→wpList P ops Q rest (a.put o.dst undef) w'):wpList P ops Q (o :: rest) a w:=by
  refine wpList_want w hg fun K' hK'=>?_
  obtain ⟨w',hrun,r1,r2⟩:=h.put inj K ht hn hkey hy
  unfold Oper.wp
  simp [execOp,hop,hm,hx,hv,hrun,Result.andThen]
  exact hK' _ _ (hK w' r1 r2.grown)
end
theorem add_add (ad:Addr) (a b:Nat):(ad.add a).add b = ad.add (a + b):=by
  unfold Addr.add
  by_cases h1:b = 0
  · subst h1;simp
  · by_cases h2:a = 0
    · simp [h1,h2]
    · rw [if_neg h1,if_neg h2,if_neg (by omega)];simp [Nat.add_assoc]
structure Held (w W:World) (g:Nat) (t:TypeId) (cs:Array Value):Prop where
  below:Below w.heap.size w W
  le:w.heap.size ≤ g
  blk:W.heap[g]? = some (.cells cs t (0,0))
section
variable {w W W':World} {g g2:Nat} {t:TypeId} {cs cs':Array Value}
theorem Held.step (h:Held w W g t cs) (hb:Below W.heap.size W W'):Held w W' g t cs:=⟨below_step h.below hb,h.le,blk_below h.blk hb⟩
theorem Held.drewN (h:Held w W g t cs) (q:Nat):Held w (W.drewN q) g t cs:=h.step (pwbN (Below.refl _ _) q)
theorem Held.drew (h:Held w W g t cs):Held w W.drew g t cs:=h.step (bw1 (Below.refl _ _))
theorem Held.put (h:Held w W g t cs) (hk:W'.heap[g]? = some (.cells cs' t (0,0))) (hg:W.grownBy W' (some g)):Held w W' g t cs' :=
  ⟨h.below.grown hg h.below.size (fun k hk=>by cases hk;exact h.le),h.le,hk⟩
theorem Held.other (h:Held w W g t cs) (hg:W.grownBy W' (some g2)) (h1:w.heap.size ≤ g2) (h2:g ≠ g2):Held w W' g t cs :=
  ⟨h.below.grown hg h.below.size (fun k hk=>by cases hk;exact h1),h.le,blk_grown h.blk hg (fun e=>h2 (by injection e))⟩
theorem Held.box (h:Below w.heap.size w W) (hg:g = W.heap.size) (hk:W'.heap[g]? = some (.cells cs t (0,0))) (hb:Below W.heap.size W W'):Held w W' g t cs:=⟨below_step h hb,by rw [hg];exact h.size,hk⟩
theorem Held.lt (h:Held w W g t cs):g < W.heap.size:=blk_lt h.blk
end
section
variable {P:Program} {ops:Array Oper} {rest:List Oper} {o:Oper} {a:Act} {Q:Exit→Act→World→Prop} {W:World}
theorem run_loadAt_cells {t:TypeId} {s:TypeDesc} (hu:P.underlying t = some s) (hs:(match s with|.struct _=>true|.array _ _=>true|_=>false) = true) {cs:List Value} (hsz:(P.info? t).map (·.size) = some cs.length) {ad:Addr}
    (hc:∀ j v,cs[j]? = some v→W.cell? (ad.add j) = some v):(Instr.loadAt t (.pointer (some ad))).run P W = .ok (.agg cs.toArray) W:=by
  have hl:=run_loadCells_list (P:=P) W ad cs hc
  cases hq:P.info? t with
  | none=>simp [hq] at hsz
  | some i =>
    have h1:i.size = cs.length:=by simpa [hq] using hsz
    cases s <;> simp at hs <;> simp [Instr.loadAt,Instr.sureAddr,loadVar,isAgg,run_underlying hu,sizeOf,typeInfo,hq,h1,hl,Result.andThen]
theorem load_event (hgd:Region.wanted o (yielded ops a.tmps) = true) {t:TypeId} {p:Operand} (ho:o.op = .load t p) {s:TypeDesc} (hu:P.underlying t = some s) (hs:(match s with|.struct _=>true|.array _ _=>true|_=>false) = true) {ad:Addr} (hp:a.eval p = .pointer (some ad))
    {cs:List Value} (hsz:(P.info? t).map (·.size) = some cs.length) (hc:∀ j v,cs[j]? = some v→W.cell? (ad.add j) = some v) (h:wpList P ops Q rest (a.put o.dst (.agg cs.toArray)) W):wpList P ops Q (o :: rest) a W:=by
  refine wpList_want _ hgd fun K hK=>?_
  unfold Oper.wp execOp
  simp only [ho,hp,Sem.run_bind,run_loadAt_cells hu hs hsz hc,Result.andThen_ok,Sem.run_pure,Oper.upon_value]
  exact hK _ _ h
theorem cells_of_blk {g:Nat} {cs:List Value} {t:TypeId} (h:W.heap[g]? = some (.cells cs.toArray t (0,0))):∀ j v,cs[j]? = some v→W.cell? ((⟨g,0,none⟩:Addr).add j) = some v:=by
  intro j v hv
  have hadd:(⟨g,0,none⟩:Addr).add j = ⟨g,j,none⟩:=by unfold Addr.add;split <;> simp_all
  rw [hadd]
  simp [World.cell?,h,hv]
theorem put_event (hgd:Region.wanted o (yielded ops a.tmps) = true) (hd:o.dst = none) {ty:TypeId} {x y:Operand} (ho:o.op = .store ty x y) {g:Nat} {cells old:Array Value} {t:TypeId} (hx:a.eval x = .pointer (some ⟨g,0,none⟩)) (hy:a.eval y = .agg cells)
    (hg:W.heap[g]? = some (.cells old t (0,0))) (hi:(P.info? ty).map (·.size) = some cells.size) (hold:old.size = cells.size) (h1:cells.toList.all (·.oneCell') = true)
    (h:∀ W',W'.heap[g]? = some (.cells cells t (0,0))→W.grownBy W' (some g)→wpList P ops Q rest a W'):wpList P ops Q (o :: rest) a W:=by
  refine wpList_want _ hgd fun K hK=>?_
  refine wp_store_row ty x y ho g cells hx hy t old hg hi hold (by rw [← h1,Array.all_toList]) ?_
  rw [hd]
  refine hK _ _ (h _ (setRow_heap W g old cells t (0,0) hg) ⟨rfl,rfl,rfl,by simp [World.setRow],fun k hk hne=>?_⟩)
  simp only [World.setRow,Array.getElem?_modify]
  rw [if_neg (fun e=>hne (by rw [e]))]
end
theorem below_grown {B b:Nat} {w w1 w2:World} (h:Below B w w1) (hg:w1.grownBy w2 (some b)) (hB:B ≤ b) (hb:b < w1.heap.size):Below B w w2:=h.grown hg (Nat.le_trans hB (Nat.le_of_lt hb)) (fun k hk=>by cases hk;exact hB)
end Go.Proofs.YtenbelecmmpdgaaGreatDoorW.MapOwn
end
section
namespace Go.Proofs
open Go.Shelf
def Tryz.lays169_ren:Go.Shelf.Ren:=⟨fun|169=>66|n=>n,fun|70=>102|9=>9|0=>0|72=>104|37=>24|127=>140|3=>3|5=>5|n=>n,fun|n=>n⟩
theorem Tryz.lays169:Go.Proofs.Lays.n169 Tryz.prog Tryz.lays169_ren:={
  mixed:=by kernel_rfl
  f169:=Tryz.func66.trans (congrArg some (by kernel_rfl))
  t0:=Tryz.underlying0
  a0:=Tryz.isAgg0
  z0:=Tryz.sizeOf0
  v0:=Tryz.zeroValue0
  t3:=Tryz.underlying3
  a3:=Tryz.isAgg3
  z3:=Tryz.sizeOf3
  v3:=Tryz.zeroValue3
  t9:=Tryz.underlying9
  a9:=Tryz.isAgg9
  z9:=Tryz.sizeOf9
  v9:=Tryz.zeroValue9
  t37:=Tryz.underlying24
  a37:=Tryz.isAgg24
  z37:=Tryz.sizeOf24
  v37:=Tryz.zeroValue24
  t70:=Tryz.underlying102
  a70:=Tryz.isAgg102
  z70:=Tryz.sizeOf102
  v70:=Tryz.zeroValue102
  t72:=Tryz.underlying104
  a72:=Tryz.isAgg104
  z72:=Tryz.sizeOf104
  v72:=Tryz.zeroValue104
  t127:=Tryz.underlying140
  a127:=Tryz.isAgg140
  z127:=Tryz.sizeOf140
  v127:=Tryz.zeroValue140 }
theorem Tryz.Builder_Extra_169:Builder.Extra Tryz.prog Tryz.lays169_ren:={
  sizeBuilder:=by kernel_rfl
  liesBuilder:=by kernel_rfl
  t5:=Tryz.underlying5
  a5:=Tryz.isAgg5
  z5:=Tryz.sizeOf5
  v5:=Tryz.zeroValue5
  infoByte:=by kernel_rfl
  cellsByte:=by kernel_rfl
  sizeByte:=by kernel_rfl
  neB5:=by decide }
open Go.RowKit in
theorem Tryz.Builder_String_any (B b:Nat) (l:List UInt8) (w:World) (h:Lib.IsBuilder 104 5 B b (Lib.byteCells l) w) (hBw:B ≤ w.heap.size) :
    Calls Tryz.prog 66 #[.pointer (some ⟨b,0,none⟩)] w fun e w'=>e = .returned (.string ⟨l.toArray⟩)∧Below B w w':=Any.Builder_String_any Tryz.lays169 Tryz.Builder_Extra_169 B b l w h hBw
def Tryz.lays162_ren:Go.Shelf.Ren:=⟨fun|162=>106|232=>149|227=>150|234=>152|236=>154|228=>173|271=>176|151=>175|120=>192|197=>174|152=>191|260=>190|137=>56|119=>204|224=>202|225=>201|217=>105|266=>156|n=>n,fun|9=>9|4=>4|3=>3|5=>5|117=>176|116=>175|0=>0|124=>179|21=>21|105=>196|46=>141|119=>218|139=>221|138=>220|n=>n,fun|3=>4|4=>5|n=>n⟩
theorem Tryz.lays162:Go.Proofs.Lays.n162 Tryz.prog Tryz.lays162_ren:={
  mixed:=by kernel_rfl
  f119:=Tryz.func204.trans (congrArg some (by kernel_rfl))
  f120:=Tryz.func192.trans (congrArg some (by kernel_rfl))
  f137:=Tryz.func56.trans (congrArg some (by kernel_rfl))
  f151:=Tryz.func175.trans (congrArg some (by kernel_rfl))
  f152:=Tryz.func191.trans (congrArg some (by kernel_rfl))
  f162:=Tryz.func106.trans (congrArg some (by kernel_rfl))
  f197:=Tryz.func174.trans (congrArg some (by kernel_rfl))
  f217:=Tryz.func105.trans (congrArg some (by kernel_rfl))
  f224:=Tryz.func202.trans (congrArg some (by kernel_rfl))
  f225:=Tryz.func201.trans (congrArg some (by kernel_rfl))
  f227:=Tryz.func150.trans (congrArg some (by kernel_rfl))
  f228:=Tryz.func173.trans (congrArg some (by kernel_rfl))
  f232:=Tryz.func149.trans (congrArg some (by kernel_rfl))
  f234:=Tryz.func152.trans (congrArg some (by kernel_rfl))
  f236:=Tryz.func154.trans (congrArg some (by kernel_rfl))
  f260:=Tryz.func190.trans (congrArg some (by kernel_rfl))
  f266:=Tryz.func156.trans (congrArg some (by kernel_rfl))
  f271:=Tryz.func176.trans (congrArg some (by kernel_rfl))
  t0:=Tryz.underlying0
  a0:=Tryz.isAgg0
  z0:=Tryz.sizeOf0
  v0:=Tryz.zeroValue0
  t3:=Tryz.underlying3
  a3:=Tryz.isAgg3
  z3:=Tryz.sizeOf3
  v3:=Tryz.zeroValue3
  t4:=Tryz.underlying4
  a4:=Tryz.isAgg4
  z4:=Tryz.sizeOf4
  v4:=Tryz.zeroValue4
  t5:=Tryz.underlying5
  a5:=Tryz.isAgg5
  z5:=Tryz.sizeOf5
  v5:=Tryz.zeroValue5
  t9:=Tryz.underlying9
  a9:=Tryz.isAgg9
  z9:=Tryz.sizeOf9
  v9:=Tryz.zeroValue9
  t21:=Tryz.underlying21
  a21:=Tryz.isAgg21
  z21:=Tryz.sizeOf21
  v21:=Tryz.zeroValue21
  t46:=Tryz.underlying141
  a46:=Tryz.isAgg141
  z46:=Tryz.sizeOf141
  v46:=Tryz.zeroValue141
  t105:=Tryz.underlying196
  a105:=Tryz.isAgg196
  z105:=Tryz.sizeOf196
  v105:=Tryz.zeroValue196
  t116:=Tryz.underlying175
  a116:=Tryz.isAgg175
  z116:=Tryz.sizeOf175
  t117:=Tryz.underlying176
  a117:=Tryz.isAgg176
  z117:=Tryz.sizeOf176
  v117:=Tryz.zeroValue176
  t119:=Tryz.underlying218
  a119:=Tryz.isAgg218
  z119:=Tryz.sizeOf218
  t124:=Tryz.underlying179
  a124:=Tryz.isAgg179
  z124:=Tryz.sizeOf179
  v124:=Tryz.zeroValue179
  t138:=Tryz.underlying220
  a138:=Tryz.isAgg220
  z138:=Tryz.sizeOf220
  v138:=Tryz.zeroValue220
  t139:=Tryz.underlying221
  a139:=Tryz.isAgg221
  z139:=Tryz.sizeOf221
  v139:=Tryz.zeroValue221
  g3:=by kernel_rfl
  g4:=by kernel_rfl }
open Go.RowKit in
theorem Tryz.strings_TrimRight_one (s:ByteArray) (c:UInt8) (hc:c.toNat < 128) (w:World) (hs:s.size ≤ 9223372036854775807) :
    Calls Tryz.prog 106 #[.string s,.string ⟨#[c]⟩] w fun e w'=>e = .returned (.string ⟨(Lib.trimRightB s.data.toList c).toArray⟩)∧w' = w:=Any.strings_TrimRight_one Tryz.lays162 s c hc w hs
def Tryz.lays160_ren:Go.Shelf.Ren:=⟨fun|160=>102|232=>149|231=>148|227=>150|234=>152|233=>151|236=>154|235=>153|228=>173|271=>176|151=>175|197=>174|120=>192|152=>191|260=>190|137=>56|119=>204|224=>202|225=>201|217=>105|266=>156|n=>n,fun|9=>9|4=>4|3=>3|5=>5|117=>176|116=>175|0=>0|124=>179|21=>21|105=>196|46=>141|119=>218|139=>221|138=>220|n=>n,fun|3=>4|4=>5|n=>n⟩
open Go.RowKit in
def Tryz.lays119_ren:Go.Shelf.Ren:=⟨fun|119=>204|n=>n,fun|21=>21|4=>4|n=>n,fun|n=>n⟩
theorem Tryz.lays119:Go.Proofs.Lays.n119 Tryz.prog Tryz.lays119_ren:={
  mixed:=by kernel_rfl
  f119:=Tryz.func204.trans (congrArg some (by kernel_rfl))
  t4:=Tryz.underlying4
  a4:=Tryz.isAgg4
  z4:=Tryz.sizeOf4
  v4:=Tryz.zeroValue4
  t21:=Tryz.underlying21
  a21:=Tryz.isAgg21
  z21:=Tryz.sizeOf21
  v21:=Tryz.zeroValue21 }
theorem Tryz.utf8_ValidRune (r:Int) (w:World) :
    Calls Tryz.prog 204 #[.int .i32 r] w fun e w'=>e = .returned (.bool (Lib.validRune r))∧w' = w:=Any.utf8_ValidRune Tryz.lays119 r w
def Tryz.lays137_ren:Go.Shelf.Ren:=⟨fun|137=>56|217=>105|266=>156|n=>n,fun|9=>9|5=>5|3=>3|n=>n,fun|n=>n⟩
theorem Tryz.lays137:Go.Proofs.Lays.n137 Tryz.prog Tryz.lays137_ren:={
  mixed:=by kernel_rfl
  f137:=Tryz.func56.trans (congrArg some (by kernel_rfl))
  f217:=Tryz.func105.trans (congrArg some (by kernel_rfl))
  f266:=Tryz.func156.trans (congrArg some (by kernel_rfl))
  t3:=Tryz.underlying3
  a3:=Tryz.isAgg3
  z3:=Tryz.sizeOf3
  v3:=Tryz.zeroValue3
  t5:=Tryz.underlying5
  a5:=Tryz.isAgg5
  z5:=Tryz.sizeOf5
  v5:=Tryz.zeroValue5
  t9:=Tryz.underlying9
  a9:=Tryz.isAgg9
  z9:=Tryz.sizeOf9
  v9:=Tryz.zeroValue9 }
open Go.RowKit in
theorem Tryz.strings_IndexByte (s:ByteArray) (c:Int) (w:World) :
    Calls Tryz.prog 56 #[.string s,.int .u8 c] w fun e w'=>e = .returned (.int .i64 (Lib.indexByte s.data.toList c.toNat.toUInt8))∧w' = w:=Any.strings_IndexByte Tryz.lays137 s c w
def Tryz.lays172_ren:Go.Shelf.Ren:=⟨fun|172=>47|244=>100|245=>101|247=>143|279=>144|280=>145|281=>146|282=>147|287=>170|316=>171|171=>76|205=>172|321=>188|322=>189|243=>116|246=>163|283=>182|284=>183|285=>184|286=>185|129=>197|317=>196|318=>198|319=>199|320=>200|337=>205|338=>206|n=>n,fun|9=>9|3=>3|75=>81|76=>82|4=>4|5=>5|167=>167|37=>24|0=>0|85=>168|2=>2|168=>170|53=>186|175=>190|46=>141|210=>193|127=>140|145=>210|143=>208|21=>21|171=>201|173=>204|212=>215|51=>183|20=>20|213=>216|232=>225|233=>226|80=>106|n=>n,fun|15=>0|16=>1|17=>3|18=>6|19=>7|n=>n⟩
open Go.RowKit in
def Tryz.laysM171_ren:Go.Shelf.Ren:=⟨fun|171=>76|243=>116|246=>163|283=>182|284=>183|285=>184|286=>185|129=>197|317=>196|318=>198|319=>199|320=>200|337=>205|338=>206|n=>n,fun|3=>3|9=>9|2=>2|4=>4|171=>201|0=>0|53=>186|37=>24|5=>5|173=>204|212=>215|51=>183|20=>20|213=>216|46=>141|232=>225|233=>226|n=>n,fun|17=>3|18=>6|19=>7|n=>n⟩
theorem Tryz.laysM171:Go.Proofs.LaysM.n171 Tryz.prog Tryz.laysM171_ren:={
  mixed:=by kernel_rfl
  f129:=Tryz.func197.trans (congrArg some (by kernel_rfl))
  f171:=Tryz.func76.trans (congrArg some (by kernel_rfl))
  f243:=Tryz.func116.trans (congrArg some (by kernel_rfl))
  f246:=Tryz.func163.trans (congrArg some (by kernel_rfl))
  f283:=Tryz.func182.trans (congrArg some (by kernel_rfl))
  f284:=Tryz.func183.trans (congrArg some (by kernel_rfl))
  f285:=Tryz.func184.trans (congrArg some (by kernel_rfl))
  f286:=Tryz.func185.trans (congrArg some (by kernel_rfl))
  f317:=Tryz.func196.trans (congrArg some (by kernel_rfl))
  f318:=Tryz.func198.trans (congrArg some (by kernel_rfl))
  f319:=Tryz.func199.trans (congrArg some (by kernel_rfl))
  f320:=Tryz.func200.trans (congrArg some (by kernel_rfl))
  f337:=Tryz.func205.trans (congrArg some (by kernel_rfl))
  f338:=Tryz.func206.trans (congrArg some (by kernel_rfl))
  t0:=Tryz.underlying0
  a0:=Tryz.isAgg0
  z0:=Tryz.sizeOf0
  v0:=Tryz.zeroValue0
  t2:=Tryz.underlying2
  a2:=Tryz.isAgg2
  z2:=Tryz.sizeOf2
  v2:=Tryz.zeroValue2
  t3:=Tryz.underlying3
  a3:=Tryz.isAgg3
  z3:=Tryz.sizeOf3
  v3:=Tryz.zeroValue3
  t4:=Tryz.underlying4
  a4:=Tryz.isAgg4
  z4:=Tryz.sizeOf4
  v4:=Tryz.zeroValue4
  t5:=Tryz.underlying5
  a5:=Tryz.isAgg5
  z5:=Tryz.sizeOf5
  v5:=Tryz.zeroValue5
  t9:=Tryz.underlying9
  a9:=Tryz.isAgg9
  z9:=Tryz.sizeOf9
  v9:=Tryz.zeroValue9
  t20:=Tryz.underlying20
  a20:=Tryz.isAgg20
  z20:=Tryz.sizeOf20
  v20:=Tryz.zeroValue20
  t37:=Tryz.underlying24
  a37:=Tryz.isAgg24
  z37:=Tryz.sizeOf24
  v37:=Tryz.zeroValue24
  t46:=Tryz.underlying141
  a46:=Tryz.isAgg141
  z46:=Tryz.sizeOf141
  v46:=Tryz.zeroValue141
  t51:=Tryz.underlying183
  a51:=Tryz.isAgg183
  z51:=Tryz.sizeOf183
  v51:=Tryz.zeroValue183
  t53:=Tryz.underlying186
  a53:=Tryz.isAgg186
  z53:=Tryz.sizeOf186
  v53:=Tryz.zeroValue186
  t171:=Tryz.underlying201
  a171:=Tryz.isAgg201
  z171:=Tryz.sizeOf201
  v171:=Tryz.zeroValue201
  t173:=Tryz.underlying204
  a173:=Tryz.isAgg204
  z173:=Tryz.sizeOf204
  v173:=Tryz.zeroValue204
  t212:=Tryz.underlying215
  a212:=Tryz.isAgg215
  z212:=Tryz.sizeOf215
  v212:=Tryz.zeroValue215
  t213:=Tryz.underlying216
  a213:=Tryz.isAgg216
  z213:=Tryz.sizeOf216
  t232:=Tryz.underlying225
  a232:=Tryz.isAgg225
  z232:=Tryz.sizeOf225
  v232:=Tryz.zeroValue225
  t233:=Tryz.underlying226
  a233:=Tryz.isAgg226
  z233:=Tryz.sizeOf226
  v233:=Tryz.zeroValue226
  g17:=by kernel_rfl
  g18:=by kernel_rfl
  g19:=by kernel_rfl
  i0:=by kernel_rfl
  i2:=by kernel_rfl
  i3:=by kernel_rfl
  i4:=by kernel_rfl
  i5:=by kernel_rfl
  i9:=by kernel_rfl
  i20:=by kernel_rfl
  i37:=by kernel_rfl
  i46:=by kernel_rfl
  i51:=by kernel_rfl
  i53:=by kernel_rfl
  i171:=by kernel_rfl
  i173:=by kernel_rfl
  i212:=by kernel_rfl
  i232:=by kernel_rfl
  i233:=by kernel_rfl
  m17:=by kernel_rfl
  m18:=by kernel_rfl
  m19:=by kernel_rfl }
open Go.RowKit Go.Sort Go.Lib in
theorem Tryz.strconv_Itoa (n : Int) (h0 : -9223372036854775808 ≤ n) (h1 : n ≤ 9223372036854775807) (w : World) (htab : Lib.TabIs Tryz.prog w "internal/strconv.uint64pow10" .u64 Lib.pow10Tab) :
    Calls Tryz.prog 76 #[.int .i64 n] w fun e w'=>e = .returned (.string ⟨(Lib.itoa n).toArray⟩)∧∃ k os,w' = grow (w.drewN k) os:=Any.strconv_Itoa Tryz.laysM171 n h0 h1 w htab
def Tryz.lays219_ren:Go.Shelf.Ren:=⟨fun|219=>187|217=>105|225=>201|224=>202|267=>203|266=>156|314=>207|n=>n,fun|9=>9|3=>3|4=>4|5=>5|46=>141|146=>184|51=>183|n=>n,fun|1=>2|n=>n⟩
open Go.RowKit Go.Lib in
def Tryz.lays143_ren:Go.Shelf.Ren:=⟨fun|143=>179|219=>187|217=>105|225=>201|224=>202|267=>203|266=>156|314=>207|n=>n,fun|9=>9|3=>3|4=>4|5=>5|46=>141|146=>184|51=>183|n=>n,fun|1=>2|n=>n⟩
theorem Tryz.lays143:Go.Proofs.Lays.n143 Tryz.prog Tryz.lays143_ren:={
  mixed:=by kernel_rfl
  f143:=Tryz.func179.trans (congrArg some (by kernel_rfl))
  f217:=Tryz.func105.trans (congrArg some (by kernel_rfl))
  f219:=Tryz.func187.trans (congrArg some (by kernel_rfl))
  f224:=Tryz.func202.trans (congrArg some (by kernel_rfl))
  f225:=Tryz.func201.trans (congrArg some (by kernel_rfl))
  f266:=Tryz.func156.trans (congrArg some (by kernel_rfl))
  f267:=Tryz.func203.trans (congrArg some (by kernel_rfl))
  f314:=Tryz.func207.trans (congrArg some (by kernel_rfl))
  t3:=Tryz.underlying3
  a3:=Tryz.isAgg3
  z3:=Tryz.sizeOf3
  v3:=Tryz.zeroValue3
  t4:=Tryz.underlying4
  a4:=Tryz.isAgg4
  z4:=Tryz.sizeOf4
  v4:=Tryz.zeroValue4
  t5:=Tryz.underlying5
  a5:=Tryz.isAgg5
  z5:=Tryz.sizeOf5
  v5:=Tryz.zeroValue5
  t9:=Tryz.underlying9
  a9:=Tryz.isAgg9
  z9:=Tryz.sizeOf9
  v9:=Tryz.zeroValue9
  t46:=Tryz.underlying141
  a46:=Tryz.isAgg141
  z46:=Tryz.sizeOf141
  v46:=Tryz.zeroValue141
  t51:=Tryz.underlying183
  a51:=Tryz.isAgg183
  z51:=Tryz.sizeOf183
  v51:=Tryz.zeroValue183
  t146:=Tryz.underlying184
  a146:=Tryz.isAgg184
  z146:=Tryz.sizeOf184
  v146:=Tryz.zeroValue184
  g1:=by kernel_rfl }
open Go.RowKit Go.Lib in
theorem Tryz.strings_Index_one (s:ByteArray) (c:UInt8) (w:World) :
    Calls Tryz.prog 179 #[.string s,.string ⟨#[c]⟩] w fun e w'=>e = .returned (.int .i64 (Lib.indexByte s.data.toList c))∧w' = w:=Any.strings_Index_one Tryz.lays143 s c w
def Tryz.lays138_ren:Go.Shelf.Ren:=⟨fun|138=>178|195=>193|218=>194|143=>179|219=>187|217=>105|225=>201|224=>202|267=>203|266=>156|314=>207|n=>n,fun|9=>9|3=>3|4=>4|5=>5|0=>0|46=>141|146=>184|51=>183|n=>n,fun|1=>2|n=>n⟩
theorem Tryz.lays138:Go.Proofs.Lays.n138 Tryz.prog Tryz.lays138_ren:={
  mixed:=by kernel_rfl
  f138:=Tryz.func178.trans (congrArg some (by kernel_rfl))
  f143:=Tryz.func179.trans (congrArg some (by kernel_rfl))
  f195:=Tryz.func193.trans (congrArg some (by kernel_rfl))
  f217:=Tryz.func105.trans (congrArg some (by kernel_rfl))
  f218:=Tryz.func194.trans (congrArg some (by kernel_rfl))
  f219:=Tryz.func187.trans (congrArg some (by kernel_rfl))
  f224:=Tryz.func202.trans (congrArg some (by kernel_rfl))
  f225:=Tryz.func201.trans (congrArg some (by kernel_rfl))
  f266:=Tryz.func156.trans (congrArg some (by kernel_rfl))
  f267:=Tryz.func203.trans (congrArg some (by kernel_rfl))
  f314:=Tryz.func207.trans (congrArg some (by kernel_rfl))
  t0:=Tryz.underlying0
  a0:=Tryz.isAgg0
  z0:=Tryz.sizeOf0
  v0:=Tryz.zeroValue0
  t3:=Tryz.underlying3
  a3:=Tryz.isAgg3
  z3:=Tryz.sizeOf3
  v3:=Tryz.zeroValue3
  t4:=Tryz.underlying4
  a4:=Tryz.isAgg4
  z4:=Tryz.sizeOf4
  v4:=Tryz.zeroValue4
  t5:=Tryz.underlying5
  a5:=Tryz.isAgg5
  z5:=Tryz.sizeOf5
  v5:=Tryz.zeroValue5
  t9:=Tryz.underlying9
  a9:=Tryz.isAgg9
  z9:=Tryz.sizeOf9
  v9:=Tryz.zeroValue9
  t46:=Tryz.underlying141
  a46:=Tryz.isAgg141
  z46:=Tryz.sizeOf141
  v46:=Tryz.zeroValue141
  t51:=Tryz.underlying183
  a51:=Tryz.isAgg183
  z51:=Tryz.sizeOf183
  v51:=Tryz.zeroValue183
  t146:=Tryz.underlying184
  a146:=Tryz.isAgg184
  z146:=Tryz.sizeOf184
  v146:=Tryz.zeroValue184
  g1:=by kernel_rfl }
open Go.RowKit Go.Lib in
theorem Tryz.strings_Count_one (s:ByteArray) (c:UInt8) (w:World) :
    Calls Tryz.prog 178 #[.string s,.string ⟨#[c]⟩] w fun e w'=>e = .returned (.int .i64 (Lib.countByte s.data.toList c))∧w' = w:=Any.strings_Count_one Tryz.lays138 s c w
def Tryz.lays149_ren:Go.Shelf.Ren:=⟨fun|149=>121|222=>166|n=>n,fun|9=>9|5=>5|3=>3|4=>4|n=>n,fun|n=>n⟩
theorem Tryz.lays149:Go.Proofs.Lays.n149 Tryz.prog Tryz.lays149_ren:={
  mixed:=by kernel_rfl
  f149:=Tryz.func121.trans (congrArg some (by kernel_rfl))
  f222:=Tryz.func166.trans (congrArg some (by kernel_rfl))
  t3:=Tryz.underlying3
  a3:=Tryz.isAgg3
  z3:=Tryz.sizeOf3
  v3:=Tryz.zeroValue3
  t4:=Tryz.underlying4
  a4:=Tryz.isAgg4
  z4:=Tryz.sizeOf4
  v4:=Tryz.zeroValue4
  t5:=Tryz.underlying5
  a5:=Tryz.isAgg5
  z5:=Tryz.sizeOf5
  v5:=Tryz.zeroValue5
  t9:=Tryz.underlying9
  a9:=Tryz.isAgg9
  z9:=Tryz.sizeOf9
  v9:=Tryz.zeroValue9 }
open Go.RowKit Go.Lib in
theorem Tryz.strings_LastIndexByte (s:ByteArray) (c:Int) (hs:s.size < 4611686018427387904) (w:World) :
    Calls Tryz.prog 121 #[.string s,.int .u8 c] w fun e w'=>e = .returned (.int .i64 (Lib.lastIndexByte s c))∧w' = w:=Any.strings_LastIndexByte Tryz.lays149 s c hs w
def Tryz.lays99_ren:Go.Shelf.Ren:=⟨fun|99=>110|206=>161|n=>n,fun|9=>9|4=>4|3=>3|n=>n,fun|n=>n⟩
open Go.RowKit Go.Lib in
def Tryz.lays221_ren:Go.Shelf.Ren:=⟨fun|221=>155|268=>177|138=>178|143=>179|195=>193|197=>174|218=>194|219=>187|260=>190|217=>105|225=>201|224=>202|267=>203|266=>156|314=>207|n=>n,fun|9=>9|3=>3|31=>136|4=>4|0=>0|105=>196|21=>21|5=>5|46=>141|119=>218|139=>221|138=>220|146=>184|51=>183|n=>n,fun|1=>2|3=>4|4=>5|n=>n⟩
theorem Tryz.lays221:Go.Proofs.Lays.n221 Tryz.prog Tryz.lays221_ren:={
  mixed:=by kernel_rfl
  f138:=Tryz.func178.trans (congrArg some (by kernel_rfl))
  f143:=Tryz.func179.trans (congrArg some (by kernel_rfl))
  f195:=Tryz.func193.trans (congrArg some (by kernel_rfl))
  f197:=Tryz.func174.trans (congrArg some (by kernel_rfl))
  f217:=Tryz.func105.trans (congrArg some (by kernel_rfl))
  f218:=Tryz.func194.trans (congrArg some (by kernel_rfl))
  f219:=Tryz.func187.trans (congrArg some (by kernel_rfl))
  f221:=Tryz.func155.trans (congrArg some (by kernel_rfl))
  f224:=Tryz.func202.trans (congrArg some (by kernel_rfl))
  f225:=Tryz.func201.trans (congrArg some (by kernel_rfl))
  f260:=Tryz.func190.trans (congrArg some (by kernel_rfl))
  f266:=Tryz.func156.trans (congrArg some (by kernel_rfl))
  f267:=Tryz.func203.trans (congrArg some (by kernel_rfl))
  f268:=Tryz.func177.trans (congrArg some (by kernel_rfl))
  f314:=Tryz.func207.trans (congrArg some (by kernel_rfl))
  t0:=Tryz.underlying0
  a0:=Tryz.isAgg0
  z0:=Tryz.sizeOf0
  v0:=Tryz.zeroValue0
  t3:=Tryz.underlying3
  a3:=Tryz.isAgg3
  z3:=Tryz.sizeOf3
  v3:=Tryz.zeroValue3
  t4:=Tryz.underlying4
  a4:=Tryz.isAgg4
  z4:=Tryz.sizeOf4
  v4:=Tryz.zeroValue4
  t5:=Tryz.underlying5
  a5:=Tryz.isAgg5
  z5:=Tryz.sizeOf5
  v5:=Tryz.zeroValue5
  t9:=Tryz.underlying9
  a9:=Tryz.isAgg9
  z9:=Tryz.sizeOf9
  v9:=Tryz.zeroValue9
  t21:=Tryz.underlying21
  a21:=Tryz.isAgg21
  z21:=Tryz.sizeOf21
  v21:=Tryz.zeroValue21
  t31:=Tryz.underlying136
  a31:=Tryz.isAgg136
  z31:=Tryz.sizeOf136
  v31:=Tryz.zeroValue136
  t46:=Tryz.underlying141
  a46:=Tryz.isAgg141
  z46:=Tryz.sizeOf141
  v46:=Tryz.zeroValue141
  t51:=Tryz.underlying183
  a51:=Tryz.isAgg183
  z51:=Tryz.sizeOf183
  v51:=Tryz.zeroValue183
  t105:=Tryz.underlying196
  a105:=Tryz.isAgg196
  z105:=Tryz.sizeOf196
  v105:=Tryz.zeroValue196
  t119:=Tryz.underlying218
  a119:=Tryz.isAgg218
  z119:=Tryz.sizeOf218
  t138:=Tryz.underlying220
  a138:=Tryz.isAgg220
  z138:=Tryz.sizeOf220
  v138:=Tryz.zeroValue220
  t139:=Tryz.underlying221
  a139:=Tryz.isAgg221
  z139:=Tryz.sizeOf221
  v139:=Tryz.zeroValue221
  t146:=Tryz.underlying184
  a146:=Tryz.isAgg184
  z146:=Tryz.sizeOf184
  v146:=Tryz.zeroValue184
  g1:=by kernel_rfl
  g3:=by kernel_rfl
  g4:=by kernel_rfl }
def Tryz.lays152_ren:Go.Shelf.Ren:=⟨fun|152=>191|137=>56|119=>204|224=>202|225=>201|217=>105|266=>156|n=>n,fun|9=>9|21=>21|3=>3|4=>4|5=>5|0=>0|46=>141|n=>n,fun|n=>n⟩
theorem Tryz.lays152:Go.Proofs.Lays.n152 Tryz.prog Tryz.lays152_ren:={
  mixed:=by kernel_rfl
  f119:=Tryz.func204.trans (congrArg some (by kernel_rfl))
  f137:=Tryz.func56.trans (congrArg some (by kernel_rfl))
  f152:=Tryz.func191.trans (congrArg some (by kernel_rfl))
  f217:=Tryz.func105.trans (congrArg some (by kernel_rfl))
  f224:=Tryz.func202.trans (congrArg some (by kernel_rfl))
  f225:=Tryz.func201.trans (congrArg some (by kernel_rfl))
  f266:=Tryz.func156.trans (congrArg some (by kernel_rfl))
  t0:=Tryz.underlying0
  a0:=Tryz.isAgg0
  z0:=Tryz.sizeOf0
  v0:=Tryz.zeroValue0
  t3:=Tryz.underlying3
  a3:=Tryz.isAgg3
  z3:=Tryz.sizeOf3
  v3:=Tryz.zeroValue3
  t4:=Tryz.underlying4
  a4:=Tryz.isAgg4
  z4:=Tryz.sizeOf4
  v4:=Tryz.zeroValue4
  t5:=Tryz.underlying5
  a5:=Tryz.isAgg5
  z5:=Tryz.sizeOf5
  v5:=Tryz.zeroValue5
  t9:=Tryz.underlying9
  a9:=Tryz.isAgg9
  z9:=Tryz.sizeOf9
  v9:=Tryz.zeroValue9
  t21:=Tryz.underlying21
  a21:=Tryz.isAgg21
  z21:=Tryz.sizeOf21
  v21:=Tryz.zeroValue21
  t46:=Tryz.underlying141
  a46:=Tryz.isAgg141
  z46:=Tryz.sizeOf141
  v46:=Tryz.zeroValue141 }
open Go.RowKit Go.Lib in
theorem Tryz.strings_IndexRune_ascii (s:ByteArray) (r:Int) (w:World) (h0:0 ≤ r) (h1:r < 128) :
    Calls Tryz.prog 191 #[.string s,.int .i32 r] w fun e w'=>e = .returned (.int .i64 (Lib.indexByte s.data.toList r.toNat.toUInt8))∧w' = w:=Any.strings_IndexRune_ascii Tryz.lays152 s r w h0 h1
def Tryz.lays226_ren:Go.Shelf.Ren:=⟨fun|226=>195|n=>n,fun|3=>3|4=>4|n=>n,fun|n=>n⟩
theorem Tryz.lays226:Go.Proofs.Lays.n226 Tryz.prog Tryz.lays226_ren:={
  mixed:=by kernel_rfl
  f226:=Tryz.func195.trans (congrArg some (by kernel_rfl))
  t3:=Tryz.underlying3
  a3:=Tryz.isAgg3
  z3:=Tryz.sizeOf3
  v3:=Tryz.zeroValue3
  t4:=Tryz.underlying4
  a4:=Tryz.isAgg4
  z4:=Tryz.sizeOf4
  v4:=Tryz.zeroValue4 }
open Go.RowKit Go.Lib in
theorem Tryz.strings_shouldUseASCIISet (n:Int) (w:World) :
    Calls Tryz.prog 195 #[.int .i64 n] w fun e w'=>e = .returned (.bool (decide (8 < n)))∧w' = w:=Any.strings_shouldUseASCIISet Tryz.lays226 n w
def Tryz.lays153_ren:Go.Shelf.Ren:=⟨fun|153=>180|152=>191|226=>195|227=>150|228=>173|137=>56|119=>204|224=>202|225=>201|217=>105|266=>156|n=>n,fun|9=>9|3=>3|4=>4|5=>5|21=>21|117=>176|116=>175|0=>0|46=>141|124=>179|n=>n,fun|n=>n⟩
theorem Tryz.lays153:Go.Proofs.Lays.n153 Tryz.prog Tryz.lays153_ren:={
  mixed:=by kernel_rfl
  f119:=Tryz.func204.trans (congrArg some (by kernel_rfl))
  f137:=Tryz.func56.trans (congrArg some (by kernel_rfl))
  f152:=Tryz.func191.trans (congrArg some (by kernel_rfl))
  f153:=Tryz.func180.trans (congrArg some (by kernel_rfl))
  f217:=Tryz.func105.trans (congrArg some (by kernel_rfl))
  f224:=Tryz.func202.trans (congrArg some (by kernel_rfl))
  f225:=Tryz.func201.trans (congrArg some (by kernel_rfl))
  f226:=Tryz.func195.trans (congrArg some (by kernel_rfl))
  f227:=Tryz.func150.trans (congrArg some (by kernel_rfl))
  f228:=Tryz.func173.trans (congrArg some (by kernel_rfl))
  f266:=Tryz.func156.trans (congrArg some (by kernel_rfl))
  t0:=Tryz.underlying0
  a0:=Tryz.isAgg0
  z0:=Tryz.sizeOf0
  v0:=Tryz.zeroValue0
  t3:=Tryz.underlying3
  a3:=Tryz.isAgg3
  z3:=Tryz.sizeOf3
  v3:=Tryz.zeroValue3
  t4:=Tryz.underlying4
  a4:=Tryz.isAgg4
  z4:=Tryz.sizeOf4
  v4:=Tryz.zeroValue4
  t5:=Tryz.underlying5
  a5:=Tryz.isAgg5
  z5:=Tryz.sizeOf5
  v5:=Tryz.zeroValue5
  t9:=Tryz.underlying9
  a9:=Tryz.isAgg9
  z9:=Tryz.sizeOf9
  v9:=Tryz.zeroValue9
  t21:=Tryz.underlying21
  a21:=Tryz.isAgg21
  z21:=Tryz.sizeOf21
  v21:=Tryz.zeroValue21
  t46:=Tryz.underlying141
  a46:=Tryz.isAgg141
  z46:=Tryz.sizeOf141
  v46:=Tryz.zeroValue141
  t116:=Tryz.underlying175
  a116:=Tryz.isAgg175
  z116:=Tryz.sizeOf175
  t117:=Tryz.underlying176
  a117:=Tryz.isAgg176
  z117:=Tryz.sizeOf176
  v117:=Tryz.zeroValue176
  t124:=Tryz.underlying179
  a124:=Tryz.isAgg179
  z124:=Tryz.sizeOf179
  v124:=Tryz.zeroValue179 }
open Go.RowKit Go.Lib in
theorem Tryz.strings_IndexAny_long (hv116:∀ w,(zeroValue 175).run Tryz.prog w = .ok (.agg (Array.replicate 256 (.bool false))) w) (s chars:ByteArray) (w:World) (h2:2 ≤ chars.size) (h8:8 < s.size) (hs:s.size < 4294967281) (hcs:chars.size < 4294967281) (hascii:∀ (j:Nat) b,chars.data.toList[j]? = some b→b.toNat < 128) :
    Calls Tryz.prog 180 #[.string s,.string chars] w fun e w'=>e = .returned (.int .i64 (Lib.indexAny s.data.toList chars.data.toList))∧w' = ((w.alloc (.cells (Lib.setCells chars.data.toList) 175)).alloc (.cells (Lib.setCells chars.data.toList) 175)):=Any.strings_IndexAny_long Tryz.lays153 hv116 (by kernel_rfl) s chars w h2 h8 hs hcs hascii
def Tryz.lays105_ren:Go.Shelf.Ren:=⟨fun|105=>70|212=>109|99=>110|165=>111|166=>65|170=>112|169=>66|263=>159|264=>160|206=>161|240=>108|241=>162|276=>158|277=>181|n=>n,fun|9=>9|3=>3|4=>4|20=>20|0=>0|46=>141|109=>142|5=>5|72=>104|76=>82|51=>183|146=>184|53=>186|148=>187|70=>102|37=>24|75=>81|127=>140|164=>181|80=>106|n=>n,fun|n=>n⟩
theorem Tryz.lays105:Go.Proofs.Lays.n105 Tryz.prog Tryz.lays105_ren:={
  mixed:=by kernel_rfl
  f99:=Tryz.func110.trans (congrArg some (by kernel_rfl))
  f105:=Tryz.func70.trans (congrArg some (by kernel_rfl))
  f165:=Tryz.func111.trans (congrArg some (by kernel_rfl))
  f166:=Tryz.func65.trans (congrArg some (by kernel_rfl))
  f169:=Tryz.func66.trans (congrArg some (by kernel_rfl))
  f170:=Tryz.func112.trans (congrArg some (by kernel_rfl))
  f206:=Tryz.func161.trans (congrArg some (by kernel_rfl))
  f212:=Tryz.func109.trans (congrArg some (by kernel_rfl))
  f240:=Tryz.func108.trans (congrArg some (by kernel_rfl))
  f241:=Tryz.func162.trans (congrArg some (by kernel_rfl))
  f263:=Tryz.func159.trans (congrArg some (by kernel_rfl))
  f264:=Tryz.func160.trans (congrArg some (by kernel_rfl))
  f276:=Tryz.func158.trans (congrArg some (by kernel_rfl))
  f277:=Tryz.func181.trans (congrArg some (by kernel_rfl))
  t0:=Tryz.underlying0
  a0:=Tryz.isAgg0
  z0:=Tryz.sizeOf0
  v0:=Tryz.zeroValue0
  t3:=Tryz.underlying3
  a3:=Tryz.isAgg3
  z3:=Tryz.sizeOf3
  v3:=Tryz.zeroValue3
  t4:=Tryz.underlying4
  a4:=Tryz.isAgg4
  z4:=Tryz.sizeOf4
  v4:=Tryz.zeroValue4
  t5:=Tryz.underlying5
  a5:=Tryz.isAgg5
  z5:=Tryz.sizeOf5
  v5:=Tryz.zeroValue5
  t9:=Tryz.underlying9
  a9:=Tryz.isAgg9
  z9:=Tryz.sizeOf9
  v9:=Tryz.zeroValue9
  t20:=Tryz.underlying20
  a20:=Tryz.isAgg20
  z20:=Tryz.sizeOf20
  v20:=Tryz.zeroValue20
  t37:=Tryz.underlying24
  a37:=Tryz.isAgg24
  z37:=Tryz.sizeOf24
  v37:=Tryz.zeroValue24
  t46:=Tryz.underlying141
  a46:=Tryz.isAgg141
  z46:=Tryz.sizeOf141
  v46:=Tryz.zeroValue141
  t51:=Tryz.underlying183
  a51:=Tryz.isAgg183
  z51:=Tryz.sizeOf183
  v51:=Tryz.zeroValue183
  t53:=Tryz.underlying186
  a53:=Tryz.isAgg186
  z53:=Tryz.sizeOf186
  v53:=Tryz.zeroValue186
  t70:=Tryz.underlying102
  a70:=Tryz.isAgg102
  z70:=Tryz.sizeOf102
  v70:=Tryz.zeroValue102
  t72:=Tryz.underlying104
  a72:=Tryz.isAgg104
  z72:=Tryz.sizeOf104
  v72:=Tryz.zeroValue104
  t75:=Tryz.underlying81
  a75:=Tryz.isAgg81
  z75:=Tryz.sizeOf81
  v75:=Tryz.zeroValue81
  t76:=Tryz.underlying82
  a76:=Tryz.isAgg82
  z76:=Tryz.sizeOf82
  v76:=Tryz.zeroValue82
  t109:=Tryz.underlying142
  a109:=Tryz.isAgg142
  z109:=Tryz.sizeOf142
  v109:=Tryz.zeroValue142
  t127:=Tryz.underlying140
  a127:=Tryz.isAgg140
  z127:=Tryz.sizeOf140
  v127:=Tryz.zeroValue140
  t146:=Tryz.underlying184
  a146:=Tryz.isAgg184
  z146:=Tryz.sizeOf184
  v146:=Tryz.zeroValue184
  t148:=Tryz.underlying187
  a148:=Tryz.isAgg187
  z148:=Tryz.sizeOf187
  v148:=Tryz.zeroValue187
  t164:=Tryz.underlying181
  a164:=Tryz.isAgg181
  z164:=Tryz.sizeOf181
  v164:=Tryz.zeroValue181 }
theorem Tryz.Builder_Extra_105:Builder.Extra Tryz.prog Tryz.lays105_ren:={
  sizeBuilder:=by kernel_rfl
  liesBuilder:=by kernel_rfl
  t5:=Tryz.underlying5
  a5:=Tryz.isAgg5
  z5:=Tryz.sizeOf5
  v5:=Tryz.zeroValue5
  infoByte:=by kernel_rfl
  cellsByte:=by kernel_rfl
  sizeByte:=by kernel_rfl
  neB5:=by decide }
open Go.RowKit Go.Lib in
theorem Tryz.strings_Repeat (s:ByteArray) (c:Nat) (w:World) (hc:c ≤ 9223372036854775807) (hlen:s.size * c ≤ 140737488355328) :
    Calls Tryz.prog 70 #[.string s,.int .i64 c] w fun e w'=>e = .returned (.string ⟨(Lib.repeatL s.data.toList c).toArray⟩)∧Below w.heap.size w w':=Any.strings_Repeat Tryz.lays105 Tryz.Builder_Extra_105 s c w hc hlen
end Go.Proofs
end
section
namespace Go.Proofs.YtenbelecmmpdgaaGreatDoor.All
open Go.RowKit Go.Proofs.YtenbelecmmpdgaaGreatDoorW.PrintWords Go.Proofs.YtenbelecmmpdgaaGreatDoorW.PrintLast Go.Proofs.YtenbelecmmpdgaaGreatDoorW.PrintMore
open Go.Proofs.YtenbelecmmpdgaaGreatDoorW.Mine
attribute [local go_sem] gtr_string leq_string geq_string
attribute [local go_sem] max2_int min2_int max_two min_two max_three min_three max_four min_four
set_option linter.unusedVariables false
set_option linter.unusedSimpArgs false
def errW:Option Int→Value
 | none => .nilIface
 | some c => .iface 167 (.int .i64 c)
theorem errW_none:errW none = .nilIface:=rfl
theorem errW_some (c:Int):errW (some c) = .iface 167 (.int .i64 c):=rfl
theorem info3:(Tryz.prog.info? 3).map (fun i=>(i.zero,i.size,i.bytes)) = some (some (.int .i64 0),1,8):=by kernel_rfl
theorem info5:(Tryz.prog.info? 5).map (fun i=>(i.zero,i.size,i.bytes)) = some (some (.int .u8 0),1,1):=by kernel_rfl
theorem info9:(Tryz.prog.info? 9).map (fun i=>(i.zero,i.size,i.bytes)) = some (some (.string ⟨#[]⟩),1,16):=by kernel_rfl
def rd_L1 (xs:List (List ByteArray)) (i:Int):(List ByteArray):=xs.getD i.toNat ([]:List ByteArray)
structure S23 where
 f0:Int
 f1:Int
 f2:Int
 f3:ByteArray
 f4:ByteArray
 f5:Int
 f6:Int
def z23:S23:=⟨(0:Int),(0:Int),(0:Int),(⟨#[]⟩:ByteArray),(⟨#[]⟩:ByteArray),(0:Int),(0:Int)⟩
def k23:Kd S23:=Kd.iso (Kd.pair (Kd.int .i64) (Kd.pair (Kd.int .i64) (Kd.pair (Kd.int .i64) (Kd.pair Kd.string (Kd.pair Kd.string (Kd.pair (Kd.int .i64) (Kd.int .i64))))))) (fun x:S23=>(x.f0,x.f1,x.f2,x.f3,x.f4,x.f5,x.f6))
theorem k23_open {w:World} {x:S23} {cs:List Value} (h:k23.K w x cs):cs = [.int .i64 x.f0,.int .i64 x.f1,.int .i64 x.f2,.string x.f3,.string x.f4,.int .i64 x.f5,.int .i64 x.f6]:=by
 obtain ⟨_,_,rfl,rfl,⟨_,_,rfl,rfl,⟨_,_,rfl,rfl,⟨_,_,rfl,rfl,⟨_,_,rfl,rfl,⟨_,_,rfl,rfl,rfl⟩⟩⟩⟩⟩⟩:=h
 exact rfl
theorem k23_mk (w:World) (x:S23)  : k23.K w x [.int .i64 x.f0,.int .i64 x.f1,.int .i64 x.f2,.string x.f3,.string x.f4,.int .i64 x.f5,.int .i64 x.f6]:=⟨[.int .i64 x.f0],[.int .i64 x.f1,.int .i64 x.f2,.string x.f3,.string x.f4,.int .i64 x.f5,.int .i64 x.f6],rfl,rfl,⟨[.int .i64 x.f1],[.int .i64 x.f2,.string x.f3,.string x.f4,.int .i64 x.f5,.int .i64 x.f6],rfl,rfl,⟨[.int .i64 x.f2],[.string x.f3,.string x.f4,.int .i64 x.f5,.int .i64 x.f6],rfl,rfl,⟨[.string x.f3],[.string x.f4,.int .i64 x.f5,.int .i64 x.f6],rfl,rfl,⟨[.string x.f4],[.int .i64 x.f5,.int .i64 x.f6],rfl,rfl,⟨[.int .i64 x.f5],[.int .i64 x.f6],rfl,rfl,rfl⟩⟩⟩⟩⟩⟩
def rd_T23 (xs:List S23) (i:Int):S23:=xs.getD i.toNat z23
def rd_L5 (xs:List (List Int)) (i:Int):(List Int):=xs.getD i.toNat ([]:List Int)
structure S26 where
 f0:ByteArray
 f1:Int
 f2:ByteArray
 f3:S23
 f4:(List Int)
def z26:S26:=⟨(⟨#[]⟩:ByteArray),(0:Int),(⟨#[]⟩:ByteArray),z23,([]:List Int)⟩
def k26:Kd S26:=Kd.iso (Kd.pair Kd.string (Kd.pair (Kd.int .i64) (Kd.pair Kd.string (Kd.pair k23 (Kd.slice 5 (Kd.int .u8)))))) (fun x:S26=>(x.f0,x.f1,x.f2,x.f3,x.f4))
theorem k26_open {w:World} {x:S26} {cs:List Value} (h:k26.K w x cs):∃ A10 c10,cs = [.string x.f0,.int .i64 x.f1,.string x.f2,.int .i64 x.f3.f0,.int .i64 x.f3.f1,.int .i64 x.f3.f2,.string x.f3.f3,.string x.f3.f4,.int .i64 x.f3.f5,.int .i64 x.f3.f6,.slice A10 x.f4.length c10]∧x.f4.length ≤ c10∧(Kd.int .u8).C w A10 x.f4.length x.f4:=by
 obtain ⟨_,_,rfl,rfl,⟨_,_,rfl,rfl,⟨_,_,rfl,rfl,⟨_,_,rfl,s3,⟨A10,c10,rfl,l10,g10⟩⟩⟩⟩⟩:=h
 obtain rfl:=k23_open s3
 exact ⟨A10,c10,rfl,l10,g10⟩
theorem k26_mk (w:World) (x:S26) {A10:Option Addr} {c10:Nat} (l10:x.f4.length ≤ c10) (g10:(Kd.int .u8).C w A10 x.f4.length x.f4):k26.K w x [.string x.f0,.int .i64 x.f1,.string x.f2,.int .i64 x.f3.f0,.int .i64 x.f3.f1,.int .i64 x.f3.f2,.string x.f3.f3,.string x.f3.f4,.int .i64 x.f3.f5,.int .i64 x.f3.f6,.slice A10 x.f4.length c10]:=⟨[.string x.f0],[.int .i64 x.f1,.string x.f2,.int .i64 x.f3.f0,.int .i64 x.f3.f1,.int .i64 x.f3.f2,.string x.f3.f3,.string x.f3.f4,.int .i64 x.f3.f5,.int .i64 x.f3.f6,.slice A10 x.f4.length c10],rfl,rfl,⟨[.int .i64 x.f1],[.string x.f2,.int .i64 x.f3.f0,.int .i64 x.f3.f1,.int .i64 x.f3.f2,.string x.f3.f3,.string x.f3.f4,.int .i64 x.f3.f5,.int .i64 x.f3.f6,.slice A10 x.f4.length c10],rfl,rfl,⟨[.string x.f2],[.int .i64 x.f3.f0,.int .i64 x.f3.f1,.int .i64 x.f3.f2,.string x.f3.f3,.string x.f3.f4,.int .i64 x.f3.f5,.int .i64 x.f3.f6,.slice A10 x.f4.length c10],rfl,rfl,⟨[.int .i64 x.f3.f0,.int .i64 x.f3.f1,.int .i64 x.f3.f2,.string x.f3.f3,.string x.f3.f4,.int .i64 x.f3.f5,.int .i64 x.f3.f6],[.slice A10 x.f4.length c10],rfl,(k23_mk w x.f3 ),⟨A10,c10,rfl,l10,g10⟩⟩⟩⟩⟩
def rd_T26 (xs:List S26) (i:Int):S26:=xs.getD i.toNat z26
theorem at_T26 {w:World} {A:Option Addr} {n:Nat} {xs:List S26} (h:Kd.C k26 w A n xs) (i:Int) (h0:0 ≤ i) (h1:i < n):∃ ad A10 c10,A = some ad∧w.cell? (ad.add (i.toNat * 11)) = some (.string (rd_T26 xs i).f0)∧w.cell? ⟨(ad.add (i.toNat * 11)).block,(ad.add (i.toNat * 11)).off + 1,none⟩ = some (.int .i64 (rd_T26 xs i).f1)∧w.cell? ⟨(ad.add (i.toNat * 11)).block,(ad.add (i.toNat * 11)).off + 2,none⟩ = some (.string (rd_T26 xs i).f2)∧w.cell? ⟨(ad.add (i.toNat * 11)).block,(ad.add (i.toNat * 11)).off + 3,none⟩ = some (.int .i64 (rd_T26 xs i).f3.f0)∧w.cell? ⟨(ad.add (i.toNat * 11)).block,(ad.add (i.toNat * 11)).off + 4,none⟩ = some (.int .i64 (rd_T26 xs i).f3.f1)∧w.cell? ⟨(ad.add (i.toNat * 11)).block,(ad.add (i.toNat * 11)).off + 5,none⟩ = some (.int .i64 (rd_T26 xs i).f3.f2)∧w.cell? ⟨(ad.add (i.toNat * 11)).block,(ad.add (i.toNat * 11)).off + 6,none⟩ = some (.string (rd_T26 xs i).f3.f3)∧w.cell? ⟨(ad.add (i.toNat * 11)).block,(ad.add (i.toNat * 11)).off + 7,none⟩ = some (.string (rd_T26 xs i).f3.f4)∧w.cell? ⟨(ad.add (i.toNat * 11)).block,(ad.add (i.toNat * 11)).off + 8,none⟩ = some (.int .i64 (rd_T26 xs i).f3.f5)∧w.cell? ⟨(ad.add (i.toNat * 11)).block,(ad.add (i.toNat * 11)).off + 9,none⟩ = some (.int .i64 (rd_T26 xs i).f3.f6)∧w.cell? ⟨(ad.add (i.toNat * 11)).block,(ad.add (i.toNat * 11)).off + 10,none⟩ = some (.slice A10 (rd_T26 xs i).f4.length c10)∧(rd_T26 xs i).f4.length ≤ c10∧(Kd.int .u8).C w A10 (rd_T26 xs i).f4.length (rd_T26 xs i).f4:=by
 obtain ⟨ad,c,e,_,hK,hc0⟩:=Kd.C_get h z26 i h0 h1
 have hc:∀ j u,c[j]? = some u→w.cell? (ad.add (i.toNat * 11 + j)) = some u:=hc0
 obtain ⟨A10,c10,rfl,l10,g10⟩:=k26_open hK
 exact ⟨ad,A10,c10,e,hc 0 _ rfl,by rw [← add_field _ _ 1 (by omega)];exact hc 1 _ rfl,by rw [← add_field _ _ 2 (by omega)];exact hc 2 _ rfl,by rw [← add_field _ _ 3 (by omega)];exact hc 3 _ rfl,by rw [← add_field _ _ 4 (by omega)];exact hc 4 _ rfl,by rw [← add_field _ _ 5 (by omega)];exact hc 5 _ rfl,by rw [← add_field _ _ 6 (by omega)];exact hc 6 _ rfl,by rw [← add_field _ _ 7 (by omega)];exact hc 7 _ rfl,by rw [← add_field _ _ 8 (by omega)];exact hc 8 _ rfl,by rw [← add_field _ _ 9 (by omega)];exact hc 9 _ rfl,by rw [← add_field _ _ 10 (by omega)];exact hc 10 _ rfl,l10,g10⟩
structure S55 where
 f0:ByteArray
 f1:ByteArray
 f2:ByteArray
 f3:Int
 f4:Int
 f5:Int
 f6:Int
 f7:Int
 f8:Int
 f9:ByteArray
 f10:ByteArray
def z55:S55:=⟨(⟨#[]⟩:ByteArray),(⟨#[]⟩:ByteArray),(⟨#[]⟩:ByteArray),(0:Int),(0:Int),(0:Int),(0:Int),(0:Int),(0:Int),(⟨#[]⟩:ByteArray),(⟨#[]⟩:ByteArray)⟩
def k55:Kd S55:=Kd.iso (Kd.pair Kd.string (Kd.pair Kd.string (Kd.pair Kd.string (Kd.pair (Kd.int .i64) (Kd.pair (Kd.int .i64) (Kd.pair (Kd.int .i64) (Kd.pair (Kd.int .i64) (Kd.pair (Kd.int .i64) (Kd.pair (Kd.int .u8) (Kd.pair Kd.string Kd.string)))))))))) (fun x:S55=>(x.f0,x.f1,x.f2,x.f3,x.f4,x.f5,x.f6,x.f7,x.f8,x.f9,x.f10))
def rd_T55 (xs:List S55) (i:Int):S55:=xs.getD i.toNat z55
structure S78 where
 f0:ByteArray
 f1:ByteArray
def z78:S78:=⟨(⟨#[]⟩:ByteArray),(⟨#[]⟩:ByteArray)⟩
def k78:Kd S78:=Kd.iso (Kd.pair Kd.string Kd.string) (fun x:S78=>(x.f0,x.f1))
theorem k78_open {w:World} {x:S78} {cs:List Value} (h:k78.K w x cs):cs = [.string x.f0,.string x.f1]:=by
 obtain ⟨_,_,rfl,rfl,rfl⟩:=h
 exact rfl
theorem k78_mkM (w:World) (base:Nat) (ok:Nat→Prop) (x:S78)  : k78.M w base ok x [.string x.f0,.string x.f1]:=⟨[.string x.f0],[.string x.f1],rfl,rfl,rfl⟩
def rd_T78 (xs:List S78) (i:Int):S78:=xs.getD i.toNat z78
theorem at_T78 {w:World} {A:Option Addr} {n:Nat} {xs:List S78} (h:Kd.C k78 w A n xs) (i:Int) (h0:0 ≤ i) (h1:i < n):∃ ad ,A = some ad∧w.cell? (ad.add (i.toNat * 2)) = some (.string (rd_T78 xs i).f0)∧w.cell? ⟨(ad.add (i.toNat * 2)).block,(ad.add (i.toNat * 2)).off + 1,none⟩ = some (.string (rd_T78 xs i).f1):=by
 obtain ⟨ad,c,e,_,hK,hc0⟩:=Kd.C_get h z78 i h0 h1
 have hc:∀ j u,c[j]? = some u→w.cell? (ad.add (i.toNat * 2 + j)) = some u:=hc0
 obtain rfl:=k78_open hK
 exact ⟨ad,e,hc 0 _ rfl,by rw [← add_field _ _ 1 (by omega)];exact hc 1 _ rfl⟩
def rd_L9 (xs:List (List S78)) (i:Int):(List S78):=xs.getD i.toNat ([]:List S78)
structure S58 where
 f0:S55
 f1:(List S78)
def z58:S58:=⟨z55,([]:List S78)⟩
def k58:Kd S58:=Kd.iso (Kd.pair k55 (Kd.slice 78 k78)) (fun x:S58=>(x.f0,x.f1))
def rd_T58 (xs:List S58) (i:Int):S58:=xs.getD i.toNat z58
def rd_L11 (xs:List (List S26)) (i:Int):(List S26):=xs.getD i.toNat ([]:List S26)
def rd_L12 (xs:List (List Int)) (i:Int):(List Int):=xs.getD i.toNat ([]:List Int)
def creellaw_sameBytes.f (l0:List Int) (l1:List Int):Option (Bool):=some ((strOfNums l0).toList == (strOfNums l1).toList)
set_option maxHeartbeats 8000000 in
set_option maxRecDepth 100000 in
theorem creellaw_sameBytes.calls (A0:Option Addr) (c0:Nat) (l0:List Int) (A1:Option Addr) (c1:Nat) (l1:List Int) (r:Bool) (w:World) (hr0:Kd.C (Kd.int .u8) w A0 l0.length l0) (hc0:l0.length ≤ c0) (hr1:Kd.C (Kd.int .u8) w A1 l1.length l1) (hc1:l1.length ≤ c1) (h:creellaw_sameBytes.f l0 l1 = some r) :
 Calls Tryz.prog 10 #[.slice A0 l0.length c0,.slice A1 l1.length c1] w fun e w'=>e = .returned (.bool r)∧Drawn0 w w':=by
 have HR0:=Aside0.mk hr0;have HC0:=Aside0.mk hc0;clear hr0 hc0;have HR1:=Aside0.mk hr1;have HC1:=Aside0.mk hc1;clear hr1 hc1;have H:(some ((strOfNums l0).toList == (strOfNums l1).toList)) = some r:=h;clear h;obtain rfl:=Option.some.inj H;have hcv3:=Kd.C_string (P:=Tryz.prog) (A:=A0) (c:=c0) Tryz.underlying24 Tryz.underlying5 Tryz.underlying9 HR0.out;have hcv4:=Kd.C_string (P:=Tryz.prog) (A:=A1) (c:=c1) Tryz.underlying24 Tryz.underlying5 Tryz.underlying9 HR1.out;go_enter Tryz.func10,Tryz.ntmps10;go_wp2;go_ret
 exact ⟨by first|rfl|(simp;done)|(simp [*];done),by repeat (first|exact Drawn0.refl _|apply Drawn0.step)⟩
theorem eqK23 (d:Nat) (w:World) (x0 y0:Int) (x1 y1:Int) (x2 y2:Int) (x3 y3:ByteArray) (x4 y4:ByteArray) (x5 y5:Int) (x6 y6:Int):(Op.equalIn (d + 2) 23 (.agg #[.int .i64 x0,.int .i64 x1,.int .i64 x2,.string x3,.string x4,.int .i64 x5,.int .i64 x6]) (.agg #[.int .i64 y0,.int .i64 y1,.int .i64 y2,.string y3,.string y4,.int .i64 y5,.int .i64 y6])).run Tryz.prog w = .ok (x0 == y0 && (x1 == y1 && (x2 == y2 && (x3.toList == y3.toList && (x4.toList == y4.toList && (x5 == y5 && (x6 == y6))))))) w:=by
 refine eqA_of Tryz.underlying23 (by kernel_rfl) ?_
 refine eqf_cons (by rfl) (by go_simp;rfl) (by go_simp;rfl) (by go_simp) ?_
 refine eqf_cons (by rfl) (by go_simp;rfl) (by go_simp;rfl) (by go_simp) ?_
 refine eqf_cons (by rfl) (by go_simp;rfl) (by go_simp;rfl) (by go_simp) ?_
 refine eqf_cons (by rfl) (by go_simp;rfl) (by go_simp;rfl) (by go_simp) ?_
 refine eqf_cons (by rfl) (by go_simp;rfl) (by go_simp;rfl) (by go_simp) ?_
 refine eqf_cons (by rfl) (by go_simp;rfl) (by go_simp;rfl) (by go_simp) ?_
 exact eqf_last (by rfl) (by go_simp;rfl) (by go_simp;rfl) (by go_simp)
theorem sz26:(Tryz.prog.info? 26).map (·.size) = some 11:=by kernel_rfl
theorem zero26 (w:World):(zeroValue 26).run Tryz.prog w = .ok (.agg #[.string (⟨#[]⟩:ByteArray),.int .i64 0,.string (⟨#[]⟩:ByteArray),.int .i64 0,.int .i64 0,.int .i64 0,.string (⟨#[]⟩:ByteArray),.string (⟨#[]⟩:ByteArray),.int .i64 0,.int .i64 0,.slice none 0 0]) w:=by kernel_rfl
theorem elem26 {w:World} {A:Option Addr} {l:List S26} (h:Kd.C k26 w A l.length l) (n:Nat) (hn:n < l.length):∃ ad A10 c10,A = some ad∧(∀ j v,([.string (rd_T26 l (n:Int)).f0,.int .i64 (rd_T26 l (n:Int)).f1,.string (rd_T26 l (n:Int)).f2,.int .i64 (rd_T26 l (n:Int)).f3.f0,.int .i64 (rd_T26 l (n:Int)).f3.f1,.int .i64 (rd_T26 l (n:Int)).f3.f2,.string (rd_T26 l (n:Int)).f3.f3,.string (rd_T26 l (n:Int)).f3.f4,.int .i64 (rd_T26 l (n:Int)).f3.f5,.int .i64 (rd_T26 l (n:Int)).f3.f6,.slice A10 (rd_T26 l (n:Int)).f4.length c10]:List Value)[j]? = some v→w.cell? ((ad.add (n * 11)).add j) = some v)∧(rd_T26 l (n:Int)).f4.length ≤ c10∧(Kd.int .u8).C w A10 (rd_T26 l (n:Int)).f4.length (rd_T26 l (n:Int)).f4:=by
 obtain ⟨ad,c,e,_,hK,hc0⟩:=Kd.C_get h z26 (n:Int) (Int.natCast_nonneg _) (by omega)
 obtain ⟨A10,c10,rfl,l10,g10⟩:=k26_open hK
 refine ⟨ad,A10,c10,e,fun j v hv=>?_,l10,g10⟩
 have:=hc0 j v hv
 rw [Int.toNat_natCast] at this
 rw [← this]
 congr 1
 show (ad.add (n * 11)).add j = ad.add (n * 11 + j)
 exact Go.Proofs.YtenbelecmmpdgaaGreatDoorW.MapOwn.add_add ad (n * 11) j
end Go.Proofs.YtenbelecmmpdgaaGreatDoor.All
end
