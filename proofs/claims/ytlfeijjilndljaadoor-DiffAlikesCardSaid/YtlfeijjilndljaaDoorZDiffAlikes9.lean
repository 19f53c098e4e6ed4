/- Made by programs of the prover: walks of Go functions, the words that they use, and plain laws, each text in a section of its own; no condition of its own. -/
import Derived.Lib.Bytealg
import Derived.Lib.IndexAny
import Derived.Lib.IndexLaws
import Derived.Test.YtlfeijjilndljaaDoorZDiffAlikes1
import Derived.Test.YtlfeijjilndljaaDoorZDiffAlikes2
import Derived.Test.YtlfeijjilndljaaDoorZDiffAlikes3
import Derived.Test.YtlfeijjilndljaaDoorZDiffAlikes4
import Derived.Test.YtlfeijjilndljaaDoorZDiffAlikes5
import Derived.Test.YtlfeijjilndljaaDoorZDiffAlikes6
import Derived.Test.YtlfeijjilndljaaDoorZDiffAlikes7
import Derived.Test.YtlfeijjilndljaaDoorZDiffAlikes8
section
namespace Go.Proofs.YtlfeijjilndljaaDoor.GDiffAlikes
open Go.RowKit Go.Proofs.YtlfeijjilndljaaDoor.All Go.Proofs.YtlfeijjilndljaaDoorW.PrintWords Go.Proofs.YtlfeijjilndljaaDoorW.PrintLast Go.Proofs.YtlfeijjilndljaaDoorW.Opens
set_option linter.unusedVariables false
def good32 (x:S32):Prop:=((Lit.int .i64 x.f0).wf = true)∧((Lit.int .i64 x.f1).wf = true)∧((Lit.int .i64 x.f2).wf = true)∧(x.f3.size ≤ 140737488351232)∧(x.f4.size ≤ 140737488351232)∧((Lit.int .i64 x.f5).wf = true)∧((Lit.int .i64 x.f6).wf = true)
theorem opens32:Opens Tryd.prog 32 k32 good32:=opens_iso (f:=(fun x:S32=>(x.f0,x.f1,x.f2,x.f3,x.f4,x.f5,x.f6))) (fun p=>⟨p.1,p.2.1,p.2.2.1,p.2.2.2.1,p.2.2.2.2.1,p.2.2.2.2.2.1,p.2.2.2.2.2.2⟩) (fun _=>rfl) (opens_struct Tryd.underlying32 (by kernel_rfl) (opensF_cons (off2:=1) rfl (by kernel_rfl) (opens_int Tryd.underlying3) rfl (opensF_cons (off2:=2) rfl (by kernel_rfl) (opens_int Tryd.underlying3) rfl (opensF_cons (off2:=3) rfl (by kernel_rfl) (opens_int Tryd.underlying3) rfl (opensF_cons (off2:=4) rfl (by kernel_rfl) (opens_string Tryd.underlying9) rfl (opensF_cons (off2:=5) rfl (by kernel_rfl) (opens_string Tryd.underlying9) rfl (opensF_cons (off2:=6) rfl (by kernel_rfl) (opens_int Tryd.underlying3) rfl (opensF_one rfl (by kernel_rfl) (opens_int Tryd.underlying3)))))))))
def good56 (x:S56):Prop:=(x.f0.size ≤ 140737488351232)∧((Lit.int .i64 x.f1).wf = true)∧((Lit.int .i64 x.f2).wf = true)∧(x.f3.size ≤ 140737488351232)∧(good32 x.f4)∧(x.f5.length * 1 ≤ 140737488351232∧∀ y ∈ x.f5,(Lit.int .u8 y).wf = true)
theorem opens56:Opens Tryd.prog 56 k56 good56:=opens_iso (f:=(fun x:S56=>(x.f0,x.f1,x.f2,x.f3,x.f4,x.f5))) (fun p=>⟨p.1,p.2.1,p.2.2.1,p.2.2.2.1,p.2.2.2.2.1,p.2.2.2.2.2⟩) (fun _=>rfl) (opens_struct Tryd.underlying56 (by kernel_rfl) (opensF_cons (off2:=1) rfl (by kernel_rfl) (opens_string Tryd.underlying9) rfl (opensF_cons (off2:=2) rfl (by kernel_rfl) (opens_int Tryd.underlying3) rfl (opensF_cons (off2:=3) rfl (by kernel_rfl) (opens_int Tryd.underlying3) rfl (opensF_cons (off2:=4) rfl (by kernel_rfl) (opens_string Tryd.underlying9) rfl (opensF_cons (off2:=11) rfl (by kernel_rfl) opens32 rfl (opensF_one rfl (by kernel_rfl) (opens_slice (B:=1) Tryd.underlying33 (by kernel_rfl) (by kernel_rfl) (opens_int Tryd.underlying5)))))))))
def Pure:Prop:=∀ (l0:List S56) (l1:List S56),(l0.length * 144 ≤ 140737488351232∧∀ y ∈ l0,good56 y)→(l1.length * 144 ≤ 140737488351232∧∀ y ∈ l1,good56 y)→∃ k,creellaw_DiffAlikes.f k l0 l1 = some true
theorem walk (P:Pure) (l0:List S56) (l1:List S56) (w:World) (g0:l0.length * 144 ≤ 140737488351232∧∀ y ∈ l0,good56 y) (g1:l1.length * 144 ≤ 140737488351232∧∀ y ∈ l1,good56 y) {A0:Option Addr} {c0:Nat} (r0:Kd.C k56 w A0 l0.length l0) (hc0:l0.length ≤ c0) {A1:Option Addr} {c1:Nat} (r1:Kd.C k56 w A1 l1.length l1) (hc1:l1.length ≤ c1) :
 Calls Tryd.prog 9 #[.slice A0 l0.length c0,.slice A1 l1.length c1] w fun e w'=>e = .returned (.bool true)∧Below w.heap.size w w':=by
 obtain ⟨k,h⟩:=P l0 l1 g0 g1;refine (creellaw_DiffAlikes.calls k A0 c0 l0 A1 c1 l1 true w r0 hc0 r1 hc1 h).mono ?_;rintro e w' ⟨rfl,hd⟩;exact ⟨rfl,hd⟩
end Go.Proofs.YtlfeijjilndljaaDoor.GDiffAlikes
end
section
namespace Go.Proofs.YtlfeijjilndljaaDoorW.PureBase
open Go.RowKit Go.Proofs.YtlfeijjilndljaaDoorW.PrintWords
theorem wrap_is {x:Int} (h0:-9223372036854775808 ≤ x) (h:x ≤ 9223372036854775807):wrap64 x = x:=by unfold wrap64;omega
theorem toList_data (s:ByteArray):s.toList = s.data.toList:=ByteArray.toList_eq s
theorem bt_get (s:ByteArray) (i:Nat) (h:i < s.size):bt s i = ((s.data.toList[i]'(by simpa using h)).toNat:Int):=by
  unfold bt
  rw [dif_pos (by simpa using h)]
  simp
  rfl
theorem bt_eq_iff (s:ByteArray) (i:Nat) (h:i < s.size) (c:Int) (c0:0 ≤ c) (c1:c ≤ 255):bt s i = c ↔ s.data.toList[i]? = some c.toNat.toUInt8:=by
  rw [bt_get s i h,List.getElem?_eq_getElem (by simpa using h)]
  simp only [Option.some.injEq]
  constructor
  · intro e
    rw [← e]
    simp
  · intro e
    rw [e]
    simp
    omega
theorem size_list (s:ByteArray):s.data.toList.length = s.size:=by simp
theorem of_list (s:ByteArray):(⟨s.data.toList.toArray⟩:ByteArray) = s:=by simp
theorem ext_list {s t:ByteArray} (h:s.data.toList = t.data.toList):s = t:=by
  rw [← of_list s,← of_list t,h]
theorem toList_inj {s t:ByteArray} (h:s.toList = t.toList):s = t:=by
  rw [toList_data,toList_data] at h
  exact ext_list h
theorem mem_bt (s:ByteArray) (c:Int) (c0:0 ≤ c) (c1:c ≤ 255):(∃ j:Int,0 ≤ j∧j < s.size∧bt s j = c) ↔ s.data.toList.contains c.toNat.toUInt8 = true:=by
  rw [List.contains_iff_mem]
  constructor
  · rintro ⟨j,h0,h1,h2⟩
    obtain ⟨i,rfl⟩:=Int.eq_ofNat_of_zero_le h0
    have:=(bt_eq_iff s i (by omega) c c0 c1).1 h2
    exact List.mem_of_getElem? this
  · intro h
    obtain ⟨i,hi,he⟩:=List.mem_iff_getElem.1 h
    have hs:i < s.size:=by simpa using hi
    refine ⟨i,by omega,by omega,?_⟩
    rw [bt_eq_iff s i hs c c0 c1,List.getElem?_eq_getElem hi,he]
theorem index_ge (l:List UInt8) (c:UInt8):decide (Lib.indexByte l c ≥ 0) = l.contains c:=by
  rw [Lib.contains_iff_indexByte]
theorem Ev.from_ {α:Type} {g:Nat→Option α} {r:α} (K:Nat) (h:∀ k,K ≤ k→g k = some r):Ev g r:=⟨K,h⟩
theorem Ev.const {α:Type} {o:Option α} {r:α} (h:o = some r):Ev (fun _=>o) r:=⟨0,fun _ _=>h⟩
theorem Ev.ifp {α:Type} {c:Prop} [Decidable c] {g f:Nat→Option α} {r:α} (hc:c) (h:Ev g r):Ev (fun k=>if c then g k else f k) r:=by
  obtain ⟨K,hk⟩:=h
  exact ⟨K,fun k h=>(if_pos hc).trans (hk k h)⟩
theorem Ev.ifn {α:Type} {c:Prop} [Decidable c] {g f:Nat→Option α} {r:α} (hc:¬ c) (h:Ev f r):Ev (fun k=>if c then g k else f k) r:=by
  obtain ⟨K,hk⟩:=h
  exact ⟨K,fun k h=>(if_neg hc).trans (hk k h)⟩
end Go.Proofs.YtlfeijjilndljaaDoorW.PureBase
end
section
namespace Go.Proofs.YtlfeijjilndljaaDoor.All
open Go.RowKit Go.Proofs.YtlfeijjilndljaaDoorW.PrintWords Go.Proofs.YtlfeijjilndljaaDoorW.PrintLast Go.Proofs.YtlfeijjilndljaaDoorW.PrintMore
open Go.Proofs.YtlfeijjilndljaaDoorW.Mine
attribute [local go_sem] gtr_string leq_string geq_string
attribute [local go_sem] max2_int min2_int max_two min_two max_three min_three max_four min_four
set_option linter.unusedVariables false
set_option linter.unusedSimpArgs false
def creellaw_sameBytes.f (l0:List Int) (l1:List Int):Option (Bool):=some ((strOfNums l0).toList == (strOfNums l1).toList)
end Go.Proofs.YtlfeijjilndljaaDoor.All
end
section
namespace Go.Proofs.YtlfeijjilndljaaDoor.All
open Go.RowKit Go.Proofs.YtlfeijjilndljaaDoorW.PrintWords Go.Proofs.YtlfeijjilndljaaDoorW.PrintLast Go.Proofs.YtlfeijjilndljaaDoorW.PrintMore
open Go.Proofs.YtlfeijjilndljaaDoorW.Mine
attribute [local go_sem] gtr_string leq_string geq_string
attribute [local go_sem] max2_int min2_int max_two min_two max_three min_three max_four min_four
set_option linter.unusedVariables false
set_option linter.unusedSimpArgs false
attribute [local go_sem high] eqA32
def creellaw_sameNode.f (a0_0:ByteArray) (a0_1:Int) (a0_2:Int) (a0_3:ByteArray) (a0_4:Int) (a0_5:Int) (a0_6:Int) (a0_7:ByteArray) (a0_8:ByteArray) (a0_9:Int) (a0_10:Int) (l0_11:List Int) (a1_0:ByteArray) (a1_1:Int) (a1_2:Int) (a1_3:ByteArray) (a1_4:Int) (a1_5:Int) (a1_6:Int) (a1_7:ByteArray) (a1_8:ByteArray) (a1_9:Int) (a1_10:Int) (l1_11:List Int):Option (Bool):=if a0_0.toList = a1_0.toList then (if a0_1 = a1_1 then (if a0_2 = a1_2 then (if a0_3.toList = a1_3.toList then (if (a0_4 == a1_4 && (a0_5 == a1_5 && (a0_6 == a1_6 && (a0_7.toList == a1_7.toList && (a0_8.toList == a1_8.toList && (a0_9 == a1_9 && (a0_10 == a1_10))))))) = true then ((creellaw_sameBytes.f l0_11 l1_11).bind fun t103=>(some t103)) else (some false)) else (some false)) else (some false)) else (some false)) else (some false)
end Go.Proofs.YtlfeijjilndljaaDoor.All
end
section
namespace Go.Proofs.YtlfeijjilndljaaDoor.All
open Go.RowKit Go.Proofs.YtlfeijjilndljaaDoorW.PrintWords Go.Proofs.YtlfeijjilndljaaDoorW.PrintLast Go.Proofs.YtlfeijjilndljaaDoorW.PrintMore
open Go.Proofs.YtlfeijjilndljaaDoorW.Mine
attribute [local go_sem] gtr_string leq_string geq_string
attribute [local go_sem] max2_int min2_int max_two min_two max_three min_three max_four min_four
set_option linter.unusedVariables false
set_option linter.unusedSimpArgs false
open Go.Proofs.YtlfeijjilndljaaDoorW.MapOwn
def creellaw_sameTree.eq (x y:S56):Option Bool:=creellaw_sameNode.f (x).f0 (x).f1 (x).f2 (x).f3 (x).f4.f0 (x).f4.f1 (x).f4.f2 (x).f4.f3 (x).f4.f4 (x).f4.f5 (x).f4.f6 (x).f5 (y).f0 (y).f1 (y).f2 (y).f3 (y).f4.f0 (y).f4.f1 (y).f4.f2 (y).f4.f3 (y).f4.f4 (y).f4.f5 (y).f4.f6 (y).f5
def creellaw_sameTree.l0:List S56→List S56→Option Bool
 | [],[]=>some true
 | x :: xs,y :: ys=>(creellaw_sameTree.eq x y).bind fun b=>if b = true then creellaw_sameTree.l0 xs ys else some false
 | _,_=>none
def creellaw_sameTree.f (l0 l1:List S56):Option Bool:=if l0.length = l1.length then (if l0.length ≤ 140737488351232 then creellaw_sameTree.l0 l0 l1 else none) else some false
end Go.Proofs.YtlfeijjilndljaaDoor.All
end
section
namespace Go.Proofs.YtlfeijjilndljaaDoor.Q
set_option linter.unusedVariables false
set_option linter.unusedSimpArgs false
open Go.RowKit Go.Proofs.YtlfeijjilndljaaDoor.All Go.Proofs.YtlfeijjilndljaaDoorW.PrintWords Go.Proofs.YtlfeijjilndljaaDoorW.PrintLast Go.Proofs.YtlfeijjilndljaaDoorW.PrintMore Go.Proofs.YtlfeijjilndljaaDoorW.PureBase
theorem has_from (s:ByteArray) (c:Int) (hb:s.size ≤ 140737488351232) (d:Nat):∀ (k:Nat) (i:Int),0 ≤ i→i ≤ s.size→(s.size:Int) - i = d→d < k →
    ∃ b,creelref_has.l0 k s c i = some b∧(b = true ↔ ∃ j:Int,i ≤ j∧j < s.size∧bt s j = c):=by
  induction d with
  | zero =>
    intro k i h0 h1 hd hk
    obtain ⟨k,rfl⟩:∃ m,k = m + 1:=⟨k - 1,by omega⟩
    refine ⟨false,?_,?_⟩
    · simp only [creelref_has.l0];rw [if_neg (by omega)]
    · constructor
      · intro h;cases h
      · rintro ⟨j,h1,h2,_⟩;omega
  | succ d ih =>
    intro k i h0 h1 hd hk
    obtain ⟨k,rfl⟩:∃ m,k = m + 1:=⟨k - 1,by omega⟩
    have hlt:i < (s.size:Int):=by omega
    have hw:wrap64 (i + 1) = i + 1:=by unfold wrap64;omega
    by_cases e:bt s i = c
    · refine ⟨true,?_,?_⟩
      · simp only [creelref_has.l0];rw [if_pos hlt,if_pos h0,if_pos e]
      · exact ⟨fun _=>⟨i,by omega,hlt,e⟩,fun _=>rfl⟩
    · obtain ⟨b,hb1,hb2⟩:=ih k (i + 1) (by omega) (by omega) (by omega) (by omega)
      refine ⟨b,?_,?_⟩
      · simp only [creelref_has.l0];rw [if_pos hlt,if_pos h0,hw,if_neg e];exact hb1
      · rw [hb2]
        constructor
        · rintro ⟨j,h1,h2,h3⟩;exact ⟨j,by omega,h2,h3⟩
        · rintro ⟨j,h1,h2,h3⟩
          have:j ≠ i:=by rintro rfl;exact e h3
          exact ⟨j,by omega,h2,h3⟩
theorem has_ev (s:ByteArray) (c:Int) (c0:0 ≤ c) (c1:c ≤ 255) (hb:s.size ≤ 140737488351232):Ev (fun k=>creelref_has.f k s c) (s.data.toList.contains c.toNat.toUInt8):=by
  refine ⟨s.size + 1,fun k hk=>?_⟩
  obtain ⟨b,h1,h2⟩:=has_from s c hb s.size k 0 (by omega) (by omega) (by omega) (by omega)
  show creelref_has.l0 k s c 0 = _
  rw [h1]
  congr 1
  rw [Bool.eq_iff_iff,h2]
  exact mem_bt s c c0 c1
def sp (c:UInt8):List UInt8→List (List UInt8)
  | []=>[[]]
  | b :: l=>if b = c then [] :: sp c l else match sp c l with
    | p :: ps=>(b :: p) :: ps
    | []=>[[b]]
theorem sp_ne (c:UInt8) (l:List UInt8):sp c l ≠ []:=by
  cases l with
  | nil=>simp [sp]
  | cons b l =>
    simp only [sp]
    split
    · simp
    · split <;> simp
theorem sp_go (c:UInt8):∀ (l p:List UInt8),c ∉ p→sp c (p ++ l) = (match sp c l with|q :: qs=>(p ++ q) :: qs|[]=>[p])
  | l,[],_=>by
    cases h:sp c l with
    | nil=>exact absurd h (sp_ne c l)
    | cons q qs=>simp [h]
  | l,a :: p,hp=>by
    have ha:¬ a = c:=fun e=>hp (by simp [e])
    have ih:=sp_go c l p (fun h=>hp (List.mem_cons_of_mem _ h))
    simp only [List.cons_append,sp]
    rw [if_neg ha,ih]
    cases h:sp c l with
    | nil=>exact absurd h (sp_ne c l)
    | cons q qs=>simp
theorem sp_cut (c:UInt8) (p l:List UInt8) (hp:c ∉ p):sp c (p ++ c :: l) = p :: sp c l:=by
  rw [sp_go c (c :: l) p hp]
  simp [sp]
theorem sp_whole (c:UInt8) (p:List UInt8) (hp:c ∉ p):sp c p = [p]:=by
  have:=sp_go c [] p hp
  simpa [sp] using this
theorem sp_len_le (c:UInt8) (l:List UInt8):(sp c l).length ≤ l.length + 1:=by
  induction l with
  | nil=>simp [sp]
  | cons b l ih =>
    simp only [sp]
    split
    · simp;omega
    · split
      · rename_i h;rw [h] at ih;simp at ih ⊢;omega
      · simp
def mk (l:List UInt8):ByteArray:=⟨l.toArray⟩
theorem mk_data (l:List UInt8):(mk l).data.toList = l:=rfl
theorem mk_of (s:ByteArray):mk s.data.toList = s:=of_list s
theorem mk_size (l:List UInt8):(mk l).size = l.length:=rfl
def pp (s:ByteArray):List ByteArray:=(sp 47 s.data.toList).map mk
theorem index_one_none {l:List UInt8} {c:UInt8} (h:Lib.index l [c] = -1):c ∉ l:=by
  rw [Lib.index_one] at h
  intro hm
  obtain ⟨i,hi,he⟩:=List.mem_iff_getElem.1 hm
  exact Lib.indexByte_none h i (by rw [List.getElem?_eq_getElem hi,he])
theorem index_one_some {l:List UInt8} {c:UInt8} {o:Nat} (h:Lib.index l [c] = (o:Int)):o < l.length∧c ∉ l.take o∧l = l.take o ++ c :: l.drop (o + 1):=by
  rw [Lib.index_one] at h
  obtain ⟨h1,h2⟩:=Lib.indexByte_some h
  have hlt:=(List.getElem?_eq_some_iff.1 h1).1
  have he:=(List.getElem?_eq_some_iff.1 h1).2
  refine ⟨hlt,?_,?_⟩
  · intro hm
    obtain ⟨i,hi,hie⟩:=List.mem_iff_getElem.1 hm
    rw [List.length_take] at hi
    rw [List.getElem_take] at hie
    exact h2 i (by omega) (by rw [List.getElem?_eq_getElem (by omega),hie])
  · conv=>lhs;rw [← List.take_append_drop o l]
    rw [List.drop_eq_getElem_cons hlt,he]
theorem split_sp (c:UInt8):∀ (k:Nat) (l:List UInt8),Lib.count l [c] ≤ k→Lib.splitK [c] 0 k l = sp c l
  | 0,l,h=>by
    rw [Lib.count_one] at h
    have:c ∉ l:=by
      intro hm
      have:=List.count_pos_iff.2 hm
      omega
    rw [sp_whole c l this];rfl
  | k + 1,l,h=>by
    unfold Lib.splitK
    by_cases hi:Lib.index l [c] = -1
    · rw [if_pos (by simpa using hi),sp_whole c l (index_one_none hi)]
    · rw [if_neg (by simpa using hi)]
      have hge:=Lib.indexByte_ge l c
      rw [← Lib.index_one] at hge
      obtain ⟨o,ho⟩:=Int.eq_ofNat_of_zero_le (show 0 ≤ Lib.index l [c] by omega)
      obtain ⟨h1,h2,h3⟩:=index_one_some ho
      rw [ho]
      simp only [Int.toNat_natCast,Nat.add_zero,List.length_singleton]
      have hc:Lib.count (l.drop (o + 1)) [c] ≤ k:=by
        rw [Lib.count_one] at h ⊢
        rw [h3,List.count_append,List.count_cons_self] at h
        omega
      rw [split_sp c k _ hc]
      conv=>rhs;rw [h3]
      rw [sp_cut c _ _ h2]
theorem split_is (s:ByteArray) (hs:s.size < 4294967281):strings_Split.f s ⟨#[47]⟩ = some (pp s):=by
  unfold strings_Split.f
  simp only
  rw [if_pos hs]
  congr 1
  have h:=Lib.splitB_data ⟨#[47]⟩ 0 (Lib.countB s ⟨#[47]⟩) s
  rw [show (⟨#[47]⟩:ByteArray).data.toList = [47] from rfl,split_sp 47 _ _ (Nat.le_refl _)] at h
  unfold pp
  rw [← h,List.map_map]
  conv=>lhs;rw [← List.map_id (Lib.splitB ⟨#[47]⟩ 0 (Lib.countB s ⟨#[47]⟩) s)]
  apply List.map_congr_left
  intro x _
  exact (mk_of x).symm
theorem drop_cons (s:ByteArray) (i:Nat) (h:i < s.size):∃ b:UInt8,s.data.toList.drop i = b :: s.data.toList.drop (i + 1)∧(b.toNat:Int) = bt s (i:Int)∧s.extract i (i + 1) = mk [b]:=by
  have hl:i < s.data.toList.length:=by rw [size_list];exact h
  refine ⟨s.data.toList[i],List.drop_eq_getElem_cons hl,(bt_get s i h).symm,?_⟩
  apply ext_list
  rw [Lib.extract_data,List.drop_eq_getElem_cons hl,show i + 1 - i = 1 from by omega]
  rfl
theorem byte_eq (b:UInt8) (c:Int) (h:(b.toNat:Int) = c) (n:UInt8):c = (n.toNat:Int) ↔ b = n:=by
  rw [← h]
  constructor
  · intro e
    apply UInt8.toNat_inj.1
    omega
  · intro e
    rw [e]
theorem parts_loop (s:ByteArray) (d:Nat):∀ (k i:Nat) (done:List ByteArray) (cur:List UInt8),s.size - i = d→i ≤ s.size→d < k→done.length + d < 8796093022207→cur.length + d ≤ 4611686018427387904→s.size ≤ 4611686018427387904 →
    creelref_parts.l0 k s 47 (done ++ [mk cur]) (i:Int) = some (done ++ (match sp 47 (s.data.toList.drop i) with|q :: qs=>mk (cur ++ q) :: qs.map mk|[]=>[mk cur])):=by
  induction d with
  | zero =>
    intro k i done cur hd hi hk hn hc hs
    obtain ⟨k,rfl⟩:∃ m,k = m + 1:=⟨k - 1,by omega⟩
    simp only [creelref_parts.l0]
    rw [if_neg (by omega),List.drop_eq_nil_of_le (by rw [size_list];omega)]
    simp [sp]
  | succ d ih =>
    intro k i done cur hd hi hk hn hc hs
    obtain ⟨k,rfl⟩:∃ m,k = m + 1:=⟨k - 1,by omega⟩
    have hlt:i < s.size:=by omega
    obtain ⟨b,h1,h2,h3⟩:=drop_cons s i hlt
    have hw:wrap64 ((i:Int) + 1) = ((i + 1:Nat):Int):=by rw [wrap_is (by omega) (by omega)];omega
    have hlen:(done ++ [mk cur]).length = done.length + 1:=by simp
    simp only [creelref_parts.l0]
    rw [if_pos (by omega),if_pos (show (0:Int) ≤ i by omega),h1,hw,hlen]
    simp only [sp]
    have h47:bt s (i:Int) = 47 ↔ b = 47:=byte_eq b _ h2 47
    by_cases e:b = 47
    · rw [if_pos (h47.2 e),if_pos (by omega),if_pos e]
      have:=ih k (i + 1) (done ++ [mk cur]) [] (by omega) (by omega) (by omega) (by simp only [List.length_append,List.length_singleton];omega) (by simp only [List.length_nil];omega) hs
      rw [show (⟨#[]⟩:ByteArray) = mk [] from rfl,this]
      cases hsp:sp 47 (s.data.toList.drop (i + 1)) with
      | nil=>exact absurd hsp (sp_ne _ _)
      | cons q qs=>simp
    · have hne:¬ bt s (i:Int) = 47:=fun h=>e (h47.1 h)
      have hw2:wrap64 (((done.length + 1:Nat):Int) - 1) = (done.length:Int):=by rw [wrap_is (by omega) (by omega)];omega
      have hrd:rdOf ByteArray.empty (done ++ [mk cur]) (done.length:Int) = mk cur:=by
        unfold rdOf
        rw [Int.toNat_natCast,List.getD_eq_getElem?_getD,List.getElem?_append_right (Nat.le_refl _),Nat.sub_self];rfl
      have hex:s.extract ((i:Int)).toNat (((i + 1:Nat):Int)).toNat = mk [b]:=by rw [Int.toNat_natCast,Int.toNat_natCast,h3]
      have happ:mk cur ++ mk [b] = mk (cur ++ [b]):=by apply ext_list;simp [mk]
      have hset:(done ++ [mk cur]).set done.length (mk (cur ++ [b])) = done ++ [mk (cur ++ [b])]:=by
        rw [List.set_append_right _ _ (Nat.le_refl _),Nat.sub_self];rfl
      rw [if_neg hne,hw2,hrd,hex,if_pos (by omega),if_pos (by omega),if_pos (by omega),if_pos (by omega),if_pos (by rw [mk_size,mk_size];simp only [List.length_singleton];omega),happ,Int.toNat_natCast,hset,if_neg e]
      rw [ih k (i + 1) done (cur ++ [b]) (by omega) (by omega) (by omega) (by omega) (by simp only [List.length_append,List.length_singleton];omega) hs]
      cases hsp:sp 47 (s.data.toList.drop (i + 1)) with
      | nil=>exact absurd hsp (sp_ne _ _)
      | cons q qs=>simp
theorem parts_is (s:ByteArray) (k:Nat) (hs:s.size ≤ 4294967296) (hk:s.size < k):creelref_parts.f k s 47 = some (pp s):=by
  unfold creelref_parts.f
  have:=parts_loop s s.size k 0 [] [] (by omega) (by omega) hk (by simp only [List.length_nil];omega) (by simp only [List.length_nil];omega) (by omega)
  rw [show ([(⟨#[]⟩:ByteArray)]:List ByteArray) = [] ++ [mk []] from rfl]
  rw [show ((0:Nat):Int) = 0 from rfl] at this
  rw [this]
  unfold pp
  rw [List.drop_zero]
  cases hsp:sp 47 s.data.toList with
  | nil=>exact absurd hsp (sp_ne _ _)
  | cons q qs=>simp
theorem pp_len (s:ByteArray):(pp s).length ≤ s.size + 1:=by
  unfold pp
  rw [List.length_map]
  have:=sp_len_le 47 s.data.toList
  rw [size_list] at this
  exact this
def bad (p:ByteArray):Bool:=decide (p.toList = []) || decide (p.toList = [46]) || decide (p.toList = [46,46])
def pathR (s:ByteArray):Int:=if s.size < 1 ∨ 400 < s.size then 1 else if s.data.toList.contains 0 = true then 3 else if (pp s).any bad = true then 9 else 0
theorem check_loop (l:List ByteArray) (hl:l.length ≤ 4294967297) (d:Nat):∀ (k i:Nat),l.length - i = d→i ≤ l.length→d < k →
    path_Check.l0 k l (l.length:Int) (i:Int) = some (if (l.drop i).any bad = true then 9 else 0)∧creelref_PathFault.l0 k l (l.length:Int) (i:Int) = some (if (l.drop i).any bad = true then 9 else 0):=by
  induction d with
  | zero =>
    intro k i hd hi hk
    obtain ⟨k,rfl⟩:∃ m,k = m + 1:=⟨k - 1,by omega⟩
    simp only [path_Check.l0,creelref_PathFault.l0]
    have hge:¬ (i:Int) < l.length:=by omega
    rw [if_neg hge,if_neg hge,List.drop_eq_nil_of_le (by omega)]
    simp
  | succ d ih =>
    intro k i hd hi hk
    obtain ⟨k,rfl⟩:∃ m,k = m + 1:=⟨k - 1,by omega⟩
    have hlt:i < l.length:=by omega
    have hw:wrap64 ((i:Int) + 1) = ((i + 1:Nat):Int):=by rw [wrap_is (by omega) (by omega)];omega
    have hrd:rdOf ByteArray.empty l (i:Int) = l[i]:=by
      unfold rdOf
      rw [Int.toNat_natCast,List.getD_eq_getElem?_getD,List.getElem?_eq_getElem hlt];rfl
    obtain ⟨h1,h2⟩:=ih k (i + 1) (by omega) (by omega) (by omega)
    simp only [path_Check.l0,creelref_PathFault.l0]
    rw [hw,hrd,h1,h2,List.drop_eq_getElem_cons hlt,List.any_cons]
    generalize l[i] = p
    have c1:(i:Int) < l.length:=by omega
    have c2:(0:Int) ≤ i:=by omega
    simp only [if_pos c1,if_pos c2]
    unfold bad
    by_cases e1:p.toList = []
    · simp [e1]
    · by_cases e2:p.toList = [46]
      · simp [e2]
      · by_cases e3:p.toList = [46,46]
        · simp [e3]
        · simp [e1,e2,e3]
theorem empty_size (s:ByteArray):s.toList = ([]:List UInt8) ↔ s.size = 0:=by
  rw [toList_data,← size_list]
  exact List.length_eq_zero_iff.symm
theorem path_same (s:ByteArray) (hs:s.size ≤ 140737488351232):Ev (fun k=>path_Check.f k s) (pathR s)∧Ev (fun k=>creelref_PathFault.f k s) (pathR s):=by
  obtain ⟨K,hK⟩:=has_ev s 0 (by omega) (by omega) hs
  replace hK:∀ k,K ≤ k→creelref_has.f k s 0 = some (s.data.toList.contains 0):=hK
  have hi:(Lib.indexByte s.data.toList ((0:Int).toNat.toUInt8) ≥ 0) ↔ s.data.toList.contains 0 = true:=by
    have:=index_ge s.data.toList ((0:Int).toNat.toUInt8)
    rw [← decide_eq_true_iff (p:=Lib.indexByte s.data.toList ((0:Int).toNat.toUInt8) ≥ 0),this];rfl
  by_cases c:s.size < 1 ∨ 400 < s.size
  · have e:pathR s = 1:=by unfold pathR;rw [if_pos c]
    rw [e]
    refine ⟨⟨1,fun k hk=>?_⟩,⟨1,fun k hk=>?_⟩⟩
    · obtain ⟨k,rfl⟩:∃ m,k = m + 1:=⟨k - 1,by omega⟩
      show path_Check.f (k + 1) s = _
      unfold path_Check.f
      by_cases h:(s.size:Int) < 1
      · rw [if_pos h];simp [path_Check.j0]
      · rw [if_neg h,decide_eq_true (show (s.size:Int) > 400 by omega)];simp [path_Check.j0]
    · obtain ⟨k,rfl⟩:∃ m,k = m + 1:=⟨k - 1,by omega⟩
      show creelref_PathFault.f (k + 1) s = _
      unfold creelref_PathFault.f
      by_cases h:s.toList = ([]:List UInt8)
      · rw [if_pos h];simp [creelref_PathFault.j0]
      · rw [if_neg h]
        rw [empty_size] at h
        rw [decide_eq_true (show (s.size:Int) > 400 by omega)];simp [creelref_PathFault.j0]
  · have h0:¬ s.toList = ([]:List UInt8):=by rw [empty_size];omega
    have hsp:=split_is s (by omega)
    have hpl:=pp_len s
    by_cases hz:s.data.toList.contains 0 = true
    · have e:pathR s = 3:=by unfold pathR;rw [if_neg c,if_pos hz]
      rw [e]
      refine ⟨⟨1,fun k hk=>?_⟩,⟨K + 1,fun k hk=>?_⟩⟩
      · obtain ⟨k,rfl⟩:∃ m,k = m + 1:=⟨k - 1,by omega⟩
        show path_Check.f (k + 1) s = _
        unfold path_Check.f
        rw [if_neg (show ¬ (s.size:Int) < 1 by omega),decide_eq_false (show ¬ (s.size:Int) > 400 by omega)]
        simp only [path_Check.j0,Bool.false_eq_true,if_false,strings_IndexByte.f,Option.bind_some]
        rw [if_pos (hi.2 hz)]
      · obtain ⟨k,rfl⟩:∃ m,k = m + 1:=⟨k - 1,by omega⟩
        show creelref_PathFault.f (k + 1) s = _
        unfold creelref_PathFault.f
        rw [if_neg h0,decide_eq_false (show ¬ (s.size:Int) > 400 by omega)]
        simp only [creelref_PathFault.j0,Bool.false_eq_true,if_false]
        rw [hK k (by omega)]
        simp only [Option.bind_some,hz,if_true]
    · have hz':s.data.toList.contains 0 = false:=by simpa using hz
      have e:pathR s = (if (pp s).any bad = true then 9 else 0):=by unfold pathR;rw [if_neg c,if_neg hz]
      rw [e]
      refine ⟨⟨500,fun k hk=>?_⟩,⟨K + 500,fun k hk=>?_⟩⟩
      · obtain ⟨k,rfl⟩:∃ m,k = m + 1:=⟨k - 1,by omega⟩
        obtain ⟨h1,_⟩:=check_loop (pp s) (by omega) (pp s).length k 0 (by omega) (by omega) (by omega)
        show path_Check.f (k + 1) s = _
        unfold path_Check.f
        rw [if_neg (show ¬ (s.size:Int) < 1 by omega),decide_eq_false (show ¬ (s.size:Int) > 400 by omega)]
        simp only [path_Check.j0,Bool.false_eq_true,if_false,strings_IndexByte.f,Option.bind_some]
        rw [if_neg (fun h=>hz (hi.1 h)),hsp]
        simp only [Option.bind_some]
        rw [List.drop_zero] at h1
        exact h1
      · obtain ⟨k,rfl⟩:∃ m,k = m + 1:=⟨k - 1,by omega⟩
        obtain ⟨_,h2⟩:=check_loop (pp s) (by omega) (pp s).length k 0 (by omega) (by omega) (by omega)
        show creelref_PathFault.f (k + 1) s = _
        unfold creelref_PathFault.f
        rw [if_neg h0,decide_eq_false (show ¬ (s.size:Int) > 400 by omega)]
        simp only [creelref_PathFault.j0,Bool.false_eq_true,if_false]
        rw [hK k (by omega)]
        simp only [Option.bind_some,hz',Bool.false_eq_true,if_false]
        rw [parts_is s k (by omega) (by omega)]
        simp only [Option.bind_some]
        rw [List.drop_zero] at h2
        exact h2
def joinS:List (List UInt8)→List UInt8
  | []=>[]
  | [p]=>p
  | p :: q :: r=>p ++ 47 :: joinS (q :: r)
theorem joinS_cons (p:List UInt8) {r:List (List UInt8)} (h:r ≠ []):joinS (p :: r) = p ++ 47 :: joinS r:=by
  cases r with
  | nil=>exact absurd rfl h
  | cons q r=>rfl
theorem joinS_snoc (xs:List (List UInt8)) (x:List UInt8) (h:xs ≠ []):joinS (xs ++ [x]) = joinS xs ++ 47 :: x:=by
  induction xs with
  | nil=>exact absurd rfl h
  | cons p xs ih =>
    cases xs with
    | nil=>rfl
    | cons q xs =>
      have:=ih (by simp)
      rw [List.cons_append,joinS_cons p (by simp),this,joinS_cons p (by simp)]
      simp
theorem join_sp (l:List UInt8):joinS (sp 47 l) = l:=by
  induction l with
  | nil=>rfl
  | cons b l ih =>
    simp only [sp]
    by_cases hb:b = 47
    · rw [if_pos hb,joinS_cons _ (sp_ne _ _),ih,hb];rfl
    · rw [if_neg hb]
      cases hs:sp 47 l with
      | nil=>exact absurd hs (sp_ne _ _)
      | cons p ps =>
        rw [hs] at ih
        cases ps with
        | nil=>simp [joinS] at ih ⊢;exact ih
        | cons q qs =>
          simp only [joinS_cons _ (show (q :: qs) ≠ [] by simp)] at ih ⊢
          rw [List.cons_append,ih]
theorem join_take_le (xs:List (List UInt8)):∀ i,(joinS (xs.take i)).length ≤ (joinS xs).length:=by
  induction xs with
  | nil=>intro i;simp [joinS]
  | cons p xs ih =>
    intro i
    cases i with
    | zero=>simp [joinS]
    | succ i =>
      rw [List.take_succ_cons]
      cases xs with
      | nil=>simp [joinS]
      | cons q xs =>
        cases i with
        | zero =>
          rw [List.take_zero,joinS_cons p (show (q :: xs) ≠ [] by simp)]
          simp [joinS]
        | succ i =>
          have:=ih (i + 1)
          rw [joinS_cons p (show (q :: xs).take (i + 1) ≠ [] by simp),joinS_cons p (by simp)]
          simp only [List.length_append,List.length_cons]
          omega
theorem sp_last (A B:List UInt8) (hB:(47:UInt8) ∉ B):sp 47 (A ++ 47 :: B) = sp 47 A ++ [B]:=by
  induction A with
  | nil=>simp [sp,sp_whole 47 B hB]
  | cons a A ih =>
    simp only [List.cons_append,sp]
    by_cases ha:a = 47
    · rw [if_pos ha,if_pos ha,ih];rfl
    · rw [if_neg ha,if_neg ha,ih]
      cases hs:sp 47 A with
      | nil=>exact absurd hs (sp_ne _ _)
      | cons p ps=>simp
theorem split_loop (xs:List (List UInt8)) (hx:xs ≠ []) (hn:xs.length ≤ 4294967297) (hj:(joinS xs).length ≤ 4294967296) (d:Nat):∀ (k i:Nat),xs.length - 1 - i = d→i ≤ xs.length - 1→d < k →
    creelref_PathSplit.l0 k (xs.map mk) (mk (joinS (xs.take i))) (i:Int) = some (mk (joinS (xs.take (xs.length - 1))),mk (xs.getLast hx)):=by
  have hlen:0 < xs.length:=List.length_pos_iff.2 hx
  have hrd:∀ j (h:j < xs.length),rdOf ByteArray.empty (xs.map mk) (j:Int) = mk xs[j]:=by
    intro j h
    unfold rdOf
    rw [Int.toNat_natCast,List.getD_eq_getElem?_getD,List.getElem?_map,List.getElem?_eq_getElem h];rfl
  have hw1:wrap64 ((xs.length:Int) - 1) = ((xs.length - 1:Nat):Int):=by rw [wrap_is (by omega) (by omega)];omega
  induction d with
  | zero =>
    intro k i hd hi hk
    obtain ⟨k,rfl⟩:∃ m,k = m + 1:=⟨k - 1,by omega⟩
    obtain rfl:i = xs.length - 1:=by omega
    simp only [creelref_PathSplit.l0,List.length_map]
    rw [hw1,if_neg (show ¬ ((xs.length - 1:Nat):Int) < ((xs.length - 1:Nat):Int) by omega),if_pos (show (0:Int) ≤ ((xs.length - 1:Nat):Int) by omega),if_pos (show ((xs.length - 1:Nat):Int) < (xs.length:Int) by omega),hrd (xs.length - 1) (by omega),List.getLast_eq_getElem]
  | succ d ih =>
    intro k i hd hi hk
    obtain ⟨k,rfl⟩:∃ m,k = m + 1:=⟨k - 1,by omega⟩
    have hlt:i < xs.length:=by omega
    have hw:wrap64 ((i:Int) + 1) = ((i + 1:Nat):Int):=by rw [wrap_is (by omega) (by omega)];omega
    have hnext:=ih k (i + 1) (by omega) (by omega) (by omega)
    have ht:xs.take (i + 1) = xs.take i ++ [xs[i]]:=(List.take_append_getElem hlt).symm
    have hle:=join_take_le xs (i + 1)
    simp only [creelref_PathSplit.l0,List.length_map]
    rw [hw1,if_pos (show (i:Int) < ((xs.length - 1:Nat):Int) by omega),hw,hrd i hlt]
    by_cases h0:i = 0
    · subst h0
      rw [if_neg (by omega),if_pos (by omega),if_pos (by omega)]
      have h1:xs.take (0 + 1) = [xs[0]]:=by rw [ht];rfl
      rw [h1] at hle
      have e:mk (joinS (xs.take 0)) ++ mk xs[0] = mk (joinS (xs.take (0 + 1))):=by
        rw [h1];apply ext_list;simp [mk,joinS]
      have hsz:(mk (joinS (xs.take 0))).size + (mk xs[0]).size ≤ 9223372036854775807:=by
        have hle':xs[0].length ≤ (joinS xs).length:=hle
        rw [mk_size,mk_size,List.take_zero]
        show 0 + xs[0].length ≤ _
        omega
      rw [if_pos hsz,e];exact hnext
    · have hne:xs.take i ≠ []:=by
        intro h
        have h2:=congrArg List.length h
        rw [List.length_take,List.length_nil] at h2
        omega
      have hj2:joinS (xs.take (i + 1)) = joinS (xs.take i) ++ 47 :: xs[i]:=by rw [ht,joinS_snoc _ _ hne]
      have e:(mk (joinS (xs.take i)) ++ (⟨#[47]⟩:ByteArray)) ++ mk xs[i] = mk (joinS (xs.take (i + 1))):=by
        rw [hj2];apply ext_list;simp [mk]
      rw [hj2] at hle
      simp only [List.length_append,List.length_cons] at hle
      have hs1:(mk (joinS (xs.take i)) ++ (⟨#[47]⟩:ByteArray)).size = (joinS (xs.take i)).length + 1:=by rw [ByteArray.size_append,mk_size];rfl
      rw [if_pos (by omega),if_pos (by rw [mk_size];omega),if_pos (by omega),if_pos (by omega),if_pos (by rw [hs1,mk_size];omega),e]
      exact hnext
theorem split_at (s:ByteArray) (k:Nat) (hs:s.size ≤ 1048576) (hk:s.size + 2 < k):creelref_PathSplit.f k s = some (mk (joinS ((sp 47 s.data.toList).take ((sp 47 s.data.toList).length - 1))),mk ((sp 47 s.data.toList).getLast (sp_ne _ _))):=by
  unfold creelref_PathSplit.f
  rw [parts_is s k (by omega) (by omega)]
  simp only [Option.bind_some]
  have hl:=sp_len_le 47 s.data.toList
  rw [size_list] at hl
  have:=split_loop (sp 47 s.data.toList) (sp_ne _ _) (by omega) (by rw [join_sp,size_list];omega) ((sp 47 s.data.toList).length - 1) k 0 (by omega) (by omega) (by omega)
  exact this
theorem data_get (s:ByteArray) (i:Nat) (h:i < s.size):((s.data[i]!).toNat:Int) = bt s (i:Int):=by
  rw [bt_get s i h]
  have h':i < s.data.size:=h
  rw [getElem!_pos s.data i h']
  simp
theorem last_f (s:ByteArray) (hb:s.size < 4611686018427387904) (t:Int) (e:Lib.lastIndexByte s 47 = t):strings_LastIndexByte.f s 47 = some t:=by
  unfold strings_LastIndexByte.f
  rw [if_pos hb,e]
theorem up0 (s:ByteArray) (n:Nat) (e:strings_LastIndexByte.f s 47 = some (n:Int)) (hn:n ≤ s.size):path_Up.f s = some (s.extract 0 n):=by
  unfold path_Up.f
  rw [e]
  simp only [Option.bind_some]
  rw [if_neg (show ¬ (n:Int) < 0 by omega),if_pos (Int.natCast_nonneg n),if_pos (Int.ofNat_le.2 hn),Int.toNat_natCast]
theorem up_none (s:ByteArray) (hs:s.size ≤ 1048576) (e:Lib.lastIndexByte s 47 = -1):path_Up.f s = some (⟨#[]⟩:ByteArray):=by
  have h:=last_f s (by omega) _ e
  unfold path_Up.f
  rw [h];simp
theorem up_some (s:ByteArray) (hs:s.size ≤ 1048576) (i:Nat) (hi:i < s.size) (e:Lib.lastIndexByte s 47 = (i:Int)):path_Up.f s = some (s.extract 0 i):=up0 s i (last_f s (by omega) _ e) (by omega)
theorem last_cut (s:ByteArray) (i:Nat) (hi:i < s.size) (hc:((s.data[i]!).toNat:Int) = 47) (hn:∀ j,i < j→j < s.size→((s.data[j]!).toNat:Int) ≠ 47) :
    (47:UInt8) ∉ s.data.toList.drop (i + 1)∧s.data.toList = s.data.toList.take i ++ 47 :: s.data.toList.drop (i + 1):=by
  have hl:i < s.data.toList.length:=by rw [size_list];exact hi
  have h47:(47:Int).toNat.toUInt8 = 47:=rfl
  have hb:s.data.toList[i] = 47:=by
    rw [data_get s i hi,bt_eq_iff s i hi 47 (by omega) (by omega),List.getElem?_eq_getElem hl,h47] at hc
    exact Option.some.inj hc
  refine ⟨?_,?_⟩
  · intro hm
    obtain ⟨j,hj,hje⟩:=List.mem_iff_getElem.1 hm
    rw [List.length_drop,size_list] at hj
    rw [List.getElem_drop] at hje
    apply hn (i + 1 + j) (by omega) (by omega)
    rw [data_get s _ (by omega),bt_eq_iff s _ (by omega) 47 (by omega) (by omega),List.getElem?_eq_getElem (by rw [size_list];omega),hje,h47]
  · conv=>lhs;rw [← List.take_append_drop i s.data.toList,List.drop_eq_getElem_cons hl,hb]
theorem last_none (s:ByteArray) (hn:∀ j,j < s.size→((s.data[j]!).toNat:Int) ≠ 47):(47:UInt8) ∉ s.data.toList:=by
  have h47:(47:Int).toNat.toUInt8 = 47:=rfl
  intro hm
  obtain ⟨j,hj,hje⟩:=List.mem_iff_getElem.1 hm
  have hjs:j < s.size:=by simpa using hj
  apply hn j hjs
  rw [data_get s j hjs,bt_eq_iff s j hjs 47 (by omega) (by omega),List.getElem?_eq_getElem hj,hje,h47]
theorem split_last (A B:List UInt8) (hB:(47:UInt8) ∉ B) (l:List UInt8) (hl:l = A ++ 47 :: B) (hx:sp 47 l ≠ []):joinS ((sp 47 l).take ((sp 47 l).length - 1)) = A∧(sp 47 l).getLast hx = B:=by
  have h1:sp 47 l = sp 47 A ++ [B]:=by rw [hl];exact sp_last A B hB
  refine ⟨?_,?_⟩
  · rw [h1,List.length_append,List.length_singleton,Nat.add_sub_cancel,List.take_left,join_sp]
  · have h2:(sp 47 l).getLast? = some B:=by rw [h1];simp
    rw [List.getLast?_eq_some_getLast hx] at h2
    exact Option.some.inj h2
theorem split_only (l:List UInt8) (h:(47:UInt8) ∉ l) (hx:sp 47 l ≠ []):joinS ((sp 47 l).take ((sp 47 l).length - 1)) = []∧(sp 47 l).getLast hx = l:=by
  have h1:=sp_whole 47 l h
  refine ⟨by rw [h1];rfl,?_⟩
  have h2:(sp 47 l).getLast? = some l:=by rw [h1];simp
  rw [List.getLast?_eq_some_getLast hx] at h2
  exact Option.some.inj h2
theorem up_only (s:ByteArray) (k:Nat) (hs:s.size ≤ 1048576) (hk:s.size + 2 < k):(Lib.lastIndexByte s 47 = -1∧path_Up.f s = some (⟨#[]⟩:ByteArray)∧creelref_PathSplit.f k s = some ((⟨#[]⟩:ByteArray),s)) ∨
    ∃ i,i < s.size∧Lib.lastIndexByte s 47 = (i:Int)∧path_Up.f s = some (s.extract 0 i)∧creelref_PathSplit.f k s = some (s.extract 0 i,s.extract (i + 1) s.size):=by
  have hsp:=split_at s k hs hk
  rcases Lib.lastIndexByte_spec s 47 with ⟨e,hn⟩|⟨i,hi,e,hc,hn⟩
  · obtain ⟨h3,h4⟩:=split_only _ (last_none s hn) (sp_ne 47 s.data.toList)
    refine Or.inl ⟨e,up_none s hs e,?_⟩
    rw [hsp,h3,h4,mk_of];rfl
  · obtain ⟨c1,c2⟩:=last_cut s i hi hc hn
    obtain ⟨h3,h4⟩:=split_last _ _ c1 _ c2 (sp_ne 47 s.data.toList)
    have x1:mk (s.data.toList.take i) = s.extract 0 i:=by apply ext_list;rw [mk_data,Lib.extract_data];simp
    have x2:mk (s.data.toList.drop (i + 1)) = s.extract (i + 1) s.size:=by apply ext_list;rw [mk_data,Lib.extract_to_end]
    refine Or.inr ⟨i,hi,e,up_some s hs i hi e,?_⟩
    rw [hsp,h3,h4,x1,x2]
def wrong (a b c:Int) (u g:ByteArray) (s n:Int):Int :=
  if a < 0 ∨ a > 4095 ∨ b < 0 ∨ b > 1125899906842624 ∨ c < 0 ∨ c > 1125899906842624 then 4
  else if (u.size:Int) > 60 ∨ (g.size:Int) > 60 then 1
  else if u.data.toList.contains 0 = true ∨ g.data.toList.contains 0 = true then 3
  else if s < -1099511627776 ∨ s > 1099511627776 ∨ n < 0 ∨ n > 999999999 then 4 else 0
theorem stamp_is (s n:Int):stamp_Check.f s n = some (if s < -1099511627776 ∨ s > 1099511627776 ∨ n < 0 ∨ n > 999999999 then 4 else 0):=by
  unfold stamp_Check.f
  by_cases h1:s < -1099511627776
  · simp [h1]
  · by_cases h2:s > 1099511627776
    · simp [h1,h2]
    · by_cases h3:n < 0
      · simp [h1,h2,h3]
      · by_cases h4:n > 999999999 <;> simp [h1,h2,h3,h4]
theorem time_is (s n:Int):creelref_TimeFault.f s n = some (if s < -1099511627776 ∨ s > 1099511627776 ∨ n < 0 ∨ n > 999999999 then 4 else 0):=by
  unfold creelref_TimeFault.f
  by_cases h1:s < -1099511627776
  · simp [h1]
  · by_cases h2:s > 1099511627776
    · simp [h1,h2]
    · by_cases h3:n < 0
      · simp [h1,h2,h3]
      · by_cases h4:n > 999999999
        · rw [if_neg h1,if_neg h2,if_neg h3,if_pos (by omega),if_pos (by omega)]
        · rw [if_neg h1,if_neg h2,if_neg h3,if_neg (by omega),if_neg (by omega)]
theorem check_ev (a b c:Int) (u g:ByteArray) (s n:Int):Ev (fun k=>meta_Check.f k a b c u g s n) (wrong a b c u g s n):=by
  refine ⟨10,fun k hk=>?_⟩
  obtain ⟨k,rfl⟩:∃ m,k = m + 10:=⟨k - 10,by omega⟩
  have j2:∀ (b2:Bool) (m:Nat),(b2 = false→u.size ≤ 60∧g.size ≤ 60)→meta_Check.j2 (m + 1) b2 a b c u g s n = some (if b2 = true then 1 else if u.data.toList.contains 0 = true ∨ g.data.toList.contains 0 = true then 3
      else if s < -1099511627776 ∨ s > 1099511627776 ∨ n < 0 ∨ n > 999999999 then 4 else 0):=by
    intro b2 m hb
    simp only [meta_Check.j2]
    cases b2 with
    | true=>simp
    | false =>
      obtain ⟨h1,h2⟩:=hb rfl
      simp only [Bool.false_eq_true,if_false];rw [if_pos (by omega)]
      unfold strings_IndexByte.f
      simp only [Option.bind_some]
      have e:(Lib.indexByte (u ++ g).data.toList ((0:Int).toNat.toUInt8) ≥ 0) ↔ (u.data.toList.contains 0 = true ∨ g.data.toList.contains 0 = true):=by
        have:=index_ge (u ++ g).data.toList ((0:Int).toNat.toUInt8)
        rw [← decide_eq_true_iff (p:=Lib.indexByte (u ++ g).data.toList ((0:Int).toNat.toUInt8) ≥ 0),this]
        simp
      by_cases h:u.data.toList.contains 0 = true ∨ g.data.toList.contains 0 = true
      · rw [if_pos h,if_pos (e.2 h)]
      · rw [if_neg h,if_neg (fun x=>h (e.1 x)),stamp_is];rfl
  have j1:∀ (b1:Bool) (m:Nat),meta_Check.j1 (m + 2) b1 a b c u g s n = some (if b1 = true then 4 else if (u.size:Int) > 60 ∨ (g.size:Int) > 60 then 1 else if u.data.toList.contains 0 = true ∨ g.data.toList.contains 0 = true then 3
      else if s < -1099511627776 ∨ s > 1099511627776 ∨ n < 0 ∨ n > 999999999 then 4 else 0):=by
    intro b1 m
    simp only [meta_Check.j1]
    cases b1 with
    | true=>simp
    | false =>
      simp only [Bool.false_eq_true,if_false]
      by_cases h1:(u.size:Int) > 60
      · rw [if_pos h1,j2 true m (by simp)];simp [h1]
      · rw [if_neg h1]
        by_cases h2:(g.size:Int) > 60
        · rw [decide_eq_true h2,j2 true m (by simp)];simp [h2]
        · rw [decide_eq_false h2,j2 false m (fun _=>⟨by omega,by omega⟩)];simp [h1,h2]
  show meta_Check.f (k + 10) a b c u g s n = _
  unfold meta_Check.f wrong
  by_cases h1:a < 0
  · simp [meta_Check.j0,j1,h1]
  · by_cases h2:a > 4095
    · simp [meta_Check.j0,j1,h1,h2]
    · by_cases h3:b < 0
      · simp [meta_Check.j0,j1,h1,h2,h3]
      · by_cases h4:b > 1125899906842624
        · simp [meta_Check.j0,j1,h1,h2,h3,h4]
        · by_cases h5:c < 0
          · simp [meta_Check.j0,j1,h1,h2,h3,h4,h5]
          · by_cases h6:c > 1125899906842624
            · simp [meta_Check.j0,j1,h1,h2,h3,h4,h5,h6]
            · simp [meta_Check.j0,j1,h1,h2,h3,h4,h5,h6]
theorem fault_ev (a b c:Int) (u g:ByteArray) (s n:Int) (hu:u.size ≤ 140737488351232) (hg:g.size ≤ 140737488351232):Ev (fun k=>creelref_MetaFault.f k a b c u g s n) (wrong a b c u g s n):=by
  obtain ⟨K1,e1⟩:=has_ev u 0 (by omega) (by omega) hu
  obtain ⟨K2,e2⟩:=has_ev g 0 (by omega) (by omega) hg
  replace e1:∀ k,K1 ≤ k→creelref_has.f k u 0 = some (u.data.toList.contains 0):=e1
  replace e2:∀ k,K2 ≤ k→creelref_has.f k g 0 = some (g.data.toList.contains 0):=e2
  refine ⟨max K1 K2 + 10,fun k hk=>?_⟩
  obtain ⟨k,rfl⟩:∃ m,k = m + 2:=⟨k - 2,by omega⟩
  have j1:∀ (b1:Bool),creelref_MetaFault.j1 (k + 1) b1 a b c u g s n = some (if b1 = true then 1 else if u.data.toList.contains 0 = true ∨ g.data.toList.contains 0 = true then 3
      else if s < -1099511627776 ∨ s > 1099511627776 ∨ n < 0 ∨ n > 999999999 then 4 else 0):=by
    intro b1
    simp only [creelref_MetaFault.j1]
    cases b1 with
    | true=>simp
    | false =>
      simp only [Bool.false_eq_true,if_false];rw [e1 k (by omega),e2 k (by omega)]
      simp only [Option.bind_some]
      by_cases h1:u.data.toList.contains 0 = true
      · rw [if_pos h1,if_pos (.inl h1)]
      · rw [if_neg h1]
        by_cases h2:g.data.toList.contains 0 = true
        · rw [if_pos h2,if_pos (.inr h2)]
        · rw [if_neg h2,if_neg (by rintro (h|h);exact h1 h;exact h2 h),time_is];rfl
  have j0:∀ (b1:Bool),creelref_MetaFault.j0 (k + 2) b1 a b c u g s n = some (if b1 = true then 4 else if (u.size:Int) > 60 ∨ (g.size:Int) > 60 then 1 else if u.data.toList.contains 0 = true ∨ g.data.toList.contains 0 = true then 3
      else if s < -1099511627776 ∨ s > 1099511627776 ∨ n < 0 ∨ n > 999999999 then 4 else 0):=by
    intro b1
    simp only [creelref_MetaFault.j0]
    cases b1 with
    | true=>simp
    | false =>
      simp only [Bool.false_eq_true,if_false]
      by_cases h1:(u.size:Int) > 60
      · rw [if_pos h1,j1];simp [h1]
      · rw [if_neg h1]
        by_cases h2:(g.size:Int) > 60
        · rw [decide_eq_true h2,j1];simp [h2]
        · rw [decide_eq_false h2,j1];simp [h1,h2]
  have hx:a ≥ 4096 ↔ a > 4095:=by omega
  show creelref_MetaFault.f (k + 2) a b c u g s n = _
  unfold creelref_MetaFault.f wrong
  by_cases h1:a < 0
  · simp [j0,hx,h1]
  · by_cases h2:a > 4095
    · simp [j0,hx,h1,h2]
    · by_cases h3:b < 0
      · simp [j0,hx,h1,h2,h3]
      · by_cases h4:b > 1125899906842624
        · simp [j0,hx,h1,h2,h3,h4]
        · by_cases h5:c < 0
          · simp [j0,hx,h1,h2,h3,h4,h5]
          · by_cases h6:c > 1125899906842624
            · simp [j0,hx,h1,h2,h3,h4,h5,h6]
            · simp [j0,hx,h1,h2,h3,h4,h5,h6]
def restR (kind same:Int) (t:ByteArray) (n:Nat):Int :=
  if kind = 1 then (if t.toList ≠ [] ∨ same < 0 then 3 else if n > 2000 then 1 else 0)
  else if kind = 2 then (if n > 0 ∨ same ≠ 0 ∨ t.toList ≠ [] then 3 else 0)
  else if kind = 3 then (if n > 0 ∨ same ≠ 0 ∨ t.toList = [] ∨ t.data.toList.contains 0 = true then 3 else if t.size > 400 then 1 else 0)
  else 2
def nodeR (p:ByteArray) (kind same:Int) (t:ByteArray) (a b c:Int) (u g:ByteArray) (s n:Int) (d:Nat):Int :=
  if pathR p = 0 then (if wrong a b c u g s n = 0 then restR kind same t d else wrong a b c u g s n) else pathR p
theorem idx0 (t:ByteArray):(Lib.indexByte t.data.toList ((0:Int).toNat.toUInt8) ≥ 0) ↔ t.data.toList.contains 0 = true:=by
  have:=index_ge t.data.toList ((0:Int).toNat.toUInt8)
  rw [← decide_eq_true_iff (p:=Lib.indexByte t.data.toList ((0:Int).toNat.toUInt8) ≥ 0),this];rfl
theorem right_ev (p:ByteArray) (kind same:Int) (t:ByteArray) (a b c:Int) (u g:ByteArray) (s n:Int) (d:List Int) (hp:p.size ≤ 140737488351232) :
    Ev (fun k=>tree_Right.f k p kind same t a b c u g s n d) (nodeR p kind same t a b c u g s n d.length):=by
  obtain ⟨K1,a1⟩:=(path_same p hp).1
  replace a1:∀ k,K1 ≤ k→path_Check.f k p = some (pathR p):=a1
  obtain ⟨K2,a2⟩:=check_ev a b c u g s n
  replace a2:∀ k,K2 ≤ k→meta_Check.f k a b c u g s n = some (wrong a b c u g s n):=a2
  refine ⟨K1 + K2 + 10,fun k hk=>?_⟩
  show tree_Right.f k p kind same t a b c u g s n d = _
  unfold tree_Right.f nodeR
  rw [a1 k (by omega)]
  simp only [Option.bind_some]
  by_cases hP:pathR p = 0
  · rw [if_pos hP,if_pos hP,a2 k (by omega)]
    simp only [Option.bind_some]
    by_cases hM:wrong a b c u g s n = 0
    · rw [if_pos hM,if_pos hM]
      obtain ⟨k,rfl⟩:∃ m,k = m + 4:=⟨k - 4,by omega⟩
      have hi:=idx0 t
      unfold restR
      generalize t.data.toList.contains 0 = z at hi ⊢
      by_cases k1:kind = 1
      · subst k1
        by_cases t0:t.toList = []
        · by_cases s0:same < 0 <;> simp [tree_Right.j0,t0,s0] <;> (split <;> split <;> first|rfl|(exfalso;omega))
        · simp [tree_Right.j0,t0]
      · by_cases k2:kind = 2
        · subst k2
          by_cases d0:d.length > 0
          · have d0':d ≠ []:=by rintro rfl;simp at d0
            simp [tree_Right.j1,tree_Right.j2,d0,d0']
          · have d0':d = []:=List.eq_nil_of_length_eq_zero (by omega)
            subst d0'
            by_cases s0:same = 0
            · by_cases t0:t.toList = []
              · have hz:t.size = 0:=(empty_size t).1 t0
                simp [tree_Right.j1,tree_Right.j2,tree_Right.j3,s0,t0,hz]
              · simp [tree_Right.j1,tree_Right.j2,tree_Right.j3,s0,t0]
            · simp [tree_Right.j1,tree_Right.j2,s0]
        · by_cases k3:kind = 3
          · subst k3
            by_cases d0:d.length > 0
            · have d0':d ≠ []:=by rintro rfl;simp at d0
              simp [tree_Right.j1,tree_Right.j2,d0,d0']
            · have d0':d = []:=List.eq_nil_of_length_eq_zero (by omega)
              subst d0'
              by_cases s0:same = 0
              · by_cases t0:t.toList = []
                · simp [tree_Right.j1,tree_Right.j2,tree_Right.j3,s0,t0]
                · by_cases z0:z = true
                  · have:=hi.2 z0
                    simp only [tree_Right.j1,tree_Right.j2,tree_Right.j3,strings_IndexByte.f,Option.bind_some,decide_eq_true this]
                    simp [s0,t0,z0]
                  · have:=fun h=>z0 (hi.1 h)
                    simp only [tree_Right.j1,tree_Right.j2,tree_Right.j3,strings_IndexByte.f,Option.bind_some,decide_eq_false this]
                    simp [s0,t0,z0]
                    split <;> split <;> first|rfl|(exfalso;omega)
              · simp [tree_Right.j1,tree_Right.j2,s0]
          · simp [tree_Right.j1,k1,k2,k3]
    · rw [if_neg hM,if_neg hM]
  · rw [if_neg hP,if_neg hP]
theorem refnode_ev (p:ByteArray) (kind same:Int) (t:ByteArray) (a b c:Int) (u g:ByteArray) (s n:Int) (d:List Int) (hp:p.size ≤ 140737488351232) (ht:t.size ≤ 140737488351232) (hu:u.size ≤ 140737488351232) (hg:g.size ≤ 140737488351232) :
    Ev (fun k=>rNF.f k p kind same t a b c u g s n d) (nodeR p kind same t a b c u g s n d.length):=by
  obtain ⟨K1,a1⟩:=(path_same p hp).2
  replace a1:∀ k,K1 ≤ k→creelref_PathFault.f k p = some (pathR p):=a1
  obtain ⟨K2,a2⟩:=fault_ev a b c u g s n hu hg
  replace a2:∀ k,K2 ≤ k→creelref_MetaFault.f k a b c u g s n = some (wrong a b c u g s n):=a2
  obtain ⟨K3,a3⟩:=has_ev t 0 (by omega) (by omega) ht
  replace a3:∀ k,K3 ≤ k→creelref_has.f k t 0 = some (t.data.toList.contains 0):=a3
  refine ⟨K1 + K2 + K3 + 10,fun k hk=>?_⟩
  show rNF.f k p kind same t a b c u g s n d = _
  unfold rNF.f nodeR
  rw [a1 k (by omega)]
  simp only [Option.bind_some]
  by_cases hP:pathR p = 0
  · rw [if_pos hP,if_pos hP,a2 k (by omega)]
    simp only [Option.bind_some]
    by_cases hM:wrong a b c u g s n = 0
    · rw [if_pos hM,if_pos hM]
      obtain ⟨k,rfl⟩:∃ m,k = m + 4:=⟨k - 4,by omega⟩
      have a3':creelref_has.f (k + 3) t 0 = some (t.data.toList.contains 0):=a3 _ (by omega)
      have hc:t.toList = []→t.data.toList.contains 0 = false:=fun t0=>by rw [← toList_data,t0];rfl
      unfold restR
      generalize t.data.toList.contains 0 = z at a3' hc ⊢
      by_cases k1:kind = 1
      · subst k1
        by_cases t0:t.toList = []
        · by_cases s0:same < 0 <;> simp [rNF.j0,rNF.j1,t0,s0] <;> (split <;> split <;> first|rfl|(exfalso;omega))
        · simp [rNF.j0,rNF.j1,t0]
      · by_cases k2:kind = 2
        · subst k2
          by_cases d0:d = []
          · subst d0
            by_cases s0:same = 0
            · by_cases t0:t.toList = []
              · have hz:t.size = 0:=(empty_size t).1 t0
                have hc':=hc t0
                subst hc'
                simp [rNF.j0,rNF.j2,s0,t0,hz,a3']
              · simp [rNF.j0,rNF.j2,s0,t0]
            · simp [rNF.j0,rNF.j2,s0]
          · have d1:d.length ≠ 0:=fun h=>d0 (List.eq_nil_of_length_eq_zero h)
            have d2:0 < d.length:=by omega
            simp [rNF.j0,rNF.j2,d0,d1,d2]
        · by_cases k3:kind = 3
          · subst k3
            by_cases d0:d = []
            · subst d0
              by_cases s0:same = 0
              · by_cases t0:t.toList = []
                · simp [rNF.j0,rNF.j2,s0,t0]
                · by_cases z0:z = true
                  · simp [rNF.j0,rNF.j2,s0,t0,a3',z0]
                  · have z1:z = false:=Bool.eq_false_iff.mpr z0
                    simp only [rNF.j0,rNF.j2,a3',z1,Option.bind_some]
                    simp [s0,t0]
                    split <;> split <;> first|rfl|(exfalso;omega)
              · simp [rNF.j0,rNF.j2,s0]
            · have d1:d.length ≠ 0:=fun h=>d0 (List.eq_nil_of_length_eq_zero h)
              have d2:0 < d.length:=by omega
              simp [rNF.j0,rNF.j2,d0,d1,d2]
          · simp [rNF.j0,k1,k2,k3]
    · rw [if_neg hM,if_neg hM]
  · rw [if_neg hP,if_neg hP]
end Go.Proofs.YtlfeijjilndljaaDoor.Q
end
section
namespace Go.Proofs.YtlfeijjilndljaaDoor.All
open Go.RowKit Go.Proofs.YtlfeijjilndljaaDoorW.PrintWords Go.Proofs.YtlfeijjilndljaaDoorW.PrintLast Go.Proofs.YtlfeijjilndljaaDoorW.PrintMore
open Go.Proofs.YtlfeijjilndljaaDoorW.Mine
attribute [local go_sem] gtr_string leq_string geq_string
attribute [local go_sem] max2_int min2_int max_two min_two max_three min_three max_four min_four
set_option linter.unusedVariables false
set_option linter.unusedSimpArgs false
def strings_HasPrefix.f (a0:ByteArray) (a1:ByteArray):Option Bool:=some (Lib.hasPrefix a0.data.toList a1.data.toList)
def path_In.f (a0:ByteArray) (a1:ByteArray):Option (Bool):=if a1.toList = ([]:List UInt8) then (if a0.toList = ([]:List UInt8) then (if a1.size + 1 ≤ 9223372036854775807 then ((strings_HasPrefix.f a0 (a1 ++ (⟨#[47]⟩:ByteArray))).bind fun t101=>(some t101)) else (none)) else (some true)) else (if a1.size + 1 ≤ 9223372036854775807 then ((strings_HasPrefix.f a0 (a1 ++ (⟨#[47]⟩:ByteArray))).bind fun t102=>(some t102)) else (none))
def creelref_PathIn.f (a0 a1:ByteArray):Option Bool:=some (if a1.toList = ([]:List UInt8) then !a0.toList.isEmpty else if a1.size < a0.size then (if (a0.extract 0 a1.size).toList = a1.toList then bt a0 (a1.size:Int) == 47 else false) else false)
end Go.Proofs.YtlfeijjilndljaaDoor.All
end
section
namespace Go.Proofs.YtlfeijjilndljaaDoor.Q
set_option linter.unusedVariables false
set_option linter.unusedSimpArgs false
open Go.RowKit Go.Proofs.YtlfeijjilndljaaDoor.All Go.Proofs.YtlfeijjilndljaaDoorW.PrintWords Go.Proofs.YtlfeijjilndljaaDoorW.PrintLast Go.Proofs.YtlfeijjilndljaaDoorW.PrintMore Go.Proofs.YtlfeijjilndljaaDoorW.PureBase
theorem cmp_is (p q:ByteArray):cmp_Compare_string.f p q = some (if (Op.bytesLess p.toList q.toList) = true then (-1) else if (Op.bytesLess q.toList p.toList) = true then 1 else 0):=by
  unfold cmp_Compare_string.f cmp_isNaN_string.f
  simp only [bne_self_eq_false,Option.bind_some,Bool.false_eq_true,if_false]
  split
  · rfl
  · split <;> rfl
theorem cmp_loop (x y:List ByteArray) (hx:x.length ≤ 1099511627776) (d:Nat):∀ (k q i:Nat),x.length - i = d→i ≤ x.length→i ≤ y.length→d < k→2 * d + 2 < q →
    ∃ r,slices_Compare_string_string.l0 k x y x (x.length:Int) (i:Int) = some r∧creelref_PathOrder.l0 q x y (i:Int) = some r:=by
  induction d with
  | zero =>
    intro k q i hd hi hy hk hq
    obtain ⟨k,rfl⟩:∃ m,k = m + 1:=⟨k - 1,by omega⟩
    obtain ⟨q,rfl⟩:∃ m,q = m + 2:=⟨q - 2,by omega⟩
    have e:i = x.length:=by omega
    subst e
    simp only [slices_Compare_string_string.l0,creelref_PathOrder.l0,creelref_PathOrder.j1]
    rw [if_neg (show ¬ ((x.length:Int) < (x.length:Int)) by omega),if_neg (show ¬ ((x.length:Int) < (x.length:Int)) by omega),if_neg (show ¬ (false = true) by simp)]
    by_cases h:(x.length:Int) < (y.length:Int)
    · exact ⟨-1,by rw [if_pos h],by rw [if_pos h]⟩
    · exact ⟨0,by rw [if_neg h],by rw [if_neg h,if_neg (show ¬ (x.length:Int) > (y.length:Int) by omega)]⟩
  | succ d ih =>
    intro k q i hd hi hy hk hq
    obtain ⟨k,rfl⟩:∃ m,k = m + 1:=⟨k - 1,by omega⟩
    obtain ⟨q,rfl⟩:∃ m,q = m + 2:=⟨q - 2,by omega⟩
    have hlt:(i:Int) < (x.length:Int):=by omega
    simp only [slices_Compare_string_string.l0,creelref_PathOrder.l0,creelref_PathOrder.j1]
    rw [if_pos hlt,if_pos hlt,if_pos (show (0:Int) ≤ (i:Int) by omega),if_pos hlt,if_pos (show (0:Int) ≤ (i:Int) by omega),if_pos hlt]
    by_cases h:(i:Int) < (y.length:Int)
    · rw [if_neg (show ¬ (i:Int) ≥ (y.length:Int) by omega),if_pos h,cmp_is,decide_eq_true h,if_pos h,if_pos rfl]
      simp only [Option.bind_some]
      have hw:wrap64 ((i:Int) + 1) = ((i + 1:Nat):Int):=by rw [wrap_is (by omega) (by omega)];omega
      by_cases l1:(Op.bytesLess (rdOf ByteArray.empty x (i:Int)).toList (rdOf ByteArray.empty y (i:Int)).toList) = true
      · refine ⟨-1,?_,?_⟩
        · rw [if_pos l1,if_neg (by omega)]
        · rw [if_pos l1]
      · by_cases l2:(Op.bytesLess (rdOf ByteArray.empty y (i:Int)).toList (rdOf ByteArray.empty x (i:Int)).toList) = true
        · refine ⟨1,?_,?_⟩
          · rw [if_neg l1,if_pos l2,if_neg (by omega)]
          · rw [if_neg l1,if_pos l2]
        · obtain ⟨r,h1,h2⟩:=ih k q (i + 1) (by omega) (by omega) (by omega) (by omega) (by omega)
          rw [if_neg l1,if_neg l2,if_pos rfl,if_neg l1,if_neg l2,hw]
          exact ⟨r,h1,h2⟩
    · refine ⟨1,?_,?_⟩
      · rw [if_pos (show (i:Int) ≥ (y.length:Int) by omega)]
      · rw [decide_eq_false h,if_neg (show ¬ (false = true) by simp),if_neg (show ¬ (x.length:Int) < (y.length:Int) by omega),if_pos (show (x.length:Int) > (y.length:Int) by omega)]
def cmpL:List ByteArray→List ByteArray→Int
  | [],[]=>0
  | [],_ :: _=>-1
  | _ :: _,[]=>1
  | p :: x,q :: y=>if (Op.bytesLess p.toList q.toList) = true then -1 else if (Op.bytesLess q.toList p.toList) = true then 1 else cmpL x y
def prt (s:ByteArray):List ByteArray:=if s.toList = ([]:List UInt8) then [] else pp s
def cmpP (a b:ByteArray):Int:=cmpL (prt a) (prt b)
theorem drop_getD (x:List ByteArray) (i:Nat) (h:i < x.length):x.drop i = rdOf ByteArray.empty x (i:Int) :: x.drop (i + 1):=by
  rw [List.drop_eq_getElem_cons h]
  simp [rdOf,List.getD_eq_getElem?_getD,List.getElem?_eq_getElem h]
theorem slices_val (x y:List ByteArray) (hx:x.length ≤ 1099511627776) (d:Nat):∀ (k i:Nat),x.length - i = d→i ≤ x.length→i ≤ y.length→d < k →
    slices_Compare_string_string.l0 k x y x (x.length:Int) (i:Int) = some (cmpL (x.drop i) (y.drop i)):=by
  induction d with
  | zero =>
    intro k i hd hi hy hk
    obtain ⟨k,rfl⟩:∃ m,k = m + 1:=⟨k - 1,by omega⟩
    have e:i = x.length:=by omega
    subst e
    simp only [slices_Compare_string_string.l0]
    rw [if_neg (show ¬ ((x.length:Int) < (x.length:Int)) by omega),List.drop_length]
    by_cases h:(x.length:Int) < (y.length:Int)
    · rw [if_pos h,drop_getD y _ (by omega)]
      rfl
    · rw [if_neg h,List.drop_of_length_le (by omega)]
      rfl
  | succ d ih =>
    intro k i hd hi hy hk
    obtain ⟨k,rfl⟩:∃ m,k = m + 1:=⟨k - 1,by omega⟩
    have hlt:(i:Int) < (x.length:Int):=by omega
    simp only [slices_Compare_string_string.l0]
    rw [if_pos hlt,if_pos (show (0:Int) ≤ (i:Int) by omega),if_pos hlt,drop_getD x i (by omega)]
    by_cases h:(i:Int) < (y.length:Int)
    · have hw:wrap64 ((i:Int) + 1) = ((i + 1:Nat):Int):=by rw [wrap_is (by omega) (by omega)];omega
      rw [if_neg (show ¬ (i:Int) ≥ (y.length:Int) by omega),if_pos h,cmp_is,drop_getD y i (by omega)]
      simp only [Option.bind_some,cmpL]
      by_cases l1:(Op.bytesLess (rdOf ByteArray.empty x (i:Int)).toList (rdOf ByteArray.empty y (i:Int)).toList) = true
      · rw [if_pos l1,if_neg (by omega)]
        rw [if_pos l1]
      · by_cases l2:(Op.bytesLess (rdOf ByteArray.empty y (i:Int)).toList (rdOf ByteArray.empty x (i:Int)).toList) = true
        · rw [if_neg l1,if_pos l2,if_neg (by omega),if_neg l1,if_pos l2]
        · rw [if_neg l1,if_neg l2,if_pos rfl,if_neg l1,if_neg l2,hw]
          exact ih k (i + 1) (by omega) (by omega) (by omega) (by omega)
    · rw [if_pos (show (i:Int) ≥ (y.length:Int) by omega),List.drop_of_length_le (show y.length ≤ i by omega)]
      rfl
theorem prt_is (s:ByteArray) (hs:s.size ≤ 1048576) (k:Nat) (hk:s.size < k):(prt s).length ≤ s.size + 1∧path_Parts.f s = some (prt s)∧creelref_PathParts.f k s = some (prt s):=by
  unfold path_Parts.f creelref_PathParts.f prt
  by_cases h0:s.toList = ([]:List UInt8)
  · rw [if_pos h0,if_pos h0,if_pos h0]
    exact ⟨by simp,rfl,rfl⟩
  · rw [if_neg h0,if_neg h0,if_neg h0,split_is s (by omega),parts_is s k (by omega) hk]
    exact ⟨pp_len s,rfl,rfl⟩
theorem cmp_both (a b:ByteArray) (ha:a.size ≤ 1048576) (hb:b.size ≤ 1048576) (k:Nat) (hk:2 * a.size + b.size + 10 ≤ k):path_Compare.f k a b = some (cmpP a b)∧creelref_PathOrder.f k a b = some (cmpP a b):=by
  obtain ⟨hx,x1,x2⟩:=prt_is a ha k (by omega)
  obtain ⟨hy,y1,y2⟩:=prt_is b hb k (by omega)
  have v:=slices_val (prt a) (prt b) (by omega) (prt a).length k 0 (by omega) (by omega) (by omega) (by omega)
  obtain ⟨r,r1,r2⟩:=cmp_loop (prt a) (prt b) (by omega) (prt a).length k k 0 (by omega) (by omega) (by omega) (by omega) (by omega)
  have e:r = cmpP a b:=by
    rw [v] at r1
    simp only [List.drop_zero,Option.some.injEq] at r1
    exact r1.symm
  subst e
  constructor
  · unfold path_Compare.f slices_Compare_string_string.f
    rw [x1,y1]
    simp only [Option.bind_some]
    rw [show slices_Compare_string_string.l0 k (prt a) (prt b) (prt a) ((prt a).length:Int) 0 = some (cmpP a b) from r1]
    rfl
  · unfold creelref_PathOrder.f
    rw [x2,y2]
    exact r2
theorem cmp_ev (a b:ByteArray) (ha:a.size ≤ 1048576) (hb:b.size ≤ 1048576):Ev (fun k=>path_Compare.f k a b) (cmpP a b)∧Ev (fun k=>creelref_PathOrder.f k a b) (cmpP a b) :=
  ⟨⟨_,fun k hk=>(cmp_both a b ha hb k hk).1⟩,⟨_,fun k hk=>(cmp_both a b ha hb k hk).2⟩⟩
theorem cmpL_01:∀ x y:List ByteArray,cmpL x y = -1 ∨ cmpL x y = 0 ∨ cmpL x y = 1
  | [],[]=>Or.inr (Or.inl rfl)
  | [],_ :: _=>Or.inl rfl
  | _ :: _,[]=>Or.inr (Or.inr rfl)
  | p :: x,q :: y=>by
    unfold cmpL
    split
    · exact Or.inl rfl
    · split
      · exact Or.inr (Or.inr rfl)
      · exact cmpL_01 x y
theorem cmpP_01 (a b:ByteArray):cmpP a b = -1 ∨ cmpP a b = 0 ∨ cmpP a b = 1:=cmpL_01 _ _
def upOf (s:ByteArray):ByteArray:=(path_Up.f s).getD (⟨#[]⟩:ByteArray)
theorem up_ev (s:ByteArray) (hs:s.size ≤ 1048576):path_Up.f s = some (upOf s)∧∃ b,Ev (fun k=>creelref_PathSplit.f k s) (upOf s,b):=by
  rcases up_only s (s.size + 3) hs (by omega) with ⟨e,h1,h2⟩|⟨i,hi,e,h1,h2⟩
  · have e1:upOf s = (⟨#[]⟩:ByteArray):=by unfold upOf;rw [h1];rfl
    refine ⟨by rw [e1,h1],s,s.size + 3,fun k hk=>?_⟩
    rcases up_only s k hs (by omega) with ⟨_,_,g2⟩|⟨j,hj,e',_,_⟩
    · rw [e1];exact g2
    · omega
  · have e1:upOf s = s.extract 0 i:=by unfold upOf;rw [h1];rfl
    refine ⟨by rw [e1,h1],s.extract (i + 1) s.size,s.size + 3,fun k hk=>?_⟩
    rcases up_only s k hs (by omega) with ⟨e',_,_⟩|⟨j,hj,e',_,g2⟩
    · omega
    · obtain rfl:i = j:=by omega
      rw [e1];exact g2
theorem less_irrefl (a:List UInt8):Op.bytesLess a a = false:=by
  have:=Go.Proofs.YtlfeijjilndljaaDoorW.Mine.bytesLess_swap a a
  cases h:Op.bytesLess a a with
  | false=>rfl
  | true=>rw [h] at this;simp at this
theorem less_total {a b:List UInt8} (h1:¬ Op.bytesLess a b = true) (h2:¬ Op.bytesLess b a = true):a = b:=by
  have:=Go.Proofs.YtlfeijjilndljaaDoorW.Mine.bytesLess_swap a b
  rw [Bool.eq_false_iff.mpr h1,Bool.eq_false_iff.mpr h2] at this
  simpa using this
theorem less_trans:∀ a b c:List UInt8,Op.bytesLess a b = true→Op.bytesLess b c = true→Op.bytesLess a c = true
  | [],[],_,h,_=>by simp [Op.bytesLess] at h
  | [],_ :: _,[],_,h=>by simp [Op.bytesLess] at h
  | [],_ :: _,_ :: _,_,_=>by simp [Op.bytesLess]
  | _ :: _,[],_,h,_=>by simp [Op.bytesLess] at h
  | _ :: _,_ :: _,[],_,h=>by simp [Op.bytesLess] at h
  | x :: a,y :: b,z :: c,h1,h2=>by
    simp only [Op.bytesLess,Bool.or_eq_true,Bool.and_eq_true,decide_eq_true_eq,beq_iff_eq] at h1 h2 ⊢
    rcases h1 with p|⟨rfl,p⟩
    · rcases h2 with q|⟨rfl,q⟩
      · exact Or.inl (by rw [UInt8.lt_iff_toNat_lt] at p q ⊢;omega)
      · exact Or.inl p
    · rcases h2 with q|⟨rfl,q⟩
      · exact Or.inl q
      · exact Or.inr ⟨rfl,less_trans a b c p q⟩
theorem cmpL_self:∀ x:List ByteArray,cmpL x x = 0
  | []=>rfl
  | p :: x=>by
    unfold cmpL
    rw [less_irrefl,if_neg (by decide),if_neg (by decide)]
    exact cmpL_self x
theorem less_asymm {a b:List UInt8} (h:Op.bytesLess a b = true):¬ Op.bytesLess b a = true:=fun h2=>by
  have:=less_trans a b a h h2
  rw [less_irrefl] at this
  cases this
theorem cmpL_swap:∀ x y:List ByteArray,cmpL x y = - cmpL y x
  | [],[]=>rfl
  | [],_ :: _=>rfl
  | _ :: _,[]=>rfl
  | p :: x,q :: y=>by
    unfold cmpL
    by_cases h1:Op.bytesLess p.toList q.toList = true
    · rw [if_pos h1,if_neg (less_asymm h1),if_pos h1]
    · rw [if_neg h1]
      by_cases h2:Op.bytesLess q.toList p.toList = true
      · rw [if_pos h2,if_pos h2];rfl
      · rw [if_neg h2,if_neg h2,if_neg h1]
        exact cmpL_swap x y
theorem cmpL_trans:∀ x y z:List ByteArray,cmpL x y = -1→cmpL y z = -1→cmpL x z = -1
  | [],[],_,h,_=>by simp [cmpL] at h
  | [],_ :: _,[],_,h=>by simp [cmpL] at h
  | [],_ :: _,_ :: _,_,_=>rfl
  | _ :: _,[],_,h,_=>by simp [cmpL] at h
  | _ :: _,_ :: _,[],_,h=>by simp [cmpL] at h
  | p :: x,q :: y,r :: z,h1,h2=>by
    unfold cmpL at h1 h2 ⊢
    by_cases a:Op.bytesLess p.toList q.toList = true
    · by_cases b:Op.bytesLess q.toList r.toList = true
      · rw [if_pos (less_trans _ _ _ a b)]
      · rw [if_neg b] at h2
        split at h2
        · cases h2
        · rename_i c
          have e:=less_total b c
          rw [← e,if_pos a]
    · rw [if_neg a] at h1
      split at h1
      · cases h1
      · rename_i c
        have e:=less_total a c
        rw [e]
        by_cases b:Op.bytesLess q.toList r.toList = true
        · rw [if_pos b]
        · rw [if_neg b] at h2 ⊢
          split at h2
          · cases h2
          · rename_i d
            rw [if_neg d]
            exact cmpL_trans x y z h1 h2
theorem cmpP_self (a:ByteArray):cmpP a a = 0:=cmpL_self _
theorem cmpP_swap (a b:ByteArray):cmpP a b = - cmpP b a:=cmpL_swap _ _
theorem cmpP_trans {a b c:ByteArray} (h1:cmpP a b = -1) (h2:cmpP b c = -1):cmpP a c = -1:=cmpL_trans _ _ _ h1 h2
theorem cmpP_ne {a b:ByteArray} (h:cmpP a b = -1):a ≠ b:=fun e=>by rw [e,cmpP_self] at h;cases h
theorem rising {α:Type} (p:α→ByteArray) (g:Nat→α) (n:Nat) (h:∀ i,0 < i→i < n→cmpP (p (g (i - 1))) (p (g i)) = -1):∀ d i j,j = i + d + 1→j < n→cmpP (p (g i)) (p (g j)) = -1
  | 0,i,j,e,hj=>by
    subst e
    exact h (i + 0 + 1) (by omega) hj
  | d + 1,i,j,e,hj=>by
    have h1:=rising p g n h d i (j - 1) (by omega) (by omega)
    have h2:=h j (by omega) hj
    exact cmpP_trans h1 h2
abbrev Node:=S56
def nd (l:List Node) (i:Nat):Node:=l.getD i z56
theorem rd_nd (l:List Node) (i:Nat):rd_T56 l (i:Int) = nd l i:=by unfold rd_T56 nd;rw [Int.toNat_natCast]
theorem nd_mem (l:List Node) (i:Nat) (h:i < l.length):nd l i ∈ l:=by
  unfold nd
  rw [List.getD_eq_getElem?_getD,List.getElem?_eq_getElem h]
  exact List.getElem_mem h
theorem nd_get (l:List Node) (i:Nat) (h:i < l.length):l[i] = nd l i:=by
  unfold nd
  rw [List.getD_eq_getElem?_getD,List.getElem?_eq_getElem h]
  rfl
theorem take_nd (l:List Node) (n:Nat) (h:n < l.length):l.take (n + 1) = l.take n ++ [nd l n]:=by
  rw [List.take_succ_eq_append_getElem h,nd_get l n h]
def okN (x:Node):Prop:=x.f0.size ≤ 140737488351232∧x.f3.size ≤ 140737488351232∧x.f4.f3.size ≤ 140737488351232∧x.f4.f4.size ≤ 140737488351232∧(Lit.int .i64 x.f2).wf = true
def nodeX (x:Node):Int:=nodeR x.f0 x.f1 x.f2 x.f3 x.f4.f0 x.f4.f1 x.f4.f2 x.f4.f3 x.f4.f4 x.f4.f5 x.f4.f6 x.f5.length
theorem right_at (x:Node) (h:okN x):Ev (fun k=>tree_Check.right k x) (nodeX x):=right_ev x.f0 x.f1 x.f2 x.f3 x.f4.f0 x.f4.f1 x.f4.f2 x.f4.f3 x.f4.f4 x.f4.f5 x.f4.f6 x.f5 h.1
theorem refnode_at (x:Node) (h:okN x):Ev (fun k=>rTF.right k x) (nodeX x):=refnode_ev x.f0 x.f1 x.f2 x.f3 x.f4.f0 x.f4.f1 x.f4.f2 x.f4.f3 x.f4.f4 x.f4.f5 x.f4.f6 x.f5 h.1 h.2.1 h.2.2.1 h.2.2.2.1
theorem pathR_size (s:ByteArray) (h:pathR s = 0):1 ≤ s.size∧s.size ≤ 400:=by
  unfold pathR at h
  split at h
  · cases h
  · omega
theorem nodeX_path (x:Node) (h:nodeX x = 0):pathR x.f0 = 0:=by
  unfold nodeX nodeR at h
  split at h
  · assumption
  · contradiction
def alikeB (y x:Node):Bool:=rTF.meta y x && rTF.data y x
theorem alike_f (y x:Node):tree_Check.alike y x = some (alikeB y x):=by
  show (if rTF.meta y x = true then some (rTF.data y x) else some false) = some (alikeB y x)
  unfold alikeB
  by_cases h:rTF.meta y x = true
  · rw [if_pos h,h,Bool.true_and]
  · rw [if_neg h,Bool.eq_false_iff.mpr h,Bool.false_and]
def akey (y:Node):Int × Int × Int × List UInt8 × List UInt8 × Int × Int × List UInt8:=(y.f4.f0,y.f4.f1,y.f4.f2,y.f4.f3.toList,y.f4.f4.toList,y.f4.f5,y.f4.f6,(strOfNums y.f5).toList)
theorem alikeB_iff (y x:Node):alikeB y x = true ↔ akey y = akey x:=by
  unfold alikeB rTF.meta rTF.data akey
  simp only [Bool.and_eq_true,beq_iff_eq,Prod.mk.injEq]
  constructor
  · rintro ⟨⟨a,b,c,d,e,f,g⟩,h⟩;exact ⟨a,b,c,d,e,f,g,h⟩
  · rintro ⟨a,b,c,d,e,f,g,h⟩;exact ⟨⟨a,b,c,d,e,f,g⟩,h⟩
def isP (s:ByteArray) (y:Node):Bool:=decide (y.f0.toList = s.toList)
def findP (l:List Node) (s:ByteArray):Nat:=l.findIdx (isP s)
theorem findP_le (l:List Node) (s:ByteArray):findP l s ≤ l.length:=List.findIdx_le_length
theorem findP_at (l:List Node) (s:ByteArray) (i:Nat) (hi:i < l.length) (h:(nd l i).f0.toList = s.toList) (hb:∀ j,j < i→(nd l j).f0.toList ≠ s.toList):findP l s = i:=by
  unfold findP
  rw [List.findIdx_eq hi]
  refine ⟨by rw [nd_get l i hi];exact decide_eq_true h,fun j hj=>?_⟩
  rw [nd_get l j (by omega)]
  exact decide_eq_false (hb j hj)
theorem findP_no (l:List Node) (s:ByteArray) (hb:∀ j,j < l.length→(nd l j).f0.toList ≠ s.toList):findP l s = l.length:=by
  unfold findP
  rw [List.findIdx_eq_length]
  intro y hy
  obtain ⟨j,hj,rfl⟩:=List.getElem_of_mem hy
  rw [nd_get l j hj]
  exact decide_eq_false (hb j hj)
theorem find_loop (l:List Node) (s:ByteArray) (hl:l.length ≤ 1099511627776) (d:Nat):∀ (k i:Nat),l.length - i = d→i ≤ l.length→d < k→(∀ j,j < i→(nd l j).f0.toList ≠ s.toList) →
    tree_Find.l0 k l s (i:Int) = some (if findP l s < l.length then (findP l s:Int) else -1)∧creelref_TreeFind.l0 k l s (i:Int) = some (findP l s:Int):=by
  induction d with
  | zero =>
    intro k i hd hi hk hb
    obtain ⟨k,rfl⟩:∃ m,k = m + 1:=⟨k - 1,by omega⟩
    have e:i = l.length:=by omega
    subst e
    have hf:=findP_no l s hb
    simp only [tree_Find.l0,creelref_TreeFind.l0]
    rw [if_neg (by omega),if_neg (by omega),if_neg (by omega),hf]
    exact ⟨rfl,rfl⟩
  | succ d ih =>
    intro k i hd hi hk hb
    obtain ⟨k,rfl⟩:∃ m,k = m + 1:=⟨k - 1,by omega⟩
    have hlt:(i:Int) < (l.length:Int):=by omega
    have hw:wrap64 ((i:Int) + 1) = ((i + 1:Nat):Int):=by rw [wrap_is (by omega) (by omega)];omega
    simp only [tree_Find.l0,creelref_TreeFind.l0]
    rw [if_pos hlt,if_pos hlt,if_pos (show (0:Int) ≤ (i:Int) by omega),if_pos (show (0:Int) ≤ (i:Int) by omega),rd_nd]
    by_cases h:(nd l i).f0.toList = s.toList
    · have hf:=findP_at l s i (by omega) h hb
      rw [if_pos h,if_pos h,hf,if_pos (by omega)]
      exact ⟨rfl,rfl⟩
    · rw [if_neg h,if_neg h,hw]
      refine ih k (i + 1) (by omega) (by omega) (by omega) (fun j hj=>?_)
      by_cases e:j = i
      · subst e;exact h
      · exact hb j (by omega)
def findR (l:List Node) (s:ByteArray):Int × Int:=if findP l s < l.length then ((findP l s:Int),0) else (0,5)
theorem find_both (l:List Node) (s:ByteArray) (hl:l.length ≤ 1099511627776) (k:Nat) (hk:l.length < k):tree_Find.f k l s = some (findR l s)∧creelref_TreeFind.f k l s = some (findP l s:Int):=by
  obtain ⟨h1,h2⟩:=find_loop l s hl l.length k 0 (by omega) (by omega) hk (fun j hj=>absurd hj (Nat.not_lt_zero j))
  refine ⟨?_,h2⟩
  unfold tree_Find.f
  rw [show tree_Find.l0 k l s 0 = _ from h1]
  simp only [Option.bind_some]
  unfold findR
  by_cases h:findP l s < l.length
  · rw [if_pos h,if_pos h,if_neg (by omega)]
  · rw [if_neg h,if_neg h,if_pos (by decide)]
def twoR (l:List Node) (n:Nat) (x:Node):Bool:=if 0 < n then decide (0 ≤ cmpP (nd l (n - 1)).f0 x.f0) else false
def upR (l:List Node) (n:Nat) (x:Node):Bool:=if (upOf x.f0).toList = ([]:List UInt8) then false else if findP (l.take n) (upOf x.f0) < n then ((nd l (findP (l.take n) (upOf x.f0))).f1 != 2) else true
def sameR (l:List Node) (n:Nat) (x:Node):Bool:=if x.f2 = 0 then false else (l.take n).any fun y=>decide (y.f2 = x.f2) && !alikeB y x
def stepR (l:List Node) (n:Nat) (x:Node):Int:=if nodeX x = 0 then (if twoR l n x = true then 6 else if upR l n x = true then 10 else if sameR l n x = true then 11 else 0) else nodeX x
def treeFrom (l:List Node):Nat→Nat→Int
  | 0,_=>0
  | d + 1,n=>if stepR l n (nd l n) = 0 then treeFrom l d (n + 1) else stepR l n (nd l n)
def treeR (l:List Node):Int:=if 40 < l.length then 1 else treeFrom l l.length 0
theorem ref_l1 (l:List Node) (x:Node) (n:Nat) (hn:n ≤ l.length) (d:Nat):∀ j,n - j = d→j ≤ n→Ev (fun k=>rTF.l1 k l x n j) (if ((l.take n).drop j).any (fun y=>decide (y.f2 = x.f2) && !alikeB y x) = true then 11 else 0):=by
  induction d with
  | zero =>
    intro j hd hj
    have e:j = n:=by omega
    subst e
    refine Ev.step (f:=fun _=>some 0) (fun k=>by simp only [rTF.l1];rw [if_neg (by omega)]) ?_
    rw [List.drop_of_length_le (by simp;omega)]
    exact Ev.now 0
  | succ d ih =>
    intro j hd hj
    have hdrop:(l.take n).drop j = nd l j :: (l.take n).drop (j + 1):=by
      rw [List.drop_eq_getElem_cons (by simp;omega),List.getElem_take,nd_get]
    have hih:=ih (j + 1) (by omega) (by omega)
    rw [hdrop,List.any_cons]
    by_cases h1:(nd l j).f2 = x.f2
    · by_cases h2:alikeB (nd l j) x = true
      · have e:(decide ((nd l j).f2 = x.f2) && !alikeB (nd l j) x) = false:=by rw [h2];simp
        rw [e,Bool.false_or]
        have h2':=h2
        unfold alikeB at h2'
        rw [Bool.and_eq_true] at h2'
        refine Ev.step (f:=fun k=>rTF.l1 k l x n (j + 1)) (fun k=>?_) hih
        simp only [rTF.l1]
        rw [if_pos (by omega),rd_nd,if_pos h1,if_pos h2'.1,if_pos h2'.2]
      · have e:(decide ((nd l j).f2 = x.f2) && !alikeB (nd l j) x) = true:=by rw [Bool.eq_false_iff.mpr h2];simp [h1]
        rw [e,Bool.true_or,if_pos rfl]
        refine Ev.step (f:=fun _=>some 11) (fun k=>?_) (Ev.now 11)
        simp only [rTF.l1]
        rw [if_pos (by omega),rd_nd,if_pos h1]
        by_cases h3:rTF.meta (nd l j) x = true
        · have h4:¬ rTF.data (nd l j) x = true:=fun h4=>h2 (by unfold alikeB;rw [h3,h4];rfl)
          rw [if_pos h3,if_neg h4]
        · rw [if_neg h3]
    · have e:(decide ((nd l j).f2 = x.f2) && !alikeB (nd l j) x) = false:=by rw [decide_eq_false h1];rfl
      rw [e,Bool.false_or]
      refine Ev.step (f:=fun k=>rTF.l1 k l x n (j + 1)) (fun k=>?_) hih
      simp only [rTF.l1]
      rw [if_pos (by omega),rd_nd,if_neg h1]
theorem size_le (l:List Node) {n:Nat} (hn:∀ j,j < n→nodeX (nd l j) = 0) (i:Nat) (hi:i < n):(nd l i).f0.size ≤ 1048576:=by
  have:=pathR_size _ (nodeX_path _ (hn i hi))
  omega
theorem two_ref (l:List Node) (x:Node) (n:Nat) (hx:x.f0.size ≤ 1048576) (hb:∀ j,j < n→nodeX (nd l j) = 0):Ev (fun k=>rTF.two k l x n) (twoR l n x)∧Ev (fun k=>tree_Check.two k l x n) (twoR l n x):=by
  unfold twoR rTF.two tree_Check.two
  by_cases h:0 < n
  · simp only [if_pos h,rd_nd]
    obtain ⟨h1,h2⟩:=cmp_ev (nd l (n - 1)).f0 x.f0 (size_le l hb (n - 1) (by omega)) hx
    constructor
    · refine Ev.bind h2 (Ev.const ?_)
      congr 1
      rcases cmpP_01 (nd l (n - 1)).f0 x.f0 with e|e|e <;> rw [e] <;> decide
    · exact Ev.bind h1 (Ev.const rfl)
  · simp only [if_neg h]
    exact ⟨Ev.now _,Ev.now _⟩
theorem up_both (l:List Node) (x:Node) (n:Nat) (hx:x.f0.size ≤ 1048576) (hn:n ≤ l.length) (hl:l.length ≤ 40):Ev (fun k=>rTF.up k l x n) (upR l n x)∧Ev (fun k=>tree_Check.up k l x n) (upR l n x):=by
  obtain ⟨h1,b,h2⟩:=up_ev x.f0 hx
  have hlen:(l.take n).length = n:=by simp;omega
  have f1:Ev (fun k=>tree_Find.f k (l.take n) (upOf x.f0)) (findR (l.take n) (upOf x.f0)):=⟨50,fun k hk=>(find_both (l.take n) (upOf x.f0) (by omega) k (by omega)).1⟩
  have f2:Ev (fun k=>creelref_TreeFind.f k (l.take n) (upOf x.f0)) (findP (l.take n) (upOf x.f0):Int):=⟨50,fun k hk=>(find_both (l.take n) (upOf x.f0) (by omega) k (by omega)).2⟩
  have hle:=findP_le (l.take n) (upOf x.f0)
  rw [hlen] at hle
  constructor
  · unfold rTF.up
    refine Ev.bind h2 (Ev.bind f2 ?_)
    by_cases e:(upOf x.f0).toList = ([]:List UInt8)
    · rw [show upR l n x = false by unfold upR;rw [if_pos e]]
      exact Ev.ifp e (Ev.now _)
    · refine Ev.ifn e ?_
      by_cases g:findP (l.take n) (upOf x.f0) < n
      · rw [show upR l n x = ((nd l (findP (l.take n) (upOf x.f0))).f1 != 2) by unfold upR;rw [if_neg e,if_pos g]]
        refine Ev.ifn (by omega) (Ev.ifp (by omega) (Ev.const ?_))
        rw [rd_nd]
      · rw [show upR l n x = true by unfold upR;rw [if_neg e,if_neg g]]
        exact Ev.ifp (by omega) (Ev.now _)
  · unfold tree_Check.up
    refine Ev.bind (Ev.const h1) ?_
    by_cases e:(upOf x.f0).toList = ([]:List UInt8)
    · rw [show upR l n x = false by unfold upR;rw [if_pos e]]
      exact Ev.ifp e (Ev.now _)
    · refine Ev.ifn e (Ev.bind f1 ?_)
      by_cases g:findP (l.take n) (upOf x.f0) < n
      · rw [show upR l n x = ((nd l (findP (l.take n) (upOf x.f0))).f1 != 2) by unfold upR;rw [if_neg e,if_pos g]]
        have hr:findR (l.take n) (upOf x.f0) = ((findP (l.take n) (upOf x.f0):Int),0):=by unfold findR;rw [hlen,if_pos g]
        rw [hr]
        refine Ev.ifp rfl (Ev.ifp (show 0 ≤ (findP (l.take n) (upOf x.f0):Int)∧(findP (l.take n) (upOf x.f0):Int) < (l.length:Int) by omega) (Ev.const ?_))
        show some ((rd_T56 l (findP (l.take n) (upOf x.f0):Int)).f1 != 2) = _
        rw [rd_nd]
      · rw [show upR l n x = true by unfold upR;rw [if_neg e,if_neg g]]
        have hr:findR (l.take n) (upOf x.f0) = (0,5):=by unfold findR;rw [hlen,if_neg g]
        rw [hr]
        exact Ev.ifn (by decide) (Ev.now _)
theorem ref_step (l:List Node) (n:Nat) (hl:l.length ≤ 40) (hn:n < l.length) (hg:∀ y ∈ l,okN y) (hb:∀ j,j < n→nodeX (nd l j) = 0):Ev (fun k=>rTF.step k l (nd l n) n) (stepR l n (nd l n)):=by
  unfold rTF.step stepR
  refine Ev.bind (refnode_at _ (hg _ (nd_mem l n hn))) ?_
  by_cases h:nodeX (nd l n) = 0
  · rw [if_pos h]
    have hx:(nd l n).f0.size ≤ 1048576:=by have:=pathR_size _ (nodeX_path _ h);omega
    refine Ev.ifp h (Ev.bind (two_ref l _ n hx hb).1 ?_)
    by_cases h1:twoR l n (nd l n) = true
    · rw [if_pos h1];exact Ev.ifp h1 (Ev.now _)
    · rw [if_neg h1]
      refine Ev.ifn h1 (Ev.bind (up_both l _ n hx (by omega) hl).1 ?_)
      by_cases h2:upR l n (nd l n) = true
      · rw [if_pos h2];exact Ev.ifp h2 (Ev.now _)
      · rw [if_neg h2]
        refine Ev.ifn h2 ?_
        unfold sameR
        by_cases h3:(nd l n).f2 = 0
        · rw [if_pos h3]
          exact Ev.ifp h3 (Ev.now _)
        · rw [if_neg h3]
          exact Ev.ifn h3 (ref_l1 l (nd l n) n (by omega) n 0 (by omega) (by omega))
  · rw [if_neg h]
    exact Ev.ifn h (Ev.now _)
theorem step_zero (l:List Node) (n:Nat) (x:Node) (h:stepR l n x = 0):nodeX x = 0∧twoR l n x = false∧upR l n x = false∧sameR l n x = false:=by
  unfold stepR at h
  split at h
  · rename_i h0
    split at h
    · cases h
    · rename_i h1
      split at h
      · cases h
      · rename_i h2
        split at h
        · cases h
        · rename_i h3
          exact ⟨h0,Bool.eq_false_iff.mpr h1,Bool.eq_false_iff.mpr h2,Bool.eq_false_iff.mpr h3⟩
  · contradiction
theorem ref_from (l:List Node) (hl:l.length ≤ 40) (hg:∀ y ∈ l,okN y) (d:Nat):∀ n,n + d = l.length→(∀ j,j < n→nodeX (nd l j) = 0)→Ev (fun k=>rTF.l0 k l n) (treeFrom l d n):=by
  induction d with
  | zero =>
    intro n hd hb
    exact Ev.step (f:=fun _=>some 0) (fun k=>by simp only [rTF.l0];rw [if_neg (by omega)]) (Ev.now 0)
  | succ d ih =>
    intro n hd hb
    refine Ev.step (f:=fun k=>(rTF.step k l (nd l n) n).bind fun e=>if e = 0 then rTF.l0 k l (n + 1) else some e) (fun k=>by simp only [rTF.l0];rw [if_pos (by omega),rd_nd]) ?_
    refine Ev.bind (ref_step l n hl (by omega) hg hb) ?_
    unfold treeFrom
    by_cases h:stepR l n (nd l n) = 0
    · rw [if_pos h]
      refine Ev.ifp h (ih (n + 1) (by omega) (fun j hj=>?_))
      by_cases e:j = n
      · subst e;exact (step_zero l _ _ h).1
      · exact hb j (by omega)
    · rw [if_neg h]
      exact Ev.ifn h (Ev.now _)
theorem ref_tree (l:List Node) (hg:∀ y ∈ l,okN y):Ev (fun k=>rTF.f k l) (treeR l):=by
  unfold rTF.f treeR
  by_cases h:40 < l.length
  · rw [if_pos h];exact Ev.ifp h (Ev.now _)
  · rw [if_neg h]
    exact Ev.ifn h (ref_from l (by omega) hg l.length 0 (by omega) (fun j hj=>absurd hj (Nat.not_lt_zero j)))
def MapRel (l:List Node) (n:Nat) (m:List (Int × Node)):Prop:=∀ s,s ≠ 0→Go.Proofs.YtlfeijjilndljaaDoorW.MapOwn.get m s = (l.take n).find? (fun y=>decide (y.f2 = s))
def AllAlike (l:List Node) (n:Nat):Prop:=∀ y ∈ l.take n,∀ z ∈ l.take n,y.f2 = z.f2→y.f2 ≠ 0→akey y = akey z
theorem same_is (l:List Node) (n:Nat) (hn:n < l.length) (m:List (Int × Node)) (hm:MapRel l n m) (ha:AllAlike l n) (hw:(Lit.int .i64 (nd l n).f2).wf = true) :
    ∃ r,tree_Check.same m (nd l n) = some (if sameR l n (nd l n) = true then 11 else 0,r)∧(sameR l n (nd l n) = false→MapRel l (n + 1) r∧AllAlike l (n + 1)):=by
  have htk:=take_nd l n hn
  have keep:∀ (r:List (Int × Node)),(∀ s,s ≠ 0→s ≠ (nd l n).f2→Go.Proofs.YtlfeijjilndljaaDoorW.MapOwn.get r s = (l.take n).find? (fun y=>decide (y.f2 = s)))→((nd l n).f2 ≠ 0→Go.Proofs.YtlfeijjilndljaaDoorW.MapOwn.get r (nd l n).f2 = (l.take (n + 1)).find? (fun y=>decide (y.f2 = (nd l n).f2)))→MapRel l (n + 1) r:=by
    intro r h1 h2 s hs
    by_cases e:s = (nd l n).f2
    · subst e;exact h2 hs
    · rw [h1 s hs e,htk,List.find?_append]
      have:[nd l n].find? (fun y=>decide (y.f2 = s)) = none:=by simp [Ne.symm e]
      rw [this,Option.or_none]
  unfold tree_Check.same sameR
  by_cases h0:(nd l n).f2 = 0
  · rw [if_pos h0,if_pos h0]
    refine ⟨m,rfl,fun _=>⟨keep m (fun s hs _=>hm s hs) (fun h=>absurd h0 h),?_⟩⟩
    intro y hy z hz e he
    rw [htk,List.mem_append,List.mem_singleton] at hy hz
    rcases hy with hy|rfl
    · rcases hz with hz|rfl
      · exact ha y hy z hz e he
      · exact absurd (e.trans h0) he
    · exact absurd h0 he
  · rw [if_neg h0,if_neg h0,if_pos hw,hm _ h0]
    cases hf:(l.take n).find? (fun y=>decide (y.f2 = (nd l n).f2)) with
    | none =>
      have hno:∀ y ∈ l.take n,y.f2 ≠ (nd l n).f2:=fun y hy e=>by
        have:=List.find?_eq_none.1 hf y hy
        exact this (decide_eq_true e)
      have hany:((l.take n).any fun y=>decide (y.f2 = (nd l n).f2) && !alikeB y (nd l n)) = false:=by
        rw [List.any_eq_false]
        intro y hy
        rw [decide_eq_false (hno y hy)]
        simp
      rw [hany]
      refine ⟨_,rfl,fun _=>⟨keep _ (fun s hs e=>?_) (fun _=>?_),?_⟩⟩
      · rw [Go.Proofs.YtlfeijjilndljaaDoorW.MapOwn.get_other _ _ (Ne.symm e)];exact hm s hs
      · rw [Go.Proofs.YtlfeijjilndljaaDoorW.MapOwn.get_same,htk,List.find?_append,hf]
        simp
      · intro y hy z hz e he
        rw [htk,List.mem_append,List.mem_singleton] at hy hz
        rcases hy with hy|rfl
        · rcases hz with hz|rfl
          · exact ha y hy z hz e he
          · exact absurd e (hno y hy)
        · rcases hz with hz|rfl
          · exact absurd e.symm (hno z hz)
          · rfl
    | some y0 =>
      have hy0:=List.mem_of_find?_eq_some hf
      have hs0:y0.f2 = (nd l n).f2:=by simpa using List.find?_some hf
      simp only [alike_f,Option.bind_some]
      cases hal:alikeB y0 (nd l n) with
      | true =>
        have hk:=(alikeB_iff _ _).1 hal
        have hany:((l.take n).any fun y=>decide (y.f2 = (nd l n).f2) && !alikeB y (nd l n)) = false:=by
          rw [List.any_eq_false]
          intro y hy
          by_cases e:y.f2 = (nd l n).f2
          · have:alikeB y (nd l n) = true:=(alikeB_iff _ _).2 ((ha y hy y0 hy0 (e.trans hs0.symm) (by rw [e];exact h0)).trans hk)
            rw [this];simp
          · rw [decide_eq_false e];simp
        rw [hany,if_pos rfl]
        refine ⟨m,rfl,fun _=>⟨keep m (fun s hs _=>hm s hs) (fun _=>?_),?_⟩⟩
        · rw [hm _ h0,htk,List.find?_append,hf];rfl
        · intro y hy z hz e he
          rw [htk,List.mem_append,List.mem_singleton] at hy hz
          rcases hy with hy|rfl
          · rcases hz with hz|rfl
            · exact ha y hy z hz e he
            · exact (ha y hy y0 hy0 (e.trans hs0.symm) he).trans hk
          · rcases hz with hz|rfl
            · exact ((ha z hz y0 hy0 (e.symm.trans hs0.symm) (by rw [← e];exact he)).trans hk).symm
            · rfl
      | false =>
        have hany:((l.take n).any fun y=>decide (y.f2 = (nd l n).f2) && !alikeB y (nd l n)) = true:=by
          rw [List.any_eq_true]
          exact ⟨y0,hy0,by rw [hal,decide_eq_true hs0];rfl⟩
        rw [hany,if_neg (by decide)]
        exact ⟨m,rfl,fun h=>absurd h (by decide)⟩
theorem prog_step (l:List Node) (n:Nat) (m:List (Int × Node)) (hl:l.length ≤ 40) (hn:n < l.length) (hg:∀ y ∈ l,okN y) (hb:∀ j,j < n→nodeX (nd l j) = 0) (hm:MapRel l n m) (ha:AllAlike l n) :
    ∃ r,Ev (fun k=>tree_Check.step k l m (nd l n) n) (stepR l n (nd l n),r)∧(stepR l n (nd l n) = 0→MapRel l (n + 1) r∧AllAlike l (n + 1)):=by
  obtain ⟨r,hr,hk⟩:=same_is l n hn m hm ha (hg _ (nd_mem l n hn)).2.2.2.2
  unfold tree_Check.step stepR
  by_cases h:nodeX (nd l n) = 0
  · have hx:(nd l n).f0.size ≤ 1048576:=by have:=pathR_size _ (nodeX_path _ h);omega
    simp only [if_pos h]
    by_cases h1:twoR l n (nd l n) = true
    · simp only [if_pos h1]
      exact ⟨m,Ev.bind (right_at _ (hg _ (nd_mem l n hn))) (Ev.ifp h (Ev.bind (two_ref l _ n hx hb).2 (Ev.ifp h1 (Ev.now _)))),fun e=>absurd e (by decide)⟩
    · simp only [if_neg h1]
      by_cases h2:upR l n (nd l n) = true
      · simp only [if_pos h2]
        exact ⟨m,Ev.bind (right_at _ (hg _ (nd_mem l n hn))) (Ev.ifp h (Ev.bind (two_ref l _ n hx hb).2 (Ev.ifn h1 (Ev.bind (up_both l _ n hx (by omega) hl).2 (Ev.ifp h2 (Ev.now _)))))),fun e=>absurd e (by decide)⟩
      · simp only [if_neg h2]
        refine ⟨r,Ev.bind (right_at _ (hg _ (nd_mem l n hn))) (Ev.ifp h (Ev.bind (two_ref l _ n hx hb).2 (Ev.ifn h1 (Ev.bind (up_both l _ n hx (by omega) hl).2 (Ev.ifn h2 (Ev.const hr)))))),fun e=>?_⟩
        cases hs:sameR l n (nd l n) with
        | true=>rw [hs] at e;exact absurd e (by decide)
        | false=>exact hk hs
  · simp only [if_neg h]
    exact ⟨m,Ev.bind (right_at _ (hg _ (nd_mem l n hn))) (Ev.ifn h (Ev.now _)),fun e=>absurd e h⟩
theorem prog_from (l:List Node) (hl:l.length ≤ 40) (hg:∀ y ∈ l,okN y) (d:Nat):∀ n m,n + d = l.length→(∀ j,j < n→nodeX (nd l j) = 0)→MapRel l n m→AllAlike l n→Ev (fun k=>tree_Check.l0 k l m n) (treeFrom l d n):=by
  induction d with
  | zero =>
    intro n m hd hb hm ha
    exact Ev.step (f:=fun _=>some 0) (fun k=>by simp only [tree_Check.l0];rw [if_neg (by omega)]) (Ev.now 0)
  | succ d ih =>
    intro n m hd hb hm ha
    obtain ⟨r,hr,hk⟩:=prog_step l n m hl (by omega) hg hb hm ha
    refine Ev.step (f:=fun k=>(tree_Check.step k l m (nd l n) n).bind fun r=>if r.1 = 0 then tree_Check.l0 k l r.2 (n + 1) else some r.1) (fun k=>by simp only [tree_Check.l0];rw [if_pos (by omega),rd_nd]) ?_
    refine Ev.bind hr ?_
    unfold treeFrom
    by_cases h:stepR l n (nd l n) = 0
    · rw [if_pos h]
      refine Ev.ifp h (ih (n + 1) r (by omega) (fun j hj=>?_) (hk h).1 (hk h).2)
      by_cases e:j = n
      · subst e;exact (step_zero l _ _ h).1
      · exact hb j (by omega)
    · rw [if_neg h]
      exact Ev.ifn h (Ev.now _)
theorem prog_tree (l:List Node) (hg:∀ y ∈ l,okN y):Ev (fun k=>tree_Check.f k l) (treeR l):=by
  unfold tree_Check.f treeR
  by_cases h:40 < l.length
  · rw [if_pos h];exact Ev.ifp h (Ev.now _)
  · rw [if_neg h]
    exact Ev.ifn h (prog_from l (by omega) hg l.length 0 [] (by omega) (fun j hj=>absurd hj (Nat.not_lt_zero j)) (fun s _=>rfl) (fun y hy=>absurd hy (by simp)))
theorem treeFrom_zero (l:List Node):∀ d n,treeFrom l d n = 0→∀ j,n ≤ j→j < n + d→stepR l j (nd l j) = 0
  | 0,n,_,j,h1,h2=>by omega
  | d + 1,n,h,j,h1,h2=>by
    unfold treeFrom at h
    by_cases h0:stepR l n (nd l n) = 0
    · rw [if_pos h0] at h
      by_cases e:j = n
      · subst e;exact h0
      · exact treeFrom_zero l d (n + 1) h j (by omega) (by omega)
    · rw [if_neg h0] at h
      exact absurd h h0
theorem tree_zero (l:List Node) (h:treeR l = 0):l.length ≤ 40∧∀ j,j < l.length→stepR l j (nd l j) = 0:=by
  unfold treeR at h
  by_cases h0:40 < l.length
  · rw [if_pos h0] at h;cases h
  · rw [if_neg h0] at h
    exact ⟨by omega,fun j hj=>treeFrom_zero l l.length 0 h j (by omega) (by omega)⟩
end Go.Proofs.YtlfeijjilndljaaDoor.Q
end
section
namespace Go.Proofs.YtlfeijjilndljaaDoor.Q
set_option linter.unusedVariables false
set_option linter.unusedSimpArgs false
open Go.RowKit Go.Proofs.YtlfeijjilndljaaDoor.All Go.Proofs.YtlfeijjilndljaaDoorW.PrintWords Go.Proofs.YtlfeijjilndljaaDoorW.PrintLast Go.Proofs.YtlfeijjilndljaaDoorW.PrintMore Go.Proofs.YtlfeijjilndljaaDoorW.PureBase
open Go.Proofs.YtlfeijjilndljaaDoorW.MapOwn (get get_nil get_same get_other)
def sm (l:List Node) (i:Nat):Int:=(nd l i).f2
def firstIdx (l:List Node) (s:Int):Nat:=l.findIdx (fun y=>decide (y.f2 = s))
def firstN (l:List Node) (i:Nat):Nat:=if sm l i = 0 then i else firstIdx l (sm l i)
theorem fi_le (l:List Node) (s:Int) (i:Nat) (hi:i < l.length) (h:sm l i = s):firstIdx l s ≤ i:=by
  by_cases c:firstIdx l s ≤ i
  · exact c
  · have:=List.not_of_lt_findIdx (p:=fun y:Node=>decide (y.f2 = s)) (xs:=l) (i:=i) (by unfold firstIdx at c;omega)
    rw [nd_get l i hi] at this
    exact absurd (show decide ((nd l i).f2 = s) = true from decide_eq_true h) (by simpa using this)
theorem fi_at (l:List Node) (s:Int) (h:firstIdx l s < l.length):sm l (firstIdx l s) = s:=by
  have this:decide ((l[firstIdx l s]'h).f2 = s) = true:=List.findIdx_getElem (p:=fun y:Node=>decide (y.f2 = s)) (xs:=l) (w:=h)
  rw [nd_get l _ h] at this
  exact of_decide_eq_true this
theorem fn_le (l:List Node) (i:Nat) (hi:i < l.length):firstN l i ≤ i:=by
  unfold firstN
  split
  · exact Nat.le_refl _
  · exact fi_le l _ i hi rfl
theorem fn_sm (l:List Node) (i:Nat) (hi:i < l.length):sm l (firstN l i) = sm l i:=by
  have:=fn_le l i hi
  unfold firstN at this ⊢
  split
  · rfl
  · rename_i h
    rw [if_neg h] at this
    exact fi_at l _ (by omega)
theorem fn_eq (l:List Node) (i j:Nat) (hi:i < l.length) (hj:j < l.length):firstN l j = firstN l i ↔ (j = i ∨ (sm l i ≠ 0∧sm l j = sm l i)):=by
  constructor
  · intro h
    have e:sm l j = sm l i:=by rw [← fn_sm l i hi,← fn_sm l j hj,h]
    by_cases z:sm l i = 0
    · left
      unfold firstN at h
      rw [if_pos z,if_pos (e.trans z)] at h
      exact h
    · exact Or.inr ⟨z,e⟩
  · rintro (rfl|⟨z,e⟩)
    · rfl
    · unfold firstN
      rw [if_neg z,if_neg (by rw [e];exact z),e]
def firstsL (l:List Node):List Int:=(List.range l.length).map fun i=>(firstN l i:Int)
theorem firstsL_len (l:List Node):(firstsL l).length = l.length:=by unfold firstsL;simp
theorem range_drop (n i:Nat) (h:i < n):(List.range n).drop i = i :: (List.range n).drop (i + 1):=by
  rw [List.drop_eq_getElem_cons (by simpa using h),List.getElem_range]
def knows (l:List Node) (i:Nat) (m:List (Int × Int)):Prop:=∀ s,s ≠ 0→get m s = if firstIdx l s < i then some (firstIdx l s:Int) else none
theorem knows_step (l:List Node) (i:Nat) (hi:i < l.length) (m m':List (Int × Int)) (h:knows l i m) (h1:∀ s,s ≠ 0→s ≠ sm l i→get m' s = get m s) (h2:sm l i ≠ 0→get m' (sm l i) = some (firstIdx l (sm l i):Int)):knows l (i + 1) m':=by
  intro s hs
  by_cases e:s = sm l i
  · subst e
    rw [h2 hs,if_pos (by have:=fi_le l _ i hi rfl;omega)]
  · rw [h1 s hs e,h s hs]
    have:firstIdx l s ≠ i:=fun e2=>e (by rw [← e2];exact (fi_at l s (by omega)).symm)
    by_cases c:firstIdx l s < i
    · rw [if_pos c,if_pos (by omega)]
    · rw [if_neg c,if_neg (by omega)]
theorem meet_one (l:List Node) (i:Nat) (hi:i < l.length) (hw:(Lit.int .i64 (sm l i)).wf = true) (m:List (Int × Int)) (h:knows l i m):∃ m',link_Firsts.meetF m (sm l i) (i:Int) = some ((firstN l i:Int),m')∧knows l (i + 1) m':=by
  unfold link_Firsts.meetF firstN
  by_cases z:sm l i = 0
  · rw [if_pos z,if_pos z]
    exact ⟨m,rfl,knows_step l i hi m m h (fun _ _ _=>rfl) (fun h=>absurd z h)⟩
  · rw [if_neg z,if_neg z,if_pos hw,h _ z]
    by_cases c:firstIdx l (sm l i) < i
    · rw [if_pos c]
      exact ⟨m,rfl,knows_step l i hi m m h (fun _ _ _=>rfl) (fun _=>by rw [h _ z,if_pos c])⟩
    · have e:firstIdx l (sm l i) = i:=by have:=fi_le l _ i hi rfl;omega
      rw [if_neg c,e]
      exact ⟨_,rfl,knows_step l i hi m _ h (fun s _ hs=>get_other m _ (fun x=>hs x.symm)) (fun _=>by rw [e];exact get_same m _ _)⟩
theorem run_loop (l:List Node) (hl:l.length ≤ 1000000) (hw:∀ i,i < l.length→(Lit.int .i64 (sm l i)).wf = true) (d:Nat):∀ (i:Nat) (m:List (Int × Int)) (acc:List Int),l.length - i = d→i ≤ l.length→acc.length = i→knows l i m →
    link_Firsts.run (l.drop i) (i:Int) m acc = some (acc ++ ((List.range l.length).drop i).map fun j=>(firstN l j:Int)):=by
  induction d with
  | zero =>
    intro i m acc hd hi ha hm
    have e:i = l.length:=by omega
    subst e
    rw [List.drop_length,List.drop_of_length_le (by simp)]
    simp [link_Firsts.run]
  | succ d ih =>
    intro i m acc hd hi ha hm
    have hi':i < l.length:=by omega
    obtain ⟨m',h1,h2⟩:=meet_one l i hi' (hw i hi') m hm
    rw [List.drop_eq_getElem_cons hi',nd_get l i hi',range_drop _ _ hi',List.map_cons]
    unfold link_Firsts.run
    rw [show link_Firsts.meetF m (nd l i).f2 (i:Int) = _ from h1]
    simp only [Option.bind_some]
    rw [if_pos (by omega),show ((i:Int) + 1) = ((i + 1:Nat):Int) by omega,ih (i + 1) m' _ (by omega) (by omega) (by simp;omega) h2]
    simp
def firstsR (l:List Node):List Int × Int:=if treeR l = 0 then (firstsL l,0) else ([],treeR l)
theorem sm_wf (l:List Node) (hg:∀ y ∈ l,okN y) (i:Nat) (hi:i < l.length):(Lit.int .i64 (sm l i)).wf = true:=(hg _ (nd_mem l i hi)).2.2.2.2
theorem firsts_prog (l:List Node) (hg:∀ y ∈ l,okN y):Ev (fun k=>link_Firsts.f k l) (firstsR l):=by
  unfold firstsR link_Firsts.f
  by_cases h:treeR l = 0
  · rw [if_pos h]
    obtain ⟨h40,_⟩:=tree_zero l h
    have e:=run_loop l (by omega) (sm_wf l hg) l.length 0 [] [] (by omega) (by omega) rfl (fun s hs=>by rw [get_nil,if_neg (by omega)])
    refine Ev.bind (prog_tree l hg) (Ev.ifp h (Ev.ifp (by omega) (Ev.const ?_)))
    rw [show link_Firsts.run l 0 [] [] = _ from e]
    rfl
  · rw [if_neg h]
    exact Ev.bind (prog_tree l hg) (Ev.ifn h (Ev.now _))
theorem rfirst_l1 (l:List Node) (hl:l.length ≤ 1000000) (acc:List Int) (i:Nat) (hi:i < l.length) (ha:acc.length ≤ i) (r:List Int × Int) (H:Ev (fun k=>creelref_LinkFirsts.l0 k l (acc ++ [(firstN l i:Int)]) ((i + 1:Nat):Int)) r) (d:Nat):∀ j,i - j = d→j ≤ firstN l i→Ev (fun k=>creelref_LinkFirsts.l1 k l acc (i:Int) (j:Int)) r:=by
  have hw:wrap64 ((i:Int) + 1) = ((i + 1:Nat):Int):=by rw [wrap_is (by omega) (by omega)];omega
  have hle:=fn_le l i hi
  induction d with
  | zero =>
    intro j hd hj
    have e:j = i:=by omega
    subst e
    have e2:firstN l j = j:=by omega
    rw [e2] at H
    refine Ev.step (fun k=>?_) H
    simp only [creelref_LinkFirsts.l1]
    rw [if_neg (by omega),if_pos (by omega),hw]
  | succ d ih =>
    intro j hd hj
    have hwj:wrap64 ((j:Int) + 1) = ((j + 1:Nat):Int):=by rw [wrap_is (by omega) (by omega)];omega
    by_cases z:sm l i = 0
    · refine Ev.step (f:=fun k=>creelref_LinkFirsts.l1 k l acc (i:Int) ((j + 1:Nat):Int)) (fun k=>?_) (ih (j + 1) (by omega) (by unfold firstN;rw [if_pos z];omega))
      simp only [creelref_LinkFirsts.l1]
      rw [if_pos (by omega),if_pos (by omega),if_pos (by omega),rd_nd,if_pos (show (nd l i).f2 = 0 from z),hwj]
    · by_cases c:sm l j = sm l i
      · have e2:firstN l i = j:=by
          have:=fi_le l (sm l i) j (by omega) c
          unfold firstN at hj ⊢
          rw [if_neg z] at hj ⊢
          omega
        rw [e2] at H
        refine Ev.step (fun k=>?_) H
        simp only [creelref_LinkFirsts.l1]
        rw [if_pos (by omega),if_pos (by omega),if_pos (by omega),rd_nd,if_neg (show ¬ (nd l i).f2 = 0 from z),if_pos (by omega),if_pos (by omega),rd_nd,if_pos (show (nd l j).f2 = (nd l i).f2 from c),if_pos (by omega),hw]
      · have hne:firstN l i ≠ j:=fun e=>c (by rw [← e];exact fn_sm l i hi)
        refine Ev.step (f:=fun k=>creelref_LinkFirsts.l1 k l acc (i:Int) ((j + 1:Nat):Int)) (fun k=>?_) (ih (j + 1) (by omega) (by omega))
        simp only [creelref_LinkFirsts.l1]
        rw [if_pos (by omega),if_pos (by omega),if_pos (by omega),rd_nd,if_neg (show ¬ (nd l i).f2 = 0 from z),if_pos (by omega),if_pos (by omega),rd_nd,if_neg (show ¬ (nd l j).f2 = (nd l i).f2 from c),hwj]
theorem rfirst_l0 (l:List Node) (hl:l.length ≤ 1000000) (d:Nat):∀ (i:Nat) (acc:List Int),l.length - i = d→i ≤ l.length→acc.length = i →
    Ev (fun k=>creelref_LinkFirsts.l0 k l acc (i:Int)) (acc ++ ((List.range l.length).drop i).map (fun j=>(firstN l j:Int)),0):=by
  induction d with
  | zero =>
    intro i acc hd hi ha
    have e:i = l.length:=by omega
    rw [List.drop_of_length_le (by simp;omega),List.map_nil,List.append_nil]
    refine Ev.step (f:=fun _=>some (acc,0)) (fun k=>?_) (Ev.now _)
    simp only [creelref_LinkFirsts.l0]
    rw [if_neg (by omega)]
  | succ d ih =>
    intro i acc hd hi ha
    have hi':i < l.length:=by omega
    have h1:=ih (i + 1) (acc ++ [(firstN l i:Int)]) (by omega) (by omega) (by simp;omega)
    rw [range_drop _ _ hi',List.map_cons,show acc ++ (firstN l i:Int) :: ((List.range l.length).drop (i + 1)).map (fun j=>(firstN l j:Int)) = acc ++ [(firstN l i:Int)] ++ ((List.range l.length).drop (i + 1)).map (fun j=>(firstN l j:Int)) by simp]
    refine Ev.step (f:=fun k=>creelref_LinkFirsts.l1 k l acc (i:Int) ((0:Nat):Int)) (fun k=>?_) (rfirst_l1 l hl acc i hi' (by omega) _ h1 i 0 (by omega) (by omega))
    simp only [creelref_LinkFirsts.l0]
    rw [if_pos (by omega)]
    rfl
theorem firsts_ref (l:List Node) (hg:∀ y ∈ l,okN y):Ev (fun k=>creelref_LinkFirsts.f k l) (firstsR l):=by
  unfold firstsR creelref_LinkFirsts.f
  by_cases h:treeR l = 0
  · rw [if_pos h]
    obtain ⟨h40,_⟩:=tree_zero l h
    exact Ev.bind (ref_tree l hg) (Ev.ifp h (rfirst_l0 l (by omega) l.length 0 [] (by omega) (by omega) rfl))
  · rw [if_neg h]
    exact Ev.bind (ref_tree l hg) (Ev.ifn h (Ev.now _))
def namesM (l:List Node):List Int:=(firstsL l).map fun a=>((firstsL l).count a:Int)
theorem namesM_len (l:List Node):(namesM l).length = l.length:=by unfold namesM;rw [List.length_map,firstsL_len]
theorem nrun (is:List Int):∀ (m:List (Int × Int)) (p:List Int),(∀ a,link_Names.cnt m a = (p.count a:Int))→p.length + is.length ≤ 1000000→(∀ i ∈ is,(Lit.int .i64 i).wf = true)→∃ M,link_Names.run is m = some M∧∀ a,link_Names.cnt M a = ((p ++ is).count a:Int):=by
  induction is with
  | nil=>intro m p h _ _;exact ⟨m,rfl,fun a=>by rw [List.append_nil];exact h a⟩
  | cons i is ih =>
    intro m p h hl hw
    simp only [List.length_cons] at hl
    unfold link_Names.run
    rw [if_pos (hw i (List.mem_cons_self ..))]
    have hc:p.count i ≤ p.length:=List.count_le_length
    obtain ⟨M,h1,h2⟩:=ih ((i,wrap64 (link_Names.cnt m i + 1)) :: m) (p ++ [i]) (fun a=>by
      rw [h i,wrap_is (by omega) (by omega),List.count_append]
      unfold link_Names.cnt
      by_cases e:i = a
      · subst e
        rw [get_same]
        simp
      · rw [get_other m _ e]
        have:=h a
        unfold link_Names.cnt at this
        rw [this,List.count_cons_of_ne e]
        simp) (by simp;omega) (fun j hj=>hw j (List.mem_cons_of_mem _ hj))
    exact ⟨M,h1,fun a=>by rw [h2 a];simp⟩
theorem nout (is:List Int) (m:List (Int × Int)) (hw:∀ i ∈ is,(Lit.int .i64 i).wf = true):link_Names.out is m = some (is.map fun a=>link_Names.cnt m a):=by
  induction is with
  | nil=>rfl
  | cons i is ih =>
    unfold link_Names.out
    rw [if_pos (hw i (List.mem_cons_self ..)),ih (fun j hj=>hw j (List.mem_cons_of_mem _ hj))]
    rfl
theorem firstsL_wf (l:List Node) (hl:l.length ≤ 1000000):∀ a ∈ firstsL l,(Lit.int .i64 a).wf = true:=by
  intro a ha
  unfold firstsL at ha
  obtain ⟨i,hi,rfl⟩:=List.mem_map.mp ha
  have hi':=List.mem_range.mp hi
  have:=fn_le l i hi'
  show (decide ((-9223372036854775808:Int) ≤ (firstN l i:Int)) && decide ((firstN l i:Int) ≤ 9223372036854775807)) = true
  rw [Bool.and_eq_true]
  exact ⟨decide_eq_true (by omega),decide_eq_true (by omega)⟩
def namesS (l:List Node):List Int × Int:=if treeR l = 0 then (namesM l,0) else ([],treeR l)
theorem names_of (l:List Node) (hg:∀ y ∈ l,okN y):Ev (fun k=>link_Names.f k l) (namesS l):=by
  have hf:=firsts_prog l hg
  unfold namesS link_Names.f
  unfold firstsR at hf
  by_cases h:treeR l = 0
  · rw [if_pos h] at hf ⊢
    obtain ⟨h40,_⟩:=tree_zero l h
    have hwf:=firstsL_wf l (by omega)
    have hln:=firstsL_len l
    obtain ⟨M,h1,h2⟩:=nrun (firstsL l) [] [] (fun a=>by unfold link_Names.cnt;rw [get_nil];rfl) (by simp;omega) hwf
    refine Ev.bind hf (Ev.ifp rfl (Ev.ifp (by show (firstsL l).length ≤ _;omega) (Ev.const ?_)))
    show ((link_Names.run (firstsL l) []).bind fun m=>(link_Names.out (firstsL l) m).bind fun o=>some (o,0)) = _
    rw [h1]
    simp only [Option.bind_some]
    rw [nout _ _ hwf]
    simp only [Option.bind_some]
    congr 2
    unfold namesM
    exact List.map_congr_left (fun a _=>by rw [h2 a,List.nil_append])
  · rw [if_neg h] at hf ⊢
    exact Ev.bind hf (Ev.ifn h (Ev.now _))
def isOf (l:List Node) (i j:Nat):Bool:=decide (j = i ∨ (sm l i > 0∧sm l j = sm l i))
def numN (l:List Node) (i:Nat):Nat:=(List.range l.length).countP (isOf l i)
theorem num_is (l:List Node) (i:Nat) (hi:i < l.length) (hp:0 ≤ sm l i):(firstsL l).count (firstN l i:Int) = numN l i:=by
  unfold firstsL numN
  rw [List.count,List.countP_map]
  refine List.countP_congr (fun j hj=>?_)
  have hj':=List.mem_range.mp hj
  have:=fn_eq l i j hi hj'
  unfold isOf
  simp only [Function.comp,beq_iff_eq,decide_eq_true_eq]
  rw [show ((firstN l j:Int) = (firstN l i:Int)) ↔ firstN l j = firstN l i by omega,this,show sm l i > 0 ↔ sm l i ≠ 0 by omega]
theorem rname_l1 (l:List Node) (hl:l.length ≤ 1000000) (acc:List Int) (i:Nat) (hi:i < l.length) (ha:acc.length ≤ i) (r:List Int × Int) (c:Int) (H:Ev (fun k=>creelref_LinkNames.l0 k l (acc ++ [c]) ((i + 1:Nat):Int)) r) (d:Nat):∀ (j:Nat) (n:Int),l.length - j = d→j ≤ l.length→0 ≤ n→n ≤ j→c = n + (((List.range l.length).drop j).countP (isOf l i):Int)→Ev (fun k=>creelref_LinkNames.l1 k l acc (i:Int) n (j:Int)) r:=by
  have hw:wrap64 ((i:Int) + 1) = ((i + 1:Nat):Int):=by rw [wrap_is (by omega) (by omega)];omega
  induction d with
  | zero =>
    intro j n hd hj h0 hn hc
    have e:j = l.length:=by omega
    rw [List.drop_of_length_le (by simp;omega),List.countP_nil] at hc
    have e2:c = n:=by simpa using hc
    subst e2
    refine Ev.step (fun k=>?_) H
    simp only [creelref_LinkNames.l1]
    rw [if_neg (by omega),if_pos (by omega),hw]
  | succ d ih =>
    intro j n hd hj h0 hn
    have hj':j < l.length:=by omega
    have hwj:wrap64 ((j:Int) + 1) = ((j + 1:Nat):Int):=by rw [wrap_is (by omega) (by omega)];omega
    have hwn:wrap64 (n + 1) = n + 1:=wrap_is (by omega) (by omega)
    rw [range_drop _ _ hj',List.countP_cons]
    intro hc
    obtain ⟨q,hq⟩:∃ q,((List.range l.length).drop (j + 1)).countP (isOf l i) = q:=⟨_,rfl⟩
    rw [hq] at hc
    by_cases e:j = i
    · rw [if_pos (by unfold isOf;exact decide_eq_true (Or.inl e))] at hc
      refine Ev.step (f:=fun k=>creelref_LinkNames.l1 k l acc (i:Int) (n + 1) ((j + 1:Nat):Int)) (fun k=>?_) (ih (j + 1) (n + 1) (by omega) (by omega) (by omega) (by omega) (by rw [hq];omega))
      simp only [creelref_LinkNames.l1]
      rw [if_pos (by omega),if_pos (by omega),hwj,hwn]
    · by_cases z:sm l i > 0
      · by_cases qe:sm l j = sm l i
        · rw [if_pos (by unfold isOf;exact decide_eq_true (Or.inr ⟨z,qe⟩))] at hc
          refine Ev.step (f:=fun k=>creelref_LinkNames.l1 k l acc (i:Int) (n + 1) ((j + 1:Nat):Int)) (fun k=>?_) (ih (j + 1) (n + 1) (by omega) (by omega) (by omega) (by omega) (by rw [hq];omega))
          simp only [creelref_LinkNames.l1]
          rw [if_pos (by omega),if_neg (by omega),if_pos (by omega),if_pos (by omega),rd_nd,if_pos (show (nd l i).f2 > 0 from z),if_pos (by omega),rd_nd,if_pos (show (nd l j).f2 = (nd l i).f2 from qe),hwj,hwn]
        · rw [if_neg (by unfold isOf;simp only [decide_eq_true_eq];exact fun x=>x.elim e (fun y=>qe y.2))] at hc
          refine Ev.step (f:=fun k=>creelref_LinkNames.l1 k l acc (i:Int) n ((j + 1:Nat):Int)) (fun k=>?_) (ih (j + 1) n (by omega) (by omega) (by omega) (by omega) (by rw [hq];omega))
          simp only [creelref_LinkNames.l1]
          rw [if_pos (by omega),if_neg (by omega),if_pos (by omega),if_pos (by omega),rd_nd,if_pos (show (nd l i).f2 > 0 from z),if_pos (by omega),rd_nd,if_neg (show ¬ (nd l j).f2 = (nd l i).f2 from qe),hwj]
      · rw [if_neg (by unfold isOf;simp only [decide_eq_true_eq];exact fun x=>x.elim e (fun y=>z y.1))] at hc
        refine Ev.step (f:=fun k=>creelref_LinkNames.l1 k l acc (i:Int) n ((j + 1:Nat):Int)) (fun k=>?_) (ih (j + 1) n (by omega) (by omega) (by omega) (by omega) (by rw [hq];omega))
        simp only [creelref_LinkNames.l1]
        rw [if_pos (by omega),if_neg (by omega),if_pos (by omega),if_pos (by omega),rd_nd,if_neg (show ¬ (nd l i).f2 > 0 from z),hwj]
theorem rname_l0 (l:List Node) (hl:l.length ≤ 1000000) (d:Nat):∀ (i:Nat) (acc:List Int),l.length - i = d→i ≤ l.length→acc.length = i →
    Ev (fun k=>creelref_LinkNames.l0 k l acc (i:Int)) (acc ++ ((List.range l.length).drop i).map (fun j=>(numN l j:Int)),0):=by
  induction d with
  | zero =>
    intro i acc hd hi ha
    rw [List.drop_of_length_le (by simp;omega),List.map_nil,List.append_nil]
    refine Ev.step (f:=fun _=>some (acc,0)) (fun k=>?_) (Ev.now _)
    simp only [creelref_LinkNames.l0]
    rw [if_neg (by omega)]
  | succ d ih =>
    intro i acc hd hi ha
    have hi':i < l.length:=by omega
    have h1:=ih (i + 1) (acc ++ [(numN l i:Int)]) (by omega) (by omega) (by simp;omega)
    rw [range_drop _ _ hi',List.map_cons,show acc ++ (numN l i:Int) :: ((List.range l.length).drop (i + 1)).map (fun j=>(numN l j:Int)) = acc ++ [(numN l i:Int)] ++ ((List.range l.length).drop (i + 1)).map (fun j=>(numN l j:Int)) by simp]
    refine Ev.step (f:=fun k=>creelref_LinkNames.l1 k l acc (i:Int) 0 ((0:Nat):Int)) (fun k=>?_) (rname_l1 l hl acc i hi' (by omega) _ _ h1 l.length 0 0 (by omega) (by omega) (by omega) (by omega) (by unfold numN;rw [List.drop_zero];omega))
    simp only [creelref_LinkNames.l0]
    rw [if_pos (by omega)]
    rfl
theorem same_nneg (l:List Node) (h:treeR l = 0) (i:Nat) (hi:i < l.length):0 ≤ sm l i:=by
  have:=(step_zero l i _ ((tree_zero l h).2 i hi)).1
  unfold nodeX nodeR restR at this
  unfold sm
  repeat' split at this
  all_goals omega
theorem namesref (l:List Node) (hg:∀ y ∈ l,okN y):Ev (fun k=>creelref_LinkNames.f k l) (namesS l):=by
  unfold namesS creelref_LinkNames.f
  by_cases h:treeR l = 0
  · rw [if_pos h]
    obtain ⟨h40,_⟩:=tree_zero l h
    have e:namesM l = (List.range l.length).map fun j=>(numN l j:Int):=by
      unfold namesM
      rw [show (firstsL l).map (fun a=>((firstsL l).count a:Int)) = ((List.range l.length).map fun i=>(firstN l i:Int)).map (fun a=>((firstsL l).count a:Int)) from rfl,List.map_map]
      refine List.map_congr_left (fun i hi=>?_)
      have hi':=List.mem_range.mp hi
      exact congrArg _ (num_is l i hi' (same_nneg l h i hi'))
    rw [e]
    exact Ev.bind (ref_tree l hg) (Ev.ifp h (rname_l0 l (by omega) l.length 0 [] (by omega) (by omega) rfl))
  · rw [if_neg h]
    exact Ev.bind (ref_tree l hg) (Ev.ifn h (Ev.now _))
end Go.Proofs.YtlfeijjilndljaaDoor.Q
end
section
namespace Go.Proofs.YtlfeijjilndljaaDoor.Q
set_option linter.unusedVariables false
set_option linter.unusedSimpArgs false
open Go.RowKit Go.Proofs.YtlfeijjilndljaaDoor.All Go.Proofs.YtlfeijjilndljaaDoorW.PrintWords Go.Proofs.YtlfeijjilndljaaDoorW.PrintLast Go.Proofs.YtlfeijjilndljaaDoorW.PrintMore Go.Proofs.YtlfeijjilndljaaDoorW.PureBase
structure TreeOk (l:List Node):Prop where
  len:l.length ≤ 40
  node:∀ y ∈ l,nodeX y = 0
  ord:l.Pairwise (fun a b=>cmpP a.f0 b.f0 = -1)
  same:l.Pairwise (fun a b=>b.f2 ≠ 0→a.f2 = b.f2→alikeB a b = true)
  up:∀ y ∈ l,(upOf y.f0).toList ≠ []→∃ z ∈ l,z.f0 = upOf y.f0∧z.f1 = 2∧cmpP z.f0 y.f0 = -1
theorem pair_nd (l:List Node) (R:Node→Node→Prop):l.Pairwise R ↔ ∀ i j,i < j→j < l.length→R (nd l i) (nd l j):=by
  rw [List.pairwise_iff_getElem]
  constructor
  · intro h i j hij hj
    have:=h i j (by omega) hj hij
    rw [nd_get,nd_get] at this
    exact this
  · intro h i j hi hj hij
    rw [nd_get,nd_get]
    exact h i j hij hj
theorem mem_nd {l:List Node} {y:Node} (h:y ∈ l):∃ i,i < l.length∧nd l i = y:=by
  obtain ⟨i,hi,e⟩:=List.mem_iff_getElem.1 h
  exact ⟨i,hi,by rw [← nd_get l i hi];exact e⟩
theorem find_lt (l:List Node) (s:ByteArray):findP l s < l.length ↔ ∃ y ∈ l,y.f0.toList = s.toList:=by
  unfold findP
  rw [List.findIdx_lt_length]
  constructor
  · rintro ⟨y,h1,h2⟩;exact ⟨y,h1,of_decide_eq_true h2⟩
  · rintro ⟨y,h1,h2⟩;exact ⟨y,h1,decide_eq_true h2⟩
theorem find_is (l:List Node) (s:ByteArray) (h:findP l s < l.length):(nd l (findP l s)).f0.toList = s.toList:=by
  have h1:isP s (l[findP l s]'h) = true:=List.findIdx_getElem (p:=isP s) (xs:=l) (w:=h)
  rw [nd_get l _ h] at h1
  exact of_decide_eq_true h1
theorem take_len (l:List Node) (n:Nat) (h:n ≤ l.length):(l.take n).length = n:=by rw [List.length_take];omega
theorem nd_take (l:List Node) (n i:Nat) (h:i < n):nd (l.take n) i = nd l i:=by
  unfold nd
  rw [List.getD_eq_getElem?_getD,List.getElem?_take,if_pos h,← List.getD_eq_getElem?_getD]
theorem mem_take_nd {l:List Node} {n:Nat} {y:Node} (hn:n ≤ l.length) (h:y ∈ l.take n):∃ i,i < n∧nd l i = y:=by
  obtain ⟨i,hi,e⟩:=mem_nd h
  rw [take_len l n hn] at hi
  exact ⟨i,hi,by rw [nd_take l n i hi] at e;exact e⟩
theorem nd_mem_take {l:List Node} {n i:Nat} (hn:n ≤ l.length) (h:i < n):nd l i ∈ l.take n:=by
  rw [← nd_take l n i h]
  exact nd_mem _ i (by rw [take_len l n hn];exact h)
theorem treeFrom_of (l:List Node):∀ d n,(∀ j,n ≤ j→j < n + d→stepR l j (nd l j) = 0)→treeFrom l d n = 0
  | 0,_,_=>rfl
  | d + 1,n,h=>by
    unfold treeFrom
    rw [if_pos (h n (Nat.le_refl _) (by omega))]
    exact treeFrom_of l d (n + 1) (fun j a b=>h j (by omega) (by omega))
theorem order_eq {l:List Node} (h:l.Pairwise (fun a b=>cmpP a.f0 b.f0 = -1)) {y z:Node} (hy:y ∈ l) (hz:z ∈ l) (e:y.f0 = z.f0):y = z:=by
  obtain ⟨i,hi,rfl⟩:=mem_nd hy
  obtain ⟨j,hj,rfl⟩:=mem_nd hz
  rw [pair_nd] at h
  rcases Nat.lt_trichotomy i j with h1|h1|h1
  · have:=h i j h1 hj;rw [e,cmpP_self] at this;cases this
  · rw [h1]
  · have:=h j i h1 hi;rw [e,cmpP_self] at this;cases this
theorem order_lt {l:List Node} (h:l.Pairwise (fun a b=>cmpP a.f0 b.f0 = -1)) (i j:Nat) (hi:i < l.length) (hj:j < l.length) (e:cmpP (nd l i).f0 (nd l j).f0 = -1):i < j:=by
  rw [pair_nd] at h
  rcases Nat.lt_trichotomy i j with h1|h1|h1
  · exact h1
  · rw [h1,cmpP_self] at e;cases e
  · have:=h j i h1 hi;rw [cmpP_swap,e] at this;cases this
theorem treeOk_of (l:List Node) (h:treeR l = 0):TreeOk l:=by
  obtain ⟨h40,hs⟩:=tree_zero l h
  have hz:=fun j hj=>step_zero l j _ (hs j hj)
  have hord:∀ i j,i < j→j < l.length→cmpP (nd l i).f0 (nd l j).f0 = -1:=by
    have hr:=rising (fun y:Node=>y.f0) (nd l) l.length (fun i h0 hi=>by
      have h2:=(hz i hi).2.1
      unfold twoR at h2
      rw [if_pos h0] at h2
      have h3:=of_decide_eq_false h2
      rcases cmpP_01 (nd l (i - 1)).f0 (nd l i).f0 with e|e|e
      · exact e
      · rw [e] at h3;exact absurd (by decide) h3
      · rw [e] at h3;exact absurd (by decide) h3)
    intro i j hij hj
    exact hr (j - i - 1) i j (by omega) hj
  refine ⟨h40,fun y hy=>?_,(pair_nd l _).2 hord,(pair_nd l _).2 (fun i j hij hj hne he=>?_),fun y hy hne=>?_⟩
  · obtain ⟨i,hi,rfl⟩:=mem_nd hy
    exact (hz i hi).1
  · have h2:=(hz j hj).2.2.2
    unfold sameR at h2
    rw [if_neg hne,List.any_eq_false] at h2
    have h3:=h2 (nd l i) (nd_mem_take (by omega) hij)
    rw [decide_eq_true he,Bool.true_and] at h3
    simpa using h3
  · obtain ⟨j,hj,rfl⟩:=mem_nd hy
    have h2:=(hz j hj).2.2.1
    unfold upR at h2
    rw [if_neg hne] at h2
    by_cases c:findP (l.take j) (upOf (nd l j).f0) < j
    · rw [if_pos c] at h2
      have h3:findP (l.take j) (upOf (nd l j).f0) < (l.take j).length:=by rw [take_len l j (by omega)];exact c
      have h4:=find_is _ _ h3
      rw [nd_take l j _ c] at h4
      exact ⟨_,nd_mem l _ (by omega),toList_inj h4,by simpa using h2,hord _ j c hj⟩
    · rw [if_neg c] at h2;cases h2
theorem treeR_of (l:List Node) (h:TreeOk l):treeR l = 0:=by
  unfold treeR
  rw [if_neg (by have:=h.len;omega)]
  refine treeFrom_of l _ _ (fun j _ hj=>?_)
  have hj':j < l.length:=by omega
  have hn:=h.node _ (nd_mem l j hj')
  unfold stepR
  have e1:twoR l j (nd l j) = false:=by
    unfold twoR
    by_cases c:0 < j
    · rw [if_pos c,(pair_nd l _).1 h.ord (j - 1) j (by omega) hj'];rfl
    · rw [if_neg c]
  have e2:upR l j (nd l j) = false:=by
    unfold upR
    by_cases c:(upOf (nd l j).f0).toList = ([]:List UInt8)
    · rw [if_pos c]
    · rw [if_neg c]
      obtain ⟨z,hz,z1,z2,z3⟩:=h.up _ (nd_mem l j hj') c
      obtain ⟨i,hi,rfl⟩:=mem_nd hz
      have hij:=order_lt h.ord i j hi hj' z3
      have h3:findP (l.take j) (upOf (nd l j).f0) < (l.take j).length:=(find_lt _ _).2 ⟨nd l i,nd_mem_take (by omega) hij,by rw [z1]⟩
      have h4:=find_is _ _ h3
      rw [take_len l j (by omega)] at h3
      rw [nd_take l j _ h3] at h4
      rw [if_pos h3]
      have h5:nd l (findP (l.take j) (upOf (nd l j).f0)) = nd l i:=order_eq h.ord (nd_mem l _ (by omega)) hz (by rw [toList_inj h4,z1])
      rw [h5,z2];rfl
  have e3:sameR l j (nd l j) = false:=by
    unfold sameR
    by_cases c:(nd l j).f2 = 0
    · rw [if_pos c]
    · rw [if_neg c,List.any_eq_false]
      intro y hy
      obtain ⟨i,hi,rfl⟩:=mem_take_nd (by omega) hy
      by_cases e:(nd l i).f2 = (nd l j).f2
      · rw [(pair_nd l _).1 h.same i j hi hj' c e];simp
      · rw [decide_eq_false e];simp
  rw [if_pos hn,e1,e2,e3]
  rfl
theorem set_app (a:List S56) (x y:S56):(a ++ [x]).set a.length y = a ++ [y]:=by
  rw [List.set_append_right _ _ (Nat.le_refl _),Nat.sub_self];rfl
theorem copy_ref (l:List S56) (hl:l.length ≤ 2000000) (hd:∀ i,i < l.length→(nd l i).f5.length ≤ 140737488351232) (d:Nat):∀ (i:Nat),l.length - i = d→i ≤ l.length→Ev (fun k=>creelref_TreeCopy.l0 k l (l.take i) (i:Int)) l:=by
  induction d with
  | zero =>
    intro i hd' hi
    rw [List.take_of_length_le (by omega)]
    refine Ev.step (f:=fun _=>some l) (fun k=>?_) (Ev.now _)
    simp only [creelref_TreeCopy.l0]
    rw [if_neg (by omega)]
  | succ d ih =>
    intro i hd' hi
    have hw:wrap64 ((i:Int) + 1) = ((i + 1:Nat):Int):=by rw [wrap_is (by omega) (by omega)];omega
    have hln:(l.take i).length = i:=by rw [List.length_take];omega
    have hdi:=hd i (by omega)
    have hrd:rd_T56 (l.take i ++ [nd l i]) (i:Int) = nd l i:=by
      rw [rd_nd]
      unfold nd
      rw [List.getD_eq_getElem?_getD,List.getElem?_append_right (by omega),hln,Nat.sub_self];rfl
    refine Ev.step (f:=fun k=>creelref_TreeCopy.l0 k l (l.take (i + 1)) ((i + 1:Nat):Int)) (fun k=>?_) (ih (i + 1) (by omega) (by omega))
    simp only [creelref_TreeCopy.l0,Option.bind_some,List.nil_append,List.length_nil]
    rw [if_pos (by omega),if_pos (by omega),if_pos (by omega),rd_nd,if_pos (by omega),if_pos (by simp;omega),hw,hrd]
    rw [show (i:Int).toNat = (l.take i).length by omega,set_app,take_nd l i (by omega)]
theorem good_data (l:List S56) (n:Nat) (h:∀ y ∈ l,y.f5.length ≤ n):(l.all fun x=>decide (x.f5.length ≤ 140737488355327)) = true ∨ 140737488355327 < n:=by
  by_cases c:140737488355327 < n
  · exact Or.inr c
  · left
    rw [List.all_eq_true]
    intro x hx
    exact decide_eq_true (by have:=h x hx;omega)
theorem copy_both (l:List S56) (hl:l.length ≤ 2000000) (hd:∀ y ∈ l,y.f5.length ≤ 140737488351232):tree_Copy.f l = some l∧Ev (fun k=>creelref_TreeCopy.f k l) l:=by
  refine ⟨?_,copy_ref l hl (fun i hi=>hd _ (nd_mem l i hi)) l.length 0 (by omega) (by omega)⟩
  unfold tree_Copy.f
  rw [if_pos ⟨by omega,(good_data l 140737488351232 hd).resolve_right (by omega)⟩]
abbrev AN:=S56
theorem anew_same:∀ (k:Nat) (f n:List Int) (x:List AN) (i:Int),link_Anew.l0 k f n x (x.length:Int) i = creelref_LinkAnew.l0 k f n x i
  | 0,_,_,_,_=>rfl
  | k + 1,f,n,x,i=>by
    simp only [link_Anew.l0,creelref_LinkAnew.l0,Option.bind_some]
    by_cases c1:i < (x.length:Int)
    · rw [if_pos c1,if_pos c1]
      by_cases c2:0 ≤ i
      · rw [if_pos c2,if_pos c2,if_pos c1]
        have h1:=fun (a:AN)=>anew_same k f n (x.set i.toNat a) (wrap64 (i + 1))
        have h2:=fun (a b:AN)=>anew_same k f n ((x.set i.toNat a).set i.toNat b) (wrap64 (i + 1))
        simp only [List.length_set] at h1 h2
        rw [h1,h2]
      · rw [if_neg c2,if_neg c2,if_pos c1]
    · rw [if_neg c1,if_neg c1]
def withS (x:AN) (s:Int):AN:=⟨x.f0,x.f1,s,x.f3,x.f4,x.f5⟩
def newS (l:List AN) (i:Nat):Int:=if rd (namesM l) (i:Int) > 1 then (firstN l i:Int) + 1 else 0
theorem nd_set (x:List AN) (i j:Nat) (a:AN) (h:i < x.length):nd (x.set i a) j = if i = j then a else nd x j:=by
  unfold nd
  rw [List.getD_eq_getElem?_getD,List.getD_eq_getElem?_getD,List.getElem?_set]
  by_cases e:i = j
  · rw [if_pos e,if_pos e,if_pos h];rfl
  · rw [if_neg e,if_neg e]
theorem rd_firsts (l:List AN) (i:Nat) (hi:i < l.length):rd (firstsL l) (i:Int) = (firstN l i:Int):=by
  unfold rd firstsL
  rw [Int.toNat_natCast,List.getD_eq_getElem?_getD,List.getElem?_map,List.getElem?_range hi];rfl
theorem anew_step (l x:List AN) (i:Nat) (hl:l.length ≤ 1000000) (hi:i < l.length) (hx:x.length = l.length) (e:nd x i = nd l i) (k:Nat):creelref_LinkAnew.l0 (k + 1) (firstsL l) (namesM l) x (i:Int) = creelref_LinkAnew.l0 k (firstsL l) (namesM l) (x.set i (withS (nd l i) (newS l i))) ((i + 1:Nat):Int):=by
  have hw:wrap64 ((i:Int) + 1) = ((i + 1:Nat):Int):=by rw [wrap_is (by omega) (by omega)];omega
  have hf:=firstsL_len l
  have hn:=namesM_len l
  have hfn:=fn_le l i hi
  simp only [creelref_LinkAnew.l0,Option.bind_some]
  rw [if_pos (by omega),if_pos (by omega),if_pos (by omega)]
  by_cases c:(rd (namesM l) (i:Int)) > 1
  · rw [if_pos c,if_pos (by omega),hw,Int.toNat_natCast,List.set_set]
    congr 2
    rw [rd_nd,rd_nd,nd_set _ _ _ _ (by omega),if_pos rfl,e,rd_firsts l i hi,wrap_is (by omega) (by omega)]
    unfold withS newS
    rw [if_pos c]
  · rw [if_neg c,hw,Int.toNat_natCast]
    congr 2
    rw [rd_nd,e]
    unfold withS newS
    rw [if_neg c]
theorem anew_run (l:List AN) (hl:l.length ≤ 1000000) (d:Nat):∀ (i:Nat) (x:List AN),i + d = l.length→x.length = l.length→(∀ j,j < i→nd x j = withS (nd l j) (newS l j))→(∀ j,i ≤ j→nd x j = nd l j) →
    ∃ r,r.length = l.length∧Ev (fun k=>creelref_LinkAnew.l0 k (firstsL l) (namesM l) x (i:Int)) (r,0)∧∀ j,j < l.length→nd r j = withS (nd l j) (newS l j):=by
  induction d with
  | zero =>
    intro i x hd hx h1 h2
    refine ⟨x,hx,Ev.step (f:=fun _=>some (x,0)) (fun k=>?_) (Ev.now _),fun j hj=>h1 j (by omega)⟩
    simp only [creelref_LinkAnew.l0]
    rw [if_neg (by omega)]
  | succ d ih =>
    intro i x hd hx h1 h2
    have hi:i < l.length:=by omega
    obtain ⟨r,r1,r2,r3⟩:=ih (i + 1) (x.set i (withS (nd l i) (newS l i))) (by omega) (by rw [List.length_set];exact hx) (fun j hj=>by
      rw [nd_set _ _ _ _ (by omega)]
      by_cases e:i = j
      · rw [if_pos e,e]
      · rw [if_neg e];exact h1 j (by omega)) (fun j hj=>by
      rw [nd_set _ _ _ _ (by omega),if_neg (by omega)]
      exact h2 j (by omega))
    exact ⟨r,r1,Ev.step (fun k=>anew_step l x i hl hi hx (h2 i (Nat.le_refl _)) k) r2,r3⟩
theorem newS_nn (l:List AN) (i:Nat):0 ≤ newS l i:=by
  unfold newS
  split <;> omega
theorem newS_alone (l:List AN) (i:Nat) (hi:i < l.length) (h:sm l i = 0):newS l i = 0:=by
  unfold newS
  rw [if_neg]
  have e:rd (namesM l) (i:Int) = ((firstsL l).count (firstN l i:Int):Int):=by
    unfold namesM rd
    rw [Int.toNat_natCast,List.getD_eq_getElem?_getD,List.getElem?_map]
    have:=rd_firsts l i hi
    unfold rd at this
    rw [Int.toNat_natCast,List.getD_eq_getElem?_getD] at this
    have h2:(firstsL l)[i]? = some (firstN l i:Int):=by
      unfold firstsL
      rw [List.getElem?_map,List.getElem?_range hi];rfl
    rw [h2];rfl
  rw [e]
  have hc:(firstsL l).count (firstN l i:Int) ≤ (List.range l.length).count i:=by
    unfold firstsL
    rw [List.count_eq_countP,List.countP_map,List.count_eq_countP]
    apply List.countP_mono_left
    intro j hj hq
    rw [List.mem_range] at hj
    simp only [Function.comp,beq_iff_eq] at hq ⊢
    have:=(fn_eq l i j hi hj).1 (by omega)
    rcases this with h1|⟨h1,_⟩
    · exact h1
    · exact absurd h h1
  have h1:=(List.nodup_iff_count (l:=List.range l.length)).1 List.nodup_range i
  omega
theorem restR_with (kind s s':Int) (t:ByteArray) (n:Nat) (h:restR kind s t n = 0) (hs:0 ≤ s') (h0:s = 0→s' = 0):restR kind s' t n = 0:=by
  unfold restR at h ⊢
  by_cases k1:kind = 1
  · rw [if_pos k1] at h ⊢
    by_cases c:t.toList ≠ [] ∨ s < 0
    · rw [if_pos c] at h;cases h
    · rw [if_neg c] at h
      rw [if_neg (fun c'=>c' |>.elim (fun e=>c (Or.inl e)) (fun e=>by omega))]
      exact h
  · rw [if_neg k1] at h ⊢
    by_cases k2:kind = 2
    · rw [if_pos k2] at h ⊢
      by_cases e:s = 0
      · rw [h0 e]
        rw [e] at h
        exact h
      · rw [if_pos (Or.inr (Or.inl e))] at h;cases h
    · rw [if_neg k2] at h ⊢
      by_cases k3:kind = 3
      · rw [if_pos k3] at h ⊢
        by_cases e:s = 0
        · rw [h0 e]
          rw [e] at h
          exact h
        · rw [if_pos (Or.inr (Or.inl e))] at h;cases h
      · rw [if_neg k3] at h;cases h
theorem nodeR_with (p:ByteArray) (kind s s':Int) (t:ByteArray) (a b c:Int) (u g:ByteArray) (z n:Int) (d:Nat) (h:nodeR p kind s t a b c u g z n d = 0) (hs:0 ≤ s') (h0:s = 0→s' = 0):nodeR p kind s' t a b c u g z n d = 0:=by
  unfold nodeR at h ⊢
  by_cases c1:pathR p = 0
  · rw [if_pos c1] at h ⊢
    by_cases c2:wrong a b c u g z n = 0
    · rw [if_pos c2] at h ⊢
      exact restR_with kind s s' t d h hs h0
    · rw [if_neg c2] at h
      exact absurd h c2
  · rw [if_neg c1] at h
    exact absurd h c1
theorem nodeX_with (x:AN) (s:Int) (h:nodeX x = 0) (hs:0 ≤ s) (h0:x.f2 = 0→s = 0):nodeX (withS x s) = 0:=nodeR_with _ _ x.f2 s _ _ _ _ _ _ _ _ _ h hs h0
theorem anew_ok (l r:List AN) (hk:TreeOk l) (hr:r.length = l.length) (hv:∀ j,j < l.length→nd r j = withS (nd l j) (newS l j)):TreeOk r:=by
  have hm:∀ y ∈ r,∃ j,j < l.length∧y = withS (nd l j) (newS l j):=by
    intro y hy
    obtain ⟨j,hj,e⟩:=mem_nd hy
    exact ⟨j,by omega,by rw [← e,hv j (by omega)]⟩
  refine ⟨by have:=hk.len;omega,fun y hy=>?_,(pair_nd r _).2 (fun i j h1 h2=>?_),(pair_nd r _).2 (fun i j h1 h2 h3 h4=>?_),fun y hy hu=>?_⟩
  · obtain ⟨j,hj,rfl⟩:=hm y hy
    exact nodeX_with _ _ (hk.node _ (nd_mem l j hj)) (newS_nn l j) (fun h=>newS_alone l j hj h)
  · rw [hv i (by omega),hv j (by omega)]
    exact (pair_nd l _).1 hk.ord i j h1 (by omega)
  · rw [hv i (by omega),hv j (by omega)] at h4
    rw [hv j (by omega)] at h3
    rw [hv i (by omega),hv j (by omega)]
    replace h3:newS l j ≠ 0:=h3
    replace h4:newS l i = newS l j:=h4
    have e:firstN l i = firstN l j:=by
      unfold newS at h3 h4
      by_cases c:rd (namesM l) (j:Int) > 1
      · rw [if_pos c] at h4
        by_cases c':rd (namesM l) (i:Int) > 1
        · rw [if_pos c'] at h4;omega
        · rw [if_neg c'] at h4;omega
      · rw [if_neg c] at h3;exact absurd rfl h3
    rcases (fn_eq l j i (by omega) (by omega)).1 e with h5|⟨h5,h6⟩
    · omega
    · exact (pair_nd l _).1 hk.same i j h1 (by omega) h5 h6
  · obtain ⟨j,hj,rfl⟩:=hm y hy
    obtain ⟨z,hz,z1,z2,z3⟩:=hk.up _ (nd_mem l j hj) hu
    obtain ⟨q,hq,rfl⟩:=mem_nd hz
    exact ⟨nd r q,nd_mem r q (by omega),by rw [hv q hq];exact z1,by rw [hv q hq];exact z2,by rw [hv q hq];exact z3⟩
theorem anew_all (l:List AN) (hl:∀ y ∈ l,okN y) (hd:∀ y ∈ l,y.f5.length ≤ 140737488351232) :
    (∃ r,Ev (fun k=>link_Anew.f k l) (r,0)∧Ev (fun k=>creelref_LinkAnew.f k l) (r,0)∧TreeOk r∧(∀ y ∈ r,okN y)∧∀ y ∈ r,y.f5.length ≤ 140737488351232) ∨
    (∃ e,e ≠ 0∧Ev (fun k=>link_Anew.f k l) ([],e)∧Ev (fun k=>creelref_LinkAnew.f k l) ([],e)):=by
  have f1:=firsts_prog l hl
  have f2:=firsts_ref l hl
  have n1:=names_of l hl
  have n2:=namesref l hl
  unfold firstsR at f1 f2
  unfold namesS at n1 n2
  by_cases h:treeR l = 0
  · rw [if_pos h] at f1 f2 n1 n2
    have hk:=treeOk_of l h
    have h40:=hk.len
    obtain ⟨r,h1,h2,h3⟩:=anew_run l (by omega) l.length 0 l (by omega) rfl (fun j hj=>absurd hj (Nat.not_lt_zero j)) (fun _ _=>rfl)
    have hc:=copy_both l (by omega) hd
    have hm:∀ y ∈ r,∃ j,j < l.length∧y = withS (nd l j) (newS l j):=by
      intro y hy
      obtain ⟨j,hj,e⟩:=mem_nd hy
      exact ⟨j,by omega,by rw [← e,h3 j (by omega)]⟩
    refine Or.inl ⟨r,?_,?_,anew_ok l r hk h1 h3,fun y hy=>?_,fun y hy=>?_⟩
    · unfold link_Anew.f
      refine Ev.bind f1 (Ev.ifp rfl (Ev.bind n1 ?_))
      show Ev (fun k=>(tree_Copy.f l).bind fun t109=>link_Anew.l0 k (firstsL l) (namesM l) t109 (t109.length:Int) 0) (r,0)
      rw [hc.1]
      simp only [Option.bind_some]
      simp only [anew_same]
      exact h2
    · unfold creelref_LinkAnew.f
      exact Ev.bind f2 (Ev.ifp rfl (Ev.bind n2 (Ev.bind hc.2 h2)))
    · obtain ⟨j,hj,rfl⟩:=hm y hy
      obtain ⟨a1,a2,a3,a4,_⟩:=hl _ (nd_mem l j hj)
      refine ⟨a1,a2,a3,a4,?_⟩
      have hn:=newS_nn l j
      have hf:=fn_le l j hj
      have hb:newS l j ≤ 100:=by
        unfold newS
        split <;> omega
      show (decide ((-9223372036854775808:Int) ≤ newS l j) && decide (newS l j ≤ 9223372036854775807)) = true
      rw [Bool.and_eq_true]
      exact ⟨decide_eq_true (by omega),decide_eq_true (by omega)⟩
    · obtain ⟨j,hj,rfl⟩:=hm y hy
      exact (hd (nd l j) (nd_mem l j hj):(nd l j).f5.length ≤ 140737488351232)
  · rw [if_neg h] at f1 f2 n1 n2
    refine Or.inr ⟨treeR l,h,?_,?_⟩
    · unfold link_Anew.f
      exact Ev.bind f1 (Ev.ifn h (Ev.now _))
    · unfold creelref_LinkAnew.f
      exact Ev.bind f2 (Ev.ifn h (Ev.now _))
abbrev SN:=S56
def plcV (o:List SN) (s:ByteArray):Nat→Nat
  | 0=>0
  | j + 1=>if cmpP (nd o j).f0 s > 0 then plcV o s j else j + 1
theorem plcV_le (o:List SN) (s:ByteArray):∀ j,plcV o s j ≤ j
  | 0=>Nat.le_refl _
  | j + 1=>by
    unfold plcV
    split
    · exact Nat.le_succ_of_le (plcV_le o s j)
    · exact Nat.le_refl _
def insV (o:List SN) (n:SN):List SN:=o.take (plcV o n.f0 o.length) ++ [n] ++ o.drop (plcV o n.f0 o.length)
def sortV (l:List SN):List SN:=l.foldl insV []
theorem insV_mem (o:List SN) (n y:SN):y ∈ insV o n ↔ y = n ∨ y ∈ o:=by
  unfold insV
  rw [List.mem_append,List.mem_append,List.mem_singleton]
  constructor
  · rintro ((h|h)|h)
    · exact Or.inr (List.mem_of_mem_take h)
    · exact Or.inl h
    · exact Or.inr (List.mem_of_mem_drop h)
  · rintro (h|h)
    · exact Or.inl (Or.inr h)
    · rw [← List.take_append_drop (plcV o n.f0 o.length) o,List.mem_append] at h
      rcases h with h|h
      · exact Or.inl (Or.inl h)
      · exact Or.inr h
theorem insV_len (o:List SN) (n:SN):(insV o n).length = o.length + 1:=by
  have:=plcV_le o n.f0 o.length
  unfold insV
  rw [List.length_append,List.length_append,List.length_singleton,List.length_take,List.length_drop]
  omega
theorem fold_mem (r:List SN):∀ (o:List SN) (y:SN),y ∈ r.foldl insV o ↔ y ∈ o ∨ y ∈ r:=by
  induction r with
  | nil=>intro o y;simp
  | cons x r ih =>
    intro o y
    rw [List.foldl_cons,ih,insV_mem,List.mem_cons]
    constructor
    · rintro ((h|h)|h)
      · exact Or.inr (Or.inl h)
      · exact Or.inl h
      · exact Or.inr (Or.inr h)
    · rintro (h|h|h)
      · exact Or.inl (Or.inr h)
      · exact Or.inl (Or.inl h)
      · exact Or.inr h
theorem fold_len (r:List SN):∀ (o:List SN),(r.foldl insV o).length = o.length + r.length:=by
  induction r with
  | nil=>intro o;rfl
  | cons x r ih =>
    intro o
    rw [List.foldl_cons,ih,insV_len,List.length_cons]
    omega
theorem sortV_mem (l:List SN) (y:SN):y ∈ sortV l ↔ y ∈ l:=by
  unfold sortV
  rw [fold_mem]
  simp
theorem sortV_len (l:List SN):(sortV l).length = l.length:=by
  unfold sortV
  rw [fold_len]
  simp
theorem plc_is (o:List SN) (s:ByteArray) (hs:s.size ≤ 1048576) (ho:∀ y ∈ o,y.f0.size ≤ 1048576):∀ j,j ≤ o.length→Ev (fun k=>creelref_OrderSort.plc k o s j) (plcV o s j)
  | 0,_=>Ev.now _
  | j + 1,h=>by
    simp only [creelref_OrderSort.plc,plcV]
    rw [rd_nd]
    refine Ev.bind (cmp_ev (nd o j).f0 s (ho _ (nd_mem o j (by omega))) hs).2 ?_
    by_cases c:cmpP (nd o j).f0 s > 0
    · rw [if_pos c]
      exact Ev.ifp c (plc_is o s hs ho j (by omega))
    · rw [if_neg c]
      exact Ev.ifn c (Ev.now _)
theorem go_is (r:List SN):∀ o:List SN,(∀ y ∈ o,y.f0.size ≤ 1048576)→(∀ y ∈ r,y.f0.size ≤ 1048576)→o.length + r.length ≤ 1000000→Ev (fun k=>creelref_OrderSort.go k r o) (r.foldl insV o):=by
  induction r with
  | nil=>intro o _ _ _;exact Ev.now _
  | cons x r ih =>
    intro o h1 h2 h3
    simp only [creelref_OrderSort.go]
    rw [List.foldl_cons]
    rw [List.length_cons] at h3
    have hx:=h2 x (List.mem_cons_self ..)
    refine Ev.bind (plc_is o x.f0 hx h1 o.length (Nat.le_refl _)) (Ev.ifp (by omega) ?_)
    refine ih (insV o x) (fun y hy=>?_) (fun y hy=>h2 y (List.mem_cons_of_mem _ hy)) (by rw [insV_len];omega)
    rcases (insV_mem o x y).1 hy with rfl|h
    · exact hx
    · exact h1 y h
theorem sort_is (l:List SN) (hl:l.length ≤ 1000) (hs:∀ y ∈ l,y.f0.size ≤ 1048576) (hd:∀ y ∈ l,y.f5.length ≤ 140737488351232):Ev (fun k=>creelref_OrderSort.f k l) (sortV l):=by
  unfold creelref_OrderSort.f
  refine Ev.bind (go_is l [] (fun y hy=>by cases hy) hs (by simp;omega)) ?_
  exact (copy_both (sortV l) (by rw [sortV_len];omega) (fun y hy=>hd y ((sortV_mem l y).1 hy))).2
end Go.Proofs.YtlfeijjilndljaaDoor.Q
end
section
namespace Go.Proofs.YtlfeijjilndljaaDoor.Q
set_option linter.unusedVariables false
set_option linter.unusedSimpArgs false
open Go.RowKit Go.Proofs.YtlfeijjilndljaaDoor.All Go.Proofs.YtlfeijjilndljaaDoorW.PrintWords Go.Proofs.YtlfeijjilndljaaDoorW.PrintLast Go.Proofs.YtlfeijjilndljaaDoorW.PrintMore Go.Proofs.YtlfeijjilndljaaDoorW.PureBase
abbrev DN:=S56
abbrev DC:=S77
theorem dfind_ev (l:List DN) (s:ByteArray) (hl:l.length ≤ 1000):Ev (fun k=>creelref_TreeFind.f k l s) (findP l s:Int):=Ev.from_ 2000 (fun k hk=>(find_both l s (by omega) k (by omega)).2)
def restV (a b:List DN):List DN:=b.filter (fun n=>decide (findP a n.f0 = a.length))
theorem all_is (a:List DN) (ha:a.length ≤ 1000) (r:List DN):∀ o:List DN,o.length + r.length ≤ 1000→Ev (fun k=>creelref_DiffOf.all_ k a r o) (o ++ restV a r):=by
  induction r with
  | nil =>
    intro o _
    unfold restV
    rw [List.filter_nil,List.append_nil]
    exact Ev.now _
  | cons x r ih =>
    intro o h
    rw [List.length_cons] at h
    simp only [creelref_DiffOf.all_]
    refine Ev.bind (dfind_ev a x.f0 ha) ?_
    by_cases c:findP a x.f0 = a.length
    · have e:o ++ restV a (x :: r) = (o ++ [x]) ++ restV a r:=by
        unfold restV
        rw [List.filter_cons_of_pos (by exact decide_eq_true c),List.append_assoc]
        rfl
      rw [e]
      exact Ev.ifp (by omega) (Ev.ifp (by omega) (ih (o ++ [x]) (by rw [List.length_append,List.length_singleton];omega)))
    · have e:o ++ restV a (x :: r) = o ++ restV a r:=by
        unfold restV
        rw [List.filter_cons_of_neg (by rw [decide_eq_true_eq];exact c)]
      rw [e]
      exact Ev.ifn (by omega) (ih o (by omega))
theorem one_is (l:List DN) (i:Nat) (hi:i < l.length) (hd:∀ y ∈ l,y.f5.length ≤ 140737488351232):Ev (fun k=>creelref_DiffOf.one k l (i:Int)) (nd l i):=by
  unfold creelref_DiffOf.one
  refine Ev.ifp ⟨by omega,by omega⟩ ?_
  rw [rd_nd]
  refine Ev.bind (copy_both [nd l i] (by simp) (fun y hy=>?_)).2 ?_
  · rw [List.mem_singleton] at hy
    rw [hy]
    exact hd _ (nd_mem l i hi)
  · exact Ev.ifp (by simp) (Ev.now _)
theorem dsame_some (x y:DN):∃ b,creelref_DiffOf.same x y = some b:=by
  unfold creelref_DiffOf.same creelref_sameNode.f
  split
  · split
    · split
      · split
        · exact ⟨_,rfl⟩
        · exact ⟨_,rfl⟩
      · exact ⟨_,rfl⟩
    · exact ⟨_,rfl⟩
  · exact ⟨_,rfl⟩
def sameB (x y:DN):Bool:=(creelref_DiffOf.same x y).getD false
theorem dsame_is (x y:DN):creelref_DiffOf.same x y = some (sameB x y):=by
  obtain ⟨b,h⟩:=dsame_some x y
  unfold sameB
  rw [h];rfl
theorem sameB_path {x y:DN} (h:sameB x y = true):x.f0 = y.f0:=by
  unfold sameB creelref_DiffOf.same creelref_sameNode.f at h
  by_cases c:x.f0.toList = y.f0.toList
  · exact toList_inj c
  · rw [if_neg c] at h
    cases h
def eqB (x y:DN):Bool:=sameB x y && decide (x.f2 = y.f2)
def chgV (a b:List DN) (x:DN):Option DC:=if findP b x.f0 = b.length then some ⟨1,nd a (findP a x.f0)⟩ else if findP a x.f0 = a.length then some ⟨2,nd b (findP b x.f0)⟩ else if eqB (nd a (findP a x.f0)) (nd b (findP b x.f0)) = true then none else some ⟨3,nd b (findP b x.f0)⟩
section
variable (a b:List DN) (ha:a.length ≤ 1000) (hb:b.length ≤ 1000) (da:∀ y ∈ a,y.f5.length ≤ 140737488351232) (db:∀ y ∈ b,y.f5.length ≤ 140737488351232)
include ha hb da db
theorem chg_is (x:DN) (hx:findP a x.f0 < a.length ∨ findP b x.f0 < b.length):Ev (fun k=>creelref_DiffOf.chg k a b x) (chgV a b x):=by
  unfold creelref_DiffOf.chg chgV
  refine Ev.bind (dfind_ev a x.f0 ha) (Ev.bind (dfind_ev b x.f0 hb) ?_)
  have hfa:=findP_le a x.f0
  have hfb:=findP_le b x.f0
  by_cases c1:findP b x.f0 = b.length
  · rw [if_pos c1]
    exact Ev.ifp (by omega) (Ev.bind (one_is a _ (by omega) da) (Ev.now _))
  · rw [if_neg c1]
    refine Ev.ifn (by omega) ?_
    by_cases c2:findP a x.f0 = a.length
    · rw [if_pos c2]
      exact Ev.ifp (by omega) (Ev.bind (one_is b _ (by omega) db) (Ev.now _))
    · rw [if_neg c2]
      refine Ev.ifn (by omega) (Ev.ifp ⟨⟨by omega,by omega⟩,by omega,by omega⟩ ?_)
      rw [rd_nd,rd_nd,dsame_is]
      simp only [Option.bind_some]
      unfold eqB
      by_cases c3:sameB (nd a (findP a x.f0)) (nd b (findP b x.f0)) = true
      · refine Ev.ifp c3 ?_
        by_cases c4:(nd a (findP a x.f0)).f2 = (nd b (findP b x.f0)).f2
        · rw [c3,decide_eq_true c4,if_pos (by rfl)]
          exact Ev.ifp c4 (Ev.now _)
        · rw [c3,decide_eq_false c4,if_neg (by decide)]
          exact Ev.ifn c4 (Ev.bind (one_is b _ (by omega) db) (Ev.now _))
      · rw [Bool.eq_false_iff.mpr c3,Bool.false_and,if_neg (by decide)]
        exact Ev.ifn (by decide) (Ev.bind (one_is b _ (by omega) db) (Ev.now _))
theorem run_is2 (r:List DN):∀ o:List DC,(∀ x ∈ r,findP a x.f0 < a.length ∨ findP b x.f0 < b.length)→o.length + r.length ≤ 100000→Ev (fun k=>creelref_DiffOf.run k a b r o) (o ++ r.filterMap (chgV a b)):=by
  induction r with
  | nil =>
    intro o _ _
    rw [List.filterMap_nil,List.append_nil]
    exact Ev.now _
  | cons x r ih =>
    intro o h1 h2
    rw [List.length_cons] at h2
    simp only [creelref_DiffOf.run]
    refine Ev.bind (chg_is a b ha hb da db x (h1 x (List.mem_cons_self ..))) ?_
    have h1':∀ y ∈ r,findP a y.f0 < a.length ∨ findP b y.f0 < b.length:=fun y hy=>h1 y (List.mem_cons_of_mem _ hy)
    cases hc:chgV a b x with
    | none =>
      rw [List.filterMap_cons_none hc]
      exact ih o h1' (by omega)
    | some y =>
      rw [List.filterMap_cons_some hc]
      refine Ev.ifp (by omega) ?_
      have:=ih (o ++ [y]) h1' (by rw [List.length_append,List.length_singleton];omega)
      rw [List.append_assoc] at this
      exact this
end
def allV (a b:List DN):List DN:=a ++ restV a b
def diffV (a b:List DN):List DC:=(sortV (allV a b)).filterMap (chgV a b)
theorem find_mem {l:List DN} {y:DN} (h:y ∈ l):findP l y.f0 < l.length:=(find_lt l y.f0).2 ⟨y,h,rfl⟩
theorem allV_found {a b:List DN} {y:DN} (h:y ∈ allV a b):findP a y.f0 < a.length ∨ findP b y.f0 < b.length:=by
  unfold allV at h
  rw [List.mem_append] at h
  rcases h with h|h
  · exact Or.inl (find_mem h)
  · exact Or.inr (find_mem (List.mem_filter.1 h).1)
theorem ok_size {l:List DN} (hk:TreeOk l):∀ y ∈ l,y.f0.size ≤ 1048576:=fun y hy=>by
  have:=pathR_size _ (nodeX_path _ (hk.node y hy))
  omega
theorem diff_is (a b:List DN) (ka:TreeOk a) (kb:TreeOk b) (na:∀ y ∈ a,okN y) (nb:∀ y ∈ b,okN y) (da:∀ y ∈ a,y.f5.length ≤ 140737488351232) (db:∀ y ∈ b,y.f5.length ≤ 140737488351232):Ev (fun k=>creelref_DiffOf.f k a b) (diffV a b,0):=by
  have la:=ka.len
  have lb:=kb.len
  have hr:(restV a b).length ≤ b.length:=List.length_filter_le _ _
  have hm:∀ y ∈ allV a b,y ∈ a ∨ y ∈ b:=by
    intro y hy
    unfold allV at hy
    rw [List.mem_append] at hy
    exact hy.imp id (fun h=>(List.mem_filter.1 h).1)
  have hlen:(allV a b).length ≤ 80:=by unfold allV;rw [List.length_append];omega
  unfold creelref_DiffOf.f
  refine Ev.bind (ref_tree a na) (Ev.ifp (treeR_of a ka) (Ev.bind (ref_tree b nb) (Ev.ifp (treeR_of b kb) (Ev.ifp (by omega) ?_))))
  refine Ev.bind (all_is a (by omega) b a (by omega)) ?_
  refine Ev.bind (sort_is (allV a b) (by omega) (fun y hy=>(hm y hy).elim (ok_size ka y) (ok_size kb y)) (fun y hy=>(hm y hy).elim (da y) (db y))) ?_
  have h:=run_is2 a b (by omega) (by omega) da db (sortV (allV a b)) [] (fun x hx=>allV_found ((sortV_mem _ _).1 hx)) (by rw [sortV_len,List.length_nil];omega)
  exact Ev.bind h (Ev.now _)
end Go.Proofs.YtlfeijjilndljaaDoor.Q
end
