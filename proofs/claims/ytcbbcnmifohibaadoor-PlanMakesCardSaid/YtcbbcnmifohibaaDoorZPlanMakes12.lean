/- Made by programs of the prover: walks of Go functions, the words that they use, and plain laws, each text in a section of its own; no condition of its own. -/
import Derived.Lib.Bytealg
import Derived.Lib.IndexAny
import Derived.Lib.IndexLaws
import Derived.Test.YtcbbcnmifohibaaDoorZPlanMakes1
import Derived.Test.YtcbbcnmifohibaaDoorZPlanMakes2
import Derived.Test.YtcbbcnmifohibaaDoorZPlanMakes3
import Derived.Test.YtcbbcnmifohibaaDoorZPlanMakes4
import Derived.Test.YtcbbcnmifohibaaDoorZPlanMakes5
import Derived.Test.YtcbbcnmifohibaaDoorZPlanMakes6
import Derived.Test.YtcbbcnmifohibaaDoorZPlanMakes7
import Derived.Test.YtcbbcnmifohibaaDoorZPlanMakes8
import Derived.Test.YtcbbcnmifohibaaDoorZPlanMakes9
import Derived.Test.YtcbbcnmifohibaaDoorZPlanMakes10
import Derived.Test.YtcbbcnmifohibaaDoorZPlanMakes11
section
namespace Go.Proofs.YtcbbcnmifohibaaDoor.GPlanMakes
open Go.RowKit Go.Proofs.YtcbbcnmifohibaaDoor.All Go.Proofs.YtcbbcnmifohibaaDoorW.PrintWords Go.Proofs.YtcbbcnmifohibaaDoorW.PrintLast Go.Proofs.YtcbbcnmifohibaaDoorW.Opens
set_option linter.unusedVariables false
def good42 (x:S42):Prop:=((Lit.int .i64 x.f0).wf = true)∧((Lit.int .i64 x.f1).wf = true)∧((Lit.int .i64 x.f2).wf = true)∧(x.f3.size ≤ 140737488351232)∧(x.f4.size ≤ 140737488351232)∧((Lit.int .i64 x.f5).wf = true)∧((Lit.int .i64 x.f6).wf = true)
theorem opens42:Opens Tryd.prog 42 k42 good42:=opens_iso (f:=(fun x:S42=>(x.f0,x.f1,x.f2,x.f3,x.f4,x.f5,x.f6))) (fun p=>⟨p.1,p.2.1,p.2.2.1,p.2.2.2.1,p.2.2.2.2.1,p.2.2.2.2.2.1,p.2.2.2.2.2.2⟩) (fun _=>rfl) (opens_struct Tryd.underlying42 (by kernel_rfl) (opensF_cons (off2:=1) rfl (by kernel_rfl) (opens_int Tryd.underlying3) rfl (opensF_cons (off2:=2) rfl (by kernel_rfl) (opens_int Tryd.underlying3) rfl (opensF_cons (off2:=3) rfl (by kernel_rfl) (opens_int Tryd.underlying3) rfl (opensF_cons (off2:=4) rfl (by kernel_rfl) (opens_string Tryd.underlying9) rfl (opensF_cons (off2:=5) rfl (by kernel_rfl) (opens_string Tryd.underlying9) rfl (opensF_cons (off2:=6) rfl (by kernel_rfl) (opens_int Tryd.underlying3) rfl (opensF_one rfl (by kernel_rfl) (opens_int Tryd.underlying3)))))))))
def good45 (x:S45):Prop:=(x.f0.size ≤ 140737488351232)∧((Lit.int .i64 x.f1).wf = true)∧((Lit.int .i64 x.f2).wf = true)∧(x.f3.size ≤ 140737488351232)∧(good42 x.f4)∧(x.f5.length * 1 ≤ 140737488351232∧∀ y ∈ x.f5,(Lit.int .u8 y).wf = true)
theorem opens45:Opens Tryd.prog 45 k45 good45:=opens_iso (f:=(fun x:S45=>(x.f0,x.f1,x.f2,x.f3,x.f4,x.f5))) (fun p=>⟨p.1,p.2.1,p.2.2.1,p.2.2.2.1,p.2.2.2.2.1,p.2.2.2.2.2⟩) (fun _=>rfl) (opens_struct Tryd.underlying45 (by kernel_rfl) (opensF_cons (off2:=1) rfl (by kernel_rfl) (opens_string Tryd.underlying9) rfl (opensF_cons (off2:=2) rfl (by kernel_rfl) (opens_int Tryd.underlying3) rfl (opensF_cons (off2:=3) rfl (by kernel_rfl) (opens_int Tryd.underlying3) rfl (opensF_cons (off2:=4) rfl (by kernel_rfl) (opens_string Tryd.underlying9) rfl (opensF_cons (off2:=11) rfl (by kernel_rfl) opens42 rfl (opensF_one rfl (by kernel_rfl) (opens_slice (B:=1) Tryd.underlying43 (by kernel_rfl) (by kernel_rfl) (opens_int Tryd.underlying5)))))))))
def good58 (x:S58):Prop:=(True)∧(x.f1.size ≤ 140737488351232)
theorem opens58:Opens Tryd.prog 58 k58 good58:=opens_iso (f:=(fun x:S58=>(x.f0,x.f1))) (fun p=>⟨p.1,p.2⟩) (fun _=>rfl) (opens_struct Tryd.underlying58 (by kernel_rfl) (opensF_cons (off2:=1) rfl (by kernel_rfl) (opens_bool Tryd.underlying4) rfl (opensF_one rfl (by kernel_rfl) (opens_string Tryd.underlying9))))
def Pure:Prop:=∀ (l0:List S45) (l1:List S58),(l0.length * 144 ≤ 140737488351232∧∀ y ∈ l0,good45 y)→(l1.length * 24 ≤ 140737488351232∧∀ y ∈ l1,good58 y)→∃ k,creellaw_PlanMakes.f k l0 l1 = some true
theorem walk (P:Pure) (l0:List S45) (l1:List S58) (w:World) (g0:l0.length * 144 ≤ 140737488351232∧∀ y ∈ l0,good45 y) (g1:l1.length * 24 ≤ 140737488351232∧∀ y ∈ l1,good58 y) {A0:Option Addr} {c0:Nat} (r0:Kd.C k45 w A0 l0.length l0) (hc0:l0.length ≤ c0) {A1:Option Addr} {c1:Nat} (r1:Kd.C k58 w A1 l1.length l1) (hc1:l1.length ≤ c1) :
 Calls Tryd.prog 6 #[.slice A0 l0.length c0,.slice A1 l1.length c1] w fun e w'=>e = .returned (.bool true)∧Below w.heap.size w w':=by
 obtain ⟨k,h⟩:=P l0 l1 g0 g1;refine (creellaw_PlanMakes.calls k A0 c0 l0 A1 c1 l1 true w r0 hc0 r1 hc1 h).mono ?_;rintro e w' ⟨rfl,hd⟩;exact ⟨rfl,hd⟩
end Go.Proofs.YtcbbcnmifohibaaDoor.GPlanMakes
end
section
namespace Go.Proofs.YtcbbcnmifohibaaDoorW.PureBase
open Go.RowKit Go.Proofs.YtcbbcnmifohibaaDoorW.PrintWords
theorem wrap_is {x:Int} (h0:-9223372036854775808 ≤ x) (h:x ≤ 9223372036854775807):wrap64 x = x:=by unfold wrap64;omega
theorem toList_data (s:ByteArray):s.toList = s.data.toList:=ByteArray.toList_eq s
theorem bt_get (s:ByteArray) (i:Nat) (h:i < s.size):bt s i = ((s.data.toList[i]'(by simpa using h)).toNat:Int):=by
  unfold bt
  rw [dif_pos (by simpa using h)]
  simp
  rfl
theorem bt_eq_iff (s:ByteArray) (i:Nat) (h:i < s.size) (c:Int) (c0:0 ≤ c) (c1:c ≤ 255):bt s i = c ↔ s.data.toList[i]? = some c.toNat.toUInt8:=by
  rw [bt_get s i h,List.getElem?_eq_getElem (by simpa using h)]
  simp only [Option.some.injEq]
  constructor
  · intro e
    rw [← e]
    simp
  · intro e
    rw [e]
    simp
    omega
theorem size_list (s:ByteArray):s.data.toList.length = s.size:=by simp
theorem of_list (s:ByteArray):(⟨s.data.toList.toArray⟩:ByteArray) = s:=by simp
theorem ext_list {s t:ByteArray} (h:s.data.toList = t.data.toList):s = t:=by
  rw [← of_list s,← of_list t,h]
theorem toList_inj {s t:ByteArray} (h:s.toList = t.toList):s = t:=by
  rw [toList_data,toList_data] at h
  exact ext_list h
theorem mem_bt (s:ByteArray) (c:Int) (c0:0 ≤ c) (c1:c ≤ 255):(∃ j:Int,0 ≤ j∧j < s.size∧bt s j = c) ↔ s.data.toList.contains c.toNat.toUInt8 = true:=by
  rw [List.contains_iff_mem]
  constructor
  · rintro ⟨j,h0,h1,h2⟩
    obtain ⟨i,rfl⟩:=Int.eq_ofNat_of_zero_le h0
    have:=(bt_eq_iff s i (by omega) c c0 c1).1 h2
    exact List.mem_of_getElem? this
  · intro h
    obtain ⟨i,hi,he⟩:=List.mem_iff_getElem.1 h
    have hs:i < s.size:=by simpa using hi
    refine ⟨i,by omega,by omega,?_⟩
    rw [bt_eq_iff s i hs c c0 c1,List.getElem?_eq_getElem hi,he]
theorem index_ge (l:List UInt8) (c:UInt8):decide (Lib.indexByte l c ≥ 0) = l.contains c:=by
  rw [Lib.contains_iff_indexByte]
theorem Ev.from_ {α:Type} {g:Nat→Option α} {r:α} (K:Nat) (h:∀ k,K ≤ k→g k = some r):Ev g r:=⟨K,h⟩
theorem Ev.const {α:Type} {o:Option α} {r:α} (h:o = some r):Ev (fun _=>o) r:=⟨0,fun _ _=>h⟩
theorem Ev.ifp {α:Type} {c:Prop} [Decidable c] {g f:Nat→Option α} {r:α} (hc:c) (h:Ev g r):Ev (fun k=>if c then g k else f k) r:=by
  obtain ⟨K,hk⟩:=h
  exact ⟨K,fun k h=>(if_pos hc).trans (hk k h)⟩
theorem Ev.ifn {α:Type} {c:Prop} [Decidable c] {g f:Nat→Option α} {r:α} (hc:¬ c) (h:Ev f r):Ev (fun k=>if c then g k else f k) r:=by
  obtain ⟨K,hk⟩:=h
  exact ⟨K,fun k h=>(if_neg hc).trans (hk k h)⟩
end Go.Proofs.YtcbbcnmifohibaaDoorW.PureBase
end
section
namespace Go.Proofs.YtcbbcnmifohibaaDoor.Q
set_option linter.unusedVariables false
set_option linter.unusedSimpArgs false
open Go.RowKit Go.Proofs.YtcbbcnmifohibaaDoor.All Go.Proofs.YtcbbcnmifohibaaDoorW.PrintWords Go.Proofs.YtcbbcnmifohibaaDoorW.PrintLast Go.Proofs.YtcbbcnmifohibaaDoorW.PrintMore Go.Proofs.YtcbbcnmifohibaaDoorW.PureBase
theorem has_from (s:ByteArray) (c:Int) (hb:s.size ≤ 140737488351232) (d:Nat):∀ (k:Nat) (i:Int),0 ≤ i→i ≤ s.size→(s.size:Int) - i = d→d < k →
    ∃ b,creelref_has.l0 k s c i = some b∧(b = true ↔ ∃ j:Int,i ≤ j∧j < s.size∧bt s j = c):=by
  induction d with
  | zero =>
    intro k i h0 h1 hd hk
    obtain ⟨k,rfl⟩:∃ m,k = m + 1:=⟨k - 1,by omega⟩
    refine ⟨false,?_,?_⟩
    · simp only [creelref_has.l0];rw [if_neg (by omega)]
    · constructor
      · intro h;cases h
      · rintro ⟨j,h1,h2,_⟩;omega
  | succ d ih =>
    intro k i h0 h1 hd hk
    obtain ⟨k,rfl⟩:∃ m,k = m + 1:=⟨k - 1,by omega⟩
    have hlt:i < (s.size:Int):=by omega
    have hw:wrap64 (i + 1) = i + 1:=by unfold wrap64;omega
    by_cases e:bt s i = c
    · refine ⟨true,?_,?_⟩
      · simp only [creelref_has.l0];rw [if_pos hlt,if_pos h0,if_pos e]
      · exact ⟨fun _=>⟨i,by omega,hlt,e⟩,fun _=>rfl⟩
    · obtain ⟨b,hb1,hb2⟩:=ih k (i + 1) (by omega) (by omega) (by omega) (by omega)
      refine ⟨b,?_,?_⟩
      · simp only [creelref_has.l0];rw [if_pos hlt,if_pos h0,hw,if_neg e];exact hb1
      · rw [hb2]
        constructor
        · rintro ⟨j,h1,h2,h3⟩;exact ⟨j,by omega,h2,h3⟩
        · rintro ⟨j,h1,h2,h3⟩
          have:j ≠ i:=by rintro rfl;exact e h3
          exact ⟨j,by omega,h2,h3⟩
theorem has_ev (s:ByteArray) (c:Int) (c0:0 ≤ c) (c1:c ≤ 255) (hb:s.size ≤ 140737488351232):Ev (fun k=>creelref_has.f k s c) (s.data.toList.contains c.toNat.toUInt8):=by
  refine ⟨s.size + 1,fun k hk=>?_⟩
  obtain ⟨b,h1,h2⟩:=has_from s c hb s.size k 0 (by omega) (by omega) (by omega) (by omega)
  show creelref_has.l0 k s c 0 = _
  rw [h1]
  congr 1
  rw [Bool.eq_iff_iff,h2]
  exact mem_bt s c c0 c1
def sp (c:UInt8):List UInt8→List (List UInt8)
  | []=>[[]]
  | b :: l=>if b = c then [] :: sp c l else match sp c l with
    | p :: ps=>(b :: p) :: ps
    | []=>[[b]]
theorem sp_ne (c:UInt8) (l:List UInt8):sp c l ≠ []:=by
  cases l with
  | nil=>simp [sp]
  | cons b l =>
    simp only [sp]
    split
    · simp
    · split <;> simp
theorem sp_go (c:UInt8):∀ (l p:List UInt8),c ∉ p→sp c (p ++ l) = (match sp c l with|q :: qs=>(p ++ q) :: qs|[]=>[p])
  | l,[],_=>by
    cases h:sp c l with
    | nil=>exact absurd h (sp_ne c l)
    | cons q qs=>simp [h]
  | l,a :: p,hp=>by
    have ha:¬ a = c:=fun e=>hp (by simp [e])
    have ih:=sp_go c l p (fun h=>hp (List.mem_cons_of_mem _ h))
    simp only [List.cons_append,sp]
    rw [if_neg ha,ih]
    cases h:sp c l with
    | nil=>exact absurd h (sp_ne c l)
    | cons q qs=>simp
theorem sp_cut (c:UInt8) (p l:List UInt8) (hp:c ∉ p):sp c (p ++ c :: l) = p :: sp c l:=by
  rw [sp_go c (c :: l) p hp]
  simp [sp]
theorem sp_whole (c:UInt8) (p:List UInt8) (hp:c ∉ p):sp c p = [p]:=by
  have:=sp_go c [] p hp
  simpa [sp] using this
theorem sp_snoc (c:UInt8) (l p:List UInt8) (h:sp c l = [p]):c ∉ l∧p = l:=by
  induction l generalizing p with
  | nil=>simp [sp] at h;simp [h]
  | cons b l ih =>
    simp only [sp] at h
    by_cases hb:b = c
    · rw [if_pos hb] at h
      exact absurd (List.cons.inj h).2 (sp_ne c l)
    · rw [if_neg hb] at h
      cases hs:sp c l with
      | nil=>exact absurd hs (sp_ne c l)
      | cons q qs =>
        rw [hs] at h
        simp only [List.cons.injEq] at h
        obtain ⟨h1,h2⟩:=h
        subst h2
        obtain ⟨i1,i2⟩:=ih q hs
        refine ⟨?_,?_⟩
        · intro hm
          rcases List.mem_cons.1 hm with e|e
          · exact hb e.symm
          · exact i1 e
        · rw [← h1,i2]
theorem sp_len_le (c:UInt8) (l:List UInt8):(sp c l).length ≤ l.length + 1:=by
  induction l with
  | nil=>simp [sp]
  | cons b l ih =>
    simp only [sp]
    split
    · simp;omega
    · split
      · rename_i h;rw [h] at ih;simp at ih ⊢;omega
      · simp
def mk (l:List UInt8):ByteArray:=⟨l.toArray⟩
theorem mk_data (l:List UInt8):(mk l).data.toList = l:=rfl
theorem mk_toList (l:List UInt8):(mk l).toList = l:=by rw [toList_data,mk_data]
theorem mk_of (s:ByteArray):mk s.data.toList = s:=of_list s
theorem mk_size (l:List UInt8):(mk l).size = l.length:=rfl
def pp (s:ByteArray):List ByteArray:=(sp 47 s.data.toList).map mk
theorem index_one_none {l:List UInt8} {c:UInt8} (h:Lib.index l [c] = -1):c ∉ l:=by
  rw [Lib.index_one] at h
  intro hm
  obtain ⟨i,hi,he⟩:=List.mem_iff_getElem.1 hm
  exact Lib.indexByte_none h i (by rw [List.getElem?_eq_getElem hi,he])
theorem index_one_some {l:List UInt8} {c:UInt8} {o:Nat} (h:Lib.index l [c] = (o:Int)):o < l.length∧c ∉ l.take o∧l = l.take o ++ c :: l.drop (o + 1):=by
  rw [Lib.index_one] at h
  obtain ⟨h1,h2⟩:=Lib.indexByte_some h
  have hlt:=(List.getElem?_eq_some_iff.1 h1).1
  have he:=(List.getElem?_eq_some_iff.1 h1).2
  refine ⟨hlt,?_,?_⟩
  · intro hm
    obtain ⟨i,hi,hie⟩:=List.mem_iff_getElem.1 hm
    rw [List.length_take] at hi
    rw [List.getElem_take] at hie
    exact h2 i (by omega) (by rw [List.getElem?_eq_getElem (by omega),hie])
  · conv=>lhs;rw [← List.take_append_drop o l]
    rw [List.drop_eq_getElem_cons hlt,he]
theorem split_sp (c:UInt8):∀ (k:Nat) (l:List UInt8),Lib.count l [c] ≤ k→Lib.splitK [c] 0 k l = sp c l
  | 0,l,h=>by
    rw [Lib.count_one] at h
    have:c ∉ l:=by
      intro hm
      have:=List.count_pos_iff.2 hm
      omega
    rw [sp_whole c l this];rfl
  | k + 1,l,h=>by
    unfold Lib.splitK
    by_cases hi:Lib.index l [c] = -1
    · rw [if_pos (by simpa using hi),sp_whole c l (index_one_none hi)]
    · rw [if_neg (by simpa using hi)]
      have hge:=Lib.indexByte_ge l c
      rw [← Lib.index_one] at hge
      obtain ⟨o,ho⟩:=Int.eq_ofNat_of_zero_le (show 0 ≤ Lib.index l [c] by omega)
      obtain ⟨h1,h2,h3⟩:=index_one_some ho
      rw [ho]
      simp only [Int.toNat_natCast,Nat.add_zero,List.length_singleton]
      have hc:Lib.count (l.drop (o + 1)) [c] ≤ k:=by
        rw [Lib.count_one] at h ⊢
        rw [h3,List.count_append,List.count_cons_self] at h
        omega
      rw [split_sp c k _ hc]
      conv=>rhs;rw [h3]
      rw [sp_cut c _ _ h2]
theorem split_is (s:ByteArray) (hs:s.size < 4294967281):strings_Split.f s ⟨#[47]⟩ = some (pp s):=by
  unfold strings_Split.f
  simp only
  rw [if_pos hs]
  congr 1
  have h:=Lib.splitB_data ⟨#[47]⟩ 0 (Lib.countB s ⟨#[47]⟩) s
  rw [show (⟨#[47]⟩:ByteArray).data.toList = [47] from rfl,split_sp 47 _ _ (Nat.le_refl _)] at h
  unfold pp
  rw [← h,List.map_map]
  conv=>lhs;rw [← List.map_id (Lib.splitB ⟨#[47]⟩ 0 (Lib.countB s ⟨#[47]⟩) s)]
  apply List.map_congr_left
  intro x _
  exact (mk_of x).symm
theorem drop_cons (s:ByteArray) (i:Nat) (h:i < s.size):∃ b:UInt8,s.data.toList.drop i = b :: s.data.toList.drop (i + 1)∧(b.toNat:Int) = bt s (i:Int)∧s.extract i (i + 1) = mk [b]:=by
  have hl:i < s.data.toList.length:=by rw [size_list];exact h
  refine ⟨s.data.toList[i],List.drop_eq_getElem_cons hl,(bt_get s i h).symm,?_⟩
  apply ext_list
  rw [Lib.extract_data,List.drop_eq_getElem_cons hl,show i + 1 - i = 1 from by omega]
  rfl
theorem byte_eq (b:UInt8) (c:Int) (h:(b.toNat:Int) = c) (n:UInt8):c = (n.toNat:Int) ↔ b = n:=by
  rw [← h]
  constructor
  · intro e
    apply UInt8.toNat_inj.1
    omega
  · intro e
    rw [e]
theorem parts_loop (s:ByteArray) (d:Nat):∀ (k i:Nat) (done:List ByteArray) (cur:List UInt8),s.size - i = d→i ≤ s.size→d < k→done.length + d < 8796093022207→cur.length + d ≤ 4611686018427387904→s.size ≤ 4611686018427387904 →
    creelref_parts.l0 k s 47 (done ++ [mk cur]) (i:Int) = some (done ++ (match sp 47 (s.data.toList.drop i) with|q :: qs=>mk (cur ++ q) :: qs.map mk|[]=>[mk cur])):=by
  induction d with
  | zero =>
    intro k i done cur hd hi hk hn hc hs
    obtain ⟨k,rfl⟩:∃ m,k = m + 1:=⟨k - 1,by omega⟩
    simp only [creelref_parts.l0]
    rw [if_neg (by omega),List.drop_eq_nil_of_le (by rw [size_list];omega)]
    simp [sp]
  | succ d ih =>
    intro k i done cur hd hi hk hn hc hs
    obtain ⟨k,rfl⟩:∃ m,k = m + 1:=⟨k - 1,by omega⟩
    have hlt:i < s.size:=by omega
    obtain ⟨b,h1,h2,h3⟩:=drop_cons s i hlt
    have hw:wrap64 ((i:Int) + 1) = ((i + 1:Nat):Int):=by rw [wrap_is (by omega) (by omega)];omega
    have hlen:(done ++ [mk cur]).length = done.length + 1:=by simp
    simp only [creelref_parts.l0]
    rw [if_pos (by omega),if_pos (show (0:Int) ≤ i by omega),h1,hw,hlen]
    simp only [sp]
    have h47:bt s (i:Int) = 47 ↔ b = 47:=byte_eq b _ h2 47
    by_cases e:b = 47
    · rw [if_pos (h47.2 e),if_pos (by omega),if_pos e]
      have:=ih k (i + 1) (done ++ [mk cur]) [] (by omega) (by omega) (by omega) (by simp only [List.length_append,List.length_singleton];omega) (by simp only [List.length_nil];omega) hs
      rw [show (⟨#[]⟩:ByteArray) = mk [] from rfl,this]
      cases hsp:sp 47 (s.data.toList.drop (i + 1)) with
      | nil=>exact absurd hsp (sp_ne _ _)
      | cons q qs=>simp
    · have hne:¬ bt s (i:Int) = 47:=fun h=>e (h47.1 h)
      have hw2:wrap64 (((done.length + 1:Nat):Int) - 1) = (done.length:Int):=by rw [wrap_is (by omega) (by omega)];omega
      have hrd:rdOf ByteArray.empty (done ++ [mk cur]) (done.length:Int) = mk cur:=by
        unfold rdOf
        rw [Int.toNat_natCast,List.getD_eq_getElem?_getD,List.getElem?_append_right (Nat.le_refl _),Nat.sub_self];rfl
      have hex:s.extract ((i:Int)).toNat (((i + 1:Nat):Int)).toNat = mk [b]:=by rw [Int.toNat_natCast,Int.toNat_natCast,h3]
      have happ:mk cur ++ mk [b] = mk (cur ++ [b]):=by apply ext_list;simp [mk]
      have hset:(done ++ [mk cur]).set done.length (mk (cur ++ [b])) = done ++ [mk (cur ++ [b])]:=by
        rw [List.set_append_right _ _ (Nat.le_refl _),Nat.sub_self];rfl
      rw [if_neg hne,hw2,hrd,hex,if_pos (by omega),if_pos (by omega),if_pos (by omega),if_pos (by omega),if_pos (by rw [mk_size,mk_size];simp only [List.length_singleton];omega),happ,Int.toNat_natCast,hset,if_neg e]
      rw [ih k (i + 1) done (cur ++ [b]) (by omega) (by omega) (by omega) (by omega) (by simp only [List.length_append,List.length_singleton];omega) hs]
      cases hsp:sp 47 (s.data.toList.drop (i + 1)) with
      | nil=>exact absurd hsp (sp_ne _ _)
      | cons q qs=>simp
theorem parts_is (s:ByteArray) (k:Nat) (hs:s.size ≤ 4294967296) (hk:s.size < k):creelref_parts.f k s 47 = some (pp s):=by
  unfold creelref_parts.f
  have:=parts_loop s s.size k 0 [] [] (by omega) (by omega) hk (by simp only [List.length_nil];omega) (by simp only [List.length_nil];omega) (by omega)
  rw [show ([(⟨#[]⟩:ByteArray)]:List ByteArray) = [] ++ [mk []] from rfl]
  rw [show ((0:Nat):Int) = 0 from rfl] at this
  rw [this]
  unfold pp
  rw [List.drop_zero]
  cases hsp:sp 47 s.data.toList with
  | nil=>exact absurd hsp (sp_ne _ _)
  | cons q qs=>simp
theorem pp_len (s:ByteArray):(pp s).length ≤ s.size + 1:=by
  unfold pp
  rw [List.length_map]
  have:=sp_len_le 47 s.data.toList
  rw [size_list] at this
  exact this
def bad (p:ByteArray):Bool:=decide (p.toList = []) || decide (p.toList = [46]) || decide (p.toList = [46,46])
def pathR (s:ByteArray):Int:=if s.size < 1 ∨ 400 < s.size then 1 else if s.data.toList.contains 0 = true then 3 else if (pp s).any bad = true then 9 else 0
theorem check_loop (l:List ByteArray) (hl:l.length ≤ 4294967297) (d:Nat):∀ (k i:Nat),l.length - i = d→i ≤ l.length→d < k →
    path_Check.l0 k l (l.length:Int) (i:Int) = some (if (l.drop i).any bad = true then 9 else 0)∧creelref_PathFault.l0 k l (l.length:Int) (i:Int) = some (if (l.drop i).any bad = true then 9 else 0):=by
  induction d with
  | zero =>
    intro k i hd hi hk
    obtain ⟨k,rfl⟩:∃ m,k = m + 1:=⟨k - 1,by omega⟩
    simp only [path_Check.l0,creelref_PathFault.l0]
    have hge:¬ (i:Int) < l.length:=by omega
    rw [if_neg hge,if_neg hge,List.drop_eq_nil_of_le (by omega)]
    simp
  | succ d ih =>
    intro k i hd hi hk
    obtain ⟨k,rfl⟩:∃ m,k = m + 1:=⟨k - 1,by omega⟩
    have hlt:i < l.length:=by omega
    have hw:wrap64 ((i:Int) + 1) = ((i + 1:Nat):Int):=by rw [wrap_is (by omega) (by omega)];omega
    have hrd:rdOf ByteArray.empty l (i:Int) = l[i]:=by
      unfold rdOf
      rw [Int.toNat_natCast,List.getD_eq_getElem?_getD,List.getElem?_eq_getElem hlt];rfl
    obtain ⟨h1,h2⟩:=ih k (i + 1) (by omega) (by omega) (by omega)
    simp only [path_Check.l0,creelref_PathFault.l0]
    rw [hw,hrd,h1,h2,List.drop_eq_getElem_cons hlt,List.any_cons]
    generalize l[i] = p
    have c1:(i:Int) < l.length:=by omega
    have c2:(0:Int) ≤ i:=by omega
    simp only [if_pos c1,if_pos c2]
    unfold bad
    by_cases e1:p.toList = []
    · simp [e1]
    · by_cases e2:p.toList = [46]
      · simp [e2]
      · by_cases e3:p.toList = [46,46]
        · simp [e3]
        · simp [e1,e2,e3]
theorem empty_size (s:ByteArray):s.toList = ([]:List UInt8) ↔ s.size = 0:=by
  rw [toList_data,← size_list]
  exact List.length_eq_zero_iff.symm
theorem path_same (s:ByteArray) (hs:s.size ≤ 140737488351232):Ev (fun k=>path_Check.f k s) (pathR s)∧Ev (fun k=>creelref_PathFault.f k s) (pathR s):=by
  obtain ⟨K,hK⟩:=has_ev s 0 (by omega) (by omega) hs
  replace hK:∀ k,K ≤ k→creelref_has.f k s 0 = some (s.data.toList.contains 0):=hK
  have hi:(Lib.indexByte s.data.toList ((0:Int).toNat.toUInt8) ≥ 0) ↔ s.data.toList.contains 0 = true:=by
    have:=index_ge s.data.toList ((0:Int).toNat.toUInt8)
    rw [← decide_eq_true_iff (p:=Lib.indexByte s.data.toList ((0:Int).toNat.toUInt8) ≥ 0),this];rfl
  by_cases c:s.size < 1 ∨ 400 < s.size
  · have e:pathR s = 1:=by unfold pathR;rw [if_pos c]
    rw [e]
    refine ⟨⟨1,fun k hk=>?_⟩,⟨1,fun k hk=>?_⟩⟩
    · obtain ⟨k,rfl⟩:∃ m,k = m + 1:=⟨k - 1,by omega⟩
      show path_Check.f (k + 1) s = _
      unfold path_Check.f
      by_cases h:(s.size:Int) < 1
      · rw [if_pos h];simp [path_Check.j0]
      · rw [if_neg h,decide_eq_true (show (s.size:Int) > 400 by omega)];simp [path_Check.j0]
    · obtain ⟨k,rfl⟩:∃ m,k = m + 1:=⟨k - 1,by omega⟩
      show creelref_PathFault.f (k + 1) s = _
      unfold creelref_PathFault.f
      by_cases h:s.toList = ([]:List UInt8)
      · rw [if_pos h];simp [creelref_PathFault.j0]
      · rw [if_neg h]
        rw [empty_size] at h
        rw [decide_eq_true (show (s.size:Int) > 400 by omega)];simp [creelref_PathFault.j0]
  · have h0:¬ s.toList = ([]:List UInt8):=by rw [empty_size];omega
    have hsp:=split_is s (by omega)
    have hpl:=pp_len s
    by_cases hz:s.data.toList.contains 0 = true
    · have e:pathR s = 3:=by unfold pathR;rw [if_neg c,if_pos hz]
      rw [e]
      refine ⟨⟨1,fun k hk=>?_⟩,⟨K + 1,fun k hk=>?_⟩⟩
      · obtain ⟨k,rfl⟩:∃ m,k = m + 1:=⟨k - 1,by omega⟩
        show path_Check.f (k + 1) s = _
        unfold path_Check.f
        rw [if_neg (show ¬ (s.size:Int) < 1 by omega),decide_eq_false (show ¬ (s.size:Int) > 400 by omega)]
        simp only [path_Check.j0,Bool.false_eq_true,if_false,strings_IndexByte.f,Option.bind_some]
        rw [if_pos (hi.2 hz)]
      · obtain ⟨k,rfl⟩:∃ m,k = m + 1:=⟨k - 1,by omega⟩
        show creelref_PathFault.f (k + 1) s = _
        unfold creelref_PathFault.f
        rw [if_neg h0,decide_eq_false (show ¬ (s.size:Int) > 400 by omega)]
        simp only [creelref_PathFault.j0,Bool.false_eq_true,if_false]
        rw [hK k (by omega)]
        simp only [Option.bind_some,hz,if_true]
    · have hz':s.data.toList.contains 0 = false:=by simpa using hz
      have e:pathR s = (if (pp s).any bad = true then 9 else 0):=by unfold pathR;rw [if_neg c,if_neg hz]
      rw [e]
      refine ⟨⟨500,fun k hk=>?_⟩,⟨K + 500,fun k hk=>?_⟩⟩
      · obtain ⟨k,rfl⟩:∃ m,k = m + 1:=⟨k - 1,by omega⟩
        obtain ⟨h1,_⟩:=check_loop (pp s) (by omega) (pp s).length k 0 (by omega) (by omega) (by omega)
        show path_Check.f (k + 1) s = _
        unfold path_Check.f
        rw [if_neg (show ¬ (s.size:Int) < 1 by omega),decide_eq_false (show ¬ (s.size:Int) > 400 by omega)]
        simp only [path_Check.j0,Bool.false_eq_true,if_false,strings_IndexByte.f,Option.bind_some]
        rw [if_neg (fun h=>hz (hi.1 h)),hsp]
        simp only [Option.bind_some]
        rw [List.drop_zero] at h1
        exact h1
      · obtain ⟨k,rfl⟩:∃ m,k = m + 1:=⟨k - 1,by omega⟩
        obtain ⟨_,h2⟩:=check_loop (pp s) (by omega) (pp s).length k 0 (by omega) (by omega) (by omega)
        show creelref_PathFault.f (k + 1) s = _
        unfold creelref_PathFault.f
        rw [if_neg h0,decide_eq_false (show ¬ (s.size:Int) > 400 by omega)]
        simp only [creelref_PathFault.j0,Bool.false_eq_true,if_false]
        rw [hK k (by omega)]
        simp only [Option.bind_some,hz',Bool.false_eq_true,if_false]
        rw [parts_is s k (by omega) (by omega)]
        simp only [Option.bind_some]
        rw [List.drop_zero] at h2
        exact h2
def joinS:List (List UInt8)→List UInt8
  | []=>[]
  | [p]=>p
  | p :: q :: r=>p ++ 47 :: joinS (q :: r)
theorem joinS_cons (p:List UInt8) {r:List (List UInt8)} (h:r ≠ []):joinS (p :: r) = p ++ 47 :: joinS r:=by
  cases r with
  | nil=>exact absurd rfl h
  | cons q r=>rfl
theorem joinS_snoc (xs:List (List UInt8)) (x:List UInt8) (h:xs ≠ []):joinS (xs ++ [x]) = joinS xs ++ 47 :: x:=by
  induction xs with
  | nil=>exact absurd rfl h
  | cons p xs ih =>
    cases xs with
    | nil=>rfl
    | cons q xs =>
      have:=ih (by simp)
      rw [List.cons_append,joinS_cons p (by simp),this,joinS_cons p (by simp)]
      simp
theorem join_sp (l:List UInt8):joinS (sp 47 l) = l:=by
  induction l with
  | nil=>rfl
  | cons b l ih =>
    simp only [sp]
    by_cases hb:b = 47
    · rw [if_pos hb,joinS_cons _ (sp_ne _ _),ih,hb];rfl
    · rw [if_neg hb]
      cases hs:sp 47 l with
      | nil=>exact absurd hs (sp_ne _ _)
      | cons p ps =>
        rw [hs] at ih
        cases ps with
        | nil=>simp [joinS] at ih ⊢;exact ih
        | cons q qs =>
          simp only [joinS_cons _ (show (q :: qs) ≠ [] by simp)] at ih ⊢
          rw [List.cons_append,ih]
theorem join_take_le (xs:List (List UInt8)):∀ i,(joinS (xs.take i)).length ≤ (joinS xs).length:=by
  induction xs with
  | nil=>intro i;simp [joinS]
  | cons p xs ih =>
    intro i
    cases i with
    | zero=>simp [joinS]
    | succ i =>
      rw [List.take_succ_cons]
      cases xs with
      | nil=>simp [joinS]
      | cons q xs =>
        cases i with
        | zero =>
          rw [List.take_zero,joinS_cons p (show (q :: xs) ≠ [] by simp)]
          simp [joinS]
        | succ i =>
          have:=ih (i + 1)
          rw [joinS_cons p (show (q :: xs).take (i + 1) ≠ [] by simp),joinS_cons p (by simp)]
          simp only [List.length_append,List.length_cons]
          omega
theorem sp_last (A B:List UInt8) (hB:(47:UInt8) ∉ B):sp 47 (A ++ 47 :: B) = sp 47 A ++ [B]:=by
  induction A with
  | nil=>simp [sp,sp_whole 47 B hB]
  | cons a A ih =>
    simp only [List.cons_append,sp]
    by_cases ha:a = 47
    · rw [if_pos ha,if_pos ha,ih];rfl
    · rw [if_neg ha,if_neg ha,ih]
      cases hs:sp 47 A with
      | nil=>exact absurd hs (sp_ne _ _)
      | cons p ps=>simp
theorem split_loop (xs:List (List UInt8)) (hx:xs ≠ []) (hn:xs.length ≤ 4294967297) (hj:(joinS xs).length ≤ 4294967296) (d:Nat):∀ (k i:Nat),xs.length - 1 - i = d→i ≤ xs.length - 1→d < k →
    creelref_PathSplit.l0 k (xs.map mk) (mk (joinS (xs.take i))) (i:Int) = some (mk (joinS (xs.take (xs.length - 1))),mk (xs.getLast hx)):=by
  have hlen:0 < xs.length:=List.length_pos_iff.2 hx
  have hrd:∀ j (h:j < xs.length),rdOf ByteArray.empty (xs.map mk) (j:Int) = mk xs[j]:=by
    intro j h
    unfold rdOf
    rw [Int.toNat_natCast,List.getD_eq_getElem?_getD,List.getElem?_map,List.getElem?_eq_getElem h];rfl
  have hw1:wrap64 ((xs.length:Int) - 1) = ((xs.length - 1:Nat):Int):=by rw [wrap_is (by omega) (by omega)];omega
  induction d with
  | zero =>
    intro k i hd hi hk
    obtain ⟨k,rfl⟩:∃ m,k = m + 1:=⟨k - 1,by omega⟩
    obtain rfl:i = xs.length - 1:=by omega
    simp only [creelref_PathSplit.l0,List.length_map]
    rw [hw1,if_neg (show ¬ ((xs.length - 1:Nat):Int) < ((xs.length - 1:Nat):Int) by omega),if_pos (show (0:Int) ≤ ((xs.length - 1:Nat):Int) by omega),if_pos (show ((xs.length - 1:Nat):Int) < (xs.length:Int) by omega),hrd (xs.length - 1) (by omega),List.getLast_eq_getElem]
  | succ d ih =>
    intro k i hd hi hk
    obtain ⟨k,rfl⟩:∃ m,k = m + 1:=⟨k - 1,by omega⟩
    have hlt:i < xs.length:=by omega
    have hw:wrap64 ((i:Int) + 1) = ((i + 1:Nat):Int):=by rw [wrap_is (by omega) (by omega)];omega
    have hnext:=ih k (i + 1) (by omega) (by omega) (by omega)
    have ht:xs.take (i + 1) = xs.take i ++ [xs[i]]:=(List.take_append_getElem hlt).symm
    have hle:=join_take_le xs (i + 1)
    simp only [creelref_PathSplit.l0,List.length_map]
    rw [hw1,if_pos (show (i:Int) < ((xs.length - 1:Nat):Int) by omega),hw,hrd i hlt]
    by_cases h0:i = 0
    · subst h0
      rw [if_neg (by omega),if_pos (by omega),if_pos (by omega)]
      have h1:xs.take (0 + 1) = [xs[0]]:=by rw [ht];rfl
      rw [h1] at hle
      have e:mk (joinS (xs.take 0)) ++ mk xs[0] = mk (joinS (xs.take (0 + 1))):=by
        rw [h1];apply ext_list;simp [mk,joinS]
      have hsz:(mk (joinS (xs.take 0))).size + (mk xs[0]).size ≤ 9223372036854775807:=by
        have hle':xs[0].length ≤ (joinS xs).length:=hle
        rw [mk_size,mk_size,List.take_zero]
        show 0 + xs[0].length ≤ _
        omega
      rw [if_pos hsz,e];exact hnext
    · have hne:xs.take i ≠ []:=by
        intro h
        have h2:=congrArg List.length h
        rw [List.length_take,List.length_nil] at h2
        omega
      have hj2:joinS (xs.take (i + 1)) = joinS (xs.take i) ++ 47 :: xs[i]:=by rw [ht,joinS_snoc _ _ hne]
      have e:(mk (joinS (xs.take i)) ++ (⟨#[47]⟩:ByteArray)) ++ mk xs[i] = mk (joinS (xs.take (i + 1))):=by
        rw [hj2];apply ext_list;simp [mk]
      rw [hj2] at hle
      simp only [List.length_append,List.length_cons] at hle
      have hs1:(mk (joinS (xs.take i)) ++ (⟨#[47]⟩:ByteArray)).size = (joinS (xs.take i)).length + 1:=by rw [ByteArray.size_append,mk_size];rfl
      rw [if_pos (by omega),if_pos (by rw [mk_size];omega),if_pos (by omega),if_pos (by omega),if_pos (by rw [hs1,mk_size];omega),e]
      exact hnext
theorem split_at (s:ByteArray) (k:Nat) (hs:s.size ≤ 1048576) (hk:s.size + 2 < k):creelref_PathSplit.f k s = some (mk (joinS ((sp 47 s.data.toList).take ((sp 47 s.data.toList).length - 1))),mk ((sp 47 s.data.toList).getLast (sp_ne _ _))):=by
  unfold creelref_PathSplit.f
  rw [parts_is s k (by omega) (by omega)]
  simp only [Option.bind_some]
  have hl:=sp_len_le 47 s.data.toList
  rw [size_list] at hl
  have:=split_loop (sp 47 s.data.toList) (sp_ne _ _) (by omega) (by rw [join_sp,size_list];omega) ((sp 47 s.data.toList).length - 1) k 0 (by omega) (by omega) (by omega)
  exact this
theorem data_get (s:ByteArray) (i:Nat) (h:i < s.size):((s.data[i]!).toNat:Int) = bt s (i:Int):=by
  rw [bt_get s i h]
  have h':i < s.data.size:=h
  rw [getElem!_pos s.data i h']
  simp
theorem last_f (s:ByteArray) (hb:s.size < 4611686018427387904) (t:Int) (e:Lib.lastIndexByte s 47 = t):strings_LastIndexByte.f s 47 = some t:=by
  unfold strings_LastIndexByte.f
  rw [if_pos hb,e]
theorem up0 (s:ByteArray) (n:Nat) (e:strings_LastIndexByte.f s 47 = some (n:Int)) (hn:n ≤ s.size):path_Up.f s = some (s.extract 0 n):=by
  unfold path_Up.f
  rw [e]
  simp only [Option.bind_some]
  rw [if_neg (show ¬ (n:Int) < 0 by omega),if_pos (Int.natCast_nonneg n),if_pos (Int.ofNat_le.2 hn),Int.toNat_natCast]
theorem wrap_one (i n:Nat) (h:n = i + 1) (hn:n ≤ 9223372036854775807):wrap64 ((i:Int) + 1) = (n:Int):=by rw [wrap_is (by omega) (by omega)];omega
theorem up_none (s:ByteArray) (hs:s.size ≤ 1048576) (e:Lib.lastIndexByte s 47 = -1):path_Up.f s = some (⟨#[]⟩:ByteArray):=by
  have h:=last_f s (by omega) _ e
  unfold path_Up.f
  rw [h];simp
theorem up_some (s:ByteArray) (hs:s.size ≤ 1048576) (i:Nat) (hi:i < s.size) (e:Lib.lastIndexByte s 47 = (i:Int)):path_Up.f s = some (s.extract 0 i):=up0 s i (last_f s (by omega) _ e) (by omega)
theorem last_cut (s:ByteArray) (i:Nat) (hi:i < s.size) (hc:((s.data[i]!).toNat:Int) = 47) (hn:∀ j,i < j→j < s.size→((s.data[j]!).toNat:Int) ≠ 47) :
    (47:UInt8) ∉ s.data.toList.drop (i + 1)∧s.data.toList = s.data.toList.take i ++ 47 :: s.data.toList.drop (i + 1):=by
  have hl:i < s.data.toList.length:=by rw [size_list];exact hi
  have h47:(47:Int).toNat.toUInt8 = 47:=rfl
  have hb:s.data.toList[i] = 47:=by
    rw [data_get s i hi,bt_eq_iff s i hi 47 (by omega) (by omega),List.getElem?_eq_getElem hl,h47] at hc
    exact Option.some.inj hc
  refine ⟨?_,?_⟩
  · intro hm
    obtain ⟨j,hj,hje⟩:=List.mem_iff_getElem.1 hm
    rw [List.length_drop,size_list] at hj
    rw [List.getElem_drop] at hje
    apply hn (i + 1 + j) (by omega) (by omega)
    rw [data_get s _ (by omega),bt_eq_iff s _ (by omega) 47 (by omega) (by omega),List.getElem?_eq_getElem (by rw [size_list];omega),hje,h47]
  · conv=>lhs;rw [← List.take_append_drop i s.data.toList,List.drop_eq_getElem_cons hl,hb]
theorem last_none (s:ByteArray) (hn:∀ j,j < s.size→((s.data[j]!).toNat:Int) ≠ 47):(47:UInt8) ∉ s.data.toList:=by
  have h47:(47:Int).toNat.toUInt8 = 47:=rfl
  intro hm
  obtain ⟨j,hj,hje⟩:=List.mem_iff_getElem.1 hm
  have hjs:j < s.size:=by simpa using hj
  apply hn j hjs
  rw [data_get s j hjs,bt_eq_iff s j hjs 47 (by omega) (by omega),List.getElem?_eq_getElem hj,hje,h47]
theorem split_last (A B:List UInt8) (hB:(47:UInt8) ∉ B) (l:List UInt8) (hl:l = A ++ 47 :: B) (hx:sp 47 l ≠ []):joinS ((sp 47 l).take ((sp 47 l).length - 1)) = A∧(sp 47 l).getLast hx = B:=by
  have h1:sp 47 l = sp 47 A ++ [B]:=by rw [hl];exact sp_last A B hB
  refine ⟨?_,?_⟩
  · rw [h1,List.length_append,List.length_singleton,Nat.add_sub_cancel,List.take_left,join_sp]
  · have h2:(sp 47 l).getLast? = some B:=by rw [h1];simp
    rw [List.getLast?_eq_some_getLast hx] at h2
    exact Option.some.inj h2
theorem split_only (l:List UInt8) (h:(47:UInt8) ∉ l) (hx:sp 47 l ≠ []):joinS ((sp 47 l).take ((sp 47 l).length - 1)) = []∧(sp 47 l).getLast hx = l:=by
  have h1:=sp_whole 47 l h
  refine ⟨by rw [h1];rfl,?_⟩
  have h2:(sp 47 l).getLast? = some l:=by rw [h1];simp
  rw [List.getLast?_eq_some_getLast hx] at h2
  exact Option.some.inj h2
theorem up_only (s:ByteArray) (k:Nat) (hs:s.size ≤ 1048576) (hk:s.size + 2 < k):(Lib.lastIndexByte s 47 = -1∧path_Up.f s = some (⟨#[]⟩:ByteArray)∧creelref_PathSplit.f k s = some ((⟨#[]⟩:ByteArray),s)) ∨
    ∃ i,i < s.size∧Lib.lastIndexByte s 47 = (i:Int)∧path_Up.f s = some (s.extract 0 i)∧creelref_PathSplit.f k s = some (s.extract 0 i,s.extract (i + 1) s.size):=by
  have hsp:=split_at s k hs hk
  rcases Lib.lastIndexByte_spec s 47 with ⟨e,hn⟩|⟨i,hi,e,hc,hn⟩
  · obtain ⟨h3,h4⟩:=split_only _ (last_none s hn) (sp_ne 47 s.data.toList)
    refine Or.inl ⟨e,up_none s hs e,?_⟩
    rw [hsp,h3,h4,mk_of];rfl
  · obtain ⟨c1,c2⟩:=last_cut s i hi hc hn
    obtain ⟨h3,h4⟩:=split_last _ _ c1 _ c2 (sp_ne 47 s.data.toList)
    have x1:mk (s.data.toList.take i) = s.extract 0 i:=by apply ext_list;rw [mk_data,Lib.extract_data];simp
    have x2:mk (s.data.toList.drop (i + 1)) = s.extract (i + 1) s.size:=by apply ext_list;rw [mk_data,Lib.extract_to_end]
    refine Or.inr ⟨i,hi,e,up_some s hs i hi e,?_⟩
    rw [hsp,h3,h4,x1,x2]
def wrong (a b c:Int) (u g:ByteArray) (s n:Int):Int :=
  if a < 0 ∨ a > 4095 ∨ b < 0 ∨ b > 1125899906842624 ∨ c < 0 ∨ c > 1125899906842624 then 4
  else if (u.size:Int) > 60 ∨ (g.size:Int) > 60 then 1
  else if u.data.toList.contains 0 = true ∨ g.data.toList.contains 0 = true then 3
  else if s < -1099511627776 ∨ s > 1099511627776 ∨ n < 0 ∨ n > 999999999 then 4 else 0
theorem stamp_is (s n:Int):stamp_Check.f s n = some (if s < -1099511627776 ∨ s > 1099511627776 ∨ n < 0 ∨ n > 999999999 then 4 else 0):=by
  unfold stamp_Check.f
  by_cases h1:s < -1099511627776
  · simp [h1]
  · by_cases h2:s > 1099511627776
    · simp [h1,h2]
    · by_cases h3:n < 0
      · simp [h1,h2,h3]
      · by_cases h4:n > 999999999 <;> simp [h1,h2,h3,h4]
theorem time_is (s n:Int):creelref_TimeFault.f s n = some (if s < -1099511627776 ∨ s > 1099511627776 ∨ n < 0 ∨ n > 999999999 then 4 else 0):=by
  unfold creelref_TimeFault.f
  by_cases h1:s < -1099511627776
  · simp [h1]
  · by_cases h2:s > 1099511627776
    · simp [h1,h2]
    · by_cases h3:n < 0
      · simp [h1,h2,h3]
      · by_cases h4:n > 999999999
        · rw [if_neg h1,if_neg h2,if_neg h3,if_pos (by omega),if_pos (by omega)]
        · rw [if_neg h1,if_neg h2,if_neg h3,if_neg (by omega),if_neg (by omega)]
theorem check_ev (a b c:Int) (u g:ByteArray) (s n:Int):Ev (fun k=>meta_Check.f k a b c u g s n) (wrong a b c u g s n):=by
  refine ⟨10,fun k hk=>?_⟩
  obtain ⟨k,rfl⟩:∃ m,k = m + 10:=⟨k - 10,by omega⟩
  have j2:∀ (b2:Bool) (m:Nat),(b2 = false→u.size ≤ 60∧g.size ≤ 60)→meta_Check.j2 (m + 1) b2 a b c u g s n = some (if b2 = true then 1 else if u.data.toList.contains 0 = true ∨ g.data.toList.contains 0 = true then 3
      else if s < -1099511627776 ∨ s > 1099511627776 ∨ n < 0 ∨ n > 999999999 then 4 else 0):=by
    intro b2 m hb
    simp only [meta_Check.j2]
    cases b2 with
    | true=>simp
    | false =>
      obtain ⟨h1,h2⟩:=hb rfl
      simp only [Bool.false_eq_true,if_false];rw [if_pos (by omega)]
      unfold strings_IndexByte.f
      simp only [Option.bind_some]
      have e:(Lib.indexByte (u ++ g).data.toList ((0:Int).toNat.toUInt8) ≥ 0) ↔ (u.data.toList.contains 0 = true ∨ g.data.toList.contains 0 = true):=by
        have:=index_ge (u ++ g).data.toList ((0:Int).toNat.toUInt8)
        rw [← decide_eq_true_iff (p:=Lib.indexByte (u ++ g).data.toList ((0:Int).toNat.toUInt8) ≥ 0),this]
        simp
      by_cases h:u.data.toList.contains 0 = true ∨ g.data.toList.contains 0 = true
      · rw [if_pos h,if_pos (e.2 h)]
      · rw [if_neg h,if_neg (fun x=>h (e.1 x)),stamp_is];rfl
  have j1:∀ (b1:Bool) (m:Nat),meta_Check.j1 (m + 2) b1 a b c u g s n = some (if b1 = true then 4 else if (u.size:Int) > 60 ∨ (g.size:Int) > 60 then 1 else if u.data.toList.contains 0 = true ∨ g.data.toList.contains 0 = true then 3
      else if s < -1099511627776 ∨ s > 1099511627776 ∨ n < 0 ∨ n > 999999999 then 4 else 0):=by
    intro b1 m
    simp only [meta_Check.j1]
    cases b1 with
    | true=>simp
    | false =>
      simp only [Bool.false_eq_true,if_false]
      by_cases h1:(u.size:Int) > 60
      · rw [if_pos h1,j2 true m (by simp)];simp [h1]
      · rw [if_neg h1]
        by_cases h2:(g.size:Int) > 60
        · rw [decide_eq_true h2,j2 true m (by simp)];simp [h2]
        · rw [decide_eq_false h2,j2 false m (fun _=>⟨by omega,by omega⟩)];simp [h1,h2]
  show meta_Check.f (k + 10) a b c u g s n = _
  unfold meta_Check.f wrong
  by_cases h1:a < 0
  · simp [meta_Check.j0,j1,h1]
  · by_cases h2:a > 4095
    · simp [meta_Check.j0,j1,h1,h2]
    · by_cases h3:b < 0
      · simp [meta_Check.j0,j1,h1,h2,h3]
      · by_cases h4:b > 1125899906842624
        · simp [meta_Check.j0,j1,h1,h2,h3,h4]
        · by_cases h5:c < 0
          · simp [meta_Check.j0,j1,h1,h2,h3,h4,h5]
          · by_cases h6:c > 1125899906842624
            · simp [meta_Check.j0,j1,h1,h2,h3,h4,h5,h6]
            · simp [meta_Check.j0,j1,h1,h2,h3,h4,h5,h6]
theorem fault_ev (a b c:Int) (u g:ByteArray) (s n:Int) (hu:u.size ≤ 140737488351232) (hg:g.size ≤ 140737488351232):Ev (fun k=>creelref_MetaFault.f k a b c u g s n) (wrong a b c u g s n):=by
  obtain ⟨K1,e1⟩:=has_ev u 0 (by omega) (by omega) hu
  obtain ⟨K2,e2⟩:=has_ev g 0 (by omega) (by omega) hg
  replace e1:∀ k,K1 ≤ k→creelref_has.f k u 0 = some (u.data.toList.contains 0):=e1
  replace e2:∀ k,K2 ≤ k→creelref_has.f k g 0 = some (g.data.toList.contains 0):=e2
  refine ⟨max K1 K2 + 10,fun k hk=>?_⟩
  obtain ⟨k,rfl⟩:∃ m,k = m + 2:=⟨k - 2,by omega⟩
  have j1:∀ (b1:Bool),creelref_MetaFault.j1 (k + 1) b1 a b c u g s n = some (if b1 = true then 1 else if u.data.toList.contains 0 = true ∨ g.data.toList.contains 0 = true then 3
      else if s < -1099511627776 ∨ s > 1099511627776 ∨ n < 0 ∨ n > 999999999 then 4 else 0):=by
    intro b1
    simp only [creelref_MetaFault.j1]
    cases b1 with
    | true=>simp
    | false =>
      simp only [Bool.false_eq_true,if_false];rw [e1 k (by omega),e2 k (by omega)]
      simp only [Option.bind_some]
      by_cases h1:u.data.toList.contains 0 = true
      · rw [if_pos h1,if_pos (.inl h1)]
      · rw [if_neg h1]
        by_cases h2:g.data.toList.contains 0 = true
        · rw [if_pos h2,if_pos (.inr h2)]
        · rw [if_neg h2,if_neg (by rintro (h|h);exact h1 h;exact h2 h),time_is];rfl
  have j0:∀ (b1:Bool),creelref_MetaFault.j0 (k + 2) b1 a b c u g s n = some (if b1 = true then 4 else if (u.size:Int) > 60 ∨ (g.size:Int) > 60 then 1 else if u.data.toList.contains 0 = true ∨ g.data.toList.contains 0 = true then 3
      else if s < -1099511627776 ∨ s > 1099511627776 ∨ n < 0 ∨ n > 999999999 then 4 else 0):=by
    intro b1
    simp only [creelref_MetaFault.j0]
    cases b1 with
    | true=>simp
    | false =>
      simp only [Bool.false_eq_true,if_false]
      by_cases h1:(u.size:Int) > 60
      · rw [if_pos h1,j1];simp [h1]
      · rw [if_neg h1]
        by_cases h2:(g.size:Int) > 60
        · rw [decide_eq_true h2,j1];simp [h2]
        · rw [decide_eq_false h2,j1];simp [h1,h2]
  have hx:a ≥ 4096 ↔ a > 4095:=by omega
  show creelref_MetaFault.f (k + 2) a b c u g s n = _
  unfold creelref_MetaFault.f wrong
  by_cases h1:a < 0
  · simp [j0,hx,h1]
  · by_cases h2:a > 4095
    · simp [j0,hx,h1,h2]
    · by_cases h3:b < 0
      · simp [j0,hx,h1,h2,h3]
      · by_cases h4:b > 1125899906842624
        · simp [j0,hx,h1,h2,h3,h4]
        · by_cases h5:c < 0
          · simp [j0,hx,h1,h2,h3,h4,h5]
          · by_cases h6:c > 1125899906842624
            · simp [j0,hx,h1,h2,h3,h4,h5,h6]
            · simp [j0,hx,h1,h2,h3,h4,h5,h6]
def restR (kind same:Int) (t:ByteArray) (n:Nat):Int :=
  if kind = 1 then (if t.toList ≠ [] ∨ same < 0 then 3 else if n > 2000 then 1 else 0)
  else if kind = 2 then (if n > 0 ∨ same ≠ 0 ∨ t.toList ≠ [] then 3 else 0)
  else if kind = 3 then (if n > 0 ∨ same ≠ 0 ∨ t.toList = [] ∨ t.data.toList.contains 0 = true then 3 else if t.size > 400 then 1 else 0)
  else 2
def nodeR (p:ByteArray) (kind same:Int) (t:ByteArray) (a b c:Int) (u g:ByteArray) (s n:Int) (d:Nat):Int :=
  if pathR p = 0 then (if wrong a b c u g s n = 0 then restR kind same t d else wrong a b c u g s n) else pathR p
theorem idx0 (t:ByteArray):(Lib.indexByte t.data.toList ((0:Int).toNat.toUInt8) ≥ 0) ↔ t.data.toList.contains 0 = true:=by
  have:=index_ge t.data.toList ((0:Int).toNat.toUInt8)
  rw [← decide_eq_true_iff (p:=Lib.indexByte t.data.toList ((0:Int).toNat.toUInt8) ≥ 0),this];rfl
theorem right_ev (p:ByteArray) (kind same:Int) (t:ByteArray) (a b c:Int) (u g:ByteArray) (s n:Int) (d:List Int) (hp:p.size ≤ 140737488351232) :
    Ev (fun k=>tree_Right.f k p kind same t a b c u g s n d) (nodeR p kind same t a b c u g s n d.length):=by
  obtain ⟨K1,a1⟩:=(path_same p hp).1
  replace a1:∀ k,K1 ≤ k→path_Check.f k p = some (pathR p):=a1
  obtain ⟨K2,a2⟩:=check_ev a b c u g s n
  replace a2:∀ k,K2 ≤ k→meta_Check.f k a b c u g s n = some (wrong a b c u g s n):=a2
  refine ⟨K1 + K2 + 10,fun k hk=>?_⟩
  show tree_Right.f k p kind same t a b c u g s n d = _
  unfold tree_Right.f nodeR
  rw [a1 k (by omega)]
  simp only [Option.bind_some]
  by_cases hP:pathR p = 0
  · rw [if_pos hP,if_pos hP,a2 k (by omega)]
    simp only [Option.bind_some]
    by_cases hM:wrong a b c u g s n = 0
    · rw [if_pos hM,if_pos hM]
      obtain ⟨k,rfl⟩:∃ m,k = m + 4:=⟨k - 4,by omega⟩
      have hi:=idx0 t
      unfold restR
      generalize t.data.toList.contains 0 = z at hi ⊢
      by_cases k1:kind = 1
      · subst k1
        by_cases t0:t.toList = []
        · by_cases s0:same < 0 <;> simp [tree_Right.j0,t0,s0] <;> (split <;> split <;> first|rfl|(exfalso;omega))
        · simp [tree_Right.j0,t0]
      · by_cases k2:kind = 2
        · subst k2
          by_cases d0:d.length > 0
          · have d0':d ≠ []:=by rintro rfl;simp at d0
            simp [tree_Right.j1,tree_Right.j2,d0,d0']
          · have d0':d = []:=List.eq_nil_of_length_eq_zero (by omega)
            subst d0'
            by_cases s0:same = 0
            · by_cases t0:t.toList = []
              · have hz:t.size = 0:=(empty_size t).1 t0
                simp [tree_Right.j1,tree_Right.j2,tree_Right.j3,s0,t0,hz]
              · simp [tree_Right.j1,tree_Right.j2,tree_Right.j3,s0,t0]
            · simp [tree_Right.j1,tree_Right.j2,s0]
        · by_cases k3:kind = 3
          · subst k3
            by_cases d0:d.length > 0
            · have d0':d ≠ []:=by rintro rfl;simp at d0
              simp [tree_Right.j1,tree_Right.j2,d0,d0']
            · have d0':d = []:=List.eq_nil_of_length_eq_zero (by omega)
              subst d0'
              by_cases s0:same = 0
              · by_cases t0:t.toList = []
                · simp [tree_Right.j1,tree_Right.j2,tree_Right.j3,s0,t0]
                · by_cases z0:z = true
                  · have:=hi.2 z0
                    simp only [tree_Right.j1,tree_Right.j2,tree_Right.j3,strings_IndexByte.f,Option.bind_some,decide_eq_true this]
                    simp [s0,t0,z0]
                  · have:=fun h=>z0 (hi.1 h)
                    simp only [tree_Right.j1,tree_Right.j2,tree_Right.j3,strings_IndexByte.f,Option.bind_some,decide_eq_false this]
                    simp [s0,t0,z0]
                    split <;> split <;> first|rfl|(exfalso;omega)
              · simp [tree_Right.j1,tree_Right.j2,s0]
          · simp [tree_Right.j1,k1,k2,k3]
    · rw [if_neg hM,if_neg hM]
  · rw [if_neg hP,if_neg hP]
theorem refnode_ev (p:ByteArray) (kind same:Int) (t:ByteArray) (a b c:Int) (u g:ByteArray) (s n:Int) (d:List Int) (hp:p.size ≤ 140737488351232) (ht:t.size ≤ 140737488351232) (hu:u.size ≤ 140737488351232) (hg:g.size ≤ 140737488351232) :
    Ev (fun k=>rNF.f k p kind same t a b c u g s n d) (nodeR p kind same t a b c u g s n d.length):=by
  obtain ⟨K1,a1⟩:=(path_same p hp).2
  replace a1:∀ k,K1 ≤ k→creelref_PathFault.f k p = some (pathR p):=a1
  obtain ⟨K2,a2⟩:=fault_ev a b c u g s n hu hg
  replace a2:∀ k,K2 ≤ k→creelref_MetaFault.f k a b c u g s n = some (wrong a b c u g s n):=a2
  obtain ⟨K3,a3⟩:=has_ev t 0 (by omega) (by omega) ht
  replace a3:∀ k,K3 ≤ k→creelref_has.f k t 0 = some (t.data.toList.contains 0):=a3
  refine ⟨K1 + K2 + K3 + 10,fun k hk=>?_⟩
  show rNF.f k p kind same t a b c u g s n d = _
  unfold rNF.f nodeR
  rw [a1 k (by omega)]
  simp only [Option.bind_some]
  by_cases hP:pathR p = 0
  · rw [if_pos hP,if_pos hP,a2 k (by omega)]
    simp only [Option.bind_some]
    by_cases hM:wrong a b c u g s n = 0
    · rw [if_pos hM,if_pos hM]
      obtain ⟨k,rfl⟩:∃ m,k = m + 4:=⟨k - 4,by omega⟩
      have a3':creelref_has.f (k + 3) t 0 = some (t.data.toList.contains 0):=a3 _ (by omega)
      have hc:t.toList = []→t.data.toList.contains 0 = false:=fun t0=>by rw [← toList_data,t0];rfl
      unfold restR
      generalize t.data.toList.contains 0 = z at a3' hc ⊢
      by_cases k1:kind = 1
      · subst k1
        by_cases t0:t.toList = []
        · by_cases s0:same < 0 <;> simp [rNF.j0,rNF.j1,t0,s0] <;> (split <;> split <;> first|rfl|(exfalso;omega))
        · simp [rNF.j0,rNF.j1,t0]
      · by_cases k2:kind = 2
        · subst k2
          by_cases d0:d = []
          · subst d0
            by_cases s0:same = 0
            · by_cases t0:t.toList = []
              · have hz:t.size = 0:=(empty_size t).1 t0
                have hc':=hc t0
                subst hc'
                simp [rNF.j0,rNF.j2,s0,t0,hz,a3']
              · simp [rNF.j0,rNF.j2,s0,t0]
            · simp [rNF.j0,rNF.j2,s0]
          · have d1:d.length ≠ 0:=fun h=>d0 (List.eq_nil_of_length_eq_zero h)
            have d2:0 < d.length:=by omega
            simp [rNF.j0,rNF.j2,d0,d1,d2]
        · by_cases k3:kind = 3
          · subst k3
            by_cases d0:d = []
            · subst d0
              by_cases s0:same = 0
              · by_cases t0:t.toList = []
                · simp [rNF.j0,rNF.j2,s0,t0]
                · by_cases z0:z = true
                  · simp [rNF.j0,rNF.j2,s0,t0,a3',z0]
                  · have z1:z = false:=Bool.eq_false_iff.mpr z0
                    simp only [rNF.j0,rNF.j2,a3',z1,Option.bind_some]
                    simp [s0,t0]
                    split <;> split <;> first|rfl|(exfalso;omega)
              · simp [rNF.j0,rNF.j2,s0]
            · have d1:d.length ≠ 0:=fun h=>d0 (List.eq_nil_of_length_eq_zero h)
              have d2:0 < d.length:=by omega
              simp [rNF.j0,rNF.j2,d0,d1,d2]
          · simp [rNF.j0,k1,k2,k3]
    · rw [if_neg hM,if_neg hM]
  · rw [if_neg hP,if_neg hP]
theorem cmp_is (p q:ByteArray):cmp_Compare_string.f p q = some (if (Op.bytesLess p.toList q.toList) = true then (-1) else if (Op.bytesLess q.toList p.toList) = true then 1 else 0):=by
  unfold cmp_Compare_string.f cmp_isNaN_string.f
  simp only [bne_self_eq_false,Option.bind_some,Bool.false_eq_true,if_false]
  split
  · rfl
  · split <;> rfl
theorem cmp_loop (x y:List ByteArray) (hx:x.length ≤ 1099511627776) (d:Nat):∀ (k q i:Nat),x.length - i = d→i ≤ x.length→i ≤ y.length→d < k→2 * d + 2 < q →
    ∃ r,slices_Compare_string_string.l0 k x y x (x.length:Int) (i:Int) = some r∧creelref_PathOrder.l0 q x y (i:Int) = some r:=by
  induction d with
  | zero =>
    intro k q i hd hi hy hk hq
    obtain ⟨k,rfl⟩:∃ m,k = m + 1:=⟨k - 1,by omega⟩
    obtain ⟨q,rfl⟩:∃ m,q = m + 2:=⟨q - 2,by omega⟩
    have e:i = x.length:=by omega
    subst e
    simp only [slices_Compare_string_string.l0,creelref_PathOrder.l0,creelref_PathOrder.j1]
    rw [if_neg (show ¬ ((x.length:Int) < (x.length:Int)) by omega),if_neg (show ¬ ((x.length:Int) < (x.length:Int)) by omega),if_neg (show ¬ (false = true) by simp)]
    by_cases h:(x.length:Int) < (y.length:Int)
    · exact ⟨-1,by rw [if_pos h],by rw [if_pos h]⟩
    · exact ⟨0,by rw [if_neg h],by rw [if_neg h,if_neg (show ¬ (x.length:Int) > (y.length:Int) by omega)]⟩
  | succ d ih =>
    intro k q i hd hi hy hk hq
    obtain ⟨k,rfl⟩:∃ m,k = m + 1:=⟨k - 1,by omega⟩
    obtain ⟨q,rfl⟩:∃ m,q = m + 2:=⟨q - 2,by omega⟩
    have hlt:(i:Int) < (x.length:Int):=by omega
    simp only [slices_Compare_string_string.l0,creelref_PathOrder.l0,creelref_PathOrder.j1]
    rw [if_pos hlt,if_pos hlt,if_pos (show (0:Int) ≤ (i:Int) by omega),if_pos hlt,if_pos (show (0:Int) ≤ (i:Int) by omega),if_pos hlt]
    by_cases h:(i:Int) < (y.length:Int)
    · rw [if_neg (show ¬ (i:Int) ≥ (y.length:Int) by omega),if_pos h,cmp_is,decide_eq_true h,if_pos h,if_pos rfl]
      simp only [Option.bind_some]
      have hw:wrap64 ((i:Int) + 1) = ((i + 1:Nat):Int):=by rw [wrap_is (by omega) (by omega)];omega
      by_cases l1:(Op.bytesLess (rdOf ByteArray.empty x (i:Int)).toList (rdOf ByteArray.empty y (i:Int)).toList) = true
      · refine ⟨-1,?_,?_⟩
        · rw [if_pos l1,if_neg (by omega)]
        · rw [if_pos l1]
      · by_cases l2:(Op.bytesLess (rdOf ByteArray.empty y (i:Int)).toList (rdOf ByteArray.empty x (i:Int)).toList) = true
        · refine ⟨1,?_,?_⟩
          · rw [if_neg l1,if_pos l2,if_neg (by omega)]
          · rw [if_neg l1,if_pos l2]
        · obtain ⟨r,h1,h2⟩:=ih k q (i + 1) (by omega) (by omega) (by omega) (by omega) (by omega)
          rw [if_neg l1,if_neg l2,if_pos rfl,if_neg l1,if_neg l2,hw]
          exact ⟨r,h1,h2⟩
    · refine ⟨1,?_,?_⟩
      · rw [if_pos (show (i:Int) ≥ (y.length:Int) by omega)]
      · rw [decide_eq_false h,if_neg (show ¬ (false = true) by simp),if_neg (show ¬ (x.length:Int) < (y.length:Int) by omega),if_pos (show (x.length:Int) > (y.length:Int) by omega)]
def cmpL:List ByteArray→List ByteArray→Int
  | [],[]=>0
  | [],_ :: _=>-1
  | _ :: _,[]=>1
  | p :: x,q :: y=>if (Op.bytesLess p.toList q.toList) = true then -1 else if (Op.bytesLess q.toList p.toList) = true then 1 else cmpL x y
def prt (s:ByteArray):List ByteArray:=if s.toList = ([]:List UInt8) then [] else pp s
def cmpP (a b:ByteArray):Int:=cmpL (prt a) (prt b)
theorem drop_getD (x:List ByteArray) (i:Nat) (h:i < x.length):x.drop i = rdOf ByteArray.empty x (i:Int) :: x.drop (i + 1):=by
  rw [List.drop_eq_getElem_cons h]
  simp [rdOf,List.getD_eq_getElem?_getD,List.getElem?_eq_getElem h]
theorem slices_val (x y:List ByteArray) (hx:x.length ≤ 1099511627776) (d:Nat):∀ (k i:Nat),x.length - i = d→i ≤ x.length→i ≤ y.length→d < k →
    slices_Compare_string_string.l0 k x y x (x.length:Int) (i:Int) = some (cmpL (x.drop i) (y.drop i)):=by
  induction d with
  | zero =>
    intro k i hd hi hy hk
    obtain ⟨k,rfl⟩:∃ m,k = m + 1:=⟨k - 1,by omega⟩
    have e:i = x.length:=by omega
    subst e
    simp only [slices_Compare_string_string.l0]
    rw [if_neg (show ¬ ((x.length:Int) < (x.length:Int)) by omega),List.drop_length]
    by_cases h:(x.length:Int) < (y.length:Int)
    · rw [if_pos h,drop_getD y _ (by omega)]
      rfl
    · rw [if_neg h,List.drop_of_length_le (by omega)]
      rfl
  | succ d ih =>
    intro k i hd hi hy hk
    obtain ⟨k,rfl⟩:∃ m,k = m + 1:=⟨k - 1,by omega⟩
    have hlt:(i:Int) < (x.length:Int):=by omega
    simp only [slices_Compare_string_string.l0]
    rw [if_pos hlt,if_pos (show (0:Int) ≤ (i:Int) by omega),if_pos hlt,drop_getD x i (by omega)]
    by_cases h:(i:Int) < (y.length:Int)
    · have hw:wrap64 ((i:Int) + 1) = ((i + 1:Nat):Int):=by rw [wrap_is (by omega) (by omega)];omega
      rw [if_neg (show ¬ (i:Int) ≥ (y.length:Int) by omega),if_pos h,cmp_is,drop_getD y i (by omega)]
      simp only [Option.bind_some,cmpL]
      by_cases l1:(Op.bytesLess (rdOf ByteArray.empty x (i:Int)).toList (rdOf ByteArray.empty y (i:Int)).toList) = true
      · rw [if_pos l1,if_neg (by omega)]
        rw [if_pos l1]
      · by_cases l2:(Op.bytesLess (rdOf ByteArray.empty y (i:Int)).toList (rdOf ByteArray.empty x (i:Int)).toList) = true
        · rw [if_neg l1,if_pos l2,if_neg (by omega),if_neg l1,if_pos l2]
        · rw [if_neg l1,if_neg l2,if_pos rfl,if_neg l1,if_neg l2,hw]
          exact ih k (i + 1) (by omega) (by omega) (by omega) (by omega)
    · rw [if_pos (show (i:Int) ≥ (y.length:Int) by omega),List.drop_of_length_le (show y.length ≤ i by omega)]
      rfl
theorem prt_is (s:ByteArray) (hs:s.size ≤ 1048576) (k:Nat) (hk:s.size < k):(prt s).length ≤ s.size + 1∧path_Parts.f s = some (prt s)∧creelref_PathParts.f k s = some (prt s):=by
  unfold path_Parts.f creelref_PathParts.f prt
  by_cases h0:s.toList = ([]:List UInt8)
  · rw [if_pos h0,if_pos h0,if_pos h0]
    exact ⟨by simp,rfl,rfl⟩
  · rw [if_neg h0,if_neg h0,if_neg h0,split_is s (by omega),parts_is s k (by omega) hk]
    exact ⟨pp_len s,rfl,rfl⟩
theorem cmp_both (a b:ByteArray) (ha:a.size ≤ 1048576) (hb:b.size ≤ 1048576) (k:Nat) (hk:2 * a.size + b.size + 10 ≤ k):path_Compare.f k a b = some (cmpP a b)∧creelref_PathOrder.f k a b = some (cmpP a b):=by
  obtain ⟨hx,x1,x2⟩:=prt_is a ha k (by omega)
  obtain ⟨hy,y1,y2⟩:=prt_is b hb k (by omega)
  have v:=slices_val (prt a) (prt b) (by omega) (prt a).length k 0 (by omega) (by omega) (by omega) (by omega)
  obtain ⟨r,r1,r2⟩:=cmp_loop (prt a) (prt b) (by omega) (prt a).length k k 0 (by omega) (by omega) (by omega) (by omega) (by omega)
  have e:r = cmpP a b:=by
    rw [v] at r1
    simp only [List.drop_zero,Option.some.injEq] at r1
    exact r1.symm
  subst e
  constructor
  · unfold path_Compare.f slices_Compare_string_string.f
    rw [x1,y1]
    simp only [Option.bind_some]
    rw [show slices_Compare_string_string.l0 k (prt a) (prt b) (prt a) ((prt a).length:Int) 0 = some (cmpP a b) from r1]
    rfl
  · unfold creelref_PathOrder.f
    rw [x2,y2]
    exact r2
theorem cmp_ev (a b:ByteArray) (ha:a.size ≤ 1048576) (hb:b.size ≤ 1048576):Ev (fun k=>path_Compare.f k a b) (cmpP a b)∧Ev (fun k=>creelref_PathOrder.f k a b) (cmpP a b) :=
  ⟨⟨_,fun k hk=>(cmp_both a b ha hb k hk).1⟩,⟨_,fun k hk=>(cmp_both a b ha hb k hk).2⟩⟩
theorem cmpL_01:∀ x y:List ByteArray,cmpL x y = -1 ∨ cmpL x y = 0 ∨ cmpL x y = 1
  | [],[]=>Or.inr (Or.inl rfl)
  | [],_ :: _=>Or.inl rfl
  | _ :: _,[]=>Or.inr (Or.inr rfl)
  | p :: x,q :: y=>by
    unfold cmpL
    split
    · exact Or.inl rfl
    · split
      · exact Or.inr (Or.inr rfl)
      · exact cmpL_01 x y
theorem cmpP_01 (a b:ByteArray):cmpP a b = -1 ∨ cmpP a b = 0 ∨ cmpP a b = 1:=cmpL_01 _ _
def upOf (s:ByteArray):ByteArray:=(path_Up.f s).getD (⟨#[]⟩:ByteArray)
theorem up_ev (s:ByteArray) (hs:s.size ≤ 1048576):path_Up.f s = some (upOf s)∧∃ b,Ev (fun k=>creelref_PathSplit.f k s) (upOf s,b):=by
  rcases up_only s (s.size + 3) hs (by omega) with ⟨e,h1,h2⟩|⟨i,hi,e,h1,h2⟩
  · have e1:upOf s = (⟨#[]⟩:ByteArray):=by unfold upOf;rw [h1];rfl
    refine ⟨by rw [e1,h1],s,s.size + 3,fun k hk=>?_⟩
    rcases up_only s k hs (by omega) with ⟨_,_,g2⟩|⟨j,hj,e',_,_⟩
    · rw [e1];exact g2
    · omega
  · have e1:upOf s = s.extract 0 i:=by unfold upOf;rw [h1];rfl
    refine ⟨by rw [e1,h1],s.extract (i + 1) s.size,s.size + 3,fun k hk=>?_⟩
    rcases up_only s k hs (by omega) with ⟨e',_,_⟩|⟨j,hj,e',_,g2⟩
    · omega
    · obtain rfl:i = j:=by omega
      rw [e1];exact g2
theorem less_irrefl (a:List UInt8):Op.bytesLess a a = false:=by
  have:=Go.Proofs.YtcbbcnmifohibaaDoorW.Mine.bytesLess_swap a a
  cases h:Op.bytesLess a a with
  | false=>rfl
  | true=>rw [h] at this;simp at this
theorem less_total {a b:List UInt8} (h1:¬ Op.bytesLess a b = true) (h2:¬ Op.bytesLess b a = true):a = b:=by
  have:=Go.Proofs.YtcbbcnmifohibaaDoorW.Mine.bytesLess_swap a b
  rw [Bool.eq_false_iff.mpr h1,Bool.eq_false_iff.mpr h2] at this
  simpa using this
theorem less_trans:∀ a b c:List UInt8,Op.bytesLess a b = true→Op.bytesLess b c = true→Op.bytesLess a c = true
  | [],[],_,h,_=>by simp [Op.bytesLess] at h
  | [],_ :: _,[],_,h=>by simp [Op.bytesLess] at h
  | [],_ :: _,_ :: _,_,_=>by simp [Op.bytesLess]
  | _ :: _,[],_,h,_=>by simp [Op.bytesLess] at h
  | _ :: _,_ :: _,[],_,h=>by simp [Op.bytesLess] at h
  | x :: a,y :: b,z :: c,h1,h2=>by
    simp only [Op.bytesLess,Bool.or_eq_true,Bool.and_eq_true,decide_eq_true_eq,beq_iff_eq] at h1 h2 ⊢
    rcases h1 with p|⟨rfl,p⟩
    · rcases h2 with q|⟨rfl,q⟩
      · exact Or.inl (by rw [UInt8.lt_iff_toNat_lt] at p q ⊢;omega)
      · exact Or.inl p
    · rcases h2 with q|⟨rfl,q⟩
      · exact Or.inl q
      · exact Or.inr ⟨rfl,less_trans a b c p q⟩
theorem cmpL_self:∀ x:List ByteArray,cmpL x x = 0
  | []=>rfl
  | p :: x=>by
    unfold cmpL
    rw [less_irrefl,if_neg (by decide),if_neg (by decide)]
    exact cmpL_self x
theorem cmpL_zero:∀ x y:List ByteArray,cmpL x y = 0→x = y
  | [],[],_=>rfl
  | [],_ :: _,h=>by simp [cmpL] at h
  | _ :: _,[],h=>by simp [cmpL] at h
  | p :: x,q :: y,h=>by
    unfold cmpL at h
    split at h
    · cases h
    · rename_i h1
      split at h
      · cases h
      · rename_i h2
        rw [cmpL_zero x y h,toList_inj (less_total h1 h2)]
theorem less_asymm {a b:List UInt8} (h:Op.bytesLess a b = true):¬ Op.bytesLess b a = true:=fun h2=>by
  have:=less_trans a b a h h2
  rw [less_irrefl] at this
  cases this
theorem cmpL_swap:∀ x y:List ByteArray,cmpL x y = - cmpL y x
  | [],[]=>rfl
  | [],_ :: _=>rfl
  | _ :: _,[]=>rfl
  | p :: x,q :: y=>by
    unfold cmpL
    by_cases h1:Op.bytesLess p.toList q.toList = true
    · rw [if_pos h1,if_neg (less_asymm h1),if_pos h1]
    · rw [if_neg h1]
      by_cases h2:Op.bytesLess q.toList p.toList = true
      · rw [if_pos h2,if_pos h2];rfl
      · rw [if_neg h2,if_neg h2,if_neg h1]
        exact cmpL_swap x y
theorem cmpL_trans:∀ x y z:List ByteArray,cmpL x y = -1→cmpL y z = -1→cmpL x z = -1
  | [],[],_,h,_=>by simp [cmpL] at h
  | [],_ :: _,[],_,h=>by simp [cmpL] at h
  | [],_ :: _,_ :: _,_,_=>rfl
  | _ :: _,[],_,h,_=>by simp [cmpL] at h
  | _ :: _,_ :: _,[],_,h=>by simp [cmpL] at h
  | p :: x,q :: y,r :: z,h1,h2=>by
    unfold cmpL at h1 h2 ⊢
    by_cases a:Op.bytesLess p.toList q.toList = true
    · by_cases b:Op.bytesLess q.toList r.toList = true
      · rw [if_pos (less_trans _ _ _ a b)]
      · rw [if_neg b] at h2
        split at h2
        · cases h2
        · rename_i c
          have e:=less_total b c
          rw [← e,if_pos a]
    · rw [if_neg a] at h1
      split at h1
      · cases h1
      · rename_i c
        have e:=less_total a c
        rw [e]
        by_cases b:Op.bytesLess q.toList r.toList = true
        · rw [if_pos b]
        · rw [if_neg b] at h2 ⊢
          split at h2
          · cases h2
          · rename_i d
            rw [if_neg d]
            exact cmpL_trans x y z h1 h2
theorem prt_inj {a b:ByteArray} (h:prt a = prt b):a = b:=by
  have key:∀ s:ByteArray,joinS ((prt s).map fun p=>p.data.toList) = s.data.toList:=fun s=>by
    unfold prt
    by_cases e:s.toList = ([]:List UInt8)
    · rw [if_pos e]
      rw [toList_data] at e
      rw [e];rfl
    · rw [if_neg e]
      unfold pp
      rw [List.map_map]
      have:((fun p:ByteArray=>p.data.toList) ∘ mk) = id:=by funext l;rfl
      rw [this,List.map_id,join_sp]
  apply ext_list
  rw [← key a,← key b,h]
theorem cmpP_self (a:ByteArray):cmpP a a = 0:=cmpL_self _
theorem cmpP_zero {a b:ByteArray} (h:cmpP a b = 0):a = b:=prt_inj (cmpL_zero _ _ h)
theorem cmpP_swap (a b:ByteArray):cmpP a b = - cmpP b a:=cmpL_swap _ _
theorem cmpP_trans {a b c:ByteArray} (h1:cmpP a b = -1) (h2:cmpP b c = -1):cmpP a c = -1:=cmpL_trans _ _ _ h1 h2
theorem cmpP_ne {a b:ByteArray} (h:cmpP a b = -1):a ≠ b:=fun e=>by rw [e,cmpP_self] at h;cases h
theorem rising {α:Type} (p:α→ByteArray) (g:Nat→α) (n:Nat) (h:∀ i,0 < i→i < n→cmpP (p (g (i - 1))) (p (g i)) = -1):∀ d i j,j = i + d + 1→j < n→cmpP (p (g i)) (p (g j)) = -1
  | 0,i,j,e,hj=>by
    subst e
    exact h (i + 0 + 1) (by omega) hj
  | d + 1,i,j,e,hj=>by
    have h1:=rising p g n h d i (j - 1) (by omega) (by omega)
    have h2:=h j (by omega) hj
    exact cmpP_trans h1 h2
abbrev Node:=S45
def nd (l:List Node) (i:Nat):Node:=l.getD i z45
theorem rd_nd (l:List Node) (i:Nat):rd_T45 l (i:Int) = nd l i:=by unfold rd_T45 nd;rw [Int.toNat_natCast]
theorem nd_mem (l:List Node) (i:Nat) (h:i < l.length):nd l i ∈ l:=by
  unfold nd
  rw [List.getD_eq_getElem?_getD,List.getElem?_eq_getElem h]
  exact List.getElem_mem h
theorem nd_get (l:List Node) (i:Nat) (h:i < l.length):l[i] = nd l i:=by
  unfold nd
  rw [List.getD_eq_getElem?_getD,List.getElem?_eq_getElem h]
  rfl
theorem take_nd (l:List Node) (n:Nat) (h:n < l.length):l.take (n + 1) = l.take n ++ [nd l n]:=by
  rw [List.take_succ_eq_append_getElem h,nd_get l n h]
def okN (x:Node):Prop:=x.f0.size ≤ 140737488351232∧x.f3.size ≤ 140737488351232∧x.f4.f3.size ≤ 140737488351232∧x.f4.f4.size ≤ 140737488351232∧(Lit.int .i64 x.f2).wf = true
def nodeX (x:Node):Int:=nodeR x.f0 x.f1 x.f2 x.f3 x.f4.f0 x.f4.f1 x.f4.f2 x.f4.f3 x.f4.f4 x.f4.f5 x.f4.f6 x.f5.length
theorem right_at (x:Node) (h:okN x):Ev (fun k=>tree_Check.right k x) (nodeX x):=right_ev x.f0 x.f1 x.f2 x.f3 x.f4.f0 x.f4.f1 x.f4.f2 x.f4.f3 x.f4.f4 x.f4.f5 x.f4.f6 x.f5 h.1
theorem refnode_at (x:Node) (h:okN x):Ev (fun k=>rTF.right k x) (nodeX x):=refnode_ev x.f0 x.f1 x.f2 x.f3 x.f4.f0 x.f4.f1 x.f4.f2 x.f4.f3 x.f4.f4 x.f4.f5 x.f4.f6 x.f5 h.1 h.2.1 h.2.2.1 h.2.2.2.1
theorem pathR_size (s:ByteArray) (h:pathR s = 0):1 ≤ s.size∧s.size ≤ 400:=by
  unfold pathR at h
  split at h
  · cases h
  · omega
theorem nodeX_path (x:Node) (h:nodeX x = 0):pathR x.f0 = 0:=by
  unfold nodeX nodeR at h
  split at h
  · assumption
  · contradiction
def alikeB (y x:Node):Bool:=rTF.meta y x && rTF.data y x
theorem alike_f (y x:Node):tree_Check.alike y x = some (alikeB y x):=by
  show (if rTF.meta y x = true then some (rTF.data y x) else some false) = some (alikeB y x)
  unfold alikeB
  by_cases h:rTF.meta y x = true
  · rw [if_pos h,h,Bool.true_and]
  · rw [if_neg h,Bool.eq_false_iff.mpr h,Bool.false_and]
def akey (y:Node):Int × Int × Int × List UInt8 × List UInt8 × Int × Int × List UInt8:=(y.f4.f0,y.f4.f1,y.f4.f2,y.f4.f3.toList,y.f4.f4.toList,y.f4.f5,y.f4.f6,(strOfNums y.f5).toList)
theorem alikeB_iff (y x:Node):alikeB y x = true ↔ akey y = akey x:=by
  unfold alikeB rTF.meta rTF.data akey
  simp only [Bool.and_eq_true,beq_iff_eq,Prod.mk.injEq]
  constructor
  · rintro ⟨⟨a,b,c,d,e,f,g⟩,h⟩;exact ⟨a,b,c,d,e,f,g,h⟩
  · rintro ⟨a,b,c,d,e,f,g,h⟩;exact ⟨⟨a,b,c,d,e,f,g⟩,h⟩
def isP (s:ByteArray) (y:Node):Bool:=decide (y.f0.toList = s.toList)
def findP (l:List Node) (s:ByteArray):Nat:=l.findIdx (isP s)
theorem findP_le (l:List Node) (s:ByteArray):findP l s ≤ l.length:=List.findIdx_le_length
theorem findP_at (l:List Node) (s:ByteArray) (i:Nat) (hi:i < l.length) (h:(nd l i).f0.toList = s.toList) (hb:∀ j,j < i→(nd l j).f0.toList ≠ s.toList):findP l s = i:=by
  unfold findP
  rw [List.findIdx_eq hi]
  refine ⟨by rw [nd_get l i hi];exact decide_eq_true h,fun j hj=>?_⟩
  rw [nd_get l j (by omega)]
  exact decide_eq_false (hb j hj)
theorem findP_no (l:List Node) (s:ByteArray) (hb:∀ j,j < l.length→(nd l j).f0.toList ≠ s.toList):findP l s = l.length:=by
  unfold findP
  rw [List.findIdx_eq_length]
  intro y hy
  obtain ⟨j,hj,rfl⟩:=List.getElem_of_mem hy
  rw [nd_get l j hj]
  exact decide_eq_false (hb j hj)
theorem find_loop (l:List Node) (s:ByteArray) (hl:l.length ≤ 1099511627776) (d:Nat):∀ (k i:Nat),l.length - i = d→i ≤ l.length→d < k→(∀ j,j < i→(nd l j).f0.toList ≠ s.toList) →
    tree_Find.l0 k l s (i:Int) = some (if findP l s < l.length then (findP l s:Int) else -1)∧creelref_TreeFind.l0 k l s (i:Int) = some (findP l s:Int):=by
  induction d with
  | zero =>
    intro k i hd hi hk hb
    obtain ⟨k,rfl⟩:∃ m,k = m + 1:=⟨k - 1,by omega⟩
    have e:i = l.length:=by omega
    subst e
    have hf:=findP_no l s hb
    simp only [tree_Find.l0,creelref_TreeFind.l0]
    rw [if_neg (by omega),if_neg (by omega),if_neg (by omega),hf]
    exact ⟨rfl,rfl⟩
  | succ d ih =>
    intro k i hd hi hk hb
    obtain ⟨k,rfl⟩:∃ m,k = m + 1:=⟨k - 1,by omega⟩
    have hlt:(i:Int) < (l.length:Int):=by omega
    have hw:wrap64 ((i:Int) + 1) = ((i + 1:Nat):Int):=by rw [wrap_is (by omega) (by omega)];omega
    simp only [tree_Find.l0,creelref_TreeFind.l0]
    rw [if_pos hlt,if_pos hlt,if_pos (show (0:Int) ≤ (i:Int) by omega),if_pos (show (0:Int) ≤ (i:Int) by omega),rd_nd]
    by_cases h:(nd l i).f0.toList = s.toList
    · have hf:=findP_at l s i (by omega) h hb
      rw [if_pos h,if_pos h,hf,if_pos (by omega)]
      exact ⟨rfl,rfl⟩
    · rw [if_neg h,if_neg h,hw]
      refine ih k (i + 1) (by omega) (by omega) (by omega) (fun j hj=>?_)
      by_cases e:j = i
      · subst e;exact h
      · exact hb j (by omega)
def findR (l:List Node) (s:ByteArray):Int × Int:=if findP l s < l.length then ((findP l s:Int),0) else (0,5)
theorem find_both (l:List Node) (s:ByteArray) (hl:l.length ≤ 1099511627776) (k:Nat) (hk:l.length < k):tree_Find.f k l s = some (findR l s)∧creelref_TreeFind.f k l s = some (findP l s:Int):=by
  obtain ⟨h1,h2⟩:=find_loop l s hl l.length k 0 (by omega) (by omega) hk (fun j hj=>absurd hj (Nat.not_lt_zero j))
  refine ⟨?_,h2⟩
  unfold tree_Find.f
  rw [show tree_Find.l0 k l s 0 = _ from h1]
  simp only [Option.bind_some]
  unfold findR
  by_cases h:findP l s < l.length
  · rw [if_pos h,if_pos h,if_neg (by omega)]
  · rw [if_neg h,if_neg h,if_pos (by decide)]
def twoR (l:List Node) (n:Nat) (x:Node):Bool:=if 0 < n then decide (0 ≤ cmpP (nd l (n - 1)).f0 x.f0) else false
def upR (l:List Node) (n:Nat) (x:Node):Bool:=if (upOf x.f0).toList = ([]:List UInt8) then false else if findP (l.take n) (upOf x.f0) < n then ((nd l (findP (l.take n) (upOf x.f0))).f1 != 2) else true
def sameR (l:List Node) (n:Nat) (x:Node):Bool:=if x.f2 = 0 then false else (l.take n).any fun y=>decide (y.f2 = x.f2) && !alikeB y x
def stepR (l:List Node) (n:Nat) (x:Node):Int:=if nodeX x = 0 then (if twoR l n x = true then 6 else if upR l n x = true then 10 else if sameR l n x = true then 11 else 0) else nodeX x
def treeFrom (l:List Node):Nat→Nat→Int
  | 0,_=>0
  | d + 1,n=>if stepR l n (nd l n) = 0 then treeFrom l d (n + 1) else stepR l n (nd l n)
def treeR (l:List Node):Int:=if 40 < l.length then 1 else treeFrom l l.length 0
theorem ref_l1 (l:List Node) (x:Node) (n:Nat) (hn:n ≤ l.length) (d:Nat):∀ j,n - j = d→j ≤ n→Ev (fun k=>rTF.l1 k l x n j) (if ((l.take n).drop j).any (fun y=>decide (y.f2 = x.f2) && !alikeB y x) = true then 11 else 0):=by
  induction d with
  | zero =>
    intro j hd hj
    have e:j = n:=by omega
    subst e
    refine Ev.step (f:=fun _=>some 0) (fun k=>by simp only [rTF.l1];rw [if_neg (by omega)]) ?_
    rw [List.drop_of_length_le (by simp;omega)]
    exact Ev.now 0
  | succ d ih =>
    intro j hd hj
    have hdrop:(l.take n).drop j = nd l j :: (l.take n).drop (j + 1):=by
      rw [List.drop_eq_getElem_cons (by simp;omega),List.getElem_take,nd_get]
    have hih:=ih (j + 1) (by omega) (by omega)
    rw [hdrop,List.any_cons]
    by_cases h1:(nd l j).f2 = x.f2
    · by_cases h2:alikeB (nd l j) x = true
      · have e:(decide ((nd l j).f2 = x.f2) && !alikeB (nd l j) x) = false:=by rw [h2];simp
        rw [e,Bool.false_or]
        have h2':=h2
        unfold alikeB at h2'
        rw [Bool.and_eq_true] at h2'
        refine Ev.step (f:=fun k=>rTF.l1 k l x n (j + 1)) (fun k=>?_) hih
        simp only [rTF.l1]
        rw [if_pos (by omega),rd_nd,if_pos h1,if_pos h2'.1,if_pos h2'.2]
      · have e:(decide ((nd l j).f2 = x.f2) && !alikeB (nd l j) x) = true:=by rw [Bool.eq_false_iff.mpr h2];simp [h1]
        rw [e,Bool.true_or,if_pos rfl]
        refine Ev.step (f:=fun _=>some 11) (fun k=>?_) (Ev.now 11)
        simp only [rTF.l1]
        rw [if_pos (by omega),rd_nd,if_pos h1]
        by_cases h3:rTF.meta (nd l j) x = true
        · have h4:¬ rTF.data (nd l j) x = true:=fun h4=>h2 (by unfold alikeB;rw [h3,h4];rfl)
          rw [if_pos h3,if_neg h4]
        · rw [if_neg h3]
    · have e:(decide ((nd l j).f2 = x.f2) && !alikeB (nd l j) x) = false:=by rw [decide_eq_false h1];rfl
      rw [e,Bool.false_or]
      refine Ev.step (f:=fun k=>rTF.l1 k l x n (j + 1)) (fun k=>?_) hih
      simp only [rTF.l1]
      rw [if_pos (by omega),rd_nd,if_neg h1]
theorem size_le (l:List Node) {n:Nat} (hn:∀ j,j < n→nodeX (nd l j) = 0) (i:Nat) (hi:i < n):(nd l i).f0.size ≤ 1048576:=by
  have:=pathR_size _ (nodeX_path _ (hn i hi))
  omega
theorem two_ref (l:List Node) (x:Node) (n:Nat) (hx:x.f0.size ≤ 1048576) (hb:∀ j,j < n→nodeX (nd l j) = 0):Ev (fun k=>rTF.two k l x n) (twoR l n x)∧Ev (fun k=>tree_Check.two k l x n) (twoR l n x):=by
  unfold twoR rTF.two tree_Check.two
  by_cases h:0 < n
  · simp only [if_pos h,rd_nd]
    obtain ⟨h1,h2⟩:=cmp_ev (nd l (n - 1)).f0 x.f0 (size_le l hb (n - 1) (by omega)) hx
    constructor
    · refine Ev.bind h2 (Ev.const ?_)
      congr 1
      rcases cmpP_01 (nd l (n - 1)).f0 x.f0 with e|e|e <;> rw [e] <;> decide
    · exact Ev.bind h1 (Ev.const rfl)
  · simp only [if_neg h]
    exact ⟨Ev.now _,Ev.now _⟩
theorem up_both (l:List Node) (x:Node) (n:Nat) (hx:x.f0.size ≤ 1048576) (hn:n ≤ l.length) (hl:l.length ≤ 40):Ev (fun k=>rTF.up k l x n) (upR l n x)∧Ev (fun k=>tree_Check.up k l x n) (upR l n x):=by
  obtain ⟨h1,b,h2⟩:=up_ev x.f0 hx
  have hlen:(l.take n).length = n:=by simp;omega
  have f1:Ev (fun k=>tree_Find.f k (l.take n) (upOf x.f0)) (findR (l.take n) (upOf x.f0)):=⟨50,fun k hk=>(find_both (l.take n) (upOf x.f0) (by omega) k (by omega)).1⟩
  have f2:Ev (fun k=>creelref_TreeFind.f k (l.take n) (upOf x.f0)) (findP (l.take n) (upOf x.f0):Int):=⟨50,fun k hk=>(find_both (l.take n) (upOf x.f0) (by omega) k (by omega)).2⟩
  have hle:=findP_le (l.take n) (upOf x.f0)
  rw [hlen] at hle
  constructor
  · unfold rTF.up
    refine Ev.bind h2 (Ev.bind f2 ?_)
    by_cases e:(upOf x.f0).toList = ([]:List UInt8)
    · rw [show upR l n x = false by unfold upR;rw [if_pos e]]
      exact Ev.ifp e (Ev.now _)
    · refine Ev.ifn e ?_
      by_cases g:findP (l.take n) (upOf x.f0) < n
      · rw [show upR l n x = ((nd l (findP (l.take n) (upOf x.f0))).f1 != 2) by unfold upR;rw [if_neg e,if_pos g]]
        refine Ev.ifn (by omega) (Ev.ifp (by omega) (Ev.const ?_))
        rw [rd_nd]
      · rw [show upR l n x = true by unfold upR;rw [if_neg e,if_neg g]]
        exact Ev.ifp (by omega) (Ev.now _)
  · unfold tree_Check.up
    refine Ev.bind (Ev.const h1) ?_
    by_cases e:(upOf x.f0).toList = ([]:List UInt8)
    · rw [show upR l n x = false by unfold upR;rw [if_pos e]]
      exact Ev.ifp e (Ev.now _)
    · refine Ev.ifn e (Ev.bind f1 ?_)
      by_cases g:findP (l.take n) (upOf x.f0) < n
      · rw [show upR l n x = ((nd l (findP (l.take n) (upOf x.f0))).f1 != 2) by unfold upR;rw [if_neg e,if_pos g]]
        have hr:findR (l.take n) (upOf x.f0) = ((findP (l.take n) (upOf x.f0):Int),0):=by unfold findR;rw [hlen,if_pos g]
        rw [hr]
        refine Ev.ifp rfl (Ev.ifp (show 0 ≤ (findP (l.take n) (upOf x.f0):Int)∧(findP (l.take n) (upOf x.f0):Int) < (l.length:Int) by omega) (Ev.const ?_))
        show some ((rd_T45 l (findP (l.take n) (upOf x.f0):Int)).f1 != 2) = _
        rw [rd_nd]
      · rw [show upR l n x = true by unfold upR;rw [if_neg e,if_neg g]]
        have hr:findR (l.take n) (upOf x.f0) = (0,5):=by unfold findR;rw [hlen,if_neg g]
        rw [hr]
        exact Ev.ifn (by decide) (Ev.now _)
theorem ref_step (l:List Node) (n:Nat) (hl:l.length ≤ 40) (hn:n < l.length) (hg:∀ y ∈ l,okN y) (hb:∀ j,j < n→nodeX (nd l j) = 0):Ev (fun k=>rTF.step k l (nd l n) n) (stepR l n (nd l n)):=by
  unfold rTF.step stepR
  refine Ev.bind (refnode_at _ (hg _ (nd_mem l n hn))) ?_
  by_cases h:nodeX (nd l n) = 0
  · rw [if_pos h]
    have hx:(nd l n).f0.size ≤ 1048576:=by have:=pathR_size _ (nodeX_path _ h);omega
    refine Ev.ifp h (Ev.bind (two_ref l _ n hx hb).1 ?_)
    by_cases h1:twoR l n (nd l n) = true
    · rw [if_pos h1];exact Ev.ifp h1 (Ev.now _)
    · rw [if_neg h1]
      refine Ev.ifn h1 (Ev.bind (up_both l _ n hx (by omega) hl).1 ?_)
      by_cases h2:upR l n (nd l n) = true
      · rw [if_pos h2];exact Ev.ifp h2 (Ev.now _)
      · rw [if_neg h2]
        refine Ev.ifn h2 ?_
        unfold sameR
        by_cases h3:(nd l n).f2 = 0
        · rw [if_pos h3]
          exact Ev.ifp h3 (Ev.now _)
        · rw [if_neg h3]
          exact Ev.ifn h3 (ref_l1 l (nd l n) n (by omega) n 0 (by omega) (by omega))
  · rw [if_neg h]
    exact Ev.ifn h (Ev.now _)
theorem step_zero (l:List Node) (n:Nat) (x:Node) (h:stepR l n x = 0):nodeX x = 0∧twoR l n x = false∧upR l n x = false∧sameR l n x = false:=by
  unfold stepR at h
  split at h
  · rename_i h0
    split at h
    · cases h
    · rename_i h1
      split at h
      · cases h
      · rename_i h2
        split at h
        · cases h
        · rename_i h3
          exact ⟨h0,Bool.eq_false_iff.mpr h1,Bool.eq_false_iff.mpr h2,Bool.eq_false_iff.mpr h3⟩
  · contradiction
theorem ref_from (l:List Node) (hl:l.length ≤ 40) (hg:∀ y ∈ l,okN y) (d:Nat):∀ n,n + d = l.length→(∀ j,j < n→nodeX (nd l j) = 0)→Ev (fun k=>rTF.l0 k l n) (treeFrom l d n):=by
  induction d with
  | zero =>
    intro n hd hb
    exact Ev.step (f:=fun _=>some 0) (fun k=>by simp only [rTF.l0];rw [if_neg (by omega)]) (Ev.now 0)
  | succ d ih =>
    intro n hd hb
    refine Ev.step (f:=fun k=>(rTF.step k l (nd l n) n).bind fun e=>if e = 0 then rTF.l0 k l (n + 1) else some e) (fun k=>by simp only [rTF.l0];rw [if_pos (by omega),rd_nd]) ?_
    refine Ev.bind (ref_step l n hl (by omega) hg hb) ?_
    unfold treeFrom
    by_cases h:stepR l n (nd l n) = 0
    · rw [if_pos h]
      refine Ev.ifp h (ih (n + 1) (by omega) (fun j hj=>?_))
      by_cases e:j = n
      · subst e;exact (step_zero l _ _ h).1
      · exact hb j (by omega)
    · rw [if_neg h]
      exact Ev.ifn h (Ev.now _)
theorem ref_tree (l:List Node) (hg:∀ y ∈ l,okN y):Ev (fun k=>rTF.f k l) (treeR l):=by
  unfold rTF.f treeR
  by_cases h:40 < l.length
  · rw [if_pos h];exact Ev.ifp h (Ev.now _)
  · rw [if_neg h]
    exact Ev.ifn h (ref_from l (by omega) hg l.length 0 (by omega) (fun j hj=>absurd hj (Nat.not_lt_zero j)))
def MapRel (l:List Node) (n:Nat) (m:List (Int × Node)):Prop:=∀ s,s ≠ 0→Go.Proofs.YtcbbcnmifohibaaDoorW.MapOwn.get m s = (l.take n).find? (fun y=>decide (y.f2 = s))
def AllAlike (l:List Node) (n:Nat):Prop:=∀ y ∈ l.take n,∀ z ∈ l.take n,y.f2 = z.f2→y.f2 ≠ 0→akey y = akey z
theorem same_is (l:List Node) (n:Nat) (hn:n < l.length) (m:List (Int × Node)) (hm:MapRel l n m) (ha:AllAlike l n) (hw:(Lit.int .i64 (nd l n).f2).wf = true) :
    ∃ r,tree_Check.same m (nd l n) = some (if sameR l n (nd l n) = true then 11 else 0,r)∧(sameR l n (nd l n) = false→MapRel l (n + 1) r∧AllAlike l (n + 1)):=by
  have htk:=take_nd l n hn
  have keep:∀ (r:List (Int × Node)),(∀ s,s ≠ 0→s ≠ (nd l n).f2→Go.Proofs.YtcbbcnmifohibaaDoorW.MapOwn.get r s = (l.take n).find? (fun y=>decide (y.f2 = s)))→((nd l n).f2 ≠ 0→Go.Proofs.YtcbbcnmifohibaaDoorW.MapOwn.get r (nd l n).f2 = (l.take (n + 1)).find? (fun y=>decide (y.f2 = (nd l n).f2)))→MapRel l (n + 1) r:=by
    intro r h1 h2 s hs
    by_cases e:s = (nd l n).f2
    · subst e;exact h2 hs
    · rw [h1 s hs e,htk,List.find?_append]
      have:[nd l n].find? (fun y=>decide (y.f2 = s)) = none:=by simp [Ne.symm e]
      rw [this,Option.or_none]
  unfold tree_Check.same sameR
  by_cases h0:(nd l n).f2 = 0
  · rw [if_pos h0,if_pos h0]
    refine ⟨m,rfl,fun _=>⟨keep m (fun s hs _=>hm s hs) (fun h=>absurd h0 h),?_⟩⟩
    intro y hy z hz e he
    rw [htk,List.mem_append,List.mem_singleton] at hy hz
    rcases hy with hy|rfl
    · rcases hz with hz|rfl
      · exact ha y hy z hz e he
      · exact absurd (e.trans h0) he
    · exact absurd h0 he
  · rw [if_neg h0,if_neg h0,if_pos hw,hm _ h0]
    cases hf:(l.take n).find? (fun y=>decide (y.f2 = (nd l n).f2)) with
    | none =>
      have hno:∀ y ∈ l.take n,y.f2 ≠ (nd l n).f2:=fun y hy e=>by
        have:=List.find?_eq_none.1 hf y hy
        exact this (decide_eq_true e)
      have hany:((l.take n).any fun y=>decide (y.f2 = (nd l n).f2) && !alikeB y (nd l n)) = false:=by
        rw [List.any_eq_false]
        intro y hy
        rw [decide_eq_false (hno y hy)]
        simp
      rw [hany]
      refine ⟨_,rfl,fun _=>⟨keep _ (fun s hs e=>?_) (fun _=>?_),?_⟩⟩
      · rw [Go.Proofs.YtcbbcnmifohibaaDoorW.MapOwn.get_other _ _ (Ne.symm e)];exact hm s hs
      · rw [Go.Proofs.YtcbbcnmifohibaaDoorW.MapOwn.get_same,htk,List.find?_append,hf]
        simp
      · intro y hy z hz e he
        rw [htk,List.mem_append,List.mem_singleton] at hy hz
        rcases hy with hy|rfl
        · rcases hz with hz|rfl
          · exact ha y hy z hz e he
          · exact absurd e (hno y hy)
        · rcases hz with hz|rfl
          · exact absurd e.symm (hno z hz)
          · rfl
    | some y0 =>
      have hy0:=List.mem_of_find?_eq_some hf
      have hs0:y0.f2 = (nd l n).f2:=by simpa using List.find?_some hf
      simp only [alike_f,Option.bind_some]
      cases hal:alikeB y0 (nd l n) with
      | true =>
        have hk:=(alikeB_iff _ _).1 hal
        have hany:((l.take n).any fun y=>decide (y.f2 = (nd l n).f2) && !alikeB y (nd l n)) = false:=by
          rw [List.any_eq_false]
          intro y hy
          by_cases e:y.f2 = (nd l n).f2
          · have:alikeB y (nd l n) = true:=(alikeB_iff _ _).2 ((ha y hy y0 hy0 (e.trans hs0.symm) (by rw [e];exact h0)).trans hk)
            rw [this];simp
          · rw [decide_eq_false e];simp
        rw [hany,if_pos rfl]
        refine ⟨m,rfl,fun _=>⟨keep m (fun s hs _=>hm s hs) (fun _=>?_),?_⟩⟩
        · rw [hm _ h0,htk,List.find?_append,hf];rfl
        · intro y hy z hz e he
          rw [htk,List.mem_append,List.mem_singleton] at hy hz
          rcases hy with hy|rfl
          · rcases hz with hz|rfl
            · exact ha y hy z hz e he
            · exact (ha y hy y0 hy0 (e.trans hs0.symm) he).trans hk
          · rcases hz with hz|rfl
            · exact ((ha z hz y0 hy0 (e.symm.trans hs0.symm) (by rw [← e];exact he)).trans hk).symm
            · rfl
      | false =>
        have hany:((l.take n).any fun y=>decide (y.f2 = (nd l n).f2) && !alikeB y (nd l n)) = true:=by
          rw [List.any_eq_true]
          exact ⟨y0,hy0,by rw [hal,decide_eq_true hs0];rfl⟩
        rw [hany,if_neg (by decide)]
        exact ⟨m,rfl,fun h=>absurd h (by decide)⟩
theorem prog_step (l:List Node) (n:Nat) (m:List (Int × Node)) (hl:l.length ≤ 40) (hn:n < l.length) (hg:∀ y ∈ l,okN y) (hb:∀ j,j < n→nodeX (nd l j) = 0) (hm:MapRel l n m) (ha:AllAlike l n) :
    ∃ r,Ev (fun k=>tree_Check.step k l m (nd l n) n) (stepR l n (nd l n),r)∧(stepR l n (nd l n) = 0→MapRel l (n + 1) r∧AllAlike l (n + 1)):=by
  obtain ⟨r,hr,hk⟩:=same_is l n hn m hm ha (hg _ (nd_mem l n hn)).2.2.2.2
  unfold tree_Check.step stepR
  by_cases h:nodeX (nd l n) = 0
  · have hx:(nd l n).f0.size ≤ 1048576:=by have:=pathR_size _ (nodeX_path _ h);omega
    simp only [if_pos h]
    by_cases h1:twoR l n (nd l n) = true
    · simp only [if_pos h1]
      exact ⟨m,Ev.bind (right_at _ (hg _ (nd_mem l n hn))) (Ev.ifp h (Ev.bind (two_ref l _ n hx hb).2 (Ev.ifp h1 (Ev.now _)))),fun e=>absurd e (by decide)⟩
    · simp only [if_neg h1]
      by_cases h2:upR l n (nd l n) = true
      · simp only [if_pos h2]
        exact ⟨m,Ev.bind (right_at _ (hg _ (nd_mem l n hn))) (Ev.ifp h (Ev.bind (two_ref l _ n hx hb).2 (Ev.ifn h1 (Ev.bind (up_both l _ n hx (by omega) hl).2 (Ev.ifp h2 (Ev.now _)))))),fun e=>absurd e (by decide)⟩
      · simp only [if_neg h2]
        refine ⟨r,Ev.bind (right_at _ (hg _ (nd_mem l n hn))) (Ev.ifp h (Ev.bind (two_ref l _ n hx hb).2 (Ev.ifn h1 (Ev.bind (up_both l _ n hx (by omega) hl).2 (Ev.ifn h2 (Ev.const hr)))))),fun e=>?_⟩
        cases hs:sameR l n (nd l n) with
        | true=>rw [hs] at e;exact absurd e (by decide)
        | false=>exact hk hs
  · simp only [if_neg h]
    exact ⟨m,Ev.bind (right_at _ (hg _ (nd_mem l n hn))) (Ev.ifn h (Ev.now _)),fun e=>absurd e h⟩
theorem prog_from (l:List Node) (hl:l.length ≤ 40) (hg:∀ y ∈ l,okN y) (d:Nat):∀ n m,n + d = l.length→(∀ j,j < n→nodeX (nd l j) = 0)→MapRel l n m→AllAlike l n→Ev (fun k=>tree_Check.l0 k l m n) (treeFrom l d n):=by
  induction d with
  | zero =>
    intro n m hd hb hm ha
    exact Ev.step (f:=fun _=>some 0) (fun k=>by simp only [tree_Check.l0];rw [if_neg (by omega)]) (Ev.now 0)
  | succ d ih =>
    intro n m hd hb hm ha
    obtain ⟨r,hr,hk⟩:=prog_step l n m hl (by omega) hg hb hm ha
    refine Ev.step (f:=fun k=>(tree_Check.step k l m (nd l n) n).bind fun r=>if r.1 = 0 then tree_Check.l0 k l r.2 (n + 1) else some r.1) (fun k=>by simp only [tree_Check.l0];rw [if_pos (by omega),rd_nd]) ?_
    refine Ev.bind hr ?_
    unfold treeFrom
    by_cases h:stepR l n (nd l n) = 0
    · rw [if_pos h]
      refine Ev.ifp h (ih (n + 1) r (by omega) (fun j hj=>?_) (hk h).1 (hk h).2)
      by_cases e:j = n
      · subst e;exact (step_zero l _ _ h).1
      · exact hb j (by omega)
    · rw [if_neg h]
      exact Ev.ifn h (Ev.now _)
theorem prog_tree (l:List Node) (hg:∀ y ∈ l,okN y):Ev (fun k=>tree_Check.f k l) (treeR l):=by
  unfold tree_Check.f treeR
  by_cases h:40 < l.length
  · rw [if_pos h];exact Ev.ifp h (Ev.now _)
  · rw [if_neg h]
    exact Ev.ifn h (prog_from l (by omega) hg l.length 0 [] (by omega) (fun j hj=>absurd hj (Nat.not_lt_zero j)) (fun s _=>rfl) (fun y hy=>absurd hy (by simp)))
theorem treeFrom_zero (l:List Node):∀ d n,treeFrom l d n = 0→∀ j,n ≤ j→j < n + d→stepR l j (nd l j) = 0
  | 0,n,_,j,h1,h2=>by omega
  | d + 1,n,h,j,h1,h2=>by
    unfold treeFrom at h
    by_cases h0:stepR l n (nd l n) = 0
    · rw [if_pos h0] at h
      by_cases e:j = n
      · subst e;exact h0
      · exact treeFrom_zero l d (n + 1) h j (by omega) (by omega)
    · rw [if_neg h0] at h
      exact absurd h h0
theorem tree_zero (l:List Node) (h:treeR l = 0):l.length ≤ 40∧∀ j,j < l.length→stepR l j (nd l j) = 0:=by
  unfold treeR at h
  by_cases h0:40 < l.length
  · rw [if_pos h0] at h;cases h
  · rw [if_neg h0] at h
    exact ⟨by omega,fun j hj=>treeFrom_zero l l.length 0 h j (by omega) (by omega)⟩
theorem tree_path (l:List Node) (h:treeR l = 0) (j:Nat) (hj:j < l.length):1 ≤ (nd l j).f0.size∧(nd l j).f0.size ≤ 400 :=
  pathR_size _ (nodeX_path _ (step_zero l j _ ((tree_zero l h).2 j hj)).1)
theorem find_ev (l:List Node) (s:ByteArray) (hl:l.length ≤ 1099511627776):Ev (fun k=>tree_Find.f k l s) (findR l s)∧Ev (fun k=>creelref_TreeFind.f k l s) (findP l s:Int) :=
  ⟨⟨l.length + 1,fun k hk=>(find_both l s hl k (by omega)).1⟩,⟨l.length + 1,fun k hk=>(find_both l s hl k (by omega)).2⟩⟩
structure TreeOk (l:List Node):Prop where
  len:l.length ≤ 40
  node:∀ y ∈ l,nodeX y = 0
  ord:l.Pairwise (fun a b=>cmpP a.f0 b.f0 = -1)
  same:l.Pairwise (fun a b=>b.f2 ≠ 0→a.f2 = b.f2→alikeB a b = true)
  up:∀ y ∈ l,(upOf y.f0).toList ≠ []→∃ z ∈ l,z.f0 = upOf y.f0∧z.f1 = 2∧cmpP z.f0 y.f0 = -1
theorem pair_nd (l:List Node) (R:Node→Node→Prop):l.Pairwise R ↔ ∀ i j,i < j→j < l.length→R (nd l i) (nd l j):=by
  rw [List.pairwise_iff_getElem]
  constructor
  · intro h i j hij hj
    have:=h i j (by omega) hj hij
    rw [nd_get,nd_get] at this
    exact this
  · intro h i j hi hj hij
    rw [nd_get,nd_get]
    exact h i j hij hj
theorem mem_nd {l:List Node} {y:Node} (h:y ∈ l):∃ i,i < l.length∧nd l i = y:=by
  obtain ⟨i,hi,e⟩:=List.mem_iff_getElem.1 h
  exact ⟨i,hi,by rw [← nd_get l i hi];exact e⟩
theorem find_lt (l:List Node) (s:ByteArray):findP l s < l.length ↔ ∃ y ∈ l,y.f0.toList = s.toList:=by
  unfold findP
  rw [List.findIdx_lt_length]
  constructor
  · rintro ⟨y,h1,h2⟩;exact ⟨y,h1,of_decide_eq_true h2⟩
  · rintro ⟨y,h1,h2⟩;exact ⟨y,h1,decide_eq_true h2⟩
theorem find_is (l:List Node) (s:ByteArray) (h:findP l s < l.length):(nd l (findP l s)).f0.toList = s.toList:=by
  have h1:isP s (l[findP l s]'h) = true:=List.findIdx_getElem (p:=isP s) (xs:=l) (w:=h)
  rw [nd_get l _ h] at h1
  exact of_decide_eq_true h1
theorem take_len (l:List Node) (n:Nat) (h:n ≤ l.length):(l.take n).length = n:=by rw [List.length_take];omega
theorem nd_take (l:List Node) (n i:Nat) (h:i < n):nd (l.take n) i = nd l i:=by
  unfold nd
  rw [List.getD_eq_getElem?_getD,List.getElem?_take,if_pos h,← List.getD_eq_getElem?_getD]
theorem mem_take_nd {l:List Node} {n:Nat} {y:Node} (hn:n ≤ l.length) (h:y ∈ l.take n):∃ i,i < n∧nd l i = y:=by
  obtain ⟨i,hi,e⟩:=mem_nd h
  rw [take_len l n hn] at hi
  exact ⟨i,hi,by rw [nd_take l n i hi] at e;exact e⟩
theorem nd_mem_take {l:List Node} {n i:Nat} (hn:n ≤ l.length) (h:i < n):nd l i ∈ l.take n:=by
  rw [← nd_take l n i h]
  exact nd_mem _ i (by rw [take_len l n hn];exact h)
theorem treeFrom_of (l:List Node):∀ d n,(∀ j,n ≤ j→j < n + d→stepR l j (nd l j) = 0)→treeFrom l d n = 0
  | 0,_,_=>rfl
  | d + 1,n,h=>by
    unfold treeFrom
    rw [if_pos (h n (Nat.le_refl _) (by omega))]
    exact treeFrom_of l d (n + 1) (fun j a b=>h j (by omega) (by omega))
theorem order_eq {l:List Node} (h:l.Pairwise (fun a b=>cmpP a.f0 b.f0 = -1)) {y z:Node} (hy:y ∈ l) (hz:z ∈ l) (e:y.f0 = z.f0):y = z:=by
  obtain ⟨i,hi,rfl⟩:=mem_nd hy
  obtain ⟨j,hj,rfl⟩:=mem_nd hz
  rw [pair_nd] at h
  rcases Nat.lt_trichotomy i j with h1|h1|h1
  · have:=h i j h1 hj;rw [e,cmpP_self] at this;cases this
  · rw [h1]
  · have:=h j i h1 hi;rw [e,cmpP_self] at this;cases this
theorem order_lt {l:List Node} (h:l.Pairwise (fun a b=>cmpP a.f0 b.f0 = -1)) (i j:Nat) (hi:i < l.length) (hj:j < l.length) (e:cmpP (nd l i).f0 (nd l j).f0 = -1):i < j:=by
  rw [pair_nd] at h
  rcases Nat.lt_trichotomy i j with h1|h1|h1
  · exact h1
  · rw [h1,cmpP_self] at e;cases e
  · have:=h j i h1 hi;rw [cmpP_swap,e] at this;cases this
theorem treeOk_of (l:List Node) (h:treeR l = 0):TreeOk l:=by
  obtain ⟨h40,hs⟩:=tree_zero l h
  have hz:=fun j hj=>step_zero l j _ (hs j hj)
  have hord:∀ i j,i < j→j < l.length→cmpP (nd l i).f0 (nd l j).f0 = -1:=by
    have hr:=rising (fun y:Node=>y.f0) (nd l) l.length (fun i h0 hi=>by
      have h2:=(hz i hi).2.1
      unfold twoR at h2
      rw [if_pos h0] at h2
      have h3:=of_decide_eq_false h2
      rcases cmpP_01 (nd l (i - 1)).f0 (nd l i).f0 with e|e|e
      · exact e
      · rw [e] at h3;exact absurd (by decide) h3
      · rw [e] at h3;exact absurd (by decide) h3)
    intro i j hij hj
    exact hr (j - i - 1) i j (by omega) hj
  refine ⟨h40,fun y hy=>?_,(pair_nd l _).2 hord,(pair_nd l _).2 (fun i j hij hj hne he=>?_),fun y hy hne=>?_⟩
  · obtain ⟨i,hi,rfl⟩:=mem_nd hy
    exact (hz i hi).1
  · have h2:=(hz j hj).2.2.2
    unfold sameR at h2
    rw [if_neg hne,List.any_eq_false] at h2
    have h3:=h2 (nd l i) (nd_mem_take (by omega) hij)
    rw [decide_eq_true he,Bool.true_and] at h3
    simpa using h3
  · obtain ⟨j,hj,rfl⟩:=mem_nd hy
    have h2:=(hz j hj).2.2.1
    unfold upR at h2
    rw [if_neg hne] at h2
    by_cases c:findP (l.take j) (upOf (nd l j).f0) < j
    · rw [if_pos c] at h2
      have h3:findP (l.take j) (upOf (nd l j).f0) < (l.take j).length:=by rw [take_len l j (by omega)];exact c
      have h4:=find_is _ _ h3
      rw [nd_take l j _ c] at h4
      exact ⟨_,nd_mem l _ (by omega),toList_inj h4,by simpa using h2,hord _ j c hj⟩
    · rw [if_neg c] at h2;cases h2
theorem treeR_of (l:List Node) (h:TreeOk l):treeR l = 0:=by
  unfold treeR
  rw [if_neg (by have:=h.len;omega)]
  refine treeFrom_of l _ _ (fun j _ hj=>?_)
  have hj':j < l.length:=by omega
  have hn:=h.node _ (nd_mem l j hj')
  unfold stepR
  have e1:twoR l j (nd l j) = false:=by
    unfold twoR
    by_cases c:0 < j
    · rw [if_pos c,(pair_nd l _).1 h.ord (j - 1) j (by omega) hj'];rfl
    · rw [if_neg c]
  have e2:upR l j (nd l j) = false:=by
    unfold upR
    by_cases c:(upOf (nd l j).f0).toList = ([]:List UInt8)
    · rw [if_pos c]
    · rw [if_neg c]
      obtain ⟨z,hz,z1,z2,z3⟩:=h.up _ (nd_mem l j hj') c
      obtain ⟨i,hi,rfl⟩:=mem_nd hz
      have hij:=order_lt h.ord i j hi hj' z3
      have h3:findP (l.take j) (upOf (nd l j).f0) < (l.take j).length:=(find_lt _ _).2 ⟨nd l i,nd_mem_take (by omega) hij,by rw [z1]⟩
      have h4:=find_is _ _ h3
      rw [take_len l j (by omega)] at h3
      rw [nd_take l j _ h3] at h4
      rw [if_pos h3]
      have h5:nd l (findP (l.take j) (upOf (nd l j).f0)) = nd l i:=order_eq h.ord (nd_mem l _ (by omega)) hz (by rw [toList_inj h4,z1])
      rw [h5,z2];rfl
  have e3:sameR l j (nd l j) = false:=by
    unfold sameR
    by_cases c:(nd l j).f2 = 0
    · rw [if_pos c]
    · rw [if_neg c,List.any_eq_false]
      intro y hy
      obtain ⟨i,hi,rfl⟩:=mem_take_nd (by omega) hy
      by_cases e:(nd l i).f2 = (nd l j).f2
      · rw [(pair_nd l _).1 h.same i j hi hj' c e];simp
      · rw [decide_eq_false e];simp
  rw [if_pos hn,e1,e2,e3]
  rfl
theorem set_app (a:List S45) (x y:S45):(a ++ [x]).set a.length y = a ++ [y]:=by
  rw [List.set_append_right _ _ (Nat.le_refl _),Nat.sub_self];rfl
theorem copy_ref (l:List S45) (hl:l.length ≤ 1000000) (hd:∀ i,i < l.length→(nd l i).f5.length ≤ 140737488351232) (d:Nat):∀ (i:Nat),l.length - i = d→i ≤ l.length→Ev (fun k=>creelref_TreeCopy.l0 k l (l.take i) (i:Int)) l:=by
  induction d with
  | zero =>
    intro i hd' hi
    rw [List.take_of_length_le (by omega)]
    refine Ev.step (f:=fun _=>some l) (fun k=>?_) (Ev.now _)
    simp only [creelref_TreeCopy.l0]
    rw [if_neg (by omega)]
  | succ d ih =>
    intro i hd' hi
    have hw:wrap64 ((i:Int) + 1) = ((i + 1:Nat):Int):=by rw [wrap_is (by omega) (by omega)];omega
    have hln:(l.take i).length = i:=by rw [List.length_take];omega
    have hdi:=hd i (by omega)
    have hrd:rd_T45 (l.take i ++ [nd l i]) (i:Int) = nd l i:=by
      rw [rd_nd]
      unfold nd
      rw [List.getD_eq_getElem?_getD,List.getElem?_append_right (by omega),hln,Nat.sub_self];rfl
    refine Ev.step (f:=fun k=>creelref_TreeCopy.l0 k l (l.take (i + 1)) ((i + 1:Nat):Int)) (fun k=>?_) (ih (i + 1) (by omega) (by omega))
    simp only [creelref_TreeCopy.l0,Option.bind_some,List.nil_append,List.length_nil]
    rw [if_pos (by omega),if_pos (by omega),if_pos (by omega),rd_nd,if_pos (by omega),if_pos (by simp;omega),hw,hrd]
    rw [show (i:Int).toNat = (l.take i).length by omega,set_app,take_nd l i (by omega)]
theorem good_data (l:List S45) (n:Nat) (h:∀ y ∈ l,y.f5.length ≤ n):(l.all fun x=>decide (x.f5.length ≤ 140737488355327)) = true ∨ 140737488355327 < n:=by
  by_cases c:140737488355327 < n
  · exact Or.inr c
  · left
    rw [List.all_eq_true]
    intro x hx
    exact decide_eq_true (by have:=h x hx;omega)
theorem copy_both (l:List S45) (hl:l.length ≤ 1000000) (hd:∀ y ∈ l,y.f5.length ≤ 140737488351232):tree_Copy.f l = some l∧Ev (fun k=>creelref_TreeCopy.f k l) l:=by
  refine ⟨?_,copy_ref l hl (fun i hi=>hd _ (nd_mem l i hi)) l.length 0 (by omega) (by omega)⟩
  unfold tree_Copy.f
  rw [if_pos ⟨by omega,(good_data l 140737488351232 hd).resolve_right (by omega)⟩]
def aft:List UInt8→Option (List UInt8)
  | []=>none
  | c :: r=>if c = 93 then some r else aft r
def skp:List UInt8→List UInt8
  | []=>[]
  | c :: r=>if c = 33 then r else c :: r
theorem aft_cons (c:UInt8) (r:List UInt8):aft (c :: r) = if c = 93 then some r else aft r:=rfl
theorem skp_cons (c:UInt8) (r:List UInt8):skp (c :: r) = if c = 33 then r else c :: r:=rfl
def clo (l:List UInt8):Option (List UInt8):=match skp l with
  | []=>none
  | _ :: r=>aft r
theorem aft_len:∀ (l r:List UInt8),aft l = some r→r.length < l.length
  | [],r,h=>by simp [aft] at h
  | c :: l,r,h=>by
    unfold aft at h
    split at h
    · cases h;simp
    · have:=aft_len l r h
      simp only [List.length_cons];omega
theorem skp_len (l:List UInt8):(skp l).length ≤ l.length:=by
  cases l with
  | nil=>simp [skp]
  | cons c r =>
    rw [skp_cons]
    split <;> simp
theorem clo_len (l r:List UInt8) (h:clo l = some r):r.length < l.length:=by
  unfold clo at h
  split at h
  · cases h
  · rename_i c q e
    have h1:=aft_len _ _ h
    have h2:=skp_len l
    rw [e] at h2
    simp only [List.length_cons] at h2
    omega
theorem aft_suf:∀ (l r:List UInt8),aft l = some r→∃ p,l = p ++ r
  | [],r,h=>by simp [aft] at h
  | c :: l,r,h=>by
    unfold aft at h
    split at h
    · cases h;exact ⟨[c],rfl⟩
    · obtain ⟨p,e⟩:=aft_suf l r h
      exact ⟨c :: p,by rw [e];rfl⟩
theorem clo_suf (l r:List UInt8) (h:clo l = some r):∃ p,l = p ++ r:=by
  unfold clo at h
  cases l with
  | nil=>simp [skp] at h
  | cons c q =>
    by_cases hc:c = 33
    · rw [skp_cons,if_pos hc] at h
      cases q with
      | nil=>cases h
      | cons d q2 =>
        obtain ⟨p,e⟩:=aft_suf q2 r h
        exact ⟨c :: d :: p,by rw [e];rfl⟩
    · rw [skp_cons,if_neg hc] at h
      obtain ⟨p,e⟩:=aft_suf q r h
      exact ⟨c :: p,by rw [e];rfl⟩
inductive Res:List UInt8→Bool→Prop
  | nil:Res [] true
  | sign (c:UInt8) (r:List UInt8) (b:Bool) (h:c ≠ 91) (hr:Res r b):Res (c :: r) b
  | bad (r:List UInt8) (h:clo r = none):Res (91 :: r) false
  | set (r q:List UInt8) (b:Bool) (h:clo r = some q) (hr:Res q b):Res (91 :: r) b
theorem res_of (n:Nat):∀ u:List UInt8,u.length ≤ n→∃ b,Res u b:=by
  induction n with
  | zero =>
    intro u h
    have:u = []:=List.length_eq_zero_iff.mp (by omega)
    subst this
    exact ⟨true,.nil⟩
  | succ n ih =>
    intro u h
    cases u with
    | nil=>exact ⟨true,.nil⟩
    | cons c r =>
      simp only [List.length_cons] at h
      by_cases hc:c = 91
      · subst hc
        cases e:clo r with
        | none=>exact ⟨false,.bad r e⟩
        | some q =>
          have:=clo_len r q e
          obtain ⟨b,hb⟩:=ih q (by omega)
          exact ⟨b,.set r q b e hb⟩
      · obtain ⟨b,hb⟩:=ih r (by omega)
        exact ⟨b,.sign c r b hc hb⟩
theorem at_byte (s:ByteArray) (i:Nat) (c:UInt8) (r:List UInt8) (h:s.data.toList.drop i = c :: r):i < s.size∧bt s (i:Int) = (c.toNat:Int)∧s.data.toList.drop (i + 1) = r:=by
  have hi:i < s.size:=by
    rcases Nat.lt_or_ge i s.size with h1|h1
    · exact h1
    · rw [List.drop_of_length_le (by rw [size_list];exact h1)] at h
      cases h
  obtain ⟨b,h1,h2,_⟩:=drop_cons s i hi
  rw [h] at h1
  injection h1 with h3 h4
  subst h3
  exact ⟨hi,h2.symm,h4.symm⟩
theorem at_end (s:ByteArray) (i:Nat) (h:s.data.toList.drop i = []):s.size ≤ i:=by
  have:=List.drop_eq_nil_iff.mp h
  rw [size_list] at this
  exact this
theorem u8_ne (c n:UInt8) (h:c ≠ n):(c.toNat:Int) ≠ (n.toNat:Int):=fun e=>h (UInt8.toNat_inj.mp (by omega))
theorem l1_step (s:ByteArray) (hs:s.size ≤ 1000000) (m fr k:Nat) (x:List Bool) (c:UInt8) (r:List UInt8) (h:s.data.toList.drop k = c :: r) (hk:k = fr ∨ c ≠ 93):∃ x2 j,rGF.l1 (m + 1) s (fr:Int) x (k:Int) = rGF.l1 m s (fr:Int) x2 ((j:Nat):Int)∧k < j∧j ≤ s.size∧aft (s.data.toList.drop j) = aft r:=by
  obtain ⟨h1,h2,h3⟩:=at_byte s k c r h
  have w1:wrap64 ((k:Int) + 1) = ((k + 1:Nat):Int):=by rw [wrap_is (by omega) (by omega)];omega
  have w2:wrap64 ((k:Int) + 2) = ((k + 2:Nat):Int):=by rw [wrap_is (by omega) (by omega)];omega
  have w3:wrap64 (((k + 2:Nat):Int) + 1) = ((k + 3:Nat):Int):=by rw [wrap_is (by omega) (by omega)];omega
  have hc:(k:Int) = (fr:Int) ∨ bt s (k:Int) ≠ 93:=by
    rcases hk with e|e
    · left;omega
    · right;rw [h2];exact u8_ne c 93 e
  simp only [rGF.l1]
  rw [if_pos (by omega),if_pos hc]
  cases ht:rGF.two s (k:Int) with
  | false =>
    refine ⟨_,k + 1,by unfold rGF.nx;rw [ht,if_neg (by decide),w1],by omega,by omega,by rw [h3]⟩
  | true =>
    have ht2:=ht
    unfold rGF.two at ht2
    rw [w1,w2,Bool.and_eq_true,Bool.and_eq_true,decide_eq_true_eq,beq_iff_eq,bne_iff_ne] at ht2
    obtain ⟨t1,t2,t3⟩:=ht2
    refine ⟨_,k + 3,by unfold rGF.nx;rw [ht,if_pos rfl,w2,w3],by omega,by omega,?_⟩
    obtain ⟨a,a1,a2,_⟩:=drop_cons s (k + 1) (by omega)
    obtain ⟨b,b1,b2,_⟩:=drop_cons s (k + 1 + 1) (by omega)
    have ha:a ≠ 93:=fun e=>by subst e;rw [t2] at a2;exact absurd a2 (by decide)
    have hb:b ≠ 93:=fun e=>by subst e;exact t3 b2.symm
    rw [← h3,a1,b1,aft_cons,if_neg ha,aft_cons,if_neg hb]
theorem l1_run (s:ByteArray) (hs:s.size ≤ 1000000) (fr:Nat):∀ (m k:Nat) (x:List Bool),fr < k→k ≤ s.size→s.size - k < m→∃ x' k',rGF.l1 m s (fr:Int) x (k:Int) = some (x',((k':Nat):Int))∧fr < k'∧((∃ q,aft (s.data.toList.drop k) = some q∧k' < s.size∧s.data.toList.drop (k' + 1) = q) ∨ (aft (s.data.toList.drop k) = none∧s.size ≤ k')):=by
  intro m
  induction m with
  | zero=>intro k x _ _ h;omega
  | succ m ih =>
    intro k x h1 h2 h3
    cases hv:s.data.toList.drop k with
    | nil =>
      have:=at_end s k hv
      refine ⟨x,k,?_,h1,Or.inr ⟨rfl,this⟩⟩
      simp only [rGF.l1]
      rw [if_neg (by omega)]
    | cons c r =>
      obtain ⟨g1,g2,g3⟩:=at_byte s k c r hv
      by_cases hc:c = 93
      · subst hc
        refine ⟨x,k,?_,h1,Or.inl ⟨r,by rw [aft_cons,if_pos rfl],g1,g3⟩⟩
        simp only [rGF.l1]
        rw [if_pos (by omega),if_neg (fun h=>h.elim (fun e=>by omega) (fun e=>e (by rw [g2];rfl)))]
      · obtain ⟨x2,j,e1,e2,e3,e4⟩:=l1_step s hs m fr k x c r hv (Or.inr hc)
        obtain ⟨x',k',f1,f2,f3⟩:=ih j x2 (by omega) e3 (by omega)
        refine ⟨x',k',e1.trans f1,f2,?_⟩
        rw [aft_cons,if_neg hc,← e4]
        exact f3
theorem l1_all (s:ByteArray) (hs:s.size ≤ 1000000) (fr:Nat) (hf:fr ≤ s.size) (x:List Bool):∃ x' k',rGF.l1 (s.size + 1) s (fr:Int) x (fr:Int) = some (x',((k':Nat):Int))∧((∃ c r q,s.data.toList.drop fr = c :: r∧aft r = some q∧k' < s.size∧k' ≠ fr∧s.data.toList.drop (k' + 1) = q) ∨ ((∀ c r,s.data.toList.drop fr = c :: r→aft r = none)∧(s.size ≤ k' ∨ k' = fr))):=by
  cases hv:s.data.toList.drop fr with
  | nil =>
    have:=at_end s fr hv
    refine ⟨x,fr,?_,Or.inr ⟨fun _ _ h=>(by cases h),Or.inr rfl⟩⟩
    simp only [rGF.l1]
    rw [if_neg (by omega)]
  | cons c r =>
    obtain ⟨x2,j,e1,e2,e3,e4⟩:=l1_step s hs s.size fr fr x c r hv (Or.inl rfl)
    obtain ⟨x',k',f1,f2,f3⟩:=l1_run s hs fr s.size j x2 e2 e3 (by omega)
    refine ⟨x',k',e1.trans f1,?_⟩
    rw [e4] at f3
    rcases f3 with ⟨q,g1,g2,g3⟩|⟨g1,g2⟩
    · exact Or.inl ⟨c,r,q,rfl,g1,g2,by omega,g3⟩
    · refine Or.inr ⟨fun c2 r2 h=>?_,Or.inl g2⟩
      injection h with _ h
      subst h
      exact g1
theorem nt_is (s:ByteArray) (hs:s.size ≤ 1000000) (i:Nat) (r:List UInt8) (h:s.data.toList.drop (i + 1) = r) (hi:i < s.size):∃ f,rGF.fr s (i:Int) = ((f:Nat):Int)∧i < f∧f ≤ s.size∧s.data.toList.drop f = skp r:=by
  have w1:wrap64 ((i:Int) + 1) = ((i + 1:Nat):Int):=by rw [wrap_is (by omega) (by omega)];omega
  have w2:wrap64 (((i + 1:Nat):Int) + 1) = ((i + 2:Nat):Int):=by rw [wrap_is (by omega) (by omega)];omega
  unfold rGF.fr rGF.nt
  rw [w1]
  cases r with
  | nil =>
    have:=at_end s (i + 1) h
    refine ⟨i + 1,?_,by omega,by omega,by rw [h];rfl⟩
    rw [if_neg]
    rw [Bool.and_eq_true,decide_eq_true_eq]
    exact fun h=>by omega
  | cons c q =>
    obtain ⟨g1,g2,g3⟩:=at_byte s (i + 1) c q h
    by_cases hc:c = 33
    · subst hc
      refine ⟨i + 2,?_,by omega,by omega,by rw [g3];rfl⟩
      rw [if_pos,w2]
      rw [Bool.and_eq_true,decide_eq_true_eq,beq_iff_eq,g2]
      exact ⟨by omega,rfl⟩
    · refine ⟨i + 1,?_,by omega,by omega,by rw [h,skp_cons,if_neg hc]⟩
      rw [if_neg]
      rw [Bool.and_eq_true,beq_iff_eq,g2]
      exact fun h=>u8_ne c 33 hc h.2
theorem ref_res (s:ByteArray) (hs:s.size ≤ 1000000) (u:List UInt8) (b:Bool) (hr:Res u b):∀ (i n:Nat) (acc:List (List Bool)),s.data.toList.drop i = u→i ≤ s.size→s.size - i < n→∃ r,rGF.l0 n s acc (i:Int) = some r∧r.2 = b:=by
  induction hr with
  | nil =>
    intro i n acc h hi hn
    obtain ⟨n,rfl⟩:∃ m,n = m + 1:=⟨n - 1,by omega⟩
    have:=at_end s i h
    refine ⟨(acc,true),?_,rfl⟩
    simp only [rGF.l0]
    rw [if_neg (by omega)]
  | sign c r b hc hr ih =>
    intro i n acc h hi hn
    obtain ⟨n,rfl⟩:∃ m,n = m + 1:=⟨n - 1,by omega⟩
    obtain ⟨g1,g2,g3⟩:=at_byte s i c r h
    have e:(i:Int) + 1 = ((i + 1:Nat):Int):=by omega
    simp only [rGF.l0]
    rw [if_pos (by omega),e]
    by_cases q:bt s (i:Int) = 63
    · rw [if_pos q]
      exact ih (i + 1) n _ g3 (by omega) (by omega)
    · rw [if_neg q,if_neg (by rw [g2];exact u8_ne c 91 hc)]
      exact ih (i + 1) n _ g3 (by omega) (by omega)
  | bad r hc =>
    intro i n acc h hi hn
    obtain ⟨n,rfl⟩:∃ m,n = m + 1:=⟨n - 1,by omega⟩
    obtain ⟨g1,g2,g3⟩:=at_byte s i 91 r h
    obtain ⟨f,f1,f2,f3,f4⟩:=nt_is s hs i r g3 g1
    obtain ⟨x',k',k1,k2⟩:=l1_all s hs f f3 (rGF.x0 s (i:Int))
    refine ⟨([],false),?_,rfl⟩
    simp only [rGF.l0]
    rw [if_pos (by omega),if_neg (by rw [g2];decide),if_pos (by rw [g2];rfl),f1,k1]
    simp only [Option.bind_some]
    rw [if_pos]
    unfold clo at hc
    rw [← f4] at hc
    rcases k2 with ⟨c,r2,q,q1,q2,_⟩|⟨_,q2⟩
    · rw [q1] at hc
      have hc2:aft r2 = none:=hc
      rw [hc2] at q2
      cases q2
    · rcases q2 with q2|q2
      · left;omega
      · right;omega
  | set r q b hc hr ih =>
    intro i n acc h hi hn
    obtain ⟨n,rfl⟩:∃ m,n = m + 1:=⟨n - 1,by omega⟩
    obtain ⟨g1,g2,g3⟩:=at_byte s i 91 r h
    obtain ⟨f,f1,f2,f3,f4⟩:=nt_is s hs i r g3 g1
    obtain ⟨x',k',k1,k2⟩:=l1_all s hs f f3 (rGF.x0 s (i:Int))
    simp only [rGF.l0]
    rw [if_pos (by omega),if_neg (by rw [g2];decide),if_pos (by rw [g2];rfl),f1,k1]
    simp only [Option.bind_some]
    unfold clo at hc
    rw [← f4] at hc
    rcases k2 with ⟨c,r2,q2,q1,q3,q4,q5,q6⟩|⟨q1,_⟩
    · rw [q1] at hc
      have e2:q2 = q:=Option.some.inj (q3.symm.trans hc)
      subst e2
      rw [if_neg (by omega),show ((k':Int) + 1) = ((k' + 1:Nat):Int) by omega]
      have hk:i < k':=by
        rcases Nat.lt_or_ge i k' with h1|h1
        · exact h1
        · have a1:(s.data.toList.drop (k' + 1)).length = s.size - (k' + 1):=by rw [List.length_drop,size_list]
          have a2:(s.data.toList.drop f).length = s.size - f:=by rw [List.length_drop,size_list]
          rw [q1] at a2
          rw [q6] at a1
          have:=aft_len _ _ q3
          simp only [List.length_cons] at a2
          omega
      exact ih (k' + 1) n _ q6 (by omega) (by omega)
    · cases e:s.data.toList.drop f with
      | nil=>rw [e] at hc;cases hc
      | cons c r2 =>
        rw [e] at hc
        have:=q1 c r2 e
        rw [show aft r2 = some q from hc] at this
        cases this
theorem tok_res (s:ByteArray) (hs:s.size ≤ 1000000) (b:Bool) (hr:Res s.data.toList b):∃ l,rGF.tok s = some (l,b):=by
  obtain ⟨r,h1,h2⟩:=ref_res s hs _ b hr 0 (s.size + 1) [] (List.drop_zero ..) (by omega) (by omega)
  refine ⟨r.1,?_⟩
  unfold rGF.tok
  rw [if_pos hs,show rGF.l0 (s.size + 1) s [] 0 = _ from h1,← h2]
theorem aft_index:∀ l:List UInt8,(Lib.indexByte l 93 = -1∧aft l = none) ∨ ∃ o:Nat,Lib.indexByte l 93 = (o:Int)∧o < l.length∧aft l = some (l.drop (o + 1))
  | []=>Or.inl ⟨rfl,rfl⟩
  | c :: l=>by
    unfold Lib.indexByte aft
    by_cases hc:c = 93
    · subst hc
      exact Or.inr ⟨0,by simp,by simp,by simp⟩
    · rcases aft_index l with ⟨h1,h2⟩|⟨o,h1,h2,h3⟩
      · left
        rw [if_neg hc,h2]
        refine ⟨?_,rfl⟩
        simp [hc,h1]
      · right
        refine ⟨o + 1,?_,by simp;omega,by rw [if_neg hc,h3];rfl⟩
        simp [hc,h1]
        try omega
def endR (x:ByteArray) (r:List UInt8):Int:=match clo r with
  | none=>-1
  | some q=>((x.size - q.length:Nat):Int)
theorem end_j0 (x:ByteArray) (hs:x.size ≤ 1000000) (r:List UInt8) (h:x.data.toList = 91 :: r) (d:Nat) (h1:1 ≤ d) (h2:d ≤ x.size) (h3:x.data.toList.drop d = skp r):Ev (fun k=>glob_end.j0 k x (d:Int)) (endR x r):=by
  refine Ev.step (f:=fun _=>some (endR x r)) (fun k=>?_) (Ev.now _)
  have w:wrap64 ((d:Int) + 1) = ((d + 1:Nat):Int):=by rw [wrap_is (by omega) (by omega)];omega
  simp only [glob_end.j0]
  unfold endR clo
  cases hv:skp r with
  | nil =>
    rw [hv] at h3
    have:=at_end x d h3
    rw [if_neg (by omega),if_pos (by decide)]
  | cons c q =>
    rw [hv] at h3
    obtain ⟨g1,g2,g3⟩:=at_byte x d c q h3
    have hq:(x.extract (((d + 1:Nat):Int).toNat) x.size).data.toList = q:=by rw [Int.toNat_natCast,Lib.extract_to_end];exact g3
    have hlen:q.length = x.size - (d + 1):=by rw [← g3,List.length_drop,size_list]
    have hz:∀ o,o < q.length→x.size - (q.drop (o + 1)).length = d + 1 + o + 1:=fun o ho=>by clear w;rw [List.length_drop];omega
    rw [if_pos (by omega),w,if_pos (by omega),if_pos (by omega)]
    unfold strings_IndexByte.f
    rw [hq]
    simp only [Option.bind_some]
    show (if Lib.indexByte q 93 < 0 then some (-1) else some (wrap64 (wrap64 (((d + 1:Nat):Int) + Lib.indexByte q 93) + 1))) = _
    rcases aft_index q with ⟨e1,e2⟩|⟨o,e1,e2,e3⟩
    · rw [e1,e2,if_pos (by decide)]
    · rw [e1,e3,if_neg (by omega)]
      have w2:wrap64 (((d + 1:Nat):Int) + (o:Int)) = ((d + 1 + o:Nat):Int):=by rw [wrap_is (by omega) (by omega)];omega
      have w3:wrap64 (((d + 1 + o:Nat):Int) + 1) = ((d + 1 + o + 1:Nat):Int):=by rw [wrap_is (by omega) (by omega)];omega
      rw [w2,w3]
      show some (((d + 1 + o + 1:Nat):Int)) = some (((x.size - (q.drop (o + 1)).length:Nat):Int))
      rw [hz o e2]
theorem end_is (x:ByteArray) (hs:x.size ≤ 1000000) (r:List UInt8) (h:x.data.toList = 91 :: r):Ev (fun k=>glob_end.f k x) (endR x r):=by
  have hx1:(x.extract 1 x.size).data.toList = r:=by rw [Lib.extract_to_end,h];rfl
  have hsz:x.size = r.length + 1:=by rw [← size_list,h];simp
  unfold glob_end.f strings_HasPrefix.f
  refine Ev.ifp (by omega) ?_
  simp only [Option.bind_some]
  rw [hx1]
  cases r with
  | nil =>
    have hp:Lib.hasPrefix ([]:List UInt8) [33] = false:=rfl
    refine Ev.ifn (by show ¬ Lib.hasPrefix ([]:List UInt8) [33] = true;rw [hp];decide) ?_
    exact end_j0 x hs [] h 1 (by omega) (by omega) (by rw [h];rfl)
  | cons c q =>
    simp only [List.length_cons] at hsz
    by_cases hc:c = 33
    · subst hc
      refine Ev.ifp (show Lib.hasPrefix (33 :: q) [33] = true by simp [Lib.hasPrefix,List.isPrefixOf]) ?_
      exact end_j0 x hs (33 :: q) h 2 (by omega) (by omega) (by rw [h];rfl)
    · refine Ev.ifn (show ¬ Lib.hasPrefix (c :: q) [33] = true by simp [Lib.hasPrefix,List.isPrefixOf];exact fun e=>hc e.symm) ?_
      exact end_j0 x hs (c :: q) h 1 (by omega) (by omega) (by rw [h,skp_cons,if_neg hc];rfl)
theorem res_plain (u:List UInt8) (b:Bool) (h:Res u b):(∀ c ∈ u,c ≠ 91)→b = true:=by
  induction h with
  | nil=>intro _;rfl
  | sign c r b _ _ ih=>intro hu;exact ih (fun d hd=>hu d (List.mem_cons_of_mem _ hd))
  | bad r _=>intro hu;exact absurd rfl (hu 91 (List.mem_cons_self ..))
  | set r q b _ _ _=>intro hu;exact absurd rfl (hu 91 (List.mem_cons_self ..))
theorem prog_end (x:ByteArray) (l:List ByteArray) (L n r:Int) (H:Ev (fun k=>glob_Check.l0 k l L (wrap64 (n + 1))) r):Ev (fun k=>glob_Check.j3 k x l L n false) r:=by
  refine Ev.step (fun k=>?_) H
  simp only [glob_Check.j3]
  rw [if_neg (by decide)]
theorem prog_res (l:List ByteArray) (L n r:Int) (u:List UInt8) (b:Bool) (hr:Res u b):∀ (x:ByteArray),x.data.toList = u→x.size ≤ 1000000→(b = true→Ev (fun k=>glob_Check.l0 k l L (wrap64 (n + 1))) r)→(b = false→r = 3)→Ev (fun k=>glob_Check.l1 k x l L n) r:=by
  have stars:∀ (x:ByteArray) (u:List UInt8) (b:Bool),Res u b→x.data.toList = u→(b = true→Ev (fun k=>glob_Check.l0 k l L (wrap64 (n + 1))) r)→x.toList = ([42,42]:List UInt8)→Ev (fun k=>glob_Check.l1 k x l L n) r:=by
    intro x u b hr hx H e
    rw [toList_data,hx] at e
    have hb:=res_plain u b hr (fun c hc=>by rw [e] at hc;simp at hc;subst hc;decide)
    refine Ev.step (fun k=>?_) (prog_end x l L n r (H hb))
    simp only [glob_Check.l1]
    rw [if_pos (by rw [toList_data,hx,e])]
  have go:∀ (x:ByteArray) (c:UInt8) (q:List UInt8),x.data.toList = c :: q→¬ x.toList = ([42,42]:List UInt8)→Ev (fun k=>glob_Check.j3 k x l L n true) r→Ev (fun k=>glob_Check.l1 k x l L n) r:=by
    intro x c q hx hn H
    refine Ev.step (fun k=>?_) H
    simp only [glob_Check.l1]
    rw [if_neg hn,show (x.toList != ([]:List UInt8)) = true by rw [toList_data,hx];rfl]
  induction hr with
  | nil =>
    intro x hx hs H1 H2
    refine Ev.step (fun k=>?_) (prog_end x l L n r (H1 rfl))
    simp only [glob_Check.l1]
    rw [if_neg (by rw [toList_data,hx];decide),show (x.toList != ([]:List UInt8)) = false by rw [toList_data,hx];rfl]
  | sign c q b hc hr ih =>
    intro x hx hs H1 H2
    by_cases e:x.toList = ([42,42]:List UInt8)
    · exact stars x _ b (.sign c q b hc hr) hx H1 e
    · obtain ⟨g1,g2,g3⟩:=at_byte x 0 c q hx
      have hx1:(x.extract 1 x.size).data.toList = q:=by rw [Lib.extract_to_end];exact g3
      have hsz:(x.extract 1 x.size).size ≤ 1000000:=by rw [ByteArray.size_extract];omega
      refine go x c q hx e (Ev.step (f:=fun k=>glob_Check.l1 k (x.extract 1 x.size) l L n) (fun k=>?_) (ih _ hx1 hsz H1 H2))
      simp only [glob_Check.j3,if_true]
      rw [if_pos (by omega),if_neg (show ¬ bt x 0 = 91 from fun e=>u8_ne c 91 hc (g2.symm.trans e)),if_pos (by omega)]
  | bad q hc =>
    intro x hx hs H1 H2
    by_cases e:x.toList = ([42,42]:List UInt8)
    · exact stars x _ false (.bad q hc) hx H1 e
    · obtain ⟨g1,g2,g3⟩:=at_byte x 0 91 q hx
      have he:Ev (fun k=>glob_end.f k x) (-1):=by
        have he:=end_is x hs q hx
        unfold endR at he
        rw [hc] at he
        exact he
      refine go x 91 q hx e ?_
      obtain rfl:=H2 rfl
      refine Ev.step (f:=fun k=>(glob_end.f k x).bind fun t105=>(if t105 < 0 then (some 3) else (if 0 ≤ t105 then (if t105 ≤ (x.size:Int) then (glob_Check.l1 k (x.extract (t105:Int).toNat x.size) l L n) else (none)) else (none)))) (fun k=>?_) (Ev.bind he (Ev.ifp (by decide) (Ev.now _)))
      simp only [glob_Check.j3,if_true]
      rw [if_pos (by omega),if_pos (show bt x 0 = 91 from g2.trans rfl)]
  | set q p b hc hr ih =>
    intro x hx hs H1 H2
    by_cases e:x.toList = ([42,42]:List UInt8)
    · exact stars x _ b (.set q p b hc hr) hx H1 e
    · obtain ⟨g1,g2,g3⟩:=at_byte x 0 91 q hx
      have he:Ev (fun k=>glob_end.f k x) ((x.size - p.length:Nat):Int):=by
        have he:=end_is x hs q hx
        unfold endR at he
        rw [hc] at he
        exact he
      refine go x 91 q hx e ?_
      have hx1:(x.extract (((x.size - p.length:Nat):Int).toNat) x.size).data.toList = p:=by
        obtain ⟨pre,ep⟩:=clo_suf q p hc
        have hl:x.size = (91 :: pre).length + p.length:=by rw [← size_list,hx,ep];simp;omega
        rw [Int.toNat_natCast,Lib.extract_to_end,hl,Nat.add_sub_cancel,hx,ep]
        exact List.drop_left
      have hsz:(x.extract (((x.size - p.length:Nat):Int).toNat) x.size).size ≤ 1000000:=by rw [ByteArray.size_extract];omega
      refine Ev.step (f:=fun k=>(glob_end.f k x).bind fun t105=>(if t105 < 0 then (some 3) else (if 0 ≤ t105 then (if t105 ≤ (x.size:Int) then (glob_Check.l1 k (x.extract (t105:Int).toNat x.size) l L n) else (none)) else (none)))) (fun k=>?_) (Ev.bind he (Ev.ifn (by omega) (Ev.ifp (by omega) (Ev.ifp (by omega) (ih _ hx1 hsz H1 H2)))))
      simp only [glob_Check.j3,if_true]
      rw [if_pos (by omega),if_pos (show bt x 0 = 91 from g2.trans rfl)]
theorem run_ends (l:List ByteArray) (hl:∀ x ∈ l,x.size ≤ 1000000):∃ v,rGF.run l = some v:=by
  induction l with
  | nil=>exact ⟨0,rfl⟩
  | cons x xs ih =>
    obtain ⟨v,hv⟩:=ih (fun y hy=>hl y (List.mem_cons_of_mem _ hy))
    unfold rGF.run
    by_cases h:x.toList = ([]:List UInt8)
    · rw [if_pos h];exact ⟨9,rfl⟩
    · rw [if_neg h]
      obtain ⟨b,hb⟩:=res_of _ x.data.toList (Nat.le_refl _)
      obtain ⟨t,ht⟩:=tok_res x (hl x (List.mem_cons_self ..)) b hb
      rw [ht]
      cases b with
      | true=>exact ⟨v,hv⟩
      | false=>exact ⟨3,rfl⟩
theorem prog_parts (L:List ByteArray) (hL:L.length ≤ 1000000) (hs:∀ x ∈ L,x.size ≤ 1000000) (d:Nat):∀ (n:Nat) (v:Int),L.length - n = d→n ≤ L.length→rGF.run (L.drop n) = some v→Ev (fun k=>glob_Check.l0 k L (L.length:Int) (n:Int)) v:=by
  induction d with
  | zero =>
    intro n v hd hn h
    have e:n = L.length:=by omega
    subst e
    rw [List.drop_length] at h
    obtain rfl:=Option.some.inj (show some 0 = some v from h)
    refine Ev.step (f:=fun _=>some 0) (fun k=>?_) (Ev.now _)
    simp only [glob_Check.l0]
    rw [if_neg (by omega)]
  | succ d ih =>
    intro n v hd hn h
    have hn':n < L.length:=by omega
    have w:wrap64 ((n:Int) + 1) = ((n + 1:Nat):Int):=by rw [wrap_is (by omega) (by omega)];omega
    rw [rGF.at_ L n hn'] at h
    have hm:rdOf ByteArray.empty L (n:Int) ∈ L:=by
      unfold rdOf
      rw [Int.toNat_natCast,List.getD_eq_getElem?_getD,List.getElem?_eq_getElem hn']
      exact List.getElem_mem hn'
    have hx:=hs _ hm
    unfold rGF.run at h
    by_cases c:(rdOf ByteArray.empty L (n:Int)).toList = ([]:List UInt8)
    · rw [if_pos c] at h
      obtain rfl:=Option.some.inj h
      refine Ev.step (f:=fun _=>some 9) (fun k=>?_) (Ev.now _)
      simp only [glob_Check.l0]
      rw [if_pos (by omega),if_pos (by omega),if_pos (by omega),if_pos c]
    · rw [if_neg c] at h
      obtain ⟨b,hb⟩:=res_of _ (rdOf ByteArray.empty L (n:Int)).data.toList (Nat.le_refl _)
      obtain ⟨t,ht⟩:=tok_res _ hx b hb
      rw [ht] at h
      have key:Ev (fun k=>glob_Check.l1 k (rdOf ByteArray.empty L (n:Int)) L (L.length:Int) (n:Int)) v:=by
        refine prog_res L _ _ v _ b hb _ rfl hx (fun e=>?_) (fun e=>?_)
        · subst e
          rw [w]
          exact ih (n + 1) v (by omega) (by omega) h
        · subst e
          exact (Option.some.inj (show some 3 = some v from h)).symm
      refine Ev.step (f:=fun k=>glob_Check.l1 k (rdOf ByteArray.empty L (n:Int)) L (L.length:Int) (n:Int)) (fun k=>?_) key
      simp only [glob_Check.l0]
      rw [if_pos (by omega),if_pos (by omega),if_pos (by omega),if_neg c]
theorem sp_mem (c:UInt8):∀ (l p:List UInt8),p ∈ sp c l→p.length ≤ l.length
  | [],p,h=>by
    have:p = []:=by simpa [sp] using h
    rw [this];simp
  | b :: l,p,h=>by
    have ih:=sp_mem c l
    unfold sp at h
    simp only [List.length_cons]
    split at h
    · rcases List.mem_cons.mp h with h|h
      · rw [h];simp
      · have:=ih p h;omega
    · split at h
      · rename_i q qs e
        rcases List.mem_cons.mp h with h|h
        · have:=ih q (by rw [e];exact List.mem_cons_self ..)
          rw [h];simp only [List.length_cons];omega
        · have:=ih p (by rw [e];exact List.mem_cons_of_mem _ h)
          omega
      · have:p = [b]:=by simpa using h
        rw [this];simp
theorem pp_mem (s x:ByteArray) (h:x ∈ pp s):x.size ≤ s.size:=by
  unfold pp at h
  obtain ⟨p,hp,rfl⟩:=List.mem_map.mp h
  have:=sp_mem 47 _ p hp
  rw [size_list] at this
  rw [mk_size]
  exact this
theorem glob_both (s:ByteArray) (_hs:s.size ≤ 140737488351232):∃ v,Ev (fun k=>glob_Check.f k s) v∧Ev (fun k=>rGF.f k s) v:=by
  unfold glob_Check.f rGF.f
  by_cases c1:s.size = 0
  · refine ⟨1,Ev.ifp (by omega) (Ev.step (f:=fun _=>some 1) (fun k=>?_) (Ev.now _)),Ev.ifp ((empty_size s).2 c1) (Ev.now _)⟩
    simp only [glob_Check.j0]
    rw [if_pos trivial]
  · have n1:¬ s.toList = ([]:List UInt8):=fun e=>c1 ((empty_size s).1 e)
    by_cases c2:400 < s.size
    · refine ⟨1,Ev.ifn (by omega) (Ev.step (f:=fun _=>some 1) (fun k=>?_) (Ev.now _)),Ev.ifn n1 (Ev.ifp c2 (Ev.now _))⟩
      simp only [glob_Check.j0]
      rw [if_pos (decide_eq_true (by omega))]
    · have hp:=pp_len s
      have hm:∀ x ∈ pp s,x.size ≤ 1000000:=fun x hx=>by have:=pp_mem s x hx;omega
      obtain ⟨v,hv⟩:=run_ends (pp s) hm
      have h1:=prog_parts (pp s) (by omega) hm (pp s).length 0 v (by omega) (by omega) (by rw [List.drop_zero];exact hv)
      refine ⟨v,Ev.ifn (by omega) (Ev.step (f:=fun k=>glob_Check.l0 k (pp s) ((pp s).length:Int) 0) (fun k=>?_) h1),Ev.ifn n1 (Ev.ifn c2 (Ev.bind (show Ev (fun k=>creelref_parts.f k s 47) (pp s) from ⟨s.size + 1,fun k hk=>parts_is s k (by omega) (by omega)⟩) (Ev.ifp (by omega) (Ev.const hv))))⟩
      simp only [glob_Check.j0]
      rw [if_neg (by rw [decide_eq_true_eq];omega),split_is s (by omega)]
      rfl
end Go.Proofs.YtcbbcnmifohibaaDoor.Q
end
section
namespace Go.Proofs.YtcbbcnmifohibaaDoor.Q
set_option linter.unusedVariables false
set_option linter.unusedSimpArgs false
open Go.RowKit Go.Proofs.YtcbbcnmifohibaaDoor.All Go.Proofs.YtcbbcnmifohibaaDoorW.PrintWords Go.Proofs.YtcbbcnmifohibaaDoorW.PrintLast Go.Proofs.YtcbbcnmifohibaaDoorW.PrintMore Go.Proofs.YtcbbcnmifohibaaDoorW.PureBase
def nextT (s:Bool) (f:Nat→Bool) (r:Nat→Bool):Nat→Bool
  | 0=>r 0 && s
  | k + 1=>if s = true then r (k + 1) || nextT s f r k else r k && f k
def rowT (S:Nat→Bool) (F:Nat→Nat→Bool):Nat→Nat→Bool
  | 0=>fun k=>k == 0
  | i + 1=>nextT (S i) (F i) (rowT S F i)
def RmJ (n m:Nat) (S:Nat→Bool) (F:Nat→Nat→Bool):Nat→Nat→Prop
  | 0,k=>k = m
  | j + 1,k=>if S (n - (j + 1)) = true then ∃ k',k ≤ k'∧k' ≤ m∧RmJ n m S F j k' else k < m∧F (n - (j + 1)) k = true∧RmJ n m S F j (k + 1)
def Rm (n m:Nat) (S:Nat→Bool) (F:Nat→Nat→Bool) (i k:Nat):Prop:=RmJ n m S F (n - i) k
section Wild
variable (n m:Nat) (S:Nat→Bool) (F:Nat→Nat→Bool)
theorem Rm_end (k:Nat):Rm n m S F n k ↔ k = m:=by unfold Rm;rw [Nat.sub_self];exact Iff.rfl
theorem RmJ_succ (j k:Nat):RmJ n m S F (j + 1) k ↔ if S (n - (j + 1)) = true then ∃ k',k ≤ k'∧k' ≤ m∧RmJ n m S F j k' else k < m∧F (n - (j + 1)) k = true∧RmJ n m S F j (k + 1):=Iff.rfl
theorem Rm_star (i k:Nat) (hi:i < n) (hs:S i = true):Rm n m S F i k ↔ ∃ k',k ≤ k'∧k' ≤ m∧Rm n m S F (i + 1) k':=by
  unfold Rm
  rw [show n - i = (n - (i + 1)) + 1 by omega,RmJ_succ,show n - (n - (i + 1) + 1) = i by omega,if_pos hs]
theorem Rm_fits (i k:Nat) (hi:i < n) (hs:S i = false):Rm n m S F i k ↔ k < m∧F i k = true∧Rm n m S F (i + 1) (k + 1):=by
  unfold Rm
  rw [show n - i = (n - (i + 1)) + 1 by omega,RmJ_succ,show n - (n - (i + 1) + 1) = i by omega,if_neg (by rw [hs];decide)]
theorem next_star (f r:Nat→Bool):∀ k,nextT true f r k = true ↔ ∃ j,j ≤ k∧r j = true
  | 0=>by
    show (r 0 && true) = true ↔ _
    rw [Bool.and_true]
    constructor
    · intro h;exact ⟨0,Nat.le_refl _,h⟩
    · rintro ⟨j,h1,h2⟩
      obtain rfl:j = 0:=by omega
      exact h2
  | k + 1=>by
    show (if true = true then r (k + 1) || nextT true f r k else r k && f k) = true ↔ _
    rw [if_pos rfl,Bool.or_eq_true,next_star f r k]
    constructor
    · rintro (h|⟨j,h1,h2⟩)
      · exact ⟨k + 1,Nat.le_refl _,h⟩
      · exact ⟨j,by omega,h2⟩
    · rintro ⟨j,h1,h2⟩
      by_cases e:j = k + 1
      · left;rw [← e];exact h2
      · right;exact ⟨j,by omega,h2⟩
theorem mid:∀ i,i ≤ n→(Rm n m S F 0 0 ↔ ∃ k,k ≤ m∧rowT S F i k = true∧Rm n m S F i k)
  | 0,_=>by
    constructor
    · intro h;exact ⟨0,Nat.zero_le _,rfl,h⟩
    · rintro ⟨k,_,h1,h2⟩
      have:k = 0:=by simpa [rowT] using h1
      rw [this] at h2;exact h2
  | i + 1,hi=>by
    rw [mid i (by omega)]
    cases hs:S i with
    | true =>
      constructor
      · rintro ⟨k,h0,h1,h2⟩
        obtain ⟨k',a,b,c⟩:=(Rm_star n m S F i k (by omega) hs).1 h2
        refine ⟨k',b,?_,c⟩
        show nextT (S i) (F i) (rowT S F i) k' = true
        rw [hs];exact (next_star _ _ _).2 ⟨k,a,h1⟩
      · rintro ⟨k,h0,h1,h2⟩
        have h1':nextT (S i) (F i) (rowT S F i) k = true:=h1
        rw [hs] at h1'
        obtain ⟨j,a,b⟩:=(next_star _ _ _).1 h1'
        exact ⟨j,by omega,b,(Rm_star n m S F i j (by omega) hs).2 ⟨k,a,h0,h2⟩⟩
    | false =>
      constructor
      · rintro ⟨k,h0,h1,h2⟩
        obtain ⟨a,b,c⟩:=(Rm_fits n m S F i k (by omega) hs).1 h2
        refine ⟨k + 1,by omega,?_,c⟩
        show nextT (S i) (F i) (rowT S F i) (k + 1) = true
        rw [hs]
        show (if false = true then _ else rowT S F i k && F i k) = true
        rw [if_neg (by decide),h1,b];rfl
      · rintro ⟨k,h0,h1,h2⟩
        have h1':nextT (S i) (F i) (rowT S F i) k = true:=h1
        rw [hs] at h1'
        cases k with
        | zero =>
          have:(rowT S F i 0 && false) = true:=h1'
          rw [Bool.and_false] at this;cases this
        | succ k =>
          have:(if false = true then (rowT S F i (k + 1) || nextT false (F i) (rowT S F i) k) else rowT S F i k && F i k) = true:=h1'
          rw [if_neg (by decide),Bool.and_eq_true] at this
          exact ⟨k,by omega,this.1,(Rm_fits n m S F i k (by omega) hs).2 ⟨by omega,this.2,h2⟩⟩
theorem row_is:rowT S F n m = true ↔ Rm n m S F 0 0:=by
  rw [mid n m S F n (Nat.le_refl _)]
  constructor
  · intro h;exact ⟨m,Nat.le_refl _,h,(Rm_end n m S F m).2 rfl⟩
  · rintro ⟨k,_,h1,h2⟩
    have:=(Rm_end n m S F k).1 h2
    rw [this] at h1;exact h1
theorem Rm_le (i k:Nat) (hi:i ≤ n) (h:Rm n m S F i k):k ≤ m:=by
  by_cases e:i = n
  · subst e;have:=(Rm_end i m S F k).1 h;omega
  · cases hs:S i with
    | true=>obtain ⟨k',a,b,_⟩:=(Rm_star n m S F i k (by omega) hs).1 h;omega
    | false=>have:=((Rm_fits n m S F i k (by omega) hs).1 h).1;omega
theorem Rm_all (j:Nat):∀ i,n - i = j→i ≤ n→(Rm n m S F i m ↔ ∀ t,i ≤ t→t < n→S t = true):=by
  induction j with
  | zero =>
    intro i e hi
    have ei:i = n:=by omega
    rw [ei,Rm_end]
    exact ⟨fun _ t a b=>by omega,fun _=>rfl⟩
  | succ j ih =>
    intro i e hi
    cases hs:S i with
    | true =>
      rw [Rm_star n m S F i m (by omega) hs]
      constructor
      · rintro ⟨k',a,b,c⟩ t h1 h2
        have ek:k' = m:=by omega
        rw [ek] at c
        by_cases et:t = i
        · rw [et];exact hs
        · exact (ih (i + 1) (by omega) (by omega)).1 c t (by omega) h2
      · intro h
        exact ⟨m,Nat.le_refl _,Nat.le_refl _,(ih (i + 1) (by omega) (by omega)).2 fun t h1 h2=>h t (by omega) h2⟩
    | false =>
      rw [Rm_fits n m S F i m (by omega) hs]
      constructor
      · rintro ⟨a,_⟩;omega
      · intro h;have:=h i (Nat.le_refl _) (by omega);rw [hs] at this;cases this
theorem Rm_path (a k:Nat):∀ d,a + d ≤ n→(∀ t,a ≤ t→t < a + d→S t = false)→Rm n m S F a k→Rm n m S F (a + d) (k + d)
  | 0,_,_,h=>h
  | d + 1,hn,hs,h=>by
    have h1:=Rm_path a k d (by omega) (fun t x y=>hs t x (by omega)) h
    exact ((Rm_fits n m S F (a + d) (k + d) (by omega) (hs _ (by omega) (by omega))).1 h1).2.2
end Wild
section WildRun
variable (n m:Nat) (S:Nat→Bool) (F:Nat→Nat→Bool) (S':Int→Option Bool) (F':Int→Int→Option Bool)
variable (hn:n ≤ 1000000000) (hm:m ≤ 1000000000) (hS:∀ i:Nat,i < n→S' (i:Int) = some (S i)) (hF:∀ i k:Nat,i < n→k < m→S i = false→F' (i:Int) (k:Int) = some (F i k))
include hn hS in
theorem we_run:∀ (q i:Nat),i ≤ n→n - i < q→∃ b,glob_parts.WE (n:Int) S' q (i:Int) = some b∧(b = true ↔ ∀ t,i ≤ t→t < n→S t = true)
  | 0,i,_,h=>by omega
  | q + 1,i,hi,h=>by
    have w:wrap64 ((i:Int) + 1) = ((i + 1:Nat):Int):=by rw [wrap_is (by omega) (by omega)];omega
    simp only [glob_parts.WE]
    by_cases e:i < n
    · rw [if_pos (by omega),hS i e]
      simp only [Option.bind_some]
      cases hs:S i with
      | true =>
        rw [if_pos rfl,w]
        obtain ⟨b,h1,h2⟩:=we_run q (i + 1) (by omega) (by omega)
        refine ⟨b,h1,h2.trans ⟨fun h t a c=>?_,fun h t a c=>h t (by omega) c⟩⟩
        by_cases et:t = i
        · rw [et];exact hs
        · exact h t (by omega) c
      | false =>
        rw [if_neg (by decide)]
        refine ⟨_,rfl,?_⟩
        constructor
        · intro h;have:=of_decide_eq_true (show decide ((i:Int) = (n:Int)) = true from h);omega
        · intro h;have:=h i (Nat.le_refl _) e;rw [hs] at this;cases this
    · rw [if_neg (by omega)]
      simp only [Option.bind_some]
      rw [if_neg (by decide)]
      obtain rfl:i = n:=by omega
      refine ⟨_,rfl,⟨fun _ t a b=>by omega,fun _=>by simp⟩⟩
def WJ (last:Int) (fr i k:Nat):Prop :=
  (last = -1∧Aside0 (Rm n m S F 0 0 ↔ Rm n m S F i k)) ∨ ∃ L:Nat,last = (L:Int)∧L < i∧k = fr + (i - (L + 1))∧Aside0 (∀ t,L < t→t < i→S t = false)∧Aside0 (Rm n m S F 0 0 ↔ ∃ k',fr ≤ k'∧k' ≤ m∧Rm n m S F (L + 1) k')∧Aside0 (Rm n m S F (L + 1) fr ↔ Rm n m S F i k)
include hn hm hS hF in
theorem wl_run:∀ (q i fr k:Nat) (last:Int),i ≤ n→k ≤ m→fr ≤ k→WJ n m S F last fr i k→(m - fr) * (n + 2) + (n - i) + n + 2 < q→∃ b,glob_parts.WL (n:Int) (m:Int) S' F' q (i:Int) last (fr:Int) (k:Int) = some b∧(b = true ↔ Rm n m S F 0 0)
  | 0,_,_,_,_,_,_,_,_,h=>by omega
  | q + 1,i,fr,k,last,hi,hk,hf,J,h=>by
    have w1:wrap64 ((i:Int) + 1) = ((i + 1:Nat):Int):=by rw [wrap_is (by omega) (by omega)];omega
    have w2:wrap64 ((k:Int) + 1) = ((k + 1:Nat):Int):=by rw [wrap_is (by omega) (by omega)];omega
    have w3:wrap64 ((fr:Int) + 1) = ((fr + 1:Nat):Int):=by rw [wrap_is (by omega) (by omega)];omega
    simp only [glob_parts.WL]
    by_cases hkm:k < m
    · rw [if_pos (by clear w1 w2 w3;omega)]
      have back:¬ Rm n m S F i k→∃ b,(if 0 ≤ last then glob_parts.WL (n:Int) (m:Int) S' F' q (wrap64 (last + 1)) last (wrap64 ((fr:Int) + 1)) (wrap64 ((fr:Int) + 1)) else some false) = some b∧(b = true ↔ Rm n m S F 0 0):=by
        intro hno
        rcases J with ⟨e,J⟩|⟨L,e,h1,h2,h3,h4,h5⟩
        · rw [if_neg (by rw [e];decide)]
          exact ⟨_,rfl,⟨fun h=>(by cases h),fun h=>absurd (J.out.1 h) hno⟩⟩
        · have w4:wrap64 ((L:Int) + 1) = ((L + 1:Nat):Int):=by clear w1 w2 w3;rw [wrap_is (by omega) (by omega)];omega
          rw [if_pos (by rw [e];exact Int.natCast_nonneg L),e,w4,w3]
          clear w1 w2 w3 w4
          have hmul:(m - fr) * (n + 2) = (m - (fr + 1)) * (n + 2) + (n + 2):=by
            rw [show m - fr = (m - (fr + 1)) + 1 by omega,Nat.add_mul,Nat.one_mul]
          refine wl_run q (L + 1) (fr + 1) (fr + 1) (L:Int) (by omega) (by omega) (Nat.le_refl _) (Or.inr ⟨L,rfl,by omega,by omega,⟨fun t a b=>by omega⟩,⟨?_⟩,⟨Iff.rfl⟩⟩) (by rw [hmul] at h;omega)
          rw [h4.out]
          constructor
          · rintro ⟨k',a,b,c⟩
            by_cases ek:k' = fr
            · subst ek;exact absurd (h5.out.1 c) hno
            · exact ⟨k',by omega,b,c⟩
          · rintro ⟨k',a,b,c⟩;exact ⟨k',by omega,b,c⟩
      by_cases e:i < n
      · rw [if_pos (by clear w1 w2 w3;omega),if_pos (by clear w1 w2 w3;omega),hS i e]
        simp only [Option.bind_some]
        cases hs:S i with
        | true =>
          rw [if_pos rfl,w1]
          clear w1 w2 w3
          have hmul:(m - k) * (n + 2) ≤ (m - fr) * (n + 2):=Nat.mul_le_mul_right _ (by omega)
          refine wl_run q (i + 1) k k (i:Int) (by omega) hk (Nat.le_refl _) (Or.inr ⟨i,rfl,by omega,by omega,⟨fun t a b=>by omega⟩,⟨?_⟩,⟨Iff.rfl⟩⟩) (by omega)
          have st:=Rm_star n m S F i k e hs
          rcases J with ⟨_,J⟩|⟨L,_,h1,h2,h3,h4,h5⟩
          · exact J.out.trans st
          · constructor
            · intro hr
              obtain ⟨k',a,b,c⟩:=h4.out.1 hr
              have p:=Rm_path n m S F (L + 1) k' (i - (L + 1)) (by omega) (fun t x y=>h3.out t (by omega) (by omega)) c
              rw [show L + 1 + (i - (L + 1)) = i by omega] at p
              obtain ⟨k2,a2,b2,c2⟩:=(Rm_star n m S F i _ e hs).1 p
              exact ⟨k2,by omega,b2,c2⟩
            · intro hr
              exact h4.out.2 ⟨fr,Nat.le_refl _,by omega,h5.out.2 (st.2 hr)⟩
        | false =>
          rw [if_neg (by decide),hF i k e hkm hs]
          simp only [Option.bind_some]
          have ft:=Rm_fits n m S F i k e hs
          cases hb:F i k with
          | true =>
            rw [if_pos rfl,w1,w2]
            clear w1 w2 w3
            refine wl_run q (i + 1) fr (k + 1) last (by omega) (by omega) (by omega) ?_ (by omega)
            have ft2:Rm n m S F i k ↔ Rm n m S F (i + 1) (k + 1):=ft.trans ⟨fun x=>x.2.2,fun x=>⟨hkm,hb,x⟩⟩
            rcases J with ⟨e,J⟩|⟨L,e,h1,h2,h3,h4,h5⟩
            · exact Or.inl ⟨e,⟨J.out.trans ft2⟩⟩
            · refine Or.inr ⟨L,e,by omega,by omega,⟨fun t a b=>?_⟩,h4,⟨h5.out.trans ft2⟩⟩
              by_cases et:t = i
              · rw [et];exact hs
              · exact h3.out t a (by omega)
          | false =>
            rw [if_neg (by decide)]
            exact back fun x=>by have:=(ft.1 x).2.1;rw [hb] at this;cases this
      · rw [if_neg (by clear w1 w2 w3;omega),if_neg (by clear w1 w2 w3;omega)]
        simp only [Option.bind_some]
        rw [if_neg (by decide),if_neg (by decide)]
        obtain rfl:i = n:=by omega
        exact back fun x=>by have:=(Rm_end i m S F k).1 x;omega
    · rw [if_neg (by clear w1 w2 w3;omega)]
      clear w1 w2 w3
      obtain rfl:k = m:=by omega
      obtain ⟨b,h1,h2⟩:=we_run n S S' hn hS q i hi (by omega)
      refine ⟨b,h1,h2.trans ?_⟩
      rw [← Rm_all n k S F (n - i) i rfl hi]
      rcases J with ⟨_,J⟩|⟨L,_,g1,g2,g3,g4,g5⟩
      · exact J.out.symm
      · constructor
        · intro x;exact g4.out.2 ⟨fr,Nat.le_refl _,by omega,g5.out.2 x⟩
        · intro x
          obtain ⟨k',a,b2,c⟩:=g4.out.1 x
          have p:=Rm_path n k S F (L + 1) k' (i - (L + 1)) (by omega) (fun t x y=>g3.out t (by omega) (by omega)) c
          rw [show L + 1 + (i - (L + 1)) = i by omega] at p
          have:=Rm_le n k S F i _ hi p
          rw [show k' + (i - (L + 1)) = k by omega] at p
          exact p
include hn hm hS hF in
theorem wild_run (q:Nat) (h:m * (n + 2) + n + n + 2 < q):glob_parts.WL (n:Int) (m:Int) S' F' q 0 (-1) 0 0 = some (rowT S F n m):=by
  obtain ⟨b,h1,h2⟩:=wl_run n m S F S' F' hn hm hS hF q 0 0 0 (-1) (Nat.zero_le _) (Nat.zero_le _) (Nat.le_refl _) (Or.inl ⟨rfl,⟨Iff.rfl⟩⟩) (by simpa using h)
  refine h1.trans (congrArg some ?_)
  rw [Bool.eq_iff_iff,h2,row_is]
end WildRun
end Go.Proofs.YtcbbcnmifohibaaDoor.Q
end
section
namespace Go.Proofs.YtcbbcnmifohibaaDoor.Q
set_option linter.unusedVariables false
set_option linter.unusedSimpArgs false
open Go.RowKit Go.Proofs.YtcbbcnmifohibaaDoor.All Go.Proofs.YtcbbcnmifohibaaDoorW.PrintWords Go.Proofs.YtcbbcnmifohibaaDoorW.PrintLast Go.Proofs.YtcbbcnmifohibaaDoorW.PrintMore Go.Proofs.YtcbbcnmifohibaaDoorW.PureBase
def memB (c:UInt8):List UInt8→Bool
  | []=>false
  | [a]=>decide (a = c)
  | [a,b]=>decide (a = c) || memB c [b]
  | a :: d :: b :: r=>if d = 45 then (decide (a.toNat ≤ c.toNat) && decide (c.toNat ≤ b.toNat)) || memB c r else decide (a = c) || memB c (d :: b :: r)
theorem memB_one (c a:UInt8):memB c [a] = (decide (a = c) || memB c []):=by unfold memB;rw [Bool.or_false]
theorem memB_two (c a b:UInt8):memB c [a,b] = (decide (a = c) || memB c [b]):=rfl
theorem memB_rng (c a b:UInt8) (r:List UInt8):memB c (a :: 45 :: b :: r) = ((decide (a.toNat ≤ c.toNat) && decide (c.toNat ≤ b.toNat)) || memB c r):=by
  show (if (45:UInt8) = 45 then _ else _) = _
  rw [if_pos rfl]
theorem memB_far (c a d b:UInt8) (r:List UInt8) (h:d ≠ 45):memB c (a :: d :: b :: r) = (decide (a = c) || memB c (d :: b :: r)):=by
  show (if d = 45 then _ else _) = _
  rw [if_neg h]
inductive Stp:List UInt8→UInt8→UInt8→List UInt8→Prop
  | rng (a b:UInt8) (r:List UInt8):Stp (a :: 45 :: b :: r) a b r
  | one (a:UInt8) (r:List UInt8) (h:∀ b r',r ≠ 45 :: b :: r'):Stp (a :: r) a a r
theorem stp_of (a:UInt8) (r:List UInt8):∃ b r',Stp (a :: r) a b r':=by
  by_cases h:∃ b r',r = 45 :: b :: r'
  · obtain ⟨b,r',rfl⟩:=h
    exact ⟨b,r',.rng a b r'⟩
  · exact ⟨a,r,.one a r (fun b r' e=>h ⟨b,r',e⟩)⟩
theorem u8_eq (a c:UInt8):a = c ↔ a.toNat ≤ c.toNat∧c.toNat ≤ a.toNat:=⟨fun h=>by rw [h];exact ⟨Nat.le_refl _,Nat.le_refl _⟩,fun h=>UInt8.toNat_inj.mp (by omega)⟩
theorem memB_stp (c:UInt8) {l:List UInt8} {a b:UInt8} {r:List UInt8} (h:Stp l a b r):memB c l = ((decide (a.toNat ≤ c.toNat) && decide (c.toNat ≤ b.toNat)) || memB c r):=by
  cases h with
  | rng=>exact memB_rng c a b r
  | one _ _ h =>
    have e:(decide (a.toNat ≤ c.toNat) && decide (c.toNat ≤ a.toNat)) = decide (a = c):=by
      rw [Bool.eq_iff_iff,Bool.and_eq_true,decide_eq_true_eq,decide_eq_true_eq,decide_eq_true_eq]
      exact (u8_eq a c).symm
    rw [e]
    cases r with
    | nil=>exact memB_one c a
    | cons d r =>
      cases r with
      | nil=>exact memB_two c a d
      | cons b r =>
        by_cases hd:d = 45
        · subst hd;exact absurd rfl (h b r)
        · exact memB_far c a d b r hd
theorem stp_len {l:List UInt8} {a b:UInt8} {r:List UInt8} (h:Stp l a b r):r.length < l.length∧∃ p,l = p ++ r∧p.head? = some a:=by
  cases h with
  | rng=>exact ⟨by simp;omega,[a,45,b],rfl,rfl⟩
  | one=>exact ⟨by simp,[a],rfl,rfl⟩
theorem ran_get:∀ (n:Nat) (x:List Bool) (c j:Nat),c + n < x.length→(rGF.ran n x c).getD j false = (decide (c + 1 ≤ j∧j ≤ c + n) || x.getD j false)
  | 0,x,c,j,_=>by
    rw [rGF.ran_zero,decide_eq_false (by omega),Bool.false_or]
  | n + 1,x,c,j,h=>by
    rw [rGF.ran_succ,ran_get n (x.set (c + 1) true) (c + 1) j (by rw [List.length_set];omega)]
    by_cases e:j = c + 1
    · subst e
      rw [List.getD_eq_getElem?_getD,List.getElem?_set_self (by omega),decide_eq_true (p:=c + 1 ≤ c + 1∧c + 1 ≤ c + (n + 1)) (by omega)]
      simp
    · rw [List.getD_eq_getElem?_getD,List.getElem?_set_ne (by omega),← List.getD_eq_getElem?_getD]
      congr 1
      exact decide_eq_decide.mpr (by omega)
theorem flip_get:∀ (n:Nat) (x:List Bool) (c j:Nat),c + n < x.length→(rGF.flip n x c).getD j false = (if c + 1 ≤ j∧j ≤ c + n then !(x.getD j false) else x.getD j false)
  | 0,x,c,j,_=>by
    rw [rGF.flip_zero,if_neg (by omega)]
  | n + 1,x,c,j,h=>by
    rw [rGF.flip_succ,flip_get n _ (c + 1) j (by rw [List.length_set];omega)]
    by_cases e:j = c + 1
    · subst e
      rw [if_neg (by omega),if_pos (by omega),List.getD_eq_getElem?_getD,List.getElem?_set_self (by omega)]
      rfl
    · rw [List.getD_eq_getElem?_getD,List.getElem?_set_ne (by omega),← List.getD_eq_getElem?_getD]
      by_cases e2:c + 1 + 1 ≤ j∧j ≤ c + 1 + n
      · rw [if_pos e2,if_pos (by omega)]
      · rw [if_neg e2,if_neg (by omega)]
def gx (x:List Bool) (c:UInt8):Bool:=x.getD (c.toNat + 1) false
theorem stp_two (s:ByteArray) (hs:s.size ≤ 1000000) (k:Nat) (l q:List UInt8) (a b:UInt8) (r:List UInt8) (h:Stp l a b r) (ht:(93:UInt8) ∉ l.tail) (hd:s.data.toList.drop k = l ++ 93 :: q) :
    bt s (k:Int) = (a.toNat:Int)∧rGF.hgh s (k:Int) = (b.toNat:Int)∧rGF.nx s (k:Int) = ((k + (l.length - r.length):Nat):Int)∧k < s.size:=by
  have w1:∀ j:Nat,j ≤ 2000000→wrap64 ((j:Int) + 1) = ((j + 1:Nat):Int):=fun j hj=>by rw [wrap_is (by omega) (by omega)];omega
  have w2:∀ j:Nat,j ≤ 2000000→wrap64 ((j:Int) + 2) = ((j + 2:Nat):Int):=fun j hj=>by rw [wrap_is (by omega) (by omega)];omega
  cases h with
  | rng =>
    obtain ⟨h1,h2,h3⟩:=at_byte s k a (45 :: b :: (r ++ 93 :: q)) hd
    obtain ⟨g1,g2,g3⟩:=at_byte s (k + 1) 45 _ h3
    obtain ⟨f1,f2,f3⟩:=at_byte s (k + 1 + 1) b _ g3
    have hb:b ≠ 93:=fun e=>ht (by rw [e];simp)
    have ht2:rGF.two s (k:Int) = true:=by
      unfold rGF.two
      rw [w1 k (by omega),w2 k (by omega),Bool.and_eq_true,Bool.and_eq_true,decide_eq_true_eq,beq_iff_eq,bne_iff_ne]
      exact ⟨by omega,g2,by rw [show k + 2 = k + 1 + 1 from rfl,f2];exact u8_ne b 93 hb⟩
    refine ⟨h2,?_,?_,h1⟩
    · unfold rGF.hgh;rw [ht2,if_pos rfl,w2 k (by omega)];exact f2
    · unfold rGF.nx;rw [ht2,if_pos rfl,w2 k (by omega),w1 (k + 2) (by omega)]
      simp only [List.length_cons];congr 1;omega
  | one _ _ hn =>
    obtain ⟨h1,h2,h3⟩:=at_byte s k a (r ++ 93 :: q) hd
    have ht2:rGF.two s (k:Int) = false:=by
      cases e:rGF.two s (k:Int) with
      | false=>rfl
      | true =>
        exfalso
        unfold rGF.two at e
        rw [w1 k (by omega),w2 k (by omega),Bool.and_eq_true,Bool.and_eq_true,decide_eq_true_eq,beq_iff_eq,bne_iff_ne] at e
        obtain ⟨e1,e2,e3⟩:=e
        cases r with
        | nil =>
          obtain ⟨g1,g2,g3⟩:=at_byte s (k + 1) 93 _ h3
          rw [g2] at e2;exact absurd e2 (by decide)
        | cons d r =>
          obtain ⟨g1,g2,g3⟩:=at_byte s (k + 1) d _ h3
          have hd45:d = 45:=UInt8.toNat_inj.mp (by rw [g2] at e2;have:((45:UInt8).toNat:Int) = 45:=rfl;omega)
          subst hd45
          cases r with
          | nil =>
            obtain ⟨f1,f2,f3⟩:=at_byte s (k + 1 + 1) 93 _ g3
            exact e3 f2
          | cons b r=>exact hn b r rfl
    refine ⟨h2,?_,?_,h1⟩
    · unfold rGF.hgh;rw [ht2,if_neg (by decide)];exact h2
    · unfold rGF.nx;rw [ht2,if_neg (by decide),w1 k (by omega)]
      simp only [List.length_cons];congr 1;omega
theorem tail_suf {p r:List UInt8} {a:UInt8} (hp:p.head? = some a) (h:(93:UInt8) ∉ (p ++ r).tail):(93:UInt8) ∉ r:=by
  cases p with
  | nil=>cases hp
  | cons b p=>exact fun hm=>h (by simp [hm])
theorem l1_mem (s:ByteArray) (hs:s.size ≤ 1000000) (fr:Nat) (q:List UInt8) (d:Nat):∀ (l:List UInt8) (m k:Nat) (x:List Bool),l.length ≤ d→d < m→x.length = 257→(l = []→k ≠ fr)→(93:UInt8) ∉ l.tail→(k ≠ fr→(93:UInt8) ∉ l)→s.data.toList.drop k = l ++ 93 :: q→fr ≤ k →
    ∃ x',rGF.l1 m s (fr:Int) x (k:Int) = some (x',((k + l.length:Nat):Int))∧x'.length = 257∧x'.getD 0 false = x.getD 0 false∧∀ c:UInt8,gx x' c = (memB c l || gx x c):=by
  induction d with
  | zero =>
    intro l m k x hl hm hx h0 _ _ hd _
    obtain rfl:l = []:=List.length_eq_zero_iff.mp (by omega)
    obtain ⟨m,rfl⟩:∃ n,m = n + 1:=⟨m - 1,by omega⟩
    obtain ⟨h1,h2,h3⟩:=at_byte s k 93 q hd
    refine ⟨x,?_,hx,rfl,fun c=>rfl⟩
    simp only [rGF.l1]
    rw [if_pos (by omega),if_neg (fun h=>h.elim (fun e=>h0 rfl (by omega)) (fun e=>e (by rw [h2];rfl)))]
    rfl
  | succ d ih =>
    intro l m k x hl hm hx h0 ht hk hd hf
    obtain ⟨m,rfl⟩:∃ n,m = n + 1:=⟨m - 1,by omega⟩
    cases l with
    | nil =>
      obtain ⟨h1,h2,h3⟩:=at_byte s k 93 q hd
      refine ⟨x,?_,hx,rfl,fun c=>rfl⟩
      simp only [rGF.l1]
      rw [if_pos (by omega),if_neg (fun h=>h.elim (fun e=>h0 rfl (by omega)) (fun e=>e (by rw [h2];rfl)))]
      rfl
    | cons a l =>
      obtain ⟨b,r,hs1⟩:=stp_of a l
      obtain ⟨e1,e2,e3,e4⟩:=stp_two s hs k (a :: l) q a b r hs1 ht hd
      have E1:=Aside0.mk e1
      have E2:=Aside0.mk e2
      have E3:=Aside0.mk e3
      clear e1 e2 e3
      obtain ⟨g1,p,g2,g3⟩:=stp_len hs1
      have g4:(a :: l).length = p.length + r.length:=by rw [g2,List.length_append]
      have hr:(93:UInt8) ∉ r:=tail_suf g3 (by rw [← g2];exact ht)
      have hdr:s.data.toList.drop (k + ((a :: l).length - r.length)) = r ++ 93 :: q:=by
        rw [← List.drop_drop,hd,g2,List.append_assoc,List.length_append,Nat.add_sub_cancel,List.drop_left]
      have hka:a.toNat < 256:=a.toNat_lt
      have hkb:b.toNat < 256:=b.toNat_lt
      obtain ⟨x',f1,f2,f3,f4⟩:=ih r m (k + ((a :: l).length - r.length)) (rGF.ran (b.toNat + 1 - a.toNat) x a.toNat) (by simp only [List.length_cons] at hl g1;omega) (by omega) (by rw [rGF.ran_len];exact hx) (fun _=>by simp only [List.length_cons] at g1 ⊢;omega) (fun hm=>hr (List.mem_of_mem_tail hm)) (fun _=>hr) hdr (by omega)
      refine ⟨x',?_,f2,?_,?_⟩
      · simp only [rGF.l1]
        rw [if_pos (by omega),if_pos]
        · rw [E2.out,E1.out,E3.out,Int.toNat_natCast,Int.toNat_natCast,f1]
          congr 2
          simp only [List.length_cons] at g1 ⊢
          omega
        · by_cases ek:k = fr
          · left;omega
          · right;rw [E1.out];exact u8_ne a 93 (fun e=>hk ek (by rw [e];simp))
      · rw [f3,ran_get _ _ _ _ (by omega),decide_eq_false (by omega),Bool.false_or]
      · intro c
        rw [f4 c,memB_stp c hs1]
        unfold gx
        rw [ran_get _ _ _ _ (by omega)]
        have hd2:decide (a.toNat + 1 ≤ c.toNat + 1∧c.toNat + 1 ≤ a.toNat + (b.toNat + 1 - a.toNat)) = (decide (a.toNat ≤ c.toNat) && decide (c.toNat ≤ b.toNat)):=by
          rw [Bool.eq_iff_iff,Bool.and_eq_true,decide_eq_true_eq,decide_eq_true_eq,decide_eq_true_eq]
          omega
        rw [hd2]
        cases (decide (a.toNat ≤ c.toNat) && decide (c.toNat ≤ b.toNat)) <;> cases memB c r <;> simp
inductive Pc:List UInt8→(UInt8→Bool)→Prop
  | any:Pc [63] (fun _=>true)
  | one (b:UInt8) (h1:b ≠ 63) (h2:b ≠ 91):Pc [b] (fun c=>decide (b = c))
  | set (p B:List UInt8) (no:Bool) (h:skp p = B ++ [93]) (hB:B ≠ []) (h93:(93:UInt8) ∉ B.tail) (hno:no = decide (p.head? = some 33)):Pc (91 :: p) (fun c=>memB c B != no)
inductive Pcs:List UInt8→List (List UInt8)→List (UInt8→Bool)→Prop
  | nil:Pcs [] [] []
  | sign (c:UInt8) (r:List UInt8) (l:List (List UInt8)) (f:UInt8→Bool) (fs:List (UInt8→Bool)) (hc:c ≠ 91) (hf:Pc [c] f) (hr:Pcs r l fs):Pcs (c :: r) ([c] :: l) (f :: fs)
  | set (p q:List UInt8) (l:List (List UInt8)) (f:UInt8→Bool) (fs:List (UInt8→Bool)) (hcl:clo (p ++ q) = some q) (hf:Pc (91 :: p) f) (hr:Pcs q l fs):Pcs (91 :: (p ++ q)) ((91 :: p) :: l) (f :: fs)
theorem aft_cut:∀ (l q:List UInt8),aft l = some q→∃ B,l = B ++ 93 :: q∧(93:UInt8) ∉ B
  | [],q,h=>by cases h
  | c :: l,q,h=>by
    rw [aft_cons] at h
    by_cases hc:c = 93
    · subst hc
      rw [if_pos rfl] at h
      cases h
      exact ⟨[],rfl,by simp⟩
    · rw [if_neg hc] at h
      obtain ⟨B,e,hB⟩:=aft_cut l q h
      refine ⟨c :: B,by rw [e];rfl,fun hm=>?_⟩
      rcases List.mem_cons.mp hm with h1|h1
      · exact hc h1.symm
      · exact hB h1
theorem clo_cut (r q:List UInt8) (h:clo r = some q):∃ p B,r = p ++ q∧skp p = B ++ [93]∧B ≠ []∧(93:UInt8) ∉ B.tail∧∀ x,skp (p ++ x) = skp p ++ x:=by
  have h0:=h
  unfold clo at h
  have key:∀ (b:UInt8) (t:List UInt8),aft t = some q→∃ B,b :: t = B ++ [93] ++ q∧B ≠ []∧(93:UInt8) ∉ B.tail:=by
    intro b t ht
    obtain ⟨B,e,hB⟩:=aft_cut t q ht
    exact ⟨b :: B,by rw [e];simp,by simp,hB⟩
  cases r with
  | nil=>cases h
  | cons c t =>
    by_cases hc:c = 33
    · subst hc
      rw [skp_cons,if_pos rfl] at h
      cases t with
      | nil=>cases h
      | cons b t =>
        obtain ⟨B,e,hB,h93⟩:=key b t h
        refine ⟨33 :: (B ++ [93]),B,by rw [e];simp,by rw [skp_cons,if_pos rfl],hB,h93,fun x=>?_⟩
        rw [List.cons_append,skp_cons,skp_cons,if_pos rfl,if_pos rfl]
    · rw [skp_cons,if_neg hc] at h
      obtain ⟨B,e,hB,h93⟩:=key c t h
      have hs:∀ x:List UInt8,skp (B ++ [93] ++ x) = B ++ [93] ++ x:=by
        intro x
        cases B with
        | nil=>exact absurd rfl hB
        | cons d B =>
          have:d = c:=by simp at e;exact e.1.symm
          subst this
          rw [List.cons_append,List.cons_append,skp_cons,if_neg hc]
      have hs0:=hs []
      rw [List.append_nil] at hs0
      exact ⟨B ++ [93],B,e,hs0,hB,h93,fun x=>by rw [hs,hs0]⟩
theorem pcs_of (u:List UInt8) (b:Bool) (h:Res u b):b = true→∃ l fs,Pcs u l fs:=by
  induction h with
  | nil=>intro _;exact ⟨_,_,.nil⟩
  | sign c r b hc _ ih =>
    intro hb
    obtain ⟨l,fs,h1⟩:=ih hb
    by_cases hq:c = 63
    · subst hq;exact ⟨_,_,.sign 63 r l _ fs hc .any h1⟩
    · exact ⟨_,_,.sign c r l _ fs hc (.one c hq hc) h1⟩
  | bad r _=>intro hb;cases hb
  | set r q b hcl _ ih =>
    intro hb
    obtain ⟨l,fs,h1⟩:=ih hb
    obtain ⟨p,B,e1,e2,e3,e4,_⟩:=clo_cut r q hcl
    rw [e1] at hcl ⊢
    exact ⟨_,_,.set p q l _ fs hcl (.set p B _ e2 e3 e4 rfl) h1⟩
theorem pcs_len {u:List UInt8} {l:List (List UInt8)} {fs:List (UInt8→Bool)} (h:Pcs u l fs):l.length = fs.length∧l.length ≤ u.length:=by
  induction h with
  | nil=>exact ⟨rfl,Nat.le_refl _⟩
  | sign c r l f fs _ _ _ ih=>simp only [List.length_cons];omega
  | set p q l f fs _ _ _ ih=>simp only [List.length_cons,List.length_append];omega
def TkOk (p:List UInt8) (f:UInt8→Bool) (t:List Bool):Prop:=t.length = 257∧t.getD 0 false = decide (p = [42])∧∀ c,gx t c = f c
inductive Tks:List (List UInt8)→List (UInt8→Bool)→List (List Bool)→Prop
  | nil:Tks [] [] []
  | cons (p:List UInt8) (f:UInt8→Bool) (t:List Bool) (l:List (List UInt8)) (fs:List (UInt8→Bool)) (ts:List (List Bool)) (h:TkOk p f t) (hr:Tks l fs ts):Tks (p :: l) (f :: fs) (t :: ts)
theorem tks_get {l:List (List UInt8)} {fs:List (UInt8→Bool)} {ts:List (List Bool)} (h:Tks l fs ts):ts.length = l.length∧∀ i,i < l.length→TkOk (l.getD i []) (fs.getD i (fun _=>false)) (ts.getD i []):=by
  induction h with
  | nil=>exact ⟨rfl,fun i hi=>absurd hi (Nat.not_lt_zero _)⟩
  | cons p f t l fs ts h _ ih =>
    refine ⟨by simp only [List.length_cons];omega,fun i hi=>?_⟩
    cases i with
    | zero=>exact h
    | succ i=>exact ih.2 i (by simp only [List.length_cons] at hi;omega)
theorem x0_eq (s:ByteArray) (i:Int):rGF.x0 s i = (bt s i == 42) :: List.replicate 256 false:=by
  unfold rGF.x0 rGF.z256
  rfl
theorem cons_rep (b:Bool) (n m:Nat):(b :: List.replicate n false).getD (m + 1) false = false:=by
  rw [List.getD_cons_succ,List.getD_eq_getElem?_getD,List.getElem?_replicate]
  split <;> rfl
theorem x0_gx (s:ByteArray) (i:Int) (c:UInt8):gx (rGF.x0 s i) c = false:=by
  rw [x0_eq]
  exact cons_rep _ 256 c.toNat
theorem nt_head (s:ByteArray) (hs:s.size ≤ 1000000) (i:Nat) (c:UInt8) (r p:List UInt8) (h:s.data.toList.drop (i + 1) = c :: r) (hi:i < s.size):rGF.nt s (i:Int) = decide ((c :: p).head? = some 33):=by
  unfold rGF.nt
  have w1:wrap64 ((i:Int) + 1) = ((i + 1:Nat):Int):=by rw [wrap_is (by omega) (by omega)];omega
  rw [w1]
  obtain ⟨k1,k2,k3⟩:=at_byte s (i + 1) c r h
  rw [k2,decide_eq_true (by clear w1;omega),Bool.true_and,Bool.eq_iff_iff,beq_iff_eq,decide_eq_true_eq]
  simp only [List.head?_cons,Option.some.injEq]
  clear w1
  constructor
  · intro h;exact UInt8.toNat_inj.mp (by have:((33:UInt8).toNat:Int) = 33:=rfl;omega)
  · intro h;rw [h];rfl
theorem ref_toks (s:ByteArray) (hs:s.size ≤ 1000000) {u:List UInt8} {l:List (List UInt8)} {fs:List (UInt8→Bool)} (h:Pcs u l fs):∀ (i n:Nat) (acc:List (List Bool)),s.data.toList.drop i = u→i ≤ s.size→s.size - i < n→∃ ts,rGF.l0 n s acc (i:Int) = some (acc ++ ts,true)∧Tks l fs ts:=by
  induction h with
  | nil =>
    intro i n acc h hi hn
    obtain ⟨n,rfl⟩:∃ m,n = m + 1:=⟨n - 1,by omega⟩
    have:=at_end s i h
    refine ⟨[],?_,.nil⟩
    simp only [rGF.l0]
    rw [if_neg (by omega),List.append_nil]
  | sign c r l f fs hc hf hr ih =>
    intro i n acc h hi hn
    obtain ⟨n,rfl⟩:∃ m,n = m + 1:=⟨n - 1,by omega⟩
    obtain ⟨g1,g2,g3⟩:=at_byte s i c r h
    have e:(i:Int) + 1 = ((i + 1:Nat):Int):=by omega
    have h91:bt s (i:Int) ≠ 91:=by rw [g2];exact u8_ne c 91 hc
    have hx0:(rGF.x0 s (i:Int)).length = 257:=rGF.x0_len s _
    have hst:(rGF.x0 s (i:Int)).getD 0 false = decide ([c] = ([42]:List UInt8)):=by
      rw [x0_eq]
      show (bt s (i:Int) == 42) = _
      rw [g2,Bool.eq_iff_iff,beq_iff_eq,decide_eq_true_eq]
      constructor
      · intro h;rw [show c = 42 from UInt8.toNat_inj.mp (by have:((42:UInt8).toNat:Int) = 42:=rfl;omega)]
      · intro h;injection h with h _;rw [h];rfl
    simp only [rGF.l0]
    rw [if_pos (by omega),e]
    cases hf with
    | any =>
      rw [if_pos (by rw [g2];rfl)]
      obtain ⟨ts,t1,t2⟩:=ih (i + 1) n (acc ++ [rGF.ran 256 (rGF.x0 s (i:Int)) 0]) g3 (by omega) (by omega)
      refine ⟨_ :: ts,by rw [t1,List.append_assoc];rfl,.cons _ _ _ _ _ _ ⟨by rw [rGF.ran_len];exact hx0,?_,?_⟩ t2⟩
      · rw [ran_get _ _ _ _ (by omega),decide_eq_false (by omega),Bool.false_or];exact hst
      · intro d
        have:=d.toNat_lt
        unfold gx
        rw [ran_get _ _ _ _ (by omega),decide_eq_true (by omega),Bool.true_or]
    | one _ h1 h2 =>
      rw [if_neg (by rw [g2];exact u8_ne c 63 h1),if_neg h91]
      have hc256:=c.toNat_lt
      have hbt:(bt s (i:Int)).toNat = c.toNat:=by rw [g2,Int.toNat_natCast]
      obtain ⟨ts,t1,t2⟩:=ih (i + 1) n (acc ++ [(rGF.x0 s (i:Int)).set ((bt s (i:Int)).toNat + 1) true]) g3 (by omega) (by omega)
      refine ⟨_ :: ts,by rw [t1,List.append_assoc];rfl,.cons _ _ _ _ _ _ ⟨by rw [List.length_set];exact hx0,?_,?_⟩ t2⟩
      · rw [List.getD_eq_getElem?_getD,List.getElem?_set_ne (by omega),← List.getD_eq_getElem?_getD];exact hst
      · intro d
        rw [hbt]
        show _ = decide (c = d)
        by_cases e:c = d
        · subst e
          rw [decide_eq_true rfl]
          unfold gx
          rw [List.getD_eq_getElem?_getD,List.getElem?_set_self (by omega)]
          rfl
        · rw [decide_eq_false e,← x0_gx s (i:Int) d]
          unfold gx
          rw [List.getD_eq_getElem?_getD,List.getElem?_set_ne (fun h=>e (UInt8.toNat_inj.mp (by omega))),← List.getD_eq_getElem?_getD]
    | set p B no h1 h2 h3 h4=>exact absurd rfl hc
  | set p q l f fs hcl hf hr ih =>
    intro i n acc h hi hn
    obtain ⟨n,rfl⟩:∃ m,n = m + 1:=⟨n - 1,by omega⟩
    obtain ⟨g1,g2,g3⟩:=at_byte s i 91 (p ++ q) h
    obtain ⟨F,f1,f2,f3,f4⟩:=nt_is s hs i (p ++ q) g3 g1
    have F1:=Aside0.mk f1
    clear f1
    cases hf with
    | one _ _ h2=>exact absurd rfl h2
    | set _ B no hsk hB h93 hno =>
      have hskq:skp (p ++ q) = B ++ 93 :: q:=by
        cases p with
        | nil=>simp [skp] at hsk
        | cons c p =>
          rw [List.cons_append,skp_cons]
          rw [skp_cons] at hsk
          by_cases h33:c = 33
          · rw [if_pos h33] at hsk ⊢;rw [hsk];simp
          · rw [if_neg h33] at hsk ⊢
            rw [← List.cons_append,hsk];simp
      rw [hskq] at f4
      have hlen:s.data.toList.length - F = B.length + 1 + q.length:=by
        have:=congrArg List.length f4
        rw [List.length_drop] at this
        rw [this];simp;omega
      rw [size_list] at hlen
      obtain ⟨x',e1,e2,e3,e4⟩:=l1_mem s hs F q B.length B (s.size + 1) F (rGF.x0 s (i:Int)) (Nat.le_refl _) (by omega) (rGF.x0_len s _) (fun h=>absurd h hB) h93 (fun h=>absurd rfl h) f4 (Nat.le_refl _)
      have hBl:0 < B.length:=List.length_pos_iff.mpr hB
      have hnt:rGF.nt s (i:Int) = no:=by
        cases p with
        | nil=>simp [skp] at hsk
        | cons c p=>rw [hno];exact nt_head s hs i c (p ++ q) p g3 g1
      simp only [rGF.l0]
      rw [if_pos (by omega),if_neg (by rw [g2];decide),if_pos (by rw [g2];rfl),F1.out,e1]
      simp only [Option.bind_some]
      have hw:((F + B.length:Nat):Int) + 1 = ((F + B.length + 1:Nat):Int):=by omega
      have hdq:s.data.toList.drop (F + B.length + 1) = q:=by
        rw [show F + B.length + 1 = F + (B.length + 1) by omega,← List.drop_drop,f4,show B ++ 93 :: q = (B ++ [93]) ++ q by simp,show B.length + 1 = (B ++ [93]).length by simp,List.drop_left]
      rw [if_neg (by omega),hw,hnt]
      obtain ⟨ts,t1,t2⟩:=ih (F + B.length + 1) n (acc ++ [if no = true then rGF.flip 256 x' 0 else x']) hdq (by omega) (by omega)
      have hst:(rGF.x0 s (i:Int)).getD 0 false = decide ((91 :: p) = ([42]:List UInt8)):=by
        rw [x0_eq]
        show (bt s (i:Int) == 42) = _
        rw [g2,decide_eq_false (by intro h;injection h with h _;exact absurd h (by decide))]
        rfl
      refine ⟨_ :: ts,by rw [t1,List.append_assoc];rfl,.cons _ _ _ _ _ _ ?_ t2⟩
      cases no with
      | true =>
        rw [if_pos rfl]
        refine ⟨by rw [rGF.flip_len];exact e2,?_,?_⟩
        · rw [flip_get _ _ _ _ (by omega),if_neg (by omega),e3];exact hst
        · intro c
          have:=c.toNat_lt
          have h4:=e4 c
          unfold gx at h4 ⊢
          rw [flip_get _ _ _ _ (by omega),if_pos (by omega),h4]
          have h5:=x0_gx s (i:Int) c
          unfold gx at h5
          rw [h5]
          simp
      | false =>
        rw [if_neg (by decide)]
        refine ⟨e2,by rw [e3];exact hst,fun c=>?_⟩
        rw [e4 c,x0_gx]
        simp
theorem tok_toks (s:ByteArray) (hs:s.size ≤ 1000000) {l:List (List UInt8)} {fs:List (UInt8→Bool)} (h:Pcs s.data.toList l fs):∃ ts,rGF.tok s = some (ts,true)∧Tks l fs ts:=by
  obtain ⟨ts,h1,h2⟩:=ref_toks s hs h 0 (s.size + 1) [] (List.drop_zero ..) (by omega) (by omega)
  refine ⟨ts,?_,h2⟩
  unfold rGF.tok
  rw [if_pos hs,show rGF.l0 (s.size + 1) s [] 0 = _ from h1,List.nil_append]
theorem mk_ext {x:ByteArray} {l:List UInt8} (h:x.data.toList = l):x = mk l:=by rw [← h,mk_of]
theorem split_run {u:List UInt8} {l:List (List UInt8)} {fs:List (UInt8→Bool)} (h:Pcs u l fs):∀ (x:ByteArray) (acc:List ByteArray),x.data.toList = u→x.size ≤ 1000000→acc.length + u.length ≤ 1000000→Ev (fun k=>glob_split.l0 k x acc) (acc ++ l.map mk):=by
  induction h with
  | nil =>
    intro x acc hx hs ha
    refine Ev.step (f:=fun _=>some (acc ++ ([]:List (List UInt8)).map mk)) (fun k=>?_) (Ev.now _)
    simp only [glob_split.l0]
    rw [if_pos (by rw [toList_data,hx])]
    simp
  | sign c r l f fs hc hf hr ih =>
    intro x acc hx hs ha
    simp only [List.length_cons] at ha
    obtain ⟨g1,g2,g3⟩:=at_byte x 0 c r (by rw [List.drop_zero];exact hx)
    have g2':bt x 0 = (c.toNat:Int):=g2
    refine Ev.step (f:=fun k=>glob_split.l0 k (x.extract 1 x.size) (acc ++ [x.extract 0 1])) (fun k=>?_) ?_
    · simp only [glob_split.l0]
      rw [if_neg (by rw [toList_data,hx];simp),if_pos (by omega),if_neg (by rw [g2'];exact u8_ne c 91 hc),if_pos (by decide),if_pos (by omega),if_pos (by omega)]
    · have e1:x.extract 0 1 = mk [c]:=mk_ext (by rw [Lib.extract_data,List.drop_zero,hx];rfl)
      have h1:=ih (x.extract 1 x.size) (acc ++ [x.extract 0 1]) (by rw [Lib.extract_to_end];exact g3) (by rw [ByteArray.size_extract];omega) (by rw [List.length_append,List.length_singleton];omega)
      rw [e1,List.append_assoc] at h1
      rw [e1]
      exact h1
  | set p q l f fs hcl hf hr ih =>
    intro x acc hx hs ha
    simp only [List.length_cons,List.length_append] at ha
    obtain ⟨g1,g2,g3⟩:=at_byte x 0 91 (p ++ q) (by rw [List.drop_zero];exact hx)
    have g2':bt x 0 = 91:=g2
    have hsz:x.size = p.length + q.length + 1:=by rw [← size_list,hx];simp
    have hE:endR x (p ++ q) = ((p.length + 1:Nat):Int):=by
      unfold endR
      rw [hcl]
      show ((x.size - q.length:Nat):Int) = _
      rw [show x.size - q.length = p.length + 1 by omega]
    have he:=end_is x hs (p ++ q) hx
    rw [hE] at he
    refine Ev.step (f:=fun k=>(glob_end.f k x).bind fun t101=>(if 0 ≤ t101 then (if t101 ≤ (x.size:Int) then (if acc.length < 8796093022208 then (glob_split.l0 k (x.extract (t101:Int).toNat x.size) (acc ++ [x.extract 0 (t101:Int).toNat])) else (none)) else (none)) else (none))) (fun k=>?_) ?_
    · simp only [glob_split.l0]
      rw [if_neg (by rw [toList_data,hx];simp),if_pos (by omega),if_pos g2']
    · refine Ev.bind he ?_
      refine Ev.ifp (by omega) (Ev.ifp (by omega) (Ev.ifp (by omega) ?_))
      rw [Int.toNat_natCast]
      have e1:x.extract 0 (p.length + 1) = mk (91 :: p):=mk_ext (by rw [Lib.extract_data,List.drop_zero,hx,Nat.sub_zero,List.take_succ_cons,List.take_left])
      have e2:(x.extract (p.length + 1) x.size).data.toList = q:=by rw [Lib.extract_to_end,hx,List.drop_succ_cons,List.drop_left]
      have h1:=ih (x.extract (p.length + 1) x.size) (acc ++ [x.extract 0 (p.length + 1)]) e2 (by rw [ByteArray.size_extract];omega) (by rw [List.length_append,List.length_singleton];omega)
      rw [e1,List.append_assoc] at h1
      rw [e1]
      exact h1
theorem set_two {y:ByteArray} {t:List UInt8} (ht:(93:UInt8) ∉ t) (hy:y.data.toList = t ++ [93]):glob_set.two y ↔ ∃ b r,t = 45 :: b :: r:=by
  unfold glob_set.two
  have hz:y.size = t.length + 1:=by rw [← size_list,hy];simp
  constructor
  · rintro ⟨h1,h2,h3⟩
    cases t with
    | nil=>simp at hz;omega
    | cons a t =>
      obtain ⟨g1,g2,g3⟩:=at_byte y 0 a (t ++ [93]) (by rw [List.drop_zero,hy];rfl)
      have g2':bt y 0 = (a.toNat:Int):=g2
      have ha:a = 45:=UInt8.toNat_inj.mp (by rw [g2'] at h2;have:((45:UInt8).toNat:Int) = 45:=rfl;omega)
      subst ha
      cases t with
      | nil=>simp at hz;omega
      | cons b r=>exact ⟨b,r,rfl⟩
  · rintro ⟨b,r,rfl⟩
    obtain ⟨g1,g2,g3⟩:=at_byte y 0 45 (b :: (r ++ [93])) (by rw [List.drop_zero,hy];rfl)
    obtain ⟨f1,f2,f3⟩:=at_byte y 1 b (r ++ [93]) g3
    have hb:b ≠ 93:=fun e=>ht (by rw [e];simp)
    refine ⟨by simp only [List.length_cons] at hz;omega,g2,?_⟩
    have f2':bt y 1 = (b.toNat:Int):=f2
    rw [f2']
    exact u8_ne b 93 hb
theorem cmp_bytes (a b c:UInt8):(decide ((a.toNat:Int) ≤ (c.toNat:Int)) && decide ((c.toNat:Int) ≤ (b.toNat:Int))) = (decide (a.toNat ≤ c.toNat) && decide (c.toNat ≤ b.toNat)):=by
  congr 1 <;> exact decide_eq_decide.mpr (by omega)
theorem set_run (c:UInt8) (no:Bool) (d:Nat):∀ (l:List UInt8) (x:ByteArray) (inn:Bool) (k q:Nat),l.length ≤ d→d < q→(l = []→0 < k)→(93:UInt8) ∉ l.tail→(0 < k→(93:UInt8) ∉ l)→x.data.toList = l ++ [93]→k + l.length ≤ 1000000→∃ y,glob_set.l0 q x (c.toNat:Int) no inn (k:Int) = some ((inn || memB c l) != no,y):=by
  have done:∀ (x:ByteArray) (inn:Bool) (k q:Nat),0 < k→0 < q→x.data.toList = [93]→∃ y,glob_set.l0 q x (c.toNat:Int) no inn (k:Int) = some ((inn || memB c []) != no,y):=by
    intro x inn k q hk hq hx
    obtain ⟨q,rfl⟩:∃ m,q = m + 1:=⟨q - 1,by omega⟩
    obtain ⟨g1,g2,g3⟩:=at_byte x 0 93 [] (by rw [List.drop_zero];exact hx)
    have g2':bt x 0 = 93:=g2
    refine ⟨x.extract 1 x.size,?_⟩
    rw [glob_set.l0,if_pos (by omega),if_pos ⟨by omega,g2'⟩]
    simp [memB]
  induction d with
  | zero =>
    intro l x inn k q hl hq h0 _ _ hx _
    obtain rfl:l = []:=List.length_eq_zero_iff.mp (by omega)
    exact done x inn k q (h0 rfl) hq hx
  | succ d ih =>
    intro l x inn k q hl hq h0 ht hk hx hb
    cases l with
    | nil=>exact done x inn k q (h0 rfl) (by omega) hx
    | cons a t =>
      obtain ⟨q,rfl⟩:∃ m,q = m + 1:=⟨q - 1,by omega⟩
      obtain ⟨g1,g2,g3⟩:=at_byte x 0 a (t ++ [93]) (by rw [List.drop_zero];exact hx)
      have g2':bt x 0 = (a.toNat:Int):=g2
      have hy:(x.extract 1 x.size).data.toList = t ++ [93]:=by rw [Lib.extract_to_end];exact g3
      simp only [List.length_cons] at hl hb
      have w1:wrap64 ((k:Int) + 1) = ((k + 1:Nat):Int):=by rw [wrap_is (by omega) (by omega)];omega
      have W1:=Aside0.mk w1
      clear w1
      have ht':(93:UInt8) ∉ t:=ht
      rw [glob_set.l0,if_pos (by omega),if_neg (fun h=>hk (by omega) (by rw [show a = 93 from UInt8.toNat_inj.mp (by have h2:=h.2;rw [g2'] at h2;have:((93:UInt8).toNat:Int) = 93:=rfl;omega)];simp)),W1.out]
      by_cases h2:glob_set.two (x.extract 1 x.size)
      · rw [if_pos h2]
        obtain ⟨b,r,rfl⟩:=(set_two ht' hy).1 h2
        obtain ⟨f1,f2,f3⟩:=at_byte (x.extract 1 x.size) 1 b (r ++ [93]) (by rw [hy];rfl)
        have f2':bt (x.extract 1 x.size) 1 = (b.toNat:Int):=f2
        rw [g2',f2',cmp_bytes]
        have hz:((x.extract 1 x.size).extract 2 (x.extract 1 x.size).size).data.toList = r ++ [93]:=by rw [Lib.extract_to_end,hy];rfl
        have hr:(93:UInt8) ∉ r:=fun h=>ht' (by simp [h])
        simp only [List.length_cons] at hl hb
        obtain ⟨y,e⟩:=ih r _ (inn || (decide (a.toNat ≤ c.toNat) && decide (c.toNat ≤ b.toNat))) (k + 1) q (by omega) (by omega) (fun _=>by omega) (fun h=>hr (List.mem_of_mem_tail h)) (fun _=>hr) hz (by omega)
        exact ⟨y,by rw [e,memB_rng,Bool.or_assoc]⟩
      · rw [if_neg h2]
        have hs1:Stp (a :: t) a a t := .one a t (fun b r e=>h2 ((set_two ht' hy).2 ⟨b,r,e⟩))
        rw [g2',cmp_bytes]
        obtain ⟨y,e⟩:=ih t _ (inn || (decide (a.toNat ≤ c.toNat) && decide (c.toNat ≤ a.toNat))) (k + 1) q (by omega) (by omega) (fun _=>by omega) (fun h=>ht' (List.mem_of_mem_tail h)) (fun _=>ht') hy (by omega)
        exact ⟨y,by rw [e,memB_stp c hs1,Bool.or_assoc]⟩
theorem sign_is {pc:List UInt8} {f:UInt8→Bool} (hf:Pc pc f) (hl:pc.length ≤ 1000000) (c:UInt8):Ev (fun k=>glob_sign.f k (mk pc) (c.toNat:Int)) (f c):=by
  unfold glob_sign.f
  cases hf with
  | any =>
    exact Ev.ifp (by decide) (Ev.ifp (by rfl) (Ev.now _))
  | one b h1 h2 =>
    obtain ⟨g1,g2,g3⟩:=at_byte (mk [b]) 0 b [] rfl
    have g2':bt (mk [b]) 0 = (b.toNat:Int):=g2
    refine Ev.ifp (by omega) (Ev.ifn (by rw [g2'];exact u8_ne b 63 h1) (Ev.ifn (by rw [g2'];exact u8_ne b 91 h2) (Ev.const ?_)))
    rw [g2']
    congr 1
    rw [Bool.eq_iff_iff,beq_iff_eq,decide_eq_true_eq]
    exact ⟨fun h=>UInt8.toNat_inj.mp (by omega),fun h=>by rw [h]⟩
  | set p B no h hB h93 hno =>
    obtain ⟨g1,g2,g3⟩:=at_byte (mk (91 :: p)) 0 91 p rfl
    have g2':bt (mk (91 :: p)) 0 = 91:=g2
    refine Ev.ifp (by omega) (Ev.ifn (by rw [g2'];decide) (Ev.ifp g2' ?_))
    have hy:((mk (91 :: p)).extract 1 (mk (91 :: p)).size).data.toList = p:=by rw [Lib.extract_to_end];rfl
    simp only [List.length_cons] at hl
    have hBl:B.length ≤ p.length:=by
      cases p with
      | nil=>simp [skp] at h
      | cons d p =>
        rw [skp_cons] at h
        by_cases e:d = 33
        · rw [if_pos e] at h;rw [h];simp;omega
        · rw [if_neg e] at h;rw [h];simp
    have key:∀ k,B.length + 1 ≤ k→∃ y,glob_set.f k (mk (91 :: p)) (c.toNat:Int) = some (memB c B != no,y):=by
      intro k hk
      unfold glob_set.f
      rw [if_pos (by omega),hy]
      cases p with
      | nil=>simp [skp] at h
      | cons d p =>
        rw [skp_cons] at h
        by_cases e:d = 33
        · rw [if_pos e] at h
          rw [if_pos (by rw [e];simp [Lib.hasPrefix])]
          have hno1:no = true:=by rw [hno,e];simp
          obtain ⟨y,e2⟩:=set_run c true B.length B (((mk (91 :: d :: p)).extract 1 (mk (91 :: d :: p)).size).extract 1 ((mk (91 :: d :: p)).extract 1 (mk (91 :: d :: p)).size).size) false 0 k (Nat.le_refl _) (by omega) (fun e=>absurd e hB) h93 (fun h=>absurd h (by omega)) (by rw [Lib.extract_to_end,hy];exact h) (by simp only [List.length_cons] at hl hBl;omega)
          refine ⟨y,?_⟩
          rw [show ((0:Nat):Int) = 0 from rfl] at e2
          rw [e2,hno1,Bool.false_or]
        · rw [if_neg e] at h
          rw [if_neg (by simp [Lib.hasPrefix];exact fun h=>e h.symm)]
          have hno1:no = false:=by rw [hno];simp [e]
          obtain ⟨y,e2⟩:=set_run c false B.length B ((mk (91 :: d :: p)).extract 1 (mk (91 :: d :: p)).size) false 0 k (Nat.le_refl _) (by omega) (fun e=>absurd e hB) h93 (fun h=>absurd h (by omega)) (by rw [hy];exact h) (by simp only [List.length_cons] at hl hBl;omega)
          refine ⟨y,?_⟩
          rw [show ((0:Nat):Int) = 0 from rfl] at e2
          rw [e2,hno1,Bool.false_or]
    refine Ev.from_ (B.length + 1) (fun k hk=>?_)
    obtain ⟨y,e⟩:=key k hk
    rw [e]
    rfl
theorem tk_run (S:Nat→Option Bool) (F:Nat→Nat→Option Bool) (i m:Nat) (row:List Bool) (si:Bool) (f:Nat→Bool) (hS:S i = some si) (hF:∀ k,k < m→si = false→F i k = some (f k)):∀ (d k:Nat) (nx:List Bool),k + d = m→nx.length = m + 1→(∀ j,j ≤ k→nx.getD j false = nextT si f (fun j=>row.getD j false) j)→∃ nx',rGT.TK S F i row d k nx = some nx'∧nx'.length = m + 1∧∀ j,j ≤ m→nx'.getD j false = nextT si f (fun j=>row.getD j false) j
  | 0,k,nx,h,hl,hk=>⟨nx,rfl,hl,fun j hj=>hk j (by omega)⟩
  | d + 1,k,nx,h,hl,hk=>by
    have put:∀ v:Bool,v = nextT si f (fun j=>row.getD j false) (k + 1)→∀ j,j ≤ k + 1→(nx.set (k + 1) v).getD j false = nextT si f (fun j=>row.getD j false) j:=by
      intro v hv j hj
      by_cases e:j = k + 1
      · subst e
        rw [List.getD_eq_getElem?_getD,List.getElem?_set_self (by omega),← hv];rfl
      · rw [List.getD_eq_getElem?_getD,List.getElem?_set_ne (by omega),← List.getD_eq_getElem?_getD]
        exact hk j (by omega)
    unfold rGT.TK
    rw [hS]
    simp only [Option.bind_some]
    cases si with
    | true =>
      rw [if_pos rfl]
      refine tk_run S F i m row true f hS hF d (k + 1) _ (by omega) (by rw [List.length_set];exact hl) (put _ ?_)
      rw [hk k (Nat.le_refl _)]
      show _ = (if true = true then _ else _)
      rw [if_pos rfl]
    | false =>
      rw [if_neg (by decide)]
      have hv:(if row.getD k false = true then F i k else some false) = some (row.getD k false && f k):=by
        cases row.getD k false with
        | true=>rw [if_pos rfl,hF k (by omega) rfl,Bool.true_and]
        | false=>rw [if_neg (by decide),Bool.false_and]
      rw [hv]
      simp only [Option.bind_some]
      refine tk_run S F i m row false f hS hF d (k + 1) _ (by omega) (by rw [List.length_set];exact hl) (put _ ?_)
      show _ = (if false = true then _ else _)
      rw [if_neg (by decide)]
theorem first_is (m:Nat) (b:Bool) (j:Nat):((List.replicate (m + 1) false).set 0 b).getD j false = (decide (j = 0) && b):=by
  cases j with
  | zero=>rw [List.getD_eq_getElem?_getD,List.getElem?_set_self (by simp)];simp
  | succ j =>
    rw [List.getD_eq_getElem?_getD,List.getElem?_set_ne (by omega),List.getElem?_replicate]
    split <;> simp
theorem ti_run (n m:Nat) (S':Nat→Option Bool) (F':Nat→Nat→Option Bool) (S:Nat→Bool) (F:Nat→Nat→Bool) (hS:∀ i,i < n→S' i = some (S i)) (hF:∀ i k,i < n→k < m→S i = false→F' i k = some (F i k)):∀ (d i:Nat) (row:List Bool),i + d = n→row.length = m + 1→(∀ j,j ≤ m→row.getD j false = rowT S F i j)→∃ R,rGT.TI m S' F' d i row = some R∧∀ j,j ≤ m→R.getD j false = rowT S F n j
  | 0,i,row,h,hl,hr=>⟨row,rfl,fun j hj=>by rw [hr j hj,show i = n by omega]⟩
  | d + 1,i,row,h,hl,hr=>by
    unfold rGT.TI
    have hv:(if row.getD 0 false = true then S' i else some false) = some (row.getD 0 false && S i):=by
      cases row.getD 0 false with
      | true=>rw [if_pos rfl,hS i (by omega),Bool.true_and]
      | false=>rw [if_neg (by decide),Bool.false_and]
    rw [hv]
    simp only [Option.bind_some]
    obtain ⟨nx,e1,e2,e3⟩:=tk_run S' F' i m row (S i) (F i) (hS i (by omega)) (fun k hk hs=>hF i k (by omega) hk hs) m 0 ((List.replicate (m + 1) false).set 0 (row.getD 0 false && S i)) (by omega) (by simp) (fun j hj=>by
      obtain rfl:j = 0:=by omega
      rw [first_is]
      show (decide (0 = 0) && (row.getD 0 false && S i)) = (row.getD 0 false && S i)
      simp)
    rw [e1]
    simp only [Option.bind_some]
    refine ti_run n m S' F' S F hS hF d (i + 1) nx (by omega) e2 (fun j hj=>?_)
    rw [e3 j hj]
    show _ = nextT (S i) (F i) (rowT S F i) j
    have same:∀ j,j ≤ m→nextT (S i) (F i) (fun j=>row.getD j false) j = nextT (S i) (F i) (rowT S F i) j:=by
      intro j
      induction j with
      | zero=>intro hj;show (row.getD 0 false && S i) = (rowT S F i 0 && S i);rw [hr 0 hj]
      | succ j ih =>
        intro hj
        show (if S i = true then row.getD (j + 1) false || nextT (S i) (F i) (fun j=>row.getD j false) j else row.getD j false && F i j) = (if S i = true then rowT S F i (j + 1) || nextT (S i) (F i) (rowT S F i) j else rowT S F i j && F i j)
        rw [hr (j + 1) hj,hr j (by omega),ih (by omega)]
    exact same j hj
theorem tab_run (n m:Nat) (hn:n ≤ 1000000000∧m ≤ 1000000000) (S':Nat→Option Bool) (F':Nat→Nat→Option Bool) (S:Nat→Bool) (F:Nat→Nat→Bool) (hS:∀ i,i < n→S' i = some (S i)) (hF:∀ i k,i < n→k < m→S i = false→F' i k = some (F i k)):rGT.tab n m S' F' = some (rowT S F n m):=by
  obtain ⟨R,e1,e2⟩:=ti_run n m S' F' S F hS hF n 0 ((List.replicate (m + 1) false).set 0 true) (by omega) (by simp) (fun j hj=>by
    rw [first_is]
    show (decide (j = 0) && true) = (j == 0)
    rw [Bool.and_true,Bool.eq_iff_iff,decide_eq_true_eq,beq_iff_eq])
  unfold rGT.tab
  rw [if_pos ⟨by omega,by omega⟩,e1]
  simp only [Option.bind_some]
  rw [e2 m (Nat.le_refl _)]
theorem uni1 (n:Nat) (P:Nat→Nat→Prop) (h:∀ i,i < n→∃ K,∀ k,K ≤ k→P i k):∃ K,∀ k,K ≤ k→∀ i,i < n→P i k:=by
  induction n with
  | zero=>exact ⟨0,fun k _ i hi=>absurd hi (Nat.not_lt_zero _)⟩
  | succ n ih =>
    obtain ⟨K1,h1⟩:=ih (fun i hi=>h i (by omega))
    obtain ⟨K2,h2⟩:=h n (by omega)
    refine ⟨max K1 K2,fun k hk i hi=>?_⟩
    by_cases e:i = n
    · subst e;exact h2 k (by omega)
    · exact h1 k (by omega) i (by omega)
theorem uni2 (n m:Nat) (P:Nat→Nat→Nat→Prop) (h:∀ i j,i < n→j < m→∃ K,∀ k,K ≤ k→P i j k):∃ K,∀ k,K ≤ k→∀ i j,i < n→j < m→P i j k:=by
  obtain ⟨K,hK⟩:=uni1 n (fun i k=>∀ j,j < m→P i j k) (fun i hi=>uni1 m (fun j k=>P i j k) (fun j hj=>h i j hi hj))
  exact ⟨K,fun k hk i j hi hj=>hK k hk i hi j hj⟩
theorem rd_mk (l:List (List UInt8)) (i:Nat) (h:i < l.length):rdOf ByteArray.empty (l.map mk) (i:Int) = mk (l.getD i []):=by
  unfold rdOf
  rw [Int.toNat_natCast,List.getD_eq_getElem?_getD,List.getElem?_map,List.getD_eq_getElem?_getD,List.getElem?_eq_getElem h]
  rfl
theorem beq_dec (a b:List UInt8):(a == b) = decide (a = b):=by
  rw [Bool.eq_iff_iff,beq_iff_eq,decide_eq_true_eq]
theorem pcs_pc {u:List UInt8} {l:List (List UInt8)} {fs:List (UInt8→Bool)} (h:Pcs u l fs):∀ i,i < l.length→Pc (l.getD i []) (fs.getD i (fun _=>false))∧(l.getD i []).length ≤ u.length:=by
  induction h with
  | nil=>intro i hi;exact absurd hi (Nat.not_lt_zero _)
  | sign c r l f fs _ hf _ ih =>
    intro i hi
    cases i with
    | zero=>exact ⟨hf,by simp⟩
    | succ i =>
      obtain ⟨h1,h2⟩:=ih i (by simp only [List.length_cons] at hi;omega)
      exact ⟨h1,by simp only [List.length_cons,List.getD_cons_succ];omega⟩
  | set p q l f fs _ hf _ ih =>
    intro i hi
    cases i with
    | zero=>exact ⟨hf,by simp⟩
    | succ i =>
      obtain ⟨h1,h2⟩:=ih i (by simp only [List.length_cons] at hi;omega)
      exact ⟨h1,by simp only [List.length_cons,List.length_append,List.getD_cons_succ];omega⟩
theorem bt_list (s:ByteArray) (j:Nat) (h:j < s.size):bt s (j:Int) = ((s.data.toList.getD j 0).toNat:Int):=by
  rw [bt_get s j h,List.getD_eq_getElem?_getD,List.getElem?_eq_getElem (by rw [size_list];exact h)]
  rfl
theorem part_both (p s:ByteArray) (hp:p.size ≤ 1000) (hs:s.size ≤ 1000000) (hr:Res p.data.toList true):∃ b,Ev (fun k=>glob_parts.part k p s) b∧rGT.part p s = some b:=by
  obtain ⟨l,fs,h⟩:=pcs_of _ _ hr rfl
  obtain ⟨hl1,hl2⟩:=pcs_len h
  rw [size_list] at hl2
  have hpc:=pcs_pc h
  refine ⟨rowT (fun i=>decide (l.getD i [] = [42])) (fun i j=>(fs.getD i (fun _=>false)) (s.data.toList.getD j 0)) l.length s.size,?_,?_⟩
  · unfold glob_parts.part
    have h1:Ev (fun k=>glob_split.f k p) (l.map mk):=by
      have:=split_run h p [] rfl (by omega) (by rw [size_list];simp;omega)
      exact this
    refine Ev.bind h1 ?_
    obtain ⟨K,hK⟩:=uni2 l.length s.size (fun i j k=>glob_parts.fit1 k (l.map mk) s (i:Int) (j:Int) = some ((fs.getD i (fun _=>false)) (s.data.toList.getD j 0))) (fun i j hi hj=>by
      obtain ⟨K,hK⟩:=sign_is (hpc i hi).1 (by have:=(hpc i hi).2;rw [size_list] at this;omega) (s.data.toList.getD j 0)
      refine ⟨K,fun k hk=>?_⟩
      unfold glob_parts.fit1
      rw [if_pos (by omega),if_pos (by rw [List.length_map];omega),if_pos (by omega),if_pos (by omega),rd_mk l i hi,bt_list s j hj]
      exact hK k hk)
    refine Ev.from_ (max K (s.size * (l.length + 2) + l.length + l.length + 2 + 1)) (fun k hk=>?_)
    rw [List.length_map]
    exact wild_run l.length s.size _ _ _ _ (by omega) (by omega) (fun i hi=>by
      unfold glob_parts.star
      rw [if_pos (by omega),if_pos (by rw [List.length_map];omega),rd_mk l i hi,mk_toList,beq_dec]) (fun i j hi hj _=>hK k (by omega) i j hi hj) k (by omega)
  · unfold rGT.part
    obtain ⟨ts,e1,e2⟩:=tok_toks p (by omega) h
    obtain ⟨t1,t2⟩:=tks_get e2
    rw [e1]
    simp only [Option.bind_some]
    rw [t1]
    refine tab_run l.length s.size ⟨by omega,by omega⟩ _ _ _ _ (fun i hi=>?_) (fun i j hi hj _=>?_)
    · unfold rGT.tstar
      rw [if_pos (by omega),(t2 i hi).2.1]
    · unfold rGT.tfit
      have hb:=bt_list s j hj
      rw [if_pos (by omega),if_pos hj,hb,Int.toNat_natCast,Nat.add_comm,← (t2 i hi).2.2 (s.data.toList.getD j 0)]
      rfl
theorem run_zero:∀ l:List ByteArray,rGF.run l = some 0→∀ x ∈ l,x.size ≤ 1000000→Res x.data.toList true
  | [],_,x,hx,_=>by cases hx
  | y :: l,h,x,hx,hs=>by
    unfold rGF.run at h
    by_cases c:y.toList = ([]:List UInt8)
    · rw [if_pos c] at h;injection h with h;exact absurd h (by decide)
    · rw [if_neg c] at h
      obtain ⟨r,h1,h2⟩:=Option.bind_eq_some_iff.1 h
      by_cases c2:r.2 = true
      · rw [if_pos c2] at h2
        rcases List.mem_cons.mp hx with e|e
        · subst e
          obtain ⟨b,hb⟩:=res_of _ x.data.toList (Nat.le_refl _)
          obtain ⟨q,e3⟩:=tok_res x hs b hb
          rw [h1] at e3
          have:r = (q,b):=Option.some.inj e3
          rw [this] at c2
          have c3:b = true:=c2
          rw [c3] at hb
          exact hb
        · exact run_zero l h2 x e hs
      · rw [if_neg c2] at h2;injection h2 with h2;exact absurd h2 (by decide)
theorem glob_parts_ok (p:ByteArray) (h:Ev (fun k=>rGF.f k p) 0):(1 ≤ p.size∧p.size ≤ 400)∧∀ x ∈ pp p,Res x.data.toList true:=by
  obtain ⟨K,hK⟩:=h
  have h1:rGF.f (max K (p.size + 1)) p = some 0:=hK (max K (p.size + 1)) (by omega)
  unfold rGF.f at h1
  by_cases c1:p.toList = ([]:List UInt8)
  · rw [if_pos c1] at h1;injection h1 with h1;exact absurd h1 (by decide)
  · rw [if_neg c1] at h1
    by_cases c2:400 < p.size
    · rw [if_pos c2] at h1;injection h1 with h1;exact absurd h1 (by decide)
    · rw [if_neg c2,parts_is p _ (by omega) (by omega)] at h1
      simp only [Option.bind_some] at h1
      have hl:=pp_len p
      rw [if_pos (by omega)] at h1
      refine ⟨⟨?_,by omega⟩,fun x hx=>run_zero _ h1 x hx (by have:=pp_mem p x hx;omega)⟩
      rcases Nat.eq_zero_or_pos p.size with e|e
      · exact absurd ((empty_size p).2 e) c1
      · exact e
theorem rd_pp (p:ByteArray) (i:Nat) (h:i < (pp p).length):rdOf ByteArray.empty (pp p) (i:Int) ∈ pp p:=by
  unfold rdOf
  rw [Int.toNat_natCast,List.getD_eq_getElem?_getD,List.getElem?_eq_getElem h]
  exact List.getElem_mem h
theorem wild_parts (p s:ByteArray) (hp:p.size ≤ 400) (hs:s.size ≤ 400) (hr:∀ x ∈ pp p,Res x.data.toList true):∃ b,Ev (fun k=>glob_parts.f k (pp p) (pp s)) b∧rGT.tab (pp p).length (pp s).length (rGT.star (pp p)) (rGT.fit (pp p) (pp s)) = some b:=by
  have hlp:=pp_len p
  have hls:=pp_len s
  have both:∀ i j,i < (pp p).length→j < (pp s).length→∃ b,Ev (fun k=>glob_parts.part k (rdOf ByteArray.empty (pp p) (i:Int)) (rdOf ByteArray.empty (pp s) (j:Int))) b∧rGT.part (rdOf ByteArray.empty (pp p) (i:Int)) (rdOf ByteArray.empty (pp s) (j:Int)) = some b:=fun i j hi hj =>
    part_both _ _ (by have:=pp_mem p _ (rd_pp p i hi);omega) (by have:=pp_mem s _ (rd_pp s j hj);omega) (hr _ (rd_pp p i hi))
  have hF:∀ i j,i < (pp p).length→j < (pp s).length→∃ K,∀ k,K ≤ k→glob_parts.part k (rdOf ByteArray.empty (pp p) (i:Int)) (rdOf ByteArray.empty (pp s) (j:Int)) = some ((rGT.part (rdOf ByteArray.empty (pp p) (i:Int)) (rdOf ByteArray.empty (pp s) (j:Int))).getD false):=fun i j hi hj=>by
    obtain ⟨b,⟨K,h1⟩,h2⟩:=both i j hi hj
    exact ⟨K,fun k hk=>(h1 k hk).trans (by rw [h2];rfl)⟩
  refine ⟨rowT (fun i=>(rdOf ByteArray.empty (pp p) (i:Int)).toList == [42,42]) (fun i j=>(rGT.part (rdOf ByteArray.empty (pp p) (i:Int)) (rdOf ByteArray.empty (pp s) (j:Int))).getD false) (pp p).length (pp s).length,?_,?_⟩
  · obtain ⟨K,hK⟩:=uni2 (pp p).length (pp s).length _ hF
    refine Ev.from_ (max K ((pp s).length * ((pp p).length + 2) + (pp p).length + (pp p).length + 2 + 1)) (fun k hk=>?_)
    refine wild_run (pp p).length (pp s).length _ _ _ _ (by omega) (by omega) (fun i hi=>?_) (fun i j hi hj _=>?_) k (by omega)
    · unfold glob_parts.star
      rw [if_pos (by omega),if_pos (by omega)]
    · unfold glob_parts.fit2
      rw [if_pos (by omega),if_pos (by omega),if_pos (by omega),if_pos (by omega)]
      exact hK k (by omega) i j hi hj
  · refine tab_run _ _ ⟨by omega,by omega⟩ _ _ _ _ (fun i hi=>?_) (fun i j hi hj _=>?_)
    · unfold rGT.star
      rw [if_pos hi]
    · unfold rGT.fit
      rw [if_pos hi,if_pos hj]
      obtain ⟨b,_,h2⟩:=both i j hi hj
      rw [h2];rfl
theorem fits_both (p s:ByteArray) (hp:p.size ≤ 140737488351232) (hs:s.size ≤ 140737488351232):∃ r,Ev (fun k=>glob_Fits.f k p s) r∧Ev (fun k=>rGT.f k p s) r:=by
  obtain ⟨v,h1,h2⟩:=glob_both p hp
  obtain ⟨h3,h4⟩:=path_same s hs
  unfold glob_Fits.f rGT.f
  by_cases c1:v = 0
  · subst c1
    by_cases c2:pathR s = 0
    · rw [c2] at h3 h4
      obtain ⟨⟨g1,g2⟩,g3⟩:=glob_parts_ok p h2
      have hs2:1 ≤ s.size∧s.size ≤ 400:=by
        unfold pathR at c2
        by_cases e:s.size < 1 ∨ 400 < s.size
        · rw [if_pos e] at c2;exact absurd c2 (by decide)
        · omega
      obtain ⟨b,e1,e2⟩:=wild_parts p s g2 hs2.2 g3
      have pne:∀ x:ByteArray,1 ≤ x.size→path_Parts.f x = some (pp x) ∨ ¬ x.size ≤ 1048576:=fun x hx=>by
        by_cases e:x.size ≤ 1048576
        · left
          unfold path_Parts.f
          rw [if_neg (fun e=>by have:=(empty_size x).1 e;omega),split_is x (by omega)]
          rfl
        · right;exact e
      have q1:path_Parts.f p = some (pp p):=(pne p g1).resolve_right (fun h=>h (by omega))
      have q2:path_Parts.f s = some (pp s):=(pne s hs2.1).resolve_right (fun h=>h (by omega))
      refine ⟨(b,0),?_,?_⟩
      · refine Ev.bind h1 (Ev.ifp rfl (Ev.bind h3 (Ev.ifp rfl ?_)))
        rw [q1,q2]
        simp only [Option.bind_some]
        exact Ev.bind e1 (Ev.now _)
      · refine Ev.bind h2 (Ev.ifp rfl (Ev.bind h4 (Ev.ifp rfl ?_)))
        refine Ev.bind (a:=pp p) (Ev.from_ (p.size + 1) (fun k hk=>parts_is p k (by omega) (by omega))) ?_
        refine Ev.bind (a:=pp s) (Ev.from_ (s.size + 1) (fun k hk=>parts_is s k (by omega) (by omega))) ?_
        rw [e2]
        exact Ev.now _
    · exact ⟨(false,pathR s),Ev.bind h1 (Ev.ifp rfl (Ev.bind h3 (Ev.ifn c2 (Ev.now _)))),Ev.bind h2 (Ev.ifp rfl (Ev.bind h4 (Ev.ifn c2 (Ev.now _))))⟩
  · exact ⟨(false,v),Ev.bind h1 (Ev.ifn c1 (Ev.now _)),Ev.bind h2 (Ev.ifn c1 (Ev.now _))⟩
end Go.Proofs.YtcbbcnmifohibaaDoor.Q
end
section
namespace Go.Proofs.YtcbbcnmifohibaaDoor.Q
set_option linter.unusedVariables false
set_option linter.unusedSimpArgs false
open Go.RowKit Go.Proofs.YtcbbcnmifohibaaDoor.All Go.Proofs.YtcbbcnmifohibaaDoorW.PrintWords Go.Proofs.YtcbbcnmifohibaaDoorW.PrintLast Go.Proofs.YtcbbcnmifohibaaDoorW.PrintMore Go.Proofs.YtcbbcnmifohibaaDoorW.PureBase
theorem rule_mem (l:List S58) (n:Nat) (h:n < l.length):rd_T58 l (n:Int) ∈ l:=by
  unfold rd_T58
  rw [Int.toNat_natCast,List.getD_eq_getElem?_getD,List.getElem?_eq_getElem h]
  exact List.getElem_mem h
theorem rules_loop (l:List S58) (hl:l.length ≤ 12) (hg:∀ y ∈ l,y.f1.size ≤ 140737488351232) (d:Nat):∀ n:Nat,l.length - n = d→n ≤ l.length→∃ v,Ev (fun k=>filter_Check.l0 k l (l.length:Int) (n:Int)) v∧Ev (fun k=>creelref_RulesFault.l0 k l (l.length:Int) (n:Int)) v:=by
  induction d with
  | zero =>
    intro n hd hn
    refine ⟨0,Ev.step (f:=fun _=>some 0) (fun k=>?_) (Ev.now _),Ev.step (f:=fun _=>some 0) (fun k=>?_) (Ev.now _)⟩
    · simp only [filter_Check.l0]
      rw [if_neg (by omega)]
    · simp only [creelref_RulesFault.l0]
      rw [if_neg (by omega)]
  | succ d ih =>
    intro n hd hn
    have w:wrap64 ((n:Int) + 1) = ((n + 1:Nat):Int):=by rw [wrap_is (by omega) (by omega)];omega
    obtain ⟨v,h1,h2⟩:=ih (n + 1) (by omega) (by omega)
    obtain ⟨e,g1,g2⟩:=glob_both (rd_T58 l (n:Int)).f1 (hg _ (rule_mem l n (by omega)))
    have p1:Ev (fun k=>(glob_Check.f k (rd_T58 l (n:Int)).f1).bind fun t103=>(if t103 = 0 then (filter_Check.l0 k l (l.length:Int) ((n + 1:Nat):Int)) else (some t103))) (if e = 0 then v else e):=by
      refine Ev.bind g1 ?_
      by_cases c:e = 0
      · rw [if_pos c];exact Ev.ifp c h1
      · rw [if_neg c];exact Ev.ifn c (Ev.now _)
    have p2:Ev (fun k=>(rGF.f k (rd_T58 l (n:Int)).f1).bind fun t103=>(if t103 = 0 then (creelref_RulesFault.l0 k l (l.length:Int) ((n + 1:Nat):Int)) else (some t103))) (if e = 0 then v else e):=by
      refine Ev.bind g2 ?_
      by_cases c:e = 0
      · rw [if_pos c];exact Ev.ifp c h2
      · rw [if_neg c];exact Ev.ifn c (Ev.now _)
    refine ⟨_,Ev.step (fun k=>?_) p1,Ev.step (fun k=>?_) p2⟩
    · simp only [filter_Check.l0]
      rw [if_pos (by omega),if_pos (by omega),if_pos (by omega),w]
    · simp only [creelref_RulesFault.l0]
      rw [if_pos (by omega),if_pos (by omega),if_pos (by omega),w]
theorem rules_both (l:List S58) (hg:∀ y ∈ l,y.f1.size ≤ 140737488351232):∃ v,Ev (fun k=>filter_Check.f k l) v∧Ev (fun k=>creelref_RulesFault.f k l) v:=by
  unfold filter_Check.f creelref_RulesFault.f
  by_cases c:(l.length:Int) > 12
  · exact ⟨1,Ev.ifp c (Ev.now _),Ev.ifp c (Ev.now _)⟩
  · obtain ⟨v,h1,h2⟩:=rules_loop l (by omega) hg l.length 0 (by omega) (by omega)
    exact ⟨v,Ev.ifn c h1,Ev.ifn c h2⟩
open Classical in
noncomputable def fitV (p s:ByteArray):Bool × Int:=if h:p.size ≤ 140737488351232∧s.size ≤ 140737488351232 then (fits_both p s h.1 h.2).choose else (false,0)
theorem fitV_is (p s:ByteArray) (hp:p.size ≤ 140737488351232) (hs:s.size ≤ 140737488351232):Ev (fun k=>glob_Fits.f k p s) (fitV p s)∧Ev (fun k=>rGT.f k p s) (fitV p s):=by
  have e:fitV p s = (fits_both p s hp hs).choose:=by unfold fitV;rw [dif_pos ⟨hp,hs⟩]
  rw [e]
  exact (fits_both p s hp hs).choose_spec
noncomputable def takeV (s:ByteArray) (l:List S58):Bool:=l.foldl (fun is x=>if (fitV x.f1 s).1 = true then x.f0 else is) true
theorem rule_take (l:List S58) (n:Nat) (h:n < l.length):l.take (n + 1) = l.take n ++ [rd_T58 l (n:Int)]:=by
  rw [List.take_succ_eq_append_getElem h]
  unfold rd_T58
  rw [Int.toNat_natCast,List.getD_eq_getElem?_getD,List.getElem?_eq_getElem h]
  rfl
theorem takeV_snoc (s:ByteArray) (l:List S58) (n:Nat) (h:n < l.length):takeV s (l.take (n + 1)) = if (fitV (rd_T58 l (n:Int)).f1 s).1 = true then (rd_T58 l (n:Int)).f0 else takeV s (l.take n):=by
  unfold takeV
  rw [rule_take l n h,List.foldl_append]
  rfl
theorem prog_takes (s:ByteArray) (hs:s.size ≤ 140737488351232) (l:List S58) (hl:l.length ≤ 12) (hg:∀ y ∈ l,y.f1.size ≤ 140737488351232):∀ n:Nat,n ≤ l.length→Ev (fun k=>filter_takes.l0 k l s ((n:Int) - 1)) (takeV s (l.take n))
  | 0,_=>by
    refine Ev.step (f:=fun _=>some true) (fun k=>?_) (Ev.now _)
    simp only [filter_takes.l0]
    rw [if_neg (by omega)]
  | n + 1,hn=>by
    have ih:=prog_takes s hs l hl hg n (by omega)
    have e:((n + 1:Nat):Int) - 1 = (n:Int):=by omega
    have w:wrap64 ((n:Int) - 1) = (n:Int) - 1:=by rw [wrap_is (by omega) (by omega)]
    rw [takeV_snoc s l n (by omega),e]
    refine Ev.step (f:=fun k=>(glob_Fits.f k (rd_T58 l (n:Int)).f1 s).bind fun b=>if b.1 = true then some (rd_T58 l (n:Int)).f0 else filter_takes.l0 k l s ((n:Int) - 1)) (fun k=>?_) ?_
    · simp only [filter_takes.l0]
      rw [if_pos (by omega),if_pos (by omega),if_pos (by omega),w]
    · refine Ev.bind (fitV_is _ s (hg _ (rule_mem l n (by omega))) hs).1 ?_
      by_cases c:(fitV (rd_T58 l (n:Int)).f1 s).1 = true
      · rw [if_pos c];exact Ev.ifp c (Ev.now _)
      · rw [if_neg c];exact Ev.ifn c ih
theorem ref_takes (s:ByteArray) (hs:s.size ≤ 140737488351232) (l:List S58) (hl:l.length ≤ 12) (hg:∀ y ∈ l,y.f1.size ≤ 140737488351232) (d:Nat):∀ n:Nat,l.length - n = d→n ≤ l.length→Ev (fun k=>creelref_taken.l0 k s (takeV s (l.take n)) l (l.length:Int) (n:Int)) (takeV s l):=by
  induction d with
  | zero =>
    intro n hd hn
    have e:n = l.length:=by omega
    refine Ev.step (f:=fun _=>some (takeV s l)) (fun k=>?_) (Ev.now _)
    simp only [creelref_taken.l0]
    rw [if_neg (by omega),e,List.take_length]
  | succ d ih =>
    intro n hd hn
    have w:wrap64 ((n:Int) + 1) = ((n + 1:Nat):Int):=by rw [wrap_is (by omega) (by omega)];omega
    have h1:=ih (n + 1) (by omega) (by omega)
    refine Ev.step (f:=fun k=>(rGT.f k (rd_T58 l (n:Int)).f1 s).bind fun b=>if b.1 = true then creelref_taken.l0 k s (rd_T58 l (n:Int)).f0 l (l.length:Int) ((n + 1:Nat):Int) else creelref_taken.l0 k s (takeV s (l.take n)) l (l.length:Int) ((n + 1:Nat):Int)) (fun k=>?_) ?_
    · simp only [creelref_taken.l0]
      rw [if_pos (by omega),if_pos (by omega),if_pos (by omega),w]
    · refine Ev.bind (fitV_is _ s (hg _ (rule_mem l n (by omega))) hs).2 ?_
      rw [takeV_snoc s l n (by omega)] at h1
      by_cases c:(fitV (rd_T58 l (n:Int)).f1 s).1 = true
      · rw [if_pos c] at h1;exact Ev.ifp c h1
      · rw [if_neg c] at h1;exact Ev.ifn c h1
theorem takes_both (s:ByteArray) (hs:s.size ≤ 140737488351232) (l:List S58) (hl:l.length ≤ 12) (hg:∀ y ∈ l,y.f1.size ≤ 140737488351232):Ev (fun k=>filter_takes.f k l s) (takeV s l)∧Ev (fun k=>creelref_taken.f k l s) (takeV s l):=by
  have h1:=prog_takes s hs l hl hg l.length (Nat.le_refl _)
  rw [List.take_length] at h1
  have h2:=ref_takes s hs l hl hg l.length 0 (by omega) (by omega)
  have w:wrap64 ((l.length:Int) - 1) = (l.length:Int) - 1:=by rw [wrap_is (by omega) (by omega)]
  refine ⟨?_,h2⟩
  unfold filter_takes.f
  rw [w]
  exact h1
theorem rules_len (l:List S58) (h:Ev (fun k=>filter_Check.f k l) 0):l.length ≤ 12:=by
  obtain ⟨K,hK⟩:=h
  have h1:filter_Check.f K l = some 0:=hK K (Nat.le_refl _)
  unfold filter_Check.f at h1
  by_cases c:(l.length:Int) > 12
  · rw [if_pos c] at h1;injection h1 with h1;exact absurd h1 (by decide)
  · omega
end Go.Proofs.YtcbbcnmifohibaaDoor.Q
end
section
namespace Go.Proofs.YtcbbcnmifohibaaDoor.Q
set_option linter.unusedVariables false
set_option linter.unusedSimpArgs false
open Go.RowKit Go.Proofs.YtcbbcnmifohibaaDoor.All Go.Proofs.YtcbbcnmifohibaaDoorW.PrintWords Go.Proofs.YtcbbcnmifohibaaDoorW.PrintLast Go.Proofs.YtcbbcnmifohibaaDoorW.PrintMore Go.Proofs.YtcbbcnmifohibaaDoorW.PureBase
theorem upOf_lt (s:ByteArray) (hs:s.size ≤ 1048576) (h:s.toList ≠ []):(upOf s).size < s.size:=by
  have h0:0 < s.size:=by
    rcases Nat.eq_zero_or_pos s.size with e|e
    · exact absurd ((empty_size s).2 e) h
    · exact e
  rcases up_only s (s.size + 3) hs (by omega) with ⟨_,e,_⟩|⟨i,hi,_,e,_⟩
  · unfold upOf;rw [e];exact h0
  · unfold upOf;rw [e]
    show (s.extract 0 i).size < s.size
    rw [ByteArray.size_extract];omega
noncomputable def inF (rl:List S58):Nat→ByteArray→Bool
  | 0,_=>true
  | q + 1,s=>if s.toList = ([]:List UInt8) then true else takeV s rl && inF rl q (upOf s)
noncomputable def inAll (rl:List S58) (s:ByteArray):Bool:=inF rl s.size s
theorem inF_more (rl:List S58):∀ (q p:Nat) (s:ByteArray),s.size ≤ 1048576→s.size ≤ q→s.size ≤ p→inF rl q s = inF rl p s
  | 0,p,s,_,h,_=>by
    have e:s.toList = ([]:List UInt8):=(empty_size s).2 (by omega)
    cases p with
    | zero=>rfl
    | succ p=>rw [inF,inF,if_pos e]
  | q + 1,p,s,hs,h1,h2=>by
    by_cases e:s.toList = ([]:List UInt8)
    · cases p with
      | zero=>rw [inF,inF,if_pos e]
      | succ p=>rw [inF,inF,if_pos e,if_pos e]
    · have hlt:=upOf_lt s hs e
      cases p with
      | zero=>have:=(empty_size s).2 (by omega);exact absurd this e
      | succ p =>
        rw [inF,inF,if_neg e,if_neg e,inF_more rl q p (upOf s) (by omega) (by omega) (by omega)]
theorem inAll_nil (rl:List S58) (s:ByteArray) (e:s.toList = ([]:List UInt8)):inAll rl s = true:=by
  unfold inAll
  cases s.size with
  | zero=>rfl
  | succ q=>rw [inF,if_pos e]
theorem inAll_up (rl:List S58) (s:ByteArray) (hs:s.size ≤ 1048576) (e:s.toList ≠ []):inAll rl s = (takeV s rl && inAll rl (upOf s)):=by
  have hlt:=upOf_lt s hs e
  unfold inAll
  obtain ⟨n,hn⟩:∃ n,s.size = n + 1:=⟨s.size - 1,by omega⟩
  rw [hn,inF,if_neg e,inF_more rl n (upOf s).size (upOf s) (by omega) (by omega) (by omega)]
theorem ref_l1' (rl:List S58) (hl:rl.length ≤ 12) (hg:∀ y ∈ rl,y.f1.size ≤ 140737488351232) (d:Nat):∀ (s:ByteArray) (b:Bool),s.size ≤ d→s.size ≤ 1048576→Ev (fun k=>creelref_Filtered.l1 k rl s b) (b && inAll rl s):=by
  induction d with
  | zero =>
    intro s b hd hs
    have e:s.toList = ([]:List UInt8):=(empty_size s).2 (by omega)
    rw [inAll_nil rl s e,Bool.and_true]
    refine Ev.step (f:=fun _=>some b) (fun k=>?_) (Ev.now _)
    rw [creelref_Filtered.l1,if_pos e]
  | succ d ih =>
    intro s b hd hs
    by_cases e:s.toList = ([]:List UInt8)
    · rw [inAll_nil rl s e,Bool.and_true]
      refine Ev.step (f:=fun _=>some b) (fun k=>?_) (Ev.now _)
      rw [creelref_Filtered.l1,if_pos e]
    · have hlt:=upOf_lt s hs e
      obtain ⟨_,lst,hup⟩:=up_ev s hs
      rw [inAll_up rl s hs e]
      refine Ev.step (f:=fun k=>(if b = true then creelref_taken.f k rl s else some false).bind fun q=>(creelref_PathSplit.f k s).bind fun u=>creelref_Filtered.l1 k rl u.1 q) (fun k=>?_) ?_
      · rw [creelref_Filtered.l1,if_neg e]
      · have h1:Ev (fun k=>if b = true then creelref_taken.f k rl s else some false) (b && takeV s rl):=by
          cases b with
          | true=>exact Ev.ifp rfl (by rw [Bool.true_and];exact (takes_both s (by omega) rl hl hg).2)
          | false=>exact Ev.ifn (by decide) (Ev.now _)
        refine Ev.bind h1 (Ev.bind hup ?_)
        have:=ih (upOf s) (b && takeV s rl) (by omega) (by omega)
        rw [Bool.and_assoc] at this
        exact this
theorem ref_run (rl:List S58) (hl:rl.length ≤ 12) (hg:∀ y ∈ rl,y.f1.size ≤ 140737488351232):∀ (l o:List S45),(∀ y ∈ l,y.f0.size ≤ 1048576)→o.length + l.length ≤ 1000000→Ev (fun k=>creelref_Filtered.run k rl l o) (o ++ l.filter (fun y=>inAll rl y.f0))
  | [],o,_,_=>by
    rw [List.filter_nil,List.append_nil]
    exact Ev.now _
  | x :: l,o,h,hn=>by
    simp only [List.length_cons] at hn
    have h1:=ref_l1' rl hl hg x.f0.size x.f0 true (Nat.le_refl _) (h x (List.mem_cons_self ..))
    rw [Bool.true_and] at h1
    have hrun:(fun k=>creelref_Filtered.run k rl (x :: l) o) = fun k=>(creelref_Filtered.l1 k rl x.f0 true).bind fun b=>if b = true then (if o.length < 977343669134 then creelref_Filtered.run k rl l (o ++ [x]) else none) else creelref_Filtered.run k rl l o:=rfl
    rw [hrun]
    refine Ev.bind h1 ?_
    by_cases c:inAll rl x.f0 = true
    · rw [List.filter_cons_of_pos (by simpa using c)]
      refine Ev.ifp c (Ev.ifp (by omega) ?_)
      have:=ref_run rl hl hg l (o ++ [x]) (fun y hy=>h y (List.mem_cons_of_mem _ hy)) (by rw [List.length_append,List.length_singleton];omega)
      rw [List.append_assoc] at this
      exact this
    · rw [List.filter_cons_of_neg (by simpa using c)]
      exact Ev.ifn c (ref_run rl hl hg l o (fun y hy=>h y (List.mem_cons_of_mem _ hy)) (by omega))
theorem node_size {x:S45} (h:nodeX x = 0):1 ≤ x.f0.size∧x.f0.size ≤ 400:=pathR_size _ (nodeX_path _ h)
theorem takes_one (rl:List S58) (l:List S45) (hk:TreeOk l) (i:Nat) (hi:i < l.length):(takeV (nd l i).f0 rl = true∧((upOf (nd l i).f0).toList = ([]:List UInt8) ∨ (findR ((l.take i).filter (fun y=>inAll rl y.f0)) (upOf (nd l i).f0)).2 = 0)) ↔ inAll rl (nd l i).f0 = true:=by
  have hx:=nd_mem l i hi
  have hs:=node_size (hk.node _ hx)
  have hne:(nd l i).f0.toList ≠ []:=fun e=>by have:=(empty_size _).1 e;omega
  rw [inAll_up rl _ (by omega) hne,Bool.and_eq_true]
  refine and_congr_right (fun _=>?_)
  by_cases c:(upOf (nd l i).f0).toList = ([]:List UInt8)
  · exact ⟨fun _=>inAll_nil rl _ c,fun _=>Or.inl c⟩
  · obtain ⟨z,hz,z1,_,z3⟩:=hk.up _ hx c
    obtain ⟨j,hj,rfl⟩:=mem_nd hz
    have hji:=order_lt hk.ord j i hj hi z3
    have hf:(findR ((l.take i).filter (fun y=>inAll rl y.f0)) (upOf (nd l i).f0)).2 = 0 ↔ findP ((l.take i).filter (fun y=>inAll rl y.f0)) (upOf (nd l i).f0) < ((l.take i).filter (fun y=>inAll rl y.f0)).length:=by
      unfold findR
      by_cases q:findP ((l.take i).filter (fun y=>inAll rl y.f0)) (upOf (nd l i).f0) < ((l.take i).filter (fun y=>inAll rl y.f0)).length
      · rw [if_pos q];exact ⟨fun _=>q,fun _=>rfl⟩
      · rw [if_neg q];exact ⟨fun e=>absurd e (by show ¬ (5:Int) = 0;decide),fun e=>absurd e q⟩
    rw [hf,find_lt]
    constructor
    · rintro (e|⟨y,hy,e⟩)
      · exact absurd e c
      · have:=(List.mem_filter.1 hy).2
        rw [toList_inj e] at this
        exact this
    · intro h
      exact Or.inr ⟨nd l j,List.mem_filter.2 ⟨nd_mem_take (by omega) hji,by rw [z1];exact h⟩,by rw [z1]⟩
theorem drop_nd (l:List S45) (i:Nat) (h:i < l.length):l.drop i = nd l i :: l.drop (i + 1):=by
  rw [List.drop_eq_getElem_cons h,nd_get]
theorem one_is (rl:List S58) (hl:rl.length ≤ 12) (hg:∀ y ∈ rl,y.f1.size ≤ 140737488351232) (l:List S45) (hk:TreeOk l) (i:Nat) (hi:i < l.length):Ev (fun k=>filter_Run.one k rl (nd l i) ((l.take i).filter (fun y=>inAll rl y.f0))) (inAll rl (nd l i).f0):=by
  have h40:=hk.len
  have hs:=node_size (hk.node _ (nd_mem l i hi))
  have hone:=takes_one rl l hk i hi
  have hle:=List.length_filter_le (fun y:S45=>inAll rl y.f0) (l.take i)
  rw [take_len l i (by omega)] at hle
  obtain ⟨u1,_,_⟩:=up_ev (nd l i).f0 (by omega)
  have ff:=(find_ev ((l.take i).filter (fun y=>inAll rl y.f0)) (upOf (nd l i).f0) (Nat.le_trans hle (by omega))).1
  have ft:=(takes_both (nd l i).f0 (by omega) rl hl hg).1
  unfold filter_Run.one
  rw [u1]
  simp only [Option.bind_some]
  refine Ev.bind ff (Ev.bind ft (Ev.const ?_))
  congr 1
  rw [Bool.eq_iff_iff,← hone]
  by_cases c1:takeV (nd l i).f0 rl = true
  · rw [if_pos c1]
    by_cases c2:(upOf (nd l i).f0).toList = ([]:List UInt8)
    · rw [if_pos c2];exact ⟨fun _=>⟨c1,Or.inl c2⟩,fun _=>rfl⟩
    · rw [if_neg c2,decide_eq_true_eq]
      exact ⟨fun h=>⟨c1,Or.inr h⟩,fun h=>h.2.resolve_left c2⟩
  · rw [if_neg c1]
    exact ⟨fun h=>(by cases h),fun h=>absurd h.1 c1⟩
theorem prog_run (rl:List S58) (hl:rl.length ≤ 12) (hg:∀ y ∈ rl,y.f1.size ≤ 140737488351232) (l:List S45) (hk:TreeOk l) (d:Nat):∀ i:Nat,l.length - i = d→i ≤ l.length→Ev (fun k=>filter_Run.run k rl (l.drop i) ((l.take i).filter (fun y=>inAll rl y.f0))) (l.filter (fun y=>inAll rl y.f0)):=by
  have h40:=hk.len
  induction d with
  | zero =>
    intro i hdi hi
    rw [List.drop_of_length_le (by omega),List.take_of_length_le (by omega)]
    exact Ev.now _
  | succ d ih =>
    intro i hdi hi
    have h1:=ih (i + 1) (by omega) (by omega)
    have hle:=List.length_filter_le (fun y:S45=>inAll rl y.f0) (l.take i)
    rw [take_len l i hi] at hle
    rw [take_nd l i (by omega),List.filter_append] at h1
    rw [drop_nd l i (by omega)]
    have hrun:(fun k=>filter_Run.run k rl (nd l i :: l.drop (i + 1)) ((l.take i).filter (fun y=>inAll rl y.f0))) = fun k=>(filter_Run.one k rl (nd l i) ((l.take i).filter (fun y=>inAll rl y.f0))).bind fun b=>if b = true then (if ((l.take i).filter (fun y=>inAll rl y.f0)).length < 977343669134 then filter_Run.run k rl (l.drop (i + 1)) ((l.take i).filter (fun y=>inAll rl y.f0) ++ [nd l i]) else none) else filter_Run.run k rl (l.drop (i + 1)) ((l.take i).filter (fun y=>inAll rl y.f0)):=rfl
    rw [hrun]
    refine Ev.bind (one_is rl hl hg l hk i (by omega)) ?_
    by_cases c:inAll rl (nd l i).f0 = true
    · rw [List.filter_cons_of_pos (by simpa using c),List.filter_nil] at h1
      exact Ev.ifp c (Ev.ifp (by omega) h1)
    · rw [List.filter_cons_of_neg (by simpa using c),List.filter_nil,List.append_nil] at h1
      exact Ev.ifn c h1
theorem filt_ok (rl:List S58) (l:List S45) (hk:TreeOk l):TreeOk (l.filter (fun y=>inAll rl y.f0)):=by
  refine ⟨Nat.le_trans (List.length_filter_le _ _) hk.len,fun y hy=>hk.node y (List.mem_filter.1 hy).1,hk.ord.filter _,hk.same.filter _,fun y hy hne=>?_⟩
  obtain ⟨hy1,hy2⟩:=List.mem_filter.1 hy
  obtain ⟨z,hz,z1,z2,z3⟩:=hk.up y hy1 hne
  refine ⟨z,List.mem_filter.2 ⟨hz,?_⟩,z1,z2,z3⟩
  have hs:=node_size (hk.node _ hy1)
  have hne2:y.f0.toList ≠ []:=fun e=>by have:=(empty_size _).1 e;omega
  have hy3:inAll rl y.f0 = true:=hy2
  rw [inAll_up rl _ (by omega) hne2,Bool.and_eq_true] at hy3
  show inAll rl z.f0 = true
  rw [z1]
  exact hy3.2
theorem filt_both (l:List S45) (rl:List S58) (hn:∀ y ∈ l,okN y) (hd:∀ y ∈ l,y.f5.length ≤ 140737488351232) (hg:∀ y ∈ rl,y.f1.size ≤ 140737488351232):∃ r,Ev (fun k=>filter_Run.f k l rl) r∧Ev (fun k=>creelref_Filtered.f k l rl) r∧TreeOk r.1∧∀ y ∈ r.1,y ∈ l:=by
  have t1:=prog_tree l hn
  have t2:=ref_tree l hn
  obtain ⟨v,h1,h2⟩:=rules_both rl hg
  have nilOk:TreeOk ([]:List S45):=⟨by simp,by simp,List.Pairwise.nil,List.Pairwise.nil,by simp⟩
  unfold filter_Run.f creelref_Filtered.f
  by_cases c1:treeR l = 0
  · rw [c1] at t1 t2
    by_cases c2:v = 0
    · rw [c2] at h1 h2
      have hk:=treeOk_of l c1
      have hl:=rules_len rl h1
      have p:=prog_run rl hl hg l hk l.length 0 (by omega) (by omega)
      have r:=ref_run rl hl hg l [] (fun y hy=>by have:=node_size (hk.node y hy);omega) (by have:=hk.len;simp;omega)
      rw [List.nil_append] at r
      obtain ⟨hc1,hc⟩:=copy_both (l.filter (fun y=>inAll rl y.f0)) (by have:=List.length_filter_le (fun y:S45=>inAll rl y.f0) l;have:=hk.len;omega) (fun y hy=>hd y (List.mem_filter.1 hy).1)
      have p2:Ev (fun k=>(filter_Run.run k rl l []).bind fun o=>(tree_Copy.f o).bind fun r=>some (r,0)) (l.filter (fun y=>inAll rl y.f0),(0:Int)):=Ev.bind p (Ev.const (by rw [hc1];rfl))
      exact ⟨(l.filter (fun y=>inAll rl y.f0),0),Ev.bind t1 (Ev.ifp rfl (Ev.bind h1 (Ev.ifp rfl p2))),Ev.bind t2 (Ev.ifp rfl (Ev.bind h2 (Ev.ifp rfl (Ev.bind r (Ev.bind hc (Ev.now _)))))),filt_ok rl l hk,fun y hy=>(List.mem_filter.1 hy).1⟩
    · exact ⟨([],v),Ev.bind t1 (Ev.ifp rfl (Ev.bind h1 (Ev.ifn c2 (Ev.now _)))),Ev.bind t2 (Ev.ifp rfl (Ev.bind h2 (Ev.ifn c2 (Ev.now _)))),nilOk,fun y hy=>(by cases hy)⟩
  · exact ⟨([],treeR l),Ev.bind t1 (Ev.ifn c1 (Ev.now _)),Ev.bind t2 (Ev.ifn c1 (Ev.now _)),nilOk,fun y hy=>(by cases hy)⟩
end Go.Proofs.YtcbbcnmifohibaaDoor.Q
end
section
namespace Go.Proofs.YtcbbcnmifohibaaDoor.Q
set_option linter.unusedVariables false
set_option linter.unusedSimpArgs false
open Go.RowKit Go.Proofs.YtcbbcnmifohibaaDoor.All Go.Proofs.YtcbbcnmifohibaaDoorW.PrintWords Go.Proofs.YtcbbcnmifohibaaDoorW.PrintLast Go.Proofs.YtcbbcnmifohibaaDoorW.PrintMore Go.Proofs.YtcbbcnmifohibaaDoorW.PureBase
open Go.Proofs.YtcbbcnmifohibaaDoorW.MapOwn (get get_nil get_same get_other)
def sm (l:List Node) (i:Nat):Int:=(nd l i).f2
def firstIdx (l:List Node) (s:Int):Nat:=l.findIdx (fun y=>decide (y.f2 = s))
def firstN (l:List Node) (i:Nat):Nat:=if sm l i = 0 then i else firstIdx l (sm l i)
theorem fi_le (l:List Node) (s:Int) (i:Nat) (hi:i < l.length) (h:sm l i = s):firstIdx l s ≤ i:=by
  by_cases c:firstIdx l s ≤ i
  · exact c
  · have:=List.not_of_lt_findIdx (p:=fun y:Node=>decide (y.f2 = s)) (xs:=l) (i:=i) (by unfold firstIdx at c;omega)
    rw [nd_get l i hi] at this
    exact absurd (show decide ((nd l i).f2 = s) = true from decide_eq_true h) (by simpa using this)
theorem fi_at (l:List Node) (s:Int) (h:firstIdx l s < l.length):sm l (firstIdx l s) = s:=by
  have this:decide ((l[firstIdx l s]'h).f2 = s) = true:=List.findIdx_getElem (p:=fun y:Node=>decide (y.f2 = s)) (xs:=l) (w:=h)
  rw [nd_get l _ h] at this
  exact of_decide_eq_true this
theorem fn_le (l:List Node) (i:Nat) (hi:i < l.length):firstN l i ≤ i:=by
  unfold firstN
  split
  · exact Nat.le_refl _
  · exact fi_le l _ i hi rfl
theorem fn_sm (l:List Node) (i:Nat) (hi:i < l.length):sm l (firstN l i) = sm l i:=by
  have:=fn_le l i hi
  unfold firstN at this ⊢
  split
  · rfl
  · rename_i h
    rw [if_neg h] at this
    exact fi_at l _ (by omega)
theorem fn_eq (l:List Node) (i j:Nat) (hi:i < l.length) (hj:j < l.length):firstN l j = firstN l i ↔ (j = i ∨ (sm l i ≠ 0∧sm l j = sm l i)):=by
  constructor
  · intro h
    have e:sm l j = sm l i:=by rw [← fn_sm l i hi,← fn_sm l j hj,h]
    by_cases z:sm l i = 0
    · left
      unfold firstN at h
      rw [if_pos z,if_pos (e.trans z)] at h
      exact h
    · exact Or.inr ⟨z,e⟩
  · rintro (rfl|⟨z,e⟩)
    · rfl
    · unfold firstN
      rw [if_neg z,if_neg (by rw [e];exact z),e]
def firstsL (l:List Node):List Int:=(List.range l.length).map fun i=>(firstN l i:Int)
theorem firstsL_len (l:List Node):(firstsL l).length = l.length:=by unfold firstsL;simp
theorem range_drop (n i:Nat) (h:i < n):(List.range n).drop i = i :: (List.range n).drop (i + 1):=by
  rw [List.drop_eq_getElem_cons (by simpa using h),List.getElem_range]
def knows (l:List Node) (i:Nat) (m:List (Int × Int)):Prop:=∀ s,s ≠ 0→get m s = if firstIdx l s < i then some (firstIdx l s:Int) else none
theorem knows_step (l:List Node) (i:Nat) (hi:i < l.length) (m m':List (Int × Int)) (h:knows l i m) (h1:∀ s,s ≠ 0→s ≠ sm l i→get m' s = get m s) (h2:sm l i ≠ 0→get m' (sm l i) = some (firstIdx l (sm l i):Int)):knows l (i + 1) m':=by
  intro s hs
  by_cases e:s = sm l i
  · subst e
    rw [h2 hs,if_pos (by have:=fi_le l _ i hi rfl;omega)]
  · rw [h1 s hs e,h s hs]
    have:firstIdx l s ≠ i:=fun e2=>e (by rw [← e2];exact (fi_at l s (by omega)).symm)
    by_cases c:firstIdx l s < i
    · rw [if_pos c,if_pos (by omega)]
    · rw [if_neg c,if_neg (by omega)]
theorem meet_one (l:List Node) (i:Nat) (hi:i < l.length) (hw:(Lit.int .i64 (sm l i)).wf = true) (m:List (Int × Int)) (h:knows l i m):∃ m',link_Firsts.meetF m (sm l i) (i:Int) = some ((firstN l i:Int),m')∧knows l (i + 1) m':=by
  unfold link_Firsts.meetF firstN
  by_cases z:sm l i = 0
  · rw [if_pos z,if_pos z]
    exact ⟨m,rfl,knows_step l i hi m m h (fun _ _ _=>rfl) (fun h=>absurd z h)⟩
  · rw [if_neg z,if_neg z,if_pos hw,h _ z]
    by_cases c:firstIdx l (sm l i) < i
    · rw [if_pos c]
      exact ⟨m,rfl,knows_step l i hi m m h (fun _ _ _=>rfl) (fun _=>by rw [h _ z,if_pos c])⟩
    · have e:firstIdx l (sm l i) = i:=by have:=fi_le l _ i hi rfl;omega
      rw [if_neg c,e]
      exact ⟨_,rfl,knows_step l i hi m _ h (fun s _ hs=>get_other m _ (fun x=>hs x.symm)) (fun _=>by rw [e];exact get_same m _ _)⟩
theorem run_loop (l:List Node) (hl:l.length ≤ 1000000) (hw:∀ i,i < l.length→(Lit.int .i64 (sm l i)).wf = true) (d:Nat):∀ (i:Nat) (m:List (Int × Int)) (acc:List Int),l.length - i = d→i ≤ l.length→acc.length = i→knows l i m →
    link_Firsts.run (l.drop i) (i:Int) m acc = some (acc ++ ((List.range l.length).drop i).map fun j=>(firstN l j:Int)):=by
  induction d with
  | zero =>
    intro i m acc hd hi ha hm
    have e:i = l.length:=by omega
    subst e
    rw [List.drop_length,List.drop_of_length_le (by simp)]
    simp [link_Firsts.run]
  | succ d ih =>
    intro i m acc hd hi ha hm
    have hi':i < l.length:=by omega
    obtain ⟨m',h1,h2⟩:=meet_one l i hi' (hw i hi') m hm
    rw [List.drop_eq_getElem_cons hi',nd_get l i hi',range_drop _ _ hi',List.map_cons]
    unfold link_Firsts.run
    rw [show link_Firsts.meetF m (nd l i).f2 (i:Int) = _ from h1]
    simp only [Option.bind_some]
    rw [if_pos (by omega),show ((i:Int) + 1) = ((i + 1:Nat):Int) by omega,ih (i + 1) m' _ (by omega) (by omega) (by simp;omega) h2]
    simp
def firstsR (l:List Node):List Int × Int:=if treeR l = 0 then (firstsL l,0) else ([],treeR l)
theorem sm_wf (l:List Node) (hg:∀ y ∈ l,okN y) (i:Nat) (hi:i < l.length):(Lit.int .i64 (sm l i)).wf = true:=(hg _ (nd_mem l i hi)).2.2.2.2
theorem firsts_prog (l:List Node) (hg:∀ y ∈ l,okN y):Ev (fun k=>link_Firsts.f k l) (firstsR l):=by
  unfold firstsR link_Firsts.f
  by_cases h:treeR l = 0
  · rw [if_pos h]
    obtain ⟨h40,_⟩:=tree_zero l h
    have e:=run_loop l (by omega) (sm_wf l hg) l.length 0 [] [] (by omega) (by omega) rfl (fun s hs=>by rw [get_nil,if_neg (by omega)])
    refine Ev.bind (prog_tree l hg) (Ev.ifp h (Ev.ifp (by omega) (Ev.const ?_)))
    rw [show link_Firsts.run l 0 [] [] = _ from e]
    rfl
  · rw [if_neg h]
    exact Ev.bind (prog_tree l hg) (Ev.ifn h (Ev.now _))
def namesM (l:List Node):List Int:=(firstsL l).map fun a=>((firstsL l).count a:Int)
theorem namesM_len (l:List Node):(namesM l).length = l.length:=by unfold namesM;rw [List.length_map,firstsL_len]
theorem firstsL_wf (l:List Node) (hl:l.length ≤ 1000000):∀ a ∈ firstsL l,(Lit.int .i64 a).wf = true:=by
  intro a ha
  unfold firstsL at ha
  obtain ⟨i,hi,rfl⟩:=List.mem_map.mp ha
  have hi':=List.mem_range.mp hi
  have:=fn_le l i hi'
  show (decide ((-9223372036854775808:Int) ≤ (firstN l i:Int)) && decide ((firstN l i:Int) ≤ 9223372036854775807)) = true
  rw [Bool.and_eq_true]
  exact ⟨decide_eq_true (by omega),decide_eq_true (by omega)⟩
def namesS (l:List Node):List Int × Int:=if treeR l = 0 then (namesM l,0) else ([],treeR l)
def isOf (l:List Node) (i j:Nat):Bool:=decide (j = i ∨ (sm l i > 0∧sm l j = sm l i))
def numN (l:List Node) (i:Nat):Nat:=(List.range l.length).countP (isOf l i)
theorem num_is (l:List Node) (i:Nat) (hi:i < l.length) (hp:0 ≤ sm l i):(firstsL l).count (firstN l i:Int) = numN l i:=by
  unfold firstsL numN
  rw [List.count,List.countP_map]
  refine List.countP_congr (fun j hj=>?_)
  have hj':=List.mem_range.mp hj
  have:=fn_eq l i j hi hj'
  unfold isOf
  simp only [Function.comp,beq_iff_eq,decide_eq_true_eq]
  rw [show ((firstN l j:Int) = (firstN l i:Int)) ↔ firstN l j = firstN l i by omega,this,show sm l i > 0 ↔ sm l i ≠ 0 by omega]
theorem same_nneg (l:List Node) (h:treeR l = 0) (i:Nat) (hi:i < l.length):0 ≤ sm l i:=by
  have:=(step_zero l i _ ((tree_zero l h).2 i hi)).1
  unfold nodeX nodeR restR at this
  unfold sm
  repeat' split at this
  all_goals omega
end Go.Proofs.YtcbbcnmifohibaaDoor.Q
end
section
namespace Go.Proofs.YtcbbcnmifohibaaDoor.Q
set_option linter.unusedVariables false
set_option linter.unusedSimpArgs false
open Go.RowKit Go.Proofs.YtcbbcnmifohibaaDoor.All Go.Proofs.YtcbbcnmifohibaaDoorW.PrintWords Go.Proofs.YtcbbcnmifohibaaDoorW.PrintLast Go.Proofs.YtcbbcnmifohibaaDoorW.PrintMore Go.Proofs.YtcbbcnmifohibaaDoorW.PureBase
theorem entry_same (x:S71) (h:x.f4.length ≤ 140737488351232):creellaw_sameEntries.eq x x = some true:=by
  unfold creellaw_sameEntries.eq creellaw_sameEntry.f creellaw_sameBytes.f
  simp
theorem entries_same (l:List S71) (h:∀ y ∈ l,y.f4.length ≤ 140737488351232):creellaw_sameEntries.l0 l l = some true:=by
  induction l with
  | nil=>rfl
  | cons x xs ih =>
    show ((creellaw_sameEntries.eq x x).bind fun b=>if b = true then creellaw_sameEntries.l0 xs xs else some false) = _
    rw [entry_same x (h x (List.mem_cons_self ..))]
    exact ih (fun y hy=>h y (List.mem_cons_of_mem _ hy))
theorem entries_self (l:List S71) (hl:l.length ≤ 140737488351232) (hd:∀ y ∈ l,y.f4.length ≤ 140737488351232):creellaw_sameEntries.f l l = some true:=by
  unfold creellaw_sameEntries.f
  rw [if_pos rfl,if_pos hl,entries_same l hd]
def entV (l:List S45) (i:Nat):S71:=if firstN l i < i then ⟨(nd l i).f0,4,(nd l (firstN l i)).f0,(nd l i).f4,[]⟩ else creelref_Planned.ent (nd l i)
theorem pick_is (l:List S45) (x:S45):∀ (k:Nat) (y:S71),k ≤ l.length→creelref_Planned.pick l x k y = if x.f2 > 0∧firstIdx l x.f2 < k then ⟨y.f0,4,(nd l (firstIdx l x.f2)).f0,y.f3,[]⟩ else y
  | 0,y,_=>by
    rw [if_neg (by omega)]
    rfl
  | k + 1,y,hk=>by
    rw [creelref_Planned.pick,rd_nd]
    by_cases m:x.f2 > 0∧(nd l k).f2 = x.f2
    · rw [if_pos m,pick_is l x k _ (by omega)]
      have e1:firstIdx l x.f2 ≤ k:=fi_le l x.f2 k (by omega) m.2
      by_cases c:firstIdx l x.f2 < k
      · rw [if_pos ⟨m.1,c⟩,if_pos ⟨m.1,by omega⟩]
      · have e:firstIdx l x.f2 = k:=by omega
        rw [if_neg (fun q=>c q.2),if_pos ⟨m.1,by omega⟩,e]
    · rw [if_neg m,pick_is l x k _ (by omega)]
      by_cases h:x.f2 > 0∧firstIdx l x.f2 < k
      · rw [if_pos h,if_pos ⟨h.1,Nat.lt_succ_of_lt h.2⟩]
      · rw [if_neg h,if_neg]
        rintro ⟨q1,q2⟩
        have e:firstIdx l x.f2 = k:=by
          rcases Nat.lt_or_ge (firstIdx l x.f2) k with z|z
          · exact absurd ⟨q1,z⟩ h
          · omega
        have e2:=fi_at l x.f2 (by omega)
        rw [e] at e2
        exact m ⟨q1,e2⟩
theorem ent_is (l:List S45) (i:Nat) (hi:i < l.length) (hn:0 ≤ sm l i):creelref_Planned.pick l (nd l i) i (creelref_Planned.ent (nd l i)) = entV l i:=by
  rw [pick_is l _ i _ (by omega)]
  unfold entV firstN
  by_cases h:sm l i = 0
  · rw [if_pos h,if_neg (Nat.lt_irrefl i),if_neg (show ¬ ((nd l i).f2 > 0∧firstIdx l (nd l i).f2 < i) from fun q=>by have:=q.1;unfold sm at h;omega)]
  · rw [if_neg h]
    have hp:(nd l i).f2 > 0:=by unfold sm at hn h;omega
    by_cases c:firstIdx l (sm l i) < i
    · rw [if_pos c,if_pos (show (nd l i).f2 > 0∧firstIdx l (nd l i).f2 < i from ⟨hp,c⟩)];rfl
    · rw [if_neg c,if_neg (show ¬ ((nd l i).f2 > 0∧firstIdx l (nd l i).f2 < i) from fun q=>c q.2)]
def entsV (l:List S45):List S71:=(List.range l.length).map (entV l)
theorem ents_take (l:List S45) (i:Nat) (hi:i < l.length):(entsV l).take (i + 1) = (entsV l).take i ++ [entV l i]:=by
  unfold entsV
  rw [List.take_succ_eq_append_getElem (by simpa using hi)]
  simp
theorem ents_len (l:List S45):(entsV l).length = l.length:=by unfold entsV;simp
theorem ref_make (l:List S45) (hl:l.length ≤ 1000000) (hn:∀ i,i < l.length→0 ≤ sm l i):∀ d i,i + d = l.length→creelref_Planned.run l d i ((entsV l).take i) = some (entsV l)
  | 0,i,h=>by
    show some _ = _
    rw [List.take_of_length_le (by rw [ents_len];omega)]
  | d + 1,i,h=>by
    rw [creelref_Planned.run,if_pos (by rw [List.length_take,ents_len];omega),rd_nd,ent_is l i (by omega) (hn i (by omega)),← ents_take l i (by omega)]
    exact ref_make l hl hn d (i + 1) (by omega)
theorem rd_firsts (l:List S45) (i:Nat) (hi:i < l.length):rd (firstsL l) (i:Int) = (firstN l i:Int):=by
  unfold rd firstsL
  rw [Int.toNat_natCast,List.getD_eq_getElem?_getD,List.getElem?_map,List.getElem?_range hi]
  rfl
theorem prog_make (l:List S45) (hl:l.length ≤ 1000000) (d:Nat):∀ i:Nat,l.length - i = d→i ≤ l.length→Ev (fun k=>plan_Make.l0 k l (firstsL l) ((entsV l).take i) l (l.length:Int) (i:Int)) (entsV l,0):=by
  induction d with
  | zero =>
    intro i hd hi
    refine Ev.step (f:=fun _=>some (entsV l,0)) (fun k=>?_) (Ev.now _)
    simp only [plan_Make.l0]
    rw [if_neg (by omega),List.take_of_length_le (by rw [ents_len];omega)]
  | succ d ih =>
    intro i hd hi
    have hlt:i < l.length:=by omega
    have w:wrap64 ((i:Int) + 1) = ((i + 1:Nat):Int):=by rw [wrap_is (by omega) (by omega)];omega
    have h1:=ih (i + 1) (by omega) (by omega)
    have hle:=fn_le l i hlt
    have hf:=rd_firsts l i hlt
    have hlen:((entsV l).take i).length = i:=by rw [List.length_take,ents_len];omega
    have hfl:=firstsL_len l
    rw [ents_take l i hlt] at h1
    refine Ev.step (f:=fun k=>plan_Make.l0 k l (firstsL l) ((entsV l).take i ++ [entV l i]) l (l.length:Int) ((i + 1:Nat):Int)) (fun k=>?_) h1
    simp only [plan_Make.l0]
    rw [if_pos (by omega),if_pos (by omega),if_pos (by omega),if_pos (by omega),hf,w]
    clear w
    unfold entV
    by_cases c:firstN l i < i
    · rw [if_pos (by omega),if_pos (by omega),if_pos (by omega),if_pos (by omega),if_pos c,rd_nd,rd_nd]
    · rw [if_neg (by omega),if_pos (by omega),if_neg c,rd_nd]
      rfl
theorem make_both (l:List S45) (rl:List S58) (hn:∀ y ∈ l,okN y) (hd:∀ y ∈ l,y.f5.length ≤ 140737488351232) (hg:∀ y ∈ rl,y.f1.size ≤ 140737488351232):∃ r,Ev (fun k=>plan_Make.f k l rl) r∧Ev (fun k=>creelref_Planned.f k l rl) r∧r.1.length ≤ 40∧∀ y ∈ r.1,y.f4.length ≤ 140737488351232:=by
  obtain ⟨r,h1,h2,h3,h4⟩:=filt_both l rl hn hd hg
  unfold plan_Make.f creelref_Planned.f
  by_cases c:r.2 = 0
  · have ht:=treeR_of r.1 h3
    have h40:=h3.len
    have f1:=firsts_prog r.1 (fun y hy=>hn y (h4 y hy))
    unfold firstsR at f1
    rw [if_pos ht] at f1
    have hnn:=fun i hi=>same_nneg r.1 ht i hi
    have p:=prog_make r.1 (by omega) r.1.length 0 (by omega) (by omega)
    have q:=ref_make r.1 (by omega) hnn r.1.length 0 (by omega)
    rw [List.take_zero] at p q
    refine ⟨(entsV r.1,0),Ev.bind h1 (Ev.ifp c (Ev.bind f1 p)),Ev.bind h2 (Ev.ifp c (Ev.const (by rw [q];rfl))),by show (entsV r.1).length ≤ 40;rw [ents_len];exact h40,fun y hy=>?_⟩
    obtain ⟨i,hi,rfl⟩:=List.mem_map.1 hy
    rw [List.mem_range] at hi
    unfold entV
    by_cases c2:firstN r.1 i < i
    · rw [if_pos c2];simp
    · rw [if_neg c2];exact hd _ (h4 _ (nd_mem r.1 i hi))
  · exact ⟨([],r.2),Ev.bind h1 (Ev.ifn c (Ev.now _)),Ev.bind h2 (Ev.ifn c (Ev.now _)),by simp,fun y hy=>(by cases hy)⟩
end Go.Proofs.YtcbbcnmifohibaaDoor.Q
end
