/- Made by programs of the prover: walks of Go functions, the words that they use, and plain laws, each text in a section of its own; no condition of its own. -/
import Derived.Lib.Bytealg
import Derived.Lib.IndexAny
import Derived.Lib.IndexLaws
import Derived.Test.YtlfeijjilndljaaDoorZPlanGrows1
import Derived.Test.YtlfeijjilndljaaDoorZPlanGrows2
import Derived.Test.YtlfeijjilndljaaDoorZPlanGrows3
import Derived.Test.YtlfeijjilndljaaDoorZPlanGrows4
import Derived.Test.YtlfeijjilndljaaDoorZPlanGrows5
import Derived.Test.YtlfeijjilndljaaDoorZPlanGrows6
section
namespace Go.Proofs.YtlfeijjilndljaaDoor.GPlanGrows
open Go.RowKit Go.Proofs.YtlfeijjilndljaaDoor.All Go.Proofs.YtlfeijjilndljaaDoorW.PrintWords Go.Proofs.YtlfeijjilndljaaDoorW.PrintLast Go.Proofs.YtlfeijjilndljaaDoorW.Opens
set_option linter.unusedVariables false
def good32 (x:S32):Prop:=((Lit.int .i64 x.f0).wf = true)∧((Lit.int .i64 x.f1).wf = true)∧((Lit.int .i64 x.f2).wf = true)∧(x.f3.size ≤ 140737488351232)∧(x.f4.size ≤ 140737488351232)∧((Lit.int .i64 x.f5).wf = true)∧((Lit.int .i64 x.f6).wf = true)
theorem opens32:Opens Tryd.prog 32 k32 good32:=opens_iso (f:=(fun x:S32=>(x.f0,x.f1,x.f2,x.f3,x.f4,x.f5,x.f6))) (fun p=>⟨p.1,p.2.1,p.2.2.1,p.2.2.2.1,p.2.2.2.2.1,p.2.2.2.2.2.1,p.2.2.2.2.2.2⟩) (fun _=>rfl) (opens_struct Tryd.underlying32 (by kernel_rfl) (opensF_cons (off2:=1) rfl (by kernel_rfl) (opens_int Tryd.underlying3) rfl (opensF_cons (off2:=2) rfl (by kernel_rfl) (opens_int Tryd.underlying3) rfl (opensF_cons (off2:=3) rfl (by kernel_rfl) (opens_int Tryd.underlying3) rfl (opensF_cons (off2:=4) rfl (by kernel_rfl) (opens_string Tryd.underlying9) rfl (opensF_cons (off2:=5) rfl (by kernel_rfl) (opens_string Tryd.underlying9) rfl (opensF_cons (off2:=6) rfl (by kernel_rfl) (opens_int Tryd.underlying3) rfl (opensF_one rfl (by kernel_rfl) (opens_int Tryd.underlying3)))))))))
def good35 (x:S35):Prop:=(x.f0.size ≤ 140737488351232)∧((Lit.int .i64 x.f1).wf = true)∧(x.f2.size ≤ 140737488351232)∧(good32 x.f3)∧(x.f4.length * 1 ≤ 140737488351232∧∀ y ∈ x.f4,(Lit.int .u8 y).wf = true)
theorem opens35:Opens Tryd.prog 35 k35 good35:=opens_iso (f:=(fun x:S35=>(x.f0,x.f1,x.f2,x.f3,x.f4))) (fun p=>⟨p.1,p.2.1,p.2.2.1,p.2.2.2.1,p.2.2.2.2⟩) (fun _=>rfl) (opens_struct Tryd.underlying35 (by kernel_rfl) (opensF_cons (off2:=1) rfl (by kernel_rfl) (opens_string Tryd.underlying9) rfl (opensF_cons (off2:=2) rfl (by kernel_rfl) (opens_int Tryd.underlying3) rfl (opensF_cons (off2:=3) rfl (by kernel_rfl) (opens_string Tryd.underlying9) rfl (opensF_cons (off2:=10) rfl (by kernel_rfl) opens32 rfl (opensF_one rfl (by kernel_rfl) (opens_slice (B:=1) Tryd.underlying33 (by kernel_rfl) (by kernel_rfl) (opens_int Tryd.underlying5))))))))
def Pure:Prop:=∀ (l0:List S35),(l0.length * 136 ≤ 140737488351232∧∀ y ∈ l0,good35 y)→∃ k,creellaw_PlanGrows.f k l0 = some true
theorem walk (P:Pure) (l0:List S35) (w:World) (g0:l0.length * 136 ≤ 140737488351232∧∀ y ∈ l0,good35 y) {A0:Option Addr} {c0:Nat} (r0:Kd.C k35 w A0 l0.length l0) (hc0:l0.length ≤ c0) :
 Calls Tryd.prog 3 #[.slice A0 l0.length c0] w fun e w'=>e = .returned (.bool true)∧Below w.heap.size w w':=by
 obtain ⟨k,h⟩:=P l0 g0;refine (creellaw_PlanGrows.calls k A0 c0 l0 true w r0 hc0 h).mono ?_;rintro e w' ⟨rfl,hd⟩;exact ⟨rfl,hd⟩
end Go.Proofs.YtlfeijjilndljaaDoor.GPlanGrows
end
section
namespace Go.Proofs.YtlfeijjilndljaaDoorW.PureBase
open Go.RowKit Go.Proofs.YtlfeijjilndljaaDoorW.PrintWords
theorem wrap_is {x:Int} (h0:-9223372036854775808 ≤ x) (h:x ≤ 9223372036854775807):wrap64 x = x:=by unfold wrap64;omega
theorem toList_data (s:ByteArray):s.toList = s.data.toList:=ByteArray.toList_eq s
theorem bt_get (s:ByteArray) (i:Nat) (h:i < s.size):bt s i = ((s.data.toList[i]'(by simpa using h)).toNat:Int):=by
  unfold bt
  rw [dif_pos (by simpa using h)]
  simp
  rfl
theorem bt_eq_iff (s:ByteArray) (i:Nat) (h:i < s.size) (c:Int) (c0:0 ≤ c) (c1:c ≤ 255):bt s i = c ↔ s.data.toList[i]? = some c.toNat.toUInt8:=by
  rw [bt_get s i h,List.getElem?_eq_getElem (by simpa using h)]
  simp only [Option.some.injEq]
  constructor
  · intro e
    rw [← e]
    simp
  · intro e
    rw [e]
    simp
    omega
theorem size_list (s:ByteArray):s.data.toList.length = s.size:=by simp
theorem of_list (s:ByteArray):(⟨s.data.toList.toArray⟩:ByteArray) = s:=by simp
theorem ext_list {s t:ByteArray} (h:s.data.toList = t.data.toList):s = t:=by
  rw [← of_list s,← of_list t,h]
theorem toList_inj {s t:ByteArray} (h:s.toList = t.toList):s = t:=by
  rw [toList_data,toList_data] at h
  exact ext_list h
theorem mem_bt (s:ByteArray) (c:Int) (c0:0 ≤ c) (c1:c ≤ 255):(∃ j:Int,0 ≤ j∧j < s.size∧bt s j = c) ↔ s.data.toList.contains c.toNat.toUInt8 = true:=by
  rw [List.contains_iff_mem]
  constructor
  · rintro ⟨j,h0,h1,h2⟩
    obtain ⟨i,rfl⟩:=Int.eq_ofNat_of_zero_le h0
    have:=(bt_eq_iff s i (by omega) c c0 c1).1 h2
    exact List.mem_of_getElem? this
  · intro h
    obtain ⟨i,hi,he⟩:=List.mem_iff_getElem.1 h
    have hs:i < s.size:=by simpa using hi
    refine ⟨i,by omega,by omega,?_⟩
    rw [bt_eq_iff s i hs c c0 c1,List.getElem?_eq_getElem hi,he]
theorem index_ge (l:List UInt8) (c:UInt8):decide (Lib.indexByte l c ≥ 0) = l.contains c:=by
  rw [Lib.contains_iff_indexByte]
theorem Ev.const {α:Type} {o:Option α} {r:α} (h:o = some r):Ev (fun _=>o) r:=⟨0,fun _ _=>h⟩
theorem Ev.ifp {α:Type} {c:Prop} [Decidable c] {g f:Nat→Option α} {r:α} (hc:c) (h:Ev g r):Ev (fun k=>if c then g k else f k) r:=by
  obtain ⟨K,hk⟩:=h
  exact ⟨K,fun k h=>(if_pos hc).trans (hk k h)⟩
theorem Ev.ifn {α:Type} {c:Prop} [Decidable c] {g f:Nat→Option α} {r:α} (hc:¬ c) (h:Ev f r):Ev (fun k=>if c then g k else f k) r:=by
  obtain ⟨K,hk⟩:=h
  exact ⟨K,fun k h=>(if_neg hc).trans (hk k h)⟩
end Go.Proofs.YtlfeijjilndljaaDoorW.PureBase
end
section
namespace Go.Proofs.YtlfeijjilndljaaDoor.Q
set_option linter.unusedVariables false
set_option linter.unusedSimpArgs false
open Go.RowKit Go.Proofs.YtlfeijjilndljaaDoor.All Go.Proofs.YtlfeijjilndljaaDoorW.PrintWords Go.Proofs.YtlfeijjilndljaaDoorW.PrintLast Go.Proofs.YtlfeijjilndljaaDoorW.PrintMore Go.Proofs.YtlfeijjilndljaaDoorW.PureBase
theorem has_from (s:ByteArray) (c:Int) (hb:s.size ≤ 140737488351232) (d:Nat):∀ (k:Nat) (i:Int),0 ≤ i→i ≤ s.size→(s.size:Int) - i = d→d < k →
    ∃ b,creelref_has.l0 k s c i = some b∧(b = true ↔ ∃ j:Int,i ≤ j∧j < s.size∧bt s j = c):=by
  induction d with
  | zero =>
    intro k i h0 h1 hd hk
    obtain ⟨k,rfl⟩:∃ m,k = m + 1:=⟨k - 1,by omega⟩
    refine ⟨false,?_,?_⟩
    · simp only [creelref_has.l0];rw [if_neg (by omega)]
    · constructor
      · intro h;cases h
      · rintro ⟨j,h1,h2,_⟩;omega
  | succ d ih =>
    intro k i h0 h1 hd hk
    obtain ⟨k,rfl⟩:∃ m,k = m + 1:=⟨k - 1,by omega⟩
    have hlt:i < (s.size:Int):=by omega
    have hw:wrap64 (i + 1) = i + 1:=by unfold wrap64;omega
    by_cases e:bt s i = c
    · refine ⟨true,?_,?_⟩
      · simp only [creelref_has.l0];rw [if_pos hlt,if_pos h0,if_pos e]
      · exact ⟨fun _=>⟨i,by omega,hlt,e⟩,fun _=>rfl⟩
    · obtain ⟨b,hb1,hb2⟩:=ih k (i + 1) (by omega) (by omega) (by omega) (by omega)
      refine ⟨b,?_,?_⟩
      · simp only [creelref_has.l0];rw [if_pos hlt,if_pos h0,hw,if_neg e];exact hb1
      · rw [hb2]
        constructor
        · rintro ⟨j,h1,h2,h3⟩;exact ⟨j,by omega,h2,h3⟩
        · rintro ⟨j,h1,h2,h3⟩
          have:j ≠ i:=by rintro rfl;exact e h3
          exact ⟨j,by omega,h2,h3⟩
theorem has_ev (s:ByteArray) (c:Int) (c0:0 ≤ c) (c1:c ≤ 255) (hb:s.size ≤ 140737488351232):Ev (fun k=>creelref_has.f k s c) (s.data.toList.contains c.toNat.toUInt8):=by
  refine ⟨s.size + 1,fun k hk=>?_⟩
  obtain ⟨b,h1,h2⟩:=has_from s c hb s.size k 0 (by omega) (by omega) (by omega) (by omega)
  show creelref_has.l0 k s c 0 = _
  rw [h1]
  congr 1
  rw [Bool.eq_iff_iff,h2]
  exact mem_bt s c c0 c1
def sp (c:UInt8):List UInt8→List (List UInt8)
  | []=>[[]]
  | b :: l=>if b = c then [] :: sp c l else match sp c l with
    | p :: ps=>(b :: p) :: ps
    | []=>[[b]]
theorem sp_ne (c:UInt8) (l:List UInt8):sp c l ≠ []:=by
  cases l with
  | nil=>simp [sp]
  | cons b l =>
    simp only [sp]
    split
    · simp
    · split <;> simp
theorem sp_go (c:UInt8):∀ (l p:List UInt8),c ∉ p→sp c (p ++ l) = (match sp c l with|q :: qs=>(p ++ q) :: qs|[]=>[p])
  | l,[],_=>by
    cases h:sp c l with
    | nil=>exact absurd h (sp_ne c l)
    | cons q qs=>simp [h]
  | l,a :: p,hp=>by
    have ha:¬ a = c:=fun e=>hp (by simp [e])
    have ih:=sp_go c l p (fun h=>hp (List.mem_cons_of_mem _ h))
    simp only [List.cons_append,sp]
    rw [if_neg ha,ih]
    cases h:sp c l with
    | nil=>exact absurd h (sp_ne c l)
    | cons q qs=>simp
theorem sp_cut (c:UInt8) (p l:List UInt8) (hp:c ∉ p):sp c (p ++ c :: l) = p :: sp c l:=by
  rw [sp_go c (c :: l) p hp]
  simp [sp]
theorem sp_whole (c:UInt8) (p:List UInt8) (hp:c ∉ p):sp c p = [p]:=by
  have:=sp_go c [] p hp
  simpa [sp] using this
theorem sp_len_le (c:UInt8) (l:List UInt8):(sp c l).length ≤ l.length + 1:=by
  induction l with
  | nil=>simp [sp]
  | cons b l ih =>
    simp only [sp]
    split
    · simp;omega
    · split
      · rename_i h;rw [h] at ih;simp at ih ⊢;omega
      · simp
def mk (l:List UInt8):ByteArray:=⟨l.toArray⟩
theorem mk_data (l:List UInt8):(mk l).data.toList = l:=rfl
theorem mk_of (s:ByteArray):mk s.data.toList = s:=of_list s
theorem mk_size (l:List UInt8):(mk l).size = l.length:=rfl
def pp (s:ByteArray):List ByteArray:=(sp 47 s.data.toList).map mk
theorem index_one_none {l:List UInt8} {c:UInt8} (h:Lib.index l [c] = -1):c ∉ l:=by
  rw [Lib.index_one] at h
  intro hm
  obtain ⟨i,hi,he⟩:=List.mem_iff_getElem.1 hm
  exact Lib.indexByte_none h i (by rw [List.getElem?_eq_getElem hi,he])
theorem index_one_some {l:List UInt8} {c:UInt8} {o:Nat} (h:Lib.index l [c] = (o:Int)):o < l.length∧c ∉ l.take o∧l = l.take o ++ c :: l.drop (o + 1):=by
  rw [Lib.index_one] at h
  obtain ⟨h1,h2⟩:=Lib.indexByte_some h
  have hlt:=(List.getElem?_eq_some_iff.1 h1).1
  have he:=(List.getElem?_eq_some_iff.1 h1).2
  refine ⟨hlt,?_,?_⟩
  · intro hm
    obtain ⟨i,hi,hie⟩:=List.mem_iff_getElem.1 hm
    rw [List.length_take] at hi
    rw [List.getElem_take] at hie
    exact h2 i (by omega) (by rw [List.getElem?_eq_getElem (by omega),hie])
  · conv=>lhs;rw [← List.take_append_drop o l]
    rw [List.drop_eq_getElem_cons hlt,he]
theorem split_sp (c:UInt8):∀ (k:Nat) (l:List UInt8),Lib.count l [c] ≤ k→Lib.splitK [c] 0 k l = sp c l
  | 0,l,h=>by
    rw [Lib.count_one] at h
    have:c ∉ l:=by
      intro hm
      have:=List.count_pos_iff.2 hm
      omega
    rw [sp_whole c l this];rfl
  | k + 1,l,h=>by
    unfold Lib.splitK
    by_cases hi:Lib.index l [c] = -1
    · rw [if_pos (by simpa using hi),sp_whole c l (index_one_none hi)]
    · rw [if_neg (by simpa using hi)]
      have hge:=Lib.indexByte_ge l c
      rw [← Lib.index_one] at hge
      obtain ⟨o,ho⟩:=Int.eq_ofNat_of_zero_le (show 0 ≤ Lib.index l [c] by omega)
      obtain ⟨h1,h2,h3⟩:=index_one_some ho
      rw [ho]
      simp only [Int.toNat_natCast,Nat.add_zero,List.length_singleton]
      have hc:Lib.count (l.drop (o + 1)) [c] ≤ k:=by
        rw [Lib.count_one] at h ⊢
        rw [h3,List.count_append,List.count_cons_self] at h
        omega
      rw [split_sp c k _ hc]
      conv=>rhs;rw [h3]
      rw [sp_cut c _ _ h2]
theorem split_is (s:ByteArray) (hs:s.size < 4294967281):strings_Split.f s ⟨#[47]⟩ = some (pp s):=by
  unfold strings_Split.f
  simp only
  rw [if_pos hs]
  congr 1
  have h:=Lib.splitB_data ⟨#[47]⟩ 0 (Lib.countB s ⟨#[47]⟩) s
  rw [show (⟨#[47]⟩:ByteArray).data.toList = [47] from rfl,split_sp 47 _ _ (Nat.le_refl _)] at h
  unfold pp
  rw [← h,List.map_map]
  conv=>lhs;rw [← List.map_id (Lib.splitB ⟨#[47]⟩ 0 (Lib.countB s ⟨#[47]⟩) s)]
  apply List.map_congr_left
  intro x _
  exact (mk_of x).symm
theorem drop_cons (s:ByteArray) (i:Nat) (h:i < s.size):∃ b:UInt8,s.data.toList.drop i = b :: s.data.toList.drop (i + 1)∧(b.toNat:Int) = bt s (i:Int)∧s.extract i (i + 1) = mk [b]:=by
  have hl:i < s.data.toList.length:=by rw [size_list];exact h
  refine ⟨s.data.toList[i],List.drop_eq_getElem_cons hl,(bt_get s i h).symm,?_⟩
  apply ext_list
  rw [Lib.extract_data,List.drop_eq_getElem_cons hl,show i + 1 - i = 1 from by omega]
  rfl
theorem byte_eq (b:UInt8) (c:Int) (h:(b.toNat:Int) = c) (n:UInt8):c = (n.toNat:Int) ↔ b = n:=by
  rw [← h]
  constructor
  · intro e
    apply UInt8.toNat_inj.1
    omega
  · intro e
    rw [e]
theorem parts_loop (s:ByteArray) (d:Nat):∀ (k i:Nat) (done:List ByteArray) (cur:List UInt8),s.size - i = d→i ≤ s.size→d < k→done.length + d < 8796093022207→cur.length + d ≤ 4611686018427387904→s.size ≤ 4611686018427387904 →
    creelref_parts.l0 k s 47 (done ++ [mk cur]) (i:Int) = some (done ++ (match sp 47 (s.data.toList.drop i) with|q :: qs=>mk (cur ++ q) :: qs.map mk|[]=>[mk cur])):=by
  induction d with
  | zero =>
    intro k i done cur hd hi hk hn hc hs
    obtain ⟨k,rfl⟩:∃ m,k = m + 1:=⟨k - 1,by omega⟩
    simp only [creelref_parts.l0]
    rw [if_neg (by omega),List.drop_eq_nil_of_le (by rw [size_list];omega)]
    simp [sp]
  | succ d ih =>
    intro k i done cur hd hi hk hn hc hs
    obtain ⟨k,rfl⟩:∃ m,k = m + 1:=⟨k - 1,by omega⟩
    have hlt:i < s.size:=by omega
    obtain ⟨b,h1,h2,h3⟩:=drop_cons s i hlt
    have hw:wrap64 ((i:Int) + 1) = ((i + 1:Nat):Int):=by rw [wrap_is (by omega) (by omega)];omega
    have hlen:(done ++ [mk cur]).length = done.length + 1:=by simp
    simp only [creelref_parts.l0]
    rw [if_pos (by omega),if_pos (show (0:Int) ≤ i by omega),h1,hw,hlen]
    simp only [sp]
    have h47:bt s (i:Int) = 47 ↔ b = 47:=byte_eq b _ h2 47
    by_cases e:b = 47
    · rw [if_pos (h47.2 e),if_pos (by omega),if_pos e]
      have:=ih k (i + 1) (done ++ [mk cur]) [] (by omega) (by omega) (by omega) (by simp only [List.length_append,List.length_singleton];omega) (by simp only [List.length_nil];omega) hs
      rw [show (⟨#[]⟩:ByteArray) = mk [] from rfl,this]
      cases hsp:sp 47 (s.data.toList.drop (i + 1)) with
      | nil=>exact absurd hsp (sp_ne _ _)
      | cons q qs=>simp
    · have hne:¬ bt s (i:Int) = 47:=fun h=>e (h47.1 h)
      have hw2:wrap64 (((done.length + 1:Nat):Int) - 1) = (done.length:Int):=by rw [wrap_is (by omega) (by omega)];omega
      have hrd:rdOf ByteArray.empty (done ++ [mk cur]) (done.length:Int) = mk cur:=by
        unfold rdOf
        rw [Int.toNat_natCast,List.getD_eq_getElem?_getD,List.getElem?_append_right (Nat.le_refl _),Nat.sub_self];rfl
      have hex:s.extract ((i:Int)).toNat (((i + 1:Nat):Int)).toNat = mk [b]:=by rw [Int.toNat_natCast,Int.toNat_natCast,h3]
      have happ:mk cur ++ mk [b] = mk (cur ++ [b]):=by apply ext_list;simp [mk]
      have hset:(done ++ [mk cur]).set done.length (mk (cur ++ [b])) = done ++ [mk (cur ++ [b])]:=by
        rw [List.set_append_right _ _ (Nat.le_refl _),Nat.sub_self];rfl
      rw [if_neg hne,hw2,hrd,hex,if_pos (by omega),if_pos (by omega),if_pos (by omega),if_pos (by omega),if_pos (by rw [mk_size,mk_size];simp only [List.length_singleton];omega),happ,Int.toNat_natCast,hset,if_neg e]
      rw [ih k (i + 1) done (cur ++ [b]) (by omega) (by omega) (by omega) (by omega) (by simp only [List.length_append,List.length_singleton];omega) hs]
      cases hsp:sp 47 (s.data.toList.drop (i + 1)) with
      | nil=>exact absurd hsp (sp_ne _ _)
      | cons q qs=>simp
theorem parts_is (s:ByteArray) (k:Nat) (hs:s.size ≤ 4294967296) (hk:s.size < k):creelref_parts.f k s 47 = some (pp s):=by
  unfold creelref_parts.f
  have:=parts_loop s s.size k 0 [] [] (by omega) (by omega) hk (by simp only [List.length_nil];omega) (by simp only [List.length_nil];omega) (by omega)
  rw [show ([(⟨#[]⟩:ByteArray)]:List ByteArray) = [] ++ [mk []] from rfl]
  rw [show ((0:Nat):Int) = 0 from rfl] at this
  rw [this]
  unfold pp
  rw [List.drop_zero]
  cases hsp:sp 47 s.data.toList with
  | nil=>exact absurd hsp (sp_ne _ _)
  | cons q qs=>simp
theorem pp_len (s:ByteArray):(pp s).length ≤ s.size + 1:=by
  unfold pp
  rw [List.length_map]
  have:=sp_len_le 47 s.data.toList
  rw [size_list] at this
  exact this
def bad (p:ByteArray):Bool:=decide (p.toList = []) || decide (p.toList = [46]) || decide (p.toList = [46,46])
def pathR (s:ByteArray):Int:=if s.size < 1 ∨ 400 < s.size then 1 else if s.data.toList.contains 0 = true then 3 else if (pp s).any bad = true then 9 else 0
theorem check_loop (l:List ByteArray) (hl:l.length ≤ 4294967297) (d:Nat):∀ (k i:Nat),l.length - i = d→i ≤ l.length→d < k →
    path_Check.l0 k l (l.length:Int) (i:Int) = some (if (l.drop i).any bad = true then 9 else 0)∧creelref_PathFault.l0 k l (l.length:Int) (i:Int) = some (if (l.drop i).any bad = true then 9 else 0):=by
  induction d with
  | zero =>
    intro k i hd hi hk
    obtain ⟨k,rfl⟩:∃ m,k = m + 1:=⟨k - 1,by omega⟩
    simp only [path_Check.l0,creelref_PathFault.l0]
    have hge:¬ (i:Int) < l.length:=by omega
    rw [if_neg hge,if_neg hge,List.drop_eq_nil_of_le (by omega)]
    simp
  | succ d ih =>
    intro k i hd hi hk
    obtain ⟨k,rfl⟩:∃ m,k = m + 1:=⟨k - 1,by omega⟩
    have hlt:i < l.length:=by omega
    have hw:wrap64 ((i:Int) + 1) = ((i + 1:Nat):Int):=by rw [wrap_is (by omega) (by omega)];omega
    have hrd:rdOf ByteArray.empty l (i:Int) = l[i]:=by
      unfold rdOf
      rw [Int.toNat_natCast,List.getD_eq_getElem?_getD,List.getElem?_eq_getElem hlt];rfl
    obtain ⟨h1,h2⟩:=ih k (i + 1) (by omega) (by omega) (by omega)
    simp only [path_Check.l0,creelref_PathFault.l0]
    rw [hw,hrd,h1,h2,List.drop_eq_getElem_cons hlt,List.any_cons]
    generalize l[i] = p
    have c1:(i:Int) < l.length:=by omega
    have c2:(0:Int) ≤ i:=by omega
    simp only [if_pos c1,if_pos c2]
    unfold bad
    by_cases e1:p.toList = []
    · simp [e1]
    · by_cases e2:p.toList = [46]
      · simp [e2]
      · by_cases e3:p.toList = [46,46]
        · simp [e3]
        · simp [e1,e2,e3]
theorem empty_size (s:ByteArray):s.toList = ([]:List UInt8) ↔ s.size = 0:=by
  rw [toList_data,← size_list]
  exact List.length_eq_zero_iff.symm
theorem path_same (s:ByteArray) (hs:s.size ≤ 140737488351232):Ev (fun k=>path_Check.f k s) (pathR s)∧Ev (fun k=>creelref_PathFault.f k s) (pathR s):=by
  obtain ⟨K,hK⟩:=has_ev s 0 (by omega) (by omega) hs
  replace hK:∀ k,K ≤ k→creelref_has.f k s 0 = some (s.data.toList.contains 0):=hK
  have hi:(Lib.indexByte s.data.toList ((0:Int).toNat.toUInt8) ≥ 0) ↔ s.data.toList.contains 0 = true:=by
    have:=index_ge s.data.toList ((0:Int).toNat.toUInt8)
    rw [← decide_eq_true_iff (p:=Lib.indexByte s.data.toList ((0:Int).toNat.toUInt8) ≥ 0),this];rfl
  by_cases c:s.size < 1 ∨ 400 < s.size
  · have e:pathR s = 1:=by unfold pathR;rw [if_pos c]
    rw [e]
    refine ⟨⟨1,fun k hk=>?_⟩,⟨1,fun k hk=>?_⟩⟩
    · obtain ⟨k,rfl⟩:∃ m,k = m + 1:=⟨k - 1,by omega⟩
      show path_Check.f (k + 1) s = _
      unfold path_Check.f
      by_cases h:(s.size:Int) < 1
      · rw [if_pos h];simp [path_Check.j0]
      · rw [if_neg h,decide_eq_true (show (s.size:Int) > 400 by omega)];simp [path_Check.j0]
    · obtain ⟨k,rfl⟩:∃ m,k = m + 1:=⟨k - 1,by omega⟩
      show creelref_PathFault.f (k + 1) s = _
      unfold creelref_PathFault.f
      by_cases h:s.toList = ([]:List UInt8)
      · rw [if_pos h];simp [creelref_PathFault.j0]
      · rw [if_neg h]
        rw [empty_size] at h
        rw [decide_eq_true (show (s.size:Int) > 400 by omega)];simp [creelref_PathFault.j0]
  · have h0:¬ s.toList = ([]:List UInt8):=by rw [empty_size];omega
    have hsp:=split_is s (by omega)
    have hpl:=pp_len s
    by_cases hz:s.data.toList.contains 0 = true
    · have e:pathR s = 3:=by unfold pathR;rw [if_neg c,if_pos hz]
      rw [e]
      refine ⟨⟨1,fun k hk=>?_⟩,⟨K + 1,fun k hk=>?_⟩⟩
      · obtain ⟨k,rfl⟩:∃ m,k = m + 1:=⟨k - 1,by omega⟩
        show path_Check.f (k + 1) s = _
        unfold path_Check.f
        rw [if_neg (show ¬ (s.size:Int) < 1 by omega),decide_eq_false (show ¬ (s.size:Int) > 400 by omega)]
        simp only [path_Check.j0,Bool.false_eq_true,if_false,strings_IndexByte.f,Option.bind_some]
        rw [if_pos (hi.2 hz)]
      · obtain ⟨k,rfl⟩:∃ m,k = m + 1:=⟨k - 1,by omega⟩
        show creelref_PathFault.f (k + 1) s = _
        unfold creelref_PathFault.f
        rw [if_neg h0,decide_eq_false (show ¬ (s.size:Int) > 400 by omega)]
        simp only [creelref_PathFault.j0,Bool.false_eq_true,if_false]
        rw [hK k (by omega)]
        simp only [Option.bind_some,hz,if_true]
    · have hz':s.data.toList.contains 0 = false:=by simpa using hz
      have e:pathR s = (if (pp s).any bad = true then 9 else 0):=by unfold pathR;rw [if_neg c,if_neg hz]
      rw [e]
      refine ⟨⟨500,fun k hk=>?_⟩,⟨K + 500,fun k hk=>?_⟩⟩
      · obtain ⟨k,rfl⟩:∃ m,k = m + 1:=⟨k - 1,by omega⟩
        obtain ⟨h1,_⟩:=check_loop (pp s) (by omega) (pp s).length k 0 (by omega) (by omega) (by omega)
        show path_Check.f (k + 1) s = _
        unfold path_Check.f
        rw [if_neg (show ¬ (s.size:Int) < 1 by omega),decide_eq_false (show ¬ (s.size:Int) > 400 by omega)]
        simp only [path_Check.j0,Bool.false_eq_true,if_false,strings_IndexByte.f,Option.bind_some]
        rw [if_neg (fun h=>hz (hi.1 h)),hsp]
        simp only [Option.bind_some]
        rw [List.drop_zero] at h1
        exact h1
      · obtain ⟨k,rfl⟩:∃ m,k = m + 1:=⟨k - 1,by omega⟩
        obtain ⟨_,h2⟩:=check_loop (pp s) (by omega) (pp s).length k 0 (by omega) (by omega) (by omega)
        show creelref_PathFault.f (k + 1) s = _
        unfold creelref_PathFault.f
        rw [if_neg h0,decide_eq_false (show ¬ (s.size:Int) > 400 by omega)]
        simp only [creelref_PathFault.j0,Bool.false_eq_true,if_false]
        rw [hK k (by omega)]
        simp only [Option.bind_some,hz',Bool.false_eq_true,if_false]
        rw [parts_is s k (by omega) (by omega)]
        simp only [Option.bind_some]
        rw [List.drop_zero] at h2
        exact h2
def joinS:List (List UInt8)→List UInt8
  | []=>[]
  | [p]=>p
  | p :: q :: r=>p ++ 47 :: joinS (q :: r)
theorem joinS_cons (p:List UInt8) {r:List (List UInt8)} (h:r ≠ []):joinS (p :: r) = p ++ 47 :: joinS r:=by
  cases r with
  | nil=>exact absurd rfl h
  | cons q r=>rfl
theorem joinS_snoc (xs:List (List UInt8)) (x:List UInt8) (h:xs ≠ []):joinS (xs ++ [x]) = joinS xs ++ 47 :: x:=by
  induction xs with
  | nil=>exact absurd rfl h
  | cons p xs ih =>
    cases xs with
    | nil=>rfl
    | cons q xs =>
      have:=ih (by simp)
      rw [List.cons_append,joinS_cons p (by simp),this,joinS_cons p (by simp)]
      simp
theorem join_sp (l:List UInt8):joinS (sp 47 l) = l:=by
  induction l with
  | nil=>rfl
  | cons b l ih =>
    simp only [sp]
    by_cases hb:b = 47
    · rw [if_pos hb,joinS_cons _ (sp_ne _ _),ih,hb];rfl
    · rw [if_neg hb]
      cases hs:sp 47 l with
      | nil=>exact absurd hs (sp_ne _ _)
      | cons p ps =>
        rw [hs] at ih
        cases ps with
        | nil=>simp [joinS] at ih ⊢;exact ih
        | cons q qs =>
          simp only [joinS_cons _ (show (q :: qs) ≠ [] by simp)] at ih ⊢
          rw [List.cons_append,ih]
theorem join_take_le (xs:List (List UInt8)):∀ i,(joinS (xs.take i)).length ≤ (joinS xs).length:=by
  induction xs with
  | nil=>intro i;simp [joinS]
  | cons p xs ih =>
    intro i
    cases i with
    | zero=>simp [joinS]
    | succ i =>
      rw [List.take_succ_cons]
      cases xs with
      | nil=>simp [joinS]
      | cons q xs =>
        cases i with
        | zero =>
          rw [List.take_zero,joinS_cons p (show (q :: xs) ≠ [] by simp)]
          simp [joinS]
        | succ i =>
          have:=ih (i + 1)
          rw [joinS_cons p (show (q :: xs).take (i + 1) ≠ [] by simp),joinS_cons p (by simp)]
          simp only [List.length_append,List.length_cons]
          omega
theorem sp_last (A B:List UInt8) (hB:(47:UInt8) ∉ B):sp 47 (A ++ 47 :: B) = sp 47 A ++ [B]:=by
  induction A with
  | nil=>simp [sp,sp_whole 47 B hB]
  | cons a A ih =>
    simp only [List.cons_append,sp]
    by_cases ha:a = 47
    · rw [if_pos ha,if_pos ha,ih];rfl
    · rw [if_neg ha,if_neg ha,ih]
      cases hs:sp 47 A with
      | nil=>exact absurd hs (sp_ne _ _)
      | cons p ps=>simp
theorem split_loop (xs:List (List UInt8)) (hx:xs ≠ []) (hn:xs.length ≤ 4294967297) (hj:(joinS xs).length ≤ 4294967296) (d:Nat):∀ (k i:Nat),xs.length - 1 - i = d→i ≤ xs.length - 1→d < k →
    creelref_PathSplit.l0 k (xs.map mk) (mk (joinS (xs.take i))) (i:Int) = some (mk (joinS (xs.take (xs.length - 1))),mk (xs.getLast hx)):=by
  have hlen:0 < xs.length:=List.length_pos_iff.2 hx
  have hrd:∀ j (h:j < xs.length),rdOf ByteArray.empty (xs.map mk) (j:Int) = mk xs[j]:=by
    intro j h
    unfold rdOf
    rw [Int.toNat_natCast,List.getD_eq_getElem?_getD,List.getElem?_map,List.getElem?_eq_getElem h];rfl
  have hw1:wrap64 ((xs.length:Int) - 1) = ((xs.length - 1:Nat):Int):=by rw [wrap_is (by omega) (by omega)];omega
  induction d with
  | zero =>
    intro k i hd hi hk
    obtain ⟨k,rfl⟩:∃ m,k = m + 1:=⟨k - 1,by omega⟩
    obtain rfl:i = xs.length - 1:=by omega
    simp only [creelref_PathSplit.l0,List.length_map]
    rw [hw1,if_neg (show ¬ ((xs.length - 1:Nat):Int) < ((xs.length - 1:Nat):Int) by omega),if_pos (show (0:Int) ≤ ((xs.length - 1:Nat):Int) by omega),if_pos (show ((xs.length - 1:Nat):Int) < (xs.length:Int) by omega),hrd (xs.length - 1) (by omega),List.getLast_eq_getElem]
  | succ d ih =>
    intro k i hd hi hk
    obtain ⟨k,rfl⟩:∃ m,k = m + 1:=⟨k - 1,by omega⟩
    have hlt:i < xs.length:=by omega
    have hw:wrap64 ((i:Int) + 1) = ((i + 1:Nat):Int):=by rw [wrap_is (by omega) (by omega)];omega
    have hnext:=ih k (i + 1) (by omega) (by omega) (by omega)
    have ht:xs.take (i + 1) = xs.take i ++ [xs[i]]:=(List.take_append_getElem hlt).symm
    have hle:=join_take_le xs (i + 1)
    simp only [creelref_PathSplit.l0,List.length_map]
    rw [hw1,if_pos (show (i:Int) < ((xs.length - 1:Nat):Int) by omega),hw,hrd i hlt]
    by_cases h0:i = 0
    · subst h0
      rw [if_neg (by omega),if_pos (by omega),if_pos (by omega)]
      have h1:xs.take (0 + 1) = [xs[0]]:=by rw [ht];rfl
      rw [h1] at hle
      have e:mk (joinS (xs.take 0)) ++ mk xs[0] = mk (joinS (xs.take (0 + 1))):=by
        rw [h1];apply ext_list;simp [mk,joinS]
      have hsz:(mk (joinS (xs.take 0))).size + (mk xs[0]).size ≤ 9223372036854775807:=by
        have hle':xs[0].length ≤ (joinS xs).length:=hle
        rw [mk_size,mk_size,List.take_zero]
        show 0 + xs[0].length ≤ _
        omega
      rw [if_pos hsz,e];exact hnext
    · have hne:xs.take i ≠ []:=by
        intro h
        have h2:=congrArg List.length h
        rw [List.length_take,List.length_nil] at h2
        omega
      have hj2:joinS (xs.take (i + 1)) = joinS (xs.take i) ++ 47 :: xs[i]:=by rw [ht,joinS_snoc _ _ hne]
      have e:(mk (joinS (xs.take i)) ++ (⟨#[47]⟩:ByteArray)) ++ mk xs[i] = mk (joinS (xs.take (i + 1))):=by
        rw [hj2];apply ext_list;simp [mk]
      rw [hj2] at hle
      simp only [List.length_append,List.length_cons] at hle
      have hs1:(mk (joinS (xs.take i)) ++ (⟨#[47]⟩:ByteArray)).size = (joinS (xs.take i)).length + 1:=by rw [ByteArray.size_append,mk_size];rfl
      rw [if_pos (by omega),if_pos (by rw [mk_size];omega),if_pos (by omega),if_pos (by omega),if_pos (by rw [hs1,mk_size];omega),e]
      exact hnext
theorem split_at (s:ByteArray) (k:Nat) (hs:s.size ≤ 1048576) (hk:s.size + 2 < k):creelref_PathSplit.f k s = some (mk (joinS ((sp 47 s.data.toList).take ((sp 47 s.data.toList).length - 1))),mk ((sp 47 s.data.toList).getLast (sp_ne _ _))):=by
  unfold creelref_PathSplit.f
  rw [parts_is s k (by omega) (by omega)]
  simp only [Option.bind_some]
  have hl:=sp_len_le 47 s.data.toList
  rw [size_list] at hl
  have:=split_loop (sp 47 s.data.toList) (sp_ne _ _) (by omega) (by rw [join_sp,size_list];omega) ((sp 47 s.data.toList).length - 1) k 0 (by omega) (by omega) (by omega)
  exact this
theorem data_get (s:ByteArray) (i:Nat) (h:i < s.size):((s.data[i]!).toNat:Int) = bt s (i:Int):=by
  rw [bt_get s i h]
  have h':i < s.data.size:=h
  rw [getElem!_pos s.data i h']
  simp
theorem last_f (s:ByteArray) (hb:s.size < 4611686018427387904) (t:Int) (e:Lib.lastIndexByte s 47 = t):strings_LastIndexByte.f s 47 = some t:=by
  unfold strings_LastIndexByte.f
  rw [if_pos hb,e]
theorem up0 (s:ByteArray) (n:Nat) (e:strings_LastIndexByte.f s 47 = some (n:Int)) (hn:n ≤ s.size):path_Up.f s = some (s.extract 0 n):=by
  unfold path_Up.f
  rw [e]
  simp only [Option.bind_some]
  rw [if_neg (show ¬ (n:Int) < 0 by omega),if_pos (Int.natCast_nonneg n),if_pos (Int.ofNat_le.2 hn),Int.toNat_natCast]
theorem up_none (s:ByteArray) (hs:s.size ≤ 1048576) (e:Lib.lastIndexByte s 47 = -1):path_Up.f s = some (⟨#[]⟩:ByteArray):=by
  have h:=last_f s (by omega) _ e
  unfold path_Up.f
  rw [h];simp
theorem up_some (s:ByteArray) (hs:s.size ≤ 1048576) (i:Nat) (hi:i < s.size) (e:Lib.lastIndexByte s 47 = (i:Int)):path_Up.f s = some (s.extract 0 i):=up0 s i (last_f s (by omega) _ e) (by omega)
theorem last_cut (s:ByteArray) (i:Nat) (hi:i < s.size) (hc:((s.data[i]!).toNat:Int) = 47) (hn:∀ j,i < j→j < s.size→((s.data[j]!).toNat:Int) ≠ 47) :
    (47:UInt8) ∉ s.data.toList.drop (i + 1)∧s.data.toList = s.data.toList.take i ++ 47 :: s.data.toList.drop (i + 1):=by
  have hl:i < s.data.toList.length:=by rw [size_list];exact hi
  have h47:(47:Int).toNat.toUInt8 = 47:=rfl
  have hb:s.data.toList[i] = 47:=by
    rw [data_get s i hi,bt_eq_iff s i hi 47 (by omega) (by omega),List.getElem?_eq_getElem hl,h47] at hc
    exact Option.some.inj hc
  refine ⟨?_,?_⟩
  · intro hm
    obtain ⟨j,hj,hje⟩:=List.mem_iff_getElem.1 hm
    rw [List.length_drop,size_list] at hj
    rw [List.getElem_drop] at hje
    apply hn (i + 1 + j) (by omega) (by omega)
    rw [data_get s _ (by omega),bt_eq_iff s _ (by omega) 47 (by omega) (by omega),List.getElem?_eq_getElem (by rw [size_list];omega),hje,h47]
  · conv=>lhs;rw [← List.take_append_drop i s.data.toList,List.drop_eq_getElem_cons hl,hb]
theorem last_none (s:ByteArray) (hn:∀ j,j < s.size→((s.data[j]!).toNat:Int) ≠ 47):(47:UInt8) ∉ s.data.toList:=by
  have h47:(47:Int).toNat.toUInt8 = 47:=rfl
  intro hm
  obtain ⟨j,hj,hje⟩:=List.mem_iff_getElem.1 hm
  have hjs:j < s.size:=by simpa using hj
  apply hn j hjs
  rw [data_get s j hjs,bt_eq_iff s j hjs 47 (by omega) (by omega),List.getElem?_eq_getElem hj,hje,h47]
theorem split_last (A B:List UInt8) (hB:(47:UInt8) ∉ B) (l:List UInt8) (hl:l = A ++ 47 :: B) (hx:sp 47 l ≠ []):joinS ((sp 47 l).take ((sp 47 l).length - 1)) = A∧(sp 47 l).getLast hx = B:=by
  have h1:sp 47 l = sp 47 A ++ [B]:=by rw [hl];exact sp_last A B hB
  refine ⟨?_,?_⟩
  · rw [h1,List.length_append,List.length_singleton,Nat.add_sub_cancel,List.take_left,join_sp]
  · have h2:(sp 47 l).getLast? = some B:=by rw [h1];simp
    rw [List.getLast?_eq_some_getLast hx] at h2
    exact Option.some.inj h2
theorem split_only (l:List UInt8) (h:(47:UInt8) ∉ l) (hx:sp 47 l ≠ []):joinS ((sp 47 l).take ((sp 47 l).length - 1)) = []∧(sp 47 l).getLast hx = l:=by
  have h1:=sp_whole 47 l h
  refine ⟨by rw [h1];rfl,?_⟩
  have h2:(sp 47 l).getLast? = some l:=by rw [h1];simp
  rw [List.getLast?_eq_some_getLast hx] at h2
  exact Option.some.inj h2
theorem up_only (s:ByteArray) (k:Nat) (hs:s.size ≤ 1048576) (hk:s.size + 2 < k):(Lib.lastIndexByte s 47 = -1∧path_Up.f s = some (⟨#[]⟩:ByteArray)∧creelref_PathSplit.f k s = some ((⟨#[]⟩:ByteArray),s)) ∨
    ∃ i,i < s.size∧Lib.lastIndexByte s 47 = (i:Int)∧path_Up.f s = some (s.extract 0 i)∧creelref_PathSplit.f k s = some (s.extract 0 i,s.extract (i + 1) s.size):=by
  have hsp:=split_at s k hs hk
  rcases Lib.lastIndexByte_spec s 47 with ⟨e,hn⟩|⟨i,hi,e,hc,hn⟩
  · obtain ⟨h3,h4⟩:=split_only _ (last_none s hn) (sp_ne 47 s.data.toList)
    refine Or.inl ⟨e,up_none s hs e,?_⟩
    rw [hsp,h3,h4,mk_of];rfl
  · obtain ⟨c1,c2⟩:=last_cut s i hi hc hn
    obtain ⟨h3,h4⟩:=split_last _ _ c1 _ c2 (sp_ne 47 s.data.toList)
    have x1:mk (s.data.toList.take i) = s.extract 0 i:=by apply ext_list;rw [mk_data,Lib.extract_data];simp
    have x2:mk (s.data.toList.drop (i + 1)) = s.extract (i + 1) s.size:=by apply ext_list;rw [mk_data,Lib.extract_to_end]
    refine Or.inr ⟨i,hi,e,up_some s hs i hi e,?_⟩
    rw [hsp,h3,h4,x1,x2]
def wrong (a b c:Int) (u g:ByteArray) (s n:Int):Int :=
  if a < 0 ∨ a > 4095 ∨ b < 0 ∨ b > 1125899906842624 ∨ c < 0 ∨ c > 1125899906842624 then 4
  else if (u.size:Int) > 60 ∨ (g.size:Int) > 60 then 1
  else if u.data.toList.contains 0 = true ∨ g.data.toList.contains 0 = true then 3
  else if s < -1099511627776 ∨ s > 1099511627776 ∨ n < 0 ∨ n > 999999999 then 4 else 0
theorem stamp_is (s n:Int):stamp_Check.f s n = some (if s < -1099511627776 ∨ s > 1099511627776 ∨ n < 0 ∨ n > 999999999 then 4 else 0):=by
  unfold stamp_Check.f
  by_cases h1:s < -1099511627776
  · simp [h1]
  · by_cases h2:s > 1099511627776
    · simp [h1,h2]
    · by_cases h3:n < 0
      · simp [h1,h2,h3]
      · by_cases h4:n > 999999999 <;> simp [h1,h2,h3,h4]
theorem time_is (s n:Int):creelref_TimeFault.f s n = some (if s < -1099511627776 ∨ s > 1099511627776 ∨ n < 0 ∨ n > 999999999 then 4 else 0):=by
  unfold creelref_TimeFault.f
  by_cases h1:s < -1099511627776
  · simp [h1]
  · by_cases h2:s > 1099511627776
    · simp [h1,h2]
    · by_cases h3:n < 0
      · simp [h1,h2,h3]
      · by_cases h4:n > 999999999
        · rw [if_neg h1,if_neg h2,if_neg h3,if_pos (by omega),if_pos (by omega)]
        · rw [if_neg h1,if_neg h2,if_neg h3,if_neg (by omega),if_neg (by omega)]
theorem check_ev (a b c:Int) (u g:ByteArray) (s n:Int):Ev (fun k=>meta_Check.f k a b c u g s n) (wrong a b c u g s n):=by
  refine ⟨10,fun k hk=>?_⟩
  obtain ⟨k,rfl⟩:∃ m,k = m + 10:=⟨k - 10,by omega⟩
  have j2:∀ (b2:Bool) (m:Nat),(b2 = false→u.size ≤ 60∧g.size ≤ 60)→meta_Check.j2 (m + 1) b2 a b c u g s n = some (if b2 = true then 1 else if u.data.toList.contains 0 = true ∨ g.data.toList.contains 0 = true then 3
      else if s < -1099511627776 ∨ s > 1099511627776 ∨ n < 0 ∨ n > 999999999 then 4 else 0):=by
    intro b2 m hb
    simp only [meta_Check.j2]
    cases b2 with
    | true=>simp
    | false =>
      obtain ⟨h1,h2⟩:=hb rfl
      simp only [Bool.false_eq_true,if_false];rw [if_pos (by omega)]
      unfold strings_IndexByte.f
      simp only [Option.bind_some]
      have e:(Lib.indexByte (u ++ g).data.toList ((0:Int).toNat.toUInt8) ≥ 0) ↔ (u.data.toList.contains 0 = true ∨ g.data.toList.contains 0 = true):=by
        have:=index_ge (u ++ g).data.toList ((0:Int).toNat.toUInt8)
        rw [← decide_eq_true_iff (p:=Lib.indexByte (u ++ g).data.toList ((0:Int).toNat.toUInt8) ≥ 0),this]
        simp
      by_cases h:u.data.toList.contains 0 = true ∨ g.data.toList.contains 0 = true
      · rw [if_pos h,if_pos (e.2 h)]
      · rw [if_neg h,if_neg (fun x=>h (e.1 x)),stamp_is];rfl
  have j1:∀ (b1:Bool) (m:Nat),meta_Check.j1 (m + 2) b1 a b c u g s n = some (if b1 = true then 4 else if (u.size:Int) > 60 ∨ (g.size:Int) > 60 then 1 else if u.data.toList.contains 0 = true ∨ g.data.toList.contains 0 = true then 3
      else if s < -1099511627776 ∨ s > 1099511627776 ∨ n < 0 ∨ n > 999999999 then 4 else 0):=by
    intro b1 m
    simp only [meta_Check.j1]
    cases b1 with
    | true=>simp
    | false =>
      simp only [Bool.false_eq_true,if_false]
      by_cases h1:(u.size:Int) > 60
      · rw [if_pos h1,j2 true m (by simp)];simp [h1]
      · rw [if_neg h1]
        by_cases h2:(g.size:Int) > 60
        · rw [decide_eq_true h2,j2 true m (by simp)];simp [h2]
        · rw [decide_eq_false h2,j2 false m (fun _=>⟨by omega,by omega⟩)];simp [h1,h2]
  show meta_Check.f (k + 10) a b c u g s n = _
  unfold meta_Check.f wrong
  by_cases h1:a < 0
  · simp [meta_Check.j0,j1,h1]
  · by_cases h2:a > 4095
    · simp [meta_Check.j0,j1,h1,h2]
    · by_cases h3:b < 0
      · simp [meta_Check.j0,j1,h1,h2,h3]
      · by_cases h4:b > 1125899906842624
        · simp [meta_Check.j0,j1,h1,h2,h3,h4]
        · by_cases h5:c < 0
          · simp [meta_Check.j0,j1,h1,h2,h3,h4,h5]
          · by_cases h6:c > 1125899906842624
            · simp [meta_Check.j0,j1,h1,h2,h3,h4,h5,h6]
            · simp [meta_Check.j0,j1,h1,h2,h3,h4,h5,h6]
theorem fault_ev (a b c:Int) (u g:ByteArray) (s n:Int) (hu:u.size ≤ 140737488351232) (hg:g.size ≤ 140737488351232):Ev (fun k=>creelref_MetaFault.f k a b c u g s n) (wrong a b c u g s n):=by
  obtain ⟨K1,e1⟩:=has_ev u 0 (by omega) (by omega) hu
  obtain ⟨K2,e2⟩:=has_ev g 0 (by omega) (by omega) hg
  replace e1:∀ k,K1 ≤ k→creelref_has.f k u 0 = some (u.data.toList.contains 0):=e1
  replace e2:∀ k,K2 ≤ k→creelref_has.f k g 0 = some (g.data.toList.contains 0):=e2
  refine ⟨max K1 K2 + 10,fun k hk=>?_⟩
  obtain ⟨k,rfl⟩:∃ m,k = m + 2:=⟨k - 2,by omega⟩
  have j1:∀ (b1:Bool),creelref_MetaFault.j1 (k + 1) b1 a b c u g s n = some (if b1 = true then 1 else if u.data.toList.contains 0 = true ∨ g.data.toList.contains 0 = true then 3
      else if s < -1099511627776 ∨ s > 1099511627776 ∨ n < 0 ∨ n > 999999999 then 4 else 0):=by
    intro b1
    simp only [creelref_MetaFault.j1]
    cases b1 with
    | true=>simp
    | false =>
      simp only [Bool.false_eq_true,if_false];rw [e1 k (by omega),e2 k (by omega)]
      simp only [Option.bind_some]
      by_cases h1:u.data.toList.contains 0 = true
      · rw [if_pos h1,if_pos (.inl h1)]
      · rw [if_neg h1]
        by_cases h2:g.data.toList.contains 0 = true
        · rw [if_pos h2,if_pos (.inr h2)]
        · rw [if_neg h2,if_neg (by rintro (h|h);exact h1 h;exact h2 h),time_is];rfl
  have j0:∀ (b1:Bool),creelref_MetaFault.j0 (k + 2) b1 a b c u g s n = some (if b1 = true then 4 else if (u.size:Int) > 60 ∨ (g.size:Int) > 60 then 1 else if u.data.toList.contains 0 = true ∨ g.data.toList.contains 0 = true then 3
      else if s < -1099511627776 ∨ s > 1099511627776 ∨ n < 0 ∨ n > 999999999 then 4 else 0):=by
    intro b1
    simp only [creelref_MetaFault.j0]
    cases b1 with
    | true=>simp
    | false =>
      simp only [Bool.false_eq_true,if_false]
      by_cases h1:(u.size:Int) > 60
      · rw [if_pos h1,j1];simp [h1]
      · rw [if_neg h1]
        by_cases h2:(g.size:Int) > 60
        · rw [decide_eq_true h2,j1];simp [h2]
        · rw [decide_eq_false h2,j1];simp [h1,h2]
  have hx:a ≥ 4096 ↔ a > 4095:=by omega
  show creelref_MetaFault.f (k + 2) a b c u g s n = _
  unfold creelref_MetaFault.f wrong
  by_cases h1:a < 0
  · simp [j0,hx,h1]
  · by_cases h2:a > 4095
    · simp [j0,hx,h1,h2]
    · by_cases h3:b < 0
      · simp [j0,hx,h1,h2,h3]
      · by_cases h4:b > 1125899906842624
        · simp [j0,hx,h1,h2,h3,h4]
        · by_cases h5:c < 0
          · simp [j0,hx,h1,h2,h3,h4,h5]
          · by_cases h6:c > 1125899906842624
            · simp [j0,hx,h1,h2,h3,h4,h5,h6]
            · simp [j0,hx,h1,h2,h3,h4,h5,h6]
theorem idx00 (t:ByteArray):(Lib.indexByte t.data.toList ((0:Int).toNat.toUInt8) ≥ 0) ↔ t.data.toList.contains 0 = true:=by
  have:=index_ge t.data.toList ((0:Int).toNat.toUInt8)
  rw [← decide_eq_true_iff (p:=Lib.indexByte t.data.toList ((0:Int).toNat.toUInt8) ≥ 0),this];rfl
def tailE (b:Bool) (kind:Int) (t:ByteArray):Int:=if b = true then 1 else if kind = 4 then pathR t else if t.data.toList.contains 0 = true then 3 else 0
def midE (x:Bool) (kind:Int) (t:ByteArray) (n:Nat):Int:=if x = true then 3 else tailE (decide ((n:Int) > 2000) || decide ((t.size:Int) > 400)) kind t
def restE (kind:Int) (t:ByteArray) (n:Nat):Int:=if kind < 1 ∨ 4 < kind then 2 else midE ((decide (kind ≠ 1) && decide (0 < n)) || ((t.toList != ([]:List UInt8)) != decide (kind ≥ 3))) kind t n
def entryR (p:ByteArray) (kind:Int) (t:ByteArray) (a b c:Int) (u g:ByteArray) (s n:Int) (d:Nat):Int :=
  if pathR p = 0 then (if wrong a b c u g s n = 0 then restE kind t d else wrong a b c u g s n) else pathR p
theorem pr_j2 (k:Nat) (x:Bool) (p:ByteArray) (kind:Int) (t:ByteArray) (a b c:Int) (u g:ByteArray) (s n:Int) (d:List Int) (h:path_Check.f k t = some (pathR t)) :
    plan_Right.j2 (k + 1) x p kind t a b c u g s n d = some (tailE x kind t):=by
  have hi:=idx00 t
  simp only [plan_Right.j2,h,strings_IndexByte.f,Option.bind_some]
  unfold tailE
  by_cases z:t.data.toList.contains 0 = true
  · rw [if_pos (hi.2 z),if_pos z]
    by_cases x0:x = true <;> by_cases k4:kind = 4 <;> simp [x0,k4]
  · rw [if_neg (fun h=>z (hi.1 h)),if_neg z]
    by_cases x0:x = true <;> by_cases k4:kind = 4 <;> simp [x0,k4]
theorem pr_j1 (k:Nat) (x:Bool) (p:ByteArray) (kind:Int) (t:ByteArray) (a b c:Int) (u g:ByteArray) (s n:Int) (d:List Int) (h:path_Check.f k t = some (pathR t)) :
    plan_Right.j1 (k + 2) x p kind t a b c u g s n d = some (midE x kind t d.length):=by
  simp only [plan_Right.j1,pr_j2 k _ p kind t a b c u g s n d h]
  unfold midE
  by_cases x0:x = true
  · rw [if_pos x0,if_pos x0]
  · rw [if_neg x0,if_neg x0]
    by_cases d0:(d.length:Int) > 2000
    · rw [if_pos d0,decide_eq_true d0];rfl
    · rw [if_neg d0,decide_eq_false d0];rfl
theorem pr_j0 (k:Nat) (x:Bool) (p:ByteArray) (kind:Int) (t:ByteArray) (a b c:Int) (u g:ByteArray) (s n:Int) (d:List Int) (h:path_Check.f k t = some (pathR t)) :
    plan_Right.j0 (k + 3) x p kind t a b c u g s n d = some (if x = true then 2 else midE ((decide (kind ≠ 1) && decide (0 < d.length)) || ((t.toList != ([]:List UInt8)) != decide (kind ≥ 3))) kind t d.length):=by
  simp only [plan_Right.j0,pr_j1 k _ p kind t a b c u g s n d h]
  by_cases x0:x = true
  · rw [if_pos x0,if_pos x0]
  · rw [if_neg x0,if_neg x0]
    by_cases k1:kind = 1
    · rw [if_pos k1,decide_eq_false (show ¬ kind ≠ 1 from fun h=>h k1)];rfl
    · rw [if_neg k1,decide_eq_true (show kind ≠ 1 from k1)]
      by_cases d0:(d.length:Int) > 0
      · rw [if_pos d0,decide_eq_true (show 0 < d.length by omega)];rfl
      · rw [if_neg d0,decide_eq_false (show ¬ 0 < d.length by omega)];rfl
theorem ef_j2 (k:Nat) (x:Bool) (p:ByteArray) (kind:Int) (t:ByteArray) (a b c:Int) (u g:ByteArray) (s n:Int) (d:List Int) (h:creelref_PathFault.f k t = some (pathR t)) (h':creelref_has.f k t 0 = some (t.data.toList.contains 0)) :
    rEF.j2 (k + 1) x p kind t a b c u g s n d = some (tailE x kind t):=by
  simp only [rEF.j2,h,h',Option.bind_some]
  unfold tailE
  generalize t.data.toList.contains 0 = z
  cases z <;> cases x <;> by_cases k4:kind = 4 <;> simp [k4]
theorem ef_j1 (k:Nat) (x:Bool) (p:ByteArray) (kind:Int) (t:ByteArray) (a b c:Int) (u g:ByteArray) (s n:Int) (d:List Int) (h:creelref_PathFault.f k t = some (pathR t)) (h':creelref_has.f k t 0 = some (t.data.toList.contains 0)) :
    rEF.j1 (k + 2) x p kind t a b c u g s n d = some (midE x kind t d.length):=by
  simp only [rEF.j1,ef_j2 k _ p kind t a b c u g s n d h h']
  unfold midE
  by_cases x0:x = true
  · rw [if_pos x0,if_pos x0]
  · rw [if_neg x0,if_neg x0]
    by_cases d0:(d.length:Int) > 2000
    · rw [if_pos d0,decide_eq_true d0];rfl
    · rw [if_neg d0,decide_eq_false d0];rfl
theorem ef_j0 (k:Nat) (x:Bool) (p:ByteArray) (kind:Int) (t:ByteArray) (a b c:Int) (u g:ByteArray) (s n:Int) (d:List Int) (h:creelref_PathFault.f k t = some (pathR t)) (h':creelref_has.f k t 0 = some (t.data.toList.contains 0)) (hk:1 ≤ kind) :
    rEF.j0 (k + 3) x p kind t a b c u g s n d = some (if x = true then 2 else midE ((decide (kind ≠ 1) && decide (0 < d.length)) || ((t.toList != ([]:List UInt8)) != decide (kind ≥ 3))) kind t d.length):=by
  simp only [rEF.j0,ef_j1 k _ p kind t a b c u g s n d h h']
  by_cases x0:x = true
  · rw [if_pos x0,if_pos x0]
  · rw [if_neg x0,if_neg x0]
    have hd:((d.length:Int) != 0) = decide (0 < d.length):=by
      by_cases d0:d.length = 0
      · rw [d0];rfl
      · rw [decide_eq_true (show 0 < d.length by omega)];simpa using fun h=>d0 (by rw [h];rfl)
    by_cases g2:kind > 2
    · rw [if_pos g2,if_pos (show kind > 1 by omega),decide_eq_true (show kind ≠ 1 by omega),decide_eq_true (show kind ≥ 3 by omega),hd]
      by_cases t0:t.toList = ([]:List UInt8)
      · rw [if_pos t0,t0]
        cases decide (0 < d.length) <;> rfl
      · rw [if_neg t0,bne_iff_ne.mpr t0]
        cases decide (0 < d.length) <;> rfl
    · rw [if_neg g2,decide_eq_false (show ¬ kind ≥ 3 by omega),hd]
      by_cases t0:t.toList = ([]:List UInt8)
      · rw [if_pos t0,t0]
        by_cases g1:kind > 1
        · rw [if_pos g1,decide_eq_true (show kind ≠ 1 by omega)]
          cases decide (0 < d.length) <;> rfl
        · rw [if_neg g1,decide_eq_false (show ¬ kind ≠ 1 by omega)]
          cases decide (0 < d.length) <;> rfl
      · rw [if_neg t0,bne_iff_ne.mpr t0]
        cases decide (kind ≠ 1) <;> cases decide (0 < d.length) <;> rfl
theorem plan_ev (p:ByteArray) (kind:Int) (t:ByteArray) (a b c:Int) (u g:ByteArray) (s n:Int) (d:List Int) (hp:p.size ≤ 140737488351232) (ht:t.size ≤ 140737488351232) :
    Ev (fun k=>plan_Right.f k p kind t a b c u g s n d) (entryR p kind t a b c u g s n d.length):=by
  obtain ⟨K1,a1⟩:=(path_same p hp).1
  replace a1:∀ k,K1 ≤ k→path_Check.f k p = some (pathR p):=a1
  obtain ⟨K2,a2⟩:=check_ev a b c u g s n
  replace a2:∀ k,K2 ≤ k→meta_Check.f k a b c u g s n = some (wrong a b c u g s n):=a2
  obtain ⟨K3,a3⟩:=(path_same t ht).1
  replace a3:∀ k,K3 ≤ k→path_Check.f k t = some (pathR t):=a3
  refine ⟨K1 + K2 + K3 + 10,fun k hk=>?_⟩
  show plan_Right.f k p kind t a b c u g s n d = _
  unfold plan_Right.f entryR
  rw [a1 k (by omega)]
  simp only [Option.bind_some]
  by_cases hP:pathR p = 0
  · rw [if_pos hP,if_pos hP,a2 k (by omega)]
    simp only [Option.bind_some]
    by_cases hM:wrong a b c u g s n = 0
    · rw [if_pos hM,if_pos hM]
      obtain ⟨k,rfl⟩:∃ m,k = m + 3:=⟨k - 3,by omega⟩
      rw [pr_j0 k _ p kind t a b c u g s n d (a3 k (by omega)),pr_j0 k _ p kind t a b c u g s n d (a3 k (by omega))]
      unfold restE
      by_cases l1:kind < 1
      · rw [if_pos l1,if_pos rfl,if_pos (Or.inl l1)]
      · rw [if_neg l1]
        by_cases g4:kind > 4
        · rw [decide_eq_true g4,if_pos rfl,if_pos (Or.inr g4)]
        · rw [decide_eq_false g4,if_neg (by simp),if_neg (by omega)]
    · rw [if_neg hM,if_neg hM]
  · rw [if_neg hP,if_neg hP]
theorem refentry_ev (p:ByteArray) (kind:Int) (t:ByteArray) (a b c:Int) (u g:ByteArray) (s n:Int) (d:List Int) (hp:p.size ≤ 140737488351232) (ht:t.size ≤ 140737488351232) (hu:u.size ≤ 140737488351232) (hg:g.size ≤ 140737488351232) :
    Ev (fun k=>rEF.f k p kind t a b c u g s n d) (entryR p kind t a b c u g s n d.length):=by
  obtain ⟨K1,a1⟩:=(path_same p hp).2
  replace a1:∀ k,K1 ≤ k→creelref_PathFault.f k p = some (pathR p):=a1
  obtain ⟨K2,a2⟩:=fault_ev a b c u g s n hu hg
  replace a2:∀ k,K2 ≤ k→creelref_MetaFault.f k a b c u g s n = some (wrong a b c u g s n):=a2
  obtain ⟨K3,a3⟩:=(path_same t ht).2
  replace a3:∀ k,K3 ≤ k→creelref_PathFault.f k t = some (pathR t):=a3
  obtain ⟨K4,a4⟩:=has_ev t 0 (by omega) (by omega) ht
  replace a4:∀ k,K4 ≤ k→creelref_has.f k t 0 = some (t.data.toList.contains 0):=a4
  refine ⟨K1 + K2 + K3 + K4 + 10,fun k hk=>?_⟩
  show rEF.f k p kind t a b c u g s n d = _
  unfold rEF.f entryR
  rw [a1 k (by omega)]
  simp only [Option.bind_some]
  by_cases hP:pathR p = 0
  · rw [if_pos hP,if_pos hP,a2 k (by omega)]
    simp only [Option.bind_some]
    by_cases hM:wrong a b c u g s n = 0
    · rw [if_pos hM,if_pos hM]
      obtain ⟨k,rfl⟩:∃ m,k = m + 3:=⟨k - 3,by omega⟩
      unfold restE
      by_cases l1:kind < 1
      · rw [if_pos l1,if_pos (Or.inl l1)]
        simp [rEF.j0]
      · rw [if_neg l1,ef_j0 k _ p kind t a b c u g s n d (a3 k (by omega)) (a4 k (by omega)) (by omega)]
        by_cases g4:kind > 4
        · rw [decide_eq_true g4,if_pos rfl,if_pos (Or.inr g4)]
        · rw [decide_eq_false g4,if_neg (by simp),if_neg (by omega)]
    · rw [if_neg hM,if_neg hM]
  · rw [if_neg hP,if_neg hP]
end Go.Proofs.YtlfeijjilndljaaDoor.Q
end
section
namespace Go.Proofs.YtlfeijjilndljaaDoor.All
open Go.RowKit Go.Proofs.YtlfeijjilndljaaDoorW.PrintWords Go.Proofs.YtlfeijjilndljaaDoorW.PrintLast Go.Proofs.YtlfeijjilndljaaDoorW.PrintMore
open Go.Proofs.YtlfeijjilndljaaDoorW.Mine
attribute [local go_sem] gtr_string leq_string geq_string
attribute [local go_sem] max2_int min2_int max_two min_two max_three min_three max_four min_four
set_option linter.unusedVariables false
set_option linter.unusedSimpArgs false
def strings_HasPrefix.f (a0:ByteArray) (a1:ByteArray):Option Bool:=some (Lib.hasPrefix a0.data.toList a1.data.toList)
def path_In.f (a0:ByteArray) (a1:ByteArray):Option (Bool):=if a1.toList = ([]:List UInt8) then (if a0.toList = ([]:List UInt8) then (if a1.size + 1 ≤ 9223372036854775807 then ((strings_HasPrefix.f a0 (a1 ++ (⟨#[47]⟩:ByteArray))).bind fun t101=>(some t101)) else (none)) else (some true)) else (if a1.size + 1 ≤ 9223372036854775807 then ((strings_HasPrefix.f a0 (a1 ++ (⟨#[47]⟩:ByteArray))).bind fun t102=>(some t102)) else (none))
def creelref_PathIn.f (a0 a1:ByteArray):Option Bool:=some (if a1.toList = ([]:List UInt8) then !a0.toList.isEmpty else if a1.size < a0.size then (if (a0.extract 0 a1.size).toList = a1.toList then bt a0 (a1.size:Int) == 47 else false) else false)
end Go.Proofs.YtlfeijjilndljaaDoor.All
end
section
namespace Go.Proofs.YtlfeijjilndljaaDoor.Q
set_option linter.unusedVariables false
set_option linter.unusedSimpArgs false
open Go.RowKit Go.Proofs.YtlfeijjilndljaaDoor.All Go.Proofs.YtlfeijjilndljaaDoorW.PrintWords Go.Proofs.YtlfeijjilndljaaDoorW.PrintLast Go.Proofs.YtlfeijjilndljaaDoorW.PrintMore Go.Proofs.YtlfeijjilndljaaDoorW.PureBase
theorem cmp_is (p q:ByteArray):cmp_Compare_string.f p q = some (if (Op.bytesLess p.toList q.toList) = true then (-1) else if (Op.bytesLess q.toList p.toList) = true then 1 else 0):=by
  unfold cmp_Compare_string.f cmp_isNaN_string.f
  simp only [bne_self_eq_false,Option.bind_some,Bool.false_eq_true,if_false]
  split
  · rfl
  · split <;> rfl
theorem cmp_loop (x y:List ByteArray) (hx:x.length ≤ 1099511627776) (d:Nat):∀ (k q i:Nat),x.length - i = d→i ≤ x.length→i ≤ y.length→d < k→2 * d + 2 < q →
    ∃ r,slices_Compare_string_string.l0 k x y x (x.length:Int) (i:Int) = some r∧creelref_PathOrder.l0 q x y (i:Int) = some r:=by
  induction d with
  | zero =>
    intro k q i hd hi hy hk hq
    obtain ⟨k,rfl⟩:∃ m,k = m + 1:=⟨k - 1,by omega⟩
    obtain ⟨q,rfl⟩:∃ m,q = m + 2:=⟨q - 2,by omega⟩
    have e:i = x.length:=by omega
    subst e
    simp only [slices_Compare_string_string.l0,creelref_PathOrder.l0,creelref_PathOrder.j1]
    rw [if_neg (show ¬ ((x.length:Int) < (x.length:Int)) by omega),if_neg (show ¬ ((x.length:Int) < (x.length:Int)) by omega),if_neg (show ¬ (false = true) by simp)]
    by_cases h:(x.length:Int) < (y.length:Int)
    · exact ⟨-1,by rw [if_pos h],by rw [if_pos h]⟩
    · exact ⟨0,by rw [if_neg h],by rw [if_neg h,if_neg (show ¬ (x.length:Int) > (y.length:Int) by omega)]⟩
  | succ d ih =>
    intro k q i hd hi hy hk hq
    obtain ⟨k,rfl⟩:∃ m,k = m + 1:=⟨k - 1,by omega⟩
    obtain ⟨q,rfl⟩:∃ m,q = m + 2:=⟨q - 2,by omega⟩
    have hlt:(i:Int) < (x.length:Int):=by omega
    simp only [slices_Compare_string_string.l0,creelref_PathOrder.l0,creelref_PathOrder.j1]
    rw [if_pos hlt,if_pos hlt,if_pos (show (0:Int) ≤ (i:Int) by omega),if_pos hlt,if_pos (show (0:Int) ≤ (i:Int) by omega),if_pos hlt]
    by_cases h:(i:Int) < (y.length:Int)
    · rw [if_neg (show ¬ (i:Int) ≥ (y.length:Int) by omega),if_pos h,cmp_is,decide_eq_true h,if_pos h,if_pos rfl]
      simp only [Option.bind_some]
      have hw:wrap64 ((i:Int) + 1) = ((i + 1:Nat):Int):=by rw [wrap_is (by omega) (by omega)];omega
      by_cases l1:(Op.bytesLess (rdOf ByteArray.empty x (i:Int)).toList (rdOf ByteArray.empty y (i:Int)).toList) = true
      · refine ⟨-1,?_,?_⟩
        · rw [if_pos l1,if_neg (by omega)]
        · rw [if_pos l1]
      · by_cases l2:(Op.bytesLess (rdOf ByteArray.empty y (i:Int)).toList (rdOf ByteArray.empty x (i:Int)).toList) = true
        · refine ⟨1,?_,?_⟩
          · rw [if_neg l1,if_pos l2,if_neg (by omega)]
          · rw [if_neg l1,if_pos l2]
        · obtain ⟨r,h1,h2⟩:=ih k q (i + 1) (by omega) (by omega) (by omega) (by omega) (by omega)
          rw [if_neg l1,if_neg l2,if_pos rfl,if_neg l1,if_neg l2,hw]
          exact ⟨r,h1,h2⟩
    · refine ⟨1,?_,?_⟩
      · rw [if_pos (show (i:Int) ≥ (y.length:Int) by omega)]
      · rw [decide_eq_false h,if_neg (show ¬ (false = true) by simp),if_neg (show ¬ (x.length:Int) < (y.length:Int) by omega),if_pos (show (x.length:Int) > (y.length:Int) by omega)]
def cmpL:List ByteArray→List ByteArray→Int
  | [],[]=>0
  | [],_ :: _=>-1
  | _ :: _,[]=>1
  | p :: x,q :: y=>if (Op.bytesLess p.toList q.toList) = true then -1 else if (Op.bytesLess q.toList p.toList) = true then 1 else cmpL x y
def prt (s:ByteArray):List ByteArray:=if s.toList = ([]:List UInt8) then [] else pp s
def cmpP (a b:ByteArray):Int:=cmpL (prt a) (prt b)
theorem drop_getD (x:List ByteArray) (i:Nat) (h:i < x.length):x.drop i = rdOf ByteArray.empty x (i:Int) :: x.drop (i + 1):=by
  rw [List.drop_eq_getElem_cons h]
  simp [rdOf,List.getD_eq_getElem?_getD,List.getElem?_eq_getElem h]
theorem slices_val (x y:List ByteArray) (hx:x.length ≤ 1099511627776) (d:Nat):∀ (k i:Nat),x.length - i = d→i ≤ x.length→i ≤ y.length→d < k →
    slices_Compare_string_string.l0 k x y x (x.length:Int) (i:Int) = some (cmpL (x.drop i) (y.drop i)):=by
  induction d with
  | zero =>
    intro k i hd hi hy hk
    obtain ⟨k,rfl⟩:∃ m,k = m + 1:=⟨k - 1,by omega⟩
    have e:i = x.length:=by omega
    subst e
    simp only [slices_Compare_string_string.l0]
    rw [if_neg (show ¬ ((x.length:Int) < (x.length:Int)) by omega),List.drop_length]
    by_cases h:(x.length:Int) < (y.length:Int)
    · rw [if_pos h,drop_getD y _ (by omega)]
      rfl
    · rw [if_neg h,List.drop_of_length_le (by omega)]
      rfl
  | succ d ih =>
    intro k i hd hi hy hk
    obtain ⟨k,rfl⟩:∃ m,k = m + 1:=⟨k - 1,by omega⟩
    have hlt:(i:Int) < (x.length:Int):=by omega
    simp only [slices_Compare_string_string.l0]
    rw [if_pos hlt,if_pos (show (0:Int) ≤ (i:Int) by omega),if_pos hlt,drop_getD x i (by omega)]
    by_cases h:(i:Int) < (y.length:Int)
    · have hw:wrap64 ((i:Int) + 1) = ((i + 1:Nat):Int):=by rw [wrap_is (by omega) (by omega)];omega
      rw [if_neg (show ¬ (i:Int) ≥ (y.length:Int) by omega),if_pos h,cmp_is,drop_getD y i (by omega)]
      simp only [Option.bind_some,cmpL]
      by_cases l1:(Op.bytesLess (rdOf ByteArray.empty x (i:Int)).toList (rdOf ByteArray.empty y (i:Int)).toList) = true
      · rw [if_pos l1,if_neg (by omega)]
        rw [if_pos l1]
      · by_cases l2:(Op.bytesLess (rdOf ByteArray.empty y (i:Int)).toList (rdOf ByteArray.empty x (i:Int)).toList) = true
        · rw [if_neg l1,if_pos l2,if_neg (by omega),if_neg l1,if_pos l2]
        · rw [if_neg l1,if_neg l2,if_pos rfl,if_neg l1,if_neg l2,hw]
          exact ih k (i + 1) (by omega) (by omega) (by omega) (by omega)
    · rw [if_pos (show (i:Int) ≥ (y.length:Int) by omega),List.drop_of_length_le (show y.length ≤ i by omega)]
      rfl
theorem prt_is (s:ByteArray) (hs:s.size ≤ 1048576) (k:Nat) (hk:s.size < k):(prt s).length ≤ s.size + 1∧path_Parts.f s = some (prt s)∧creelref_PathParts.f k s = some (prt s):=by
  unfold path_Parts.f creelref_PathParts.f prt
  by_cases h0:s.toList = ([]:List UInt8)
  · rw [if_pos h0,if_pos h0,if_pos h0]
    exact ⟨by simp,rfl,rfl⟩
  · rw [if_neg h0,if_neg h0,if_neg h0,split_is s (by omega),parts_is s k (by omega) hk]
    exact ⟨pp_len s,rfl,rfl⟩
theorem cmp_both (a b:ByteArray) (ha:a.size ≤ 1048576) (hb:b.size ≤ 1048576) (k:Nat) (hk:2 * a.size + b.size + 10 ≤ k):path_Compare.f k a b = some (cmpP a b)∧creelref_PathOrder.f k a b = some (cmpP a b):=by
  obtain ⟨hx,x1,x2⟩:=prt_is a ha k (by omega)
  obtain ⟨hy,y1,y2⟩:=prt_is b hb k (by omega)
  have v:=slices_val (prt a) (prt b) (by omega) (prt a).length k 0 (by omega) (by omega) (by omega) (by omega)
  obtain ⟨r,r1,r2⟩:=cmp_loop (prt a) (prt b) (by omega) (prt a).length k k 0 (by omega) (by omega) (by omega) (by omega) (by omega)
  have e:r = cmpP a b:=by
    rw [v] at r1
    simp only [List.drop_zero,Option.some.injEq] at r1
    exact r1.symm
  subst e
  constructor
  · unfold path_Compare.f slices_Compare_string_string.f
    rw [x1,y1]
    simp only [Option.bind_some]
    rw [show slices_Compare_string_string.l0 k (prt a) (prt b) (prt a) ((prt a).length:Int) 0 = some (cmpP a b) from r1]
    rfl
  · unfold creelref_PathOrder.f
    rw [x2,y2]
    exact r2
theorem cmp_ev (a b:ByteArray) (ha:a.size ≤ 1048576) (hb:b.size ≤ 1048576):Ev (fun k=>path_Compare.f k a b) (cmpP a b)∧Ev (fun k=>creelref_PathOrder.f k a b) (cmpP a b) :=
  ⟨⟨_,fun k hk=>(cmp_both a b ha hb k hk).1⟩,⟨_,fun k hk=>(cmp_both a b ha hb k hk).2⟩⟩
theorem cmpL_01:∀ x y:List ByteArray,cmpL x y = -1 ∨ cmpL x y = 0 ∨ cmpL x y = 1
  | [],[]=>Or.inr (Or.inl rfl)
  | [],_ :: _=>Or.inl rfl
  | _ :: _,[]=>Or.inr (Or.inr rfl)
  | p :: x,q :: y=>by
    unfold cmpL
    split
    · exact Or.inl rfl
    · split
      · exact Or.inr (Or.inr rfl)
      · exact cmpL_01 x y
theorem cmpP_01 (a b:ByteArray):cmpP a b = -1 ∨ cmpP a b = 0 ∨ cmpP a b = 1:=cmpL_01 _ _
def upOf (s:ByteArray):ByteArray:=(path_Up.f s).getD (⟨#[]⟩:ByteArray)
theorem up_ev (s:ByteArray) (hs:s.size ≤ 1048576):path_Up.f s = some (upOf s)∧∃ b,Ev (fun k=>creelref_PathSplit.f k s) (upOf s,b):=by
  rcases up_only s (s.size + 3) hs (by omega) with ⟨e,h1,h2⟩|⟨i,hi,e,h1,h2⟩
  · have e1:upOf s = (⟨#[]⟩:ByteArray):=by unfold upOf;rw [h1];rfl
    refine ⟨by rw [e1,h1],s,s.size + 3,fun k hk=>?_⟩
    rcases up_only s k hs (by omega) with ⟨_,_,g2⟩|⟨j,hj,e',_,_⟩
    · rw [e1];exact g2
    · omega
  · have e1:upOf s = s.extract 0 i:=by unfold upOf;rw [h1];rfl
    refine ⟨by rw [e1,h1],s.extract (i + 1) s.size,s.size + 3,fun k hk=>?_⟩
    rcases up_only s k hs (by omega) with ⟨e',_,_⟩|⟨j,hj,e',_,g2⟩
    · omega
    · obtain rfl:i = j:=by omega
      rw [e1];exact g2
theorem less_irrefl (a:List UInt8):Op.bytesLess a a = false:=by
  have:=Go.Proofs.YtlfeijjilndljaaDoorW.Mine.bytesLess_swap a a
  cases h:Op.bytesLess a a with
  | false=>rfl
  | true=>rw [h] at this;simp at this
theorem less_total {a b:List UInt8} (h1:¬ Op.bytesLess a b = true) (h2:¬ Op.bytesLess b a = true):a = b:=by
  have:=Go.Proofs.YtlfeijjilndljaaDoorW.Mine.bytesLess_swap a b
  rw [Bool.eq_false_iff.mpr h1,Bool.eq_false_iff.mpr h2] at this
  simpa using this
theorem less_trans:∀ a b c:List UInt8,Op.bytesLess a b = true→Op.bytesLess b c = true→Op.bytesLess a c = true
  | [],[],_,h,_=>by simp [Op.bytesLess] at h
  | [],_ :: _,[],_,h=>by simp [Op.bytesLess] at h
  | [],_ :: _,_ :: _,_,_=>by simp [Op.bytesLess]
  | _ :: _,[],_,h,_=>by simp [Op.bytesLess] at h
  | _ :: _,_ :: _,[],_,h=>by simp [Op.bytesLess] at h
  | x :: a,y :: b,z :: c,h1,h2=>by
    simp only [Op.bytesLess,Bool.or_eq_true,Bool.and_eq_true,decide_eq_true_eq,beq_iff_eq] at h1 h2 ⊢
    rcases h1 with p|⟨rfl,p⟩
    · rcases h2 with q|⟨rfl,q⟩
      · exact Or.inl (by rw [UInt8.lt_iff_toNat_lt] at p q ⊢;omega)
      · exact Or.inl p
    · rcases h2 with q|⟨rfl,q⟩
      · exact Or.inl q
      · exact Or.inr ⟨rfl,less_trans a b c p q⟩
theorem cmpL_self:∀ x:List ByteArray,cmpL x x = 0
  | []=>rfl
  | p :: x=>by
    unfold cmpL
    rw [less_irrefl,if_neg (by decide),if_neg (by decide)]
    exact cmpL_self x
theorem cmpL_trans:∀ x y z:List ByteArray,cmpL x y = -1→cmpL y z = -1→cmpL x z = -1
  | [],[],_,h,_=>by simp [cmpL] at h
  | [],_ :: _,[],_,h=>by simp [cmpL] at h
  | [],_ :: _,_ :: _,_,_=>rfl
  | _ :: _,[],_,h,_=>by simp [cmpL] at h
  | _ :: _,_ :: _,[],_,h=>by simp [cmpL] at h
  | p :: x,q :: y,r :: z,h1,h2=>by
    unfold cmpL at h1 h2 ⊢
    by_cases a:Op.bytesLess p.toList q.toList = true
    · by_cases b:Op.bytesLess q.toList r.toList = true
      · rw [if_pos (less_trans _ _ _ a b)]
      · rw [if_neg b] at h2
        split at h2
        · cases h2
        · rename_i c
          have e:=less_total b c
          rw [← e,if_pos a]
    · rw [if_neg a] at h1
      split at h1
      · cases h1
      · rename_i c
        have e:=less_total a c
        rw [e]
        by_cases b:Op.bytesLess q.toList r.toList = true
        · rw [if_pos b]
        · rw [if_neg b] at h2 ⊢
          split at h2
          · cases h2
          · rename_i d
            rw [if_neg d]
            exact cmpL_trans x y z h1 h2
theorem cmpP_self (a:ByteArray):cmpP a a = 0:=cmpL_self _
theorem cmpP_trans {a b c:ByteArray} (h1:cmpP a b = -1) (h2:cmpP b c = -1):cmpP a c = -1:=cmpL_trans _ _ _ h1 h2
theorem cmpP_ne {a b:ByteArray} (h:cmpP a b = -1):a ≠ b:=fun e=>by rw [e,cmpP_self] at h;cases h
theorem rising {α:Type} (p:α→ByteArray) (g:Nat→α) (n:Nat) (h:∀ i,0 < i→i < n→cmpP (p (g (i - 1))) (p (g i)) = -1):∀ d i j,j = i + d + 1→j < n→cmpP (p (g i)) (p (g j)) = -1
  | 0,i,j,e,hj=>by
    subst e
    exact h (i + 0 + 1) (by omega) hj
  | d + 1,i,j,e,hj=>by
    have h1:=rising p g n h d i (j - 1) (by omega) (by omega)
    have h2:=h j (by omega) hj
    exact cmpP_trans h1 h2
abbrev Entry:=S35
def ne (l:List Entry) (i:Nat):Entry:=l.getD i z35
theorem rd_ne (l:List Entry) (i:Nat):rd_T35 l (i:Int) = ne l i:=by unfold rd_T35 ne;rw [Int.toNat_natCast]
theorem ne_get (l:List Entry) (i:Nat) (h:i < l.length):l[i] = ne l i:=by
  unfold ne
  rw [List.getD_eq_getElem?_getD,List.getElem?_eq_getElem h]
  rfl
theorem ne_mem (l:List Entry) (i:Nat) (h:i < l.length):ne l i ∈ l:=by rw [← ne_get l i h];exact List.getElem_mem h
theorem take_ne (l:List Entry) (n:Nat) (h:n < l.length):l.take (n + 1) = l.take n ++ [ne l n]:=by
  rw [List.take_succ_eq_append_getElem h,ne_get l n h]
def okE (x:Entry):Prop:=x.f0.size ≤ 140737488351232∧x.f2.size ≤ 140737488351232∧x.f3.f3.size ≤ 140737488351232∧x.f3.f4.size ≤ 140737488351232
def entX (x:Entry):Int:=entryR x.f0 x.f1 x.f2 x.f3.f0 x.f3.f1 x.f3.f2 x.f3.f3 x.f3.f4 x.f3.f5 x.f3.f6 x.f4.length
theorem eright_at (x:Entry) (h:okE x):Ev (fun k=>plan_Check.right k x) (entX x):=plan_ev x.f0 x.f1 x.f2 x.f3.f0 x.f3.f1 x.f3.f2 x.f3.f3 x.f3.f4 x.f3.f5 x.f3.f6 x.f4 h.1 h.2.1
theorem refent_at (x:Entry) (h:okE x):Ev (fun k=>creelref_EntriesFault.right k x) (entX x):=refentry_ev x.f0 x.f1 x.f2 x.f3.f0 x.f3.f1 x.f3.f2 x.f3.f3 x.f3.f4 x.f3.f5 x.f3.f6 x.f4 h.1 h.2.1 h.2.2.1 h.2.2.2
theorem entX_path (x:Entry) (h:entX x = 0):1 ≤ x.f0.size∧x.f0.size ≤ 400:=by
  unfold entX entryR at h
  split at h
  · rename_i h0
    unfold pathR at h0
    split at h0
    · cases h0
    · omega
  · contradiction
def metaE (y x:Entry):Bool:=creelref_EntriesFault.meta y x
def isE (s:List UInt8) (y:Entry):Bool:=decide (y.f0.toList = s)
def findE (l:List Entry) (s:List UInt8):Nat:=l.findIdx (isE s)
theorem findE_le (l:List Entry) (s:List UInt8):findE l s ≤ l.length:=List.findIdx_le_length
theorem findE_at (l:List Entry) (s:List UInt8) (i:Nat) (hi:i < l.length) (h:(ne l i).f0.toList = s) (hb:∀ j,j < i→(ne l j).f0.toList ≠ s):findE l s = i:=by
  unfold findE
  rw [List.findIdx_eq hi]
  refine ⟨by rw [ne_get l i hi];exact decide_eq_true h,fun j hj=>?_⟩
  rw [ne_get l j (by omega)]
  exact decide_eq_false (hb j hj)
theorem findE_no (l:List Entry) (s:List UInt8) (hb:∀ j,j < l.length→(ne l j).f0.toList ≠ s):findE l s = l.length:=by
  unfold findE
  rw [List.findIdx_eq_length]
  intro y hy
  obtain ⟨j,hj,rfl⟩:=List.getElem_of_mem hy
  rw [ne_get l j hj]
  exact decide_eq_false (hb j hj)
theorem at_loop (l:List Entry) (s:ByteArray) (hl:l.length ≤ 1099511627776) (d:Nat):∀ (k i:Nat),l.length - i = d→i ≤ l.length→d < k→(∀ j,j < i→(ne l j).f0.toList ≠ s.toList) →
    creelref_EntryAt.l0 k l s (i:Int) = some (findE l s.toList:Int):=by
  induction d with
  | zero =>
    intro k i hd hi hk hb
    obtain ⟨k,rfl⟩:∃ m,k = m + 1:=⟨k - 1,by omega⟩
    have e:i = l.length:=by omega
    subst e
    have hf:=findE_no l s.toList hb
    simp only [creelref_EntryAt.l0]
    rw [if_neg (by omega),hf]
  | succ d ih =>
    intro k i hd hi hk hb
    obtain ⟨k,rfl⟩:∃ m,k = m + 1:=⟨k - 1,by omega⟩
    have hlt:(i:Int) < (l.length:Int):=by omega
    have hw:wrap64 ((i:Int) + 1) = ((i + 1:Nat):Int):=by rw [wrap_is (by omega) (by omega)];omega
    simp only [creelref_EntryAt.l0]
    rw [if_pos hlt,if_pos (show (0:Int) ≤ (i:Int) by omega),rd_ne]
    by_cases h:(ne l i).f0.toList = s.toList
    · have hf:=findE_at l s.toList i (by omega) h hb
      rw [if_pos h,hf]
    · rw [if_neg h,hw]
      refine ih k (i + 1) (by omega) (by omega) (by omega) (fun j hj=>?_)
      by_cases e:j = i
      · subst e;exact h
      · exact hb j (by omega)
theorem at_is (l:List Entry) (s:ByteArray) (hl:l.length ≤ 1099511627776) (k:Nat) (hk:l.length < k):creelref_EntryAt.f k l s = some (findE l s.toList:Int) :=
  at_loop l s hl l.length k 0 (by omega) (by omega) hk (fun j hj=>absurd hj (Nat.not_lt_zero j))
def twoE (l:List Entry) (n:Nat) (x:Entry):Bool:=if 0 < n then decide (0 ≤ cmpP (ne l (n - 1)).f0 x.f0) else false
def upE (l:List Entry) (n:Nat) (x:Entry):Bool:=if (upOf x.f0).toList = ([]:List UInt8) then false else if findE (l.take n) (upOf x.f0).toList < n then ((ne l (findE (l.take n) (upOf x.f0).toList)).f1 != 2) else true
def linkE (l:List Entry) (n:Nat) (x:Entry):Bool:=if x.f1 = 4 then (if findE (l.take n) x.f2.toList < n then (if (ne l (findE (l.take n) x.f2.toList)).f1 = 1 then !metaE (ne l (findE (l.take n) x.f2.toList)) x else true) else true) else false
def stepE (l:List Entry) (n:Nat) (x:Entry):Int:=if entX x = 0 then (if twoE l n x = true then 6 else if upE l n x = true then 10 else if linkE l n x = true then 11 else 0) else entX x
def entFrom (l:List Entry):Nat→Nat→Int
  | 0,_=>0
  | d + 1,n=>if stepE l n (ne l n) = 0 then entFrom l d (n + 1) else stepE l n (ne l n)
def entriesR (l:List Entry):Int:=if 40 < l.length then 1 else entFrom l l.length 0
theorem stepE_zero (l:List Entry) (n:Nat) (x:Entry) (h:stepE l n x = 0):entX x = 0∧twoE l n x = false∧upE l n x = false∧linkE l n x = false:=by
  unfold stepE at h
  split at h
  · rename_i h0
    split at h
    · cases h
    · rename_i h1
      split at h
      · cases h
      · rename_i h2
        split at h
        · cases h
        · rename_i h3
          exact ⟨h0,Bool.eq_false_iff.mpr h1,Bool.eq_false_iff.mpr h2,Bool.eq_false_iff.mpr h3⟩
  · contradiction
theorem esize_le (l:List Entry) {n:Nat} (hn:∀ j,j < n→stepE l j (ne l j) = 0) (i:Nat) (hi:i < n):(ne l i).f0.size ≤ 1048576:=by
  have:=entX_path _ (stepE_zero l i _ (hn i hi)).1
  omega
theorem two_ent (l:List Entry) (x:Entry) (n:Nat) (hx:x.f0.size ≤ 1048576) (hb:∀ j,j < n→stepE l j (ne l j) = 0):Ev (fun k=>creelref_EntriesFault.two k l x n) (twoE l n x)∧Ev (fun k=>plan_Check.two k l x n) (twoE l n x):=by
  unfold twoE creelref_EntriesFault.two plan_Check.two
  by_cases h:0 < n
  · simp only [if_pos h,rd_ne]
    obtain ⟨h1,h2⟩:=cmp_ev (ne l (n - 1)).f0 x.f0 (esize_le l hb (n - 1) (by omega)) hx
    exact ⟨Ev.bind h2 (Ev.const rfl),Ev.bind h1 (Ev.const rfl)⟩
  · simp only [if_neg h]
    exact ⟨Ev.now _,Ev.now _⟩
theorem at_ev (l:List Entry) (s:ByteArray) (n:Nat) (hl:l.length ≤ 40):Ev (fun k=>creelref_EntryAt.f k (l.take n) s) (findE (l.take n) s.toList:Int):=⟨50,fun k hk=>at_is (l.take n) s (by simp;omega) k (by simp;omega)⟩
theorem up_ent (l:List Entry) (x:Entry) (n:Nat) (hx:x.f0.size ≤ 1048576) (hn:n ≤ l.length) (hl:l.length ≤ 40):Ev (fun k=>creelref_EntriesFault.up k l x n) (upE l n x):=by
  obtain ⟨h1,b,h2⟩:=up_ev x.f0 hx
  have hle:=findE_le (l.take n) (upOf x.f0).toList
  rw [show (l.take n).length = n by simp;omega] at hle
  unfold creelref_EntriesFault.up
  refine Ev.bind h2 (Ev.bind (at_ev l (upOf x.f0) n hl) ?_)
  by_cases e:(upOf x.f0).toList = ([]:List UInt8)
  · rw [show upE l n x = false by unfold upE;rw [if_pos e]]
    exact Ev.ifp e (Ev.now _)
  · refine Ev.ifn e ?_
    by_cases g:findE (l.take n) (upOf x.f0).toList < n
    · rw [show upE l n x = ((ne l (findE (l.take n) (upOf x.f0).toList)).f1 != 2) by unfold upE;rw [if_neg e,if_pos g]]
      refine Ev.ifn (by omega) (Ev.ifp (by omega) (Ev.const ?_))
      rw [rd_ne]
    · rw [show upE l n x = true by unfold upE;rw [if_neg e,if_neg g]]
      exact Ev.ifp (by omega) (Ev.now _)
theorem link_ent (l:List Entry) (x:Entry) (n:Nat) (hn:n ≤ l.length) (hl:l.length ≤ 40):Ev (fun k=>creelref_EntriesFault.link k l x n) (linkE l n x):=by
  have hle:=findE_le (l.take n) x.f2.toList
  rw [show (l.take n).length = n by simp;omega] at hle
  unfold creelref_EntriesFault.link
  refine Ev.bind (at_ev l _ n hl) ?_
  by_cases e:x.f1 = 4
  · refine Ev.ifp e ?_
    by_cases g:findE (l.take n) x.f2.toList < n
    · refine Ev.ifn (by omega) (Ev.ifp (by omega) ?_)
      by_cases c:(ne l (findE (l.take n) x.f2.toList)).f1 = 1
      · rw [show linkE l n x = !metaE (ne l (findE (l.take n) x.f2.toList)) x by unfold linkE;rw [if_pos e,if_pos g,if_pos c]]
        refine Ev.const ?_
        rw [rd_ne,if_pos c]
        rfl
      · rw [show linkE l n x = true by unfold linkE;rw [if_pos e,if_pos g,if_neg c]]
        refine Ev.const ?_
        rw [rd_ne,if_neg c]
    · rw [show linkE l n x = true by unfold linkE;rw [if_pos e,if_neg g]]
      exact Ev.ifp (by omega) (Ev.now _)
  · rw [show linkE l n x = false by unfold linkE;rw [if_neg e]]
    exact Ev.ifn e (Ev.now _)
theorem ref_estep (l:List Entry) (n:Nat) (hl:l.length ≤ 40) (hn:n < l.length) (hg:∀ y ∈ l,okE y) (hb:∀ j,j < n→stepE l j (ne l j) = 0):Ev (fun k=>creelref_EntriesFault.step k l (ne l n) n) (stepE l n (ne l n)):=by
  unfold creelref_EntriesFault.step
  refine Ev.bind (refent_at _ (hg _ (ne_mem l n hn))) ?_
  unfold stepE
  by_cases h:entX (ne l n) = 0
  · have hx:(ne l n).f0.size ≤ 1048576:=by have:=entX_path _ h;omega
    refine Ev.ifp h ?_
    rw [if_pos h]
    refine Ev.bind (two_ent l _ n hx hb).1 ?_
    by_cases h1:twoE l n (ne l n) = true
    · refine Ev.ifp h1 ?_
      rw [if_pos h1];exact Ev.now _
    · refine Ev.ifn h1 ?_
      rw [if_neg h1]
      refine Ev.bind (up_ent l _ n hx (by omega) hl) ?_
      by_cases h2:upE l n (ne l n) = true
      · refine Ev.ifp h2 ?_
        rw [if_pos h2];exact Ev.now _
      · refine Ev.ifn h2 ?_
        rw [if_neg h2]
        refine Ev.bind (link_ent l _ n (by omega) hl) ?_
        by_cases h3:linkE l n (ne l n) = true
        · refine Ev.ifp h3 ?_
          rw [if_pos h3];exact Ev.now _
        · refine Ev.ifn h3 ?_
          rw [if_neg h3];exact Ev.now _
  · refine Ev.ifn h ?_
    rw [if_neg h];exact Ev.now _
theorem ref_efrom (l:List Entry) (hl:l.length ≤ 40) (hg:∀ y ∈ l,okE y) (d:Nat):∀ n,n + d = l.length→(∀ j,j < n→stepE l j (ne l j) = 0)→Ev (fun k=>creelref_EntriesFault.l0 k l n) (entFrom l d n):=by
  induction d with
  | zero =>
    intro n hd hb
    exact Ev.step (f:=fun _=>some 0) (fun k=>by simp only [creelref_EntriesFault.l0];rw [if_neg (by omega)]) (Ev.now 0)
  | succ d ih =>
    intro n hd hb
    refine Ev.step (f:=fun k=>(creelref_EntriesFault.step k l (ne l n) n).bind fun e=>if e = 0 then creelref_EntriesFault.l0 k l (n + 1) else some e) (fun k=>by simp only [creelref_EntriesFault.l0];rw [if_pos (by omega),rd_ne]) ?_
    refine Ev.bind (ref_estep l n hl (by omega) hg hb) ?_
    unfold entFrom
    by_cases h:stepE l n (ne l n) = 0
    · rw [if_pos h]
      refine Ev.ifp h (ih (n + 1) (by omega) (fun j hj=>?_))
      by_cases e:j = n
      · subst e;exact h
      · exact hb j (by omega)
    · rw [if_neg h]
      exact Ev.ifn h (Ev.now _)
theorem ref_entries (l:List Entry) (hg:∀ y ∈ l,okE y):Ev (fun k=>creelref_EntriesFault.f k l) (entriesR l):=by
  unfold creelref_EntriesFault.f entriesR
  by_cases h:40 < l.length
  · rw [if_pos h];exact Ev.ifp h (Ev.now _)
  · rw [if_neg h]
    exact Ev.ifn h (ref_efrom l (by omega) hg l.length 0 (by omega) (fun j hj=>absurd hj (Nat.not_lt_zero j)))
def MapRelE (l:List Entry) (n:Nat) (m:List (List UInt8 × Entry)):Prop:=∀ s,Go.Proofs.YtlfeijjilndljaaDoorW.MapOwn.get m s = if findE (l.take n) s < n then some (ne l (findE (l.take n) s)) else none
theorem ne_take (l:List Entry) (n j:Nat) (h:j < n):ne (l.take n) j = ne l j:=by
  unfold ne
  rw [List.getD_eq_getElem?_getD,List.getD_eq_getElem?_getD,List.getElem?_take_of_lt h]
theorem rising_e (l:List Entry) (n:Nat) (hb:∀ j,j < n→stepE l j (ne l j) = 0) (i j:Nat) (h:i < j) (hj:j < n):cmpP (ne l i).f0 (ne l j).f0 = -1:=by
  refine rising (fun y:Entry=>y.f0) (ne l) n (fun i h0 hi=>?_) (j - i - 1) i j (by omega) hj
  have:=(stepE_zero l i _ (hb i hi)).2.1
  unfold twoE at this
  rw [if_pos h0] at this
  have h2:=of_decide_eq_false this
  rcases cmpP_01 (ne l (i - 1)).f0 (ne l i).f0 with e|e|e
  · exact e
  · omega
  · omega
theorem find_new (l:List Entry) (n:Nat) (hn:n < l.length) (hb:∀ j,j < n + 1→stepE l j (ne l j) = 0):findE (l.take (n + 1)) (ne l n).f0.toList = n:=by
  refine findE_at _ _ n (by simp;omega) (by rw [ne_take l (n + 1) n (by omega)]) (fun j hj e=>?_)
  rw [ne_take l (n + 1) j (by omega)] at e
  exact cmpP_ne (rising_e l (n + 1) hb j n hj (by omega)) (toList_inj e)
theorem find_old (l:List Entry) (n:Nat) (hn:n < l.length) (s:List UInt8) (hs:(ne l n).f0.toList ≠ s):(findE (l.take (n + 1)) s < n + 1 ↔ findE (l.take n) s < n)∧(findE (l.take n) s < n→findE (l.take (n + 1)) s = findE (l.take n) s):=by
  have hlen:(l.take n).length = n:=by simp;omega
  have hp:isE s (ne l n) = false:=decide_eq_false hs
  have key:findE (l.take (n + 1)) s = if findE (l.take n) s < n then findE (l.take n) s else n + 1:=by
    unfold findE
    rw [take_ne l n hn,List.findIdx_append,hlen]
    split
    · rfl
    · simp [List.findIdx_cons,hp];omega
  rw [key]
  split
  · rename_i h;exact ⟨⟨fun _=>h,fun _=>by omega⟩,fun _=>rfl⟩
  · rename_i h;exact ⟨⟨fun h'=>absurd h' (by omega),fun h'=>absurd h' h⟩,fun h'=>absurd h' h⟩
theorem map_next (l:List Entry) (n:Nat) (hn:n < l.length) (m:List (List UInt8 × Entry)) (hm:MapRelE l n m) (hb:∀ j,j < n + 1→stepE l j (ne l j) = 0):MapRelE l (n + 1) (((ne l n).f0.data.toList,ne l n) :: m):=by
  intro s
  by_cases e:(ne l n).f0.toList = s
  · subst e
    rw [← toList_data,Go.Proofs.YtlfeijjilndljaaDoorW.MapOwn.get_same,find_new l n hn hb,if_pos (by omega)]
  · rw [← toList_data,Go.Proofs.YtlfeijjilndljaaDoorW.MapOwn.get_other _ _ e,hm s]
    obtain ⟨h1,h2⟩:=find_old l n hn s e
    by_cases h:findE (l.take n) s < n
    · rw [if_pos h,if_pos (h1.2 h),h2 h]
    · rw [if_neg h,if_neg (fun h'=>h (h1.1 h'))]
theorem prog_estep (l:List Entry) (n:Nat) (m:List (List UInt8 × Entry)) (hl:l.length ≤ 40) (hn:n < l.length) (hg:∀ y ∈ l,okE y) (hb:∀ j,j < n→stepE l j (ne l j) = 0) (hm:MapRelE l n m):Ev (fun k=>plan_Check.step k l m (ne l n) n) (stepE l n (ne l n)):=by
  unfold plan_Check.step
  obtain ⟨g1,g2,_,_⟩:=hg _ (ne_mem l n hn)
  refine Ev.bind (eright_at _ (hg _ (ne_mem l n hn))) ?_
  unfold stepE
  by_cases h:entX (ne l n) = 0
  · have hx:(ne l n).f0.size ≤ 1048576:=by have:=entX_path _ h;omega
    obtain ⟨hu,b,hub⟩:=up_ev (ne l n).f0 hx
    refine Ev.ifp h ?_
    rw [if_pos h]
    refine Ev.bind (two_ent l _ n hx hb).2 ?_
    by_cases h1:twoE l n (ne l n) = true
    · refine Ev.ifp h1 ?_
      rw [if_pos h1];exact Ev.now _
    · have hupsz:(upOf (ne l n).f0).size ≤ maxLen:=by
        rcases up_only (ne l n).f0 ((ne l n).f0.size + 3) hx (by omega) with ⟨_,e,_⟩|⟨i,hi,_,e,_⟩
        · rw [hu] at e
          rw [Option.some.inj e]
          exact Nat.zero_le _
        · rw [hu] at e
          rw [Option.some.inj e,ByteArray.size_extract]
          unfold maxLen;omega
      have hup:plan_Check.up m (ne l n) = some (upE l n (ne l n)):=by
        unfold plan_Check.up upE
        rw [hu]
        simp only [Option.bind_some]
        by_cases e:(upOf (ne l n).f0).toList = ([]:List UInt8)
        · rw [if_pos e,if_pos e]
        · rw [if_neg e,if_neg e,if_pos hupsz,hm,← toList_data]
          by_cases g:findE (l.take n) (upOf (ne l n).f0).toList < n
          · rw [if_pos g,if_pos g]
          · rw [if_neg g,if_neg g]
      refine Ev.ifn h1 ?_
      rw [if_neg h1]
      refine Ev.bind (Ev.const hup) ?_
      by_cases h2:upE l n (ne l n) = true
      · refine Ev.ifp h2 ?_
        rw [if_pos h2];exact Ev.now _
      · have hlk:plan_Check.link m (ne l n) = some (linkE l n (ne l n)):=by
          unfold plan_Check.link linkE
          rw [if_pos (by unfold maxLen;omega),hm,← toList_data]
          by_cases g:findE (l.take n) (ne l n).f2.toList < n
          · rw [if_pos g]
            by_cases e:(ne l n).f1 = 4
            · rw [if_pos g,if_pos e]
              simp only [if_pos e]
              rfl
            · simp only [if_neg e]
          · rw [if_neg g]
            by_cases e:(ne l n).f1 = 4
            · simp [e,g]
            · simp [e]
        refine Ev.ifn h2 ?_
        rw [if_neg h2]
        refine Ev.bind (Ev.const hlk) ?_
        by_cases h3:linkE l n (ne l n) = true
        · refine Ev.ifp h3 ?_
          rw [if_pos h3];exact Ev.now _
        · refine Ev.ifn h3 (Ev.ifp (by unfold maxLen;omega) ?_)
          rw [if_neg h3];exact Ev.now _
  · refine Ev.ifn h ?_
    rw [if_neg h];exact Ev.now _
theorem prog_efrom (l:List Entry) (hl:l.length ≤ 40) (hg:∀ y ∈ l,okE y) (d:Nat):∀ n m,n + d = l.length→(∀ j,j < n→stepE l j (ne l j) = 0)→MapRelE l n m→Ev (fun k=>plan_Check.l0 k l m n) (entFrom l d n):=by
  induction d with
  | zero =>
    intro n m hd hb hm
    exact Ev.step (f:=fun _=>some 0) (fun k=>by simp only [plan_Check.l0];rw [if_neg (by omega)]) (Ev.now 0)
  | succ d ih =>
    intro n m hd hb hm
    refine Ev.step (f:=fun k=>(plan_Check.step k l m (ne l n) n).bind fun e=>if e = 0 then plan_Check.l0 k l (((ne l n).f0.data.toList,ne l n) :: m) (n + 1) else some e) (fun k=>by simp only [plan_Check.l0];rw [if_pos (by omega),rd_ne]) ?_
    refine Ev.bind (prog_estep l n m hl (by omega) hg hb hm) ?_
    unfold entFrom
    by_cases h:stepE l n (ne l n) = 0
    · rw [if_pos h]
      have hb':∀ j,j < n + 1→stepE l j (ne l j) = 0:=fun j hj=>by
        by_cases e:j = n
        · subst e;exact h
        · exact hb j (by omega)
      exact Ev.ifp h (ih (n + 1) _ (by omega) hb' (map_next l n (by omega) m hm hb'))
    · rw [if_neg h]
      exact Ev.ifn h (Ev.now _)
theorem prog_entries (l:List Entry) (hg:∀ y ∈ l,okE y):Ev (fun k=>plan_Check.f k l) (entriesR l):=by
  unfold plan_Check.f entriesR
  by_cases h:40 < l.length
  · rw [if_pos h];exact Ev.ifp h (Ev.now _)
  · rw [if_neg h]
    refine Ev.ifn h (prog_efrom l (by omega) hg l.length 0 [] (by omega) (fun j hj=>absurd hj (Nat.not_lt_zero j)) (fun s=>?_))
    rw [if_neg (Nat.not_lt_zero _)]
    rfl
end Go.Proofs.YtlfeijjilndljaaDoor.Q
end
