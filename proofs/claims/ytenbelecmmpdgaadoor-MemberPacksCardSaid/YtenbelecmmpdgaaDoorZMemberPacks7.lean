/- Made by programs of the prover: walks of Go functions, the words that they use, and plain laws, each text in a section of its own; no condition of its own. -/
import Derived.Lib.Bytealg
import Derived.Lib.IndexAny
import Derived.Lib.IndexLaws
import Derived.Test.YtenbelecmmpdgaaDoorZMemberPacks1
import Derived.Test.YtenbelecmmpdgaaDoorZMemberPacks2
import Derived.Test.YtenbelecmmpdgaaDoorZMemberPacks3
import Derived.Test.YtenbelecmmpdgaaDoorZMemberPacks4
import Derived.Test.YtenbelecmmpdgaaDoorZMemberPacks5
import Derived.Test.YtenbelecmmpdgaaDoorZMemberPacks6
section
namespace Go.Proofs.YtenbelecmmpdgaaDoor.GMemberPacks
open Go.RowKit Go.Proofs.YtenbelecmmpdgaaDoor.All Go.Proofs.YtenbelecmmpdgaaDoorW.PrintWords Go.Proofs.YtenbelecmmpdgaaDoorW.PrintLast Go.Proofs.YtenbelecmmpdgaaDoorW.Opens
set_option linter.unusedVariables false
def good23 (x:S23):Prop:=((Lit.int .i64 x.f0).wf = true)∧((Lit.int .i64 x.f1).wf = true)∧((Lit.int .i64 x.f2).wf = true)∧(x.f3.size ≤ 140737488351232)∧(x.f4.size ≤ 140737488351232)∧((Lit.int .i64 x.f5).wf = true)∧((Lit.int .i64 x.f6).wf = true)
theorem opens23:Opens Tryd.prog 23 k23 good23:=opens_iso (f:=(fun x:S23=>(x.f0,x.f1,x.f2,x.f3,x.f4,x.f5,x.f6))) (fun p=>⟨p.1,p.2.1,p.2.2.1,p.2.2.2.1,p.2.2.2.2.1,p.2.2.2.2.2.1,p.2.2.2.2.2.2⟩) (fun _=>rfl) (opens_struct Tryd.underlying23 (by kernel_rfl) (opensF_cons (off2:=1) rfl (by kernel_rfl) (opens_int Tryd.underlying3) rfl (opensF_cons (off2:=2) rfl (by kernel_rfl) (opens_int Tryd.underlying3) rfl (opensF_cons (off2:=3) rfl (by kernel_rfl) (opens_int Tryd.underlying3) rfl (opensF_cons (off2:=4) rfl (by kernel_rfl) (opens_string Tryd.underlying9) rfl (opensF_cons (off2:=5) rfl (by kernel_rfl) (opens_string Tryd.underlying9) rfl (opensF_cons (off2:=6) rfl (by kernel_rfl) (opens_int Tryd.underlying3) rfl (opensF_one rfl (by kernel_rfl) (opens_int Tryd.underlying3)))))))))
def good26 (x:S26):Prop:=(x.f0.size ≤ 140737488351232)∧((Lit.int .i64 x.f1).wf = true)∧(x.f2.size ≤ 140737488351232)∧(good23 x.f3)∧(x.f4.length * 1 ≤ 140737488351232∧∀ y ∈ x.f4,(Lit.int .u8 y).wf = true)
theorem opens26:Opens Tryd.prog 26 k26 good26:=opens_iso (f:=(fun x:S26=>(x.f0,x.f1,x.f2,x.f3,x.f4))) (fun p=>⟨p.1,p.2.1,p.2.2.1,p.2.2.2.1,p.2.2.2.2⟩) (fun _=>rfl) (opens_struct Tryd.underlying26 (by kernel_rfl) (opensF_cons (off2:=1) rfl (by kernel_rfl) (opens_string Tryd.underlying9) rfl (opensF_cons (off2:=2) rfl (by kernel_rfl) (opens_int Tryd.underlying3) rfl (opensF_cons (off2:=3) rfl (by kernel_rfl) (opens_string Tryd.underlying9) rfl (opensF_cons (off2:=10) rfl (by kernel_rfl) opens23 rfl (opensF_one rfl (by kernel_rfl) (opens_slice (B:=1) Tryd.underlying24 (by kernel_rfl) (by kernel_rfl) (opens_int Tryd.underlying5))))))))
def Pure:Prop:=∀ (a0:S26),(good26 a0)→∃ k,creellaw_MemberPacks.f k a0.f0 a0.f1 a0.f2 a0.f3.f0 a0.f3.f1 a0.f3.f2 a0.f3.f3 a0.f3.f4 a0.f3.f5 a0.f3.f6 a0.f4 = some true
theorem walk (P:Pure) (a0:S26) (w:World) (g0:good26 a0) {B0_10:Option Addr} {d0_10:Nat} (r0_10:Kd.C (Kd.int .u8) w B0_10 a0.f4.length a0.f4) (hc0_10:a0.f4.length ≤ d0_10) (HT0:Aside0 (Go.Proofs.YtenbelecmmpdgaaDoorW.Mine.Tab w)) :
 Calls Tryd.prog 3 #[.agg #[.string a0.f0,.int .i64 a0.f1,.string a0.f2,.int .i64 a0.f3.f0,.int .i64 a0.f3.f1,.int .i64 a0.f3.f2,.string a0.f3.f3,.string a0.f3.f4,.int .i64 a0.f3.f5,.int .i64 a0.f3.f6,.slice B0_10 a0.f4.length d0_10]] w fun e w'=>e = .returned (.bool true)∧Below w.heap.size w w':=by
 obtain ⟨k,h⟩:=P a0 g0;refine (creellaw_MemberPacks.calls k a0.f0 a0.f1 a0.f2 a0.f3.f0 a0.f3.f1 a0.f3.f2 a0.f3.f3 a0.f3.f4 a0.f3.f5 a0.f3.f6 B0_10 d0_10 a0.f4 true w r0_10 hc0_10 HT0 h).mono ?_;rintro e w' ⟨rfl,hd⟩;exact ⟨rfl,hd⟩
end Go.Proofs.YtenbelecmmpdgaaDoor.GMemberPacks
end
section
namespace Go.Proofs.YtenbelecmmpdgaaDoorW.PureBase
open Go.RowKit Go.Proofs.YtenbelecmmpdgaaDoorW.PrintWords
theorem wrap_is {x:Int} (h0:-9223372036854775808 ≤ x) (h:x ≤ 9223372036854775807):wrap64 x = x:=by unfold wrap64;omega
theorem wrap_nat {x:Int} (h0:0 ≤ x) (h:x ≤ 9223372036854775807):wrap64 x = x:=wrap_is (by omega) h
theorem toList_data (s:ByteArray):s.toList = s.data.toList:=ByteArray.toList_eq s
theorem bt_get (s:ByteArray) (i:Nat) (h:i < s.size):bt s i = ((s.data.toList[i]'(by simpa using h)).toNat:Int):=by
  unfold bt
  rw [dif_pos (by simpa using h)]
  simp
  rfl
theorem bt_eq_iff (s:ByteArray) (i:Nat) (h:i < s.size) (c:Int) (c0:0 ≤ c) (c1:c ≤ 255):bt s i = c ↔ s.data.toList[i]? = some c.toNat.toUInt8:=by
  rw [bt_get s i h,List.getElem?_eq_getElem (by simpa using h)]
  simp only [Option.some.injEq]
  constructor
  · intro e
    rw [← e]
    simp
  · intro e
    rw [e]
    simp
    omega
theorem size_list (s:ByteArray):s.data.toList.length = s.size:=by simp
theorem of_list (s:ByteArray):(⟨s.data.toList.toArray⟩:ByteArray) = s:=by simp
theorem ext_list {s t:ByteArray} (h:s.data.toList = t.data.toList):s = t:=by
  rw [← of_list s,← of_list t,h]
theorem mem_bt (s:ByteArray) (c:Int) (c0:0 ≤ c) (c1:c ≤ 255):(∃ j:Int,0 ≤ j∧j < s.size∧bt s j = c) ↔ s.data.toList.contains c.toNat.toUInt8 = true:=by
  rw [List.contains_iff_mem]
  constructor
  · rintro ⟨j,h0,h1,h2⟩
    obtain ⟨i,rfl⟩:=Int.eq_ofNat_of_zero_le h0
    have:=(bt_eq_iff s i (by omega) c c0 c1).1 h2
    exact List.mem_of_getElem? this
  · intro h
    obtain ⟨i,hi,he⟩:=List.mem_iff_getElem.1 h
    have hs:i < s.size:=by simpa using hi
    refine ⟨i,by omega,by omega,?_⟩
    rw [bt_eq_iff s i hs c c0 c1,List.getElem?_eq_getElem hi,he]
theorem index_ge (l:List UInt8) (c:UInt8):decide (Lib.indexByte l c ≥ 0) = l.contains c:=by
  rw [Lib.contains_iff_indexByte]
theorem Ev.const {α:Type} {o:Option α} {r:α} (h:o = some r):Ev (fun _=>o) r:=⟨0,fun _ _=>h⟩
theorem Ev.ifp {α:Type} {c:Prop} [Decidable c] {g f:Nat→Option α} {r:α} (hc:c) (h:Ev g r):Ev (fun k=>if c then g k else f k) r:=by
  obtain ⟨K,hk⟩:=h
  exact ⟨K,fun k h=>(if_pos hc).trans (hk k h)⟩
theorem Ev.ifn {α:Type} {c:Prop} [Decidable c] {g f:Nat→Option α} {r:α} (hc:¬ c) (h:Ev f r):Ev (fun k=>if c then g k else f k) r:=by
  obtain ⟨K,hk⟩:=h
  exact ⟨K,fun k h=>(if_neg hc).trans (hk k h)⟩
end Go.Proofs.YtenbelecmmpdgaaDoorW.PureBase
end
section
namespace Go.Proofs.YtenbelecmmpdgaaDoor.Q
set_option linter.unusedVariables false
set_option linter.unusedSimpArgs false
open Go.RowKit Go.Proofs.YtenbelecmmpdgaaDoor.All Go.Proofs.YtenbelecmmpdgaaDoorW.PrintWords Go.Proofs.YtenbelecmmpdgaaDoorW.PrintLast Go.Proofs.YtenbelecmmpdgaaDoorW.PrintMore Go.Proofs.YtenbelecmmpdgaaDoorW.PureBase
theorem has_from (s:ByteArray) (c:Int) (hb:s.size ≤ 140737488351232) (d:Nat):∀ (k:Nat) (i:Int),0 ≤ i→i ≤ s.size→(s.size:Int) - i = d→d < k →
    ∃ b,creelref_has.l0 k s c i = some b∧(b = true ↔ ∃ j:Int,i ≤ j∧j < s.size∧bt s j = c):=by
  induction d with
  | zero =>
    intro k i h0 h1 hd hk
    obtain ⟨k,rfl⟩:∃ m,k = m + 1:=⟨k - 1,by omega⟩
    refine ⟨false,?_,?_⟩
    · simp only [creelref_has.l0];rw [if_neg (by omega)]
    · constructor
      · intro h;cases h
      · rintro ⟨j,h1,h2,_⟩;omega
  | succ d ih =>
    intro k i h0 h1 hd hk
    obtain ⟨k,rfl⟩:∃ m,k = m + 1:=⟨k - 1,by omega⟩
    have hlt:i < (s.size:Int):=by omega
    have hw:wrap64 (i + 1) = i + 1:=by unfold wrap64;omega
    by_cases e:bt s i = c
    · refine ⟨true,?_,?_⟩
      · simp only [creelref_has.l0];rw [if_pos hlt,if_pos h0,if_pos e]
      · exact ⟨fun _=>⟨i,by omega,hlt,e⟩,fun _=>rfl⟩
    · obtain ⟨b,hb1,hb2⟩:=ih k (i + 1) (by omega) (by omega) (by omega) (by omega)
      refine ⟨b,?_,?_⟩
      · simp only [creelref_has.l0];rw [if_pos hlt,if_pos h0,hw,if_neg e];exact hb1
      · rw [hb2]
        constructor
        · rintro ⟨j,h1,h2,h3⟩;exact ⟨j,by omega,h2,h3⟩
        · rintro ⟨j,h1,h2,h3⟩
          have:j ≠ i:=by rintro rfl;exact e h3
          exact ⟨j,by omega,h2,h3⟩
theorem has_ev (s:ByteArray) (c:Int) (c0:0 ≤ c) (c1:c ≤ 255) (hb:s.size ≤ 140737488351232):Ev (fun k=>creelref_has.f k s c) (s.data.toList.contains c.toNat.toUInt8):=by
  refine ⟨s.size + 1,fun k hk=>?_⟩
  obtain ⟨b,h1,h2⟩:=has_from s c hb s.size k 0 (by omega) (by omega) (by omega) (by omega)
  show creelref_has.l0 k s c 0 = _
  rw [h1]
  congr 1
  rw [Bool.eq_iff_iff,h2]
  exact mem_bt s c c0 c1
def sp (c:UInt8):List UInt8→List (List UInt8)
  | []=>[[]]
  | b :: l=>if b = c then [] :: sp c l else match sp c l with
    | p :: ps=>(b :: p) :: ps
    | []=>[[b]]
theorem sp_ne (c:UInt8) (l:List UInt8):sp c l ≠ []:=by
  cases l with
  | nil=>simp [sp]
  | cons b l =>
    simp only [sp]
    split
    · simp
    · split <;> simp
theorem sp_go (c:UInt8):∀ (l p:List UInt8),c ∉ p→sp c (p ++ l) = (match sp c l with|q :: qs=>(p ++ q) :: qs|[]=>[p])
  | l,[],_=>by
    cases h:sp c l with
    | nil=>exact absurd h (sp_ne c l)
    | cons q qs=>simp [h]
  | l,a :: p,hp=>by
    have ha:¬ a = c:=fun e=>hp (by simp [e])
    have ih:=sp_go c l p (fun h=>hp (List.mem_cons_of_mem _ h))
    simp only [List.cons_append,sp]
    rw [if_neg ha,ih]
    cases h:sp c l with
    | nil=>exact absurd h (sp_ne c l)
    | cons q qs=>simp
theorem sp_cut (c:UInt8) (p l:List UInt8) (hp:c ∉ p):sp c (p ++ c :: l) = p :: sp c l:=by
  rw [sp_go c (c :: l) p hp]
  simp [sp]
theorem sp_whole (c:UInt8) (p:List UInt8) (hp:c ∉ p):sp c p = [p]:=by
  have:=sp_go c [] p hp
  simpa [sp] using this
theorem sp_len_le (c:UInt8) (l:List UInt8):(sp c l).length ≤ l.length + 1:=by
  induction l with
  | nil=>simp [sp]
  | cons b l ih =>
    simp only [sp]
    split
    · simp;omega
    · split
      · rename_i h;rw [h] at ih;simp at ih ⊢;omega
      · simp
def mk (l:List UInt8):ByteArray:=⟨l.toArray⟩
theorem mk_of (s:ByteArray):mk s.data.toList = s:=of_list s
theorem mk_size (l:List UInt8):(mk l).size = l.length:=rfl
def pp (s:ByteArray):List ByteArray:=(sp 47 s.data.toList).map mk
theorem index_one_none {l:List UInt8} {c:UInt8} (h:Lib.index l [c] = -1):c ∉ l:=by
  rw [Lib.index_one] at h
  intro hm
  obtain ⟨i,hi,he⟩:=List.mem_iff_getElem.1 hm
  exact Lib.indexByte_none h i (by rw [List.getElem?_eq_getElem hi,he])
theorem index_one_some {l:List UInt8} {c:UInt8} {o:Nat} (h:Lib.index l [c] = (o:Int)):o < l.length∧c ∉ l.take o∧l = l.take o ++ c :: l.drop (o + 1):=by
  rw [Lib.index_one] at h
  obtain ⟨h1,h2⟩:=Lib.indexByte_some h
  have hlt:=(List.getElem?_eq_some_iff.1 h1).1
  have he:=(List.getElem?_eq_some_iff.1 h1).2
  refine ⟨hlt,?_,?_⟩
  · intro hm
    obtain ⟨i,hi,hie⟩:=List.mem_iff_getElem.1 hm
    rw [List.length_take] at hi
    rw [List.getElem_take] at hie
    exact h2 i (by omega) (by rw [List.getElem?_eq_getElem (by omega),hie])
  · conv=>lhs;rw [← List.take_append_drop o l]
    rw [List.drop_eq_getElem_cons hlt,he]
theorem split_sp (c:UInt8):∀ (k:Nat) (l:List UInt8),Lib.count l [c] ≤ k→Lib.splitK [c] 0 k l = sp c l
  | 0,l,h=>by
    rw [Lib.count_one] at h
    have:c ∉ l:=by
      intro hm
      have:=List.count_pos_iff.2 hm
      omega
    rw [sp_whole c l this];rfl
  | k + 1,l,h=>by
    unfold Lib.splitK
    by_cases hi:Lib.index l [c] = -1
    · rw [if_pos (by simpa using hi),sp_whole c l (index_one_none hi)]
    · rw [if_neg (by simpa using hi)]
      have hge:=Lib.indexByte_ge l c
      rw [← Lib.index_one] at hge
      obtain ⟨o,ho⟩:=Int.eq_ofNat_of_zero_le (show 0 ≤ Lib.index l [c] by omega)
      obtain ⟨h1,h2,h3⟩:=index_one_some ho
      rw [ho]
      simp only [Int.toNat_natCast,Nat.add_zero,List.length_singleton]
      have hc:Lib.count (l.drop (o + 1)) [c] ≤ k:=by
        rw [Lib.count_one] at h ⊢
        rw [h3,List.count_append,List.count_cons_self] at h
        omega
      rw [split_sp c k _ hc]
      conv=>rhs;rw [h3]
      rw [sp_cut c _ _ h2]
theorem split_is (s:ByteArray) (hs:s.size < 4294967281):strings_Split.f s ⟨#[47]⟩ = some (pp s):=by
  unfold strings_Split.f
  simp only
  rw [if_pos hs]
  congr 1
  have h:=Lib.splitB_data ⟨#[47]⟩ 0 (Lib.countB s ⟨#[47]⟩) s
  rw [show (⟨#[47]⟩:ByteArray).data.toList = [47] from rfl,split_sp 47 _ _ (Nat.le_refl _)] at h
  unfold pp
  rw [← h,List.map_map]
  conv=>lhs;rw [← List.map_id (Lib.splitB ⟨#[47]⟩ 0 (Lib.countB s ⟨#[47]⟩) s)]
  apply List.map_congr_left
  intro x _
  exact (mk_of x).symm
theorem drop_cons (s:ByteArray) (i:Nat) (h:i < s.size):∃ b:UInt8,s.data.toList.drop i = b :: s.data.toList.drop (i + 1)∧(b.toNat:Int) = bt s (i:Int)∧s.extract i (i + 1) = mk [b]:=by
  have hl:i < s.data.toList.length:=by rw [size_list];exact h
  refine ⟨s.data.toList[i],List.drop_eq_getElem_cons hl,(bt_get s i h).symm,?_⟩
  apply ext_list
  rw [Lib.extract_data,List.drop_eq_getElem_cons hl,show i + 1 - i = 1 from by omega]
  rfl
theorem byte_eq (b:UInt8) (c:Int) (h:(b.toNat:Int) = c) (n:UInt8):c = (n.toNat:Int) ↔ b = n:=by
  rw [← h]
  constructor
  · intro e
    apply UInt8.toNat_inj.1
    omega
  · intro e
    rw [e]
theorem parts_loop (s:ByteArray) (d:Nat):∀ (k i:Nat) (done:List ByteArray) (cur:List UInt8),s.size - i = d→i ≤ s.size→d < k→done.length + d < 8796093022207→cur.length + d ≤ 4611686018427387904→s.size ≤ 4611686018427387904 →
    creelref_parts.l0 k s 47 (done ++ [mk cur]) (i:Int) = some (done ++ (match sp 47 (s.data.toList.drop i) with|q :: qs=>mk (cur ++ q) :: qs.map mk|[]=>[mk cur])):=by
  induction d with
  | zero =>
    intro k i done cur hd hi hk hn hc hs
    obtain ⟨k,rfl⟩:∃ m,k = m + 1:=⟨k - 1,by omega⟩
    simp only [creelref_parts.l0]
    rw [if_neg (by omega),List.drop_eq_nil_of_le (by rw [size_list];omega)]
    simp [sp]
  | succ d ih =>
    intro k i done cur hd hi hk hn hc hs
    obtain ⟨k,rfl⟩:∃ m,k = m + 1:=⟨k - 1,by omega⟩
    have hlt:i < s.size:=by omega
    obtain ⟨b,h1,h2,h3⟩:=drop_cons s i hlt
    have hw:wrap64 ((i:Int) + 1) = ((i + 1:Nat):Int):=by rw [wrap_is (by omega) (by omega)];omega
    have hlen:(done ++ [mk cur]).length = done.length + 1:=by simp
    simp only [creelref_parts.l0]
    rw [if_pos (by omega),if_pos (show (0:Int) ≤ i by omega),h1,hw,hlen]
    simp only [sp]
    have h47:bt s (i:Int) = 47 ↔ b = 47:=byte_eq b _ h2 47
    by_cases e:b = 47
    · rw [if_pos (h47.2 e),if_pos (by omega),if_pos e]
      have:=ih k (i + 1) (done ++ [mk cur]) [] (by omega) (by omega) (by omega) (by simp only [List.length_append,List.length_singleton];omega) (by simp only [List.length_nil];omega) hs
      rw [show (⟨#[]⟩:ByteArray) = mk [] from rfl,this]
      cases hsp:sp 47 (s.data.toList.drop (i + 1)) with
      | nil=>exact absurd hsp (sp_ne _ _)
      | cons q qs=>simp
    · have hne:¬ bt s (i:Int) = 47:=fun h=>e (h47.1 h)
      have hw2:wrap64 (((done.length + 1:Nat):Int) - 1) = (done.length:Int):=by rw [wrap_is (by omega) (by omega)];omega
      have hrd:rdOf ByteArray.empty (done ++ [mk cur]) (done.length:Int) = mk cur:=by
        unfold rdOf
        rw [Int.toNat_natCast,List.getD_eq_getElem?_getD,List.getElem?_append_right (Nat.le_refl _),Nat.sub_self];rfl
      have hex:s.extract ((i:Int)).toNat (((i + 1:Nat):Int)).toNat = mk [b]:=by rw [Int.toNat_natCast,Int.toNat_natCast,h3]
      have happ:mk cur ++ mk [b] = mk (cur ++ [b]):=by apply ext_list;simp [mk]
      have hset:(done ++ [mk cur]).set done.length (mk (cur ++ [b])) = done ++ [mk (cur ++ [b])]:=by
        rw [List.set_append_right _ _ (Nat.le_refl _),Nat.sub_self];rfl
      rw [if_neg hne,hw2,hrd,hex,if_pos (by omega),if_pos (by omega),if_pos (by omega),if_pos (by omega),if_pos (by rw [mk_size,mk_size];simp only [List.length_singleton];omega),happ,Int.toNat_natCast,hset,if_neg e]
      rw [ih k (i + 1) done (cur ++ [b]) (by omega) (by omega) (by omega) (by omega) (by simp only [List.length_append,List.length_singleton];omega) hs]
      cases hsp:sp 47 (s.data.toList.drop (i + 1)) with
      | nil=>exact absurd hsp (sp_ne _ _)
      | cons q qs=>simp
theorem parts_is (s:ByteArray) (k:Nat) (hs:s.size ≤ 4294967296) (hk:s.size < k):creelref_parts.f k s 47 = some (pp s):=by
  unfold creelref_parts.f
  have:=parts_loop s s.size k 0 [] [] (by omega) (by omega) hk (by simp only [List.length_nil];omega) (by simp only [List.length_nil];omega) (by omega)
  rw [show ([(⟨#[]⟩:ByteArray)]:List ByteArray) = [] ++ [mk []] from rfl]
  rw [show ((0:Nat):Int) = 0 from rfl] at this
  rw [this]
  unfold pp
  rw [List.drop_zero]
  cases hsp:sp 47 s.data.toList with
  | nil=>exact absurd hsp (sp_ne _ _)
  | cons q qs=>simp
theorem pp_len (s:ByteArray):(pp s).length ≤ s.size + 1:=by
  unfold pp
  rw [List.length_map]
  have:=sp_len_le 47 s.data.toList
  rw [size_list] at this
  exact this
def bad (p:ByteArray):Bool:=decide (p.toList = []) || decide (p.toList = [46]) || decide (p.toList = [46,46])
def pathR (s:ByteArray):Int:=if s.size < 1 ∨ 400 < s.size then 1 else if s.data.toList.contains 0 = true then 3 else if (pp s).any bad = true then 9 else 0
theorem check_loop (l:List ByteArray) (hl:l.length ≤ 4294967297) (d:Nat):∀ (k i:Nat),l.length - i = d→i ≤ l.length→d < k →
    path_Check.l0 k l (l.length:Int) (i:Int) = some (if (l.drop i).any bad = true then 9 else 0)∧creelref_PathFault.l0 k l (l.length:Int) (i:Int) = some (if (l.drop i).any bad = true then 9 else 0):=by
  induction d with
  | zero =>
    intro k i hd hi hk
    obtain ⟨k,rfl⟩:∃ m,k = m + 1:=⟨k - 1,by omega⟩
    simp only [path_Check.l0,creelref_PathFault.l0]
    have hge:¬ (i:Int) < l.length:=by omega
    rw [if_neg hge,if_neg hge,List.drop_eq_nil_of_le (by omega)]
    simp
  | succ d ih =>
    intro k i hd hi hk
    obtain ⟨k,rfl⟩:∃ m,k = m + 1:=⟨k - 1,by omega⟩
    have hlt:i < l.length:=by omega
    have hw:wrap64 ((i:Int) + 1) = ((i + 1:Nat):Int):=by rw [wrap_is (by omega) (by omega)];omega
    have hrd:rdOf ByteArray.empty l (i:Int) = l[i]:=by
      unfold rdOf
      rw [Int.toNat_natCast,List.getD_eq_getElem?_getD,List.getElem?_eq_getElem hlt];rfl
    obtain ⟨h1,h2⟩:=ih k (i + 1) (by omega) (by omega) (by omega)
    simp only [path_Check.l0,creelref_PathFault.l0]
    rw [hw,hrd,h1,h2,List.drop_eq_getElem_cons hlt,List.any_cons]
    generalize l[i] = p
    have c1:(i:Int) < l.length:=by omega
    have c2:(0:Int) ≤ i:=by omega
    simp only [if_pos c1,if_pos c2]
    unfold bad
    by_cases e1:p.toList = []
    · simp [e1]
    · by_cases e2:p.toList = [46]
      · simp [e2]
      · by_cases e3:p.toList = [46,46]
        · simp [e3]
        · simp [e1,e2,e3]
theorem empty_size (s:ByteArray):s.toList = ([]:List UInt8) ↔ s.size = 0:=by
  rw [toList_data,← size_list]
  exact List.length_eq_zero_iff.symm
theorem path_same (s:ByteArray) (hs:s.size ≤ 140737488351232):Ev (fun k=>path_Check.f k s) (pathR s)∧Ev (fun k=>creelref_PathFault.f k s) (pathR s):=by
  obtain ⟨K,hK⟩:=has_ev s 0 (by omega) (by omega) hs
  replace hK:∀ k,K ≤ k→creelref_has.f k s 0 = some (s.data.toList.contains 0):=hK
  have hi:(Lib.indexByte s.data.toList ((0:Int).toNat.toUInt8) ≥ 0) ↔ s.data.toList.contains 0 = true:=by
    have:=index_ge s.data.toList ((0:Int).toNat.toUInt8)
    rw [← decide_eq_true_iff (p:=Lib.indexByte s.data.toList ((0:Int).toNat.toUInt8) ≥ 0),this];rfl
  by_cases c:s.size < 1 ∨ 400 < s.size
  · have e:pathR s = 1:=by unfold pathR;rw [if_pos c]
    rw [e]
    refine ⟨⟨1,fun k hk=>?_⟩,⟨1,fun k hk=>?_⟩⟩
    · obtain ⟨k,rfl⟩:∃ m,k = m + 1:=⟨k - 1,by omega⟩
      show path_Check.f (k + 1) s = _
      unfold path_Check.f
      by_cases h:(s.size:Int) < 1
      · rw [if_pos h];simp [path_Check.j0]
      · rw [if_neg h,decide_eq_true (show (s.size:Int) > 400 by omega)];simp [path_Check.j0]
    · obtain ⟨k,rfl⟩:∃ m,k = m + 1:=⟨k - 1,by omega⟩
      show creelref_PathFault.f (k + 1) s = _
      unfold creelref_PathFault.f
      by_cases h:s.toList = ([]:List UInt8)
      · rw [if_pos h];simp [creelref_PathFault.j0]
      · rw [if_neg h]
        rw [empty_size] at h
        rw [decide_eq_true (show (s.size:Int) > 400 by omega)];simp [creelref_PathFault.j0]
  · have h0:¬ s.toList = ([]:List UInt8):=by rw [empty_size];omega
    have hsp:=split_is s (by omega)
    have hpl:=pp_len s
    by_cases hz:s.data.toList.contains 0 = true
    · have e:pathR s = 3:=by unfold pathR;rw [if_neg c,if_pos hz]
      rw [e]
      refine ⟨⟨1,fun k hk=>?_⟩,⟨K + 1,fun k hk=>?_⟩⟩
      · obtain ⟨k,rfl⟩:∃ m,k = m + 1:=⟨k - 1,by omega⟩
        show path_Check.f (k + 1) s = _
        unfold path_Check.f
        rw [if_neg (show ¬ (s.size:Int) < 1 by omega),decide_eq_false (show ¬ (s.size:Int) > 400 by omega)]
        simp only [path_Check.j0,Bool.false_eq_true,if_false,strings_IndexByte.f,Option.bind_some]
        rw [if_pos (hi.2 hz)]
      · obtain ⟨k,rfl⟩:∃ m,k = m + 1:=⟨k - 1,by omega⟩
        show creelref_PathFault.f (k + 1) s = _
        unfold creelref_PathFault.f
        rw [if_neg h0,decide_eq_false (show ¬ (s.size:Int) > 400 by omega)]
        simp only [creelref_PathFault.j0,Bool.false_eq_true,if_false]
        rw [hK k (by omega)]
        simp only [Option.bind_some,hz,if_true]
    · have hz':s.data.toList.contains 0 = false:=by simpa using hz
      have e:pathR s = (if (pp s).any bad = true then 9 else 0):=by unfold pathR;rw [if_neg c,if_neg hz]
      rw [e]
      refine ⟨⟨500,fun k hk=>?_⟩,⟨K + 500,fun k hk=>?_⟩⟩
      · obtain ⟨k,rfl⟩:∃ m,k = m + 1:=⟨k - 1,by omega⟩
        obtain ⟨h1,_⟩:=check_loop (pp s) (by omega) (pp s).length k 0 (by omega) (by omega) (by omega)
        show path_Check.f (k + 1) s = _
        unfold path_Check.f
        rw [if_neg (show ¬ (s.size:Int) < 1 by omega),decide_eq_false (show ¬ (s.size:Int) > 400 by omega)]
        simp only [path_Check.j0,Bool.false_eq_true,if_false,strings_IndexByte.f,Option.bind_some]
        rw [if_neg (fun h=>hz (hi.1 h)),hsp]
        simp only [Option.bind_some]
        rw [List.drop_zero] at h1
        exact h1
      · obtain ⟨k,rfl⟩:∃ m,k = m + 1:=⟨k - 1,by omega⟩
        obtain ⟨_,h2⟩:=check_loop (pp s) (by omega) (pp s).length k 0 (by omega) (by omega) (by omega)
        show creelref_PathFault.f (k + 1) s = _
        unfold creelref_PathFault.f
        rw [if_neg h0,decide_eq_false (show ¬ (s.size:Int) > 400 by omega)]
        simp only [creelref_PathFault.j0,Bool.false_eq_true,if_false]
        rw [hK k (by omega)]
        simp only [Option.bind_some,hz',Bool.false_eq_true,if_false]
        rw [parts_is s k (by omega) (by omega)]
        simp only [Option.bind_some]
        rw [List.drop_zero] at h2
        exact h2
def joinS:List (List UInt8)→List UInt8
  | []=>[]
  | [p]=>p
  | p :: q :: r=>p ++ 47 :: joinS (q :: r)
def wrong (a b c:Int) (u g:ByteArray) (s n:Int):Int :=
  if a < 0 ∨ a > 4095 ∨ b < 0 ∨ b > 1125899906842624 ∨ c < 0 ∨ c > 1125899906842624 then 4
  else if (u.size:Int) > 60 ∨ (g.size:Int) > 60 then 1
  else if u.data.toList.contains 0 = true ∨ g.data.toList.contains 0 = true then 3
  else if s < -1099511627776 ∨ s > 1099511627776 ∨ n < 0 ∨ n > 999999999 then 4 else 0
theorem stamp_is (s n:Int):stamp_Check.f s n = some (if s < -1099511627776 ∨ s > 1099511627776 ∨ n < 0 ∨ n > 999999999 then 4 else 0):=by
  unfold stamp_Check.f
  by_cases h1:s < -1099511627776
  · simp [h1]
  · by_cases h2:s > 1099511627776
    · simp [h1,h2]
    · by_cases h3:n < 0
      · simp [h1,h2,h3]
      · by_cases h4:n > 999999999 <;> simp [h1,h2,h3,h4]
theorem time_is (s n:Int):creelref_TimeFault.f s n = some (if s < -1099511627776 ∨ s > 1099511627776 ∨ n < 0 ∨ n > 999999999 then 4 else 0):=by
  unfold creelref_TimeFault.f
  by_cases h1:s < -1099511627776
  · simp [h1]
  · by_cases h2:s > 1099511627776
    · simp [h1,h2]
    · by_cases h3:n < 0
      · simp [h1,h2,h3]
      · by_cases h4:n > 999999999
        · rw [if_neg h1,if_neg h2,if_neg h3,if_pos (by omega),if_pos (by omega)]
        · rw [if_neg h1,if_neg h2,if_neg h3,if_neg (by omega),if_neg (by omega)]
theorem check_ev (a b c:Int) (u g:ByteArray) (s n:Int):Ev (fun k=>meta_Check.f k a b c u g s n) (wrong a b c u g s n):=by
  refine ⟨10,fun k hk=>?_⟩
  obtain ⟨k,rfl⟩:∃ m,k = m + 10:=⟨k - 10,by omega⟩
  have j2:∀ (b2:Bool) (m:Nat),(b2 = false→u.size ≤ 60∧g.size ≤ 60)→meta_Check.j2 (m + 1) b2 a b c u g s n = some (if b2 = true then 1 else if u.data.toList.contains 0 = true ∨ g.data.toList.contains 0 = true then 3
      else if s < -1099511627776 ∨ s > 1099511627776 ∨ n < 0 ∨ n > 999999999 then 4 else 0):=by
    intro b2 m hb
    simp only [meta_Check.j2]
    cases b2 with
    | true=>simp
    | false =>
      obtain ⟨h1,h2⟩:=hb rfl
      simp only [Bool.false_eq_true,if_false];rw [if_pos (by omega)]
      unfold strings_IndexByte.f
      simp only [Option.bind_some]
      have e:(Lib.indexByte (u ++ g).data.toList ((0:Int).toNat.toUInt8) ≥ 0) ↔ (u.data.toList.contains 0 = true ∨ g.data.toList.contains 0 = true):=by
        have:=index_ge (u ++ g).data.toList ((0:Int).toNat.toUInt8)
        rw [← decide_eq_true_iff (p:=Lib.indexByte (u ++ g).data.toList ((0:Int).toNat.toUInt8) ≥ 0),this]
        simp
      by_cases h:u.data.toList.contains 0 = true ∨ g.data.toList.contains 0 = true
      · rw [if_pos h,if_pos (e.2 h)]
      · rw [if_neg h,if_neg (fun x=>h (e.1 x)),stamp_is];rfl
  have j1:∀ (b1:Bool) (m:Nat),meta_Check.j1 (m + 2) b1 a b c u g s n = some (if b1 = true then 4 else if (u.size:Int) > 60 ∨ (g.size:Int) > 60 then 1 else if u.data.toList.contains 0 = true ∨ g.data.toList.contains 0 = true then 3
      else if s < -1099511627776 ∨ s > 1099511627776 ∨ n < 0 ∨ n > 999999999 then 4 else 0):=by
    intro b1 m
    simp only [meta_Check.j1]
    cases b1 with
    | true=>simp
    | false =>
      simp only [Bool.false_eq_true,if_false]
      by_cases h1:(u.size:Int) > 60
      · rw [if_pos h1,j2 true m (by simp)];simp [h1]
      · rw [if_neg h1]
        by_cases h2:(g.size:Int) > 60
        · rw [decide_eq_true h2,j2 true m (by simp)];simp [h2]
        · rw [decide_eq_false h2,j2 false m (fun _=>⟨by omega,by omega⟩)];simp [h1,h2]
  show meta_Check.f (k + 10) a b c u g s n = _
  unfold meta_Check.f wrong
  by_cases h1:a < 0
  · simp [meta_Check.j0,j1,h1]
  · by_cases h2:a > 4095
    · simp [meta_Check.j0,j1,h1,h2]
    · by_cases h3:b < 0
      · simp [meta_Check.j0,j1,h1,h2,h3]
      · by_cases h4:b > 1125899906842624
        · simp [meta_Check.j0,j1,h1,h2,h3,h4]
        · by_cases h5:c < 0
          · simp [meta_Check.j0,j1,h1,h2,h3,h4,h5]
          · by_cases h6:c > 1125899906842624
            · simp [meta_Check.j0,j1,h1,h2,h3,h4,h5,h6]
            · simp [meta_Check.j0,j1,h1,h2,h3,h4,h5,h6]
theorem fault_ev (a b c:Int) (u g:ByteArray) (s n:Int) (hu:u.size ≤ 140737488351232) (hg:g.size ≤ 140737488351232):Ev (fun k=>creelref_MetaFault.f k a b c u g s n) (wrong a b c u g s n):=by
  obtain ⟨K1,e1⟩:=has_ev u 0 (by omega) (by omega) hu
  obtain ⟨K2,e2⟩:=has_ev g 0 (by omega) (by omega) hg
  replace e1:∀ k,K1 ≤ k→creelref_has.f k u 0 = some (u.data.toList.contains 0):=e1
  replace e2:∀ k,K2 ≤ k→creelref_has.f k g 0 = some (g.data.toList.contains 0):=e2
  refine ⟨max K1 K2 + 10,fun k hk=>?_⟩
  obtain ⟨k,rfl⟩:∃ m,k = m + 2:=⟨k - 2,by omega⟩
  have j1:∀ (b1:Bool),creelref_MetaFault.j1 (k + 1) b1 a b c u g s n = some (if b1 = true then 1 else if u.data.toList.contains 0 = true ∨ g.data.toList.contains 0 = true then 3
      else if s < -1099511627776 ∨ s > 1099511627776 ∨ n < 0 ∨ n > 999999999 then 4 else 0):=by
    intro b1
    simp only [creelref_MetaFault.j1]
    cases b1 with
    | true=>simp
    | false =>
      simp only [Bool.false_eq_true,if_false];rw [e1 k (by omega),e2 k (by omega)]
      simp only [Option.bind_some]
      by_cases h1:u.data.toList.contains 0 = true
      · rw [if_pos h1,if_pos (.inl h1)]
      · rw [if_neg h1]
        by_cases h2:g.data.toList.contains 0 = true
        · rw [if_pos h2,if_pos (.inr h2)]
        · rw [if_neg h2,if_neg (by rintro (h|h);exact h1 h;exact h2 h),time_is];rfl
  have j0:∀ (b1:Bool),creelref_MetaFault.j0 (k + 2) b1 a b c u g s n = some (if b1 = true then 4 else if (u.size:Int) > 60 ∨ (g.size:Int) > 60 then 1 else if u.data.toList.contains 0 = true ∨ g.data.toList.contains 0 = true then 3
      else if s < -1099511627776 ∨ s > 1099511627776 ∨ n < 0 ∨ n > 999999999 then 4 else 0):=by
    intro b1
    simp only [creelref_MetaFault.j0]
    cases b1 with
    | true=>simp
    | false =>
      simp only [Bool.false_eq_true,if_false]
      by_cases h1:(u.size:Int) > 60
      · rw [if_pos h1,j1];simp [h1]
      · rw [if_neg h1]
        by_cases h2:(g.size:Int) > 60
        · rw [decide_eq_true h2,j1];simp [h2]
        · rw [decide_eq_false h2,j1];simp [h1,h2]
  have hx:a ≥ 4096 ↔ a > 4095:=by omega
  show creelref_MetaFault.f (k + 2) a b c u g s n = _
  unfold creelref_MetaFault.f wrong
  by_cases h1:a < 0
  · simp [j0,hx,h1]
  · by_cases h2:a > 4095
    · simp [j0,hx,h1,h2]
    · by_cases h3:b < 0
      · simp [j0,hx,h1,h2,h3]
      · by_cases h4:b > 1125899906842624
        · simp [j0,hx,h1,h2,h3,h4]
        · by_cases h5:c < 0
          · simp [j0,hx,h1,h2,h3,h4,h5]
          · by_cases h6:c > 1125899906842624
            · simp [j0,hx,h1,h2,h3,h4,h5,h6]
            · simp [j0,hx,h1,h2,h3,h4,h5,h6]
theorem idx00 (t:ByteArray):(Lib.indexByte t.data.toList ((0:Int).toNat.toUInt8) ≥ 0) ↔ t.data.toList.contains 0 = true:=by
  have:=index_ge t.data.toList ((0:Int).toNat.toUInt8)
  rw [← decide_eq_true_iff (p:=Lib.indexByte t.data.toList ((0:Int).toNat.toUInt8) ≥ 0),this];rfl
def tailE (b:Bool) (kind:Int) (t:ByteArray):Int:=if b = true then 1 else if kind = 4 then pathR t else if t.data.toList.contains 0 = true then 3 else 0
def midE (x:Bool) (kind:Int) (t:ByteArray) (n:Nat):Int:=if x = true then 3 else tailE (decide ((n:Int) > 2000) || decide ((t.size:Int) > 400)) kind t
def restE (kind:Int) (t:ByteArray) (n:Nat):Int:=if kind < 1 ∨ 4 < kind then 2 else midE ((decide (kind ≠ 1) && decide (0 < n)) || ((t.toList != ([]:List UInt8)) != decide (kind ≥ 3))) kind t n
def entryR (p:ByteArray) (kind:Int) (t:ByteArray) (a b c:Int) (u g:ByteArray) (s n:Int) (d:Nat):Int :=
  if pathR p = 0 then (if wrong a b c u g s n = 0 then restE kind t d else wrong a b c u g s n) else pathR p
theorem pr_j2 (k:Nat) (x:Bool) (p:ByteArray) (kind:Int) (t:ByteArray) (a b c:Int) (u g:ByteArray) (s n:Int) (d:List Int) (h:path_Check.f k t = some (pathR t)) :
    plan_Right.j2 (k + 1) x p kind t a b c u g s n d = some (tailE x kind t):=by
  have hi:=idx00 t
  simp only [plan_Right.j2,h,strings_IndexByte.f,Option.bind_some]
  unfold tailE
  by_cases z:t.data.toList.contains 0 = true
  · rw [if_pos (hi.2 z),if_pos z]
    by_cases x0:x = true <;> by_cases k4:kind = 4 <;> simp [x0,k4]
  · rw [if_neg (fun h=>z (hi.1 h)),if_neg z]
    by_cases x0:x = true <;> by_cases k4:kind = 4 <;> simp [x0,k4]
theorem pr_j1 (k:Nat) (x:Bool) (p:ByteArray) (kind:Int) (t:ByteArray) (a b c:Int) (u g:ByteArray) (s n:Int) (d:List Int) (h:path_Check.f k t = some (pathR t)) :
    plan_Right.j1 (k + 2) x p kind t a b c u g s n d = some (midE x kind t d.length):=by
  simp only [plan_Right.j1,pr_j2 k _ p kind t a b c u g s n d h]
  unfold midE
  by_cases x0:x = true
  · rw [if_pos x0,if_pos x0]
  · rw [if_neg x0,if_neg x0]
    by_cases d0:(d.length:Int) > 2000
    · rw [if_pos d0,decide_eq_true d0];rfl
    · rw [if_neg d0,decide_eq_false d0];rfl
theorem pr_j0 (k:Nat) (x:Bool) (p:ByteArray) (kind:Int) (t:ByteArray) (a b c:Int) (u g:ByteArray) (s n:Int) (d:List Int) (h:path_Check.f k t = some (pathR t)) :
    plan_Right.j0 (k + 3) x p kind t a b c u g s n d = some (if x = true then 2 else midE ((decide (kind ≠ 1) && decide (0 < d.length)) || ((t.toList != ([]:List UInt8)) != decide (kind ≥ 3))) kind t d.length):=by
  simp only [plan_Right.j0,pr_j1 k _ p kind t a b c u g s n d h]
  by_cases x0:x = true
  · rw [if_pos x0,if_pos x0]
  · rw [if_neg x0,if_neg x0]
    by_cases k1:kind = 1
    · rw [if_pos k1,decide_eq_false (show ¬ kind ≠ 1 from fun h=>h k1)];rfl
    · rw [if_neg k1,decide_eq_true (show kind ≠ 1 from k1)]
      by_cases d0:(d.length:Int) > 0
      · rw [if_pos d0,decide_eq_true (show 0 < d.length by omega)];rfl
      · rw [if_neg d0,decide_eq_false (show ¬ 0 < d.length by omega)];rfl
theorem ef_j2 (k:Nat) (x:Bool) (p:ByteArray) (kind:Int) (t:ByteArray) (a b c:Int) (u g:ByteArray) (s n:Int) (d:List Int) (h:creelref_PathFault.f k t = some (pathR t)) (h':creelref_has.f k t 0 = some (t.data.toList.contains 0)) :
    rEF.j2 (k + 1) x p kind t a b c u g s n d = some (tailE x kind t):=by
  simp only [rEF.j2,h,h',Option.bind_some]
  unfold tailE
  generalize t.data.toList.contains 0 = z
  cases z <;> cases x <;> by_cases k4:kind = 4 <;> simp [k4]
theorem ef_j1 (k:Nat) (x:Bool) (p:ByteArray) (kind:Int) (t:ByteArray) (a b c:Int) (u g:ByteArray) (s n:Int) (d:List Int) (h:creelref_PathFault.f k t = some (pathR t)) (h':creelref_has.f k t 0 = some (t.data.toList.contains 0)) :
    rEF.j1 (k + 2) x p kind t a b c u g s n d = some (midE x kind t d.length):=by
  simp only [rEF.j1,ef_j2 k _ p kind t a b c u g s n d h h']
  unfold midE
  by_cases x0:x = true
  · rw [if_pos x0,if_pos x0]
  · rw [if_neg x0,if_neg x0]
    by_cases d0:(d.length:Int) > 2000
    · rw [if_pos d0,decide_eq_true d0];rfl
    · rw [if_neg d0,decide_eq_false d0];rfl
theorem ef_j0 (k:Nat) (x:Bool) (p:ByteArray) (kind:Int) (t:ByteArray) (a b c:Int) (u g:ByteArray) (s n:Int) (d:List Int) (h:creelref_PathFault.f k t = some (pathR t)) (h':creelref_has.f k t 0 = some (t.data.toList.contains 0)) (hk:1 ≤ kind) :
    rEF.j0 (k + 3) x p kind t a b c u g s n d = some (if x = true then 2 else midE ((decide (kind ≠ 1) && decide (0 < d.length)) || ((t.toList != ([]:List UInt8)) != decide (kind ≥ 3))) kind t d.length):=by
  simp only [rEF.j0,ef_j1 k _ p kind t a b c u g s n d h h']
  by_cases x0:x = true
  · rw [if_pos x0,if_pos x0]
  · rw [if_neg x0,if_neg x0]
    have hd:((d.length:Int) != 0) = decide (0 < d.length):=by
      by_cases d0:d.length = 0
      · rw [d0];rfl
      · rw [decide_eq_true (show 0 < d.length by omega)];simpa using fun h=>d0 (by rw [h];rfl)
    by_cases g2:kind > 2
    · rw [if_pos g2,if_pos (show kind > 1 by omega),decide_eq_true (show kind ≠ 1 by omega),decide_eq_true (show kind ≥ 3 by omega),hd]
      by_cases t0:t.toList = ([]:List UInt8)
      · rw [if_pos t0,t0]
        cases decide (0 < d.length) <;> rfl
      · rw [if_neg t0,bne_iff_ne.mpr t0]
        cases decide (0 < d.length) <;> rfl
    · rw [if_neg g2,decide_eq_false (show ¬ kind ≥ 3 by omega),hd]
      by_cases t0:t.toList = ([]:List UInt8)
      · rw [if_pos t0,t0]
        by_cases g1:kind > 1
        · rw [if_pos g1,decide_eq_true (show kind ≠ 1 by omega)]
          cases decide (0 < d.length) <;> rfl
        · rw [if_neg g1,decide_eq_false (show ¬ kind ≠ 1 by omega)]
          cases decide (0 < d.length) <;> rfl
      · rw [if_neg t0,bne_iff_ne.mpr t0]
        cases decide (kind ≠ 1) <;> cases decide (0 < d.length) <;> rfl
theorem plan_ev (p:ByteArray) (kind:Int) (t:ByteArray) (a b c:Int) (u g:ByteArray) (s n:Int) (d:List Int) (hp:p.size ≤ 140737488351232) (ht:t.size ≤ 140737488351232) :
    Ev (fun k=>plan_Right.f k p kind t a b c u g s n d) (entryR p kind t a b c u g s n d.length):=by
  obtain ⟨K1,a1⟩:=(path_same p hp).1
  replace a1:∀ k,K1 ≤ k→path_Check.f k p = some (pathR p):=a1
  obtain ⟨K2,a2⟩:=check_ev a b c u g s n
  replace a2:∀ k,K2 ≤ k→meta_Check.f k a b c u g s n = some (wrong a b c u g s n):=a2
  obtain ⟨K3,a3⟩:=(path_same t ht).1
  replace a3:∀ k,K3 ≤ k→path_Check.f k t = some (pathR t):=a3
  refine ⟨K1 + K2 + K3 + 10,fun k hk=>?_⟩
  show plan_Right.f k p kind t a b c u g s n d = _
  unfold plan_Right.f entryR
  rw [a1 k (by omega)]
  simp only [Option.bind_some]
  by_cases hP:pathR p = 0
  · rw [if_pos hP,if_pos hP,a2 k (by omega)]
    simp only [Option.bind_some]
    by_cases hM:wrong a b c u g s n = 0
    · rw [if_pos hM,if_pos hM]
      obtain ⟨k,rfl⟩:∃ m,k = m + 3:=⟨k - 3,by omega⟩
      rw [pr_j0 k _ p kind t a b c u g s n d (a3 k (by omega)),pr_j0 k _ p kind t a b c u g s n d (a3 k (by omega))]
      unfold restE
      by_cases l1:kind < 1
      · rw [if_pos l1,if_pos rfl,if_pos (Or.inl l1)]
      · rw [if_neg l1]
        by_cases g4:kind > 4
        · rw [decide_eq_true g4,if_pos rfl,if_pos (Or.inr g4)]
        · rw [decide_eq_false g4,if_neg (by simp),if_neg (by omega)]
    · rw [if_neg hM,if_neg hM]
  · rw [if_neg hP,if_neg hP]
theorem refentry_ev (p:ByteArray) (kind:Int) (t:ByteArray) (a b c:Int) (u g:ByteArray) (s n:Int) (d:List Int) (hp:p.size ≤ 140737488351232) (ht:t.size ≤ 140737488351232) (hu:u.size ≤ 140737488351232) (hg:g.size ≤ 140737488351232) :
    Ev (fun k=>rEF.f k p kind t a b c u g s n d) (entryR p kind t a b c u g s n d.length):=by
  obtain ⟨K1,a1⟩:=(path_same p hp).2
  replace a1:∀ k,K1 ≤ k→creelref_PathFault.f k p = some (pathR p):=a1
  obtain ⟨K2,a2⟩:=fault_ev a b c u g s n hu hg
  replace a2:∀ k,K2 ≤ k→creelref_MetaFault.f k a b c u g s n = some (wrong a b c u g s n):=a2
  obtain ⟨K3,a3⟩:=(path_same t ht).2
  replace a3:∀ k,K3 ≤ k→creelref_PathFault.f k t = some (pathR t):=a3
  obtain ⟨K4,a4⟩:=has_ev t 0 (by omega) (by omega) ht
  replace a4:∀ k,K4 ≤ k→creelref_has.f k t 0 = some (t.data.toList.contains 0):=a4
  refine ⟨K1 + K2 + K3 + K4 + 10,fun k hk=>?_⟩
  show rEF.f k p kind t a b c u g s n d = _
  unfold rEF.f entryR
  rw [a1 k (by omega)]
  simp only [Option.bind_some]
  by_cases hP:pathR p = 0
  · rw [if_pos hP,if_pos hP,a2 k (by omega)]
    simp only [Option.bind_some]
    by_cases hM:wrong a b c u g s n = 0
    · rw [if_pos hM,if_pos hM]
      obtain ⟨k,rfl⟩:∃ m,k = m + 3:=⟨k - 3,by omega⟩
      unfold restE
      by_cases l1:kind < 1
      · rw [if_pos l1,if_pos (Or.inl l1)]
        simp [rEF.j0]
      · rw [if_neg l1,ef_j0 k _ p kind t a b c u g s n d (a3 k (by omega)) (a4 k (by omega)) (by omega)]
        by_cases g4:kind > 4
        · rw [decide_eq_true g4,if_pos rfl,if_pos (Or.inr g4)]
        · rw [decide_eq_false g4,if_neg (by simp),if_neg (by omega)]
    · rw [if_neg hM,if_neg hM]
  · rw [if_neg hP,if_neg hP]
theorem get_bt (s:ByteArray) (i:Nat) (h:i < s.size):((s.get! i).toNat:Int) = bt s i:=by
  unfold bt
  rw [dif_pos (by simpa using h)]
  show ((s.get! i).toNat:Int) = _
  simp [ByteArray.get!,getElem!_pos,h]
  rfl
theorem cont_byte (s:ByteArray) (p j:Nat) (h1:1 ≤ j) (h2:j < (Utf8.decode s p).2):128 ≤ (s.get! (p + j)).toNat∧p + j < s.size:=by
  have key:∀ k,(decide (p + k < s.size) && (s.get! (p + k)).toNat / 64 == 2) = true→128 ≤ (s.get! (p + k)).toNat∧p + k < s.size:=by
    intro k hk
    simp only [Bool.and_eq_true,decide_eq_true_eq,beq_iff_eq] at hk
    exact ⟨by omega,hk.1⟩
  simp only [Utf8.decode] at h2
  split at h2
  · simp only at h2;omega
  · split at h2
    · rename_i hc
      simp only [Bool.and_eq_true] at hc
      split at h2
      · simp only at h2
        obtain rfl:j = 1:=by omega
        exact key 1 (by simpa using hc.2)
      · simp only at h2;omega
    · split at h2
      · rename_i hc
        simp only [Bool.and_eq_true] at hc
        split at h2
        · simp only at h2
          have:j = 1 ∨ j = 2:=by omega
          rcases this with rfl|rfl
          · exact key 1 (by simpa using hc.1.2)
          · exact key 2 (by simpa using hc.2)
        · simp only at h2;omega
      · split at h2
        · rename_i hc
          simp only [Bool.and_eq_true] at hc
          split at h2
          · simp only at h2
            have:j = 1 ∨ j = 2 ∨ j = 3:=by omega
            rcases this with rfl|rfl|rfl
            · exact key 1 (by simpa using hc.1.1.2)
            · exact key 2 (by simpa using hc.1.2)
            · exact key 3 (by simpa using hc.2)
          · simp only at h2;omega
        · simp only at h2;omega
abbrev TwoR:=ByteArray × ByteArray × Int
def noTwo:TwoR:=((⟨#[]⟩:ByteArray),(⟨#[]⟩:ByteArray),1)
def ff (s:ByteArray):Nat→Nat→TwoR
  | 0,_=>noTwo
  | d + 1,i=>if cut_Two.here s i = true then (s.extract 0 i,s.extract (i + 1) s.size,0) else ff s d (i + 1)
theorem ff_skip (s:ByteArray):∀ (m d i:Nat),(∀ j,j < m→cut_Two.here s (i + j) = false)→m ≤ d→ff s d i = ff s (d - m) (i + m)
  | 0,d,i,_,_=>rfl
  | m + 1,0,i,_,h=>by omega
  | m + 1,d + 1,i,h,hd=>by
    have h0:=h 0 (by omega)
    rw [Nat.add_zero] at h0
    have ih:=ff_skip s m d (i + 1) (fun j hj=>by have:=h (j + 1) (by omega);rwa [show i + 1 + j = i + (j + 1) from by omega]) (by omega)
    rw [show d + 1 - (m + 1) = d - m from by omega,show i + (m + 1) = i + 1 + m from by omega,← ih]
    simp only [ff]
    rw [if_neg (by rw [h0];simp)]
theorem ff_none (s:ByteArray) (d i:Nat) (h:∀ j,j < d→cut_Two.here s (i + j) = false):ff s d i = noTwo:=by
  rw [ff_skip s d d i h (Nat.le_refl _),Nat.sub_self];rfl
theorem two_loop (s:ByteArray) (n:Nat):∀ (i k:Nat),i ≤ s.size→s.size - i ≤ n→s.size - i < k→cut_Two.l0 k s i = some (ff s (s.size - i) i):=by
  induction n with
  | zero =>
    intro i k hi hn hk
    obtain ⟨k,rfl⟩:∃ m,k = m + 1:=⟨k - 1,by omega⟩
    simp only [cut_Two.l0]
    rw [if_neg (by omega),show s.size - i = 0 from by omega];rfl
  | succ n ih =>
    intro i k hi hn hk
    obtain ⟨k,rfl⟩:∃ m,k = m + 1:=⟨k - 1,by omega⟩
    simp only [cut_Two.l0]
    by_cases hlt:i < s.size
    · rw [if_pos hlt]
      obtain ⟨d,hd⟩:∃ d,s.size - i = d + 1:=⟨s.size - i - 1,by omega⟩
      rw [hd]
      by_cases hh:cut_Two.here s i = true
      · rw [if_pos hh];simp only [ff];rw [if_pos hh]
      · rw [if_neg hh]
        have hw:=Lib.width_pos s i
        obtain ⟨K,hK⟩:∃ K,(Utf8.decode s i).2 = K:=⟨_,rfl⟩
        have hc:∀ j,1 ≤ j→j < K→128 ≤ (s.get! (i + j)).toNat∧i + j < s.size:=fun j h1 h2=>cont_byte s i j h1 (by rw [hK];exact h2)
        rw [hK] at hw ⊢
        have hle:i + K ≤ s.size:=by
          by_cases h1:K = 1
          · omega
          · have:=(hc (K - 1) (by omega) (by omega)).2
            omega
        rw [ih (i + K) k hle (by omega) (by omega),← hd,ff_skip s K (s.size - i) i ?_ (by omega),show s.size - i - K = s.size - (i + K) from by omega]
        intro j hj
        by_cases h0:j = 0
        · subst h0;simpa using hh
        · obtain ⟨h1,h2⟩:=hc j (by omega) hj
          have e:=get_bt s (i + j) h2
          unfold cut_Two.here
          rw [show (bt s ((i + j:Nat):Int) == 47) = false from beq_eq_false_iff_ne.2 (by omega)]
          simp
    · rw [if_neg hlt,show s.size - i = 0 from by omega];rfl
theorem here_not (s:ByteArray) (i:Nat) (h:i = 0 ∨ 155 < i ∨ s.size ≤ i + 1):cut_Two.here s i = false:=by
  unfold cut_Two.here
  rcases h with h|h|h
  · rw [decide_eq_false (show ¬ 0 < i by omega)];simp
  · rw [decide_eq_false (show ¬ i ≤ 155 by omega)];simp
  · rw [decide_eq_false (show ¬ i + 1 < s.size by omega)];simp
theorem ref_loop (s:ByteArray) (hs:s.size ≤ 140737488351232) (n:Nat):∀ (i k:Nat),1 ≤ i→i ≤ 156→156 - i = n→2 * n + 3 ≤ k→creelref_CutTwo.l0 k s i = some (ff s (s.size - i) i):=by
  induction n with
  | zero =>
    intro i k h1 h2 hn hk
    obtain ⟨k,rfl⟩:∃ m,k = m + 2:=⟨k - 2,by omega⟩
    have hi:i = 156:=by omega
    subst hi
    simp only [creelref_CutTwo.l0]
    rw [ff_none s _ _ (fun j _=>here_not s _ (by omega))]
    by_cases c:((156:Nat):Int) < wrap64 ((s.size:Int) - 1)
    · rw [if_pos c,decide_eq_false (by omega)];simp [creelref_CutTwo.j2];rfl
    · rw [if_neg c];simp [creelref_CutTwo.j2];rfl
  | succ n ih =>
    intro i k h1 h2 hn hk
    obtain ⟨k,rfl⟩:∃ m,k = m + 2:=⟨k - 2,by omega⟩
    have hw1:wrap64 ((s.size:Int) - 1) = (s.size:Int) - 1:=wrap_is (by omega) (by omega)
    simp only [creelref_CutTwo.l0]
    rw [hw1]
    by_cases c:(i:Int) < (s.size:Int) - 1
    · rw [if_pos c,decide_eq_true (by omega)]
      simp only [creelref_CutTwo.j2,if_true]
      rw [if_pos (show (0:Int) ≤ i by omega),if_pos (show (i:Int) < s.size by omega)]
      have w1:wrap64 ((i:Int) + 1) = ((i + 1:Nat):Int):=by rw [wrap_is (by omega) (by omega)];omega
      have w2:wrap64 ((s.size:Int) - (i:Int)) = (s.size:Int) - i:=wrap_is (by omega) (by omega)
      have w3:wrap64 ((s.size:Int) - (i:Int) - 1) = (s.size:Int) - i - 1:=wrap_is (by omega) (by omega)
      rw [w1,w2,w3]
      obtain ⟨d,hd⟩:∃ d,s.size - i = d + 1:=⟨s.size - i - 1,by omega⟩
      have next:ff s (s.size - (i + 1)) (i + 1) = ff s d (i + 1):=by rw [show s.size - (i + 1) = d from by omega]
      by_cases c2:bt s (i:Int) = 47
      · rw [if_pos c2]
        by_cases c3:(s.size:Int) - (i:Int) - 1 ≤ 100
        · rw [if_pos c3,if_pos (by omega),if_pos (by omega),if_pos (by omega),hd]
          simp only [ff]
          rw [if_pos]
          · simp
          · unfold cut_Two.here
            rw [c2,decide_eq_true (show 0 < i by omega),decide_eq_true (show i ≤ 155 by omega),decide_eq_true (show i + 1 < s.size by omega),decide_eq_true (show s.size ≤ i + 101 by omega)];rfl
        · rw [if_neg c3,ih (i + 1) k (by omega) (by omega) (by omega) (by omega),next,hd]
          simp only [ff]
          rw [if_neg]
          unfold cut_Two.here
          rw [decide_eq_false (show ¬ s.size ≤ i + 101 by omega)];simp
      · rw [if_neg c2,ih (i + 1) k (by omega) (by omega) (by omega) (by omega),next,hd]
        simp only [ff]
        rw [if_neg]
        unfold cut_Two.here
        rw [show (bt s (i:Int) == 47) = false from beq_eq_false_iff_ne.2 c2];simp
    · rw [if_neg c]
      simp only [creelref_CutTwo.j2,Bool.false_eq_true,if_false]
      rw [ff_none s _ _ (fun j _=>here_not s _ (by omega))];rfl
theorem two_same (s:ByteArray) (hs:s.size ≤ 140737488351232):∃ r,Ev (fun k=>cut_Two.f k s) r∧Ev (fun k=>creelref_CutTwo.f k s) r:=by
  obtain ⟨K,hK⟩:=has_ev s 0 (by omega) (by omega) hs
  replace hK:∀ k,K ≤ k→creelref_has.f k s 0 = some (s.data.toList.contains 0):=hK
  have hi:(Lib.indexByte s.data.toList ((0:Int).toNat.toUInt8) ≥ 0) ↔ s.data.toList.contains 0 = true:=by
    have:=index_ge s.data.toList ((0:Int).toNat.toUInt8)
    rw [← decide_eq_true_iff (p:=Lib.indexByte s.data.toList ((0:Int).toNat.toUInt8) ≥ 0),this];rfl
  by_cases h0:s.toList = ([]:List UInt8)
  · refine ⟨((⟨#[]⟩:ByteArray),(⟨#[]⟩:ByteArray),3),⟨0,fun k _=>?_⟩,⟨1,fun k hk=>?_⟩⟩
    · show cut_Two.f k s = _
      unfold cut_Two.f
      rw [if_pos (by omega),if_pos h0]
    · obtain ⟨k,rfl⟩:∃ m,k = m + 1:=⟨k - 1,by omega⟩
      show creelref_CutTwo.f (k + 1) s = _
      unfold creelref_CutTwo.f
      rw [if_pos h0];simp [creelref_CutTwo.j0]
  · by_cases hz:s.data.toList.contains 0 = true
    · refine ⟨((⟨#[]⟩:ByteArray),(⟨#[]⟩:ByteArray),3),⟨0,fun k _=>?_⟩,⟨K + 1,fun k hk=>?_⟩⟩
      · show cut_Two.f k s = _
        unfold cut_Two.f strings_IndexByte.f
        rw [if_pos (by omega),if_neg h0];simp only [Option.bind_some];rw [if_pos (hi.2 hz)]
      · obtain ⟨k,rfl⟩:∃ m,k = m + 1:=⟨k - 1,by omega⟩
        show creelref_CutTwo.f (k + 1) s = _
        unfold creelref_CutTwo.f
        rw [if_neg h0,hK _ (by omega)];simp only [Option.bind_some,hz];simp [creelref_CutTwo.j0]
    · have hz':s.data.toList.contains 0 = false:=by simpa using hz
      have e1:∀ k,s.size < k→cut_Two.f k s = some (if (s.size:Int) ≤ 100 then ((⟨#[]⟩:ByteArray),s,0) else ff s s.size 0):=by
        intro k hk
        unfold cut_Two.f strings_IndexByte.f
        rw [if_pos (by omega),if_neg h0];simp only [Option.bind_some];rw [if_neg (fun h=>hz (hi.1 h))]
        by_cases c:(s.size:Int) ≤ 100
        · rw [if_pos c,if_pos c]
        · rw [if_neg c,if_neg c,two_loop s s.size 0 k (by omega) (by omega) (by omega)];rfl
      have e2:∀ k,K + 400 ≤ k→creelref_CutTwo.f k s = some (if (s.size:Int) ≤ 100 then ((⟨#[]⟩:ByteArray),s,0) else ff s s.size 0):=by
        intro k hk
        obtain ⟨k,rfl⟩:∃ m,k = m + 1:=⟨k - 1,by omega⟩
        unfold creelref_CutTwo.f
        rw [if_neg h0,hK _ (by omega)];simp only [Option.bind_some,hz',creelref_CutTwo.j0,Bool.false_eq_true,if_false]
        by_cases c:(s.size:Int) ≤ 100
        · rw [if_pos c,if_pos c]
        · rw [if_neg c,if_neg c]
          have:=ref_loop s hs 155 1 k (by omega) (by omega) (by omega) (by omega)
          rw [show ((1:Nat):Int) = 1 from rfl] at this
          rw [this,ff_skip s 1 s.size 0 (fun j hj=>here_not s _ (by omega)) (by omega)]
      exact ⟨_,⟨s.size + 1,fun k hk=>e1 k (by omega)⟩,⟨K + 400,fun k hk=>e2 k hk⟩⟩
end Go.Proofs.YtenbelecmmpdgaaDoor.Q
end
section
namespace Go.Proofs.YtenbelecmmpdgaaDoor.Q
set_option linter.unusedVariables false
set_option linter.unusedSimpArgs false
open Go.RowKit Go.Proofs.YtenbelecmmpdgaaDoor.All Go.Proofs.YtenbelecmmpdgaaDoorW.PrintWords Go.Proofs.YtenbelecmmpdgaaDoorW.PrintLast Go.Proofs.YtenbelecmmpdgaaDoorW.PrintMore Go.Proofs.YtenbelecmmpdgaaDoorW.PureBase
open Go.Lib in
def P (m u:Nat):List UInt8:=(List.range m).map fun t=>dg u (m - 1 - t)
theorem P_succ (m u:Nat):P (m + 1) u = Lib.dg u m :: P m u:=by
  unfold P
  rw [List.range_succ_eq_map,List.map_cons,List.map_map]
  congr 1
  apply List.map_congr_left
  intro t ht
  have:=List.mem_range.1 ht
  show Lib.dg u (m + 1 - 1 - (t + 1)) = Lib.dg u (m - 1 - t)
  rw [show m + 1 - 1 - (t + 1) = m - 1 - t by omega]
theorem dg_mod (u m j:Nat) (h:j < m):Lib.dg (u % 10 ^ m) j = Lib.dg u j:=by
  unfold Lib.dg
  have:u % 10 ^ m / 10 ^ j % 10 = u / 10 ^ j % 10:=by
    obtain ⟨d,rfl⟩:∃ d,m = j + (d + 1):=⟨m - j - 1,by omega⟩
    rw [Nat.pow_add,Nat.mod_mul_right_div_self,Nat.pow_succ,Nat.mul_comm (10 ^ d) 10,Nat.mod_mul_right_mod]
  rw [this]
theorem P_mod (m u:Nat):P m (u % 10 ^ m) = P m u:=by
  unfold P
  apply List.map_congr_left
  intro t ht
  have:=List.mem_range.1 ht
  exact dg_mod u m _ (by omega)
theorem dg_val (u j:Nat):(Lib.dg u j).toNat = 48 + u / 10 ^ j % 10:=by
  unfold Lib.dg
  have:u / 10 ^ j % 10 < 10:=Nat.mod_lt _ (by omega)
  first
    | (rw [UInt8.toNat_ofNat'];omega)
    | (simp;omega)
theorem P_zero (m u:Nat) (hu:u < 10 ^ m) (h:∀ x ∈ P m u,x = 48):u = 0:=by
  induction m generalizing u with
  | zero=>simpa using hu
  | succ m ih =>
    rw [P_succ] at h
    have h1:Lib.dg u m = 48:=h _ (List.mem_cons_self ..)
    have h2:=dg_val u m
    rw [h1] at h2
    have h3:(48:UInt8).toNat = 48:=rfl
    have hp:0 < 10 ^ m:=Nat.pow_pos (by omega)
    have h4:u / 10 ^ m < 10:=Nat.div_lt_of_lt_mul (by rw [Nat.pow_succ] at hu;exact hu)
    have h5:u / 10 ^ m = 0:=by
      rw [Nat.mod_eq_of_lt h4,h3] at h2
      generalize u / 10 ^ m = q at h2 ⊢
      omega
    have h6:u < 10 ^ m:=by
      rcases Nat.lt_or_ge u (10 ^ m) with a|a
      · exact a
      · have:=Nat.div_pos a hp;omega
    exact ih u h6 (fun x hx=>h x (List.mem_cons_of_mem _ hx))
theorem P_of_zero (m:Nat):∀ x ∈ P m 0,x = 48:=by
  intro x hx
  unfold P at hx
  obtain ⟨t,_,rfl⟩:=List.mem_map.1 hx
  apply UInt8.toNat_inj.1
  rw [dg_val];simp
theorem digit_cut:∀ d:Fin 10,(⟨#[48,49,50,51,52,53,54,55,56,57]⟩:ByteArray).extract d.1 (d.1 + 1) = ⟨#[UInt8.ofNat (48 + d.1)]⟩:=by decide
theorem pad_is (m u:Nat) (hm:Lib.nDigits u ≤ m):List.replicate (m - Lib.nDigits u) (48:UInt8) ++ Lib.decDigits u = P m u:=by
  rw [Lib.decDigits_eq]
  induction m with
  | zero=>have:=Lib.nDigits_pos u;omega
  | succ m ih =>
    rcases Nat.lt_or_ge m (Lib.nDigits u) with h|h
    · rw [show m + 1 = Lib.nDigits u by omega,Nat.sub_self];rfl
    · rw [show m + 1 - Lib.nDigits u = (m - Lib.nDigits u) + 1 by omega,List.replicate_succ,List.cons_append,ih h,P_succ]
      congr 1
      apply UInt8.toNat_inj.1
      rw [dg_val]
      have:u / 10 ^ m = 0:=Nat.div_eq_of_lt (Nat.lt_of_lt_of_le (Lib.lt_pow_nDigits u) (Nat.pow_le_pow_right (by omega) h))
      rw [this];rfl
def tx (l:List UInt8):ByteArray:=⟨l.toArray⟩
theorem tx_size (l:List UInt8):(tx l).size = l.length:=by simp [tx,ByteArray.size]
theorem tx_append (a:ByteArray) (l r:List UInt8):(a ++ tx l) ++ tx r = a ++ tx (l ++ r):=by
  apply ext_list;simp [tx]
theorem dg_ne (n m:Nat) (h:10 ^ m ≤ n) (hn:n < 10 ^ (m + 1)):Lib.dg n m ≠ 48:=by
  intro e
  have h2:=dg_val n m
  rw [e] at h2
  have h3:(48:UInt8).toNat = 48:=rfl
  have hp:0 < 10 ^ m:=Nat.pow_pos (by omega)
  have h4:n / 10 ^ m < 10:=Nat.div_lt_of_lt_mul (by rw [Nat.pow_succ] at hn;exact hn)
  have h5:=Nat.div_pos h hp
  rw [Nat.mod_eq_of_lt h4,h3] at h2
  generalize n / 10 ^ m = q at h2 h5
  omega
theorem nd_le:∀ (m u:Nat),1 ≤ m→u < 10 ^ m→Lib.nDigits u ≤ m
  | 0,u,h,_=>absurd h (by omega)
  | 1,u,_,h=>by rw [Lib.nDigits_small (by simpa using h)];exact Nat.le_refl _
  | m + 2,u,_,h=>by
    by_cases c:u < 10
    · rw [Lib.nDigits_small c];omega
    · rw [Lib.nDigits_big c]
      have:=nd_le (m + 1) (u / 10) (by omega) (by rw [Nat.pow_succ] at h;omega)
      omega
theorem itoa_nat (u:Nat):Lib.itoa (u:Int) = Lib.decDigits u:=by unfold Lib.itoa;rw [if_neg (by omega)];simp
theorem tx_app (l r:List UInt8):tx l ++ tx r = tx (l ++ r):=by apply ext_list;simp [tx]
open Go.Lib in
theorem bt_at (s:ByteArray) (pre post:List UInt8) (c:UInt8) (h:s.data.toList = pre ++ c :: post):bt s (pre.length:Int) = (c.toNat:Int):=by
  have hl:pre.length < s.size:=by rw [← size_list,h];simp
  rw [bt_eq_iff s pre.length hl _ (by omega) (by have:=UInt8.toNat_lt c;omega),h]
  simp
end Go.Proofs.YtenbelecmmpdgaaDoor.Q
end
section
namespace Go.Proofs.YtenbelecmmpdgaaDoor.Q
set_option linter.unusedVariables false
set_option linter.unusedSimpArgs false
open Go.RowKit Go.Proofs.YtenbelecmmpdgaaDoor.All Go.Proofs.YtenbelecmmpdgaaDoorW.PrintWords Go.Proofs.YtenbelecmmpdgaaDoorW.PrintLast Go.Proofs.YtenbelecmmpdgaaDoorW.PrintMore Go.Proofs.YtenbelecmmpdgaaDoorW.PureBase
theorem trimR_cons (x:UInt8) (l:List UInt8):Lib.trimRightB (x :: l) 48 = if Lib.trimRightB l 48 = [] then (if x = 48 then [] else [x]) else x :: Lib.trimRightB l 48:=by
  unfold Lib.trimRightB
  rw [List.reverse_cons,List.dropWhile_append]
  by_cases h:l.reverse.dropWhile (· == 48) = []
  · rw [h]
    by_cases hx:x = 48
    · subst hx;simp
    · have:(x == 48) = false:=by simpa using hx
      simp [this,hx]
  · have h':(l.reverse.dropWhile (· == 48)).isEmpty = false:=by simpa using h
    rw [h']
    have h'':¬ (l.reverse.dropWhile (· == 48)).reverse = []:=by simpa using h
    rw [if_neg h'']
    simp
theorem trimR_nil (l:List UInt8):Lib.trimRightB l 48 = [] ↔ ∀ x ∈ l,x = 48:=by
  induction l with
  | nil=>simp [Lib.trimRightB]
  | cons a l ih =>
    rw [trimR_cons]
    by_cases h:Lib.trimRightB l 48 = []
    · rw [if_pos h]
      have:=ih.1 h
      by_cases ha:a = 48
      · rw [if_pos ha];simp [ha];exact this
      · rw [if_neg ha];simp [ha]
    · rw [if_neg h]
      have:=fun e=>h (ih.2 e)
      simp
      intro _
      exact Classical.byContradiction fun ne=>this fun x hx=>Classical.byContradiction fun h'=>ne ⟨x,hx,h'⟩
theorem trimR_len (l:List UInt8):(Lib.trimRightB l 48).length ≤ l.length:=by
  unfold Lib.trimRightB
  rw [List.length_reverse]
  have:=(List.dropWhile_suffix (l:=l.reverse) (fun x=>x == 48)).length_le
  simpa using this
theorem step (k n m U:Nat) (a:ByteArray) (hU:U = 10 ^ m) (h0:0 < n) (hU1:1 ≤ U) (hU2:U ≤ 100000000) (hn:n < 10 * U) (ha:a.size < 100000) :
    creelref_TimeText.l0 (k + 1) (n:Int) a (U:Int) = creelref_TimeText.l0 k ((n % U:Nat):Int) (a ++ tx [Lib.dg n m]) (wrap64 (Int.tdiv (U:Int) 10)):=by
  have hq:n / U < 10:=Nat.div_lt_of_lt_mul (by rw [Nat.mul_comm];exact hn)
  obtain ⟨q,hqd⟩:∃ q,n / U = q:=⟨_,rfl⟩
  rw [hqd] at hq
  have e0:Int.tdiv (n:Int) (U:Int) = (q:Int):=by rw [← hqd];rfl
  have e1:wrap64 (Int.tdiv (n:Int) (U:Int)) = (q:Int):=by
    rw [e0]
    exact wrap_nat (by omega) (by omega)
  have e2:wrap64 ((q:Int) + 1) = ((q + 1:Nat):Int):=by clear e1 e0;rw [wrap_nat (by omega) (by omega)];omega
  have e3:(⟨#[48,49,50,51,52,53,54,55,56,57]⟩:ByteArray).extract ((q:Int)).toNat (((q + 1:Nat):Int)).toNat = tx [Lib.dg n m]:=by
    rw [Int.toNat_natCast,Int.toNat_natCast,digit_cut ⟨q,hq⟩]
    unfold Lib.dg
    rw [← hU,hqd,Nat.mod_eq_of_lt hq];rfl
  clear hqd
  simp only [creelref_TimeText.l0]
  refine (if_pos (show (n:Int) > 0 by clear e1 e2 e0;omega)).trans ?_
  refine (if_neg (show ¬ (U:Int) = 0 by clear e1 e2 e0;omega)).trans ?_
  rw [e1,e2,e3]
  clear e1 e2 e0
  refine (if_pos (show 0 ≤ (q:Int) by omega)).trans ?_
  refine (if_pos (show (q:Int) ≤ ((q + 1:Nat):Int) by omega)).trans ?_
  refine (if_pos (show ((q + 1:Nat):Int) ≤ 10 by omega)).trans ?_
  refine (if_pos (by rw [tx_size];show a.size + 1 ≤ 9223372036854775807;omega)).trans ?_
  rfl
theorem time_end (k:Nat) (a:ByteArray) (u:Int):creelref_TimeText.l0 (k + 1) ((0:Nat):Int) a u = some (a,0):=by
  simp only [creelref_TimeText.l0]
  exact if_neg (by omega)
theorem time_loop (m:Nat):∀ (n k:Nat) (a:ByteArray),m ≤ 8→0 < n→n < 10 ^ (m + 1)→m + 3 < k→a.size + m < 1000 →
    creelref_TimeText.l0 k (n:Int) a ((10 ^ m:Nat):Int) = some (a ++ tx (Lib.trimRightB (P (m + 1) n) 48),0):=by
  induction m with
  | zero =>
    intro n k a hm h0 hn hk ha
    obtain ⟨k,rfl⟩:∃ q,k = q + 2:=⟨k - 2,by omega⟩
    rw [step (k + 1) n 0 (10 ^ 0) a rfl h0 (by simp) (by simp) (by simpa using hn) (by omega),show n % 10 ^ 0 = 0 by simp;omega,time_end,P_succ,trimR_cons,if_pos (by simp [P,Lib.trimRightB]),if_neg (dg_ne n 0 (by simp;omega) hn)]
  | succ m ih =>
    intro n k a hm h0 hn hk ha
    obtain ⟨k,rfl⟩:∃ q,k = q + 2:=⟨k - 2,by omega⟩
    have hU2:10 ^ (m + 1) ≤ 100000000:=Nat.le_trans (Nat.pow_le_pow_right (by omega) hm) (by decide)
    have hU1:1 ≤ 10 ^ (m + 1):=Nat.pow_pos (by omega)
    rw [step (k + 1) n (m + 1) (10 ^ (m + 1)) a rfl h0 hU1 hU2 (by rw [Nat.pow_succ] at hn;omega) (by omega),P_succ,trimR_cons]
    rcases Nat.eq_zero_or_pos (n % 10 ^ (m + 1)) with hz|hz
    · have hle:10 ^ (m + 1) ≤ n:=Nat.le_of_dvd h0 (Nat.dvd_of_mod_eq_zero hz)
      have ht:Lib.trimRightB (P (m + 1) n) 48 = []:=(trimR_nil _).2 (by rw [← P_mod,hz];exact P_of_zero _)
      rw [hz,time_end,if_pos ht,if_neg (dg_ne n (m + 1) hle hn)]
    · have hlt:n % 10 ^ (m + 1) < 10 ^ (m + 1):=Nat.mod_lt _ hU1
      have ht:¬ Lib.trimRightB (P (m + 1) n) 48 = []:=fun e=>by
        have:=P_zero (m + 1) (n % 10 ^ (m + 1)) hlt (by rw [P_mod];exact (trimR_nil _).1 e)
        omega
      have hd:wrap64 (Int.tdiv ((10 ^ (m + 1):Nat):Int) 10) = ((10 ^ m:Nat):Int):=by
        have e:Int.tdiv ((10 ^ (m + 1):Nat):Int) 10 = ((10 ^ (m + 1) / 10:Nat):Int):=rfl
        rw [e,Nat.pow_succ,Nat.mul_div_cancel _ (by omega)]
        have:10 ^ m ≤ 100000000:=Nat.le_trans (Nat.pow_le_pow_right (by omega) (by omega)) hU2
        exact wrap_nat (by omega) (by omega)
      rw [hd,ih (n % 10 ^ (m + 1)) (k + 1) _ (by omega) hz hlt (by omega) (by rw [ByteArray.size_append,tx_size];show a.size + 1 + m < 1000;omega),P_mod,if_neg ht,tx_append]
      rfl
theorem rep48 (n:Nat):Lib.repeatL [(48:UInt8)] n = List.replicate n 48:=by
  induction n with
  | zero=>rfl
  | succ n ih=>rw [List.replicate_succ,← ih];rfl
theorem rep48_is (n:Nat) (hn:n ≤ 9):strings_Repeat.f (⟨#[48]⟩:ByteArray) (n:Int) = some (tx (List.replicate n 48)):=by
  unfold strings_Repeat.f
  rw [if_pos (by
    refine ⟨by omega,by omega,?_⟩
    have:((⟨#[48]⟩:ByteArray)).size = 1:=rfl
    rw [this];omega)]
  have:Lib.repeatL (⟨#[48]⟩:ByteArray).data.toList (n:Int).toNat = List.replicate n 48:=rep48 n
  rw [this];rfl
theorem trimR_f (l:List UInt8) (hs:l.length ≤ 9):strings_TrimRight.f (tx l) (⟨#[48]⟩:ByteArray) = some (tx (Lib.trimRightB l 48)):=by
  have e:strings_TrimRight.f (tx l) (⟨#[48]⟩:ByteArray) = (if (48:UInt8).toNat < 128∧(tx l).size ≤ 9223372036854775807 then some ⟨(Lib.trimRightB (tx l).data.toList 48).toArray⟩ else none):=rfl
  rw [e,if_pos ⟨by decide,by rw [tx_size];omega⟩];rfl
def stxt (g:ByteArray) (v u:Nat):ByteArray:=if u = 0 then g ++ tx (Lib.decDigits v) else ((g ++ tx (Lib.decDigits v)) ++ (⟨#[46]⟩:ByteArray)) ++ tx (Lib.trimRightB (P 9 u) 48)
theorem j_val (k:Nat) (hk:30 < k) (v u:Nat) (g:ByteArray) (s1:v ≤ 2199023255552) (n1:u < 1000000000) (hg:g.size ≤ 1):stamp_Text.j0 k (v:Int) (u:Int) g = some (stxt g v u,0)∧creelref_TimeText.j0 k (v:Int) (u:Int) g = some (stxt g v u,0):=by
  obtain ⟨k,rfl⟩:∃ q,k = q + 1:=⟨k - 1,by omega⟩
  have hI:strconv_Itoa_15.f (v:Int) = some (tx (Lib.decDigits v)):=by
    have:strconv_Itoa_15.f (v:Int) = some (tx (Lib.itoa (v:Int))):=if_pos (by omega)
    rw [this,itoa_nat]
  have hv:=nd_le 13 v (by omega) (by show v < 10000000000000;omega)
  have hl:(Lib.decDigits v).length ≤ 13:=by rw [Lib.decDigits_length];exact hv
  have hsz:g.size + (tx (Lib.decDigits v)).size ≤ 9223372036854775807:=by rw [tx_size];omega
  have hsz2:(g ++ tx (Lib.decDigits v)).size + 1 ≤ 9223372036854775807:=by rw [ByteArray.size_append,tx_size];omega
  by_cases hn:u = 0
  · subst hn
    have e:stxt g v 0 = g ++ tx (Lib.decDigits v):=if_pos rfl
    rw [e]
    constructor
    · simp only [stamp_Text.j0,hI,Option.bind_some]
      rw [if_pos hsz]
      exact if_pos rfl
    · simp only [creelref_TimeText.j0,hI,Option.bind_some]
      rw [if_pos hsz]
      exact if_pos rfl
  · have hn':¬ (u:Int) = 0:=by omega
    have hu:u < 10 ^ (8 + 1):=by show u < 1000000000;omega
    have hd9:Lib.nDigits u ≤ 9:=nd_le 9 u (by omega) hu
    have hJ:strconv_Itoa_15.f (u:Int) = some (tx (Lib.decDigits u)):=by
      have:strconv_Itoa_15.f (u:Int) = some (tx (Lib.itoa (u:Int))):=if_pos (by omega)
      rw [this,itoa_nat]
    have hdl:(Lib.decDigits u).length = Lib.nDigits u:=Lib.decDigits_length u
    have hp9:(P 9 u).length = 9:=by simp [P]
    have htl:=trimR_len (P 9 u)
    have e:stxt g v u = ((g ++ tx (Lib.decDigits v)) ++ (⟨#[46]⟩:ByteArray)) ++ tx (Lib.trimRightB (P 9 u) 48):=if_neg hn
    rw [e]
    constructor
    · simp only [stamp_Text.j0,hI,Option.bind_some]
      rw [if_pos hsz,if_neg hn',hJ]
      simp only [Option.bind_some]
      rw [tx_size,hdl,show wrap64 (9 - (Lib.nDigits u:Int)) = ((9 - Lib.nDigits u:Nat):Int) by rw [wrap_nat (by omega) (by omega)];omega,rep48_is _ (by omega)]
      simp only [Option.bind_some]
      rw [if_pos (by rw [tx_size,List.length_replicate];omega),if_pos hsz2,tx_app,pad_is 9 u hd9,trimR_f _ (by omega)]
      simp only [Option.bind_some]
      rw [if_pos (by rw [ByteArray.size_append,ByteArray.size_append,tx_size,tx_size];show g.size + (Lib.decDigits v).length + 1 + _ ≤ _;omega)]
    · simp only [creelref_TimeText.j0,hI,Option.bind_some]
      rw [if_pos hsz,if_neg hn',if_pos hsz2]
      exact time_loop 8 u k _ (by omega) (by omega) hu (by omega) (by rw [ByteArray.size_append,ByteArray.size_append,tx_size];show g.size + (Lib.decDigits v).length + 1 + 8 < 1000;omega)
def okT (a b:Int):Prop:=-1099511627776 ≤ a∧a ≤ 1099511627776∧0 ≤ b∧b ≤ 999999999
instance (a b:Int):Decidable (okT a b):=by unfold okT;infer_instance
def sg (a:Int):ByteArray:=if a < 0 then (⟨#[45]⟩:ByteArray) else (⟨#[]⟩:ByteArray)
def vv (a b:Int):Nat:=(if a < 0 then (if b > 0 then -a - 1 else -a) else a).toNat
def uu (a b:Int):Nat:=(if a < 0 then (if b > 0 then 1000000000 - b else b) else b).toNat
def tt (a b:Int):ByteArray × Int:=if okT a b then (stxt (sg a) (vv a b) (uu a b),0) else ((⟨#[]⟩:ByteArray),4)
theorem text_val (s n:Int) (k:Nat) (hk:30 < k):stamp_Text.f k s n = some (tt s n)∧creelref_TimeText.f k s n = some (tt s n):=by
  have hc:creelref_TimeFault.f s n = stamp_Check.f s n:=by
    unfold creelref_TimeFault.f stamp_Check.f
    by_cases c:n > 999999999
    · rw [if_pos c,if_pos (show n ≥ 1000000000 by omega)]
    · rw [if_neg c,if_neg (show ¬ n ≥ 1000000000 by omega)]
  have ht:stamp_Check.f s n = some (if okT s n then 0 else 4):=by
    unfold stamp_Check.f
    split
    · rw [if_neg (fun h:okT s n=>by have:=h.1;omega)]
    · split
      · rw [if_neg (fun h:okT s n=>by have:=h.2.1;omega)]
      · split
        · rw [if_neg (fun h:okT s n=>by have:=h.2.2.1;omega)]
        · split
          · rw [if_neg (fun h:okT s n=>by have:=h.2.2.2;omega)]
          · rw [if_pos (show okT s n from ⟨by omega,by omega,by omega,by omega⟩)]
  unfold stamp_Text.f creelref_TimeText.f
  rw [hc,ht]
  simp only [Option.bind_some]
  by_cases h0:okT s n
  · have e0:tt s n = (stxt (sg s) (vv s n) (uu s n),0):=if_pos h0
    rw [if_pos h0,e0]
    obtain ⟨a1,a2,a3,a4⟩:=h0
    rw [if_pos (rfl:(0:Int) = 0),if_pos (rfl:(0:Int) = 0)]
    by_cases h1:s < 0
    · have eg:sg s = (⟨#[45]⟩:ByteArray):=if_pos h1
      rw [if_pos h1,if_pos h1,eg]
      by_cases h2:n > 0
      · have ev:vv s n = (-s - 1).toNat:=by unfold vv;rw [if_pos h1,if_pos h2]
        have eu:uu s n = (1000000000 - n).toNat:=by unfold uu;rw [if_pos h1,if_pos h2]
        have e1:wrap64 (wrap64 (-s) - 1) = ((vv s n:Nat):Int):=by rw [ev,wrap_is (x:=-s) (by omega) (by omega),wrap_is (by omega) (by omega)];omega
        have e2:wrap64 (-wrap64 (s + 1)) = ((vv s n:Nat):Int):=by clear e1;rw [ev,wrap_is (x:=s + 1) (by omega) (by omega),wrap_is (by omega) (by omega)];omega
        have e3:wrap64 (1000000000 - n) = ((uu s n:Nat):Int):=by clear e1 e2;rw [eu,wrap_is (by omega) (by omega)];omega
        rw [if_pos h2,if_pos h2,e1,e2,e3]
        clear e1 e2 e3
        exact j_val k hk _ _ _ (by omega) (by omega) (by decide)
      · have ev:vv s n = (-s).toNat:=by unfold vv;rw [if_pos h1,if_neg h2]
        have eu:uu s n = n.toNat:=by unfold uu;rw [if_pos h1,if_neg h2]
        have e1:wrap64 (-s) = ((vv s n:Nat):Int):=by rw [ev,wrap_is (by omega) (by omega)];omega
        have e3:n = ((uu s n:Nat):Int):=by clear e1;omega
        rw [if_neg h2,if_neg h2,e1]
        clear e1
        have:=j_val k hk (vv s n) (uu s n) (⟨#[45]⟩:ByteArray) (by omega) (by omega) (by decide)
        rwa [← e3] at this
    · have eg:sg s = (⟨#[]⟩:ByteArray):=if_neg h1
      have ev:vv s n = s.toNat:=by unfold vv;rw [if_neg h1]
      have eu:uu s n = n.toNat:=by unfold uu;rw [if_neg h1]
      rw [if_neg h1,if_neg h1,eg]
      have:=j_val k hk (vv s n) (uu s n) (⟨#[]⟩:ByteArray) (by omega) (by omega) (by decide)
      rwa [show ((vv s n:Nat):Int) = s by omega,show ((uu s n:Nat):Int) = n by omega] at this
  · have e0:tt s n = ((⟨#[]⟩:ByteArray),4):=if_neg h0
    rw [if_neg h0,e0]
    exact ⟨if_neg (by decide),if_neg (by decide)⟩
theorem itoa_f (n:Nat) (h:n ≤ 9000000000000000000):strconv_Itoa_15.f (n:Int) = some (tx (Lib.decDigits n)):=by
  have:strconv_Itoa_15.f (n:Int) = some (tx (Lib.itoa (n:Int))):=if_pos (by omega)
  rw [this,itoa_nat]
abbrev RR:=S43
abbrev HH:=S32
abbrev EE:=S26
def it (n:Int):ByteArray:=tx (Lib.decDigits n.toNat)
theorem it_f (n:Int) (h0:0 ≤ n) (h:n ≤ 9000000000000000000):strconv_Itoa_15.f n = some (it n):=by
  obtain ⟨m,rfl⟩:=Int.eq_ofNat_of_zero_le h0
  exact itoa_f m (by omega)
theorem most8:octal_Most.f 8 = some (2097151,0):=by decide +kernel
theorem most12:octal_Most.f 12 = some (8589934591,0):=by decide +kernel
theorem num_val (recs:List RR) (key:ByteArray) (n:Int) (h0:0 ≤ n) (h:n ≤ 9000000000000000000) (hl:recs.length < 1000000000000) :
    member_pack.num recs key n 8 = some (if 2097152 ≤ n then 0 else n,creelref_MemberRecords.add (decide (2097152 ≤ n)) key (it n) recs):=by
  unfold member_pack.num creelref_MemberRecords.add
  rw [most8,Option.bind_some]
  by_cases c:2097152 ≤ n
  · rw [if_pos (by show n < 0 ∨ (2097151:Int) < n;omega),it_f n h0 h,Option.bind_some,if_pos hl,if_pos c,if_pos (decide_eq_true c)]
  · rw [if_neg (by show ¬ (n < 0 ∨ (2097151:Int) < n);omega),if_neg c,if_neg (by simpa using c)]
theorem txt_val (recs:List RR) (key s:ByteArray) (m:Int) (inst:ByteArray) (hl:recs.length < 1000000000000) :
    member_pack.txt recs key s m inst = some (if m < (s.size:Int) then inst else s,creelref_MemberRecords.add (decide (m < (s.size:Int))) key s recs):=by
  unfold member_pack.txt creelref_MemberRecords.add
  by_cases c:m < (s.size:Int)
  · rw [if_pos c,if_pos hl,if_pos c,if_pos (decide_eq_true c)]
  · rw [if_neg c,if_neg c,if_neg (by simpa using c)]
theorem tim_val (recs:List RR) (s n:Int) (hn:0 ≤ n) (hl:recs.length < 1000000000000) (k:Nat) (hk:30 < k) :
    member_pack.tim k recs s n = some (if n ≠ 0 ∨ s < 0 ∨ 8589934592 ≤ s then 0 else s,creelref_MemberRecords.add (decide (n ≠ 0 ∨ s < 0 ∨ 8589934592 ≤ s)) (⟨#[109,116,105,109,101]⟩:ByteArray) (tt s n).1 recs):=by
  unfold member_pack.tim creelref_MemberRecords.add
  rw [most12,Option.bind_some]
  by_cases c:n ≠ 0 ∨ s < 0 ∨ 8589934592 ≤ s
  · rw [if_pos (by show 0 < n ∨ s < 0 ∨ (8589934591:Int) < s;omega),(text_val s n k hk).1,Option.bind_some,if_pos hl,if_pos c,if_pos (decide_eq_true c)]
  · rw [if_neg (by show ¬ (0 < n ∨ s < 0 ∨ (8589934591:Int) < s);omega),if_neg c,if_neg (by simpa using c)]
def nm (r:ByteArray × ByteArray × Int):ByteArray:=if r.2.2 = 0 then r.2.1 else (⟨#[64,108,111,110,103]⟩:ByteArray)
theorem nam_val (recs:List RR) (p:ByteArray) (r:ByteArray × ByteArray × Int) (k:Nat) (h:cut_Two.f k p = some r) (hl:recs.length < 1000000000000) :
    member_pack.nam k recs p = some (r.1,nm r,creelref_MemberRecords.add (r.2.2 != 0) (⟨#[112,97,116,104]⟩:ByteArray) p recs):=by
  unfold member_pack.nam creelref_MemberRecords.add nm
  rw [h,Option.bind_some]
  by_cases c:r.2.2 = 0
  · rw [if_pos c,if_pos c,if_neg (by simp [c])]
  · rw [if_neg c,if_pos hl,if_neg c,if_pos (by simp [c])]
theorem add_lt {b:Bool} {key val:ByteArray} {recs:List RR} {n:Nat} (h:recs.length < n):(creelref_MemberRecords.add b key val recs).length < n + 1:=creelref_MemberRecords.add_lt h
def recsV (r:ByteArray × ByteArray × Int) (x:EE):List RR :=
  creelref_MemberRecords.add (decide (31 < (x.f3.f3.size:Int))) (⟨#[117,110,97,109,101]⟩:ByteArray) x.f3.f3 (creelref_MemberRecords.add (decide (2097152 ≤ x.f3.f1)) (⟨#[117,105,100]⟩:ByteArray) (it x.f3.f1) (creelref_MemberRecords.add (r.2.2 != 0) (⟨#[112,97,116,104]⟩:ByteArray) x.f0 (creelref_MemberRecords.add (decide (x.f3.f6 ≠ 0 ∨ x.f3.f5 < 0 ∨ 8589934592 ≤ x.f3.f5)) (⟨#[109,116,105,109,101]⟩:ByteArray) (tt x.f3.f5 x.f3.f6).1 (creelref_MemberRecords.add (decide (100 < (x.f2.size:Int))) (⟨#[108,105,110,107,112,97,116,104]⟩:ByteArray) x.f2 (creelref_MemberRecords.add (decide (31 < (x.f3.f4.size:Int))) (⟨#[103,110,97,109,101]⟩:ByteArray) x.f3.f4 (creelref_MemberRecords.add (decide (2097152 ≤ x.f3.f2)) (⟨#[103,105,100]⟩:ByteArray) (it x.f3.f2) []))))))
def headV (r:ByteArray × ByteArray × Int) (x:EE):HH :=
  ⟨nm r,r.1,if 100 < (x.f2.size:Int) then (⟨#[64,108,111,110,103]⟩:ByteArray) else x.f2,x.f3.f0,if 2097152 ≤ x.f3.f1 then 0 else x.f3.f1,if 2097152 ≤ x.f3.f2 then 0 else x.f3.f2,(x.f4.length:Int),if x.f3.f6 ≠ 0 ∨ x.f3.f5 < 0 ∨ 8589934592 ≤ x.f3.f5 then 0 else x.f3.f5,bt (⟨#[63,48,53,50,49]⟩:ByteArray) x.f1,if 31 < (x.f3.f3.size:Int) then (⟨#[]⟩:ByteArray) else x.f3.f3,if 31 < (x.f3.f4.size:Int) then (⟨#[]⟩:ByteArray) else x.f3.f4⟩
structure FineE (x:EE):Prop where
  kind:1 ≤ x.f1∧x.f1 ≤ 4
  uid:0 ≤ x.f3.f1∧x.f3.f1 ≤ 1125899906842624
  gid:0 ≤ x.f3.f2∧x.f3.f2 ≤ 1125899906842624
  nano:0 ≤ x.f3.f6
theorem pack_val (x:EE) (hx:FineE x) (r:ByteArray × ByteArray × Int) (k:Nat) (hk:30 < k) (h:cut_Two.f k x.f0 = some r) :
    member_pack.f k x.f0 x.f1 x.f2 x.f3.f0 x.f3.f1 x.f3.f2 x.f3.f3 x.f3.f4 x.f3.f5 x.f3.f6 x.f4 = some (headV r x,recsV r x):=by
  obtain ⟨h1,h2,h3,h4⟩:=hx
  unfold member_pack.f
  rw [if_pos ⟨by omega,by omega⟩,num_val _ _ _ h3.1 (by omega) (by simp),Option.bind_some,txt_val _ _ _ _ _ (by (repeat refine add_lt ?_);simp),Option.bind_some,txt_val _ _ _ _ _ (by (repeat refine add_lt ?_);simp),Option.bind_some]
  rw [tim_val _ _ _ h4 (by (repeat refine add_lt ?_);simp) k hk,Option.bind_some,nam_val _ _ r k h (by (repeat refine add_lt ?_);simp),Option.bind_some,num_val _ _ _ h2.1 (by omega) (by (repeat refine add_lt ?_);simp),Option.bind_some,txt_val _ _ _ _ _ (by (repeat refine add_lt ?_);simp),Option.bind_some]
  rfl
theorem recs_val (x:EE) (hx:FineE x) (r:ByteArray × ByteArray × Int) (k:Nat) (hk:30 < k) (he:rEF.f k x.f0 x.f1 x.f2 x.f3.f0 x.f3.f1 x.f3.f2 x.f3.f3 x.f3.f4 x.f3.f5 x.f3.f6 x.f4 = some 0) (h:creelref_CutTwo.f k x.f0 = some r) :
    creelref_MemberRecords.f k x.f0 x.f1 x.f2 x.f3.f0 x.f3.f1 x.f3.f2 x.f3.f3 x.f3.f4 x.f3.f5 x.f3.f6 x.f4 = some (recsV r x,0):=by
  obtain ⟨h1,h2,h3,h4⟩:=hx
  unfold creelref_MemberRecords.f
  rw [he,Option.bind_some,if_pos rfl,(text_val _ _ k hk).2,Option.bind_some,h,Option.bind_some,it_f _ h3.1 (by omega),Option.bind_some,it_f _ h2.1 (by omega),Option.bind_some]
  rfl
def hstep (h:HH) (r:RR):HH :=
  if r.f0.toList = [103,105,100] then { h with f5:=0 } else if r.f0.toList = [103,110,97,109,101] then { h with f10:=(⟨#[]⟩:ByteArray) } else if r.f0.toList = [108,105,110,107,112,97,116,104] then { h with f2:=(⟨#[64,108,111,110,103]⟩:ByteArray) } else if r.f0.toList = [109,116,105,109,101] then { h with f7:=0 } else if r.f0.toList = [112,97,116,104] then { h with f0:=(⟨#[64,108,111,110,103]⟩:ByteArray) } else if r.f0.toList = [117,105,100] then { h with f4:=0 } else if r.f0.toList = [117,110,97,109,101] then { h with f9:=(⟨#[]⟩:ByteArray) } else h
def tup (h:HH):ByteArray × ByteArray × ByteArray × Int × Int × Int × Int × Int × Int × ByteArray × ByteArray × Int:=(h.f0,h.f1,h.f2,h.f3,h.f4,h.f5,h.f6,h.f7,h.f8,h.f9,h.f10,0)
theorem rec_at (l:List RR) (i:Nat) (h:i < l.length):rd_T43 l (i:Int) = l[i]:=by
  unfold rd_T43
  rw [Int.toNat_natCast,List.getD_eq_getElem?_getD,List.getElem?_eq_getElem h];rfl
theorem head_loop (l:List RR) (hl:l.length ≤ 1000) (d:Nat):∀ (k i:Nat) (h:HH),i + d = l.length→d < k→creelref_MemberHead.l0 k l (l.length:Int) (i:Int) h.f0 h.f1 h.f2 h.f3 h.f4 h.f5 h.f6 h.f7 h.f8 h.f9 h.f10 = some (tup ((l.drop i).foldl hstep h)):=by
  induction d with
  | zero =>
    intro k i h hi hk
    obtain ⟨k,rfl⟩:∃ q,k = q + 1:=⟨k - 1,by omega⟩
    rw [creelref_MemberHead.l0,if_neg (by omega),List.drop_of_length_le (by omega)]
    rfl
  | succ d ih =>
    intro k i h hi hk
    obtain ⟨k,rfl⟩:∃ q,k = q + 1:=⟨k - 1,by omega⟩
    have e1:wrap64 ((i:Int) + 1) = ((i + 1:Nat):Int):=by unfold wrap64;omega
    rw [creelref_MemberHead.l0,if_pos (by omega),if_pos (by omega),if_pos (by omega),e1,List.drop_eq_getElem_cons (by omega),List.foldl_cons,rec_at l i (by omega)]
    generalize l[i] = r
    have key:=fun h'=>ih k (i + 1) h' (by omega) (by omega)
    by_cases c1:r.f0.toList = [103,105,100]
    · have e:hstep h r = { h with f5:=0 }:=by unfold hstep;rw [if_pos c1]
      rw [if_pos c1,e];exact key { h with f5:=0 }
    rw [if_neg c1]
    by_cases c2:r.f0.toList = [103,110,97,109,101]
    · have e:hstep h r = { h with f10:=(⟨#[]⟩:ByteArray) }:=by unfold hstep;rw [if_neg c1,if_pos c2]
      rw [if_pos c2,e];exact key { h with f10:=(⟨#[]⟩:ByteArray) }
    rw [if_neg c2]
    by_cases c3:r.f0.toList = [108,105,110,107,112,97,116,104]
    · have e:hstep h r = { h with f2:=(⟨#[64,108,111,110,103]⟩:ByteArray) }:=by unfold hstep;rw [if_neg c1,if_neg c2,if_pos c3]
      rw [if_pos c3,e];exact key { h with f2:=(⟨#[64,108,111,110,103]⟩:ByteArray) }
    rw [if_neg c3]
    by_cases c4:r.f0.toList = [109,116,105,109,101]
    · have e:hstep h r = { h with f7:=0 }:=by unfold hstep;rw [if_neg c1,if_neg c2,if_neg c3,if_pos c4]
      rw [if_pos c4,e];exact key { h with f7:=0 }
    rw [if_neg c4]
    by_cases c5:r.f0.toList = [112,97,116,104]
    · have e:hstep h r = { h with f0:=(⟨#[64,108,111,110,103]⟩:ByteArray) }:=by unfold hstep;rw [if_neg c1,if_neg c2,if_neg c3,if_neg c4,if_pos c5]
      rw [if_pos c5,e];exact key { h with f0:=(⟨#[64,108,111,110,103]⟩:ByteArray) }
    rw [if_neg c5]
    by_cases c6:r.f0.toList = [117,105,100]
    · have e:hstep h r = { h with f4:=0 }:=by unfold hstep;rw [if_neg c1,if_neg c2,if_neg c3,if_neg c4,if_neg c5,if_pos c6]
      rw [if_pos c6,e];exact key { h with f4:=0 }
    rw [if_neg c6]
    by_cases c7:r.f0.toList = [117,110,97,109,101]
    · have e:hstep h r = { h with f9:=(⟨#[]⟩:ByteArray) }:=by unfold hstep;rw [if_neg c1,if_neg c2,if_neg c3,if_neg c4,if_neg c5,if_neg c6,if_pos c7]
      rw [if_pos c7,e];exact key { h with f9:=(⟨#[]⟩:ByteArray) }
    rw [if_neg c7]
    have e:hstep h r = h:=by unfold hstep;rw [if_neg c1,if_neg c2,if_neg c3,if_neg c4,if_neg c5,if_neg c6,if_neg c7]
    rw [e];exact key h
theorem fold_add (b:Bool) (key v:ByteArray) (recs:List RR) (h:HH):(creelref_MemberRecords.add b key v recs).foldl hstep h = if b = true then hstep (recs.foldl hstep h) ⟨key,v⟩ else recs.foldl hstep h:=by
  unfold creelref_MemberRecords.add
  split
  · rw [List.foldl_append];rfl
  · rfl
theorem st1 (b:Bool) (h:HH) (v:ByteArray):(if b = true then hstep h ⟨(⟨#[103,105,100]⟩:ByteArray),v⟩ else h) = { h with f5:=if b = true then 0 else h.f5 }:=by
  cases b
  · rfl
  · simp [hstep,toList_data]
theorem st2 (b:Bool) (h:HH) (v:ByteArray):(if b = true then hstep h ⟨(⟨#[103,110,97,109,101]⟩:ByteArray),v⟩ else h) = { h with f10:=if b = true then (⟨#[]⟩:ByteArray) else h.f10 }:=by
  cases b
  · rfl
  · simp [hstep,toList_data]
theorem st3 (b:Bool) (h:HH) (v:ByteArray):(if b = true then hstep h ⟨(⟨#[108,105,110,107,112,97,116,104]⟩:ByteArray),v⟩ else h) = { h with f2:=if b = true then (⟨#[64,108,111,110,103]⟩:ByteArray) else h.f2 }:=by
  cases b
  · rfl
  · simp [hstep,toList_data]
theorem st4 (b:Bool) (h:HH) (v:ByteArray):(if b = true then hstep h ⟨(⟨#[109,116,105,109,101]⟩:ByteArray),v⟩ else h) = { h with f7:=if b = true then 0 else h.f7 }:=by
  cases b
  · rfl
  · simp [hstep,toList_data]
theorem st5 (b:Bool) (h:HH) (v:ByteArray):(if b = true then hstep h ⟨(⟨#[112,97,116,104]⟩:ByteArray),v⟩ else h) = { h with f0:=if b = true then (⟨#[64,108,111,110,103]⟩:ByteArray) else h.f0 }:=by
  cases b
  · rfl
  · simp [hstep,toList_data]
theorem st6 (b:Bool) (h:HH) (v:ByteArray):(if b = true then hstep h ⟨(⟨#[117,105,100]⟩:ByteArray),v⟩ else h) = { h with f4:=if b = true then 0 else h.f4 }:=by
  cases b
  · rfl
  · simp [hstep,toList_data]
theorem st7 (b:Bool) (h:HH) (v:ByteArray):(if b = true then hstep h ⟨(⟨#[117,110,97,109,101]⟩:ByteArray),v⟩ else h) = { h with f9:=if b = true then (⟨#[]⟩:ByteArray) else h.f9 }:=by
  cases b
  · rfl
  · simp [hstep,toList_data]
theorem fold_head (r:ByteArray × ByteArray × Int) (x:EE):(recsV r x).foldl hstep (⟨r.2.1,r.1,x.f2,x.f3.f0,x.f3.f1,x.f3.f2,(x.f4.length:Int),x.f3.f5,bt (⟨#[63,48,53,50,49]⟩:ByteArray) x.f1,x.f3.f3,x.f3.f4⟩:HH) = headV r x:=by
  have e1:(creelref_MemberRecords.add (decide (2097152 ≤ x.f3.f2)) (⟨#[103,105,100]⟩:ByteArray) (it x.f3.f2) []).foldl hstep (⟨r.2.1,r.1,x.f2,x.f3.f0,x.f3.f1,x.f3.f2,(x.f4.length:Int),x.f3.f5,bt (⟨#[63,48,53,50,49]⟩:ByteArray) x.f1,x.f3.f3,x.f3.f4⟩:HH) = (⟨r.2.1,r.1,x.f2,x.f3.f0,x.f3.f1,(if (decide (2097152 ≤ x.f3.f2)) = true then 0 else x.f3.f2),(x.f4.length:Int),x.f3.f5,bt (⟨#[63,48,53,50,49]⟩:ByteArray) x.f1,x.f3.f3,x.f3.f4⟩:HH):=by
    rw [fold_add]
    exact st1 _ _ _
  have e2:(creelref_MemberRecords.add (decide (31 < (x.f3.f4.size:Int))) (⟨#[103,110,97,109,101]⟩:ByteArray) x.f3.f4 (creelref_MemberRecords.add (decide (2097152 ≤ x.f3.f2)) (⟨#[103,105,100]⟩:ByteArray) (it x.f3.f2) [])).foldl hstep (⟨r.2.1,r.1,x.f2,x.f3.f0,x.f3.f1,x.f3.f2,(x.f4.length:Int),x.f3.f5,bt (⟨#[63,48,53,50,49]⟩:ByteArray) x.f1,x.f3.f3,x.f3.f4⟩:HH) = (⟨r.2.1,r.1,x.f2,x.f3.f0,x.f3.f1,(if (decide (2097152 ≤ x.f3.f2)) = true then 0 else x.f3.f2),(x.f4.length:Int),x.f3.f5,bt (⟨#[63,48,53,50,49]⟩:ByteArray) x.f1,x.f3.f3,(if (decide (31 < (x.f3.f4.size:Int))) = true then (⟨#[]⟩:ByteArray) else x.f3.f4)⟩:HH):=by
    rw [fold_add,e1]
    exact st2 _ _ _
  have e3:(creelref_MemberRecords.add (decide (100 < (x.f2.size:Int))) (⟨#[108,105,110,107,112,97,116,104]⟩:ByteArray) x.f2 (creelref_MemberRecords.add (decide (31 < (x.f3.f4.size:Int))) (⟨#[103,110,97,109,101]⟩:ByteArray) x.f3.f4 (creelref_MemberRecords.add (decide (2097152 ≤ x.f3.f2)) (⟨#[103,105,100]⟩:ByteArray) (it x.f3.f2) []))).foldl hstep (⟨r.2.1,r.1,x.f2,x.f3.f0,x.f3.f1,x.f3.f2,(x.f4.length:Int),x.f3.f5,bt (⟨#[63,48,53,50,49]⟩:ByteArray) x.f1,x.f3.f3,x.f3.f4⟩:HH) = (⟨r.2.1,r.1,(if (decide (100 < (x.f2.size:Int))) = true then (⟨#[64,108,111,110,103]⟩:ByteArray) else x.f2),x.f3.f0,x.f3.f1,(if (decide (2097152 ≤ x.f3.f2)) = true then 0 else x.f3.f2),(x.f4.length:Int),x.f3.f5,bt (⟨#[63,48,53,50,49]⟩:ByteArray) x.f1,x.f3.f3,(if (decide (31 < (x.f3.f4.size:Int))) = true then (⟨#[]⟩:ByteArray) else x.f3.f4)⟩:HH):=by
    rw [fold_add,e2]
    exact st3 _ _ _
  have e4:(creelref_MemberRecords.add (decide (x.f3.f6 ≠ 0 ∨ x.f3.f5 < 0 ∨ 8589934592 ≤ x.f3.f5)) (⟨#[109,116,105,109,101]⟩:ByteArray) (tt x.f3.f5 x.f3.f6).1 (creelref_MemberRecords.add (decide (100 < (x.f2.size:Int))) (⟨#[108,105,110,107,112,97,116,104]⟩:ByteArray) x.f2 (creelref_MemberRecords.add (decide (31 < (x.f3.f4.size:Int))) (⟨#[103,110,97,109,101]⟩:ByteArray) x.f3.f4 (creelref_MemberRecords.add (decide (2097152 ≤ x.f3.f2)) (⟨#[103,105,100]⟩:ByteArray) (it x.f3.f2) [])))).foldl hstep (⟨r.2.1,r.1,x.f2,x.f3.f0,x.f3.f1,x.f3.f2,(x.f4.length:Int),x.f3.f5,bt (⟨#[63,48,53,50,49]⟩:ByteArray) x.f1,x.f3.f3,x.f3.f4⟩:HH) = (⟨r.2.1,r.1,(if (decide (100 < (x.f2.size:Int))) = true then (⟨#[64,108,111,110,103]⟩:ByteArray) else x.f2),x.f3.f0,x.f3.f1,(if (decide (2097152 ≤ x.f3.f2)) = true then 0 else x.f3.f2),(x.f4.length:Int),(if (decide (x.f3.f6 ≠ 0 ∨ x.f3.f5 < 0 ∨ 8589934592 ≤ x.f3.f5)) = true then 0 else x.f3.f5),bt (⟨#[63,48,53,50,49]⟩:ByteArray) x.f1,x.f3.f3,(if (decide (31 < (x.f3.f4.size:Int))) = true then (⟨#[]⟩:ByteArray) else x.f3.f4)⟩:HH):=by
    rw [fold_add,e3]
    exact st4 _ _ _
  have e5:(creelref_MemberRecords.add (r.2.2 != 0) (⟨#[112,97,116,104]⟩:ByteArray) x.f0 (creelref_MemberRecords.add (decide (x.f3.f6 ≠ 0 ∨ x.f3.f5 < 0 ∨ 8589934592 ≤ x.f3.f5)) (⟨#[109,116,105,109,101]⟩:ByteArray) (tt x.f3.f5 x.f3.f6).1 (creelref_MemberRecords.add (decide (100 < (x.f2.size:Int))) (⟨#[108,105,110,107,112,97,116,104]⟩:ByteArray) x.f2 (creelref_MemberRecords.add (decide (31 < (x.f3.f4.size:Int))) (⟨#[103,110,97,109,101]⟩:ByteArray) x.f3.f4 (creelref_MemberRecords.add (decide (2097152 ≤ x.f3.f2)) (⟨#[103,105,100]⟩:ByteArray) (it x.f3.f2) []))))).foldl hstep (⟨r.2.1,r.1,x.f2,x.f3.f0,x.f3.f1,x.f3.f2,(x.f4.length:Int),x.f3.f5,bt (⟨#[63,48,53,50,49]⟩:ByteArray) x.f1,x.f3.f3,x.f3.f4⟩:HH) = (⟨(if (r.2.2 != 0) = true then (⟨#[64,108,111,110,103]⟩:ByteArray) else r.2.1),r.1,(if (decide (100 < (x.f2.size:Int))) = true then (⟨#[64,108,111,110,103]⟩:ByteArray) else x.f2),x.f3.f0,x.f3.f1,(if (decide (2097152 ≤ x.f3.f2)) = true then 0 else x.f3.f2),(x.f4.length:Int),(if (decide (x.f3.f6 ≠ 0 ∨ x.f3.f5 < 0 ∨ 8589934592 ≤ x.f3.f5)) = true then 0 else x.f3.f5),bt (⟨#[63,48,53,50,49]⟩:ByteArray) x.f1,x.f3.f3,(if (decide (31 < (x.f3.f4.size:Int))) = true then (⟨#[]⟩:ByteArray) else x.f3.f4)⟩:HH):=by
    rw [fold_add,e4]
    exact st5 _ _ _
  have e6:(creelref_MemberRecords.add (decide (2097152 ≤ x.f3.f1)) (⟨#[117,105,100]⟩:ByteArray) (it x.f3.f1) (creelref_MemberRecords.add (r.2.2 != 0) (⟨#[112,97,116,104]⟩:ByteArray) x.f0 (creelref_MemberRecords.add (decide (x.f3.f6 ≠ 0 ∨ x.f3.f5 < 0 ∨ 8589934592 ≤ x.f3.f5)) (⟨#[109,116,105,109,101]⟩:ByteArray) (tt x.f3.f5 x.f3.f6).1 (creelref_MemberRecords.add (decide (100 < (x.f2.size:Int))) (⟨#[108,105,110,107,112,97,116,104]⟩:ByteArray) x.f2 (creelref_MemberRecords.add (decide (31 < (x.f3.f4.size:Int))) (⟨#[103,110,97,109,101]⟩:ByteArray) x.f3.f4 (creelref_MemberRecords.add (decide (2097152 ≤ x.f3.f2)) (⟨#[103,105,100]⟩:ByteArray) (it x.f3.f2) [])))))).foldl hstep (⟨r.2.1,r.1,x.f2,x.f3.f0,x.f3.f1,x.f3.f2,(x.f4.length:Int),x.f3.f5,bt (⟨#[63,48,53,50,49]⟩:ByteArray) x.f1,x.f3.f3,x.f3.f4⟩:HH) = (⟨(if (r.2.2 != 0) = true then (⟨#[64,108,111,110,103]⟩:ByteArray) else r.2.1),r.1,(if (decide (100 < (x.f2.size:Int))) = true then (⟨#[64,108,111,110,103]⟩:ByteArray) else x.f2),x.f3.f0,(if (decide (2097152 ≤ x.f3.f1)) = true then 0 else x.f3.f1),(if (decide (2097152 ≤ x.f3.f2)) = true then 0 else x.f3.f2),(x.f4.length:Int),(if (decide (x.f3.f6 ≠ 0 ∨ x.f3.f5 < 0 ∨ 8589934592 ≤ x.f3.f5)) = true then 0 else x.f3.f5),bt (⟨#[63,48,53,50,49]⟩:ByteArray) x.f1,x.f3.f3,(if (decide (31 < (x.f3.f4.size:Int))) = true then (⟨#[]⟩:ByteArray) else x.f3.f4)⟩:HH):=by
    rw [fold_add,e5]
    exact st6 _ _ _
  have e7:(creelref_MemberRecords.add (decide (31 < (x.f3.f3.size:Int))) (⟨#[117,110,97,109,101]⟩:ByteArray) x.f3.f3 (creelref_MemberRecords.add (decide (2097152 ≤ x.f3.f1)) (⟨#[117,105,100]⟩:ByteArray) (it x.f3.f1) (creelref_MemberRecords.add (r.2.2 != 0) (⟨#[112,97,116,104]⟩:ByteArray) x.f0 (creelref_MemberRecords.add (decide (x.f3.f6 ≠ 0 ∨ x.f3.f5 < 0 ∨ 8589934592 ≤ x.f3.f5)) (⟨#[109,116,105,109,101]⟩:ByteArray) (tt x.f3.f5 x.f3.f6).1 (creelref_MemberRecords.add (decide (100 < (x.f2.size:Int))) (⟨#[108,105,110,107,112,97,116,104]⟩:ByteArray) x.f2 (creelref_MemberRecords.add (decide (31 < (x.f3.f4.size:Int))) (⟨#[103,110,97,109,101]⟩:ByteArray) x.f3.f4 (creelref_MemberRecords.add (decide (2097152 ≤ x.f3.f2)) (⟨#[103,105,100]⟩:ByteArray) (it x.f3.f2) []))))))).foldl hstep (⟨r.2.1,r.1,x.f2,x.f3.f0,x.f3.f1,x.f3.f2,(x.f4.length:Int),x.f3.f5,bt (⟨#[63,48,53,50,49]⟩:ByteArray) x.f1,x.f3.f3,x.f3.f4⟩:HH) = (⟨(if (r.2.2 != 0) = true then (⟨#[64,108,111,110,103]⟩:ByteArray) else r.2.1),r.1,(if (decide (100 < (x.f2.size:Int))) = true then (⟨#[64,108,111,110,103]⟩:ByteArray) else x.f2),x.f3.f0,(if (decide (2097152 ≤ x.f3.f1)) = true then 0 else x.f3.f1),(if (decide (2097152 ≤ x.f3.f2)) = true then 0 else x.f3.f2),(x.f4.length:Int),(if (decide (x.f3.f6 ≠ 0 ∨ x.f3.f5 < 0 ∨ 8589934592 ≤ x.f3.f5)) = true then 0 else x.f3.f5),bt (⟨#[63,48,53,50,49]⟩:ByteArray) x.f1,(if (decide (31 < (x.f3.f3.size:Int))) = true then (⟨#[]⟩:ByteArray) else x.f3.f3),(if (decide (31 < (x.f3.f4.size:Int))) = true then (⟨#[]⟩:ByteArray) else x.f3.f4)⟩:HH):=by
    rw [fold_add,e6]
    exact st7 _ _ _
  unfold recsV
  rw [e7]
  unfold headV nm
  simp only [decide_eq_true_eq]
  by_cases c:r.2.2 = 0
  · simp [c]
  · simp [c]
theorem recs_len (r:ByteArray × ByteArray × Int) (x:EE):(recsV r x).length < 8:=by
  unfold recsV
  repeat refine add_lt ?_
  simp
theorem typ (k:Int) (h:1 ≤ k∧k ≤ 4):0 ≤ wrap64 (k - 1)∧wrap64 (k - 1) < 4∧rd [48,53,50,49] (wrap64 (k - 1)) = bt (⟨#[63,48,53,50,49]⟩:ByteArray) k:=by
  obtain ⟨h1,h2⟩:=h
  have:k = 1 ∨ k = 2 ∨ k = 3 ∨ k = 4:=by omega
  rcases this with rfl|rfl|rfl|rfl <;> exact ⟨by decide +kernel,by decide +kernel,by decide +kernel⟩
theorem head_val (x:EE) (hx:FineE x) (r:ByteArray × ByteArray × Int) (k:Nat) (hk:30 < k) (he:rEF.f k x.f0 x.f1 x.f2 x.f3.f0 x.f3.f1 x.f3.f2 x.f3.f3 x.f3.f4 x.f3.f5 x.f3.f6 x.f4 = some 0) (h:creelref_CutTwo.f k x.f0 = some r) :
    creelref_MemberHead.f k x.f0 x.f1 x.f2 x.f3.f0 x.f3.f1 x.f3.f2 x.f3.f3 x.f3.f4 x.f3.f5 x.f3.f6 x.f4 = some (tup (headV r x)):=by
  have hr:=recs_val x hx r k hk he h
  obtain ⟨t1,t2,t3⟩:=typ x.f1 hx.kind
  have hl:=recs_len r x
  unfold creelref_MemberHead.f
  rw [hr,Option.bind_some,if_pos rfl,Option.bind_some,if_pos t1,if_pos (by simpa using t2),h,Option.bind_some,t3]
  have:=head_loop (recsV r x) (by omega) (recsV r x).length k 0 ⟨r.2.1,r.1,x.f2,x.f3.f0,x.f3.f1,x.f3.f2,(x.f4.length:Int),x.f3.f5,bt (⟨#[63,48,53,50,49]⟩:ByteArray) x.f1,x.f3.f3,x.f3.f4⟩ (by omega) (by omega)
  rw [List.drop_zero,fold_head] at this
  exact this
theorem wrong_zero (a b c:Int) (u g:ByteArray) (s n:Int) (h:wrong a b c u g s n = 0):(0 ≤ a∧a ≤ 4095)∧(0 ≤ b∧b ≤ 1125899906842624)∧(0 ≤ c∧c ≤ 1125899906842624)∧u.size ≤ 60∧g.size ≤ 60∧okT s n:=by
  unfold wrong at h
  by_cases c1:a < 0 ∨ a > 4095 ∨ b < 0 ∨ b > 1125899906842624 ∨ c < 0 ∨ c > 1125899906842624
  · rw [if_pos c1] at h;exact absurd h (by decide)
  rw [if_neg c1] at h
  by_cases c2:(u.size:Int) > 60 ∨ (g.size:Int) > 60
  · rw [if_pos c2] at h;exact absurd h (by decide)
  rw [if_neg c2] at h
  by_cases c3:u.data.toList.contains 0 = true ∨ g.data.toList.contains 0 = true
  · rw [if_pos c3] at h;exact absurd h (by decide)
  rw [if_neg c3] at h
  by_cases c4:s < -1099511627776 ∨ s > 1099511627776 ∨ n < 0 ∨ n > 999999999
  · rw [if_pos c4] at h;exact absurd h (by decide)
  clear h c3
  exact ⟨by omega,by omega,by omega,by omega,by omega,by omega,by omega,by omega,by omega⟩
theorem fine_of (p:ByteArray) (kind:Int) (t:ByteArray) (a b c:Int) (u g:ByteArray) (s n:Int) (d:Nat) (h:entryR p kind t a b c u g s n d = 0):pathR p = 0∧wrong a b c u g s n = 0∧(1 ≤ kind∧kind ≤ 4)∧d ≤ 2000∧t.size ≤ 400:=by
  unfold entryR at h
  by_cases c1:pathR p = 0
  · rw [if_pos c1] at h
    by_cases c2:wrong a b c u g s n = 0
    · rw [if_pos c2] at h
      refine ⟨c1,c2,?_⟩
      unfold restE at h
      by_cases c3:kind < 1 ∨ 4 < kind
      · rw [if_pos c3] at h;exact absurd h (by decide)
      rw [if_neg c3] at h
      refine ⟨by omega,?_⟩
      unfold midE at h
      split at h
      · exact absurd h (by decide)
      unfold tailE at h
      split at h
      · exact absurd h (by decide)
      · rename_i c5
        rw [Bool.or_eq_true,decide_eq_true_eq,decide_eq_true_eq] at c5
        constructor <;> omega
    · rw [if_neg c2] at h;exact absurd h c2
  · rw [if_neg c1] at h;exact absurd h c1
theorem fineE (x:EE) (h:entryR x.f0 x.f1 x.f2 x.f3.f0 x.f3.f1 x.f3.f2 x.f3.f3 x.f3.f4 x.f3.f5 x.f3.f6 x.f4.length = 0):FineE x:=by
  obtain ⟨_,h2,h3,_⟩:=fine_of _ _ _ _ _ _ _ _ _ _ _ h
  obtain ⟨_,h4,h5,_,_,h6⟩:=wrong_zero _ _ _ _ _ _ _ h2
  exact ⟨h3,h4,h5,h6.2.2.1⟩
end Go.Proofs.YtenbelecmmpdgaaDoor.Q
end
