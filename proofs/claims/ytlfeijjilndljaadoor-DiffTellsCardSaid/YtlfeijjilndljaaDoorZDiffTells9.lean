/- Made by programs of the prover: walks of Go functions, the words that they use, and plain laws, each text in a section of its own; no condition of its own. -/
import Derived.Test.YtlfeijjilndljaaDoorZDiffTells2
import Derived.Test.YtlfeijjilndljaaDoorZDiffTells3
import Derived.Test.YtlfeijjilndljaaDoorZDiffTells4
import Derived.Test.YtlfeijjilndljaaDoorZDiffTells5
import Derived.Test.YtlfeijjilndljaaDoorZDiffTells6
import Derived.Test.YtlfeijjilndljaaDoorZDiffTells7
import Derived.Test.YtlfeijjilndljaaDoorZDiffTells8
section
namespace Go.Proofs.YtlfeijjilndljaaDoor.All
open Go.RowKit Go.Proofs.YtlfeijjilndljaaDoorW.PrintWords Go.Proofs.YtlfeijjilndljaaDoorW.PrintLast Go.Proofs.YtlfeijjilndljaaDoorW.PrintMore
open Go.Proofs.YtlfeijjilndljaaDoorW.Mine
attribute [local go_sem] gtr_string leq_string geq_string
attribute [local go_sem] max2_int min2_int max_two min_two max_three min_three max_four min_four
set_option linter.unusedVariables false
set_option linter.unusedSimpArgs false
def strings_HasPrefix.f (a0:ByteArray) (a1:ByteArray):Option Bool:=some (Lib.hasPrefix a0.data.toList a1.data.toList)
def path_In.f (a0:ByteArray) (a1:ByteArray):Option (Bool):=if a1.toList = ([]:List UInt8) then (if a0.toList = ([]:List UInt8) then (if a1.size + 1 ≤ 9223372036854775807 then ((strings_HasPrefix.f a0 (a1 ++ (⟨#[47]⟩:ByteArray))).bind fun t101=>(some t101)) else (none)) else (some true)) else (if a1.size + 1 ≤ 9223372036854775807 then ((strings_HasPrefix.f a0 (a1 ++ (⟨#[47]⟩:ByteArray))).bind fun t102=>(some t102)) else (none))
def creelref_PathIn.f (a0 a1:ByteArray):Option Bool:=some (if a1.toList = ([]:List UInt8) then !a0.toList.isEmpty else if a1.size < a0.size then (if (a0.extract 0 a1.size).toList = a1.toList then bt a0 (a1.size:Int) == 47 else false) else false)
end Go.Proofs.YtlfeijjilndljaaDoor.All
end
section
namespace Go.Proofs.YtlfeijjilndljaaDoor.Q
set_option linter.unusedVariables false
set_option linter.unusedSimpArgs false
open Go.RowKit Go.Proofs.YtlfeijjilndljaaDoor.All Go.Proofs.YtlfeijjilndljaaDoorW.PrintWords Go.Proofs.YtlfeijjilndljaaDoorW.PrintLast Go.Proofs.YtlfeijjilndljaaDoorW.PrintMore Go.Proofs.YtlfeijjilndljaaDoorW.PureBase
theorem cmp_is (p q:ByteArray):cmp_Compare_string.f p q = some (if (Op.bytesLess p.toList q.toList) = true then (-1) else if (Op.bytesLess q.toList p.toList) = true then 1 else 0):=by
  unfold cmp_Compare_string.f cmp_isNaN_string.f
  simp only [bne_self_eq_false,Option.bind_some,Bool.false_eq_true,if_false]
  split
  · rfl
  · split <;> rfl
theorem cmp_loop (x y:List ByteArray) (hx:x.length ≤ 1099511627776) (d:Nat):∀ (k q i:Nat),x.length - i = d→i ≤ x.length→i ≤ y.length→d < k→2 * d + 2 < q →
    ∃ r,slices_Compare_string_string.l0 k x y x (x.length:Int) (i:Int) = some r∧creelref_PathOrder.l0 q x y (i:Int) = some r:=by
  induction d with
  | zero =>
    intro k q i hd hi hy hk hq
    obtain ⟨k,rfl⟩:∃ m,k = m + 1:=⟨k - 1,by omega⟩
    obtain ⟨q,rfl⟩:∃ m,q = m + 2:=⟨q - 2,by omega⟩
    have e:i = x.length:=by omega
    subst e
    simp only [slices_Compare_string_string.l0,creelref_PathOrder.l0,creelref_PathOrder.j1]
    rw [if_neg (show ¬ ((x.length:Int) < (x.length:Int)) by omega),if_neg (show ¬ ((x.length:Int) < (x.length:Int)) by omega),if_neg (show ¬ (false = true) by simp)]
    by_cases h:(x.length:Int) < (y.length:Int)
    · exact ⟨-1,by rw [if_pos h],by rw [if_pos h]⟩
    · exact ⟨0,by rw [if_neg h],by rw [if_neg h,if_neg (show ¬ (x.length:Int) > (y.length:Int) by omega)]⟩
  | succ d ih =>
    intro k q i hd hi hy hk hq
    obtain ⟨k,rfl⟩:∃ m,k = m + 1:=⟨k - 1,by omega⟩
    obtain ⟨q,rfl⟩:∃ m,q = m + 2:=⟨q - 2,by omega⟩
    have hlt:(i:Int) < (x.length:Int):=by omega
    simp only [slices_Compare_string_string.l0,creelref_PathOrder.l0,creelref_PathOrder.j1]
    rw [if_pos hlt,if_pos hlt,if_pos (show (0:Int) ≤ (i:Int) by omega),if_pos hlt,if_pos (show (0:Int) ≤ (i:Int) by omega),if_pos hlt]
    by_cases h:(i:Int) < (y.length:Int)
    · rw [if_neg (show ¬ (i:Int) ≥ (y.length:Int) by omega),if_pos h,cmp_is,decide_eq_true h,if_pos h,if_pos rfl]
      simp only [Option.bind_some]
      have hw:wrap64 ((i:Int) + 1) = ((i + 1:Nat):Int):=by rw [wrap_is (by omega) (by omega)];omega
      by_cases l1:(Op.bytesLess (rdOf ByteArray.empty x (i:Int)).toList (rdOf ByteArray.empty y (i:Int)).toList) = true
      · refine ⟨-1,?_,?_⟩
        · rw [if_pos l1,if_neg (by omega)]
        · rw [if_pos l1]
      · by_cases l2:(Op.bytesLess (rdOf ByteArray.empty y (i:Int)).toList (rdOf ByteArray.empty x (i:Int)).toList) = true
        · refine ⟨1,?_,?_⟩
          · rw [if_neg l1,if_pos l2,if_neg (by omega)]
          · rw [if_neg l1,if_pos l2]
        · obtain ⟨r,h1,h2⟩:=ih k q (i + 1) (by omega) (by omega) (by omega) (by omega) (by omega)
          rw [if_neg l1,if_neg l2,if_pos rfl,if_neg l1,if_neg l2,hw]
          exact ⟨r,h1,h2⟩
    · refine ⟨1,?_,?_⟩
      · rw [if_pos (show (i:Int) ≥ (y.length:Int) by omega)]
      · rw [decide_eq_false h,if_neg (show ¬ (false = true) by simp),if_neg (show ¬ (x.length:Int) < (y.length:Int) by omega),if_pos (show (x.length:Int) > (y.length:Int) by omega)]
def cmpL:List ByteArray→List ByteArray→Int
  | [],[]=>0
  | [],_ :: _=>-1
  | _ :: _,[]=>1
  | p :: x,q :: y=>if (Op.bytesLess p.toList q.toList) = true then -1 else if (Op.bytesLess q.toList p.toList) = true then 1 else cmpL x y
def prt (s:ByteArray):List ByteArray:=if s.toList = ([]:List UInt8) then [] else pp s
def cmpP (a b:ByteArray):Int:=cmpL (prt a) (prt b)
theorem drop_getD (x:List ByteArray) (i:Nat) (h:i < x.length):x.drop i = rdOf ByteArray.empty x (i:Int) :: x.drop (i + 1):=by
  rw [List.drop_eq_getElem_cons h]
  simp [rdOf,List.getD_eq_getElem?_getD,List.getElem?_eq_getElem h]
theorem slices_val (x y:List ByteArray) (hx:x.length ≤ 1099511627776) (d:Nat):∀ (k i:Nat),x.length - i = d→i ≤ x.length→i ≤ y.length→d < k →
    slices_Compare_string_string.l0 k x y x (x.length:Int) (i:Int) = some (cmpL (x.drop i) (y.drop i)):=by
  induction d with
  | zero =>
    intro k i hd hi hy hk
    obtain ⟨k,rfl⟩:∃ m,k = m + 1:=⟨k - 1,by omega⟩
    have e:i = x.length:=by omega
    subst e
    simp only [slices_Compare_string_string.l0]
    rw [if_neg (show ¬ ((x.length:Int) < (x.length:Int)) by omega),List.drop_length]
    by_cases h:(x.length:Int) < (y.length:Int)
    · rw [if_pos h,drop_getD y _ (by omega)]
      rfl
    · rw [if_neg h,List.drop_of_length_le (by omega)]
      rfl
  | succ d ih =>
    intro k i hd hi hy hk
    obtain ⟨k,rfl⟩:∃ m,k = m + 1:=⟨k - 1,by omega⟩
    have hlt:(i:Int) < (x.length:Int):=by omega
    simp only [slices_Compare_string_string.l0]
    rw [if_pos hlt,if_pos (show (0:Int) ≤ (i:Int) by omega),if_pos hlt,drop_getD x i (by omega)]
    by_cases h:(i:Int) < (y.length:Int)
    · have hw:wrap64 ((i:Int) + 1) = ((i + 1:Nat):Int):=by rw [wrap_is (by omega) (by omega)];omega
      rw [if_neg (show ¬ (i:Int) ≥ (y.length:Int) by omega),if_pos h,cmp_is,drop_getD y i (by omega)]
      simp only [Option.bind_some,cmpL]
      by_cases l1:(Op.bytesLess (rdOf ByteArray.empty x (i:Int)).toList (rdOf ByteArray.empty y (i:Int)).toList) = true
      · rw [if_pos l1,if_neg (by omega)]
        rw [if_pos l1]
      · by_cases l2:(Op.bytesLess (rdOf ByteArray.empty y (i:Int)).toList (rdOf ByteArray.empty x (i:Int)).toList) = true
        · rw [if_neg l1,if_pos l2,if_neg (by omega),if_neg l1,if_pos l2]
        · rw [if_neg l1,if_neg l2,if_pos rfl,if_neg l1,if_neg l2,hw]
          exact ih k (i + 1) (by omega) (by omega) (by omega) (by omega)
    · rw [if_pos (show (i:Int) ≥ (y.length:Int) by omega),List.drop_of_length_le (show y.length ≤ i by omega)]
      rfl
theorem prt_is (s:ByteArray) (hs:s.size ≤ 1048576) (k:Nat) (hk:s.size < k):(prt s).length ≤ s.size + 1∧path_Parts.f s = some (prt s)∧creelref_PathParts.f k s = some (prt s):=by
  unfold path_Parts.f creelref_PathParts.f prt
  by_cases h0:s.toList = ([]:List UInt8)
  · rw [if_pos h0,if_pos h0,if_pos h0]
    exact ⟨by simp,rfl,rfl⟩
  · rw [if_neg h0,if_neg h0,if_neg h0,split_is s (by omega),parts_is s k (by omega) hk]
    exact ⟨pp_len s,rfl,rfl⟩
theorem cmp_both (a b:ByteArray) (ha:a.size ≤ 1048576) (hb:b.size ≤ 1048576) (k:Nat) (hk:2 * a.size + b.size + 10 ≤ k):path_Compare.f k a b = some (cmpP a b)∧creelref_PathOrder.f k a b = some (cmpP a b):=by
  obtain ⟨hx,x1,x2⟩:=prt_is a ha k (by omega)
  obtain ⟨hy,y1,y2⟩:=prt_is b hb k (by omega)
  have v:=slices_val (prt a) (prt b) (by omega) (prt a).length k 0 (by omega) (by omega) (by omega) (by omega)
  obtain ⟨r,r1,r2⟩:=cmp_loop (prt a) (prt b) (by omega) (prt a).length k k 0 (by omega) (by omega) (by omega) (by omega) (by omega)
  have e:r = cmpP a b:=by
    rw [v] at r1
    simp only [List.drop_zero,Option.some.injEq] at r1
    exact r1.symm
  subst e
  constructor
  · unfold path_Compare.f slices_Compare_string_string.f
    rw [x1,y1]
    simp only [Option.bind_some]
    rw [show slices_Compare_string_string.l0 k (prt a) (prt b) (prt a) ((prt a).length:Int) 0 = some (cmpP a b) from r1]
    rfl
  · unfold creelref_PathOrder.f
    rw [x2,y2]
    exact r2
theorem cmp_ev (a b:ByteArray) (ha:a.size ≤ 1048576) (hb:b.size ≤ 1048576):Ev (fun k=>path_Compare.f k a b) (cmpP a b)∧Ev (fun k=>creelref_PathOrder.f k a b) (cmpP a b) :=
  ⟨⟨_,fun k hk=>(cmp_both a b ha hb k hk).1⟩,⟨_,fun k hk=>(cmp_both a b ha hb k hk).2⟩⟩
theorem cmpL_01:∀ x y:List ByteArray,cmpL x y = -1 ∨ cmpL x y = 0 ∨ cmpL x y = 1
  | [],[]=>Or.inr (Or.inl rfl)
  | [],_ :: _=>Or.inl rfl
  | _ :: _,[]=>Or.inr (Or.inr rfl)
  | p :: x,q :: y=>by
    unfold cmpL
    split
    · exact Or.inl rfl
    · split
      · exact Or.inr (Or.inr rfl)
      · exact cmpL_01 x y
theorem cmpP_01 (a b:ByteArray):cmpP a b = -1 ∨ cmpP a b = 0 ∨ cmpP a b = 1:=cmpL_01 _ _
def upOf (s:ByteArray):ByteArray:=(path_Up.f s).getD (⟨#[]⟩:ByteArray)
theorem up_ev (s:ByteArray) (hs:s.size ≤ 1048576):path_Up.f s = some (upOf s)∧∃ b,Ev (fun k=>creelref_PathSplit.f k s) (upOf s,b):=by
  rcases up_only s (s.size + 3) hs (by omega) with ⟨e,h1,h2⟩|⟨i,hi,e,h1,h2⟩
  · have e1:upOf s = (⟨#[]⟩:ByteArray):=by unfold upOf;rw [h1];rfl
    refine ⟨by rw [e1,h1],s,s.size + 3,fun k hk=>?_⟩
    rcases up_only s k hs (by omega) with ⟨_,_,g2⟩|⟨j,hj,e',_,_⟩
    · rw [e1];exact g2
    · omega
  · have e1:upOf s = s.extract 0 i:=by unfold upOf;rw [h1];rfl
    refine ⟨by rw [e1,h1],s.extract (i + 1) s.size,s.size + 3,fun k hk=>?_⟩
    rcases up_only s k hs (by omega) with ⟨e',_,_⟩|⟨j,hj,e',_,g2⟩
    · omega
    · obtain rfl:i = j:=by omega
      rw [e1];exact g2
theorem less_irrefl (a:List UInt8):Op.bytesLess a a = false:=by
  have:=Go.Proofs.YtlfeijjilndljaaDoorW.Mine.bytesLess_swap a a
  cases h:Op.bytesLess a a with
  | false=>rfl
  | true=>rw [h] at this;simp at this
theorem less_total {a b:List UInt8} (h1:¬ Op.bytesLess a b = true) (h2:¬ Op.bytesLess b a = true):a = b:=by
  have:=Go.Proofs.YtlfeijjilndljaaDoorW.Mine.bytesLess_swap a b
  rw [Bool.eq_false_iff.mpr h1,Bool.eq_false_iff.mpr h2] at this
  simpa using this
theorem less_trans:∀ a b c:List UInt8,Op.bytesLess a b = true→Op.bytesLess b c = true→Op.bytesLess a c = true
  | [],[],_,h,_=>by simp [Op.bytesLess] at h
  | [],_ :: _,[],_,h=>by simp [Op.bytesLess] at h
  | [],_ :: _,_ :: _,_,_=>by simp [Op.bytesLess]
  | _ :: _,[],_,h,_=>by simp [Op.bytesLess] at h
  | _ :: _,_ :: _,[],_,h=>by simp [Op.bytesLess] at h
  | x :: a,y :: b,z :: c,h1,h2=>by
    simp only [Op.bytesLess,Bool.or_eq_true,Bool.and_eq_true,decide_eq_true_eq,beq_iff_eq] at h1 h2 ⊢
    rcases h1 with p|⟨rfl,p⟩
    · rcases h2 with q|⟨rfl,q⟩
      · exact Or.inl (by rw [UInt8.lt_iff_toNat_lt] at p q ⊢;omega)
      · exact Or.inl p
    · rcases h2 with q|⟨rfl,q⟩
      · exact Or.inl q
      · exact Or.inr ⟨rfl,less_trans a b c p q⟩
theorem cmpL_self:∀ x:List ByteArray,cmpL x x = 0
  | []=>rfl
  | p :: x=>by
    unfold cmpL
    rw [less_irrefl,if_neg (by decide),if_neg (by decide)]
    exact cmpL_self x
theorem cmpL_zero:∀ x y:List ByteArray,cmpL x y = 0→x = y
  | [],[],_=>rfl
  | [],_ :: _,h=>by simp [cmpL] at h
  | _ :: _,[],h=>by simp [cmpL] at h
  | p :: x,q :: y,h=>by
    unfold cmpL at h
    split at h
    · cases h
    · rename_i h1
      split at h
      · cases h
      · rename_i h2
        rw [cmpL_zero x y h,toList_inj (less_total h1 h2)]
theorem less_asymm {a b:List UInt8} (h:Op.bytesLess a b = true):¬ Op.bytesLess b a = true:=fun h2=>by
  have:=less_trans a b a h h2
  rw [less_irrefl] at this
  cases this
theorem cmpL_swap:∀ x y:List ByteArray,cmpL x y = - cmpL y x
  | [],[]=>rfl
  | [],_ :: _=>rfl
  | _ :: _,[]=>rfl
  | p :: x,q :: y=>by
    unfold cmpL
    by_cases h1:Op.bytesLess p.toList q.toList = true
    · rw [if_pos h1,if_neg (less_asymm h1),if_pos h1]
    · rw [if_neg h1]
      by_cases h2:Op.bytesLess q.toList p.toList = true
      · rw [if_pos h2,if_pos h2];rfl
      · rw [if_neg h2,if_neg h2,if_neg h1]
        exact cmpL_swap x y
theorem cmpL_trans:∀ x y z:List ByteArray,cmpL x y = -1→cmpL y z = -1→cmpL x z = -1
  | [],[],_,h,_=>by simp [cmpL] at h
  | [],_ :: _,[],_,h=>by simp [cmpL] at h
  | [],_ :: _,_ :: _,_,_=>rfl
  | _ :: _,[],_,h,_=>by simp [cmpL] at h
  | _ :: _,_ :: _,[],_,h=>by simp [cmpL] at h
  | p :: x,q :: y,r :: z,h1,h2=>by
    unfold cmpL at h1 h2 ⊢
    by_cases a:Op.bytesLess p.toList q.toList = true
    · by_cases b:Op.bytesLess q.toList r.toList = true
      · rw [if_pos (less_trans _ _ _ a b)]
      · rw [if_neg b] at h2
        split at h2
        · cases h2
        · rename_i c
          have e:=less_total b c
          rw [← e,if_pos a]
    · rw [if_neg a] at h1
      split at h1
      · cases h1
      · rename_i c
        have e:=less_total a c
        rw [e]
        by_cases b:Op.bytesLess q.toList r.toList = true
        · rw [if_pos b]
        · rw [if_neg b] at h2 ⊢
          split at h2
          · cases h2
          · rename_i d
            rw [if_neg d]
            exact cmpL_trans x y z h1 h2
theorem prt_inj {a b:ByteArray} (h:prt a = prt b):a = b:=by
  have key:∀ s:ByteArray,joinS ((prt s).map fun p=>p.data.toList) = s.data.toList:=fun s=>by
    unfold prt
    by_cases e:s.toList = ([]:List UInt8)
    · rw [if_pos e]
      rw [toList_data] at e
      rw [e];rfl
    · rw [if_neg e]
      unfold pp
      rw [List.map_map]
      have:((fun p:ByteArray=>p.data.toList) ∘ mk) = id:=by funext l;rfl
      rw [this,List.map_id,join_sp]
  apply ext_list
  rw [← key a,← key b,h]
theorem cmpP_self (a:ByteArray):cmpP a a = 0:=cmpL_self _
theorem cmpP_zero {a b:ByteArray} (h:cmpP a b = 0):a = b:=prt_inj (cmpL_zero _ _ h)
theorem cmpP_swap (a b:ByteArray):cmpP a b = - cmpP b a:=cmpL_swap _ _
theorem cmpP_trans {a b c:ByteArray} (h1:cmpP a b = -1) (h2:cmpP b c = -1):cmpP a c = -1:=cmpL_trans _ _ _ h1 h2
theorem cmpP_ne {a b:ByteArray} (h:cmpP a b = -1):a ≠ b:=fun e=>by rw [e,cmpP_self] at h;cases h
theorem rising {α:Type} (p:α→ByteArray) (g:Nat→α) (n:Nat) (h:∀ i,0 < i→i < n→cmpP (p (g (i - 1))) (p (g i)) = -1):∀ d i j,j = i + d + 1→j < n→cmpP (p (g i)) (p (g j)) = -1
  | 0,i,j,e,hj=>by
    subst e
    exact h (i + 0 + 1) (by omega) hj
  | d + 1,i,j,e,hj=>by
    have h1:=rising p g n h d i (j - 1) (by omega) (by omega)
    have h2:=h j (by omega) hj
    exact cmpP_trans h1 h2
abbrev Node:=S56
def nd (l:List Node) (i:Nat):Node:=l.getD i z56
theorem rd_nd (l:List Node) (i:Nat):rd_T56 l (i:Int) = nd l i:=by unfold rd_T56 nd;rw [Int.toNat_natCast]
theorem nd_mem (l:List Node) (i:Nat) (h:i < l.length):nd l i ∈ l:=by
  unfold nd
  rw [List.getD_eq_getElem?_getD,List.getElem?_eq_getElem h]
  exact List.getElem_mem h
theorem nd_get (l:List Node) (i:Nat) (h:i < l.length):l[i] = nd l i:=by
  unfold nd
  rw [List.getD_eq_getElem?_getD,List.getElem?_eq_getElem h]
  rfl
theorem take_nd (l:List Node) (n:Nat) (h:n < l.length):l.take (n + 1) = l.take n ++ [nd l n]:=by
  rw [List.take_succ_eq_append_getElem h,nd_get l n h]
def okN (x:Node):Prop:=x.f0.size ≤ 140737488351232∧x.f3.size ≤ 140737488351232∧x.f4.f3.size ≤ 140737488351232∧x.f4.f4.size ≤ 140737488351232∧(Lit.int .i64 x.f2).wf = true
def nodeX (x:Node):Int:=nodeR x.f0 x.f1 x.f2 x.f3 x.f4.f0 x.f4.f1 x.f4.f2 x.f4.f3 x.f4.f4 x.f4.f5 x.f4.f6 x.f5.length
theorem right_at (x:Node) (h:okN x):Ev (fun k=>tree_Check.right k x) (nodeX x):=right_ev x.f0 x.f1 x.f2 x.f3 x.f4.f0 x.f4.f1 x.f4.f2 x.f4.f3 x.f4.f4 x.f4.f5 x.f4.f6 x.f5 h.1
theorem refnode_at (x:Node) (h:okN x):Ev (fun k=>rTF.right k x) (nodeX x):=refnode_ev x.f0 x.f1 x.f2 x.f3 x.f4.f0 x.f4.f1 x.f4.f2 x.f4.f3 x.f4.f4 x.f4.f5 x.f4.f6 x.f5 h.1 h.2.1 h.2.2.1 h.2.2.2.1
theorem pathR_size (s:ByteArray) (h:pathR s = 0):1 ≤ s.size∧s.size ≤ 400:=by
  unfold pathR at h
  split at h
  · cases h
  · omega
theorem nodeX_path (x:Node) (h:nodeX x = 0):pathR x.f0 = 0:=by
  unfold nodeX nodeR at h
  split at h
  · assumption
  · contradiction
def alikeB (y x:Node):Bool:=rTF.meta y x && rTF.data y x
theorem alike_f (y x:Node):tree_Check.alike y x = some (alikeB y x):=by
  show (if rTF.meta y x = true then some (rTF.data y x) else some false) = some (alikeB y x)
  unfold alikeB
  by_cases h:rTF.meta y x = true
  · rw [if_pos h,h,Bool.true_and]
  · rw [if_neg h,Bool.eq_false_iff.mpr h,Bool.false_and]
def akey (y:Node):Int × Int × Int × List UInt8 × List UInt8 × Int × Int × List UInt8:=(y.f4.f0,y.f4.f1,y.f4.f2,y.f4.f3.toList,y.f4.f4.toList,y.f4.f5,y.f4.f6,(strOfNums y.f5).toList)
theorem alikeB_iff (y x:Node):alikeB y x = true ↔ akey y = akey x:=by
  unfold alikeB rTF.meta rTF.data akey
  simp only [Bool.and_eq_true,beq_iff_eq,Prod.mk.injEq]
  constructor
  · rintro ⟨⟨a,b,c,d,e,f,g⟩,h⟩;exact ⟨a,b,c,d,e,f,g,h⟩
  · rintro ⟨a,b,c,d,e,f,g,h⟩;exact ⟨⟨a,b,c,d,e,f,g⟩,h⟩
def isP (s:ByteArray) (y:Node):Bool:=decide (y.f0.toList = s.toList)
def findP (l:List Node) (s:ByteArray):Nat:=l.findIdx (isP s)
theorem findP_le (l:List Node) (s:ByteArray):findP l s ≤ l.length:=List.findIdx_le_length
theorem findP_at (l:List Node) (s:ByteArray) (i:Nat) (hi:i < l.length) (h:(nd l i).f0.toList = s.toList) (hb:∀ j,j < i→(nd l j).f0.toList ≠ s.toList):findP l s = i:=by
  unfold findP
  rw [List.findIdx_eq hi]
  refine ⟨by rw [nd_get l i hi];exact decide_eq_true h,fun j hj=>?_⟩
  rw [nd_get l j (by omega)]
  exact decide_eq_false (hb j hj)
theorem findP_no (l:List Node) (s:ByteArray) (hb:∀ j,j < l.length→(nd l j).f0.toList ≠ s.toList):findP l s = l.length:=by
  unfold findP
  rw [List.findIdx_eq_length]
  intro y hy
  obtain ⟨j,hj,rfl⟩:=List.getElem_of_mem hy
  rw [nd_get l j hj]
  exact decide_eq_false (hb j hj)
theorem find_loop (l:List Node) (s:ByteArray) (hl:l.length ≤ 1099511627776) (d:Nat):∀ (k i:Nat),l.length - i = d→i ≤ l.length→d < k→(∀ j,j < i→(nd l j).f0.toList ≠ s.toList) →
    tree_Find.l0 k l s (i:Int) = some (if findP l s < l.length then (findP l s:Int) else -1)∧creelref_TreeFind.l0 k l s (i:Int) = some (findP l s:Int):=by
  induction d with
  | zero =>
    intro k i hd hi hk hb
    obtain ⟨k,rfl⟩:∃ m,k = m + 1:=⟨k - 1,by omega⟩
    have e:i = l.length:=by omega
    subst e
    have hf:=findP_no l s hb
    simp only [tree_Find.l0,creelref_TreeFind.l0]
    rw [if_neg (by omega),if_neg (by omega),if_neg (by omega),hf]
    exact ⟨rfl,rfl⟩
  | succ d ih =>
    intro k i hd hi hk hb
    obtain ⟨k,rfl⟩:∃ m,k = m + 1:=⟨k - 1,by omega⟩
    have hlt:(i:Int) < (l.length:Int):=by omega
    have hw:wrap64 ((i:Int) + 1) = ((i + 1:Nat):Int):=by rw [wrap_is (by omega) (by omega)];omega
    simp only [tree_Find.l0,creelref_TreeFind.l0]
    rw [if_pos hlt,if_pos hlt,if_pos (show (0:Int) ≤ (i:Int) by omega),if_pos (show (0:Int) ≤ (i:Int) by omega),rd_nd]
    by_cases h:(nd l i).f0.toList = s.toList
    · have hf:=findP_at l s i (by omega) h hb
      rw [if_pos h,if_pos h,hf,if_pos (by omega)]
      exact ⟨rfl,rfl⟩
    · rw [if_neg h,if_neg h,hw]
      refine ih k (i + 1) (by omega) (by omega) (by omega) (fun j hj=>?_)
      by_cases e:j = i
      · subst e;exact h
      · exact hb j (by omega)
def findR (l:List Node) (s:ByteArray):Int × Int:=if findP l s < l.length then ((findP l s:Int),0) else (0,5)
theorem find_both (l:List Node) (s:ByteArray) (hl:l.length ≤ 1099511627776) (k:Nat) (hk:l.length < k):tree_Find.f k l s = some (findR l s)∧creelref_TreeFind.f k l s = some (findP l s:Int):=by
  obtain ⟨h1,h2⟩:=find_loop l s hl l.length k 0 (by omega) (by omega) hk (fun j hj=>absurd hj (Nat.not_lt_zero j))
  refine ⟨?_,h2⟩
  unfold tree_Find.f
  rw [show tree_Find.l0 k l s 0 = _ from h1]
  simp only [Option.bind_some]
  unfold findR
  by_cases h:findP l s < l.length
  · rw [if_pos h,if_pos h,if_neg (by omega)]
  · rw [if_neg h,if_neg h,if_pos (by decide)]
def twoR (l:List Node) (n:Nat) (x:Node):Bool:=if 0 < n then decide (0 ≤ cmpP (nd l (n - 1)).f0 x.f0) else false
def upR (l:List Node) (n:Nat) (x:Node):Bool:=if (upOf x.f0).toList = ([]:List UInt8) then false else if findP (l.take n) (upOf x.f0) < n then ((nd l (findP (l.take n) (upOf x.f0))).f1 != 2) else true
def sameR (l:List Node) (n:Nat) (x:Node):Bool:=if x.f2 = 0 then false else (l.take n).any fun y=>decide (y.f2 = x.f2) && !alikeB y x
def stepR (l:List Node) (n:Nat) (x:Node):Int:=if nodeX x = 0 then (if twoR l n x = true then 6 else if upR l n x = true then 10 else if sameR l n x = true then 11 else 0) else nodeX x
def treeFrom (l:List Node):Nat→Nat→Int
  | 0,_=>0
  | d + 1,n=>if stepR l n (nd l n) = 0 then treeFrom l d (n + 1) else stepR l n (nd l n)
def treeR (l:List Node):Int:=if 40 < l.length then 1 else treeFrom l l.length 0
theorem ref_l1 (l:List Node) (x:Node) (n:Nat) (hn:n ≤ l.length) (d:Nat):∀ j,n - j = d→j ≤ n→Ev (fun k=>rTF.l1 k l x n j) (if ((l.take n).drop j).any (fun y=>decide (y.f2 = x.f2) && !alikeB y x) = true then 11 else 0):=by
  induction d with
  | zero =>
    intro j hd hj
    have e:j = n:=by omega
    subst e
    refine Ev.step (f:=fun _=>some 0) (fun k=>by simp only [rTF.l1];rw [if_neg (by omega)]) ?_
    rw [List.drop_of_length_le (by simp;omega)]
    exact Ev.now 0
  | succ d ih =>
    intro j hd hj
    have hdrop:(l.take n).drop j = nd l j :: (l.take n).drop (j + 1):=by
      rw [List.drop_eq_getElem_cons (by simp;omega),List.getElem_take,nd_get]
    have hih:=ih (j + 1) (by omega) (by omega)
    rw [hdrop,List.any_cons]
    by_cases h1:(nd l j).f2 = x.f2
    · by_cases h2:alikeB (nd l j) x = true
      · have e:(decide ((nd l j).f2 = x.f2) && !alikeB (nd l j) x) = false:=by rw [h2];simp
        rw [e,Bool.false_or]
        have h2':=h2
        unfold alikeB at h2'
        rw [Bool.and_eq_true] at h2'
        refine Ev.step (f:=fun k=>rTF.l1 k l x n (j + 1)) (fun k=>?_) hih
        simp only [rTF.l1]
        rw [if_pos (by omega),rd_nd,if_pos h1,if_pos h2'.1,if_pos h2'.2]
      · have e:(decide ((nd l j).f2 = x.f2) && !alikeB (nd l j) x) = true:=by rw [Bool.eq_false_iff.mpr h2];simp [h1]
        rw [e,Bool.true_or,if_pos rfl]
        refine Ev.step (f:=fun _=>some 11) (fun k=>?_) (Ev.now 11)
        simp only [rTF.l1]
        rw [if_pos (by omega),rd_nd,if_pos h1]
        by_cases h3:rTF.meta (nd l j) x = true
        · have h4:¬ rTF.data (nd l j) x = true:=fun h4=>h2 (by unfold alikeB;rw [h3,h4];rfl)
          rw [if_pos h3,if_neg h4]
        · rw [if_neg h3]
    · have e:(decide ((nd l j).f2 = x.f2) && !alikeB (nd l j) x) = false:=by rw [decide_eq_false h1];rfl
      rw [e,Bool.false_or]
      refine Ev.step (f:=fun k=>rTF.l1 k l x n (j + 1)) (fun k=>?_) hih
      simp only [rTF.l1]
      rw [if_pos (by omega),rd_nd,if_neg h1]
theorem size_le (l:List Node) {n:Nat} (hn:∀ j,j < n→nodeX (nd l j) = 0) (i:Nat) (hi:i < n):(nd l i).f0.size ≤ 1048576:=by
  have:=pathR_size _ (nodeX_path _ (hn i hi))
  omega
theorem two_ref (l:List Node) (x:Node) (n:Nat) (hx:x.f0.size ≤ 1048576) (hb:∀ j,j < n→nodeX (nd l j) = 0):Ev (fun k=>rTF.two k l x n) (twoR l n x)∧Ev (fun k=>tree_Check.two k l x n) (twoR l n x):=by
  unfold twoR rTF.two tree_Check.two
  by_cases h:0 < n
  · simp only [if_pos h,rd_nd]
    obtain ⟨h1,h2⟩:=cmp_ev (nd l (n - 1)).f0 x.f0 (size_le l hb (n - 1) (by omega)) hx
    constructor
    · refine Ev.bind h2 (Ev.const ?_)
      congr 1
      rcases cmpP_01 (nd l (n - 1)).f0 x.f0 with e|e|e <;> rw [e] <;> decide
    · exact Ev.bind h1 (Ev.const rfl)
  · simp only [if_neg h]
    exact ⟨Ev.now _,Ev.now _⟩
theorem up_both (l:List Node) (x:Node) (n:Nat) (hx:x.f0.size ≤ 1048576) (hn:n ≤ l.length) (hl:l.length ≤ 40):Ev (fun k=>rTF.up k l x n) (upR l n x)∧Ev (fun k=>tree_Check.up k l x n) (upR l n x):=by
  obtain ⟨h1,b,h2⟩:=up_ev x.f0 hx
  have hlen:(l.take n).length = n:=by simp;omega
  have f1:Ev (fun k=>tree_Find.f k (l.take n) (upOf x.f0)) (findR (l.take n) (upOf x.f0)):=⟨50,fun k hk=>(find_both (l.take n) (upOf x.f0) (by omega) k (by omega)).1⟩
  have f2:Ev (fun k=>creelref_TreeFind.f k (l.take n) (upOf x.f0)) (findP (l.take n) (upOf x.f0):Int):=⟨50,fun k hk=>(find_both (l.take n) (upOf x.f0) (by omega) k (by omega)).2⟩
  have hle:=findP_le (l.take n) (upOf x.f0)
  rw [hlen] at hle
  constructor
  · unfold rTF.up
    refine Ev.bind h2 (Ev.bind f2 ?_)
    by_cases e:(upOf x.f0).toList = ([]:List UInt8)
    · rw [show upR l n x = false by unfold upR;rw [if_pos e]]
      exact Ev.ifp e (Ev.now _)
    · refine Ev.ifn e ?_
      by_cases g:findP (l.take n) (upOf x.f0) < n
      · rw [show upR l n x = ((nd l (findP (l.take n) (upOf x.f0))).f1 != 2) by unfold upR;rw [if_neg e,if_pos g]]
        refine Ev.ifn (by omega) (Ev.ifp (by omega) (Ev.const ?_))
        rw [rd_nd]
      · rw [show upR l n x = true by unfold upR;rw [if_neg e,if_neg g]]
        exact Ev.ifp (by omega) (Ev.now _)
  · unfold tree_Check.up
    refine Ev.bind (Ev.const h1) ?_
    by_cases e:(upOf x.f0).toList = ([]:List UInt8)
    · rw [show upR l n x = false by unfold upR;rw [if_pos e]]
      exact Ev.ifp e (Ev.now _)
    · refine Ev.ifn e (Ev.bind f1 ?_)
      by_cases g:findP (l.take n) (upOf x.f0) < n
      · rw [show upR l n x = ((nd l (findP (l.take n) (upOf x.f0))).f1 != 2) by unfold upR;rw [if_neg e,if_pos g]]
        have hr:findR (l.take n) (upOf x.f0) = ((findP (l.take n) (upOf x.f0):Int),0):=by unfold findR;rw [hlen,if_pos g]
        rw [hr]
        refine Ev.ifp rfl (Ev.ifp (show 0 ≤ (findP (l.take n) (upOf x.f0):Int)∧(findP (l.take n) (upOf x.f0):Int) < (l.length:Int) by omega) (Ev.const ?_))
        show some ((rd_T56 l (findP (l.take n) (upOf x.f0):Int)).f1 != 2) = _
        rw [rd_nd]
      · rw [show upR l n x = true by unfold upR;rw [if_neg e,if_neg g]]
        have hr:findR (l.take n) (upOf x.f0) = (0,5):=by unfold findR;rw [hlen,if_neg g]
        rw [hr]
        exact Ev.ifn (by decide) (Ev.now _)
theorem ref_step (l:List Node) (n:Nat) (hl:l.length ≤ 40) (hn:n < l.length) (hg:∀ y ∈ l,okN y) (hb:∀ j,j < n→nodeX (nd l j) = 0):Ev (fun k=>rTF.step k l (nd l n) n) (stepR l n (nd l n)):=by
  unfold rTF.step stepR
  refine Ev.bind (refnode_at _ (hg _ (nd_mem l n hn))) ?_
  by_cases h:nodeX (nd l n) = 0
  · rw [if_pos h]
    have hx:(nd l n).f0.size ≤ 1048576:=by have:=pathR_size _ (nodeX_path _ h);omega
    refine Ev.ifp h (Ev.bind (two_ref l _ n hx hb).1 ?_)
    by_cases h1:twoR l n (nd l n) = true
    · rw [if_pos h1];exact Ev.ifp h1 (Ev.now _)
    · rw [if_neg h1]
      refine Ev.ifn h1 (Ev.bind (up_both l _ n hx (by omega) hl).1 ?_)
      by_cases h2:upR l n (nd l n) = true
      · rw [if_pos h2];exact Ev.ifp h2 (Ev.now _)
      · rw [if_neg h2]
        refine Ev.ifn h2 ?_
        unfold sameR
        by_cases h3:(nd l n).f2 = 0
        · rw [if_pos h3]
          exact Ev.ifp h3 (Ev.now _)
        · rw [if_neg h3]
          exact Ev.ifn h3 (ref_l1 l (nd l n) n (by omega) n 0 (by omega) (by omega))
  · rw [if_neg h]
    exact Ev.ifn h (Ev.now _)
theorem step_zero (l:List Node) (n:Nat) (x:Node) (h:stepR l n x = 0):nodeX x = 0∧twoR l n x = false∧upR l n x = false∧sameR l n x = false:=by
  unfold stepR at h
  split at h
  · rename_i h0
    split at h
    · cases h
    · rename_i h1
      split at h
      · cases h
      · rename_i h2
        split at h
        · cases h
        · rename_i h3
          exact ⟨h0,Bool.eq_false_iff.mpr h1,Bool.eq_false_iff.mpr h2,Bool.eq_false_iff.mpr h3⟩
  · contradiction
theorem ref_from (l:List Node) (hl:l.length ≤ 40) (hg:∀ y ∈ l,okN y) (d:Nat):∀ n,n + d = l.length→(∀ j,j < n→nodeX (nd l j) = 0)→Ev (fun k=>rTF.l0 k l n) (treeFrom l d n):=by
  induction d with
  | zero =>
    intro n hd hb
    exact Ev.step (f:=fun _=>some 0) (fun k=>by simp only [rTF.l0];rw [if_neg (by omega)]) (Ev.now 0)
  | succ d ih =>
    intro n hd hb
    refine Ev.step (f:=fun k=>(rTF.step k l (nd l n) n).bind fun e=>if e = 0 then rTF.l0 k l (n + 1) else some e) (fun k=>by simp only [rTF.l0];rw [if_pos (by omega),rd_nd]) ?_
    refine Ev.bind (ref_step l n hl (by omega) hg hb) ?_
    unfold treeFrom
    by_cases h:stepR l n (nd l n) = 0
    · rw [if_pos h]
      refine Ev.ifp h (ih (n + 1) (by omega) (fun j hj=>?_))
      by_cases e:j = n
      · subst e;exact (step_zero l _ _ h).1
      · exact hb j (by omega)
    · rw [if_neg h]
      exact Ev.ifn h (Ev.now _)
theorem ref_tree (l:List Node) (hg:∀ y ∈ l,okN y):Ev (fun k=>rTF.f k l) (treeR l):=by
  unfold rTF.f treeR
  by_cases h:40 < l.length
  · rw [if_pos h];exact Ev.ifp h (Ev.now _)
  · rw [if_neg h]
    exact Ev.ifn h (ref_from l (by omega) hg l.length 0 (by omega) (fun j hj=>absurd hj (Nat.not_lt_zero j)))
def MapRel (l:List Node) (n:Nat) (m:List (Int × Node)):Prop:=∀ s,s ≠ 0→Go.Proofs.YtlfeijjilndljaaDoorW.MapOwn.get m s = (l.take n).find? (fun y=>decide (y.f2 = s))
def AllAlike (l:List Node) (n:Nat):Prop:=∀ y ∈ l.take n,∀ z ∈ l.take n,y.f2 = z.f2→y.f2 ≠ 0→akey y = akey z
theorem same_is (l:List Node) (n:Nat) (hn:n < l.length) (m:List (Int × Node)) (hm:MapRel l n m) (ha:AllAlike l n) (hw:(Lit.int .i64 (nd l n).f2).wf = true) :
    ∃ r,tree_Check.same m (nd l n) = some (if sameR l n (nd l n) = true then 11 else 0,r)∧(sameR l n (nd l n) = false→MapRel l (n + 1) r∧AllAlike l (n + 1)):=by
  have htk:=take_nd l n hn
  have keep:∀ (r:List (Int × Node)),(∀ s,s ≠ 0→s ≠ (nd l n).f2→Go.Proofs.YtlfeijjilndljaaDoorW.MapOwn.get r s = (l.take n).find? (fun y=>decide (y.f2 = s)))→((nd l n).f2 ≠ 0→Go.Proofs.YtlfeijjilndljaaDoorW.MapOwn.get r (nd l n).f2 = (l.take (n + 1)).find? (fun y=>decide (y.f2 = (nd l n).f2)))→MapRel l (n + 1) r:=by
    intro r h1 h2 s hs
    by_cases e:s = (nd l n).f2
    · subst e;exact h2 hs
    · rw [h1 s hs e,htk,List.find?_append]
      have:[nd l n].find? (fun y=>decide (y.f2 = s)) = none:=by simp [Ne.symm e]
      rw [this,Option.or_none]
  unfold tree_Check.same sameR
  by_cases h0:(nd l n).f2 = 0
  · rw [if_pos h0,if_pos h0]
    refine ⟨m,rfl,fun _=>⟨keep m (fun s hs _=>hm s hs) (fun h=>absurd h0 h),?_⟩⟩
    intro y hy z hz e he
    rw [htk,List.mem_append,List.mem_singleton] at hy hz
    rcases hy with hy|rfl
    · rcases hz with hz|rfl
      · exact ha y hy z hz e he
      · exact absurd (e.trans h0) he
    · exact absurd h0 he
  · rw [if_neg h0,if_neg h0,if_pos hw,hm _ h0]
    cases hf:(l.take n).find? (fun y=>decide (y.f2 = (nd l n).f2)) with
    | none =>
      have hno:∀ y ∈ l.take n,y.f2 ≠ (nd l n).f2:=fun y hy e=>by
        have:=List.find?_eq_none.1 hf y hy
        exact this (decide_eq_true e)
      have hany:((l.take n).any fun y=>decide (y.f2 = (nd l n).f2) && !alikeB y (nd l n)) = false:=by
        rw [List.any_eq_false]
        intro y hy
        rw [decide_eq_false (hno y hy)]
        simp
      rw [hany]
      refine ⟨_,rfl,fun _=>⟨keep _ (fun s hs e=>?_) (fun _=>?_),?_⟩⟩
      · rw [Go.Proofs.YtlfeijjilndljaaDoorW.MapOwn.get_other _ _ (Ne.symm e)];exact hm s hs
      · rw [Go.Proofs.YtlfeijjilndljaaDoorW.MapOwn.get_same,htk,List.find?_append,hf]
        simp
      · intro y hy z hz e he
        rw [htk,List.mem_append,List.mem_singleton] at hy hz
        rcases hy with hy|rfl
        · rcases hz with hz|rfl
          · exact ha y hy z hz e he
          · exact absurd e (hno y hy)
        · rcases hz with hz|rfl
          · exact absurd e.symm (hno z hz)
          · rfl
    | some y0 =>
      have hy0:=List.mem_of_find?_eq_some hf
      have hs0:y0.f2 = (nd l n).f2:=by simpa using List.find?_some hf
      simp only [alike_f,Option.bind_some]
      cases hal:alikeB y0 (nd l n) with
      | true =>
        have hk:=(alikeB_iff _ _).1 hal
        have hany:((l.take n).any fun y=>decide (y.f2 = (nd l n).f2) && !alikeB y (nd l n)) = false:=by
          rw [List.any_eq_false]
          intro y hy
          by_cases e:y.f2 = (nd l n).f2
          · have:alikeB y (nd l n) = true:=(alikeB_iff _ _).2 ((ha y hy y0 hy0 (e.trans hs0.symm) (by rw [e];exact h0)).trans hk)
            rw [this];simp
          · rw [decide_eq_false e];simp
        rw [hany,if_pos rfl]
        refine ⟨m,rfl,fun _=>⟨keep m (fun s hs _=>hm s hs) (fun _=>?_),?_⟩⟩
        · rw [hm _ h0,htk,List.find?_append,hf];rfl
        · intro y hy z hz e he
          rw [htk,List.mem_append,List.mem_singleton] at hy hz
          rcases hy with hy|rfl
          · rcases hz with hz|rfl
            · exact ha y hy z hz e he
            · exact (ha y hy y0 hy0 (e.trans hs0.symm) he).trans hk
          · rcases hz with hz|rfl
            · exact ((ha z hz y0 hy0 (e.symm.trans hs0.symm) (by rw [← e];exact he)).trans hk).symm
            · rfl
      | false =>
        have hany:((l.take n).any fun y=>decide (y.f2 = (nd l n).f2) && !alikeB y (nd l n)) = true:=by
          rw [List.any_eq_true]
          exact ⟨y0,hy0,by rw [hal,decide_eq_true hs0];rfl⟩
        rw [hany,if_neg (by decide)]
        exact ⟨m,rfl,fun h=>absurd h (by decide)⟩
theorem prog_step (l:List Node) (n:Nat) (m:List (Int × Node)) (hl:l.length ≤ 40) (hn:n < l.length) (hg:∀ y ∈ l,okN y) (hb:∀ j,j < n→nodeX (nd l j) = 0) (hm:MapRel l n m) (ha:AllAlike l n) :
    ∃ r,Ev (fun k=>tree_Check.step k l m (nd l n) n) (stepR l n (nd l n),r)∧(stepR l n (nd l n) = 0→MapRel l (n + 1) r∧AllAlike l (n + 1)):=by
  obtain ⟨r,hr,hk⟩:=same_is l n hn m hm ha (hg _ (nd_mem l n hn)).2.2.2.2
  unfold tree_Check.step stepR
  by_cases h:nodeX (nd l n) = 0
  · have hx:(nd l n).f0.size ≤ 1048576:=by have:=pathR_size _ (nodeX_path _ h);omega
    simp only [if_pos h]
    by_cases h1:twoR l n (nd l n) = true
    · simp only [if_pos h1]
      exact ⟨m,Ev.bind (right_at _ (hg _ (nd_mem l n hn))) (Ev.ifp h (Ev.bind (two_ref l _ n hx hb).2 (Ev.ifp h1 (Ev.now _)))),fun e=>absurd e (by decide)⟩
    · simp only [if_neg h1]
      by_cases h2:upR l n (nd l n) = true
      · simp only [if_pos h2]
        exact ⟨m,Ev.bind (right_at _ (hg _ (nd_mem l n hn))) (Ev.ifp h (Ev.bind (two_ref l _ n hx hb).2 (Ev.ifn h1 (Ev.bind (up_both l _ n hx (by omega) hl).2 (Ev.ifp h2 (Ev.now _)))))),fun e=>absurd e (by decide)⟩
      · simp only [if_neg h2]
        refine ⟨r,Ev.bind (right_at _ (hg _ (nd_mem l n hn))) (Ev.ifp h (Ev.bind (two_ref l _ n hx hb).2 (Ev.ifn h1 (Ev.bind (up_both l _ n hx (by omega) hl).2 (Ev.ifn h2 (Ev.const hr)))))),fun e=>?_⟩
        cases hs:sameR l n (nd l n) with
        | true=>rw [hs] at e;exact absurd e (by decide)
        | false=>exact hk hs
  · simp only [if_neg h]
    exact ⟨m,Ev.bind (right_at _ (hg _ (nd_mem l n hn))) (Ev.ifn h (Ev.now _)),fun e=>absurd e h⟩
theorem prog_from (l:List Node) (hl:l.length ≤ 40) (hg:∀ y ∈ l,okN y) (d:Nat):∀ n m,n + d = l.length→(∀ j,j < n→nodeX (nd l j) = 0)→MapRel l n m→AllAlike l n→Ev (fun k=>tree_Check.l0 k l m n) (treeFrom l d n):=by
  induction d with
  | zero =>
    intro n m hd hb hm ha
    exact Ev.step (f:=fun _=>some 0) (fun k=>by simp only [tree_Check.l0];rw [if_neg (by omega)]) (Ev.now 0)
  | succ d ih =>
    intro n m hd hb hm ha
    obtain ⟨r,hr,hk⟩:=prog_step l n m hl (by omega) hg hb hm ha
    refine Ev.step (f:=fun k=>(tree_Check.step k l m (nd l n) n).bind fun r=>if r.1 = 0 then tree_Check.l0 k l r.2 (n + 1) else some r.1) (fun k=>by simp only [tree_Check.l0];rw [if_pos (by omega),rd_nd]) ?_
    refine Ev.bind hr ?_
    unfold treeFrom
    by_cases h:stepR l n (nd l n) = 0
    · rw [if_pos h]
      refine Ev.ifp h (ih (n + 1) r (by omega) (fun j hj=>?_) (hk h).1 (hk h).2)
      by_cases e:j = n
      · subst e;exact (step_zero l _ _ h).1
      · exact hb j (by omega)
    · rw [if_neg h]
      exact Ev.ifn h (Ev.now _)
theorem prog_tree (l:List Node) (hg:∀ y ∈ l,okN y):Ev (fun k=>tree_Check.f k l) (treeR l):=by
  unfold tree_Check.f treeR
  by_cases h:40 < l.length
  · rw [if_pos h];exact Ev.ifp h (Ev.now _)
  · rw [if_neg h]
    exact Ev.ifn h (prog_from l (by omega) hg l.length 0 [] (by omega) (fun j hj=>absurd hj (Nat.not_lt_zero j)) (fun s _=>rfl) (fun y hy=>absurd hy (by simp)))
theorem treeFrom_zero (l:List Node):∀ d n,treeFrom l d n = 0→∀ j,n ≤ j→j < n + d→stepR l j (nd l j) = 0
  | 0,n,_,j,h1,h2=>by omega
  | d + 1,n,h,j,h1,h2=>by
    unfold treeFrom at h
    by_cases h0:stepR l n (nd l n) = 0
    · rw [if_pos h0] at h
      by_cases e:j = n
      · subst e;exact h0
      · exact treeFrom_zero l d (n + 1) h j (by omega) (by omega)
    · rw [if_neg h0] at h
      exact absurd h h0
theorem tree_zero (l:List Node) (h:treeR l = 0):l.length ≤ 40∧∀ j,j < l.length→stepR l j (nd l j) = 0:=by
  unfold treeR at h
  by_cases h0:40 < l.length
  · rw [if_pos h0] at h;cases h
  · rw [if_neg h0] at h
    exact ⟨by omega,fun j hj=>treeFrom_zero l l.length 0 h j (by omega) (by omega)⟩
structure TreeOk (l:List Node):Prop where
  len:l.length ≤ 40
  node:∀ y ∈ l,nodeX y = 0
  ord:l.Pairwise (fun a b=>cmpP a.f0 b.f0 = -1)
  same:l.Pairwise (fun a b=>b.f2 ≠ 0→a.f2 = b.f2→alikeB a b = true)
  up:∀ y ∈ l,(upOf y.f0).toList ≠ []→∃ z ∈ l,z.f0 = upOf y.f0∧z.f1 = 2∧cmpP z.f0 y.f0 = -1
theorem pair_nd (l:List Node) (R:Node→Node→Prop):l.Pairwise R ↔ ∀ i j,i < j→j < l.length→R (nd l i) (nd l j):=by
  rw [List.pairwise_iff_getElem]
  constructor
  · intro h i j hij hj
    have:=h i j (by omega) hj hij
    rw [nd_get,nd_get] at this
    exact this
  · intro h i j hi hj hij
    rw [nd_get,nd_get]
    exact h i j hij hj
theorem mem_nd {l:List Node} {y:Node} (h:y ∈ l):∃ i,i < l.length∧nd l i = y:=by
  obtain ⟨i,hi,e⟩:=List.mem_iff_getElem.1 h
  exact ⟨i,hi,by rw [← nd_get l i hi];exact e⟩
theorem find_lt (l:List Node) (s:ByteArray):findP l s < l.length ↔ ∃ y ∈ l,y.f0.toList = s.toList:=by
  unfold findP
  rw [List.findIdx_lt_length]
  constructor
  · rintro ⟨y,h1,h2⟩;exact ⟨y,h1,of_decide_eq_true h2⟩
  · rintro ⟨y,h1,h2⟩;exact ⟨y,h1,decide_eq_true h2⟩
theorem find_is (l:List Node) (s:ByteArray) (h:findP l s < l.length):(nd l (findP l s)).f0.toList = s.toList:=by
  have h1:isP s (l[findP l s]'h) = true:=List.findIdx_getElem (p:=isP s) (xs:=l) (w:=h)
  rw [nd_get l _ h] at h1
  exact of_decide_eq_true h1
theorem take_len (l:List Node) (n:Nat) (h:n ≤ l.length):(l.take n).length = n:=by rw [List.length_take];omega
theorem nd_take (l:List Node) (n i:Nat) (h:i < n):nd (l.take n) i = nd l i:=by
  unfold nd
  rw [List.getD_eq_getElem?_getD,List.getElem?_take,if_pos h,← List.getD_eq_getElem?_getD]
theorem mem_take_nd {l:List Node} {n:Nat} {y:Node} (hn:n ≤ l.length) (h:y ∈ l.take n):∃ i,i < n∧nd l i = y:=by
  obtain ⟨i,hi,e⟩:=mem_nd h
  rw [take_len l n hn] at hi
  exact ⟨i,hi,by rw [nd_take l n i hi] at e;exact e⟩
theorem nd_mem_take {l:List Node} {n i:Nat} (hn:n ≤ l.length) (h:i < n):nd l i ∈ l.take n:=by
  rw [← nd_take l n i h]
  exact nd_mem _ i (by rw [take_len l n hn];exact h)
theorem treeFrom_of (l:List Node):∀ d n,(∀ j,n ≤ j→j < n + d→stepR l j (nd l j) = 0)→treeFrom l d n = 0
  | 0,_,_=>rfl
  | d + 1,n,h=>by
    unfold treeFrom
    rw [if_pos (h n (Nat.le_refl _) (by omega))]
    exact treeFrom_of l d (n + 1) (fun j a b=>h j (by omega) (by omega))
theorem order_eq {l:List Node} (h:l.Pairwise (fun a b=>cmpP a.f0 b.f0 = -1)) {y z:Node} (hy:y ∈ l) (hz:z ∈ l) (e:y.f0 = z.f0):y = z:=by
  obtain ⟨i,hi,rfl⟩:=mem_nd hy
  obtain ⟨j,hj,rfl⟩:=mem_nd hz
  rw [pair_nd] at h
  rcases Nat.lt_trichotomy i j with h1|h1|h1
  · have:=h i j h1 hj;rw [e,cmpP_self] at this;cases this
  · rw [h1]
  · have:=h j i h1 hi;rw [e,cmpP_self] at this;cases this
theorem order_lt {l:List Node} (h:l.Pairwise (fun a b=>cmpP a.f0 b.f0 = -1)) (i j:Nat) (hi:i < l.length) (hj:j < l.length) (e:cmpP (nd l i).f0 (nd l j).f0 = -1):i < j:=by
  rw [pair_nd] at h
  rcases Nat.lt_trichotomy i j with h1|h1|h1
  · exact h1
  · rw [h1,cmpP_self] at e;cases e
  · have:=h j i h1 hi;rw [cmpP_swap,e] at this;cases this
theorem treeOk_of (l:List Node) (h:treeR l = 0):TreeOk l:=by
  obtain ⟨h40,hs⟩:=tree_zero l h
  have hz:=fun j hj=>step_zero l j _ (hs j hj)
  have hord:∀ i j,i < j→j < l.length→cmpP (nd l i).f0 (nd l j).f0 = -1:=by
    have hr:=rising (fun y:Node=>y.f0) (nd l) l.length (fun i h0 hi=>by
      have h2:=(hz i hi).2.1
      unfold twoR at h2
      rw [if_pos h0] at h2
      have h3:=of_decide_eq_false h2
      rcases cmpP_01 (nd l (i - 1)).f0 (nd l i).f0 with e|e|e
      · exact e
      · rw [e] at h3;exact absurd (by decide) h3
      · rw [e] at h3;exact absurd (by decide) h3)
    intro i j hij hj
    exact hr (j - i - 1) i j (by omega) hj
  refine ⟨h40,fun y hy=>?_,(pair_nd l _).2 hord,(pair_nd l _).2 (fun i j hij hj hne he=>?_),fun y hy hne=>?_⟩
  · obtain ⟨i,hi,rfl⟩:=mem_nd hy
    exact (hz i hi).1
  · have h2:=(hz j hj).2.2.2
    unfold sameR at h2
    rw [if_neg hne,List.any_eq_false] at h2
    have h3:=h2 (nd l i) (nd_mem_take (by omega) hij)
    rw [decide_eq_true he,Bool.true_and] at h3
    simpa using h3
  · obtain ⟨j,hj,rfl⟩:=mem_nd hy
    have h2:=(hz j hj).2.2.1
    unfold upR at h2
    rw [if_neg hne] at h2
    by_cases c:findP (l.take j) (upOf (nd l j).f0) < j
    · rw [if_pos c] at h2
      have h3:findP (l.take j) (upOf (nd l j).f0) < (l.take j).length:=by rw [take_len l j (by omega)];exact c
      have h4:=find_is _ _ h3
      rw [nd_take l j _ c] at h4
      exact ⟨_,nd_mem l _ (by omega),toList_inj h4,by simpa using h2,hord _ j c hj⟩
    · rw [if_neg c] at h2;cases h2
theorem treeR_of (l:List Node) (h:TreeOk l):treeR l = 0:=by
  unfold treeR
  rw [if_neg (by have:=h.len;omega)]
  refine treeFrom_of l _ _ (fun j _ hj=>?_)
  have hj':j < l.length:=by omega
  have hn:=h.node _ (nd_mem l j hj')
  unfold stepR
  have e1:twoR l j (nd l j) = false:=by
    unfold twoR
    by_cases c:0 < j
    · rw [if_pos c,(pair_nd l _).1 h.ord (j - 1) j (by omega) hj'];rfl
    · rw [if_neg c]
  have e2:upR l j (nd l j) = false:=by
    unfold upR
    by_cases c:(upOf (nd l j).f0).toList = ([]:List UInt8)
    · rw [if_pos c]
    · rw [if_neg c]
      obtain ⟨z,hz,z1,z2,z3⟩:=h.up _ (nd_mem l j hj') c
      obtain ⟨i,hi,rfl⟩:=mem_nd hz
      have hij:=order_lt h.ord i j hi hj' z3
      have h3:findP (l.take j) (upOf (nd l j).f0) < (l.take j).length:=(find_lt _ _).2 ⟨nd l i,nd_mem_take (by omega) hij,by rw [z1]⟩
      have h4:=find_is _ _ h3
      rw [take_len l j (by omega)] at h3
      rw [nd_take l j _ h3] at h4
      rw [if_pos h3]
      have h5:nd l (findP (l.take j) (upOf (nd l j).f0)) = nd l i:=order_eq h.ord (nd_mem l _ (by omega)) hz (by rw [toList_inj h4,z1])
      rw [h5,z2];rfl
  have e3:sameR l j (nd l j) = false:=by
    unfold sameR
    by_cases c:(nd l j).f2 = 0
    · rw [if_pos c]
    · rw [if_neg c,List.any_eq_false]
      intro y hy
      obtain ⟨i,hi,rfl⟩:=mem_take_nd (by omega) hy
      by_cases e:(nd l i).f2 = (nd l j).f2
      · rw [(pair_nd l _).1 h.same i j hi hj' c e];simp
      · rw [decide_eq_false e];simp
  rw [if_pos hn,e1,e2,e3]
  rfl
end Go.Proofs.YtlfeijjilndljaaDoor.Q
end
section
namespace Go.Proofs.YtlfeijjilndljaaDoor.All
open Go.RowKit Go.Proofs.YtlfeijjilndljaaDoorW.PrintWords Go.Proofs.YtlfeijjilndljaaDoorW.PrintLast Go.Proofs.YtlfeijjilndljaaDoorW.PrintMore
open Go.Proofs.YtlfeijjilndljaaDoorW.Mine
attribute [local go_sem] gtr_string leq_string geq_string
attribute [local go_sem] max2_int min2_int max_two min_two max_three min_three max_four min_four
set_option linter.unusedVariables false
set_option linter.unusedSimpArgs false
open Go.Proofs.YtlfeijjilndljaaDoorW.MapOwn
def creellaw_sameTree.eq (x y:S56):Option Bool:=creellaw_sameNode.f (x).f0 (x).f1 (x).f2 (x).f3 (x).f4.f0 (x).f4.f1 (x).f4.f2 (x).f4.f3 (x).f4.f4 (x).f4.f5 (x).f4.f6 (x).f5 (y).f0 (y).f1 (y).f2 (y).f3 (y).f4.f0 (y).f4.f1 (y).f4.f2 (y).f4.f3 (y).f4.f4 (y).f4.f5 (y).f4.f6 (y).f5
def creellaw_sameTree.l0:List S56→List S56→Option Bool
 | [],[]=>some true
 | x :: xs,y :: ys=>(creellaw_sameTree.eq x y).bind fun b=>if b = true then creellaw_sameTree.l0 xs ys else some false
 | _,_=>none
def creellaw_sameTree.f (l0 l1:List S56):Option Bool:=if l0.length = l1.length then (if l0.length ≤ 140737488351232 then creellaw_sameTree.l0 l0 l1 else none) else some false
end Go.Proofs.YtlfeijjilndljaaDoor.All
end
section
namespace Go.Proofs.YtlfeijjilndljaaDoor.Q
set_option linter.unusedVariables false
set_option linter.unusedSimpArgs false
open Go.RowKit Go.Proofs.YtlfeijjilndljaaDoor.All Go.Proofs.YtlfeijjilndljaaDoorW.PrintWords Go.Proofs.YtlfeijjilndljaaDoorW.PrintLast Go.Proofs.YtlfeijjilndljaaDoorW.PrintMore Go.Proofs.YtlfeijjilndljaaDoorW.PureBase
theorem set_app (a:List S56) (x y:S56):(a ++ [x]).set a.length y = a ++ [y]:=by
  rw [List.set_append_right _ _ (Nat.le_refl _),Nat.sub_self];rfl
theorem copy_ref (l:List S56) (hl:l.length ≤ 2000000) (hd:∀ i,i < l.length→(nd l i).f5.length ≤ 140737488351232) (d:Nat):∀ (i:Nat),l.length - i = d→i ≤ l.length→Ev (fun k=>creelref_TreeCopy.l0 k l (l.take i) (i:Int)) l:=by
  induction d with
  | zero =>
    intro i hd' hi
    rw [List.take_of_length_le (by omega)]
    refine Ev.step (f:=fun _=>some l) (fun k=>?_) (Ev.now _)
    simp only [creelref_TreeCopy.l0]
    rw [if_neg (by omega)]
  | succ d ih =>
    intro i hd' hi
    have hw:wrap64 ((i:Int) + 1) = ((i + 1:Nat):Int):=by rw [wrap_is (by omega) (by omega)];omega
    have hln:(l.take i).length = i:=by rw [List.length_take];omega
    have hdi:=hd i (by omega)
    have hrd:rd_T56 (l.take i ++ [nd l i]) (i:Int) = nd l i:=by
      rw [rd_nd]
      unfold nd
      rw [List.getD_eq_getElem?_getD,List.getElem?_append_right (by omega),hln,Nat.sub_self];rfl
    refine Ev.step (f:=fun k=>creelref_TreeCopy.l0 k l (l.take (i + 1)) ((i + 1:Nat):Int)) (fun k=>?_) (ih (i + 1) (by omega) (by omega))
    simp only [creelref_TreeCopy.l0,Option.bind_some,List.nil_append,List.length_nil]
    rw [if_pos (by omega),if_pos (by omega),if_pos (by omega),rd_nd,if_pos (by omega),if_pos (by simp;omega),hw,hrd]
    rw [show (i:Int).toNat = (l.take i).length by omega,set_app,take_nd l i (by omega)]
theorem good_data (l:List S56) (n:Nat) (h:∀ y ∈ l,y.f5.length ≤ n):(l.all fun x=>decide (x.f5.length ≤ 140737488355327)) = true ∨ 140737488355327 < n:=by
  by_cases c:140737488355327 < n
  · exact Or.inr c
  · left
    rw [List.all_eq_true]
    intro x hx
    exact decide_eq_true (by have:=h x hx;omega)
theorem copy_both (l:List S56) (hl:l.length ≤ 2000000) (hd:∀ y ∈ l,y.f5.length ≤ 140737488351232):tree_Copy.f l = some l∧Ev (fun k=>creelref_TreeCopy.f k l) l:=by
  refine ⟨?_,copy_ref l hl (fun i hi=>hd _ (nd_mem l i hi)) l.length 0 (by omega) (by omega)⟩
  unfold tree_Copy.f
  rw [if_pos ⟨by omega,(good_data l 140737488351232 hd).resolve_right (by omega)⟩]
abbrev SN:=S56
def plcV (o:List SN) (s:ByteArray):Nat→Nat
  | 0=>0
  | j + 1=>if cmpP (nd o j).f0 s > 0 then plcV o s j else j + 1
theorem plcV_le (o:List SN) (s:ByteArray):∀ j,plcV o s j ≤ j
  | 0=>Nat.le_refl _
  | j + 1=>by
    unfold plcV
    split
    · exact Nat.le_succ_of_le (plcV_le o s j)
    · exact Nat.le_refl _
def insV (o:List SN) (n:SN):List SN:=o.take (plcV o n.f0 o.length) ++ [n] ++ o.drop (plcV o n.f0 o.length)
def sortV (l:List SN):List SN:=l.foldl insV []
theorem insV_mem (o:List SN) (n y:SN):y ∈ insV o n ↔ y = n ∨ y ∈ o:=by
  unfold insV
  rw [List.mem_append,List.mem_append,List.mem_singleton]
  constructor
  · rintro ((h|h)|h)
    · exact Or.inr (List.mem_of_mem_take h)
    · exact Or.inl h
    · exact Or.inr (List.mem_of_mem_drop h)
  · rintro (h|h)
    · exact Or.inl (Or.inr h)
    · rw [← List.take_append_drop (plcV o n.f0 o.length) o,List.mem_append] at h
      rcases h with h|h
      · exact Or.inl (Or.inl h)
      · exact Or.inr h
theorem insV_len (o:List SN) (n:SN):(insV o n).length = o.length + 1:=by
  have:=plcV_le o n.f0 o.length
  unfold insV
  rw [List.length_append,List.length_append,List.length_singleton,List.length_take,List.length_drop]
  omega
theorem fold_mem (r:List SN):∀ (o:List SN) (y:SN),y ∈ r.foldl insV o ↔ y ∈ o ∨ y ∈ r:=by
  induction r with
  | nil=>intro o y;simp
  | cons x r ih =>
    intro o y
    rw [List.foldl_cons,ih,insV_mem,List.mem_cons]
    constructor
    · rintro ((h|h)|h)
      · exact Or.inr (Or.inl h)
      · exact Or.inl h
      · exact Or.inr (Or.inr h)
    · rintro (h|h|h)
      · exact Or.inl (Or.inr h)
      · exact Or.inl (Or.inl h)
      · exact Or.inr h
theorem fold_len (r:List SN):∀ (o:List SN),(r.foldl insV o).length = o.length + r.length:=by
  induction r with
  | nil=>intro o;rfl
  | cons x r ih =>
    intro o
    rw [List.foldl_cons,ih,insV_len,List.length_cons]
    omega
theorem sortV_mem (l:List SN) (y:SN):y ∈ sortV l ↔ y ∈ l:=by
  unfold sortV
  rw [fold_mem]
  simp
theorem sortV_len (l:List SN):(sortV l).length = l.length:=by
  unfold sortV
  rw [fold_len]
  simp
theorem plc_is (o:List SN) (s:ByteArray) (hs:s.size ≤ 1048576) (ho:∀ y ∈ o,y.f0.size ≤ 1048576):∀ j,j ≤ o.length→Ev (fun k=>creelref_OrderSort.plc k o s j) (plcV o s j)
  | 0,_=>Ev.now _
  | j + 1,h=>by
    simp only [creelref_OrderSort.plc,plcV]
    rw [rd_nd]
    refine Ev.bind (cmp_ev (nd o j).f0 s (ho _ (nd_mem o j (by omega))) hs).2 ?_
    by_cases c:cmpP (nd o j).f0 s > 0
    · rw [if_pos c]
      exact Ev.ifp c (plc_is o s hs ho j (by omega))
    · rw [if_neg c]
      exact Ev.ifn c (Ev.now _)
theorem go_is (r:List SN):∀ o:List SN,(∀ y ∈ o,y.f0.size ≤ 1048576)→(∀ y ∈ r,y.f0.size ≤ 1048576)→o.length + r.length ≤ 1000000→Ev (fun k=>creelref_OrderSort.go k r o) (r.foldl insV o):=by
  induction r with
  | nil=>intro o _ _ _;exact Ev.now _
  | cons x r ih =>
    intro o h1 h2 h3
    simp only [creelref_OrderSort.go]
    rw [List.foldl_cons]
    rw [List.length_cons] at h3
    have hx:=h2 x (List.mem_cons_self ..)
    refine Ev.bind (plc_is o x.f0 hx h1 o.length (Nat.le_refl _)) (Ev.ifp (by omega) ?_)
    refine ih (insV o x) (fun y hy=>?_) (fun y hy=>h2 y (List.mem_cons_of_mem _ hy)) (by rw [insV_len];omega)
    rcases (insV_mem o x y).1 hy with rfl|h
    · exact hx
    · exact h1 y h
theorem sort_is (l:List SN) (hl:l.length ≤ 1000) (hs:∀ y ∈ l,y.f0.size ≤ 1048576) (hd:∀ y ∈ l,y.f5.length ≤ 140737488351232):Ev (fun k=>creelref_OrderSort.f k l) (sortV l):=by
  unfold creelref_OrderSort.f
  refine Ev.bind (go_is l [] (fun y hy=>by cases hy) hs (by simp;omega)) ?_
  exact (copy_both (sortV l) (by rw [sortV_len];omega) (fun y hy=>hd y ((sortV_mem l y).1 hy))).2
end Go.Proofs.YtlfeijjilndljaaDoor.Q
end
section
namespace Go.Proofs.YtlfeijjilndljaaDoor.Q
set_option linter.unusedVariables false
set_option linter.unusedSimpArgs false
open Go.RowKit Go.Proofs.YtlfeijjilndljaaDoor.All Go.Proofs.YtlfeijjilndljaaDoorW.PrintWords Go.Proofs.YtlfeijjilndljaaDoorW.PrintLast Go.Proofs.YtlfeijjilndljaaDoorW.PrintMore Go.Proofs.YtlfeijjilndljaaDoorW.PureBase
abbrev DN:=S56
abbrev DC:=S77
theorem dfind_ev (l:List DN) (s:ByteArray) (hl:l.length ≤ 1000):Ev (fun k=>creelref_TreeFind.f k l s) (findP l s:Int):=Ev.from_ 2000 (fun k hk=>(find_both l s (by omega) k (by omega)).2)
def restV (a b:List DN):List DN:=b.filter (fun n=>decide (findP a n.f0 = a.length))
theorem all_is (a:List DN) (ha:a.length ≤ 1000) (r:List DN):∀ o:List DN,o.length + r.length ≤ 1000→Ev (fun k=>creelref_DiffOf.all_ k a r o) (o ++ restV a r):=by
  induction r with
  | nil =>
    intro o _
    unfold restV
    rw [List.filter_nil,List.append_nil]
    exact Ev.now _
  | cons x r ih =>
    intro o h
    rw [List.length_cons] at h
    simp only [creelref_DiffOf.all_]
    refine Ev.bind (dfind_ev a x.f0 ha) ?_
    by_cases c:findP a x.f0 = a.length
    · have e:o ++ restV a (x :: r) = (o ++ [x]) ++ restV a r:=by
        unfold restV
        rw [List.filter_cons_of_pos (by exact decide_eq_true c),List.append_assoc]
        rfl
      rw [e]
      exact Ev.ifp (by omega) (Ev.ifp (by omega) (ih (o ++ [x]) (by rw [List.length_append,List.length_singleton];omega)))
    · have e:o ++ restV a (x :: r) = o ++ restV a r:=by
        unfold restV
        rw [List.filter_cons_of_neg (by rw [decide_eq_true_eq];exact c)]
      rw [e]
      exact Ev.ifn (by omega) (ih o (by omega))
theorem one_is (l:List DN) (i:Nat) (hi:i < l.length) (hd:∀ y ∈ l,y.f5.length ≤ 140737488351232):Ev (fun k=>creelref_DiffOf.one k l (i:Int)) (nd l i):=by
  unfold creelref_DiffOf.one
  refine Ev.ifp ⟨by omega,by omega⟩ ?_
  rw [rd_nd]
  refine Ev.bind (copy_both [nd l i] (by simp) (fun y hy=>?_)).2 ?_
  · rw [List.mem_singleton] at hy
    rw [hy]
    exact hd _ (nd_mem l i hi)
  · exact Ev.ifp (by simp) (Ev.now _)
theorem dsame_some (x y:DN):∃ b,creelref_DiffOf.same x y = some b:=by
  unfold creelref_DiffOf.same creelref_sameNode.f
  split
  · split
    · split
      · split
        · exact ⟨_,rfl⟩
        · exact ⟨_,rfl⟩
      · exact ⟨_,rfl⟩
    · exact ⟨_,rfl⟩
  · exact ⟨_,rfl⟩
def sameB (x y:DN):Bool:=(creelref_DiffOf.same x y).getD false
theorem dsame_is (x y:DN):creelref_DiffOf.same x y = some (sameB x y):=by
  obtain ⟨b,h⟩:=dsame_some x y
  unfold sameB
  rw [h];rfl
def eqB (x y:DN):Bool:=sameB x y && decide (x.f2 = y.f2)
def chgV (a b:List DN) (x:DN):Option DC:=if findP b x.f0 = b.length then some ⟨1,nd a (findP a x.f0)⟩ else if findP a x.f0 = a.length then some ⟨2,nd b (findP b x.f0)⟩ else if eqB (nd a (findP a x.f0)) (nd b (findP b x.f0)) = true then none else some ⟨3,nd b (findP b x.f0)⟩
section
variable (a b:List DN) (ha:a.length ≤ 1000) (hb:b.length ≤ 1000) (da:∀ y ∈ a,y.f5.length ≤ 140737488351232) (db:∀ y ∈ b,y.f5.length ≤ 140737488351232)
include ha hb da db
theorem chg_is (x:DN) (hx:findP a x.f0 < a.length ∨ findP b x.f0 < b.length):Ev (fun k=>creelref_DiffOf.chg k a b x) (chgV a b x):=by
  unfold creelref_DiffOf.chg chgV
  refine Ev.bind (dfind_ev a x.f0 ha) (Ev.bind (dfind_ev b x.f0 hb) ?_)
  have hfa:=findP_le a x.f0
  have hfb:=findP_le b x.f0
  by_cases c1:findP b x.f0 = b.length
  · rw [if_pos c1]
    exact Ev.ifp (by omega) (Ev.bind (one_is a _ (by omega) da) (Ev.now _))
  · rw [if_neg c1]
    refine Ev.ifn (by omega) ?_
    by_cases c2:findP a x.f0 = a.length
    · rw [if_pos c2]
      exact Ev.ifp (by omega) (Ev.bind (one_is b _ (by omega) db) (Ev.now _))
    · rw [if_neg c2]
      refine Ev.ifn (by omega) (Ev.ifp ⟨⟨by omega,by omega⟩,by omega,by omega⟩ ?_)
      rw [rd_nd,rd_nd,dsame_is]
      simp only [Option.bind_some]
      unfold eqB
      by_cases c3:sameB (nd a (findP a x.f0)) (nd b (findP b x.f0)) = true
      · refine Ev.ifp c3 ?_
        by_cases c4:(nd a (findP a x.f0)).f2 = (nd b (findP b x.f0)).f2
        · rw [c3,decide_eq_true c4,if_pos (by rfl)]
          exact Ev.ifp c4 (Ev.now _)
        · rw [c3,decide_eq_false c4,if_neg (by decide)]
          exact Ev.ifn c4 (Ev.bind (one_is b _ (by omega) db) (Ev.now _))
      · rw [Bool.eq_false_iff.mpr c3,Bool.false_and,if_neg (by decide)]
        exact Ev.ifn (by decide) (Ev.bind (one_is b _ (by omega) db) (Ev.now _))
theorem run_is2 (r:List DN):∀ o:List DC,(∀ x ∈ r,findP a x.f0 < a.length ∨ findP b x.f0 < b.length)→o.length + r.length ≤ 100000→Ev (fun k=>creelref_DiffOf.run k a b r o) (o ++ r.filterMap (chgV a b)):=by
  induction r with
  | nil =>
    intro o _ _
    rw [List.filterMap_nil,List.append_nil]
    exact Ev.now _
  | cons x r ih =>
    intro o h1 h2
    rw [List.length_cons] at h2
    simp only [creelref_DiffOf.run]
    refine Ev.bind (chg_is a b ha hb da db x (h1 x (List.mem_cons_self ..))) ?_
    have h1':∀ y ∈ r,findP a y.f0 < a.length ∨ findP b y.f0 < b.length:=fun y hy=>h1 y (List.mem_cons_of_mem _ hy)
    cases hc:chgV a b x with
    | none =>
      rw [List.filterMap_cons_none hc]
      exact ih o h1' (by omega)
    | some y =>
      rw [List.filterMap_cons_some hc]
      refine Ev.ifp (by omega) ?_
      have:=ih (o ++ [y]) h1' (by rw [List.length_append,List.length_singleton];omega)
      rw [List.append_assoc] at this
      exact this
end
def allV (a b:List DN):List DN:=a ++ restV a b
def diffV (a b:List DN):List DC:=(sortV (allV a b)).filterMap (chgV a b)
theorem find_mem {l:List DN} {y:DN} (h:y ∈ l):findP l y.f0 < l.length:=(find_lt l y.f0).2 ⟨y,h,rfl⟩
theorem allV_found {a b:List DN} {y:DN} (h:y ∈ allV a b):findP a y.f0 < a.length ∨ findP b y.f0 < b.length:=by
  unfold allV at h
  rw [List.mem_append] at h
  rcases h with h|h
  · exact Or.inl (find_mem h)
  · exact Or.inr (find_mem (List.mem_filter.1 h).1)
theorem ok_size {l:List DN} (hk:TreeOk l):∀ y ∈ l,y.f0.size ≤ 1048576:=fun y hy=>by
  have:=pathR_size _ (nodeX_path _ (hk.node y hy))
  omega
theorem diff_is (a b:List DN) (ka:TreeOk a) (kb:TreeOk b) (na:∀ y ∈ a,okN y) (nb:∀ y ∈ b,okN y) (da:∀ y ∈ a,y.f5.length ≤ 140737488351232) (db:∀ y ∈ b,y.f5.length ≤ 140737488351232):Ev (fun k=>creelref_DiffOf.f k a b) (diffV a b,0):=by
  have la:=ka.len
  have lb:=kb.len
  have hr:(restV a b).length ≤ b.length:=List.length_filter_le _ _
  have hm:∀ y ∈ allV a b,y ∈ a ∨ y ∈ b:=by
    intro y hy
    unfold allV at hy
    rw [List.mem_append] at hy
    exact hy.imp id (fun h=>(List.mem_filter.1 h).1)
  have hlen:(allV a b).length ≤ 80:=by unfold allV;rw [List.length_append];omega
  unfold creelref_DiffOf.f
  refine Ev.bind (ref_tree a na) (Ev.ifp (treeR_of a ka) (Ev.bind (ref_tree b nb) (Ev.ifp (treeR_of b kb) (Ev.ifp (by omega) ?_))))
  refine Ev.bind (all_is a (by omega) b a (by omega)) ?_
  refine Ev.bind (sort_is (allV a b) (by omega) (fun y hy=>(hm y hy).elim (ok_size ka y) (ok_size kb y)) (fun y hy=>(hm y hy).elim (da y) (db y))) ?_
  have h:=run_is2 a b (by omega) (by omega) da db (sortV (allV a b)) [] (fun x hx=>allV_found ((sortV_mem _ _).1 hx)) (by rw [sortV_len,List.length_nil];omega)
  exact Ev.bind h (Ev.now _)
end Go.Proofs.YtlfeijjilndljaaDoor.Q
end
section
namespace Go.Proofs.YtlfeijjilndljaaDoor.Q
set_option linter.unusedVariables false
set_option linter.unusedSimpArgs false
open Go.RowKit Go.Proofs.YtlfeijjilndljaaDoor.All Go.Proofs.YtlfeijjilndljaaDoorW.PrintWords Go.Proofs.YtlfeijjilndljaaDoorW.PrintLast Go.Proofs.YtlfeijjilndljaaDoorW.PrintMore Go.Proofs.YtlfeijjilndljaaDoorW.PureBase
def LtN (x y:DN):Prop:=cmpP x.f0 y.f0 = -1
theorem LtN.trans {x y z:DN} (h1:LtN x y) (h2:LtN y z):LtN x z:=cmpP_trans h1 h2
theorem LtN.ne {x y:DN} (h:LtN x y):x.f0 ≠ y.f0:=cmpP_ne h
theorem LtN.asymm {x y:DN} (h:LtN x y) (h2:LtN y x):False:=by
  unfold LtN at h h2
  have:=cmpP_swap x.f0 y.f0
  omega
theorem LtN.irr {x:DN} (h:LtN x x):False:=LtN.asymm h h
theorem LtN.tri {x y:DN} (h:x.f0 ≠ y.f0):LtN x y ∨ LtN y x:=by
  unfold LtN
  have:=cmpP_swap x.f0 y.f0
  rcases cmpP_01 x.f0 y.f0 with e|e|e
  · exact Or.inl e
  · exact absurd (cmpP_zero e) h
  · exact Or.inr (by omega)
theorem sorted_extN:∀ (a b:List DN),a.Pairwise LtN→b.Pairwise LtN→(∀ s,s ∈ a ↔ s ∈ b)→a = b
  | [],[],_,_,_=>rfl
  | [],t :: b,_,_,h=>absurd ((h t).2 (List.mem_cons_self ..)) (by simp)
  | s :: a,[],_,_,h=>absurd ((h s).1 (List.mem_cons_self ..)) (by simp)
  | s :: a,t :: b,ha,hb,h=>by
    rw [List.pairwise_cons] at ha hb
    have e:s = t:=by
      rcases List.mem_cons.1 ((h s).1 (List.mem_cons_self ..)) with e|h1
      · exact e
      · rcases List.mem_cons.1 ((h t).2 (List.mem_cons_self ..)) with e|h2
        · exact e.symm
        · exact (LtN.asymm (hb.1 s h1) (ha.1 t h2)).elim
    subst e
    congr 1
    refine sorted_extN a b ha.2 hb.2 (fun u=>⟨fun hu=>?_,fun hu=>?_⟩)
    · rcases List.mem_cons.1 ((h u).1 (List.mem_cons_of_mem _ hu)) with e|h1
      · subst e;exact (LtN.irr (ha.1 u hu)).elim
      · exact h1
    · rcases List.mem_cons.1 ((h u).2 (List.mem_cons_of_mem _ hu)) with e|h1
      · subst e;exact (LtN.irr (hb.1 u hu)).elim
      · exact h1
theorem plcV_spec (o:List DN) (s:ByteArray):∀ j,(∀ m,plcV o s j ≤ m→m < j→cmpP (nd o m).f0 s > 0)∧(0 < plcV o s j→cmpP (nd o (plcV o s j - 1)).f0 s ≤ 0)
  | 0=>⟨fun m h1 h2=>absurd h2 (Nat.not_lt_zero m),fun h=>by simp [plcV] at h⟩
  | j + 1=>by
    obtain ⟨h1,h2⟩:=plcV_spec o s j
    by_cases c:cmpP (nd o j).f0 s > 0
    · have e:plcV o s (j + 1) = plcV o s j:=by rw [plcV,if_pos c]
      rw [e]
      refine ⟨fun m g1 g2=>?_,h2⟩
      by_cases e2:m = j
      · subst e2;exact c
      · exact h1 m g1 (by omega)
    · have e:plcV o s (j + 1) = j + 1:=by rw [plcV,if_neg c]
      rw [e]
      exact ⟨fun m g1 g2=>absurd g2 (by omega),fun _=>by simp;omega⟩
theorem insV_sorted (o:List DN) (x:DN) (ho:o.Pairwise LtN) (hx:∀ y ∈ o,y.f0 ≠ x.f0):(insV o x).Pairwise LtN:=by
  obtain ⟨h1,h2⟩:=plcV_spec o x.f0 o.length
  have hp:=plcV_le o x.f0 o.length
  unfold insV
  generalize plcV o x.f0 o.length = p at *
  have hpo:=(pair_nd o LtN).1 ho
  have before:∀ y ∈ o.take p,LtN y x:=by
    intro y hy
    obtain ⟨m,hm,rfl⟩:=mem_take_nd hp hy
    have hl:LtN (nd o (p - 1)) x:=by
      have:=h2 (by omega)
      rcases LtN.tri (hx _ (nd_mem o (p - 1) (by omega))) with e|e
      · exact e
      · unfold LtN at e
        have h3:=cmpP_swap x.f0 (nd o (p - 1)).f0
        omega
    by_cases e:m = p - 1
    · rw [e];exact hl
    · exact (hpo m (p - 1) (by omega) (by omega)).trans hl
  have behind:∀ y ∈ o.drop p,LtN x y:=by
    intro y hy
    obtain ⟨m,hm,rfl⟩:=List.mem_iff_getElem.1 hy
    have hm':p + m < o.length:=by rw [List.length_drop] at hm;omega
    rw [List.getElem_drop,nd_get o (p + m) hm']
    have h3:=h1 (p + m) (by omega) hm'
    unfold LtN
    have h4:=cmpP_swap x.f0 (nd o (p + m)).f0
    rcases cmpP_01 x.f0 (nd o (p + m)).f0 with e|e|e <;> omega
  have hsplit:=ho
  rw [← List.take_append_drop p o,List.pairwise_append] at hsplit
  rw [List.append_assoc,List.pairwise_append]
  refine ⟨hsplit.1,?_,fun y hy z hz=>?_⟩
  · rw [List.singleton_append,List.pairwise_cons]
    exact ⟨behind,hsplit.2.1⟩
  · rw [List.singleton_append,List.mem_cons] at hz
    rcases hz with rfl|hz
    · exact before y hy
    · exact (before y hy).trans (behind z hz)
theorem fold_sorted (r:List DN):∀ o:List DN,o.Pairwise LtN→r.Pairwise (fun x y=>x.f0 ≠ y.f0)→(∀ y ∈ o,∀ x ∈ r,y.f0 ≠ x.f0)→(r.foldl insV o).Pairwise LtN:=by
  induction r with
  | nil=>intro o h _ _;exact h
  | cons x r ih =>
    intro o h1 h2 h3
    rw [List.pairwise_cons] at h2
    rw [List.foldl_cons]
    refine ih (insV o x) (insV_sorted o x h1 (fun y hy=>h3 y hy x (List.mem_cons_self ..))) h2.2 (fun y hy z hz=>?_)
    rcases (insV_mem o x y).1 hy with rfl|hy
    · exact h2.1 z hz
    · exact h3 y hy z (List.mem_cons_of_mem _ hz)
theorem allV_mem (a b:List DN) (y:DN):y ∈ allV a b ↔ y ∈ a ∨ (y ∈ b∧findP a y.f0 = a.length):=by
  unfold allV restV
  rw [List.mem_append,List.mem_filter,decide_eq_true_eq]
theorem sortV_sorted {a b:List DN} (ka:TreeOk a) (kb:TreeOk b):(sortV (allV a b)).Pairwise LtN:=by
  refine fold_sorted (allV a b) [] List.Pairwise.nil ?_ (fun y hy=>by cases hy)
  unfold allV
  rw [List.pairwise_append]
  refine ⟨ka.ord.imp (fun h=>cmpP_ne h),(kb.ord.sublist List.filter_sublist).imp (fun h=>cmpP_ne h),fun x hx y hy e=>?_⟩
  have h1:=(List.mem_filter.1 hy).2
  rw [decide_eq_true_eq] at h1
  have h2:=find_mem hx
  rw [e] at h2
  omega
def cV (a b:List DN) (i j:Nat):Int:=if i = a.length then 1 else if j = b.length then -1 else cmpP (nd a i).f0 (nd b j).f0
def mN (a b:List DN):Nat→Nat→Nat→List DN
  | 0,_,_=>[]
  | d + 1,i,j=>if i < a.length ∨ j < b.length then (if cV a b i j < 0 then nd a i :: mN a b d (i + 1) j else if cV a b i j > 0 then nd b j :: mN a b d i (j + 1) else nd a i :: mN a b d (i + 1) (j + 1)) else []
def mC (a b:List DN):Nat→Nat→Nat→List DC
  | 0,_,_=>[]
  | d + 1,i,j=>if i < a.length ∨ j < b.length then (if cV a b i j < 0 then ⟨1,nd a i⟩ :: mC a b d (i + 1) j else if cV a b i j > 0 then ⟨2,nd b j⟩ :: mC a b d i (j + 1) else if eqB (nd a i) (nd b j) = true then mC a b d (i + 1) (j + 1) else ⟨3,nd b j⟩ :: mC a b d (i + 1) (j + 1)) else []
section
variable {a b:List DN} (ka:TreeOk a) (kb:TreeOk b) {i j:Nat} (hi:i ≤ a.length) (hj:j ≤ b.length) (hc:i < a.length ∨ j < b.length)
include ka kb hi hj hc
theorem cV_lt (c:cV a b i j < 0):i < a.length∧∀ q,j ≤ q→q < b.length→LtN (nd a i) (nd b q):=by
  have _h0:=ka.len
  have _h1:=hj
  have _h2:=hc
  unfold cV at c
  by_cases e1:i = a.length
  · rw [if_pos e1] at c;omega
  · rw [if_neg e1] at c
    refine ⟨by omega,fun q h1 h2=>?_⟩
    rw [if_neg (by omega)] at c
    have h0:LtN (nd a i) (nd b j):=by
      unfold LtN
      rcases cmpP_01 (nd a i).f0 (nd b j).f0 with e|e|e <;> omega
    by_cases e:q = j
    · rw [e];exact h0
    · exact h0.trans ((pair_nd b _).1 kb.ord j q (by omega) h2)
theorem cV_gt (c:cV a b i j > 0):j < b.length∧∀ p,i ≤ p→p < a.length→LtN (nd b j) (nd a p):=by
  have _h0:=kb.len
  have _h1:=hi
  unfold cV at c
  by_cases e1:i = a.length
  · exact ⟨by omega,fun p h1 h2=>absurd h2 (by omega)⟩
  · rw [if_neg e1] at c
    by_cases e2:j = b.length
    · rw [if_pos e2] at c;omega
    · rw [if_neg e2] at c
      refine ⟨by omega,fun p h1 h2=>?_⟩
      have h0:LtN (nd b j) (nd a i):=by
        unfold LtN
        have:=cmpP_swap (nd b j).f0 (nd a i).f0
        rcases cmpP_01 (nd a i).f0 (nd b j).f0 with e|e|e <;> omega
      by_cases e:p = i
      · rw [e];exact h0
      · exact h0.trans ((pair_nd a _).1 ka.ord i p (by omega) h2)
theorem cV_eq (c1:¬ cV a b i j < 0) (c2:¬ cV a b i j > 0):i < a.length∧j < b.length∧(nd a i).f0 = (nd b j).f0∧(∀ q,j < q→q < b.length→LtN (nd a i) (nd b q))∧∀ p,i < p→p < a.length→LtN (nd b j) (nd a p):=by
  have _h1:=hc
  unfold cV at c1 c2
  by_cases e1:i = a.length
  · rw [if_pos e1] at c2;omega
  · rw [if_neg e1] at c1 c2
    by_cases e2:j = b.length
    · rw [if_pos e2] at c1;omega
    · rw [if_neg e2] at c1 c2
      have e:(nd a i).f0 = (nd b j).f0:=cmpP_zero (by omega)
      refine ⟨by omega,by omega,e,fun q h1 h2=>?_,fun p h1 h2=>?_⟩
      · have:=(pair_nd b _).1 kb.ord j q h1 h2
        unfold LtN
        rw [e];exact this
      · have:=(pair_nd a _).1 ka.ord i p h1 h2
        unfold LtN
        rw [← e];exact this
end
def InM (a b:List DN) (i j:Nat) (n:DN):Prop:=(∃ q,i ≤ q∧q < a.length∧n = nd a q) ∨ (∃ q,j ≤ q∧q < b.length∧n = nd b q∧∀ p,i ≤ p→p < a.length→(nd a p).f0 ≠ n.f0)
theorem mN_mem {a b:List DN} (ka:TreeOk a) (kb:TreeOk b) (d:Nat):∀ i j,i ≤ a.length→j ≤ b.length→a.length + b.length ≤ d + i + j→∀ n,n ∈ mN a b d i j ↔ InM a b i j n:=by
  induction d with
  | zero =>
    intro i j hi hj hd n
    constructor
    · intro h;cases h
    · rintro (⟨q,h1,h2,_⟩|⟨q,h1,h2,_⟩) <;> omega
  | succ d ih =>
    intro i j hi hj hd n
    rw [mN]
    by_cases hc:i < a.length ∨ j < b.length
    · rw [if_pos hc]
      by_cases c1:cV a b i j < 0
      · rw [if_pos c1]
        obtain ⟨g1,g2⟩:=cV_lt ka kb hi hj hc c1
        rw [List.mem_cons,ih (i + 1) j (by omega) hj (by omega)]
        constructor
        · rintro (rfl|⟨q,h1,h2,h3⟩|⟨q,h1,h2,rfl,h4⟩)
          · exact Or.inl ⟨i,Nat.le_refl _,g1,rfl⟩
          · exact Or.inl ⟨q,by omega,h2,h3⟩
          · refine Or.inr ⟨q,h1,h2,rfl,fun p p1 p2=>?_⟩
            by_cases e:p = i
            · rw [e];exact (g2 q h1 h2).ne
            · exact h4 p (by omega) p2
        · rintro (⟨q,h1,h2,h3⟩|⟨q,h1,h2,h3,h4⟩)
          · by_cases e:q = i
            · rw [e] at h3;exact Or.inl h3
            · exact Or.inr (Or.inl ⟨q,by omega,h2,h3⟩)
          · exact Or.inr (Or.inr ⟨q,h1,h2,h3,fun p p1 p2=>h4 p (by omega) p2⟩)
      · rw [if_neg c1]
        by_cases c2:cV a b i j > 0
        · rw [if_pos c2]
          obtain ⟨g1,g2⟩:=cV_gt ka kb hi hj hc c2
          rw [List.mem_cons,ih i (j + 1) hi (by omega) (by omega)]
          constructor
          · rintro (rfl|⟨q,h1,h2,h3⟩|⟨q,h1,h2,h3,h4⟩)
            · exact Or.inr ⟨j,Nat.le_refl _,g1,rfl,fun p p1 p2=>((g2 p p1 p2).ne).symm⟩
            · exact Or.inl ⟨q,h1,h2,h3⟩
            · exact Or.inr ⟨q,by omega,h2,h3,h4⟩
          · rintro (⟨q,h1,h2,h3⟩|⟨q,h1,h2,h3,h4⟩)
            · exact Or.inr (Or.inl ⟨q,h1,h2,h3⟩)
            · by_cases e:q = j
              · rw [e] at h3;exact Or.inl h3
              · exact Or.inr (Or.inr ⟨q,by omega,h2,h3,h4⟩)
        · rw [if_neg c2]
          obtain ⟨g1,g2,g3,g4,g5⟩:=cV_eq ka kb hi hj hc c1 c2
          rw [List.mem_cons,ih (i + 1) (j + 1) (by omega) (by omega) (by omega)]
          constructor
          · rintro (rfl|⟨q,h1,h2,h3⟩|⟨q,h1,h2,rfl,h4⟩)
            · exact Or.inl ⟨i,Nat.le_refl _,g1,rfl⟩
            · exact Or.inl ⟨q,by omega,h2,h3⟩
            · refine Or.inr ⟨q,by omega,h2,rfl,fun p p1 p2=>?_⟩
              by_cases e:p = i
              · rw [e];exact (g4 q (by omega) h2).ne
              · exact h4 p (by omega) p2
          · rintro (⟨q,h1,h2,h3⟩|⟨q,h1,h2,h3,h4⟩)
            · by_cases e:q = i
              · rw [e] at h3;exact Or.inl h3
              · exact Or.inr (Or.inl ⟨q,by omega,h2,h3⟩)
            · by_cases e:q = j
              · exfalso
                rw [h3,e] at h4
                exact h4 i (Nat.le_refl _) g1 g3
              · exact Or.inr (Or.inr ⟨q,by omega,h2,h3,fun p p1 p2=>h4 p (by omega) p2⟩)
    · rw [if_neg hc]
      constructor
      · intro h;cases h
      · rintro (⟨q,h1,h2,_⟩|⟨q,h1,h2,_⟩) <;> omega
theorem mN_sorted {a b:List DN} (ka:TreeOk a) (kb:TreeOk b) (d:Nat):∀ i j,i ≤ a.length→j ≤ b.length→a.length + b.length ≤ d + i + j→(mN a b d i j).Pairwise LtN:=by
  induction d with
  | zero=>intro i j _ _ _;exact List.Pairwise.nil
  | succ d ih =>
    intro i j hi hj hd
    rw [mN]
    by_cases hc:i < a.length ∨ j < b.length
    · rw [if_pos hc]
      by_cases c1:cV a b i j < 0
      · rw [if_pos c1,List.pairwise_cons]
        obtain ⟨g1,g2⟩:=cV_lt ka kb hi hj hc c1
        refine ⟨fun y hy=>?_,ih (i + 1) j (by omega) hj (by omega)⟩
        rcases (mN_mem ka kb d (i + 1) j (by omega) hj (by omega) y).1 hy with ⟨q,h1,h2,rfl⟩|⟨q,h1,h2,rfl,_⟩
        · exact (pair_nd a _).1 ka.ord i q (by omega) h2
        · exact g2 q h1 h2
      · rw [if_neg c1]
        by_cases c2:cV a b i j > 0
        · rw [if_pos c2,List.pairwise_cons]
          obtain ⟨g1,g2⟩:=cV_gt ka kb hi hj hc c2
          refine ⟨fun y hy=>?_,ih i (j + 1) hi (by omega) (by omega)⟩
          rcases (mN_mem ka kb d i (j + 1) hi (by omega) (by omega) y).1 hy with ⟨q,h1,h2,rfl⟩|⟨q,h1,h2,rfl,_⟩
          · exact g2 q h1 h2
          · exact (pair_nd b _).1 kb.ord j q (by omega) h2
        · rw [if_neg c2,List.pairwise_cons]
          obtain ⟨g1,g2,g3,g4,g5⟩:=cV_eq ka kb hi hj hc c1 c2
          refine ⟨fun y hy=>?_,ih (i + 1) (j + 1) (by omega) (by omega) (by omega)⟩
          rcases (mN_mem ka kb d (i + 1) (j + 1) (by omega) (by omega) (by omega) y).1 hy with ⟨q,h1,h2,rfl⟩|⟨q,h1,h2,rfl,_⟩
          · exact (pair_nd a _).1 ka.ord i q (by omega) h2
          · exact g4 q (by omega) h2
    · rw [if_neg hc];exact List.Pairwise.nil
theorem sort_merge {a b:List DN} (ka:TreeOk a) (kb:TreeOk b):sortV (allV a b) = mN a b (a.length + b.length) 0 0:=by
  refine sorted_extN _ _ (sortV_sorted ka kb) (mN_sorted ka kb _ 0 0 (by omega) (by omega) (by omega)) (fun n=>?_)
  rw [sortV_mem,allV_mem,mN_mem ka kb _ 0 0 (by omega) (by omega) (by omega)]
  constructor
  · rintro (h|⟨h,h2⟩)
    · obtain ⟨q,hq,e⟩:=mem_nd h
      exact Or.inl ⟨q,by omega,hq,e.symm⟩
    · obtain ⟨q,hq,e⟩:=mem_nd h
      refine Or.inr ⟨q,by omega,hq,e.symm,fun p _ hp e2=>?_⟩
      have:=(find_lt a n.f0).2 ⟨nd a p,nd_mem a p hp,by rw [e2]⟩
      omega
  · rintro (⟨q,h1,h2,rfl⟩|⟨q,h1,h2,rfl,h4⟩)
    · exact Or.inl (nd_mem a q h2)
    · refine Or.inr ⟨nd_mem b q h2,?_⟩
      have hle:=findP_le a (nd b q).f0
      by_cases c:findP a (nd b q).f0 < a.length
      · obtain ⟨z,hz,e⟩:=(find_lt a _).1 c
        obtain ⟨p,hp,rfl⟩:=mem_nd hz
        exact absurd (toList_inj e) (h4 p (by omega) hp)
      · omega
theorem mfind_nd {l:List DN} (hk:TreeOk l) (i:Nat) (hi:i < l.length):findP l (nd l i).f0 = i:=by
  refine findP_at l _ i hi rfl (fun j hj e=>?_)
  exact cmpP_ne ((pair_nd l _).1 hk.ord j i hj hi) (toList_inj e)
theorem mfind_no (l:List DN) (s:ByteArray) (h:∀ q,q < l.length→(nd l q).f0 ≠ s):findP l s = l.length:=findP_no l s (fun q hq e=>h q hq (toList_inj e))
theorem merge_chg {a b:List DN} (ka:TreeOk a) (kb:TreeOk b) (d:Nat):∀ i j,i ≤ a.length→j ≤ b.length→(∀ p q,p < i→j ≤ q→q < b.length→(nd a p).f0 ≠ (nd b q).f0)→(∀ p q,q < j→i ≤ p→p < a.length→(nd a p).f0 ≠ (nd b q).f0)→(mN a b d i j).filterMap (chgV a b) = mC a b d i j:=by
  induction d with
  | zero=>intro i j _ _ _ _;rfl
  | succ d ih =>
    intro i j hi hj I1 I2
    rw [mN,mC]
    by_cases hc:i < a.length ∨ j < b.length
    · rw [if_pos hc,if_pos hc]
      by_cases c1:cV a b i j < 0
      · rw [if_pos c1,if_pos c1]
        obtain ⟨g1,g2⟩:=cV_lt ka kb hi hj hc c1
        have hf:findP b (nd a i).f0 = b.length:=mfind_no b _ (fun q hq e=>by
          by_cases h:q < j
          · exact I2 i q h (Nat.le_refl _) g1 e.symm
          · exact (g2 q (by omega) hq).ne e.symm)
        have hv:chgV a b (nd a i) = some ⟨1,nd a i⟩:=by
          unfold chgV
          rw [if_pos hf,mfind_nd ka i g1]
        rw [List.filterMap_cons_some hv,ih (i + 1) j (by omega) hj (fun p q h1 h2 h3=>by
          by_cases e:p = i
          · rw [e];exact (g2 q h2 h3).ne
          · exact I1 p q (by omega) h2 h3) (fun p q h1 h2 h3=>I2 p q h1 (by omega) h3)]
      · rw [if_neg c1,if_neg c1]
        by_cases c2:cV a b i j > 0
        · rw [if_pos c2,if_pos c2]
          obtain ⟨g1,g2⟩:=cV_gt ka kb hi hj hc c2
          have hf:findP a (nd b j).f0 = a.length:=mfind_no a _ (fun p hp e=>by
            by_cases h:p < i
            · exact I1 p j h (Nat.le_refl _) g1 e
            · exact (g2 p (by omega) hp).ne e.symm)
          have hv:chgV a b (nd b j) = some ⟨2,nd b j⟩:=by
            unfold chgV
            rw [mfind_nd kb j g1,if_neg (by omega),if_pos hf]
          rw [List.filterMap_cons_some hv,ih i (j + 1) hi (by omega) (fun p q h1 h2 h3=>I1 p q h1 (by omega) h3) (fun p q h1 h2 h3=>by
            by_cases e:q = j
            · rw [e];exact ((g2 p h2 h3).ne).symm
            · exact I2 p q (by omega) h2 h3)]
        · rw [if_neg c2,if_neg c2]
          obtain ⟨g1,g2,g3,g4,g5⟩:=cV_eq ka kb hi hj hc c1 c2
          have hfa:=mfind_nd ka i g1
          have hfb:findP b (nd a i).f0 = j:=by rw [g3];exact mfind_nd kb j g2
          have hih:=ih (i + 1) (j + 1) (by omega) (by omega) (fun p q h1 h2 h3=>by
            by_cases e:p = i
            · rw [e];exact (g4 q (by omega) h3).ne
            · exact I1 p q (by omega) (by omega) h3) (fun p q h1 h2 h3=>by
            by_cases e:q = j
            · rw [e];exact ((g5 p (by omega) h3).ne).symm
            · exact I2 p q (by omega) (by omega) h3)
          by_cases c3:eqB (nd a i) (nd b j) = true
          · have hv:chgV a b (nd a i) = none:=by
              unfold chgV
              rw [hfb,hfa,if_neg (by omega),if_neg (by omega),if_pos c3]
            rw [List.filterMap_cons_none hv,if_pos c3,hih]
          · have hv:chgV a b (nd a i) = some ⟨3,nd b j⟩:=by
              unfold chgV
              rw [hfb,hfa,if_neg (by omega),if_neg (by omega),if_neg c3]
            rw [List.filterMap_cons_some hv,if_neg c3,hih]
    · rw [if_neg hc,if_neg hc];rfl
theorem diff_merge {a b:List DN} (ka:TreeOk a) (kb:TreeOk b):diffV a b = mC a b (a.length + b.length) 0 0:=by
  unfold diffV
  rw [sort_merge ka kb]
  exact merge_chg ka kb _ 0 0 (by omega) (by omega) (fun p q h=>absurd h (Nat.not_lt_zero p)) (fun p q h=>absurd h (Nat.not_lt_zero q))
end Go.Proofs.YtlfeijjilndljaaDoor.Q
end
