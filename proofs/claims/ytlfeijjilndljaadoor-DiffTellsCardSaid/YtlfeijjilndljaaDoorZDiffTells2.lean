/- Made by programs of the prover: walks of Go functions, the words that they use, and plain laws, each text in a section of its own; no condition of its own. -/
import Derived.Laws.Strings
import Derived.Maps.Ext
import Derived.Maps.OwnSet
import Derived.Maps.OwnOps
import Derived.Maps.Views
import Derived.Below
import Derived.Shelf.Small.Strs
import Derived.Shelf.LaysM
import Derived.Shelf.Strconv.Itoa3
import Derived.Shelf.Strings.Search2
import Derived.Shelf.Strings.Search3
import Derived.Shelf.Strings.Count
import Derived.Shelf.Strings.LastIndex
import Derived.Shelf.Strings.Prefix
import Derived.Test.YtlfeijjilndljaaDoorProg
import Derived.StillTailTactics
import Derived.Lib.TrimU
import Derived.Lib.OthersKept
import Derived.Shelf.Strings.SplitCore
import Derived.Lib.SplitLaws
import Derived.Lib.IndexBytes
import Derived.Shelf.Strings.SlTrimAscii
import Derived.Lib.SmallJoins
import Derived.Lib.SlBytesConst
import Derived.Laws.IdiomStrings
import Derived.Deep.Draws
import Derived.Deep.AppendLies
import Derived.Maps.AppendAt
import Derived.OwnWalk
import Derived.Laws.BytesArg
import Derived.Laws.MakeOwn
import Derived.Laws.OwnMore
import Derived.Deep.OwnRows
import Derived.Tactics
import Derived.Lib.ConvBytes
import Derived.Laws.Slices
import Derived.WalkKit
import Derived.KernelRfl
import Derived.RowKit3
import Derived.Deep.LoopGhost
import Derived.Deep.QuietTactic
import Derived.BigQuiet
import Derived.WideLaws
import Derived.Deep.DeepCutAuto
import Derived.Deep.CutBlock
import Derived.Deep.RegionHeld3
import Derived.Laws.Rows
import Derived.Lib.AppendStr
import Derived.ArgAppend
import Derived.Laws.IdiomCopy
import Derived.OrdersHeld
import Derived.Laws.BitsLemmas
import Derived.RowKit
import Derived.Test.YtlfeijjilndljaaDoorZDiffTells1
section
namespace Go.Proofs.YtlfeijjilndljaaDoorW.Mine
open Go.RowKit
theorem bytesLess_swap:∀ a b:List UInt8,(!(Op.bytesLess a b || a == b)) = Op.bytesLess b a
  | [],[]=>by simp [Op.bytesLess]
  | [],b :: y=>by simp [Op.bytesLess]
  | a :: x,[]=>by simp [Op.bytesLess]
  | a :: x,b :: y=>by
    have ih:=bytesLess_swap x y
    simp only [Op.bytesLess]
    by_cases h1:a < b
    · have h2:¬ b < a:=by rw [UInt8.lt_iff_toNat_lt] at h1 ⊢;omega
      have h3:(b == a) = false:=by
        rw [beq_eq_false_iff_ne]
        rintro rfl
        rw [UInt8.lt_iff_toNat_lt] at h1
        omega
      simp [h1,h2,h3]
    · by_cases h2:b < a
      · have h3:(a == b) = false:=by
          rw [beq_eq_false_iff_ne]
          rintro rfl
          rw [UInt8.lt_iff_toNat_lt] at h2
          omega
        simp [h1,h2,h3]
      · have e:a = b:=by
          apply UInt8.toNat_inj.1
          rw [UInt8.lt_iff_toNat_lt] at h1 h2
          omega
        subst e
        simp [h1,← ih]
theorem gtr_string (t:TypeId) (a b:ByteArray):binOp .gtr t (.string a) (.string b) = pure (.bool (Op.bytesLess b.toList a.toList)):=by
  have:binOp .gtr t (.string a) (.string b) = pure (.bool !(Op.bytesLess a.toList b.toList || a.toList == b.toList)):=by simp [binOp,Op.stringOp]
  rw [this,bytesLess_swap]
theorem leq_string (t:TypeId) (a b:ByteArray):binOp .leq t (.string a) (.string b) = pure (.bool (!Op.bytesLess b.toList a.toList)):=by
  have:binOp .leq t (.string a) (.string b) = pure (.bool (Op.bytesLess a.toList b.toList || a.toList == b.toList)):=by simp [binOp,Op.stringOp]
  rw [this,← bytesLess_swap a.toList b.toList,Bool.not_not]
theorem geq_string (t:TypeId) (a b:ByteArray):binOp .geq t (.string a) (.string b) = pure (.bool (!Op.bytesLess a.toList b.toList)):=by simp [binOp,Op.stringOp]
end Go.Proofs.YtlfeijjilndljaaDoorW.Mine
end
section
namespace Go.Proofs.YtlfeijjilndljaaDoorW.MapOwn
set_option linter.unusedVariables false
set_option linter.unusedSimpArgs false
open Go Go.RowKit Go.Maps Go.Proofs.YtlfeijjilndljaaDoorW.PrintWords
def asIs (v:Value):Option (DataW Value × List MemPlace):=some (.held v,[])
section
variable {α κ:Type} [DecidableEq κ] {lit:κ→Lit} {P:Program} {k:TypeId} {w w':World} {b n:Nat} {Rep:α→Value→Prop} {m:List (κ × α)} {kl:κ}
def get (m:List (κ × α)) (kl:κ):Option α:=(m.find? fun p=>decide (p.1 = kl)).map (·.2)
theorem get_same (m:List (κ × α)) (kl:κ) (x:α):get ((kl,x) :: m) kl = some x:=by simp [get]
theorem get_other (m:List (κ × α)) {kl kl':κ} (x:α) (h:kl' ≠ kl):get ((kl',x) :: m) kl = get m kl:=by
  simp [get,List.find?_cons,h]
def MapAt (lit:κ→Lit) (P:Program) (k:TypeId) (Rep:α→Value→Prop) (w:World) (b n:Nat) (m:List (κ × α)):Prop :=
  ∃ D:DataW Value,w.ownsMap P k asIs b n D∧∀ kl,match get m kl with
    | some y=>Maps.has D (lit kl) = true∧∃ v,Rep y v∧∀ z,D.atKey (lit kl) z = .held v
    | none=>Maps.has D (lit kl) = false∧∀ z,D.atKey (lit kl) z = z
theorem MapAt.hit (h:MapAt lit P k Rep w b n m) {y:α} (hg:get m kl = some y):∃ D:DataW Value,w.ownsMap P k asIs b n D∧Maps.has D (lit kl) = true∧∃ v,Rep y v∧∀ z,D.atKey (lit kl) z = .held v:=by
  obtain ⟨D,h1,h2⟩:=h
  have:=h2 kl
  rw [hg] at this
  exact ⟨D,h1,this⟩
theorem MapAt.miss (h:MapAt lit P k Rep w b n m) (hg:get m kl = none):∃ D:DataW Value,w.ownsMap P k asIs b n D∧Maps.has D (lit kl) = false∧∀ z,D.atKey (lit kl) z = z:=by
  obtain ⟨D,h1,h2⟩:=h
  have:=h2 kl
  rw [hg] at this
  exact ⟨D,h1,this⟩
theorem MapAt.made (lit:κ→Lit) (w:World) (P:Program) (k:TypeId) (Rep:α→Value→Prop):MapAt lit P k Rep (w.alloc (.map #[] 0)) w.heap.size 0 [] :=
  ⟨.map [],World.ownsMap_made w P k asIs,fun kl=>⟨rfl,fun z=>rfl⟩⟩
theorem MapAt.mono (h:MapAt lit P k Rep w b n m) {n':Nat} (hn:n ≤ n'):MapAt lit P k Rep w b n' m:=by
  obtain ⟨D,h1,h2⟩:=h
  exact ⟨D,h1.mono hn,h2⟩
theorem MapAt.lt (h:MapAt lit P k Rep w b n m):b < w.heap.size:=by
  obtain ⟨D,h1,h2⟩:=h
  exact h1.lt
theorem MapAt.kept {row:Option Nat} (h:MapAt lit P k Rep w b n m) (hg:w.grownBy w' row) (hne:some b ≠ row):MapAt lit P k Rep w' b n m:=by
  obtain ⟨D,h1,h2⟩:=h
  exact ⟨D,h1.kept hg hne,h2⟩
theorem MapAt.same (h:MapAt lit P k Rep w b n m) (hb:w'.heap[b]? = w.heap[b]?):MapAt lit P k Rep w' b n m:=by
  obtain ⟨D,⟨es,clock,hes,r⟩,h2⟩:=h
  exact ⟨D,⟨es,clock,hb.trans hes,r⟩,h2⟩
theorem MapAt.below (h:MapAt lit P k Rep w b n m) (hb:Below w.heap.size w w'):MapAt lit P k Rep w' b n m:=h.same (hb.block b h.lt)
theorem MapAt.put (h:MapAt lit P k Rep w b n m) (inj:∀ a b:κ,lit a = lit b→a = b) (K:Keyed P k) {t e:TypeId} (ht:P.underlying t = some (.map k e)) (hn:n < maxLen) {key val:Value} (hkey:keyOf P k key = some (lit kl)) {x:α} (hx:Rep x val) :
    ∃ w',(Instr.mapUpdate t (.map (some b)) key val).run P w = .ok () w'∧MapAt lit P k Rep w' b (n + 1) ((kl,x) :: m)∧w.mapTurned w' b:=by
  obtain ⟨D,h1,h2⟩:=h
  obtain ⟨w1,hrun,hown,hgr⟩:=h1.store K ht hn hkey (show asIs val = some (.held val,[]) from rfl)
  refine ⟨w1,hrun,⟨_,hown,fun kl'=>?_⟩,hgr⟩
  by_cases e:kl = kl'
  · subst e
    rw [get_same]
    exact ⟨Maps.has_put_same h1.isMap (K.key hkey) _,val,hx,fun z=>Maps.atKey_put_same h1.isMap (K.key hkey) _ z⟩
  · rw [get_other _ _ e]
    have:=h2 kl'
    rw [Maps.has_put_other (fun e1=>e (inj _ _ e1).symm)]
    cases hg:get m kl' with
    | none=>rw [hg] at this;exact ⟨this.1,fun z=>(Maps.atKey_put_other (fun e1=>e (inj _ _ e1).symm) _ z).trans (this.2 z)⟩
    | some y =>
      rw [hg] at this
      obtain ⟨a1,v,a2,a3⟩:=this
      exact ⟨a1,v,a2,fun z=>(Maps.atKey_put_other (fun e1=>e (inj _ _ e1).symm) _ z).trans (a3 z)⟩
end
section
variable {α κ:Type} [DecidableEq κ] {lit:κ→Lit} {P:Program} {k:TypeId} {Rep:α→Value→Prop} {m:List (κ × α)} {kl:κ} (w:World) {ops:Array Oper} {rest:List Oper} {o:Oper} {a:Act} {Q:Exit→Act→World→Prop}
theorem wpList_want (hw:Region.wanted o (yielded ops a.tmps) = true) (h:∀ K:Act→World→Prop,(∀ a w,wpList P ops Q rest a w→K a w)→o.wp P a w K Q):wpList P ops Q (o :: rest) a w :=
  wpList_step fun K hK=>by rw [if_pos hw];exact h K hK
theorem MapAt.run_ok_hit {b n:Nat} (h:MapAt lit P k Rep w b n m) (K:Keyed P k) {t e:TypeId} (ht:P.underlying t = some (.map k e)) {z:Value} (hz:(zeroValue e).run P w = .ok z w) {key:Value} (hkey:keyOf P k key = some (lit kl)) {y:α} (hget:get m kl = some y) :
    ∃ v,Rep y v∧(Instr.lookup t (.map (some b)) key true).run P w = .ok (.tuple #[v,.bool true]) w:=by
  obtain ⟨D,h1,h2,v,h3,h4⟩:=h.hit hget
  obtain ⟨v',ps,hrun,hv⟩:=h1.look_ok K ht hz (show asIs z = some (.held z,[]) from rfl) hkey
  rw [h4] at hv
  simp only [asIs,Option.some.injEq,Prod.mk.injEq,DataW.held.injEq] at hv
  exact ⟨v,h3,by rw [hrun,hv.1,h2]⟩
theorem MapAt.run_ok_miss {b n:Nat} (h:MapAt lit P k Rep w b n m) (K:Keyed P k) {t e:TypeId} (ht:P.underlying t = some (.map k e)) {z:Value} (hz:(zeroValue e).run P w = .ok z w) {key:Value} (hkey:keyOf P k key = some (lit kl)) (hget:get m kl = none) :
    (Instr.lookup t (.map (some b)) key true).run P w = .ok (.tuple #[z,.bool false]) w:=by
  obtain ⟨D,h1,h2,h4⟩:=h.miss hget
  obtain ⟨v',ps,hrun,hv⟩:=h1.look_ok K ht hz (show asIs z = some (.held z,[]) from rfl) hkey
  rw [h4] at hv
  simp only [asIs,Option.some.injEq,Prod.mk.injEq,DataW.held.injEq] at hv
  rw [hrun,hv.1,h2]
theorem wp_look_ok_hit (hg:Region.wanted o (yielded ops a.tmps) = true) (mo x:Operand) (t:TypeId) (hop:o.op = Op.lookup t mo x true) (e:TypeId) (K:Keyed P k) (ht:P.underlying t = some (.map k e)) {z:Value} (hz:(zeroValue e).run P w = .ok z w)
    (b n:Nat) (hm:a.eval mo = .map (some b)) (h:MapAt lit P k Rep w b n m) (key:Value) (hx:a.eval x = key) (hkey:keyOf P k key = some (lit kl)) {y:α} (hget:get m kl = some y)
    (hK:∀ v,Rep y v→wpList P ops Q rest (a.put o.dst (.tuple #[v,.bool true])) w):wpList P ops Q (o :: rest) a w:=by
  refine wpList_want w hg fun K' hK'=>?_
  obtain ⟨v,h3,hrun⟩:=h.run_ok_hit w K ht hz hkey hget
  unfold Oper.wp
  simp [execOp,hop,hm,hx,hrun,Result.andThen]
  exact hK' _ _ (hK v h3)
theorem wp_look_ok_miss (hg:Region.wanted o (yielded ops a.tmps) = true) (mo x:Operand) (t:TypeId) (hop:o.op = Op.lookup t mo x true) (e:TypeId) (K:Keyed P k) (ht:P.underlying t = some (.map k e)) {z:Value} (hz:(zeroValue e).run P w = .ok z w)
    (b n:Nat) (hm:a.eval mo = .map (some b)) (h:MapAt lit P k Rep w b n m) (key:Value) (hx:a.eval x = key) (hkey:keyOf P k key = some (lit kl)) (hget:get m kl = none)
    (hK:wpList P ops Q rest (a.put o.dst (.tuple #[z,.bool false])) w):wpList P ops Q (o :: rest) a w:=by
  refine wpList_want w hg fun K' hK'=>?_
  have hrun:=h.run_ok_miss w K ht hz hkey hget
  unfold Oper.wp
  simp [execOp,hop,hm,hx,hrun,Result.andThen]
  exact hK' _ _ hK
theorem wp_put (inj:∀ a b:κ,lit a = lit b→a = b) (hg:Region.wanted o (yielded ops a.tmps) = true) (mo x v:Operand) (t:TypeId) (hop:o.op = Op.mapUpdate t mo x v) (e:TypeId) (K:Keyed P k) (ht:P.underlying t = some (.map k e))
    (b n:Nat) (hm:a.eval mo = .map (some b)) (h:MapAt lit P k Rep w b n m) (hn:n < maxLen) (key val:Value) (hx:a.eval x = key) (hv:a.eval v = val) (hkey:keyOf P k key = some (lit kl)) {y:α} (hy:Rep y val)
    (hK:∀ w',MapAt lit P k Rep w' b (n + 1) ((kl,y) :: m)→w.grownBy w' (some b)→wpList P ops Q rest (a.put o.dst undef) w'):wpList P ops Q (o :: rest) a w:=by
  refine wpList_want w hg fun K' hK'=>?_
  obtain ⟨w',hrun,r1,r2⟩:=h.put inj K ht hn hkey hy
  unfold Oper.wp
  simp [execOp,hop,hm,hx,hv,hrun,Result.andThen]
  exact hK' _ _ (hK w' r1 r2.grown)
end
theorem add_add (ad:Addr) (a b:Nat):(ad.add a).add b = ad.add (a + b):=by
  unfold Addr.add
  by_cases h1:b = 0
  · subst h1;simp
  · by_cases h2:a = 0
    · simp [h1,h2]
    · rw [if_neg h1,if_neg h2,if_neg (by omega)];simp [Nat.add_assoc]
structure Held (w W:World) (g:Nat) (t:TypeId) (cs:Array Value):Prop where
  below:Below w.heap.size w W
  le:w.heap.size ≤ g
  blk:W.heap[g]? = some (.cells cs t (0,0))
section
variable {w W W':World} {g g2:Nat} {t:TypeId} {cs cs':Array Value}
theorem Held.step (h:Held w W g t cs) (hb:Below W.heap.size W W'):Held w W' g t cs:=⟨below_step h.below hb,h.le,blk_below h.blk hb⟩
theorem Held.drewN (h:Held w W g t cs) (q:Nat):Held w (W.drewN q) g t cs:=h.step (pwbN (Below.refl _ _) q)
theorem Held.put (h:Held w W g t cs) (hk:W'.heap[g]? = some (.cells cs' t (0,0))) (hg:W.grownBy W' (some g)):Held w W' g t cs' :=
  ⟨h.below.grown hg h.below.size (fun k hk=>by cases hk;exact h.le),h.le,hk⟩
theorem Held.box (h:Below w.heap.size w W) (hg:g = W.heap.size) (hk:W'.heap[g]? = some (.cells cs t (0,0))) (hb:Below W.heap.size W W'):Held w W' g t cs:=⟨below_step h hb,by rw [hg];exact h.size,hk⟩
end
section
variable {P:Program} {ops:Array Oper} {rest:List Oper} {o:Oper} {a:Act} {Q:Exit→Act→World→Prop} {W:World}
theorem run_loadAt_cells {t:TypeId} {s:TypeDesc} (hu:P.underlying t = some s) (hs:(match s with|.struct _=>true|.array _ _=>true|_=>false) = true) {cs:List Value} (hsz:(P.info? t).map (·.size) = some cs.length) {ad:Addr}
    (hc:∀ j v,cs[j]? = some v→W.cell? (ad.add j) = some v):(Instr.loadAt t (.pointer (some ad))).run P W = .ok (.agg cs.toArray) W:=by
  have hl:=run_loadCells_list (P:=P) W ad cs hc
  cases hq:P.info? t with
  | none=>simp [hq] at hsz
  | some i =>
    have h1:i.size = cs.length:=by simpa [hq] using hsz
    cases s <;> simp at hs <;> simp [Instr.loadAt,Instr.sureAddr,loadVar,isAgg,run_underlying hu,sizeOf,typeInfo,hq,h1,hl,Result.andThen]
theorem load_event (hgd:Region.wanted o (yielded ops a.tmps) = true) {t:TypeId} {p:Operand} (ho:o.op = .load t p) {s:TypeDesc} (hu:P.underlying t = some s) (hs:(match s with|.struct _=>true|.array _ _=>true|_=>false) = true) {ad:Addr} (hp:a.eval p = .pointer (some ad))
    {cs:List Value} (hsz:(P.info? t).map (·.size) = some cs.length) (hc:∀ j v,cs[j]? = some v→W.cell? (ad.add j) = some v) (h:wpList P ops Q rest (a.put o.dst (.agg cs.toArray)) W):wpList P ops Q (o :: rest) a W:=by
  refine wpList_want _ hgd fun K hK=>?_
  unfold Oper.wp execOp
  simp only [ho,hp,Sem.run_bind,run_loadAt_cells hu hs hsz hc,Result.andThen_ok,Sem.run_pure,Oper.upon_value]
  exact hK _ _ h
theorem cells_of_blk {g:Nat} {cs:List Value} {t:TypeId} (h:W.heap[g]? = some (.cells cs.toArray t (0,0))):∀ j v,cs[j]? = some v→W.cell? ((⟨g,0,none⟩:Addr).add j) = some v:=by
  intro j v hv
  have hadd:(⟨g,0,none⟩:Addr).add j = ⟨g,j,none⟩:=by unfold Addr.add;split <;> simp_all
  rw [hadd]
  simp [World.cell?,h,hv]
theorem put_event (hgd:Region.wanted o (yielded ops a.tmps) = true) (hd:o.dst = none) {ty:TypeId} {x y:Operand} (ho:o.op = .store ty x y) {g:Nat} {cells old:Array Value} {t:TypeId} (hx:a.eval x = .pointer (some ⟨g,0,none⟩)) (hy:a.eval y = .agg cells)
    (hg:W.heap[g]? = some (.cells old t (0,0))) (hi:(P.info? ty).map (·.size) = some cells.size) (hold:old.size = cells.size) (h1:cells.toList.all (·.oneCell') = true)
    (h:∀ W',W'.heap[g]? = some (.cells cells t (0,0))→W.grownBy W' (some g)→wpList P ops Q rest a W'):wpList P ops Q (o :: rest) a W:=by
  refine wpList_want _ hgd fun K hK=>?_
  refine wp_store_row ty x y ho g cells hx hy t old hg hi hold (by rw [← h1,Array.all_toList]) ?_
  rw [hd]
  refine hK _ _ (h _ (setRow_heap W g old cells t (0,0) hg) ⟨rfl,rfl,rfl,by simp [World.setRow],fun k hk hne=>?_⟩)
  simp only [World.setRow,Array.getElem?_modify]
  rw [if_neg (fun e=>hne (by rw [e]))]
end
theorem below_grown {B b:Nat} {w w1 w2:World} (h:Below B w w1) (hg:w1.grownBy w2 (some b)) (hB:B ≤ b) (hb:b < w1.heap.size):Below B w w2:=h.grown hg (Nat.le_trans hB (Nat.le_of_lt hb)) (fun k hk=>by cases hk;exact hB)
end Go.Proofs.YtlfeijjilndljaaDoorW.MapOwn
end
section
namespace Go.Proofs
open Go.Shelf
def Tryd.lays137_ren:Go.Shelf.Ren:=⟨fun|137=>80|217=>101|266=>110|n=>n,fun|9=>9|5=>5|3=>3|n=>n,fun|n=>n⟩
theorem Tryd.lays137:Go.Proofs.Lays.n137 Tryd.prog Tryd.lays137_ren:={
  mixed:=by kernel_rfl
  f137:=Tryd.func80.trans (congrArg some (by kernel_rfl))
  f217:=Tryd.func101.trans (congrArg some (by kernel_rfl))
  f266:=Tryd.func110.trans (congrArg some (by kernel_rfl))
  t3:=Tryd.underlying3
  a3:=Tryd.isAgg3
  z3:=Tryd.sizeOf3
  v3:=Tryd.zeroValue3
  t5:=Tryd.underlying5
  a5:=Tryd.isAgg5
  z5:=Tryd.sizeOf5
  v5:=Tryd.zeroValue5
  t9:=Tryd.underlying9
  a9:=Tryd.isAgg9
  z9:=Tryd.sizeOf9
  v9:=Tryd.zeroValue9 }
open Go.RowKit in
theorem Tryd.strings_IndexByte (s:ByteArray) (c:Int) (w:World) :
    Calls Tryd.prog 80 #[.string s,.int .u8 c] w fun e w'=>e = .returned (.int .i64 (Lib.indexByte s.data.toList c.toNat.toUInt8))∧w' = w:=Any.strings_IndexByte Tryd.lays137 s c w
def Tryd.laysM171_ren:Go.Shelf.Ren:=⟨fun|171=>48|243=>82|246=>102|283=>111|284=>112|285=>113|286=>114|129=>121|317=>120|318=>122|319=>123|320=>124|337=>130|338=>131|n=>n,fun|3=>3|9=>9|2=>2|4=>4|171=>120|0=>0|53=>121|37=>33|5=>5|173=>124|212=>131|51=>132|20=>20|213=>133|46=>126|232=>139|233=>140|n=>n,fun|17=>1|18=>2|19=>3|n=>n⟩
open Go.RowKit Go.Sort Go.Lib in
def Tryd.lays219_ren:Go.Shelf.Ren:=⟨fun|219=>129|217=>101|225=>133|224=>134|267=>135|266=>110|314=>136|n=>n,fun|9=>9|3=>3|4=>4|5=>5|46=>126|146=>145|51=>132|n=>n,fun|1=>0|n=>n⟩
open Go.RowKit Go.Lib in
def Tryd.lays143_ren:Go.Shelf.Ren:=⟨fun|143=>119|219=>129|217=>101|225=>133|224=>134|267=>135|266=>110|314=>136|n=>n,fun|9=>9|3=>3|4=>4|5=>5|46=>126|146=>145|51=>132|n=>n,fun|1=>0|n=>n⟩
theorem Tryd.lays143:Go.Proofs.Lays.n143 Tryd.prog Tryd.lays143_ren:={
  mixed:=by kernel_rfl
  f143:=Tryd.func119.trans (congrArg some (by kernel_rfl))
  f217:=Tryd.func101.trans (congrArg some (by kernel_rfl))
  f219:=Tryd.func129.trans (congrArg some (by kernel_rfl))
  f224:=Tryd.func134.trans (congrArg some (by kernel_rfl))
  f225:=Tryd.func133.trans (congrArg some (by kernel_rfl))
  f266:=Tryd.func110.trans (congrArg some (by kernel_rfl))
  f267:=Tryd.func135.trans (congrArg some (by kernel_rfl))
  f314:=Tryd.func136.trans (congrArg some (by kernel_rfl))
  t3:=Tryd.underlying3
  a3:=Tryd.isAgg3
  z3:=Tryd.sizeOf3
  v3:=Tryd.zeroValue3
  t4:=Tryd.underlying4
  a4:=Tryd.isAgg4
  z4:=Tryd.sizeOf4
  v4:=Tryd.zeroValue4
  t5:=Tryd.underlying5
  a5:=Tryd.isAgg5
  z5:=Tryd.sizeOf5
  v5:=Tryd.zeroValue5
  t9:=Tryd.underlying9
  a9:=Tryd.isAgg9
  z9:=Tryd.sizeOf9
  v9:=Tryd.zeroValue9
  t46:=Tryd.underlying126
  a46:=Tryd.isAgg126
  z46:=Tryd.sizeOf126
  v46:=Tryd.zeroValue126
  t51:=Tryd.underlying132
  a51:=Tryd.isAgg132
  z51:=Tryd.sizeOf132
  v51:=Tryd.zeroValue132
  t146:=Tryd.underlying145
  a146:=Tryd.isAgg145
  z146:=Tryd.sizeOf145
  v146:=Tryd.zeroValue145
  g1:=by kernel_rfl }
open Go.RowKit Go.Lib in
theorem Tryd.strings_Index_one (s:ByteArray) (c:UInt8) (w:World) :
    Calls Tryd.prog 119 #[.string s,.string ⟨#[c]⟩] w fun e w'=>e = .returned (.int .i64 (Lib.indexByte s.data.toList c))∧w' = w:=Any.strings_Index_one Tryd.lays143 s c w
def Tryd.lays138_ren:Go.Shelf.Ren:=⟨fun|138=>118|195=>126|218=>128|143=>119|219=>129|217=>101|225=>133|224=>134|267=>135|266=>110|314=>136|n=>n,fun|9=>9|3=>3|4=>4|5=>5|0=>0|46=>126|146=>145|51=>132|n=>n,fun|1=>0|n=>n⟩
theorem Tryd.lays138:Go.Proofs.Lays.n138 Tryd.prog Tryd.lays138_ren:={
  mixed:=by kernel_rfl
  f138:=Tryd.func118.trans (congrArg some (by kernel_rfl))
  f143:=Tryd.func119.trans (congrArg some (by kernel_rfl))
  f195:=Tryd.func126.trans (congrArg some (by kernel_rfl))
  f217:=Tryd.func101.trans (congrArg some (by kernel_rfl))
  f218:=Tryd.func128.trans (congrArg some (by kernel_rfl))
  f219:=Tryd.func129.trans (congrArg some (by kernel_rfl))
  f224:=Tryd.func134.trans (congrArg some (by kernel_rfl))
  f225:=Tryd.func133.trans (congrArg some (by kernel_rfl))
  f266:=Tryd.func110.trans (congrArg some (by kernel_rfl))
  f267:=Tryd.func135.trans (congrArg some (by kernel_rfl))
  f314:=Tryd.func136.trans (congrArg some (by kernel_rfl))
  t0:=Tryd.underlying0
  a0:=Tryd.isAgg0
  z0:=Tryd.sizeOf0
  v0:=Tryd.zeroValue0
  t3:=Tryd.underlying3
  a3:=Tryd.isAgg3
  z3:=Tryd.sizeOf3
  v3:=Tryd.zeroValue3
  t4:=Tryd.underlying4
  a4:=Tryd.isAgg4
  z4:=Tryd.sizeOf4
  v4:=Tryd.zeroValue4
  t5:=Tryd.underlying5
  a5:=Tryd.isAgg5
  z5:=Tryd.sizeOf5
  v5:=Tryd.zeroValue5
  t9:=Tryd.underlying9
  a9:=Tryd.isAgg9
  z9:=Tryd.sizeOf9
  v9:=Tryd.zeroValue9
  t46:=Tryd.underlying126
  a46:=Tryd.isAgg126
  z46:=Tryd.sizeOf126
  v46:=Tryd.zeroValue126
  t51:=Tryd.underlying132
  a51:=Tryd.isAgg132
  z51:=Tryd.sizeOf132
  v51:=Tryd.zeroValue132
  t146:=Tryd.underlying145
  a146:=Tryd.isAgg145
  z146:=Tryd.sizeOf145
  v146:=Tryd.zeroValue145
  g1:=by kernel_rfl }
open Go.RowKit Go.Lib in
theorem Tryd.strings_Count_one (s:ByteArray) (c:UInt8) (w:World) :
    Calls Tryd.prog 118 #[.string s,.string ⟨#[c]⟩] w fun e w'=>e = .returned (.int .i64 (Lib.countByte s.data.toList c))∧w' = w:=Any.strings_Count_one Tryd.lays138 s c w
def Tryd.lays149_ren:Go.Shelf.Ren:=⟨fun|149=>96|222=>108|n=>n,fun|9=>9|5=>5|3=>3|4=>4|n=>n,fun|n=>n⟩
theorem Tryd.lays149:Go.Proofs.Lays.n149 Tryd.prog Tryd.lays149_ren:={
  mixed:=by kernel_rfl
  f149:=Tryd.func96.trans (congrArg some (by kernel_rfl))
  f222:=Tryd.func108.trans (congrArg some (by kernel_rfl))
  t3:=Tryd.underlying3
  a3:=Tryd.isAgg3
  z3:=Tryd.sizeOf3
  v3:=Tryd.zeroValue3
  t4:=Tryd.underlying4
  a4:=Tryd.isAgg4
  z4:=Tryd.sizeOf4
  v4:=Tryd.zeroValue4
  t5:=Tryd.underlying5
  a5:=Tryd.isAgg5
  z5:=Tryd.sizeOf5
  v5:=Tryd.zeroValue5
  t9:=Tryd.underlying9
  a9:=Tryd.isAgg9
  z9:=Tryd.sizeOf9
  v9:=Tryd.zeroValue9 }
open Go.RowKit Go.Lib in
theorem Tryd.strings_LastIndexByte (s:ByteArray) (c:Int) (hs:s.size < 4611686018427387904) (w:World) :
    Calls Tryd.prog 96 #[.string s,.int .u8 c] w fun e w'=>e = .returned (.int .i64 (Lib.lastIndexByte s c))∧w' = w:=Any.strings_LastIndexByte Tryd.lays149 s c hs w
def Tryd.lays99_ren:Go.Shelf.Ren:=⟨fun|99=>76|206=>98|n=>n,fun|9=>9|4=>4|3=>3|n=>n,fun|n=>n⟩
open Go.RowKit Go.Lib in
def Tryd.lays221_ren:Go.Shelf.Ren:=⟨fun|221=>109|268=>117|138=>118|143=>119|195=>126|197=>127|218=>128|219=>129|260=>132|217=>101|225=>133|224=>134|267=>135|266=>110|314=>136|n=>n,fun|9=>9|3=>3|31=>38|4=>4|0=>0|105=>136|21=>21|5=>5|46=>126|119=>141|139=>144|138=>143|146=>145|51=>132|n=>n,fun|1=>0|3=>4|4=>5|n=>n⟩
theorem Tryd.lays221:Go.Proofs.Lays.n221 Tryd.prog Tryd.lays221_ren:={
  mixed:=by kernel_rfl
  f138:=Tryd.func118.trans (congrArg some (by kernel_rfl))
  f143:=Tryd.func119.trans (congrArg some (by kernel_rfl))
  f195:=Tryd.func126.trans (congrArg some (by kernel_rfl))
  f197:=Tryd.func127.trans (congrArg some (by kernel_rfl))
  f217:=Tryd.func101.trans (congrArg some (by kernel_rfl))
  f218:=Tryd.func128.trans (congrArg some (by kernel_rfl))
  f219:=Tryd.func129.trans (congrArg some (by kernel_rfl))
  f221:=Tryd.func109.trans (congrArg some (by kernel_rfl))
  f224:=Tryd.func134.trans (congrArg some (by kernel_rfl))
  f225:=Tryd.func133.trans (congrArg some (by kernel_rfl))
  f260:=Tryd.func132.trans (congrArg some (by kernel_rfl))
  f266:=Tryd.func110.trans (congrArg some (by kernel_rfl))
  f267:=Tryd.func135.trans (congrArg some (by kernel_rfl))
  f268:=Tryd.func117.trans (congrArg some (by kernel_rfl))
  f314:=Tryd.func136.trans (congrArg some (by kernel_rfl))
  t0:=Tryd.underlying0
  a0:=Tryd.isAgg0
  z0:=Tryd.sizeOf0
  v0:=Tryd.zeroValue0
  t3:=Tryd.underlying3
  a3:=Tryd.isAgg3
  z3:=Tryd.sizeOf3
  v3:=Tryd.zeroValue3
  t4:=Tryd.underlying4
  a4:=Tryd.isAgg4
  z4:=Tryd.sizeOf4
  v4:=Tryd.zeroValue4
  t5:=Tryd.underlying5
  a5:=Tryd.isAgg5
  z5:=Tryd.sizeOf5
  v5:=Tryd.zeroValue5
  t9:=Tryd.underlying9
  a9:=Tryd.isAgg9
  z9:=Tryd.sizeOf9
  v9:=Tryd.zeroValue9
  t21:=Tryd.underlying21
  a21:=Tryd.isAgg21
  z21:=Tryd.sizeOf21
  v21:=Tryd.zeroValue21
  t31:=Tryd.underlying38
  a31:=Tryd.isAgg38
  z31:=Tryd.sizeOf38
  v31:=Tryd.zeroValue38
  t46:=Tryd.underlying126
  a46:=Tryd.isAgg126
  z46:=Tryd.sizeOf126
  v46:=Tryd.zeroValue126
  t51:=Tryd.underlying132
  a51:=Tryd.isAgg132
  z51:=Tryd.sizeOf132
  v51:=Tryd.zeroValue132
  t105:=Tryd.underlying136
  a105:=Tryd.isAgg136
  z105:=Tryd.sizeOf136
  v105:=Tryd.zeroValue136
  t119:=Tryd.underlying141
  a119:=Tryd.isAgg141
  z119:=Tryd.sizeOf141
  t138:=Tryd.underlying143
  a138:=Tryd.isAgg143
  z138:=Tryd.sizeOf143
  v138:=Tryd.zeroValue143
  t139:=Tryd.underlying144
  a139:=Tryd.isAgg144
  z139:=Tryd.sizeOf144
  v139:=Tryd.zeroValue144
  t146:=Tryd.underlying145
  a146:=Tryd.isAgg145
  z146:=Tryd.sizeOf145
  v146:=Tryd.zeroValue145
  g1:=by kernel_rfl
  g3:=by kernel_rfl
  g4:=by kernel_rfl }
end Go.Proofs
end
section
namespace Go.Proofs.YtlfeijjilndljaaDoor.All
open Go.RowKit Go.Proofs.YtlfeijjilndljaaDoorW.PrintWords Go.Proofs.YtlfeijjilndljaaDoorW.PrintLast Go.Proofs.YtlfeijjilndljaaDoorW.PrintMore
open Go.Proofs.YtlfeijjilndljaaDoorW.Mine
attribute [local go_sem] gtr_string leq_string geq_string
attribute [local go_sem] max2_int min2_int max_two min_two max_three min_three max_four min_four
set_option linter.unusedVariables false
set_option linter.unusedSimpArgs false
def errW:Option Int→Value
 | none => .nilIface
 | some c => .iface 0 (.int .i64 c)
theorem errW_none:errW none = .nilIface:=rfl
theorem errW_some (c:Int):errW (some c) = .iface 0 (.int .i64 c):=rfl
theorem info5:(Tryd.prog.info? 5).map (fun i=>(i.zero,i.size,i.bytes)) = some (some (.int .u8 0),1,1):=by kernel_rfl
theorem info9:(Tryd.prog.info? 9).map (fun i=>(i.zero,i.size,i.bytes)) = some (some (.string ⟨#[]⟩),1,16):=by kernel_rfl
theorem info56:(Tryd.prog.info? 56).map (fun i=>(i.zero,i.size,i.bytes)) = some (some (.agg #[(.string ⟨#[]⟩),(.int .i64 0),(.int .i64 0),(.string ⟨#[]⟩),(.int .i64 0),(.int .i64 0),(.int .i64 0),(.string ⟨#[]⟩),(.string ⟨#[]⟩),(.int .i64 0),(.int .i64 0),(.slice none 0 0)]),12,144):=by kernel_rfl
theorem info77:(Tryd.prog.info? 77).map (fun i=>(i.zero,i.size,i.bytes)) = some (some (.agg #[(.int .i64 0),(.string ⟨#[]⟩),(.int .i64 0),(.int .i64 0),(.string ⟨#[]⟩),(.int .i64 0),(.int .i64 0),(.int .i64 0),(.string ⟨#[]⟩),(.string ⟨#[]⟩),(.int .i64 0),(.int .i64 0),(.slice none 0 0)]),13,152):=by kernel_rfl
def rd_L1 (xs:List (List ByteArray)) (i:Int):(List ByteArray):=xs.getD i.toNat ([]:List ByteArray)
structure S32 where
 f0:Int
 f1:Int
 f2:Int
 f3:ByteArray
 f4:ByteArray
 f5:Int
 f6:Int
def z32:S32:=⟨(0:Int),(0:Int),(0:Int),(⟨#[]⟩:ByteArray),(⟨#[]⟩:ByteArray),(0:Int),(0:Int)⟩
def k32:Kd S32:=Kd.iso (Kd.pair (Kd.int .i64) (Kd.pair (Kd.int .i64) (Kd.pair (Kd.int .i64) (Kd.pair Kd.string (Kd.pair Kd.string (Kd.pair (Kd.int .i64) (Kd.int .i64))))))) (fun x:S32=>(x.f0,x.f1,x.f2,x.f3,x.f4,x.f5,x.f6))
theorem k32_heap:Kd.Heap k32:=Kd.heap_iso _ (Kd.heap_pair (Kd.heap_int .i64) (Kd.heap_pair (Kd.heap_int .i64) (Kd.heap_pair (Kd.heap_int .i64) (Kd.heap_pair Kd.heap_string (Kd.heap_pair Kd.heap_string (Kd.heap_pair (Kd.heap_int .i64) (Kd.heap_int .i64)))))))
theorem k32_open {w:World} {x:S32} {cs:List Value} (h:k32.K w x cs):cs = [.int .i64 x.f0,.int .i64 x.f1,.int .i64 x.f2,.string x.f3,.string x.f4,.int .i64 x.f5,.int .i64 x.f6]:=by
 obtain ⟨_,_,rfl,rfl,⟨_,_,rfl,rfl,⟨_,_,rfl,rfl,⟨_,_,rfl,rfl,⟨_,_,rfl,rfl,⟨_,_,rfl,rfl,rfl⟩⟩⟩⟩⟩⟩:=h
 exact rfl
theorem k32_mk (w:World) (x:S32)  : k32.K w x [.int .i64 x.f0,.int .i64 x.f1,.int .i64 x.f2,.string x.f3,.string x.f4,.int .i64 x.f5,.int .i64 x.f6]:=⟨[.int .i64 x.f0],[.int .i64 x.f1,.int .i64 x.f2,.string x.f3,.string x.f4,.int .i64 x.f5,.int .i64 x.f6],rfl,rfl,⟨[.int .i64 x.f1],[.int .i64 x.f2,.string x.f3,.string x.f4,.int .i64 x.f5,.int .i64 x.f6],rfl,rfl,⟨[.int .i64 x.f2],[.string x.f3,.string x.f4,.int .i64 x.f5,.int .i64 x.f6],rfl,rfl,⟨[.string x.f3],[.string x.f4,.int .i64 x.f5,.int .i64 x.f6],rfl,rfl,⟨[.string x.f4],[.int .i64 x.f5,.int .i64 x.f6],rfl,rfl,⟨[.int .i64 x.f5],[.int .i64 x.f6],rfl,rfl,rfl⟩⟩⟩⟩⟩⟩
def rd_T32 (xs:List S32) (i:Int):S32:=xs.getD i.toNat z32
def rd_L5 (xs:List (List Int)) (i:Int):(List Int):=xs.getD i.toNat ([]:List Int)
structure S35 where
 f0:ByteArray
 f1:Int
 f2:ByteArray
 f3:S32
 f4:(List Int)
def z35:S35:=⟨(⟨#[]⟩:ByteArray),(0:Int),(⟨#[]⟩:ByteArray),z32,([]:List Int)⟩
def k35:Kd S35:=Kd.iso (Kd.pair Kd.string (Kd.pair (Kd.int .i64) (Kd.pair Kd.string (Kd.pair k32 (Kd.slice 5 (Kd.int .u8)))))) (fun x:S35=>(x.f0,x.f1,x.f2,x.f3,x.f4))
def rd_T35 (xs:List S35) (i:Int):S35:=xs.getD i.toNat z35
def rd_L7 (xs:List (List S35)) (i:Int):(List S35):=xs.getD i.toNat ([]:List S35)
structure S56 where
 f0:ByteArray
 f1:Int
 f2:Int
 f3:ByteArray
 f4:S32
 f5:(List Int)
def z56:S56:=⟨(⟨#[]⟩:ByteArray),(0:Int),(0:Int),(⟨#[]⟩:ByteArray),z32,([]:List Int)⟩
def k56:Kd S56:=Kd.iso (Kd.pair Kd.string (Kd.pair (Kd.int .i64) (Kd.pair (Kd.int .i64) (Kd.pair Kd.string (Kd.pair k32 (Kd.slice 5 (Kd.int .u8))))))) (fun x:S56=>(x.f0,x.f1,x.f2,x.f3,x.f4,x.f5))
theorem k56_heap:Kd.Heap k56:=Kd.heap_iso _ (Kd.heap_pair Kd.heap_string (Kd.heap_pair (Kd.heap_int .i64) (Kd.heap_pair (Kd.heap_int .i64) (Kd.heap_pair Kd.heap_string (Kd.heap_pair k32_heap (Kd.heap_slice 5 (Kd.heap_int .u8)))))))
theorem k56_open {w:World} {x:S56} {cs:List Value} (h:k56.K w x cs):∃ A11 c11,cs = [.string x.f0,.int .i64 x.f1,.int .i64 x.f2,.string x.f3,.int .i64 x.f4.f0,.int .i64 x.f4.f1,.int .i64 x.f4.f2,.string x.f4.f3,.string x.f4.f4,.int .i64 x.f4.f5,.int .i64 x.f4.f6,.slice A11 x.f5.length c11]∧x.f5.length ≤ c11∧(Kd.int .u8).C w A11 x.f5.length x.f5:=by
 obtain ⟨_,_,rfl,rfl,⟨_,_,rfl,rfl,⟨_,_,rfl,rfl,⟨_,_,rfl,rfl,⟨_,_,rfl,s4,⟨A11,c11,rfl,l11,g11⟩⟩⟩⟩⟩⟩:=h
 obtain rfl:=k32_open s4
 exact ⟨A11,c11,rfl,l11,g11⟩
theorem k56_mk (w:World) (x:S56) {A11:Option Addr} {c11:Nat} (l11:x.f5.length ≤ c11) (g11:(Kd.int .u8).C w A11 x.f5.length x.f5):k56.K w x [.string x.f0,.int .i64 x.f1,.int .i64 x.f2,.string x.f3,.int .i64 x.f4.f0,.int .i64 x.f4.f1,.int .i64 x.f4.f2,.string x.f4.f3,.string x.f4.f4,.int .i64 x.f4.f5,.int .i64 x.f4.f6,.slice A11 x.f5.length c11]:=⟨[.string x.f0],[.int .i64 x.f1,.int .i64 x.f2,.string x.f3,.int .i64 x.f4.f0,.int .i64 x.f4.f1,.int .i64 x.f4.f2,.string x.f4.f3,.string x.f4.f4,.int .i64 x.f4.f5,.int .i64 x.f4.f6,.slice A11 x.f5.length c11],rfl,rfl,⟨[.int .i64 x.f1],[.int .i64 x.f2,.string x.f3,.int .i64 x.f4.f0,.int .i64 x.f4.f1,.int .i64 x.f4.f2,.string x.f4.f3,.string x.f4.f4,.int .i64 x.f4.f5,.int .i64 x.f4.f6,.slice A11 x.f5.length c11],rfl,rfl,⟨[.int .i64 x.f2],[.string x.f3,.int .i64 x.f4.f0,.int .i64 x.f4.f1,.int .i64 x.f4.f2,.string x.f4.f3,.string x.f4.f4,.int .i64 x.f4.f5,.int .i64 x.f4.f6,.slice A11 x.f5.length c11],rfl,rfl,⟨[.string x.f3],[.int .i64 x.f4.f0,.int .i64 x.f4.f1,.int .i64 x.f4.f2,.string x.f4.f3,.string x.f4.f4,.int .i64 x.f4.f5,.int .i64 x.f4.f6,.slice A11 x.f5.length c11],rfl,rfl,⟨[.int .i64 x.f4.f0,.int .i64 x.f4.f1,.int .i64 x.f4.f2,.string x.f4.f3,.string x.f4.f4,.int .i64 x.f4.f5,.int .i64 x.f4.f6],[.slice A11 x.f5.length c11],rfl,(k32_mk w x.f4 ),⟨A11,c11,rfl,l11,g11⟩⟩⟩⟩⟩⟩
theorem k56_openF {W:World} {ok:Nat→Prop} {x:S56} {cs:List Value} (h:Kd.FK k56 W ok x cs):∃ A11 c11,cs = [.string x.f0,.int .i64 x.f1,.int .i64 x.f2,.string x.f3,.int .i64 x.f4.f0,.int .i64 x.f4.f1,.int .i64 x.f4.f2,.string x.f4.f3,.string x.f4.f4,.int .i64 x.f4.f5,.int .i64 x.f4.f6,.slice A11 x.f5.length c11]∧x.f5.length ≤ c11∧Kd.F (Kd.int .u8) W ok A11 x.f5.length x.f5:=by
 obtain ⟨A11,c11,rfl,l11,_⟩:=k56_open (Kd.FK_now h)
 exact ⟨A11,c11,rfl,l11,(fun W' hW=>by obtain ⟨A11_,c11_,he,l11_,g11_⟩:=k56_open (h W' hW);injection (Option.some.inj (show some (Value.slice A11 x.f5.length c11) = some (Value.slice A11_ x.f5.length c11_) from congrArg (fun l=>l[11]?) he)) with ha_ _ _;rw [ha_];exact g11_)⟩
theorem k56_mkF (W:World) (ok:Nat→Prop) (x:S56) {A11:Option Addr} {c11:Nat} (l11:x.f5.length ≤ c11) (g11:Kd.F (Kd.int .u8) W ok A11 x.f5.length x.f5):Kd.FK k56 W ok x [.string x.f0,.int .i64 x.f1,.int .i64 x.f2,.string x.f3,.int .i64 x.f4.f0,.int .i64 x.f4.f1,.int .i64 x.f4.f2,.string x.f4.f3,.string x.f4.f4,.int .i64 x.f4.f5,.int .i64 x.f4.f6,.slice A11 x.f5.length c11]:=fun W2 hW=>k56_mk W2 x l11 (g11 W2 hW)
def rd_T56 (xs:List S56) (i:Int):S56:=xs.getD i.toNat z56
theorem at_T56 {w:World} {A:Option Addr} {n:Nat} {xs:List S56} (h:Kd.C k56 w A n xs) (i:Int) (h0:0 ≤ i) (h1:i < n):∃ ad A11 c11,A = some ad∧w.cell? (ad.add (i.toNat * 12)) = some (.string (rd_T56 xs i).f0)∧w.cell? ⟨(ad.add (i.toNat * 12)).block,(ad.add (i.toNat * 12)).off + 1,none⟩ = some (.int .i64 (rd_T56 xs i).f1)∧w.cell? ⟨(ad.add (i.toNat * 12)).block,(ad.add (i.toNat * 12)).off + 2,none⟩ = some (.int .i64 (rd_T56 xs i).f2)∧w.cell? ⟨(ad.add (i.toNat * 12)).block,(ad.add (i.toNat * 12)).off + 3,none⟩ = some (.string (rd_T56 xs i).f3)∧w.cell? ⟨(ad.add (i.toNat * 12)).block,(ad.add (i.toNat * 12)).off + 4,none⟩ = some (.int .i64 (rd_T56 xs i).f4.f0)∧w.cell? ⟨(ad.add (i.toNat * 12)).block,(ad.add (i.toNat * 12)).off + 5,none⟩ = some (.int .i64 (rd_T56 xs i).f4.f1)∧w.cell? ⟨(ad.add (i.toNat * 12)).block,(ad.add (i.toNat * 12)).off + 6,none⟩ = some (.int .i64 (rd_T56 xs i).f4.f2)∧w.cell? ⟨(ad.add (i.toNat * 12)).block,(ad.add (i.toNat * 12)).off + 7,none⟩ = some (.string (rd_T56 xs i).f4.f3)∧w.cell? ⟨(ad.add (i.toNat * 12)).block,(ad.add (i.toNat * 12)).off + 8,none⟩ = some (.string (rd_T56 xs i).f4.f4)∧w.cell? ⟨(ad.add (i.toNat * 12)).block,(ad.add (i.toNat * 12)).off + 9,none⟩ = some (.int .i64 (rd_T56 xs i).f4.f5)∧w.cell? ⟨(ad.add (i.toNat * 12)).block,(ad.add (i.toNat * 12)).off + 10,none⟩ = some (.int .i64 (rd_T56 xs i).f4.f6)∧w.cell? ⟨(ad.add (i.toNat * 12)).block,(ad.add (i.toNat * 12)).off + 11,none⟩ = some (.slice A11 (rd_T56 xs i).f5.length c11)∧(rd_T56 xs i).f5.length ≤ c11∧(Kd.int .u8).C w A11 (rd_T56 xs i).f5.length (rd_T56 xs i).f5:=by
 obtain ⟨ad,c,e,_,hK,hc0⟩:=Kd.C_get h z56 i h0 h1
 have hc:∀ j u,c[j]? = some u→w.cell? (ad.add (i.toNat * 12 + j)) = some u:=hc0
 obtain ⟨A11,c11,rfl,l11,g11⟩:=k56_open hK
 exact ⟨ad,A11,c11,e,hc 0 _ rfl,by rw [← add_field _ _ 1 (by omega)];exact hc 1 _ rfl,by rw [← add_field _ _ 2 (by omega)];exact hc 2 _ rfl,by rw [← add_field _ _ 3 (by omega)];exact hc 3 _ rfl,by rw [← add_field _ _ 4 (by omega)];exact hc 4 _ rfl,by rw [← add_field _ _ 5 (by omega)];exact hc 5 _ rfl,by rw [← add_field _ _ 6 (by omega)];exact hc 6 _ rfl,by rw [← add_field _ _ 7 (by omega)];exact hc 7 _ rfl,by rw [← add_field _ _ 8 (by omega)];exact hc 8 _ rfl,by rw [← add_field _ _ 9 (by omega)];exact hc 9 _ rfl,by rw [← add_field _ _ 10 (by omega)];exact hc 10 _ rfl,by rw [← add_field _ _ 11 (by omega)];exact hc 11 _ rfl,l11,g11⟩
def rd_L9 (xs:List (List S56)) (i:Int):(List S56):=xs.getD i.toNat ([]:List S56)
structure S77 where
 f0:Int
 f1:S56
def z77:S77:=⟨(0:Int),z56⟩
def k77:Kd S77:=Kd.iso (Kd.pair (Kd.int .i64) k56) (fun x:S77=>(x.f0,x.f1))
theorem k77_open {w:World} {x:S77} {cs:List Value} (h:k77.K w x cs):∃ A12 c12,cs = [.int .i64 x.f0,.string x.f1.f0,.int .i64 x.f1.f1,.int .i64 x.f1.f2,.string x.f1.f3,.int .i64 x.f1.f4.f0,.int .i64 x.f1.f4.f1,.int .i64 x.f1.f4.f2,.string x.f1.f4.f3,.string x.f1.f4.f4,.int .i64 x.f1.f4.f5,.int .i64 x.f1.f4.f6,.slice A12 x.f1.f5.length c12]∧x.f1.f5.length ≤ c12∧(Kd.int .u8).C w A12 x.f1.f5.length x.f1.f5:=by
 obtain ⟨_,_,rfl,rfl,s1⟩:=h
 obtain ⟨A12,c12,rfl,l12,g12⟩:=k56_open s1
 exact ⟨A12,c12,rfl,l12,g12⟩
theorem k77_mk (w:World) (x:S77) {A12:Option Addr} {c12:Nat} (l12:x.f1.f5.length ≤ c12) (g12:(Kd.int .u8).C w A12 x.f1.f5.length x.f1.f5):k77.K w x [.int .i64 x.f0,.string x.f1.f0,.int .i64 x.f1.f1,.int .i64 x.f1.f2,.string x.f1.f3,.int .i64 x.f1.f4.f0,.int .i64 x.f1.f4.f1,.int .i64 x.f1.f4.f2,.string x.f1.f4.f3,.string x.f1.f4.f4,.int .i64 x.f1.f4.f5,.int .i64 x.f1.f4.f6,.slice A12 x.f1.f5.length c12]:=⟨[.int .i64 x.f0],[.string x.f1.f0,.int .i64 x.f1.f1,.int .i64 x.f1.f2,.string x.f1.f3,.int .i64 x.f1.f4.f0,.int .i64 x.f1.f4.f1,.int .i64 x.f1.f4.f2,.string x.f1.f4.f3,.string x.f1.f4.f4,.int .i64 x.f1.f4.f5,.int .i64 x.f1.f4.f6,.slice A12 x.f1.f5.length c12],rfl,rfl,(k56_mk w x.f1 l12 g12)⟩
theorem k77_mkF (W:World) (ok:Nat→Prop) (x:S77) {A12:Option Addr} {c12:Nat} (l12:x.f1.f5.length ≤ c12) (g12:Kd.F (Kd.int .u8) W ok A12 x.f1.f5.length x.f1.f5):Kd.FK k77 W ok x [.int .i64 x.f0,.string x.f1.f0,.int .i64 x.f1.f1,.int .i64 x.f1.f2,.string x.f1.f3,.int .i64 x.f1.f4.f0,.int .i64 x.f1.f4.f1,.int .i64 x.f1.f4.f2,.string x.f1.f4.f3,.string x.f1.f4.f4,.int .i64 x.f1.f4.f5,.int .i64 x.f1.f4.f6,.slice A12 x.f1.f5.length c12]:=fun W2 hW=>k77_mk W2 x l12 (g12 W2 hW)
def rd_T77 (xs:List S77) (i:Int):S77:=xs.getD i.toNat z77
def rd_L11 (xs:List (List S77)) (i:Int):(List S77):=xs.getD i.toNat ([]:List S77)
def rd_L12 (xs:List (List Int)) (i:Int):(List Int):=xs.getD i.toNat ([]:List Int)
end Go.Proofs.YtlfeijjilndljaaDoor.All
end
section
namespace Go.Proofs.YtlfeijjilndljaaDoorW.Blks
open Go Go.RowKit Go.Proofs.YtlfeijjilndljaaDoorW.PrintWords Go.Proofs.YtlfeijjilndljaaDoorW.MapOwn
structure Blks (w W:World) (L:List (Nat × Obj)):Prop where
  below:Below w.heap.size w W
  own:∀ p ∈ L,w.heap.size ≤ p.1∧W.heap[p.1]? = some p.2
  apart:(L.map Prod.fst).Nodup
section
variable {w W W':World} {L:List (Nat × Obj)} {g:Nat} {o o':Obj} {j:Nat}
theorem grownBy_setCell (W:World) (g i:Nat) (v:Value):W.grownBy (W.setCell ⟨g,i,none⟩ v) (some g) :=
  ⟨rfl,rfl,rfl,by simp [World.setCell],fun k hk hne=>Below.heap_setCell W ⟨g,i,none⟩ v k (fun e=>hne (by rw [e]))⟩
end
end Go.Proofs.YtlfeijjilndljaaDoorW.Blks
end
section
namespace Go.Proofs.YtlfeijjilndljaaDoor.All
open Go.RowKit Go.Proofs.YtlfeijjilndljaaDoorW.PrintWords Go.Proofs.YtlfeijjilndljaaDoorW.PrintLast Go.Proofs.YtlfeijjilndljaaDoorW.PrintMore
open Go.Proofs.YtlfeijjilndljaaDoorW.Mine
attribute [local go_sem] gtr_string leq_string geq_string
attribute [local go_sem] max2_int min2_int max_two min_two max_three min_three max_four min_four
set_option linter.unusedVariables false
set_option linter.unusedSimpArgs false
theorem eqK32 (d:Nat) (w:World) (x0 y0:Int) (x1 y1:Int) (x2 y2:Int) (x3 y3:ByteArray) (x4 y4:ByteArray) (x5 y5:Int) (x6 y6:Int):(Op.equalIn (d + 2) 32 (.agg #[.int .i64 x0,.int .i64 x1,.int .i64 x2,.string x3,.string x4,.int .i64 x5,.int .i64 x6]) (.agg #[.int .i64 y0,.int .i64 y1,.int .i64 y2,.string y3,.string y4,.int .i64 y5,.int .i64 y6])).run Tryd.prog w = .ok (x0 == y0 && (x1 == y1 && (x2 == y2 && (x3.toList == y3.toList && (x4.toList == y4.toList && (x5 == y5 && (x6 == y6))))))) w:=by
 refine eqA_of Tryd.underlying32 (by kernel_rfl) ?_
 refine eqf_cons (by rfl) (by go_simp;rfl) (by go_simp;rfl) (by go_simp) ?_
 refine eqf_cons (by rfl) (by go_simp;rfl) (by go_simp;rfl) (by go_simp) ?_
 refine eqf_cons (by rfl) (by go_simp;rfl) (by go_simp;rfl) (by go_simp) ?_
 refine eqf_cons (by rfl) (by go_simp;rfl) (by go_simp;rfl) (by go_simp) ?_
 refine eqf_cons (by rfl) (by go_simp;rfl) (by go_simp;rfl) (by go_simp) ?_
 refine eqf_cons (by rfl) (by go_simp;rfl) (by go_simp;rfl) (by go_simp) ?_
 exact eqf_last (by rfl) (by go_simp;rfl) (by go_simp;rfl) (by go_simp)
theorem sz56:(Tryd.prog.info? 56).map (·.size) = some 12:=by kernel_rfl
theorem elem56 {w:World} {A:Option Addr} {l:List S56} (h:Kd.C k56 w A l.length l) (n:Nat) (hn:n < l.length):∃ ad A11 c11,A = some ad∧(∀ j v,([.string (rd_T56 l (n:Int)).f0,.int .i64 (rd_T56 l (n:Int)).f1,.int .i64 (rd_T56 l (n:Int)).f2,.string (rd_T56 l (n:Int)).f3,.int .i64 (rd_T56 l (n:Int)).f4.f0,.int .i64 (rd_T56 l (n:Int)).f4.f1,.int .i64 (rd_T56 l (n:Int)).f4.f2,.string (rd_T56 l (n:Int)).f4.f3,.string (rd_T56 l (n:Int)).f4.f4,.int .i64 (rd_T56 l (n:Int)).f4.f5,.int .i64 (rd_T56 l (n:Int)).f4.f6,.slice A11 (rd_T56 l (n:Int)).f5.length c11]:List Value)[j]? = some v→w.cell? ((ad.add (n * 12)).add j) = some v)∧(rd_T56 l (n:Int)).f5.length ≤ c11∧(Kd.int .u8).C w A11 (rd_T56 l (n:Int)).f5.length (rd_T56 l (n:Int)).f5:=by
 obtain ⟨ad,c,e,_,hK,hc0⟩:=Kd.C_get h z56 (n:Int) (Int.natCast_nonneg _) (by omega)
 obtain ⟨A11,c11,rfl,l11,g11⟩:=k56_open hK
 refine ⟨ad,A11,c11,e,fun j v hv=>?_,l11,g11⟩
 have:=hc0 j v hv
 rw [Int.toNat_natCast] at this
 rw [← this]
 congr 1
 show (ad.add (n * 12)).add j = ad.add (n * 12 + j)
 exact Go.Proofs.YtlfeijjilndljaaDoorW.MapOwn.add_add ad (n * 12) j
theorem sz77:(Tryd.prog.info? 77).map (·.size) = some 13:=by kernel_rfl
theorem elem77 {w:World} {A:Option Addr} {l:List S77} (h:Kd.C k77 w A l.length l) (n:Nat) (hn:n < l.length):∃ ad A12 c12,A = some ad∧(∀ j v,([.int .i64 (rd_T77 l (n:Int)).f0,.string (rd_T77 l (n:Int)).f1.f0,.int .i64 (rd_T77 l (n:Int)).f1.f1,.int .i64 (rd_T77 l (n:Int)).f1.f2,.string (rd_T77 l (n:Int)).f1.f3,.int .i64 (rd_T77 l (n:Int)).f1.f4.f0,.int .i64 (rd_T77 l (n:Int)).f1.f4.f1,.int .i64 (rd_T77 l (n:Int)).f1.f4.f2,.string (rd_T77 l (n:Int)).f1.f4.f3,.string (rd_T77 l (n:Int)).f1.f4.f4,.int .i64 (rd_T77 l (n:Int)).f1.f4.f5,.int .i64 (rd_T77 l (n:Int)).f1.f4.f6,.slice A12 (rd_T77 l (n:Int)).f1.f5.length c12]:List Value)[j]? = some v→w.cell? ((ad.add (n * 13)).add j) = some v)∧(rd_T77 l (n:Int)).f1.f5.length ≤ c12∧(Kd.int .u8).C w A12 (rd_T77 l (n:Int)).f1.f5.length (rd_T77 l (n:Int)).f1.f5:=by
 obtain ⟨ad,c,e,_,hK,hc0⟩:=Kd.C_get h z77 (n:Int) (Int.natCast_nonneg _) (by omega)
 obtain ⟨A12,c12,rfl,l12,g12⟩:=k77_open hK
 refine ⟨ad,A12,c12,e,fun j v hv=>?_,l12,g12⟩
 have:=hc0 j v hv
 rw [Int.toNat_natCast] at this
 rw [← this]
 congr 1
 show (ad.add (n * 13)).add j = ad.add (n * 13 + j)
 exact Go.Proofs.YtlfeijjilndljaaDoorW.MapOwn.add_add ad (n * 13) j
def cmp_isNaN_string.f (a0:ByteArray):Option (Bool):=some (a0.toList != a0.toList)
set_option maxHeartbeats 8000000 in
set_option maxRecDepth 100000 in
theorem cmp_isNaN_string.calls (a0:ByteArray) (r:Bool) (w:World) (h:cmp_isNaN_string.f a0 = some r) :
 Calls Tryd.prog 116 #[.string a0] w fun e w'=>e = .returned (.bool r)∧Drawn0 w w':=by
 have H:(some (a0.toList != a0.toList)) = some r:=h;clear h;obtain rfl:=Option.some.inj H;go_enter Tryd.func116,Tryd.ntmps116;go_wp2;go_ret
 exact ⟨by first|rfl|(simp;done)|(simp [*];done),by repeat (first|exact Drawn0.refl _|apply Drawn0.step)⟩
def cmp_Compare_string.f (a0:ByteArray) (a1:ByteArray):Option (Int):=(cmp_isNaN_string.f a0).bind fun t101=>((cmp_isNaN_string.f a1).bind fun t102=>(if t101 = true then (if t102 = true then (some 0) else (some (-1))) else (if t102 = true then (some 1) else (if (Op.bytesLess a0.toList a1.toList) = true then (some (-1)) else (if (Op.bytesLess a1.toList a0.toList) = true then (some 1) else (some 0))))))
set_option maxHeartbeats 8000000 in
set_option maxRecDepth 100000 in
theorem cmp_Compare_string.calls (a0:ByteArray) (a1:ByteArray) (r:Int) (w:World) (h:cmp_Compare_string.f a0 a1 = some r) :
 Calls Tryd.prog 106 #[.string a0,.string a1] w fun e w'=>e = .returned (.int .i64 r)∧Drawn0 w w':=by
 have H:((cmp_isNaN_string.f a0).bind fun t101=>((cmp_isNaN_string.f a1).bind fun t102=>(if t101 = true then (if t102 = true then (some 0) else (some (-1))) else (if t102 = true then (some 1) else (if (Op.bytesLess a0.toList a1.toList) = true then (some (-1)) else (if (Op.bytesLess a1.toList a0.toList) = true then (some 1) else (some 0))))))) = some r:=h;clear h;replace H:=Option.bind_eq_some_iff.mp H;obtain ⟨t101,A30,H⟩:=H;replace H:((cmp_isNaN_string.f a1).bind fun t102=>(if t101 = true then (if t102 = true then (some 0) else (some (-1))) else (if t102 = true then (some 1) else (if (Op.bytesLess a0.toList a1.toList) = true then (some (-1)) else (if (Op.bytesLess a1.toList a0.toList) = true then (some 1) else (some 0)))))) = some r:=H;have A3:=Aside0.mk A30;clear A30;replace H:=Option.bind_eq_some_iff.mp H;obtain ⟨t102,A40,H⟩:=H;replace H:(if t101 = true then (if t102 = true then (some 0) else (some (-1))) else (if t102 = true then (some 1) else (if (Op.bytesLess a0.toList a1.toList) = true then (some (-1)) else (if (Op.bytesLess a1.toList a0.toList) = true then (some 1) else (some 0))))) = some r:=H;have A4:=Aside0.mk A40;clear A40;by_cases c5:t101 = true
 ·subst c5;have H1:(if t102 = true then (some 0) else (some (-1))) = some r:=by rw [if_pos rfl] at H;exact H
  clear H;have H:=H1;clear H1;by_cases c6:t102 = true
  ·subst c6;have H1:(some 0) = some r:=by rw [if_pos rfl] at H;exact H
   clear H;have H:=H1;clear H1;obtain rfl:=Option.some.inj H;go_enter Tryd.func106,Tryd.ntmps106;go_wp2_with (first|((with_reducible refine gate_callee (f:=116) rfl ?_);refine goesL_ (some 8) rfl rfl Tryd.func116 (by kernel_rfl) rfl #[.string a0] rfl (by (try simp only [List.map_toArray,List.map_cons,List.map_nil]);first|done|rfl|(simp only [List.length_drop,List.length_take];rfl)) ?_;(with_reducible refine (cmp_isNaN_string.calls a0 true _ A3.out).mono ?_);rintro e w' ⟨rfl,⟨nd,rfl⟩⟩;refine ⟨_,rfl,?_⟩)|((with_reducible refine gate_callee (f:=116) rfl ?_);refine goesL_ (some 10) rfl rfl Tryd.func116 (by kernel_rfl) rfl #[.string a1] rfl (by (try simp only [List.map_toArray,List.map_cons,List.map_nil]);first|done|rfl|(simp only [List.length_drop,List.length_take];rfl)) ?_;(with_reducible refine (cmp_isNaN_string.calls a1 true _ A4.out).mono ?_);rintro e w' ⟨rfl,⟨nd,rfl⟩⟩;refine ⟨_,rfl,?_⟩))
   go_ret
   exact ⟨by first|rfl|(simp;done)|(simp [*];done),by repeat (first|exact Drawn0.refl _|apply Drawn0.step)⟩
  ·replace c6:=Bool.eq_false_iff.mpr c6;subst c6;have H1:(some (-1)) = some r:=by rw [if_neg (show ¬ (false = true) by decide)] at H;exact H
   clear H;have H:=H1;clear H1;obtain rfl:=Option.some.inj H;go_enter Tryd.func106,Tryd.ntmps106;go_wp2_with (first|((with_reducible refine gate_callee (f:=116) rfl ?_);refine goesL_ (some 8) rfl rfl Tryd.func116 (by kernel_rfl) rfl #[.string a0] rfl (by (try simp only [List.map_toArray,List.map_cons,List.map_nil]);first|done|rfl|(simp only [List.length_drop,List.length_take];rfl)) ?_;(with_reducible refine (cmp_isNaN_string.calls a0 true _ A3.out).mono ?_);rintro e w' ⟨rfl,⟨nd,rfl⟩⟩;refine ⟨_,rfl,?_⟩)|((with_reducible refine gate_callee (f:=116) rfl ?_);refine goesL_ (some 10) rfl rfl Tryd.func116 (by kernel_rfl) rfl #[.string a1] rfl (by (try simp only [List.map_toArray,List.map_cons,List.map_nil]);first|done|rfl|(simp only [List.length_drop,List.length_take];rfl)) ?_;(with_reducible refine (cmp_isNaN_string.calls a1 false _ A4.out).mono ?_);rintro e w' ⟨rfl,⟨nd,rfl⟩⟩;refine ⟨_,rfl,?_⟩))
   go_ret
   exact ⟨by first|rfl|(simp;done)|(simp [*];done),by repeat (first|exact Drawn0.refl _|apply Drawn0.step)⟩
 ·replace c5:=Bool.eq_false_iff.mpr c5;subst c5;have H1:(if t102 = true then (some 1) else (if (Op.bytesLess a0.toList a1.toList) = true then (some (-1)) else (if (Op.bytesLess a1.toList a0.toList) = true then (some 1) else (some 0)))) = some r:=by rw [if_neg (show ¬ (false = true) by decide)] at H;exact H
  clear H;have H:=H1;clear H1;by_cases c7:t102 = true
  ·subst c7;have H1:(some 1) = some r:=by rw [if_pos rfl] at H;exact H
   clear H;have H:=H1;clear H1;obtain rfl:=Option.some.inj H;go_enter Tryd.func106,Tryd.ntmps106;go_wp2_with (first|((with_reducible refine gate_callee (f:=116) rfl ?_);refine goesL_ (some 8) rfl rfl Tryd.func116 (by kernel_rfl) rfl #[.string a0] rfl (by (try simp only [List.map_toArray,List.map_cons,List.map_nil]);first|done|rfl|(simp only [List.length_drop,List.length_take];rfl)) ?_;(with_reducible refine (cmp_isNaN_string.calls a0 false _ A3.out).mono ?_);rintro e w' ⟨rfl,⟨nd,rfl⟩⟩;refine ⟨_,rfl,?_⟩)|((with_reducible refine gate_callee (f:=116) rfl ?_);refine goesL_ (some 10) rfl rfl Tryd.func116 (by kernel_rfl) rfl #[.string a1] rfl (by (try simp only [List.map_toArray,List.map_cons,List.map_nil]);first|done|rfl|(simp only [List.length_drop,List.length_take];rfl)) ?_;(with_reducible refine (cmp_isNaN_string.calls a1 true _ A4.out).mono ?_);rintro e w' ⟨rfl,⟨nd,rfl⟩⟩;refine ⟨_,rfl,?_⟩))
   go_ret
   exact ⟨by first|rfl|(simp;done)|(simp [*];done),by repeat (first|exact Drawn0.refl _|apply Drawn0.step)⟩
  ·replace c7:=Bool.eq_false_iff.mpr c7;subst c7;have H1:(if (Op.bytesLess a0.toList a1.toList) = true then (some (-1)) else (if (Op.bytesLess a1.toList a0.toList) = true then (some 1) else (some 0))) = some r:=by rw [if_neg (show ¬ (false = true) by decide)] at H;exact H
   clear H;have H:=H1;clear H1;by_cases c8:(Op.bytesLess a0.toList a1.toList) = true
   ·rw [if_pos c8] at H;have c8b0:(Op.bytesLess a0.toList a1.toList) = true:=c8;clear c8;obtain rfl:=Option.some.inj H;go_enter Tryd.func106,Tryd.ntmps106;go_wp2_with (first|((with_reducible refine gate_callee (f:=116) rfl ?_);refine goesL_ (some 8) rfl rfl Tryd.func116 (by kernel_rfl) rfl #[.string a0] rfl (by (try simp only [List.map_toArray,List.map_cons,List.map_nil]);first|done|rfl|(simp only [List.length_drop,List.length_take];rfl)) ?_;(with_reducible refine (cmp_isNaN_string.calls a0 false _ A3.out).mono ?_);rintro e w' ⟨rfl,⟨nd,rfl⟩⟩;refine ⟨_,rfl,?_⟩)|((with_reducible refine gate_callee (f:=116) rfl ?_);refine goesL_ (some 10) rfl rfl Tryd.func116 (by kernel_rfl) rfl #[.string a1] rfl (by (try simp only [List.map_toArray,List.map_cons,List.map_nil]);first|done|rfl|(simp only [List.length_drop,List.length_take];rfl)) ?_;(with_reducible refine (cmp_isNaN_string.calls a1 false _ A4.out).mono ?_);rintro e w' ⟨rfl,⟨nd,rfl⟩⟩;refine ⟨_,rfl,?_⟩))
    go_ret
    exact ⟨by first|rfl|(simp;done)|(simp [*];done),by repeat (first|exact Drawn0.refl _|apply Drawn0.step)⟩
   ·rw [if_neg c8] at H;have c8b0:(Op.bytesLess a0.toList a1.toList) = false:=by simpa using c8
    clear c8;by_cases c9:(Op.bytesLess a1.toList a0.toList) = true
    ·rw [if_pos c9] at H;have c9b0:(Op.bytesLess a1.toList a0.toList) = true:=c9;clear c9;obtain rfl:=Option.some.inj H;go_enter Tryd.func106,Tryd.ntmps106;go_wp2_with (first|((with_reducible refine gate_callee (f:=116) rfl ?_);refine goesL_ (some 8) rfl rfl Tryd.func116 (by kernel_rfl) rfl #[.string a0] rfl (by (try simp only [List.map_toArray,List.map_cons,List.map_nil]);first|done|rfl|(simp only [List.length_drop,List.length_take];rfl)) ?_;(with_reducible refine (cmp_isNaN_string.calls a0 false _ A3.out).mono ?_);rintro e w' ⟨rfl,⟨nd,rfl⟩⟩;refine ⟨_,rfl,?_⟩)|((with_reducible refine gate_callee (f:=116) rfl ?_);refine goesL_ (some 10) rfl rfl Tryd.func116 (by kernel_rfl) rfl #[.string a1] rfl (by (try simp only [List.map_toArray,List.map_cons,List.map_nil]);first|done|rfl|(simp only [List.length_drop,List.length_take];rfl)) ?_;(with_reducible refine (cmp_isNaN_string.calls a1 false _ A4.out).mono ?_);rintro e w' ⟨rfl,⟨nd,rfl⟩⟩;refine ⟨_,rfl,?_⟩))
     go_ret
     exact ⟨by first|rfl|(simp;done)|(simp [*];done),by repeat (first|exact Drawn0.refl _|apply Drawn0.step)⟩
    ·rw [if_neg c9] at H;have c9b0:(Op.bytesLess a1.toList a0.toList) = false:=by simpa using c9
     clear c9;obtain rfl:=Option.some.inj H;go_enter Tryd.func106,Tryd.ntmps106;go_wp2_with (first|((with_reducible refine gate_callee (f:=116) rfl ?_);refine goesL_ (some 8) rfl rfl Tryd.func116 (by kernel_rfl) rfl #[.string a0] rfl (by (try simp only [List.map_toArray,List.map_cons,List.map_nil]);first|done|rfl|(simp only [List.length_drop,List.length_take];rfl)) ?_;(with_reducible refine (cmp_isNaN_string.calls a0 false _ A3.out).mono ?_);rintro e w' ⟨rfl,⟨nd,rfl⟩⟩;refine ⟨_,rfl,?_⟩)|((with_reducible refine gate_callee (f:=116) rfl ?_);refine goesL_ (some 10) rfl rfl Tryd.func116 (by kernel_rfl) rfl #[.string a1] rfl (by (try simp only [List.map_toArray,List.map_cons,List.map_nil]);first|done|rfl|(simp only [List.length_drop,List.length_take];rfl)) ?_;(with_reducible refine (cmp_isNaN_string.calls a1 false _ A4.out).mono ?_);rintro e w' ⟨rfl,⟨nd,rfl⟩⟩;refine ⟨_,rfl,?_⟩))
     go_ret
     exact ⟨by first|rfl|(simp;done)|(simp [*];done),by repeat (first|exact Drawn0.refl _|apply Drawn0.step)⟩
def slices_Compare_string_string.l0:Nat→List ByteArray→List ByteArray→List ByteArray→Int→Int→Option (Int)
 | 0,_,_,_,_,_=>none
 | k + 1,x0,x1,x9,x10,x11=>if x11 < x10 then (if 0 ≤ x11 then (if x11 < (x9.length:Int) then (if x11 ≥ (x1.length:Int) then (some 1) else (if x11 < (x1.length:Int) then ((cmp_Compare_string.f (rdOf ByteArray.empty x9 x11) (rdOf ByteArray.empty x1 x11)).bind fun t103=>(if t103 = 0 then (slices_Compare_string_string.l0 k x0 x1 x9 x10 (wrap64 (x11 + 1))) else (some t103))) else (none))) else (none)) else (none)) else (if (x0.length:Int) < (x1.length:Int) then (some (-1)) else (some 0))
def slices_Compare_string_string.f (k:Nat) (l0:List ByteArray) (l1:List ByteArray):Option (Int):=slices_Compare_string_string.l0 k l0 l1 l0 (l0.length:Int) 0
set_option maxHeartbeats 8000000 in
set_option maxRecDepth 100000 in
theorem slices_Compare_string_string.calls (k:Nat) (A0:Option Addr) (c0:Nat) (l0:List ByteArray) (A1:Option Addr) (c1:Nat) (l1:List ByteArray) (r:Int) (w:World) (hr0:Kd.C Kd.string w A0 l0.length l0) (hc0:l0.length ≤ c0) (hr1:Kd.C Kd.string w A1 l1.length l1) (hc1:l1.length ≤ c1) (h:slices_Compare_string_string.f k l0 l1 = some r) :
 Calls Tryd.prog 89 #[.slice A0 l0.length c0,.slice A1 l1.length c1] w fun e w'=>e = .returned (.int .i64 r)∧Drawn0 w w':=by
 have HR0:=Aside0.mk hr0;have HC0:=Aside0.mk hc0;clear hr0 hc0;have HR1:=Aside0.mk hr1;have HC1:=Aside0.mk hc1;clear hr1 hc1;have H:(slices_Compare_string_string.l0 k l0 l1 l0 (l0.length:Int) 0) = some r:=h;clear h;have H':=Aside0.mk H;clear H;go_enter Tryd.func89,Tryd.ntmps89;go_wp2;go_loopg [11] k (fun kq v11 w'=>∃ (x11_1:Int),v11 = .int .i64 x11_1∧Aside0 (slices_Compare_string_string.l0 kq l0 l1 l0 (l0.length:Int) x11_1 = some r)∧Aside0 (kq ≤ k)∧Drawn0 w w')
 case atStart=>exact ⟨(0),(by first|rfl|(simp;done)|(simp [*];done)),H',⟨Nat.le_refl _⟩,by repeat (first|exact Drawn0.refl _|apply Drawn0.step)⟩
 case round =>
  clear H';try clear c1
  obtain ⟨x11_1,rfl,HA,HK1,⟨m1,rfl⟩⟩:=hrel;cases gk with
  | zero=>exact absurd HA.out (by simp [slices_Compare_string_string.l0])
  | succ k1 =>
   have H:=HA.out;clear HA;simp only [slices_Compare_string_string.l0] at H;by_cases c3:x11_1 < (l0.length:Int)
   ·rw [if_pos c3] at H;have c3b0:decide (x11_1 < (l0.length:Int)) = true:=decide_eq_true c3;clear c3;by_cases c4:0 ≤ x11_1
    ·rw [if_pos c4] at H;have c4b0:decide (0 ≤ x11_1) = true:=decide_eq_true c4;clear c4;by_cases c5:x11_1 < (l0.length:Int)
     ·rw [if_pos c5] at H;have c5b0:decide (x11_1 < (l0.length:Int)) = true:=decide_eq_true c5;clear c5;by_cases c6:x11_1 ≥ (l1.length:Int)
      ·rw [if_pos c6] at H;have c6b0:decide ((l1.length:Int) ≤ x11_1) = true:=decide_eq_true c6;clear c6;obtain rfl:=Option.some.inj H;have p101:0 ≤ (x11_1:Int):=of_decide_eq_true (by first|(with_reducible assumption)|assumption);have q101:x11_1 < (l0.length:Int):=of_decide_eq_true (by first|(with_reducible assumption)|assumption);obtain ⟨ad101,e101,hx101_0⟩:=Kd.at_string HR0.out x11_1 p101 q101;cases e101;replace p101:=eq_true p101;replace q101:=eq_true q101;go_wp2;go_ret
       exact ⟨by first|rfl|(simp;done)|(simp [*];done),by repeat (first|exact Drawn0.refl _|apply Drawn0.step)⟩
      ·rw [if_neg c6] at H;have c6b0:decide ((l1.length:Int) ≤ x11_1) = false:=decide_eq_false c6;clear c6;by_cases c7:x11_1 < (l1.length:Int)
       ·rw [if_pos c7] at H;have c7b0:decide (x11_1 < (l1.length:Int)) = true:=decide_eq_true c7;clear c7;replace H:=Option.bind_eq_some_iff.mp H;obtain ⟨t103,A80,H⟩:=H;replace H:(if t103 = 0 then (slices_Compare_string_string.l0 k1 l0 l1 l0 (l0.length:Int) (wrap64 (x11_1 + 1))) else (some t103)) = some r:=H;have A8:=Aside0.mk A80;clear A80;by_cases c9:t103 = 0
        ·rw [if_pos c9] at H;have c9b0:(t103 == 0) = true:=beq_iff_eq.mpr c9;have c9b1:(t103 != 0) = false:=bne_eq_false_iff_eq.mpr c9;clear c9;have H':=Aside0.mk H;clear H;have p101:0 ≤ (x11_1:Int):=of_decide_eq_true (by first|(with_reducible assumption)|assumption);have q101:x11_1 < (l0.length:Int):=of_decide_eq_true (by first|(with_reducible assumption)|assumption);obtain ⟨ad101,e101,hx101_0⟩:=Kd.at_string HR0.out x11_1 p101 q101;cases e101;replace p101:=eq_true p101;replace q101:=eq_true q101;have p102:0 ≤ (x11_1:Int):=of_decide_eq_true (by first|(with_reducible assumption)|assumption);have q102:x11_1 < (l1.length:Int):=of_decide_eq_true (by first|(with_reducible assumption)|assumption);obtain ⟨ad102,e102,hx102_0⟩:=Kd.at_string HR1.out x11_1 p102 q102;cases e102;replace p102:=eq_true p102;replace q102:=eq_true q102;go_wp2_with (first|((with_reducible refine gate_callee (f:=106) rfl ?_);refine goesL_ (some 26) rfl rfl Tryd.func106 (by kernel_rfl) rfl #[.string (rdOf ByteArray.empty l0 x11_1),.string (rdOf ByteArray.empty l1 x11_1)] rfl (by (try simp only [List.map_toArray,List.map_cons,List.map_nil]);first|done|rfl|(simp only [List.length_drop,List.length_take];rfl)) ?_;(with_reducible refine (cmp_Compare_string.calls (rdOf ByteArray.empty l0 x11_1) (rdOf ByteArray.empty l1 x11_1) t103 _ A8.out).mono ?_);rintro e w' ⟨rfl,⟨nd,rfl⟩⟩;refine ⟨_,rfl,?_⟩))
         go_roundg k1
         case measure=>have:=HK1.out;omega
         case rel=>exact ⟨(wrap64 (x11_1 + 1)),(by first|rfl|(simp;done)|(simp [*];done)),H',⟨by have:=HK1.out;omega⟩,by repeat (first|exact Drawn0.refl _|apply Drawn0.step)⟩
        ·rw [if_neg c9] at H;have c9b0:(t103 == 0) = false:=beq_eq_false_iff_ne.mpr c9;have c9b1:(t103 != 0) = true:=bne_iff_ne.mpr c9;obtain rfl:=Option.some.inj H;have p101:0 ≤ (x11_1:Int):=of_decide_eq_true (by first|(with_reducible assumption)|assumption);have q101:x11_1 < (l0.length:Int):=of_decide_eq_true (by first|(with_reducible assumption)|assumption);obtain ⟨ad101,e101,hx101_0⟩:=Kd.at_string HR0.out x11_1 p101 q101;cases e101;replace p101:=eq_true p101;replace q101:=eq_true q101;have p102:0 ≤ (x11_1:Int):=of_decide_eq_true (by first|(with_reducible assumption)|assumption);have q102:x11_1 < (l1.length:Int):=of_decide_eq_true (by first|(with_reducible assumption)|assumption);obtain ⟨ad102,e102,hx102_0⟩:=Kd.at_string HR1.out x11_1 p102 q102;cases e102;replace p102:=eq_true p102;replace q102:=eq_true q102;go_wp2_with (first|((with_reducible refine gate_callee (f:=106) rfl ?_);refine goesL_ (some 26) rfl rfl Tryd.func106 (by kernel_rfl) rfl #[.string (rdOf ByteArray.empty l0 x11_1),.string (rdOf ByteArray.empty l1 x11_1)] rfl (by (try simp only [List.map_toArray,List.map_cons,List.map_nil]);first|done|rfl|(simp only [List.length_drop,List.length_take];rfl)) ?_;(with_reducible refine (cmp_Compare_string.calls (rdOf ByteArray.empty l0 x11_1) (rdOf ByteArray.empty l1 x11_1) t103 _ A8.out).mono ?_);rintro e w' ⟨rfl,⟨nd,rfl⟩⟩;refine ⟨_,rfl,?_⟩))
         go_ret
         exact ⟨by first|rfl|(simp;done)|(simp [*];done),by repeat (first|exact Drawn0.refl _|apply Drawn0.step)⟩
       ·rw [if_neg c7] at H;exact absurd H (by simp)
     ·rw [if_neg c5] at H;exact absurd H (by simp)
    ·rw [if_neg c4] at H;exact absurd H (by simp)
   ·rw [if_neg c3] at H;have c3b0:decide (x11_1 < (l0.length:Int)) = false:=decide_eq_false c3;clear c3;by_cases c10:(l0.length:Int) < (l1.length:Int)
    ·rw [if_pos c10] at H;have c10b0:decide ((l0.length:Int) < (l1.length:Int)) = true:=decide_eq_true c10;have c10b1:decide (l0.length < l1.length) = true:=decide_eq_true (Int.ofNat_lt.mp c10);clear c10;obtain rfl:=Option.some.inj H;go_wp2;go_ret
     exact ⟨by first|rfl|(simp;done)|(simp [*];done),by repeat (first|exact Drawn0.refl _|apply Drawn0.step)⟩
    ·rw [if_neg c10] at H;have c10b0:decide ((l0.length:Int) < (l1.length:Int)) = false:=decide_eq_false c10;have c10b1:decide (l0.length < l1.length) = false:=decide_eq_false (fun h=>c10 (Int.ofNat_lt.mpr h));clear c10;obtain rfl:=Option.some.inj H;go_wp2;go_ret
     exact ⟨by first|rfl|(simp;done)|(simp [*];done),by repeat (first|exact Drawn0.refl _|apply Drawn0.step)⟩
def strings_Split.f (a0:ByteArray) (a1:ByteArray):Option (List ByteArray):=match a1 with
 | ⟨⟨[c]⟩⟩=>if a0.size < 4294967281 then some (Lib.splitB ⟨#[c]⟩ 0 (Lib.countB a0 ⟨#[c]⟩) a0) else none
 | _=>none
theorem strings_Split.fresh (w:World) (xs:List ByteArray) (hx:0 < xs.length) (hl:xs.length ≤ 9223372036854775807) :
 Kd.R Kd.string 9 (w.alloc (.cells (xs.map Value.string).toArray 9)) w.heap.size (fun _=>True) (.slice (some ⟨w.heap.size,0,none⟩) xs.length xs.length) xs:=by
 refine ⟨fun _ _=>trivial,xs.map Value.string,⟨by simp [Kd.string,Kd.scalar],.inr ⟨w.heap.size,xs.length,(xs.map Value.string).toArray,rfl,Nat.le_refl _,?_,Nat.le_refl _,?_,?_,?_⟩⟩,?_,?_⟩
 ·show (w.heap.push _)[w.heap.size]? = _
  simp
 ·unfold maxLen;omega
 ·simp [Kd.string,Kd.scalar]
 ·simp only [Kd.string,Kd.scalar,Nat.mul_one];exact List.take_of_length_le (by simp)
 ·simp [Kd.string,Kd.scalar]
 ·intro j p hj;show _ = [Value.string p]
  simp only [Kd.string,Kd.scalar,Nat.mul_one];have hlt:=(List.getElem?_eq_some_iff.1 hj).1;have he:=(List.getElem?_eq_some_iff.1 hj).2;rw [List.drop_eq_getElem_cons (by simpa using hlt),List.take_succ_cons,List.take_zero];simp [he]
set_option maxHeartbeats 1000000 in
theorem strings_Split.calls (a0:ByteArray) (a1:ByteArray) (r:List ByteArray) (w:World) (h:strings_Split.f a0 a1 = some r) :
 Calls Tryd.prog 99 #[.string a0,.string a1] w fun e w'=>∃ v0_:Value,e = .returned (v0_)∧Kd.R Kd.string 9 w' w.heap.size (fun _=>True) v0_ r∧Below w.heap.size w w':=by
 unfold strings_Split.f at h;split at h
 ·rename_i ch
  split at h
  ·rename_i hs
   obtain rfl:=Option.some.inj h;have h1:1 ≤ (⟨#[ch]⟩:ByteArray).size:=Nat.le_refl _;have hle:=Lib.countB_le (⟨#[ch]⟩:ByteArray) h1 a0.size a0 (Nat.le_refl _);have hlen:=Lib.splitB_all (⟨#[ch]⟩:ByteArray) h1 0 _ a0 rfl;have hC:Calls Tryd.prog 118 #[.string a0,.string ⟨#[ch]⟩] w fun e w'=>e = .returned (.int .i64 (Lib.countB a0 ⟨#[ch]⟩))∧w' = w:=by
    refine (Tryd.strings_Count_one a0 ch w).mono fun e w' ⟨he,hw⟩=>⟨?_,hw⟩
    rw [he];show _ = Ending.returned (Value.int .i64 ((Lib.count a0.data.toList [ch]:Nat):Int))
    rw [Lib.count_one];rfl
   have hI:∀ (x:ByteArray) (c:Array Value),x.size ≤ a0.size→Calls Tryd.prog 119 #[.string x,.string ⟨#[ch]⟩] (w.alloc (.cells c 9)) fun e w'=>e = .returned (.int .i64 (Lib.indexB x ⟨#[ch]⟩))∧w' = w.alloc (.cells c 9):=by
    intro x c _;refine (Tryd.strings_Index_one x ch _).mono fun e w' ⟨he,hw⟩=>⟨?_,hw⟩
    rw [he];show _ = Ending.returned (Value.int .i64 (Lib.index x.data.toList [ch]))
    rw [Lib.index_one]
   have c:=Any.strings_genSplit_core Tryd.lays221 (by kernel_rfl) a0 ⟨#[ch]⟩ 0 (-1) (Lib.countB a0 ⟨#[ch]⟩ + 1) w hs h1 (Nat.zero_le _) hI hC (by decide) (by decide) (by rw [if_pos (by decide)];omega);rw [Nat.add_sub_cancel,hlen] at c;have e2:Lib.cellsOf (Lib.splitB ⟨#[ch]⟩ 0 (Lib.countB a0 ⟨#[ch]⟩) a0) (Lib.countB a0 ⟨#[ch]⟩ + 1) = ((Lib.splitB ⟨#[ch]⟩ 0 (Lib.countB a0 ⟨#[ch]⟩) a0).map Value.string).toArray:=by rw [← hlen];exact Lib.cellsOf_full _
   rw [e2] at c;have hfr:=strings_Split.fresh w (Lib.splitB ⟨#[ch]⟩ 0 (Lib.countB a0 ⟨#[ch]⟩) a0) (by rw [hlen];omega) (by rw [hlen];omega);rw [hlen] at hfr;have HF:=Aside0.mk hfr;clear hfr e2 hI hC hle hlen hs;generalize Lib.splitB ⟨#[ch]⟩ 0 (Lib.countB a0 ⟨#[ch]⟩) a0 = ps at *;generalize Lib.countB a0 ⟨#[ch]⟩ + 1 = n at *;go_enter Tryd.func99,Tryd.ntmps99;go_wp2_with (go_at_call 109;refine c.mono ?_;rintro e w' ⟨rfl,hw⟩;rw [hw])
   go_ret
   exact ⟨_,rfl,HF.out,(Below.refl _ _).alloc (Nat.le_refl _) _⟩
  ·cases h
 ·cases h
def path_Parts.f (a0:ByteArray):Option (List ByteArray):=if a0.toList = ([]:List UInt8) then (some ([]:List ByteArray)) else ((strings_Split.f a0 (⟨#[47]⟩:ByteArray)).bind fun t101=>(some t101))
set_option maxHeartbeats 8000000 in
set_option maxRecDepth 100000 in
theorem path_Parts.calls (a0:ByteArray) (r:List ByteArray) (w:World) (h:path_Parts.f a0 = some r) :
 Calls Tryd.prog 90 #[.string a0] w fun e w'=>∃ v0_:Value,e = .returned (v0_)∧Kd.R Kd.string 9 w' w.heap.size (fun _=>True) v0_ r∧Below w.heap.size w w':=by
 have HB:=Aside0.mk (Below.refl w.heap.size w);have H:(if a0.toList = ([]:List UInt8) then (some ([]:List ByteArray)) else ((strings_Split.f a0 (⟨#[47]⟩:ByteArray)).bind fun t101=>(some t101))) = some r:=h;clear h;by_cases c2:a0.toList = ([]:List UInt8)
 ·rw [if_pos c2] at H;have c2b0:(a0.toList == ([]:List UInt8)) = true:=beq_iff_eq.mpr c2;have c2b1:(a0.toList != ([]:List UInt8)) = false:=bne_eq_false_iff_eq.mpr c2;clear c2;obtain rfl:=Option.some.inj H;go_enter Tryd.func90,Tryd.ntmps90;go_wp2;go_ret
  exact ⟨_,by first|rfl|(simp [errW_none,errW_some] <;> rfl)|(simp [*,errW_none,errW_some] <;> rfl),by first|exact Kd.R_nil _ _ _ _ _|exact Kd.N_nil _ _ _ _ _|exact Kd.V_nil _ _ _ _ _|exact Kd.Q_nil _ _ _ _ _|exact Kd.S_nil _ _ _ _ _,by repeat (first|(with_reducible first|exact HB.out|apply bwA|apply pwbN|apply bw1)|exact HB.out)⟩
 ·rw [if_neg c2] at H;have c2b0:(a0.toList == ([]:List UInt8)) = false:=beq_eq_false_iff_ne.mpr c2;have c2b1:(a0.toList != ([]:List UInt8)) = true:=bne_iff_ne.mpr c2;replace H:=Option.bind_eq_some_iff.mp H;obtain ⟨t101,A30,H⟩:=H;replace H:(some t101) = some r:=H;have A3:=Aside0.mk A30;clear A30;obtain rfl:=Option.some.inj H;go_enter Tryd.func90,Tryd.ntmps90;go_wp2_with (first|((with_reducible refine gate_callee (f:=99) rfl ?_);refine goesL_ (some 6) rfl rfl Tryd.func99 (by kernel_rfl) rfl #[.string a0,.string (⟨#[47]⟩:ByteArray)] rfl (by (try simp only [List.map_toArray,List.map_cons,List.map_nil]);first|done|rfl|(simp only [List.length_drop,List.length_take];rfl)) ?_;(with_reducible refine (strings_Split.calls a0 (⟨#[47]⟩:ByteArray) t101 _ A3.out).mono ?_);rintro e w4 ⟨v102,rfl,ho0,hb⟩;refine ⟨_,rfl,?_⟩;have n0_:=Aside0.mk (Kd.R_lower ho0 (below_size (by repeat (first|(with_reducible first|exact HB.out|apply bwA|apply pwbN|apply bw1)|exact HB.out))));have n1_:=Aside0.mk (below_step (by repeat (first|(with_reducible first|exact HB.out|apply bwA|apply pwbN|apply bw1)|exact HB.out)) hb);clear HB;have HO103:=n0_;have HB:=n1_;clear n0_ n1_;(try clear hb);(try clear hb2);(try clear hk);(try clear hi);(try clear ho0)))
  go_ret
  exact ⟨_,by first|rfl|(simp [errW_none,errW_some] <;> rfl)|(simp [*,errW_none,errW_some] <;> rfl),by (with_reducible repeat (first|apply Kd.R_alloc|apply Kd.R_drewN|apply Kd.R_drew));exact HO103.out,by repeat (first|(with_reducible first|exact HB.out|apply bwA|apply pwbN|apply bw1)|exact HB.out)⟩
def path_Compare.f (k:Nat) (a0:ByteArray) (a1:ByteArray):Option (Int):=(path_Parts.f a0).bind fun t101=>((path_Parts.f a1).bind fun t104=>((slices_Compare_string_string.f k t101 t104).bind fun t107=>(some t107)))
set_option maxHeartbeats 8000000 in
set_option maxRecDepth 100000 in
theorem path_Compare.calls (k:Nat) (a0:ByteArray) (a1:ByteArray) (r:Int) (w:World) (h:path_Compare.f k a0 a1 = some r) :
 Calls Tryd.prog 57 #[.string a0,.string a1] w fun e w'=>e = .returned (.int .i64 r)∧Below w.heap.size w w':=by
 have HB:=Aside0.mk (Below.refl w.heap.size w);have H:((path_Parts.f a0).bind fun t101=>((path_Parts.f a1).bind fun t104=>((slices_Compare_string_string.f k t101 t104).bind fun t107=>(some t107)))) = some r:=h;clear h;replace H:=Option.bind_eq_some_iff.mp H;obtain ⟨t101,A30,H⟩:=H;replace H:((path_Parts.f a1).bind fun t104=>((slices_Compare_string_string.f k t101 t104).bind fun t107=>(some t107))) = some r:=H;have A3:=Aside0.mk A30;clear A30;replace H:=Option.bind_eq_some_iff.mp H;obtain ⟨t104,A40,H⟩:=H;replace H:((slices_Compare_string_string.f k t101 t104).bind fun t107=>(some t107)) = some r:=H;have A4:=Aside0.mk A40;clear A40;replace H:=Option.bind_eq_some_iff.mp H;obtain ⟨t107,A50,H⟩:=H;replace H:(some t107) = some r:=H;have A5:=Aside0.mk A50;clear A50;obtain rfl:=Option.some.inj H;go_enter Tryd.func57,Tryd.ntmps57;go_wp2_with (first|((with_reducible refine gate_callee (f:=90) rfl ?_);refine goesL_ (some 6) rfl rfl Tryd.func90 (by kernel_rfl) rfl #[.string a0] rfl (by (try simp only [List.map_toArray,List.map_cons,List.map_nil]);first|done|rfl|(simp only [List.length_drop,List.length_take];rfl)) ?_;(with_reducible refine (path_Parts.calls a0 t101 _ A3.out).mono ?_);rintro e w6 ⟨v102,rfl,ho0,hb⟩;refine ⟨_,rfl,?_⟩;have n0_:=Aside0.mk (Kd.R_lower ho0 (below_size (by repeat (first|(with_reducible first|exact HB.out|apply bwA|apply pwbN|apply bw1)|exact HB.out))));have n1_:=Aside0.mk (below_step (by repeat (first|(with_reducible first|exact HB.out|apply bwA|apply pwbN|apply bw1)|exact HB.out)) hb);clear HB;have HO103:=n0_;have HB:=n1_;clear n0_ n1_;(try clear hb);(try clear hb2);(try clear hk);(try clear hi);(try clear ho0))|((with_reducible refine gate_callee (f:=90) rfl ?_);refine goesL_ (some 8) rfl rfl Tryd.func90 (by kernel_rfl) rfl #[.string a1] rfl (by (try simp only [List.map_toArray,List.map_cons,List.map_nil]);first|done|rfl|(simp only [List.length_drop,List.length_take];rfl)) ?_;(with_reducible refine (path_Parts.calls a1 t104 _ A4.out).mono ?_);rintro e w7 ⟨v105,rfl,ho0,hb⟩;refine ⟨_,rfl,?_⟩;have n0_:=Aside0.mk (Kd.R_elder' (by (with_reducible repeat (first|apply Kd.R_alloc|apply Kd.R_drewN|apply Kd.R_drew));exact HO103.out) (Kd.R_base ho0) hb);have n1_:=Aside0.mk (Kd.R_lower (Kd.R_new' ho0 (Kd.R_lt (by (with_reducible repeat (first|apply Kd.R_alloc|apply Kd.R_drewN|apply Kd.R_drew));exact HO103.out))) (below_size (by repeat (first|(with_reducible first|exact HB.out|apply bwA|apply pwbN|apply bw1)|exact HB.out))));have n2_:=Aside0.mk (below_step (by repeat (first|(with_reducible first|exact HB.out|apply bwA|apply pwbN|apply bw1)|exact HB.out)) hb);clear HO103;clear HB;have HO103:=n0_;have HO106:=n1_;have HB:=n2_;clear n0_ n1_ n2_;(try clear hb);(try clear hb2);(try clear hk);(try clear hi);(try clear ho0);obtain ⟨Ao8,co8,eo8⟩:=Kd.R_slice HO103.out;subst eo8;obtain ⟨Ao9,co9,eo9⟩:=Kd.R_slice HO106.out;subst eo9)|((with_reducible refine gate_callee (f:=89) rfl ?_);refine goesL_ (some 9) rfl rfl Tryd.func89 (by kernel_rfl) rfl #[.slice Ao8 t101.length co8,.slice Ao9 t104.length co9] rfl (by (try simp only [List.map_toArray,List.map_cons,List.map_nil]);first|done|rfl|(simp only [List.length_drop,List.length_take];rfl)) ?_;(with_reducible refine (slices_Compare_string_string.calls k _ _ t101 _ _ t104 t107 _ ?side1 ?side2 ?side3 ?side4 A5.out).mono ?_);(case side1=>repeat (first|exact (Kd.R_reads' HO103.out).2.2|(with_reducible refine Kd.C_alloc ?_ _)|(with_reducible refine Kd.C_drewN ?_ _)|(with_reducible refine Kd.C_drew ?_)));(case side2=>exact (Kd.R_reads' HO103.out).2.1);(case side3=>repeat (first|exact (Kd.R_reads' HO106.out).2.2|(with_reducible refine Kd.C_alloc ?_ _)|(with_reducible refine Kd.C_drewN ?_ _)|(with_reducible refine Kd.C_drew ?_)));(case side4=>exact (Kd.R_reads' HO106.out).2.1);rintro e w' ⟨rfl,⟨nd,rfl⟩⟩;refine ⟨_,rfl,?_⟩))
 go_ret
 exact ⟨by first|rfl|(simp [errW_none,errW_some] <;> rfl)|(simp [*,errW_none,errW_some] <;> rfl),by repeat (first|(with_reducible first|exact HB.out|apply bwA|apply pwbN|apply bw1)|exact HB.out)⟩
def strings_LastIndexByte.f (a0:ByteArray) (a1:Int):Option Int:=if a0.size < 4611686018427387904 then some (Lib.lastIndexByte a0 a1) else none
theorem strings_LastIndexByte.calls (a0:ByteArray) (a1:Int) (r:Int) (w:World) (h:strings_LastIndexByte.f a0 a1 = some r) :
 Calls Tryd.prog 96 #[.string a0,.int .u8 a1] w fun e w'=>e = .returned (.int .i64 r)∧Drawn0 w w':=by
 unfold strings_LastIndexByte.f at h;split at h
 ·rename_i hc
  obtain rfl:=Option.some.inj h;exact (Tryd.strings_LastIndexByte a0 a1 hc w).mono fun e w' ⟨he,hw⟩=>⟨he,by rw [hw];exact Drawn0.refl _⟩
 ·cases h
def path_Up.f (a0:ByteArray):Option (ByteArray):=(strings_LastIndexByte.f a0 47).bind fun t101=>(if t101 < 0 then (some (⟨#[]⟩:ByteArray)) else (if 0 ≤ t101 then (if t101 ≤ (a0.size:Int) then (some (a0.extract 0 (t101:Int).toNat)) else (none)) else (none)))
set_option maxHeartbeats 8000000 in
set_option maxRecDepth 100000 in
theorem path_Up.calls (a0:ByteArray) (r:ByteArray) (w:World) (h:path_Up.f a0 = some r) :
 Calls Tryd.prog 69 #[.string a0] w fun e w'=>e = .returned (.string r)∧Drawn0 w w':=by
 have H:((strings_LastIndexByte.f a0 47).bind fun t101=>(if t101 < 0 then (some (⟨#[]⟩:ByteArray)) else (if 0 ≤ t101 then (if t101 ≤ (a0.size:Int) then (some (a0.extract 0 (t101:Int).toNat)) else (none)) else (none)))) = some r:=h;clear h;replace H:=Option.bind_eq_some_iff.mp H;obtain ⟨t101,A20,H⟩:=H;replace H:(if t101 < 0 then (some (⟨#[]⟩:ByteArray)) else (if 0 ≤ t101 then (if t101 ≤ (a0.size:Int) then (some (a0.extract 0 (t101:Int).toNat)) else (none)) else (none))) = some r:=H;have A2:=Aside0.mk A20;clear A20;by_cases c3:t101 < 0
 ·rw [if_pos c3] at H;have c3b0:decide (t101 < 0) = true:=decide_eq_true c3;clear c3;obtain rfl:=Option.some.inj H;go_enter Tryd.func69,Tryd.ntmps69;go_wp2_with (first|((with_reducible refine gate_callee (f:=96) rfl ?_);refine goesL_ (some 5) rfl rfl Tryd.func96 (by kernel_rfl) rfl #[.string a0,.int .u8 47] rfl (by (try simp only [List.map_toArray,List.map_cons,List.map_nil]);first|done|rfl|(simp only [List.length_drop,List.length_take];rfl)) ?_;(with_reducible refine (strings_LastIndexByte.calls a0 47 t101 _ A2.out).mono ?_);rintro e w' ⟨rfl,⟨nd,rfl⟩⟩;refine ⟨_,rfl,?_⟩))
  go_ret
  exact ⟨by first|rfl|(simp;done)|(simp [*];done),by repeat (first|exact Drawn0.refl _|apply Drawn0.step)⟩
 ·rw [if_neg c3] at H;have c3b0:decide (t101 < 0) = false:=decide_eq_false c3;clear c3;by_cases c4:0 ≤ t101
  ·rw [if_pos c4] at H;have c4b0:=eq_true c4;have c4b1:decide (0 ≤ t101) = true:=decide_eq_true c4;clear c4;by_cases c5:t101 ≤ (a0.size:Int)
   ·rw [if_pos c5] at H;have c5b0:=eq_true c5;have c5b1:decide (t101 ≤ (a0.size:Int)) = true:=decide_eq_true c5;clear c5;obtain rfl:=Option.some.inj H;go_enter Tryd.func69,Tryd.ntmps69;go_wp2_with (first|((with_reducible refine gate_callee (f:=96) rfl ?_);refine goesL_ (some 5) rfl rfl Tryd.func96 (by kernel_rfl) rfl #[.string a0,.int .u8 47] rfl (by (try simp only [List.map_toArray,List.map_cons,List.map_nil]);first|done|rfl|(simp only [List.length_drop,List.length_take];rfl)) ?_;(with_reducible refine (strings_LastIndexByte.calls a0 47 t101 _ A2.out).mono ?_);rintro e w' ⟨rfl,⟨nd,rfl⟩⟩;refine ⟨_,rfl,?_⟩))
    go_ret
    exact ⟨by first|rfl|(simp;done)|(simp [*];done),by repeat (first|exact Drawn0.refl _|apply Drawn0.step)⟩
   ·rw [if_neg c5] at H;exact absurd H (by simp)
  ·rw [if_neg c4] at H;exact absurd H (by simp)
def tree_Find.l0:Nat→List (S56)→ByteArray→Int→Option Int
 | 0,_,_,_=>none
 | k + 1,x0,s,i=>if i < (x0.length:Int) then (if 0 ≤ i then (if ((rd_T56 x0 i).f0).toList = s.toList then (some i) else (tree_Find.l0 k x0 s (wrap64 (i + 1)))) else none) else (some (-1))
set_option maxHeartbeats 4000000 in
set_option maxRecDepth 100000 in
theorem tree_Find.same (s:ByteArray) (gs:Nat) (cells:Array Value) (x:ByteArray) (w:World) (hx:cells[0]? = some (.string x)) (hn:cells.size = 12) (hs:w.heap[gs]? = some (.cells #[.string s] 9 (0,0))) :
 Calls Tryd.prog 75 #[.agg cells,.pointer (some ⟨gs,0,none⟩)] w fun e w'=>e = .returned (.bool (x.toList == s.toList))∧Below w.heap.size w w':=by
 have hlt:=(Array.getElem?_eq_some_iff.1 hs).1;have HB0:=Aside0.mk (Below.refl w.heap.size w);have HS:=Aside0.mk hs;have HX:=Aside0.mk hx;have HL:=Aside0.mk hlt;clear hs hx hlt;go_enter Tryd.func75,Tryd.ntmps75;go_wp2_with (((with_reducible refine gate_dst (N:=2) rfl ?_);refine box_event ?hg (N:=2) ?hd (cs:=cells) (t:=56) ?hr ?_;(case hd=>rfl);(case hg=>rfl);(case hr=>first|(go_simp;done)|(go_simp;rfl));intro gb hg w2 hbox hb2;have HG:=Aside0.mk hg;have HB2:=Aside0.mk hb2;have h0:w2.cell? ⟨gb,0,none⟩ = some (.string x):=(blk_cell hbox 0).trans HX.out;have h1:w2.cell? ⟨gs,0,none⟩ = some (.string s):=(by rw [Lib.cell_of_heap ((hb2.block gs HL.out).trans HS.out)];rfl);clear hg hb2 hbox))
 go_ret
 exact ⟨rfl,HB2.out⟩
set_option maxHeartbeats 8000000 in
set_option maxRecDepth 100000 in
theorem tree_Find.index (k:Nat) (A0:Option Addr) (c0:Nat) (l0:List (S56)) (s:ByteArray) (gs:Nat) (r:Int) (w:World) (hr0:Kd.C k56 w A0 l0.length l0) (hc0:l0.length ≤ c0) (hs:w.heap[gs]? = some (.cells #[.string s] 9 (0,0))) (h:tree_Find.l0 k l0 s 0 = some r) :
 Calls Tryd.prog 74 #[.slice A0 l0.length c0,.func (.func 75) #[] #[.pointer (some ⟨gs,0,none⟩)]] w fun e w'=>e = .returned (.int .i64 r)∧Below w.heap.size w w':=by
 have HR0:=Aside0.mk hr0;have HC0:=Aside0.mk hc0;have HS:=Aside0.mk hs;have HL:=Aside0.mk (Array.getElem?_eq_some_iff.1 hs).1;have H':=Aside0.mk h;have HB0:=Aside0.mk (Below.refl w.heap.size w);clear hr0 hc0 hs h;go_enter Tryd.func74,Tryd.ntmps74;go_wp2;go_loopg [5,8] k (fun kq _ v8 wx=>∃ (i:Int),v8 = .int .i64 i∧Aside0 (tree_Find.l0 kq l0 s i = some r)∧Aside0 (kq ≤ k)∧Aside0 (Below w.heap.size w wx))
 case atStart=>exact ⟨0,rfl,H',⟨Nat.le_refl _⟩,HB0⟩
 case round =>
  clear H' HB0;obtain ⟨i,rfl,HA,HK1,HB⟩:=hrel;cases gk with
  | zero=>exact absurd HA.out (by simp [tree_Find.l0])
  | succ k1 =>
   have H:=HA.out;clear HA;simp only [tree_Find.l0] at H;by_cases c3:i < (l0.length:Int)
   ·rw [if_pos c3] at H;by_cases c4:0 ≤ i
    ·rw [if_pos c4] at H;obtain ⟨ad,A11,c11,e,hx0,hx1,hx2,hx3,hx4,hx5,hx6,hx7,hx8,hx9,hx10,hx11,hl11,hi11⟩:=at_T56 HR0.out i c4 c3;cases e;have hb:=HB.out;have hy0:=(hb.cell (World.block_lt_of_cell? w _ hx0)).trans hx0;have hy1:=(hb.cell (World.block_lt_of_cell? w _ hx1)).trans hx1;have hy2:=(hb.cell (World.block_lt_of_cell? w _ hx2)).trans hx2;have hy3:=(hb.cell (World.block_lt_of_cell? w _ hx3)).trans hx3;have hy4:=(hb.cell (World.block_lt_of_cell? w _ hx4)).trans hx4;have hy5:=(hb.cell (World.block_lt_of_cell? w _ hx5)).trans hx5;have hy6:=(hb.cell (World.block_lt_of_cell? w _ hx6)).trans hx6;have hy7:=(hb.cell (World.block_lt_of_cell? w _ hx7)).trans hx7;have hy8:=(hb.cell (World.block_lt_of_cell? w _ hx8)).trans hx8;have hy9:=(hb.cell (World.block_lt_of_cell? w _ hx9)).trans hx9;have hy10:=(hb.cell (World.block_lt_of_cell? w _ hx10)).trans hx10;have hy11:=(hb.cell (World.block_lt_of_cell? w _ hx11)).trans hx11;clear hb hx0 hx1 hx2 hx3 hx4 hx5 hx6 hx7 hx8 hx9 hx10 hx11 hl11 hi11;have hS1:=Aside0.mk ((HB.out.block gs HL.out).trans HS.out);by_cases c5:((rd_T56 l0 i).f0).toList = s.toList
     ·rw [if_pos c5] at H;obtain rfl:=Option.some.inj H;have c5b:(((rd_T56 l0 i).f0).toList == s.toList) = true:=beq_iff_eq.mpr c5;have C5:=Aside0.mk c5b;replace c3:=eq_true c3;replace c4:=eq_true c4;clear c5 c5b;go_wp2_with (go_at_call 75;refine (tree_Find.same s gs _ (rd_T56 l0 i).f0 _ rfl rfl hS1.out).mono ?_;rintro e w3 ⟨rfl,hb3⟩;have HB3:=Aside0.mk (below_step HB.out hb3);have c5x:=C5.out;clear hb3)
      go_ret
      exact ⟨rfl,HB3.out⟩
     ·rw [if_neg c5] at H;have H':=Aside0.mk H;have c5b:(((rd_T56 l0 i).f0).toList == s.toList) = false:=beq_eq_false_iff_ne.mpr c5;have C5:=Aside0.mk c5b;replace c3:=eq_true c3;replace c4:=eq_true c4;clear c5 c5b H;go_wp2_with (go_at_call 75;refine (tree_Find.same s gs _ (rd_T56 l0 i).f0 _ rfl rfl hS1.out).mono ?_;rintro e w3 ⟨rfl,hb3⟩;have HB3:=Aside0.mk (below_step HB.out hb3);have c5x:=C5.out;clear hb3)
      go_roundg k1
      case measure=>have:=HK1.out;omega
      case rel=>exact ⟨wrap64 (i + 1),rfl,H',⟨by have:=HK1.out;omega⟩,HB3⟩
    ·rw [if_neg c4] at H;cases H
   ·rw [if_neg c3] at H;obtain rfl:=Option.some.inj H;have c3b:=decide_eq_false c3;clear c3 H;go_wp2;go_ret
    exact ⟨rfl,HB.out⟩
def tree_Find.f (k:Nat) (l0:List (S56)) (a1:ByteArray):Option (Int × Int):=(tree_Find.l0 k l0 a1 0).bind fun i=>if i < 0 then some (0,5) else some (i,0)
set_option maxHeartbeats 4000000 in
set_option maxRecDepth 100000 in
theorem tree_Find.calls (k:Nat) (A0:Option Addr) (c0:Nat) (l0:List (S56)) (a1:ByteArray) (r1:Int) (r2:Int) (w:World) (hr0:Kd.C k56 w A0 l0.length l0) (hc0:l0.length ≤ c0) (h:tree_Find.f k l0 a1 = some (r1,r2)) :
 Calls Tryd.prog 37 #[.slice A0 l0.length c0,.string a1] w fun e w'=>e = .returned (.tuple #[.int .i64 r1,.int .i64 r2])∧Below w.heap.size w w':=by
 have HR0:=Aside0.mk hr0;have HC0:=Aside0.mk hc0;clear hr0 hc0;obtain ⟨i,A10,H⟩:=Option.bind_eq_some_iff.mp (show ((tree_Find.l0 k l0 a1 0).bind fun i=>if i < 0 then some (0,5) else some (i,0)) = some (r1,r2) from h);have A1:=Aside0.mk A10;clear A10 h;by_cases c1:i < 0
 ·rw [if_pos c1] at H;simp only [Option.some.injEq,Prod.mk.injEq] at H;obtain ⟨rfl,rfl⟩:=H;have c1b:=decide_eq_true c1;clear c1;go_enter Tryd.func37,Tryd.ntmps37;go_wp2_with (first|((with_reducible refine gate_dst (N:=3) rfl ?_);refine box_event ?hg (N:=3) ?hd (cs:=#[.string a1]) (t:=9) ?hr ?_;(case hd=>rfl);(case hg=>rfl);(case hr=>first|(go_simp;done)|(go_simp;rfl));intro gs hg w2 hbox hb2;have HK:=Aside0.mk hbox;have HB2:=Aside0.mk hb2;clear hg hb2 hbox)|(go_at_call 74;refine (tree_Find.index k A0 c0 l0 a1 gs i _ (Kd.C_below HR0.out HB2.out) HC0.out HK.out A1.out).mono ?_;rintro e w3 ⟨rfl,hb3⟩;have HB3:=Aside0.mk (below_step HB2.out hb3);clear hb3))
  go_ret2
  exact ⟨rfl,HB3.out⟩
 ·rw [if_neg c1] at H;simp only [Option.some.injEq,Prod.mk.injEq] at H;obtain ⟨rfl,rfl⟩:=H;have c1b:=decide_eq_false c1;clear c1;go_enter Tryd.func37,Tryd.ntmps37;go_wp2_with (first|((with_reducible refine gate_dst (N:=3) rfl ?_);refine box_event ?hg (N:=3) ?hd (cs:=#[.string a1]) (t:=9) ?hr ?_;(case hd=>rfl);(case hg=>rfl);(case hr=>first|(go_simp;done)|(go_simp;rfl));intro gs hg w2 hbox hb2;have HK:=Aside0.mk hbox;have HB2:=Aside0.mk hb2;clear hg hb2 hbox)|(go_at_call 74;refine (tree_Find.index k A0 c0 l0 a1 gs i _ (Kd.C_below HR0.out HB2.out) HC0.out HK.out A1.out).mono ?_;rintro e w3 ⟨rfl,hb3⟩;have HB3:=Aside0.mk (below_step HB2.out hb3);clear hb3))
  go_ret2
  exact ⟨rfl,HB3.out⟩
def strings_IndexByte.f (a0:ByteArray) (a1:Int):Option Int:=some (Lib.indexByte a0.data.toList a1.toNat.toUInt8)
theorem strings_IndexByte.calls (a0:ByteArray) (a1:Int) (r:Int) (w:World) (h:strings_IndexByte.f a0 a1 = some r) :
 Calls Tryd.prog 80 #[.string a0,.int .u8 a1] w fun e w'=>e = .returned (.int .i64 r)∧Drawn0 w w':=by
 obtain rfl:=Option.some.inj h;exact (Tryd.strings_IndexByte a0 a1 w).mono fun e w' ⟨he,hw⟩=>⟨he,by rw [hw];exact Drawn0.refl _⟩
end Go.Proofs.YtlfeijjilndljaaDoor.All
end
section
namespace Go.Proofs.YtlfeijjilndljaaDoor.All
open Go.RowKit Go.Proofs.YtlfeijjilndljaaDoorW.PrintWords Go.Proofs.YtlfeijjilndljaaDoorW.PrintLast Go.Proofs.YtlfeijjilndljaaDoorW.PrintMore
open Go.Proofs.YtlfeijjilndljaaDoorW.Mine
attribute [local go_sem] gtr_string leq_string geq_string
attribute [local go_sem] max2_int min2_int max_two min_two max_three min_three max_four min_four
set_option linter.unusedVariables false
set_option linter.unusedSimpArgs false
mutual
def path_Check.j0:Nat→ByteArray→Bool→Option (Int)
 | 0,_,_=>none
 | k + 1,x0,x12=>if x12 = true then (some 1) else ((strings_IndexByte.f x0 0).bind fun t101=>(if t101 ≥ 0 then (some 3) else ((strings_Split.f x0 (⟨#[47]⟩:ByteArray)).bind fun t102=>(path_Check.l0 k t102 (t102.length:Int) 0))))
def path_Check.l0:Nat→List ByteArray→Int→Int→Option (Int)
 | 0,_,_,_=>none
 | k + 1,x17,x18,x19=>if x19 < x18 then (if 0 ≤ x19 then (if x19 < (x17.length:Int) then (if (rdOf ByteArray.empty x17 x19).toList = ([]:List UInt8) then (some 9) else (if (rdOf ByteArray.empty x17 x19).toList = ([46]:List UInt8) then (some 9) else (if (rdOf ByteArray.empty x17 x19).toList = ([46,46]:List UInt8) then (some 9) else (path_Check.l0 k x17 x18 (wrap64 (x19 + 1)))))) else (none)) else (none)) else (some 0)
end
def path_Check.f (k:Nat) (a0:ByteArray):Option (Int):=if (a0.size:Int) < 1 then (path_Check.j0 k a0 true) else (path_Check.j0 k a0 (decide ((a0.size:Int) > 400)))
set_option maxHeartbeats 8000000 in
set_option maxRecDepth 100000 in
theorem path_Check.calls (k:Nat) (a0:ByteArray) (r:Int) (w:World) (h:path_Check.f k a0 = some r) :
 Calls Tryd.prog 78 #[.string a0] w fun e w'=>e = .returned (.int .i64 r)∧Below w.heap.size w w':=by
 have HB:=Aside0.mk (Below.refl w.heap.size w);have H:(if (a0.size:Int) < 1 then (path_Check.j0 k a0 true) else (path_Check.j0 k a0 (decide ((a0.size:Int) > 400)))) = some r:=h;clear h;have HC2:=Aside0.mk H;clear H;go_enter Tryd.func78,Tryd.ntmps78;go_upto_region 1 with (fail)
 go_cut [12] (fun v12 wc=>∃ (kq:Nat) (x12_1:Bool),v12 = .bool x12_1∧Aside0 (path_Check.j0 kq a0 x12_1 = some r)∧Aside0 (kq ≤ k)∧Aside0 (Below w.heap.size w wc))
 case first =>
  have H:=HC2.out;clear HC2;by_cases c3:(a0.size:Int) < 1
  ·rw [if_pos c3] at H;have c3b0:decide ((a0.size:Int) < 1) = true:=decide_eq_true c3;have c3b1:decide (a0.size < 1) = true:=decide_eq_true (by omega);clear c3;(first|rw [c3b0]|(simp only [i64_w,i32_w];rw [c3b0])|skip);have H':=Aside0.mk H;clear H;go_wp2;go_meet
   case rel=>exact ⟨_,(true),(by first|rfl|(simp;done)|(simp [*];done)),H',⟨by first|omega|exact Nat.le_refl _⟩,⟨by repeat (first|(with_reducible first|exact HB.out|apply bwA|apply pwbN|apply bw1)|exact HB.out)⟩⟩
  ·rw [if_neg c3] at H;have c3b0:decide ((a0.size:Int) < 1) = false:=decide_eq_false c3;have c3b1:decide (a0.size < 1) = false:=decide_eq_false (by omega);clear c3;(first|rw [c3b0]|(simp only [i64_w,i32_w];rw [c3b0])|skip);have H':=Aside0.mk H;clear H;go_wp2;go_meet
   case rel=>exact ⟨_,(decide ((a0.size:Int) > 400)),(by first|rfl|(simp;done)|(simp [*];done)),H',⟨by first|omega|exact Nat.le_refl _⟩,⟨by repeat (first|(with_reducible first|exact HB.out|apply bwA|apply pwbN|apply bw1)|exact HB.out)⟩⟩
 case rest =>
  clear HC2;obtain ⟨kq,x12_1,rfl,HA,HJ1,HB⟩:=hcut;cases kq with
  | zero=>exact absurd HA.out (by simp [path_Check.j0])
  | succ kj1 =>
   have H:=HA.out;clear HA;simp only [path_Check.j0] at H;by_cases c4:x12_1 = true
   ·subst c4;have H1:(some 1) = some r:=by rw [if_pos rfl] at H;exact H
    clear H;have H:=H1;clear H1;obtain rfl:=Option.some.inj H;go_wp2;go_ret
    exact ⟨by first|rfl|(simp [errW_none,errW_some] <;> rfl)|(simp [*,errW_none,errW_some] <;> rfl),by repeat (first|(with_reducible first|exact HB.out|apply bwA|apply pwbN|apply bw1)|exact HB.out)⟩
   ·replace c4:=Bool.eq_false_iff.mpr c4;subst c4;have H1:((strings_IndexByte.f a0 0).bind fun t101=>(if t101 ≥ 0 then (some 3) else ((strings_Split.f a0 (⟨#[47]⟩:ByteArray)).bind fun t102=>(path_Check.l0 kj1 t102 (t102.length:Int) 0)))) = some r:=by rw [if_neg (show ¬ (false = true) by decide)] at H;exact H
    clear H;have H:=H1;clear H1;replace H:=Option.bind_eq_some_iff.mp H;obtain ⟨t101,A50,H⟩:=H;replace H:(if t101 ≥ 0 then (some 3) else ((strings_Split.f a0 (⟨#[47]⟩:ByteArray)).bind fun t102=>(path_Check.l0 kj1 t102 (t102.length:Int) 0))) = some r:=H;have A5:=Aside0.mk A50;clear A50;by_cases c6:t101 ≥ 0
    ·rw [if_pos c6] at H;have c6b0:decide (0 ≤ t101) = true:=decide_eq_true c6;clear c6;obtain rfl:=Option.some.inj H;go_wp2_with (first|((with_reducible refine gate_callee (f:=80) rfl ?_);refine goesL_ (some 14) rfl rfl Tryd.func80 (by kernel_rfl) rfl #[.string a0,.int .u8 0] rfl (by (try simp only [List.map_toArray,List.map_cons,List.map_nil]);first|done|rfl|(simp only [List.length_drop,List.length_take];rfl)) ?_;(with_reducible refine (strings_IndexByte.calls a0 0 t101 _ A5.out).mono ?_);rintro e w' ⟨rfl,⟨nd,rfl⟩⟩;refine ⟨_,rfl,?_⟩))
     go_ret
     exact ⟨by first|rfl|(simp [errW_none,errW_some] <;> rfl)|(simp [*,errW_none,errW_some] <;> rfl),by repeat (first|(with_reducible first|exact HB.out|apply bwA|apply pwbN|apply bw1)|exact HB.out)⟩
    ·rw [if_neg c6] at H;have c6b0:decide (0 ≤ t101) = false:=decide_eq_false c6;clear c6;replace H:=Option.bind_eq_some_iff.mp H;obtain ⟨t102,A70,H⟩:=H;replace H:(path_Check.l0 kj1 t102 (t102.length:Int) 0) = some r:=H;have A7:=Aside0.mk A70;clear A70;have H':=Aside0.mk H;clear H;go_wp2_with (first|((with_reducible refine gate_callee (f:=80) rfl ?_);refine goesL_ (some 14) rfl rfl Tryd.func80 (by kernel_rfl) rfl #[.string a0,.int .u8 0] rfl (by (try simp only [List.map_toArray,List.map_cons,List.map_nil]);first|done|rfl|(simp only [List.length_drop,List.length_take];rfl)) ?_;(with_reducible refine (strings_IndexByte.calls a0 0 t101 _ A5.out).mono ?_);rintro e w' ⟨rfl,⟨nd,rfl⟩⟩;refine ⟨_,rfl,?_⟩)|((with_reducible refine gate_callee (f:=99) rfl ?_);refine goesL_ (some 17) rfl rfl Tryd.func99 (by kernel_rfl) rfl #[.string a0,.string (⟨#[47]⟩:ByteArray)] rfl (by (try simp only [List.map_toArray,List.map_cons,List.map_nil]);first|done|rfl|(simp only [List.length_drop,List.length_take];rfl)) ?_;(with_reducible refine (strings_Split.calls a0 (⟨#[47]⟩:ByteArray) t102 _ A7.out).mono ?_);rintro e w8 ⟨v103,rfl,ho0,hb⟩;refine ⟨_,rfl,?_⟩;have n0_:=Aside0.mk (Kd.R_lower ho0 (below_size (by repeat (first|(with_reducible first|exact HB.out|apply bwA|apply pwbN|apply bw1)|exact HB.out))));have n1_:=Aside0.mk (below_step (by repeat (first|(with_reducible first|exact HB.out|apply bwA|apply pwbN|apply bw1)|exact HB.out)) hb);clear HB;have HO104:=n0_;have HB:=n1_;clear n0_ n1_;(try clear hb);(try clear hb2);(try clear hk);(try clear hi);(try clear ho0);obtain ⟨Ao9,co9,eo9⟩:=Kd.R_slice HO104.out;subst eo9))
     go_loopg [19] kj1 (fun kq v19 w'=>∃ (x19_2:Int),v19 = .int .i64 x19_2∧Aside0 (path_Check.l0 kq t102 (t102.length:Int) x19_2 = some r)∧Aside0 (kq ≤ kj1)∧Aside0 (Kd.R Kd.string 9 w' w.heap.size (fun _=>True) (.slice Ao9 t102.length co9) t102)∧Aside0 (Below w.heap.size w w'))
     case atStart=>exact ⟨(0),(by first|rfl|(simp;done)|(simp [*];done)),H',⟨Nat.le_refl _⟩,⟨by (with_reducible repeat (first|apply Kd.R_alloc|apply Kd.R_drewN|apply Kd.R_drew));exact HO104.out⟩,⟨by repeat (first|(with_reducible first|exact HB.out|apply bwA|apply pwbN|apply bw1)|exact HB.out)⟩⟩
     case round =>
      clear H';repeat first|clear c4|clear c6|clear c6b0
      obtain ⟨x19_2,rfl,HA,HK2,HO_17,HB⟩:=hrel;cases gk with
      | zero=>exact absurd HA.out (by simp [path_Check.l0])
      | succ k2 =>
       have H:=HA.out;clear HA;simp only [path_Check.l0] at H;by_cases c10:x19_2 < (t102.length:Int)
       ·rw [if_pos c10] at H;have c10b0:decide (x19_2 < (t102.length:Int)) = true:=decide_eq_true c10;clear c10;by_cases c11:0 ≤ x19_2
        ·rw [if_pos c11] at H;have c11b0:decide (0 ≤ x19_2) = true:=decide_eq_true c11;clear c11;by_cases c12:x19_2 < (t102.length:Int)
         ·rw [if_pos c12] at H;have c12b0:decide (x19_2 < (t102.length:Int)) = true:=decide_eq_true c12;clear c12;by_cases c13:(rdOf ByteArray.empty t102 x19_2).toList = ([]:List UInt8)
          ·rw [if_pos c13] at H;have c13b0:((rdOf ByteArray.empty t102 x19_2).toList == ([]:List UInt8)) = true:=beq_iff_eq.mpr c13;have c13b1:((rdOf ByteArray.empty t102 x19_2).toList != ([]:List UInt8)) = false:=bne_eq_false_iff_eq.mpr c13;clear c13;obtain rfl:=Option.some.inj H;have p105:0 ≤ (x19_2:Int):=of_decide_eq_true (by first|(with_reducible assumption)|assumption);have q105:x19_2 < (t102.length:Int):=of_decide_eq_true (by first|(with_reducible assumption)|assumption);obtain ⟨ad105,e105,hx105_0⟩:=Kd.at_string (Kd.R_reads' HO_17.out).2.2 x19_2 p105 q105;cases e105;replace p105:=eq_true p105;replace q105:=eq_true q105;go_wp2;go_ret
           exact ⟨by first|rfl|(simp [errW_none,errW_some] <;> rfl)|(simp [*,errW_none,errW_some] <;> rfl),by repeat (first|(with_reducible first|exact HB.out|apply bwA|apply pwbN|apply bw1)|exact HB.out)⟩
          ·rw [if_neg c13] at H;have c13b0:((rdOf ByteArray.empty t102 x19_2).toList == ([]:List UInt8)) = false:=beq_eq_false_iff_ne.mpr c13;have c13b1:((rdOf ByteArray.empty t102 x19_2).toList != ([]:List UInt8)) = true:=bne_iff_ne.mpr c13;by_cases c14:(rdOf ByteArray.empty t102 x19_2).toList = ([46]:List UInt8)
           ·rw [if_pos c14] at H;have c14b0:((rdOf ByteArray.empty t102 x19_2).toList == ([46]:List UInt8)) = true:=beq_iff_eq.mpr c14;have c14b1:((rdOf ByteArray.empty t102 x19_2).toList != ([46]:List UInt8)) = false:=bne_eq_false_iff_eq.mpr c14;clear c14;obtain rfl:=Option.some.inj H;have p105:0 ≤ (x19_2:Int):=of_decide_eq_true (by first|(with_reducible assumption)|assumption);have q105:x19_2 < (t102.length:Int):=of_decide_eq_true (by first|(with_reducible assumption)|assumption);obtain ⟨ad105,e105,hx105_0⟩:=Kd.at_string (Kd.R_reads' HO_17.out).2.2 x19_2 p105 q105;cases e105;replace p105:=eq_true p105;replace q105:=eq_true q105;go_wp2;go_ret
            exact ⟨by first|rfl|(simp [errW_none,errW_some] <;> rfl)|(simp [*,errW_none,errW_some] <;> rfl),by repeat (first|(with_reducible first|exact HB.out|apply bwA|apply pwbN|apply bw1)|exact HB.out)⟩
           ·rw [if_neg c14] at H;have c14b0:((rdOf ByteArray.empty t102 x19_2).toList == ([46]:List UInt8)) = false:=beq_eq_false_iff_ne.mpr c14;have c14b1:((rdOf ByteArray.empty t102 x19_2).toList != ([46]:List UInt8)) = true:=bne_iff_ne.mpr c14;by_cases c15:(rdOf ByteArray.empty t102 x19_2).toList = ([46,46]:List UInt8)
            ·rw [if_pos c15] at H;have c15b0:((rdOf ByteArray.empty t102 x19_2).toList == ([46,46]:List UInt8)) = true:=beq_iff_eq.mpr c15;have c15b1:((rdOf ByteArray.empty t102 x19_2).toList != ([46,46]:List UInt8)) = false:=bne_eq_false_iff_eq.mpr c15;clear c15;obtain rfl:=Option.some.inj H;have p105:0 ≤ (x19_2:Int):=of_decide_eq_true (by first|(with_reducible assumption)|assumption);have q105:x19_2 < (t102.length:Int):=of_decide_eq_true (by first|(with_reducible assumption)|assumption);obtain ⟨ad105,e105,hx105_0⟩:=Kd.at_string (Kd.R_reads' HO_17.out).2.2 x19_2 p105 q105;cases e105;replace p105:=eq_true p105;replace q105:=eq_true q105;go_wp2;go_ret
             exact ⟨by first|rfl|(simp [errW_none,errW_some] <;> rfl)|(simp [*,errW_none,errW_some] <;> rfl),by repeat (first|(with_reducible first|exact HB.out|apply bwA|apply pwbN|apply bw1)|exact HB.out)⟩
            ·rw [if_neg c15] at H;have c15b0:((rdOf ByteArray.empty t102 x19_2).toList == ([46,46]:List UInt8)) = false:=beq_eq_false_iff_ne.mpr c15;have c15b1:((rdOf ByteArray.empty t102 x19_2).toList != ([46,46]:List UInt8)) = true:=bne_iff_ne.mpr c15;have H':=Aside0.mk H;clear H;have p105:0 ≤ (x19_2:Int):=of_decide_eq_true (by first|(with_reducible assumption)|assumption);have q105:x19_2 < (t102.length:Int):=of_decide_eq_true (by first|(with_reducible assumption)|assumption);obtain ⟨ad105,e105,hx105_0⟩:=Kd.at_string (Kd.R_reads' HO_17.out).2.2 x19_2 p105 q105;cases e105;replace p105:=eq_true p105;replace q105:=eq_true q105;go_wp2;go_roundg k2
             case measure=>have:=HJ1.out;have:=HK2.out;omega
             case rel=>exact ⟨(wrap64 (x19_2 + 1)),(by first|rfl|(simp;done)|(simp [*];done)),H',⟨by have:=HJ1.out;have:=HK2.out;omega⟩,⟨by (with_reducible repeat (first|apply Kd.R_alloc|apply Kd.R_drewN|apply Kd.R_drew));exact HO_17.out⟩,⟨by repeat (first|(with_reducible first|exact HB.out|apply bwA|apply pwbN|apply bw1)|exact HB.out)⟩⟩
         ·rw [if_neg c12] at H;exact absurd H (by simp)
        ·rw [if_neg c11] at H;exact absurd H (by simp)
       ·rw [if_neg c10] at H;have c10b0:decide (x19_2 < (t102.length:Int)) = false:=decide_eq_false c10;clear c10;obtain rfl:=Option.some.inj H;go_wp2;go_ret
        exact ⟨by first|rfl|(simp [errW_none,errW_some] <;> rfl)|(simp [*,errW_none,errW_some] <;> rfl),by repeat (first|(with_reducible first|exact HB.out|apply bwA|apply pwbN|apply bw1)|exact HB.out)⟩
end Go.Proofs.YtlfeijjilndljaaDoor.All
end
section
namespace Go.Proofs.YtlfeijjilndljaaDoor.All
open Go.RowKit Go.Proofs.YtlfeijjilndljaaDoorW.PrintWords Go.Proofs.YtlfeijjilndljaaDoorW.PrintLast Go.Proofs.YtlfeijjilndljaaDoorW.PrintMore
open Go.Proofs.YtlfeijjilndljaaDoorW.Mine
attribute [local go_sem] gtr_string leq_string geq_string
attribute [local go_sem] max2_int min2_int max_two min_two max_three min_three max_four min_four
set_option linter.unusedVariables false
set_option linter.unusedSimpArgs false
def stamp_Check.f (a0:Int) (a1:Int):Option (Int):=if a0 < (-1099511627776) then (some 4) else (if a0 > 1099511627776 then (some 4) else (if a1 < 0 then (some 4) else (if a1 > 999999999 then (some 4) else (some 0))))
set_option maxHeartbeats 8000000 in
set_option maxRecDepth 100000 in
theorem stamp_Check.calls (a0:Int) (a1:Int) (r:Int) (w:World) (h:stamp_Check.f a0 a1 = some r) :
 Calls Tryd.prog 100 #[.int .i64 a0,.int .i64 a1] w fun e w'=>e = .returned (.int .i64 r)∧Drawn0 w w':=by
 have H:(if a0 < (-1099511627776) then (some 4) else (if a0 > 1099511627776 then (some 4) else (if a1 < 0 then (some 4) else (if a1 > 999999999 then (some 4) else (some 0))))) = some r:=h;clear h;by_cases c3:a0 < (-1099511627776)
 ·rw [if_pos c3] at H;have c3b0:decide (a0 < (-1099511627776)) = true:=decide_eq_true c3;clear c3;obtain rfl:=Option.some.inj H;go_enter Tryd.func100,Tryd.ntmps100;go_wp2;go_ret
  exact ⟨by first|rfl|(simp;done)|(simp [*];done),by repeat (first|exact Drawn0.refl _|apply Drawn0.step)⟩
 ·rw [if_neg c3] at H;have c3b0:decide (a0 < (-1099511627776)) = false:=decide_eq_false c3;clear c3;by_cases c4:a0 > 1099511627776
  ·rw [if_pos c4] at H;have c4b0:decide (1099511627776 < a0) = true:=decide_eq_true c4;clear c4;obtain rfl:=Option.some.inj H;go_enter Tryd.func100,Tryd.ntmps100;go_wp2;go_ret
   exact ⟨by first|rfl|(simp;done)|(simp [*];done),by repeat (first|exact Drawn0.refl _|apply Drawn0.step)⟩
  ·rw [if_neg c4] at H;have c4b0:decide (1099511627776 < a0) = false:=decide_eq_false c4;clear c4;by_cases c5:a1 < 0
   ·rw [if_pos c5] at H;have c5b0:decide (a1 < 0) = true:=decide_eq_true c5;clear c5;obtain rfl:=Option.some.inj H;go_enter Tryd.func100,Tryd.ntmps100;go_wp2;go_ret
    exact ⟨by first|rfl|(simp;done)|(simp [*];done),by repeat (first|exact Drawn0.refl _|apply Drawn0.step)⟩
   ·rw [if_neg c5] at H;have c5b0:decide (a1 < 0) = false:=decide_eq_false c5;clear c5;by_cases c6:a1 > 999999999
    ·rw [if_pos c6] at H;have c6b0:decide (999999999 < a1) = true:=decide_eq_true c6;clear c6;obtain rfl:=Option.some.inj H;go_enter Tryd.func100,Tryd.ntmps100;go_wp2;go_ret
     exact ⟨by first|rfl|(simp;done)|(simp [*];done),by repeat (first|exact Drawn0.refl _|apply Drawn0.step)⟩
    ·rw [if_neg c6] at H;have c6b0:decide (999999999 < a1) = false:=decide_eq_false c6;clear c6;obtain rfl:=Option.some.inj H;go_enter Tryd.func100,Tryd.ntmps100;go_wp2;go_ret
     exact ⟨by first|rfl|(simp;done)|(simp [*];done),by repeat (first|exact Drawn0.refl _|apply Drawn0.step)⟩
end Go.Proofs.YtlfeijjilndljaaDoor.All
end
section
namespace Go.Proofs.YtlfeijjilndljaaDoor.All
open Go.RowKit Go.Proofs.YtlfeijjilndljaaDoorW.PrintWords Go.Proofs.YtlfeijjilndljaaDoorW.PrintLast Go.Proofs.YtlfeijjilndljaaDoorW.PrintMore
open Go.Proofs.YtlfeijjilndljaaDoorW.Mine
attribute [local go_sem] gtr_string leq_string geq_string
attribute [local go_sem] max2_int min2_int max_two min_two max_three min_three max_four min_four
set_option linter.unusedVariables false
set_option linter.unusedSimpArgs false
mutual
def meta_Check.j0:Nat→Bool→Int→Int→Int→ByteArray→ByteArray→Int→Int→Option (Int)
 | 0,_,_,_,_,_,_,_,_=>none
 | k + 1,x3,x102000,x102001,x102002,x102003,x102004,x102005,x102006=>if x3 = true then (meta_Check.j1 k x3 x102000 x102001 x102002 x102003 x102004 x102005 x102006) else (if x102001 < 0 then (meta_Check.j1 k true x102000 x102001 x102002 x102003 x102004 x102005 x102006) else (if x102001 > 1125899906842624 then (meta_Check.j1 k (decide (x102001 > 1125899906842624)) x102000 x102001 x102002 x102003 x102004 x102005 x102006) else (if x102002 < 0 then (meta_Check.j1 k true x102000 x102001 x102002 x102003 x102004 x102005 x102006) else (meta_Check.j1 k (decide (x102002 > 1125899906842624)) x102000 x102001 x102002 x102003 x102004 x102005 x102006))))
def meta_Check.j1:Nat→Bool→Int→Int→Int→ByteArray→ByteArray→Int→Int→Option (Int)
 | 0,_,_,_,_,_,_,_,_=>none
 | k + 1,x3,x102000,x102001,x102002,x102003,x102004,x102005,x102006=>if x3 = true then (some 4) else (if (x102003.size:Int) > 60 then (meta_Check.j2 k true x102000 x102001 x102002 x102003 x102004 x102005 x102006) else (meta_Check.j2 k (decide ((x102004.size:Int) > 60)) x102000 x102001 x102002 x102003 x102004 x102005 x102006))
def meta_Check.j2:Nat→Bool→Int→Int→Int→ByteArray→ByteArray→Int→Int→Option (Int)
 | 0,_,_,_,_,_,_,_,_=>none
 | k + 1,x28,x102000,x102001,x102002,x102003,x102004,x102005,x102006=>if x28 = true then (some 1) else (if x102003.size + x102004.size ≤ 9223372036854775807 then ((strings_IndexByte.f (x102003 ++ x102004) 0).bind fun t102=>(if t102 ≥ 0 then (some 3) else ((stamp_Check.f x102005 x102006).bind fun t103=>(some t103)))) else (none))
end
def meta_Check.f (k:Nat) (a0_0:Int) (a0_1:Int) (a0_2:Int) (a0_3:ByteArray) (a0_4:ByteArray) (a0_5:Int) (a0_6:Int):Option (Int):=if a0_0 < 0 then (meta_Check.j0 k true a0_0 a0_1 a0_2 a0_3 a0_4 a0_5 a0_6) else (meta_Check.j0 k (decide (a0_0 > 4095)) a0_0 a0_1 a0_2 a0_3 a0_4 a0_5 a0_6)
set_option maxHeartbeats 8000000 in
set_option maxRecDepth 100000 in
theorem meta_Check.calls (k:Nat) (a0_0:Int) (a0_1:Int) (a0_2:Int) (a0_3:ByteArray) (a0_4:ByteArray) (a0_5:Int) (a0_6:Int) (r:Int) (w:World) (h:meta_Check.f k a0_0 a0_1 a0_2 a0_3 a0_4 a0_5 a0_6 = some r) :
 Calls Tryd.prog 79 #[.agg #[.int .i64 a0_0,.int .i64 a0_1,.int .i64 a0_2,.string a0_3,.string a0_4,.int .i64 a0_5,.int .i64 a0_6]] w fun e w'=>e = .returned (.int .i64 r)∧Below w.heap.size w w':=by
 have hu32:=Tryd.underlying32;have HB:=Aside0.mk (Below.refl w.heap.size w);have H:(if a0_0 < 0 then (meta_Check.j0 k true a0_0 a0_1 a0_2 a0_3 a0_4 a0_5 a0_6) else (meta_Check.j0 k (decide (a0_0 > 4095)) a0_0 a0_1 a0_2 a0_3 a0_4 a0_5 a0_6)) = some r:=h;clear h;have HC2:=Aside0.mk H;clear H;go_enter Tryd.func79,Tryd.ntmps79;go_upto_region 1 with (first|((with_reducible refine gate_dst (N:=1) rfl ?_);(try (refine gate_guard (by rfl) ?_;dsimp only));refine box_event ?hg (N:=1) ?hd (cs:=#[.int .i64 a0_0,.int .i64 a0_1,.int .i64 a0_2,.string a0_3,.string a0_4,.int .i64 a0_5,.int .i64 a0_6]) (t:=32) ?hr ?_;(case hd=>rfl);(case hg=>rfl);(case hr=>first|(go_simp;done)|(go_simp;rfl));intro gb101 hg w3 hbox hb;have n0_:=Aside0.mk (below_step (by repeat (first|(with_reducible first|exact HB.out|apply bwA|apply pwbN|apply bw1)|exact HB.out)) hb);have n1_:=Aside0.mk (hbox);have n2_:=Aside0.mk ((by rw [hg];exact (below_size (by repeat (first|(with_reducible first|exact HB.out|apply bwA|apply pwbN|apply bw1)|exact HB.out))):w.heap.size ≤ gb101));have n3_:=Aside0.mk ((by rw [hg];exact (below_size (by repeat (first|(with_reducible first|exact HB.out|apply bwA|apply pwbN|apply bw1)|exact HB.out))):w.heap.size ≤ gb101));clear HB;have HB:=n0_;have BK101:=n1_;have GW101:=n2_;have GE101:=n3_;clear n0_ n1_ n2_ n3_;clear hb hbox hg))
 (try simp only [Act.put,List.setIfInBounds_toArray,List.set_cons_zero,List.set_cons_succ]);go_cut [3] (fun v3 wc=>∃ (kq:Nat) (x3_1:Bool),v3 = .bool x3_1∧Aside0 (meta_Check.j0 kq x3_1 a0_0 a0_1 a0_2 a0_3 a0_4 a0_5 a0_6 = some r)∧Aside0 (kq ≤ k)∧Aside0 (wc.heap[gb101]? = some (.cells #[.int .i64 a0_0,.int .i64 a0_1,.int .i64 a0_2,.string a0_3,.string a0_4,.int .i64 a0_5,.int .i64 a0_6] 32 (0,0)))∧Aside0 (Below w.heap.size w wc))
 case first =>
  have H:=HC2.out;clear HC2;by_cases c4:a0_0 < 0
  ·rw [if_pos c4] at H;have c4b0:decide (a0_0 < 0) = true:=decide_eq_true c4;clear c4;(first|rw [c4b0]|(simp only [i64_w,i32_w];rw [c4b0])|skip);have H':=Aside0.mk H;clear H;obtain ⟨_,_,_,_,_,_,_,_,_,_,_,_,_,_⟩:=blkA7 BK101.out;go_wp2;go_meet
   case rel=>exact ⟨_,(true),(by first|rfl|(simp;done)|(simp [*];done)),H',⟨by first|omega|exact Nat.le_refl _⟩,⟨by (with_reducible repeat (first|refine blk_drewN ?_ _|refine blk_drew ?_|refine blk_alloc ?_ _));exact BK101.out⟩,⟨by repeat (first|(with_reducible first|exact HB.out|apply bwA|apply pwbN|apply bw1|refine below_set ?_ GE101.out)|exact HB.out)⟩⟩
  ·rw [if_neg c4] at H;have c4b0:decide (a0_0 < 0) = false:=decide_eq_false c4;clear c4;(first|rw [c4b0]|(simp only [i64_w,i32_w];rw [c4b0])|skip);have H':=Aside0.mk H;clear H;obtain ⟨_,_,_,_,_,_,_,_,_,_,_,_,_,_⟩:=blkA7 BK101.out;go_wp2;go_meet
   case rel=>exact ⟨_,(decide (a0_0 > 4095)),(by first|rfl|(simp;done)|(simp [*];done)),H',⟨by first|omega|exact Nat.le_refl _⟩,⟨by (with_reducible repeat (first|refine blk_drewN ?_ _|refine blk_drew ?_|refine blk_alloc ?_ _));exact BK101.out⟩,⟨by repeat (first|(with_reducible first|exact HB.out|apply bwA|apply pwbN|apply bw1|refine below_set ?_ GE101.out)|exact HB.out)⟩⟩
 case rest =>
  clear HC2;obtain ⟨kq,x3_1,rfl,HA,HJ1,BK101,HB⟩:=hcut;cases kq with
  | zero=>exact absurd HA.out (by simp [meta_Check.j0])
  | succ kj1 =>
   have H:=HA.out;clear HA;simp only [meta_Check.j0] at H;have HC7:=Aside0.mk H;clear H;go_upto_if 3 with (fail)
   go_cut [3] (fun v3 wc=>∃ (kq:Nat) (x3_6:Bool),v3 = .bool x3_6∧Aside0 (meta_Check.j1 kq x3_6 a0_0 a0_1 a0_2 a0_3 a0_4 a0_5 a0_6 = some r)∧Aside0 (kq ≤ kj1)∧Aside0 (wc.heap[gb101]? = some (.cells #[.int .i64 a0_0,.int .i64 a0_1,.int .i64 a0_2,.string a0_3,.string a0_4,.int .i64 a0_5,.int .i64 a0_6] 32 (0,0)))∧Aside0 (Below w.heap.size w wc))
   case first =>
    have H:=HC7.out;clear HC7;by_cases c8:x3_1 = true
    ·subst c8;have H1:(meta_Check.j1 kj1 true a0_0 a0_1 a0_2 a0_3 a0_4 a0_5 a0_6) = some r:=by rw [if_pos rfl] at H;exact H
     clear H;have H:=H1;clear H1;have H':=Aside0.mk H;clear H;go_wp2;go_meet
     case rel=>exact ⟨_,(true),(by first|rfl|(simp;done)|(simp [*];done)),H',⟨by have:=HJ1.out;first|omega|exact Nat.le_refl _⟩,⟨by (with_reducible repeat (first|refine blk_drewN ?_ _|refine blk_drew ?_|refine blk_alloc ?_ _));exact BK101.out⟩,⟨by repeat (first|(with_reducible first|exact HB.out|apply bwA|apply pwbN|apply bw1|refine below_set ?_ GE101.out)|exact HB.out)⟩⟩
    ·replace c8:=Bool.eq_false_iff.mpr c8;subst c8;have H1:(if a0_1 < 0 then (meta_Check.j1 kj1 true a0_0 a0_1 a0_2 a0_3 a0_4 a0_5 a0_6) else (if a0_1 > 1125899906842624 then (meta_Check.j1 kj1 (decide (a0_1 > 1125899906842624)) a0_0 a0_1 a0_2 a0_3 a0_4 a0_5 a0_6) else (if a0_2 < 0 then (meta_Check.j1 kj1 true a0_0 a0_1 a0_2 a0_3 a0_4 a0_5 a0_6) else (meta_Check.j1 kj1 (decide (a0_2 > 1125899906842624)) a0_0 a0_1 a0_2 a0_3 a0_4 a0_5 a0_6)))) = some r:=by rw [if_neg (show ¬ (false = true) by decide)] at H;exact H
     clear H;have H:=H1;clear H1;by_cases c9:a0_1 < 0
     ·rw [if_pos c9] at H;have c9b0:decide (a0_1 < 0) = true:=decide_eq_true c9;clear c9;(first|rw [c9b0]|(simp only [i64_w,i32_w];rw [c9b0])|skip);have H':=Aside0.mk H;clear H;obtain ⟨_,_,_,_,_,_,_,_,_,_,_,_,_,_⟩:=blkA7 BK101.out;go_wp2;go_meet
      case rel=>exact ⟨_,(true),(by first|rfl|(simp;done)|(simp [*];done)),H',⟨by have:=HJ1.out;first|omega|exact Nat.le_refl _⟩,⟨by (with_reducible repeat (first|refine blk_drewN ?_ _|refine blk_drew ?_|refine blk_alloc ?_ _));exact BK101.out⟩,⟨by repeat (first|(with_reducible first|exact HB.out|apply bwA|apply pwbN|apply bw1|refine below_set ?_ GE101.out)|exact HB.out)⟩⟩
     ·rw [if_neg c9] at H;have c9b0:decide (a0_1 < 0) = false:=decide_eq_false c9;clear c9;(first|rw [c9b0]|(simp only [i64_w,i32_w];rw [c9b0])|skip);by_cases c11:a0_1 > 1125899906842624
      ·rw [if_pos c11] at H;have c11b0:decide (1125899906842624 < a0_1) = true:=decide_eq_true c11;clear c11;have H':=Aside0.mk H;clear H;obtain ⟨_,_,_,_,_,_,_,_,_,_,_,_,_,_⟩:=blkA7 BK101.out;go_wp2;go_meet
       case rel=>exact ⟨_,(decide (a0_1 > 1125899906842624)),(by first|rfl|(simp;done)|(simp [*];done)),H',⟨by have:=HJ1.out;first|omega|exact Nat.le_refl _⟩,⟨by (with_reducible repeat (first|refine blk_drewN ?_ _|refine blk_drew ?_|refine blk_alloc ?_ _));exact BK101.out⟩,⟨by repeat (first|(with_reducible first|exact HB.out|apply bwA|apply pwbN|apply bw1|refine below_set ?_ GE101.out)|exact HB.out)⟩⟩
      ·rw [if_neg c11] at H;have c11b0:decide (1125899906842624 < a0_1) = false:=decide_eq_false c11;clear c11;by_cases c13:a0_2 < 0
       ·rw [if_pos c13] at H;have c13b0:decide (a0_2 < 0) = true:=decide_eq_true c13;clear c13;have H':=Aside0.mk H;clear H;obtain ⟨_,_,_,_,_,_,_,_,_,_,_,_,_,_⟩:=blkA7 BK101.out;go_wp2;go_meet
        case rel=>exact ⟨_,(true),(by first|rfl|(simp;done)|(simp [*];done)),H',⟨by have:=HJ1.out;first|omega|exact Nat.le_refl _⟩,⟨by (with_reducible repeat (first|refine blk_drewN ?_ _|refine blk_drew ?_|refine blk_alloc ?_ _));exact BK101.out⟩,⟨by repeat (first|(with_reducible first|exact HB.out|apply bwA|apply pwbN|apply bw1|refine below_set ?_ GE101.out)|exact HB.out)⟩⟩
       ·rw [if_neg c13] at H;have c13b0:decide (a0_2 < 0) = false:=decide_eq_false c13;clear c13;have H':=Aside0.mk H;clear H;obtain ⟨_,_,_,_,_,_,_,_,_,_,_,_,_,_⟩:=blkA7 BK101.out;go_wp2;go_meet
        case rel=>exact ⟨_,(decide (a0_2 > 1125899906842624)),(by first|rfl|(simp;done)|(simp [*];done)),H',⟨by have:=HJ1.out;first|omega|exact Nat.le_refl _⟩,⟨by (with_reducible repeat (first|refine blk_drewN ?_ _|refine blk_drew ?_|refine blk_alloc ?_ _));exact BK101.out⟩,⟨by repeat (first|(with_reducible first|exact HB.out|apply bwA|apply pwbN|apply bw1|refine below_set ?_ GE101.out)|exact HB.out)⟩⟩
   case rest =>
    clear HC7;obtain ⟨kq,x3_6,rfl,HA,HJ6,BK101,HB⟩:=hcut;cases kq with
    | zero=>exact absurd HA.out (by simp [meta_Check.j1])
    | succ kj6 =>
     have H:=HA.out;clear HA;simp only [meta_Check.j1] at H;by_cases c16:x3_6 = true
     ·subst c16;have H1:(some 4) = some r:=by rw [if_pos rfl] at H;exact H
      clear H;have H:=H1;clear H1;obtain rfl:=Option.some.inj H;go_wp2;go_ret
      exact ⟨by first|rfl|(simp [errW_none,errW_some] <;> rfl)|(simp [*,errW_none,errW_some] <;> rfl),by repeat (first|(with_reducible first|exact HB.out|apply bwA|apply pwbN|apply bw1|refine below_set ?_ GE101.out)|exact HB.out)⟩
     ·replace c16:=Bool.eq_false_iff.mpr c16;subst c16;have H1:(if (a0_3.size:Int) > 60 then (meta_Check.j2 kj6 true a0_0 a0_1 a0_2 a0_3 a0_4 a0_5 a0_6) else (meta_Check.j2 kj6 (decide ((a0_4.size:Int) > 60)) a0_0 a0_1 a0_2 a0_3 a0_4 a0_5 a0_6)) = some r:=by rw [if_neg (show ¬ (false = true) by decide)] at H;exact H
      clear H;have H:=H1;clear H1;have HC17:=Aside0.mk H;clear H;go_upto_region 5 with (fail)
      go_cut [28] (fun v28 wc=>∃ (kq:Nat) (x28_16:Bool),v28 = .bool x28_16∧Aside0 (meta_Check.j2 kq x28_16 a0_0 a0_1 a0_2 a0_3 a0_4 a0_5 a0_6 = some r)∧Aside0 (kq ≤ kj6)∧Aside0 (wc.heap[gb101]? = some (.cells #[.int .i64 a0_0,.int .i64 a0_1,.int .i64 a0_2,.string a0_3,.string a0_4,.int .i64 a0_5,.int .i64 a0_6] 32 (0,0)))∧Aside0 (Below w.heap.size w wc))
      case first =>
       have H:=HC17.out;clear HC17;by_cases c18:(a0_3.size:Int) > 60
       ·rw [if_pos c18] at H;have c18b0:decide (60 < (a0_3.size:Int)) = true:=decide_eq_true c18;have c18b1:decide (60 < a0_3.size) = true:=decide_eq_true (by omega);clear c18;(first|rw [c18b0]|(simp only [i64_w,i32_w];rw [c18b0])|skip);have H':=Aside0.mk H;clear H;obtain ⟨_,_,_,_,_,_,_,_,_,_,_,_,_,_⟩:=blkA7 BK101.out;go_wp2;go_meet
        case rel=>exact ⟨_,(true),(by first|rfl|(simp;done)|(simp [*];done)),H',⟨by have:=HJ1.out;have:=HJ6.out;first|omega|exact Nat.le_refl _⟩,⟨by (with_reducible repeat (first|refine blk_drewN ?_ _|refine blk_drew ?_|refine blk_alloc ?_ _));exact BK101.out⟩,⟨by repeat (first|(with_reducible first|exact HB.out|apply bwA|apply pwbN|apply bw1|refine below_set ?_ GE101.out)|exact HB.out)⟩⟩
       ·rw [if_neg c18] at H;have c18b0:decide (60 < (a0_3.size:Int)) = false:=decide_eq_false c18;have c18b1:decide (60 < a0_3.size) = false:=decide_eq_false (by omega);clear c18;(first|rw [c18b0]|(simp only [i64_w,i32_w];rw [c18b0])|skip);have H':=Aside0.mk H;clear H;obtain ⟨_,_,_,_,_,_,_,_,_,_,_,_,_,_⟩:=blkA7 BK101.out;go_wp2;go_meet
        case rel=>exact ⟨_,(decide ((a0_4.size:Int) > 60)),(by first|rfl|(simp;done)|(simp [*];done)),H',⟨by have:=HJ1.out;have:=HJ6.out;first|omega|exact Nat.le_refl _⟩,⟨by (with_reducible repeat (first|refine blk_drewN ?_ _|refine blk_drew ?_|refine blk_alloc ?_ _));exact BK101.out⟩,⟨by repeat (first|(with_reducible first|exact HB.out|apply bwA|apply pwbN|apply bw1|refine below_set ?_ GE101.out)|exact HB.out)⟩⟩
      case rest =>
       clear HC17;try clear c16
       obtain ⟨kq,x28_16,rfl,HA,HJ16,BK101,HB⟩:=hcut;cases kq with
       | zero=>exact absurd HA.out (by simp [meta_Check.j2])
       | succ kj16 =>
        have H:=HA.out;clear HA;simp only [meta_Check.j2] at H;by_cases c21:x28_16 = true
        ·subst c21;have H1:(some 1) = some r:=by rw [if_pos rfl] at H;exact H
         clear H;have H:=H1;clear H1;obtain rfl:=Option.some.inj H;go_wp2;go_ret
         exact ⟨by first|rfl|(simp [errW_none,errW_some] <;> rfl)|(simp [*,errW_none,errW_some] <;> rfl),by repeat (first|(with_reducible first|exact HB.out|apply bwA|apply pwbN|apply bw1|refine below_set ?_ GE101.out)|exact HB.out)⟩
        ·replace c21:=Bool.eq_false_iff.mpr c21;subst c21;have H1:(if a0_3.size + a0_4.size ≤ 9223372036854775807 then ((strings_IndexByte.f (a0_3 ++ a0_4) 0).bind fun t102=>(if t102 ≥ 0 then (some 3) else ((stamp_Check.f a0_5 a0_6).bind fun t103=>(some t103)))) else (none)) = some r:=by rw [if_neg (show ¬ (false = true) by decide)] at H;exact H
         clear H;have H:=H1;clear H1;by_cases c22:a0_3.size + a0_4.size ≤ 9223372036854775807
         ·rw [if_pos c22] at H;have c22b0:=eq_true c22;have c22b1:decide (a0_3.size + a0_4.size ≤ 9223372036854775807) = true:=decide_eq_true c22;try have c22b2:(9223372036854775807 < a0_3.size + a0_4.size) = False:=eq_false (Nat.not_lt.2 c22)
          replace H:=Option.bind_eq_some_iff.mp H;obtain ⟨t102,A230,H⟩:=H;replace H:(if t102 ≥ 0 then (some 3) else ((stamp_Check.f a0_5 a0_6).bind fun t103=>(some t103))) = some r:=H;have A23:=Aside0.mk A230;clear A230;by_cases c24:t102 ≥ 0
          ·rw [if_pos c24] at H;have c24b0:decide (0 ≤ t102) = true:=decide_eq_true c24;clear c24;obtain rfl:=Option.some.inj H;obtain ⟨_,_,_,_,_,_,_,_,_,_,_,_,_,_⟩:=blkA7 BK101.out;go_wp2_with (first|((with_reducible refine gate_callee (f:=80) rfl ?_);refine goesL_ (some 45) rfl rfl Tryd.func80 (by kernel_rfl) rfl #[.string (a0_3 ++ a0_4),.int .u8 0] rfl (by (try simp only [List.map_toArray,List.map_cons,List.map_nil]);first|done|rfl|(simp only [List.length_drop,List.length_take];rfl)) ?_;(with_reducible refine (strings_IndexByte.calls (a0_3 ++ a0_4) 0 t102 _ A23.out).mono ?_);rintro e w' ⟨rfl,⟨nd,rfl⟩⟩;refine ⟨_,rfl,?_⟩))
           go_ret
           exact ⟨by first|rfl|(simp [errW_none,errW_some] <;> rfl)|(simp [*,errW_none,errW_some] <;> rfl),by repeat (first|(with_reducible first|exact HB.out|apply bwA|apply pwbN|apply bw1|refine below_set ?_ GE101.out)|exact HB.out)⟩
          ·rw [if_neg c24] at H;have c24b0:decide (0 ≤ t102) = false:=decide_eq_false c24;clear c24;replace H:=Option.bind_eq_some_iff.mp H;obtain ⟨t103,A260,H⟩:=H;replace H:(some t103) = some r:=H;have A26:=Aside0.mk A260;clear A260;obtain rfl:=Option.some.inj H;obtain ⟨_,_,_,_,_,_,_,_,_,_,_,_,_,_⟩:=blkA7 BK101.out;go_wp2_with (first|((with_reducible refine gate_callee (f:=80) rfl ?_);refine goesL_ (some 45) rfl rfl Tryd.func80 (by kernel_rfl) rfl #[.string (a0_3 ++ a0_4),.int .u8 0] rfl (by (try simp only [List.map_toArray,List.map_cons,List.map_nil]);first|done|rfl|(simp only [List.length_drop,List.length_take];rfl)) ?_;(with_reducible refine (strings_IndexByte.calls (a0_3 ++ a0_4) 0 t102 _ A23.out).mono ?_);rintro e w' ⟨rfl,⟨nd,rfl⟩⟩;refine ⟨_,rfl,?_⟩)|((with_reducible refine gate_callee (f:=100) rfl ?_);refine goesL_ (some 51) rfl rfl Tryd.func100 (by kernel_rfl) rfl #[.int .i64 a0_5,.int .i64 a0_6] rfl (by (try simp only [List.map_toArray,List.map_cons,List.map_nil]);first|done|rfl|(simp only [List.length_drop,List.length_take];rfl)) ?_;(with_reducible refine (stamp_Check.calls a0_5 a0_6 t103 _ A26.out).mono ?_);rintro e w' ⟨rfl,⟨nd,rfl⟩⟩;refine ⟨_,rfl,?_⟩))
           go_ret
           exact ⟨by first|rfl|(simp [errW_none,errW_some] <;> rfl)|(simp [*,errW_none,errW_some] <;> rfl),by repeat (first|(with_reducible first|exact HB.out|apply bwA|apply pwbN|apply bw1|refine below_set ?_ GE101.out)|exact HB.out)⟩
         ·rw [if_neg c22] at H;exact absurd H (by simp)
end Go.Proofs.YtlfeijjilndljaaDoor.All
end
