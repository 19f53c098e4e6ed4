/- Made by programs of the prover: walks of Go functions, the words that they use, and plain laws, each text in a section of its own; no condition of its own. -/
import Derived.Laws.Strings
import Derived.Maps.Ext
import Derived.Maps.OwnSet
import Derived.Maps.OwnOps
import Derived.Maps.Views
import Derived.Below
import Derived.Shelf.Small.Strs
import Derived.Shelf.Strings.Search2
import Derived.Shelf.Strings.Search3
import Derived.Shelf.Strings.Count
import Derived.Shelf.LaysM
import Derived.Shelf.Strings.LastIndex
import Derived.Shelf.Strings.Prefix
import Derived.Test.YtcbbcnmifohibaaDoorProg
import Derived.StillTailTactics
import Derived.Lib.TrimU
import Derived.Lib.OthersKept
import Derived.Shelf.Strings.SplitCore
import Derived.Lib.SplitLaws
import Derived.Lib.IndexBytes
import Derived.Shelf.Strings.SlTrimAscii
import Derived.Lib.SmallJoins
import Derived.Deep.Draws
import Derived.Deep.AppendLies
import Derived.Maps.AppendAt
import Derived.OwnWalk
import Derived.Laws.BytesArg
import Derived.Laws.MakeOwn
import Derived.Laws.OwnMore
import Derived.Deep.OwnRows
import Derived.Tactics
import Derived.Lib.ConvBytes
import Derived.Laws.Slices
import Derived.WalkKit
import Derived.KernelRfl
import Derived.RowKit3
import Derived.Deep.LoopGhost
import Derived.Deep.QuietTactic
import Derived.BigQuiet
import Derived.WideLaws
import Derived.Deep.DeepCutAuto
import Derived.Deep.CutBlock
import Derived.Deep.RegionHeld3
import Derived.Laws.Rows
import Derived.Lib.AppendStr
import Derived.ArgAppend
import Derived.Laws.IdiomCopy
import Derived.OrdersHeld
import Derived.Laws.BitsLemmas
import Derived.RowKit
import Derived.Test.YtcbbcnmifohibaaDoorZTreePuts1
section
namespace Go.Proofs.YtcbbcnmifohibaaDoorW.Mine
open Go.RowKit
theorem bytesLess_swap:∀ a b:List UInt8,(!(Op.bytesLess a b || a == b)) = Op.bytesLess b a
  | [],[]=>by simp [Op.bytesLess]
  | [],b :: y=>by simp [Op.bytesLess]
  | a :: x,[]=>by simp [Op.bytesLess]
  | a :: x,b :: y=>by
    have ih:=bytesLess_swap x y
    simp only [Op.bytesLess]
    by_cases h1:a < b
    · have h2:¬ b < a:=by rw [UInt8.lt_iff_toNat_lt] at h1 ⊢;omega
      have h3:(b == a) = false:=by
        rw [beq_eq_false_iff_ne]
        rintro rfl
        rw [UInt8.lt_iff_toNat_lt] at h1
        omega
      simp [h1,h2,h3]
    · by_cases h2:b < a
      · have h3:(a == b) = false:=by
          rw [beq_eq_false_iff_ne]
          rintro rfl
          rw [UInt8.lt_iff_toNat_lt] at h2
          omega
        simp [h1,h2,h3]
      · have e:a = b:=by
          apply UInt8.toNat_inj.1
          rw [UInt8.lt_iff_toNat_lt] at h1 h2
          omega
        subst e
        simp [h1,← ih]
theorem gtr_string (t:TypeId) (a b:ByteArray):binOp .gtr t (.string a) (.string b) = pure (.bool (Op.bytesLess b.toList a.toList)):=by
  have:binOp .gtr t (.string a) (.string b) = pure (.bool !(Op.bytesLess a.toList b.toList || a.toList == b.toList)):=by simp [binOp,Op.stringOp]
  rw [this,bytesLess_swap]
theorem leq_string (t:TypeId) (a b:ByteArray):binOp .leq t (.string a) (.string b) = pure (.bool (!Op.bytesLess b.toList a.toList)):=by
  have:binOp .leq t (.string a) (.string b) = pure (.bool (Op.bytesLess a.toList b.toList || a.toList == b.toList)):=by simp [binOp,Op.stringOp]
  rw [this,← bytesLess_swap a.toList b.toList,Bool.not_not]
theorem geq_string (t:TypeId) (a b:ByteArray):binOp .geq t (.string a) (.string b) = pure (.bool (!Op.bytesLess a.toList b.toList)):=by simp [binOp,Op.stringOp]
end Go.Proofs.YtcbbcnmifohibaaDoorW.Mine
end
section
namespace Go.Proofs.YtcbbcnmifohibaaDoorW.MapOwn
set_option linter.unusedVariables false
set_option linter.unusedSimpArgs false
open Go Go.RowKit Go.Maps Go.Proofs.YtcbbcnmifohibaaDoorW.PrintWords
def asIs (v:Value):Option (DataW Value × List MemPlace):=some (.held v,[])
section
variable {α κ:Type} [DecidableEq κ] {lit:κ→Lit} {P:Program} {k:TypeId} {w w':World} {b n:Nat} {Rep:α→Value→Prop} {m:List (κ × α)} {kl:κ}
def get (m:List (κ × α)) (kl:κ):Option α:=(m.find? fun p=>decide (p.1 = kl)).map (·.2)
theorem get_same (m:List (κ × α)) (kl:κ) (x:α):get ((kl,x) :: m) kl = some x:=by simp [get]
theorem get_other (m:List (κ × α)) {kl kl':κ} (x:α) (h:kl' ≠ kl):get ((kl',x) :: m) kl = get m kl:=by
  simp [get,List.find?_cons,h]
def MapAt (lit:κ→Lit) (P:Program) (k:TypeId) (Rep:α→Value→Prop) (w:World) (b n:Nat) (m:List (κ × α)):Prop :=
  ∃ D:DataW Value,w.ownsMap P k asIs b n D∧∀ kl,match get m kl with
    | some y=>Maps.has D (lit kl) = true∧∃ v,Rep y v∧∀ z,D.atKey (lit kl) z = .held v
    | none=>Maps.has D (lit kl) = false∧∀ z,D.atKey (lit kl) z = z
theorem MapAt.hit (h:MapAt lit P k Rep w b n m) {y:α} (hg:get m kl = some y):∃ D:DataW Value,w.ownsMap P k asIs b n D∧Maps.has D (lit kl) = true∧∃ v,Rep y v∧∀ z,D.atKey (lit kl) z = .held v:=by
  obtain ⟨D,h1,h2⟩:=h
  have:=h2 kl
  rw [hg] at this
  exact ⟨D,h1,this⟩
theorem MapAt.miss (h:MapAt lit P k Rep w b n m) (hg:get m kl = none):∃ D:DataW Value,w.ownsMap P k asIs b n D∧Maps.has D (lit kl) = false∧∀ z,D.atKey (lit kl) z = z:=by
  obtain ⟨D,h1,h2⟩:=h
  have:=h2 kl
  rw [hg] at this
  exact ⟨D,h1,this⟩
theorem MapAt.made (lit:κ→Lit) (w:World) (P:Program) (k:TypeId) (Rep:α→Value→Prop):MapAt lit P k Rep (w.alloc (.map #[] 0)) w.heap.size 0 [] :=
  ⟨.map [],World.ownsMap_made w P k asIs,fun kl=>⟨rfl,fun z=>rfl⟩⟩
theorem MapAt.mono (h:MapAt lit P k Rep w b n m) {n':Nat} (hn:n ≤ n'):MapAt lit P k Rep w b n' m:=by
  obtain ⟨D,h1,h2⟩:=h
  exact ⟨D,h1.mono hn,h2⟩
theorem MapAt.lt (h:MapAt lit P k Rep w b n m):b < w.heap.size:=by
  obtain ⟨D,h1,h2⟩:=h
  exact h1.lt
theorem MapAt.kept {row:Option Nat} (h:MapAt lit P k Rep w b n m) (hg:w.grownBy w' row) (hne:some b ≠ row):MapAt lit P k Rep w' b n m:=by
  obtain ⟨D,h1,h2⟩:=h
  exact ⟨D,h1.kept hg hne,h2⟩
theorem MapAt.same (h:MapAt lit P k Rep w b n m) (hb:w'.heap[b]? = w.heap[b]?):MapAt lit P k Rep w' b n m:=by
  obtain ⟨D,⟨es,clock,hes,r⟩,h2⟩:=h
  exact ⟨D,⟨es,clock,hb.trans hes,r⟩,h2⟩
theorem MapAt.below (h:MapAt lit P k Rep w b n m) (hb:Below w.heap.size w w'):MapAt lit P k Rep w' b n m:=h.same (hb.block b h.lt)
theorem MapAt.put (h:MapAt lit P k Rep w b n m) (inj:∀ a b:κ,lit a = lit b→a = b) (K:Keyed P k) {t e:TypeId} (ht:P.underlying t = some (.map k e)) (hn:n < maxLen) {key val:Value} (hkey:keyOf P k key = some (lit kl)) {x:α} (hx:Rep x val) :
    ∃ w',(Instr.mapUpdate t (.map (some b)) key val).run P w = .ok () w'∧MapAt lit P k Rep w' b (n + 1) ((kl,x) :: m)∧w.mapTurned w' b:=by
  obtain ⟨D,h1,h2⟩:=h
  obtain ⟨w1,hrun,hown,hgr⟩:=h1.store K ht hn hkey (show asIs val = some (.held val,[]) from rfl)
  refine ⟨w1,hrun,⟨_,hown,fun kl'=>?_⟩,hgr⟩
  by_cases e:kl = kl'
  · subst e
    rw [get_same]
    exact ⟨Maps.has_put_same h1.isMap (K.key hkey) _,val,hx,fun z=>Maps.atKey_put_same h1.isMap (K.key hkey) _ z⟩
  · rw [get_other _ _ e]
    have:=h2 kl'
    rw [Maps.has_put_other (fun e1=>e (inj _ _ e1).symm)]
    cases hg:get m kl' with
    | none=>rw [hg] at this;exact ⟨this.1,fun z=>(Maps.atKey_put_other (fun e1=>e (inj _ _ e1).symm) _ z).trans (this.2 z)⟩
    | some y =>
      rw [hg] at this
      obtain ⟨a1,v,a2,a3⟩:=this
      exact ⟨a1,v,a2,fun z=>(Maps.atKey_put_other (fun e1=>e (inj _ _ e1).symm) _ z).trans (a3 z)⟩
end
section
variable {α κ:Type} [DecidableEq κ] {lit:κ→Lit} {P:Program} {k:TypeId} {Rep:α→Value→Prop} {m:List (κ × α)} {kl:κ} (w:World) {ops:Array Oper} {rest:List Oper} {o:Oper} {a:Act} {Q:Exit→Act→World→Prop}
theorem wpList_want (hw:Region.wanted o (yielded ops a.tmps) = true) (h:∀ K:Act→World→Prop,(∀ a w,wpList P ops Q rest a w→K a w)→o.wp P a w K Q):wpList P ops Q (o :: rest) a w :=
  wpList_step fun K hK=>by rw [if_pos hw];exact h K hK
theorem MapAt.run_ok_hit {b n:Nat} (h:MapAt lit P k Rep w b n m) (K:Keyed P k) {t e:TypeId} (ht:P.underlying t = some (.map k e)) {z:Value} (hz:(zeroValue e).run P w = .ok z w) {key:Value} (hkey:keyOf P k key = some (lit kl)) {y:α} (hget:get m kl = some y) :
    ∃ v,Rep y v∧(Instr.lookup t (.map (some b)) key true).run P w = .ok (.tuple #[v,.bool true]) w:=by
  obtain ⟨D,h1,h2,v,h3,h4⟩:=h.hit hget
  obtain ⟨v',ps,hrun,hv⟩:=h1.look_ok K ht hz (show asIs z = some (.held z,[]) from rfl) hkey
  rw [h4] at hv
  simp only [asIs,Option.some.injEq,Prod.mk.injEq,DataW.held.injEq] at hv
  exact ⟨v,h3,by rw [hrun,hv.1,h2]⟩
theorem MapAt.run_ok_miss {b n:Nat} (h:MapAt lit P k Rep w b n m) (K:Keyed P k) {t e:TypeId} (ht:P.underlying t = some (.map k e)) {z:Value} (hz:(zeroValue e).run P w = .ok z w) {key:Value} (hkey:keyOf P k key = some (lit kl)) (hget:get m kl = none) :
    (Instr.lookup t (.map (some b)) key true).run P w = .ok (.tuple #[z,.bool false]) w:=by
  obtain ⟨D,h1,h2,h4⟩:=h.miss hget
  obtain ⟨v',ps,hrun,hv⟩:=h1.look_ok K ht hz (show asIs z = some (.held z,[]) from rfl) hkey
  rw [h4] at hv
  simp only [asIs,Option.some.injEq,Prod.mk.injEq,DataW.held.injEq] at hv
  rw [hrun,hv.1,h2]
theorem wp_look_ok_hit (hg:Region.wanted o (yielded ops a.tmps) = true) (mo x:Operand) (t:TypeId) (hop:o.op = Op.lookup t mo x true) (e:TypeId) (K:Keyed P k) (ht:P.underlying t = some (.map k e)) {z:Value} (hz:(zeroValue e).run P w = .ok z w)
    (b n:Nat) (hm:a.eval mo = .map (some b)) (h:MapAt lit P k Rep w b n m) (key:Value) (hx:a.eval x = key) (hkey:keyOf P k key = some (lit kl)) {y:α} (hget:get m kl = some y)
    (hK:∀ v,Rep y v→wpList P ops Q rest (a.put o.dst (.tuple #[v,.bool true])) w):wpList P ops Q (o :: rest) a w:=by
  refine wpList_want w hg fun K' hK'=>?_
  obtain ⟨v,h3,hrun⟩:=h.run_ok_hit w K ht hz hkey hget
  unfold Oper.wp
  simp [execOp,hop,hm,hx,hrun,Result.andThen]
  exact hK' _ _ (hK v h3)
theorem wp_look_ok_miss (hg:Region.wanted o (yielded ops a.tmps) = true) (mo x:Operand) (t:TypeId) (hop:o.op = Op.lookup t mo x true) (e:TypeId) (K:Keyed P k) (ht:P.underlying t = some (.map k e)) {z:Value} (hz:(zeroValue e).run P w = .ok z w)
    (b n:Nat) (hm:a.eval mo = .map (some b)) (h:MapAt lit P k Rep w b n m) (key:Value) (hx:a.eval x = key) (hkey:keyOf P k key = some (lit kl)) (hget:get m kl = none)
    (hK:wpList P ops Q rest (a.put o.dst (.tuple #[z,.bool false])) w):wpList P ops Q (o :: rest) a w:=by
  refine wpList_want w hg fun K' hK'=>?_
  have hrun:=h.run_ok_miss w K ht hz hkey hget
  unfold Oper.wp
  simp [execOp,hop,hm,hx,hrun,Result.andThen]
  exact hK' _ _ hK
theorem wp_put (inj:∀ a b:κ,lit a = lit b→a = b) (hg:Region.wanted o (yielded ops a.tmps) = true) (mo x v:Operand) (t:TypeId) (hop:o.op = Op.mapUpdate t mo x v) (e:TypeId) (K:Keyed P k) (ht:P.underlying t = some (.map k e))
    (b n:Nat) (hm:a.eval mo = .map (some b)) (h:MapAt lit P k Rep w b n m) (hn:n < maxLen) (key val:Value) (hx:a.eval x = key) (hv:a.eval v = val) (hkey:keyOf P k key = some (lit kl)) {y:α} (hy:Rep y val)
    (hK:∀ w',MapAt lit P k Rep w' b (n + 1) ((kl,y) :: m)→w.grownBy w' (some b)→wpList P ops Q rest (a.put o.dst undef) w'):wpList P ops Q (o :: rest) a w:=by
  refine wpList_want w hg fun K' hK'=>?_
  obtain ⟨w',hrun,r1,r2⟩:=h.put inj K ht hn hkey hy
  unfold Oper.wp
  simp [execOp,hop,hm,hx,hv,hrun,Result.andThen]
  exact hK' _ _ (hK w' r1 r2.grown)
end
theorem add_add (ad:Addr) (a b:Nat):(ad.add a).add b = ad.add (a + b):=by
  unfold Addr.add
  by_cases h1:b = 0
  · subst h1;simp
  · by_cases h2:a = 0
    · simp [h1,h2]
    · rw [if_neg h1,if_neg h2,if_neg (by omega)];simp [Nat.add_assoc]
structure Held (w W:World) (g:Nat) (t:TypeId) (cs:Array Value):Prop where
  below:Below w.heap.size w W
  le:w.heap.size ≤ g
  blk:W.heap[g]? = some (.cells cs t (0,0))
section
variable {w W W':World} {g g2:Nat} {t:TypeId} {cs cs':Array Value}
theorem Held.step (h:Held w W g t cs) (hb:Below W.heap.size W W'):Held w W' g t cs:=⟨below_step h.below hb,h.le,blk_below h.blk hb⟩
theorem Held.drewN (h:Held w W g t cs) (q:Nat):Held w (W.drewN q) g t cs:=h.step (pwbN (Below.refl _ _) q)
theorem Held.put (h:Held w W g t cs) (hk:W'.heap[g]? = some (.cells cs' t (0,0))) (hg:W.grownBy W' (some g)):Held w W' g t cs' :=
  ⟨h.below.grown hg h.below.size (fun k hk=>by cases hk;exact h.le),h.le,hk⟩
theorem Held.box (h:Below w.heap.size w W) (hg:g = W.heap.size) (hk:W'.heap[g]? = some (.cells cs t (0,0))) (hb:Below W.heap.size W W'):Held w W' g t cs:=⟨below_step h hb,by rw [hg];exact h.size,hk⟩
end
section
variable {P:Program} {ops:Array Oper} {rest:List Oper} {o:Oper} {a:Act} {Q:Exit→Act→World→Prop} {W:World}
theorem run_loadAt_cells {t:TypeId} {s:TypeDesc} (hu:P.underlying t = some s) (hs:(match s with|.struct _=>true|.array _ _=>true|_=>false) = true) {cs:List Value} (hsz:(P.info? t).map (·.size) = some cs.length) {ad:Addr}
    (hc:∀ j v,cs[j]? = some v→W.cell? (ad.add j) = some v):(Instr.loadAt t (.pointer (some ad))).run P W = .ok (.agg cs.toArray) W:=by
  have hl:=run_loadCells_list (P:=P) W ad cs hc
  cases hq:P.info? t with
  | none=>simp [hq] at hsz
  | some i =>
    have h1:i.size = cs.length:=by simpa [hq] using hsz
    cases s <;> simp at hs <;> simp [Instr.loadAt,Instr.sureAddr,loadVar,isAgg,run_underlying hu,sizeOf,typeInfo,hq,h1,hl,Result.andThen]
theorem load_event (hgd:Region.wanted o (yielded ops a.tmps) = true) {t:TypeId} {p:Operand} (ho:o.op = .load t p) {s:TypeDesc} (hu:P.underlying t = some s) (hs:(match s with|.struct _=>true|.array _ _=>true|_=>false) = true) {ad:Addr} (hp:a.eval p = .pointer (some ad))
    {cs:List Value} (hsz:(P.info? t).map (·.size) = some cs.length) (hc:∀ j v,cs[j]? = some v→W.cell? (ad.add j) = some v) (h:wpList P ops Q rest (a.put o.dst (.agg cs.toArray)) W):wpList P ops Q (o :: rest) a W:=by
  refine wpList_want _ hgd fun K hK=>?_
  unfold Oper.wp execOp
  simp only [ho,hp,Sem.run_bind,run_loadAt_cells hu hs hsz hc,Result.andThen_ok,Sem.run_pure,Oper.upon_value]
  exact hK _ _ h
theorem cells_of_blk {g:Nat} {cs:List Value} {t:TypeId} (h:W.heap[g]? = some (.cells cs.toArray t (0,0))):∀ j v,cs[j]? = some v→W.cell? ((⟨g,0,none⟩:Addr).add j) = some v:=by
  intro j v hv
  have hadd:(⟨g,0,none⟩:Addr).add j = ⟨g,j,none⟩:=by unfold Addr.add;split <;> simp_all
  rw [hadd]
  simp [World.cell?,h,hv]
theorem put_event (hgd:Region.wanted o (yielded ops a.tmps) = true) (hd:o.dst = none) {ty:TypeId} {x y:Operand} (ho:o.op = .store ty x y) {g:Nat} {cells old:Array Value} {t:TypeId} (hx:a.eval x = .pointer (some ⟨g,0,none⟩)) (hy:a.eval y = .agg cells)
    (hg:W.heap[g]? = some (.cells old t (0,0))) (hi:(P.info? ty).map (·.size) = some cells.size) (hold:old.size = cells.size) (h1:cells.toList.all (·.oneCell') = true)
    (h:∀ W',W'.heap[g]? = some (.cells cells t (0,0))→W.grownBy W' (some g)→wpList P ops Q rest a W'):wpList P ops Q (o :: rest) a W:=by
  refine wpList_want _ hgd fun K hK=>?_
  refine wp_store_row ty x y ho g cells hx hy t old hg hi hold (by rw [← h1,Array.all_toList]) ?_
  rw [hd]
  refine hK _ _ (h _ (setRow_heap W g old cells t (0,0) hg) ⟨rfl,rfl,rfl,by simp [World.setRow],fun k hk hne=>?_⟩)
  simp only [World.setRow,Array.getElem?_modify]
  rw [if_neg (fun e=>hne (by rw [e]))]
end
theorem below_grown {B b:Nat} {w w1 w2:World} (h:Below B w w1) (hg:w1.grownBy w2 (some b)) (hB:B ≤ b) (hb:b < w1.heap.size):Below B w w2:=h.grown hg (Nat.le_trans hB (Nat.le_of_lt hb)) (fun k hk=>by cases hk;exact hB)
end Go.Proofs.YtcbbcnmifohibaaDoorW.MapOwn
end
section
namespace Go.Proofs
open Go.Shelf
def Tryd.lays137_ren:Go.Shelf.Ren:=⟨fun|137=>59|217=>83|266=>96|n=>n,fun|9=>9|5=>5|3=>3|n=>n,fun|n=>n⟩
theorem Tryd.lays137:Go.Proofs.Lays.n137 Tryd.prog Tryd.lays137_ren:={
  mixed:=by kernel_rfl
  f137:=Tryd.func59.trans (congrArg some (by kernel_rfl))
  f217:=Tryd.func83.trans (congrArg some (by kernel_rfl))
  f266:=Tryd.func96.trans (congrArg some (by kernel_rfl))
  t3:=Tryd.underlying3
  a3:=Tryd.isAgg3
  z3:=Tryd.sizeOf3
  v3:=Tryd.zeroValue3
  t5:=Tryd.underlying5
  a5:=Tryd.isAgg5
  z5:=Tryd.sizeOf5
  v5:=Tryd.zeroValue5
  t9:=Tryd.underlying9
  a9:=Tryd.isAgg9
  z9:=Tryd.sizeOf9
  v9:=Tryd.zeroValue9 }
open Go.RowKit in
theorem Tryd.strings_IndexByte (s:ByteArray) (c:Int) (w:World) :
    Calls Tryd.prog 59 #[.string s,.int .u8 c] w fun e w'=>e = .returned (.int .i64 (Lib.indexByte s.data.toList c.toNat.toUInt8))∧w' = w:=Any.strings_IndexByte Tryd.lays137 s c w
def Tryd.lays219_ren:Go.Shelf.Ren:=⟨fun|219=>104|217=>83|225=>106|224=>107|267=>108|266=>96|314=>109|n=>n,fun|9=>9|3=>3|4=>4|5=>5|46=>106|146=>123|51=>122|n=>n,fun|1=>0|n=>n⟩
open Go.RowKit Go.Lib in
def Tryd.lays143_ren:Go.Shelf.Ren:=⟨fun|143=>94|219=>104|217=>83|225=>106|224=>107|267=>108|266=>96|314=>109|n=>n,fun|9=>9|3=>3|4=>4|5=>5|46=>106|146=>123|51=>122|n=>n,fun|1=>0|n=>n⟩
theorem Tryd.lays143:Go.Proofs.Lays.n143 Tryd.prog Tryd.lays143_ren:={
  mixed:=by kernel_rfl
  f143:=Tryd.func94.trans (congrArg some (by kernel_rfl))
  f217:=Tryd.func83.trans (congrArg some (by kernel_rfl))
  f219:=Tryd.func104.trans (congrArg some (by kernel_rfl))
  f224:=Tryd.func107.trans (congrArg some (by kernel_rfl))
  f225:=Tryd.func106.trans (congrArg some (by kernel_rfl))
  f266:=Tryd.func96.trans (congrArg some (by kernel_rfl))
  f267:=Tryd.func108.trans (congrArg some (by kernel_rfl))
  f314:=Tryd.func109.trans (congrArg some (by kernel_rfl))
  t3:=Tryd.underlying3
  a3:=Tryd.isAgg3
  z3:=Tryd.sizeOf3
  v3:=Tryd.zeroValue3
  t4:=Tryd.underlying4
  a4:=Tryd.isAgg4
  z4:=Tryd.sizeOf4
  v4:=Tryd.zeroValue4
  t5:=Tryd.underlying5
  a5:=Tryd.isAgg5
  z5:=Tryd.sizeOf5
  v5:=Tryd.zeroValue5
  t9:=Tryd.underlying9
  a9:=Tryd.isAgg9
  z9:=Tryd.sizeOf9
  v9:=Tryd.zeroValue9
  t46:=Tryd.underlying106
  a46:=Tryd.isAgg106
  z46:=Tryd.sizeOf106
  v46:=Tryd.zeroValue106
  t51:=Tryd.underlying122
  a51:=Tryd.isAgg122
  z51:=Tryd.sizeOf122
  v51:=Tryd.zeroValue122
  t146:=Tryd.underlying123
  a146:=Tryd.isAgg123
  z146:=Tryd.sizeOf123
  v146:=Tryd.zeroValue123
  g1:=by kernel_rfl }
open Go.RowKit Go.Lib in
theorem Tryd.strings_Index_one (s:ByteArray) (c:UInt8) (w:World) :
    Calls Tryd.prog 94 #[.string s,.string ⟨#[c]⟩] w fun e w'=>e = .returned (.int .i64 (Lib.indexByte s.data.toList c))∧w' = w:=Any.strings_Index_one Tryd.lays143 s c w
def Tryd.lays138_ren:Go.Shelf.Ren:=⟨fun|138=>93|195=>101|218=>103|143=>94|219=>104|217=>83|225=>106|224=>107|267=>108|266=>96|314=>109|n=>n,fun|9=>9|3=>3|4=>4|5=>5|0=>0|46=>106|146=>123|51=>122|n=>n,fun|1=>0|n=>n⟩
theorem Tryd.lays138:Go.Proofs.Lays.n138 Tryd.prog Tryd.lays138_ren:={
  mixed:=by kernel_rfl
  f138:=Tryd.func93.trans (congrArg some (by kernel_rfl))
  f143:=Tryd.func94.trans (congrArg some (by kernel_rfl))
  f195:=Tryd.func101.trans (congrArg some (by kernel_rfl))
  f217:=Tryd.func83.trans (congrArg some (by kernel_rfl))
  f218:=Tryd.func103.trans (congrArg some (by kernel_rfl))
  f219:=Tryd.func104.trans (congrArg some (by kernel_rfl))
  f224:=Tryd.func107.trans (congrArg some (by kernel_rfl))
  f225:=Tryd.func106.trans (congrArg some (by kernel_rfl))
  f266:=Tryd.func96.trans (congrArg some (by kernel_rfl))
  f267:=Tryd.func108.trans (congrArg some (by kernel_rfl))
  f314:=Tryd.func109.trans (congrArg some (by kernel_rfl))
  t0:=Tryd.underlying0
  a0:=Tryd.isAgg0
  z0:=Tryd.sizeOf0
  v0:=Tryd.zeroValue0
  t3:=Tryd.underlying3
  a3:=Tryd.isAgg3
  z3:=Tryd.sizeOf3
  v3:=Tryd.zeroValue3
  t4:=Tryd.underlying4
  a4:=Tryd.isAgg4
  z4:=Tryd.sizeOf4
  v4:=Tryd.zeroValue4
  t5:=Tryd.underlying5
  a5:=Tryd.isAgg5
  z5:=Tryd.sizeOf5
  v5:=Tryd.zeroValue5
  t9:=Tryd.underlying9
  a9:=Tryd.isAgg9
  z9:=Tryd.sizeOf9
  v9:=Tryd.zeroValue9
  t46:=Tryd.underlying106
  a46:=Tryd.isAgg106
  z46:=Tryd.sizeOf106
  v46:=Tryd.zeroValue106
  t51:=Tryd.underlying122
  a51:=Tryd.isAgg122
  z51:=Tryd.sizeOf122
  v51:=Tryd.zeroValue122
  t146:=Tryd.underlying123
  a146:=Tryd.isAgg123
  z146:=Tryd.sizeOf123
  v146:=Tryd.zeroValue123
  g1:=by kernel_rfl }
open Go.RowKit Go.Lib in
theorem Tryd.strings_Count_one (s:ByteArray) (c:UInt8) (w:World) :
    Calls Tryd.prog 93 #[.string s,.string ⟨#[c]⟩] w fun e w'=>e = .returned (.int .i64 (Lib.countByte s.data.toList c))∧w' = w:=Any.strings_Count_one Tryd.lays138 s c w
def Tryd.lays149_ren:Go.Shelf.Ren:=⟨fun|149=>72|222=>89|n=>n,fun|9=>9|5=>5|3=>3|4=>4|n=>n,fun|n=>n⟩
theorem Tryd.lays149:Go.Proofs.Lays.n149 Tryd.prog Tryd.lays149_ren:={
  mixed:=by kernel_rfl
  f149:=Tryd.func72.trans (congrArg some (by kernel_rfl))
  f222:=Tryd.func89.trans (congrArg some (by kernel_rfl))
  t3:=Tryd.underlying3
  a3:=Tryd.isAgg3
  z3:=Tryd.sizeOf3
  v3:=Tryd.zeroValue3
  t4:=Tryd.underlying4
  a4:=Tryd.isAgg4
  z4:=Tryd.sizeOf4
  v4:=Tryd.zeroValue4
  t5:=Tryd.underlying5
  a5:=Tryd.isAgg5
  z5:=Tryd.sizeOf5
  v5:=Tryd.zeroValue5
  t9:=Tryd.underlying9
  a9:=Tryd.isAgg9
  z9:=Tryd.sizeOf9
  v9:=Tryd.zeroValue9 }
open Go.RowKit Go.Lib in
theorem Tryd.strings_LastIndexByte (s:ByteArray) (c:Int) (hs:s.size < 4611686018427387904) (w:World) :
    Calls Tryd.prog 72 #[.string s,.int .u8 c] w fun e w'=>e = .returned (.int .i64 (Lib.lastIndexByte s c))∧w' = w:=Any.strings_LastIndexByte Tryd.lays149 s c hs w
def Tryd.lays99_ren:Go.Shelf.Ren:=⟨fun|99=>82|206=>95|n=>n,fun|9=>9|4=>4|3=>3|n=>n,fun|n=>n⟩
open Go.RowKit Go.Lib in
def Tryd.lays221_ren:Go.Shelf.Ren:=⟨fun|221=>81|268=>92|138=>93|143=>94|195=>101|197=>102|218=>103|219=>104|260=>105|217=>83|225=>106|224=>107|267=>108|266=>96|314=>109|n=>n,fun|9=>9|3=>3|31=>51|4=>4|0=>0|105=>115|21=>21|5=>5|46=>106|119=>118|139=>121|138=>120|146=>123|51=>122|n=>n,fun|1=>0|3=>1|4=>2|n=>n⟩
theorem Tryd.lays221:Go.Proofs.Lays.n221 Tryd.prog Tryd.lays221_ren:={
  mixed:=by kernel_rfl
  f138:=Tryd.func93.trans (congrArg some (by kernel_rfl))
  f143:=Tryd.func94.trans (congrArg some (by kernel_rfl))
  f195:=Tryd.func101.trans (congrArg some (by kernel_rfl))
  f197:=Tryd.func102.trans (congrArg some (by kernel_rfl))
  f217:=Tryd.func83.trans (congrArg some (by kernel_rfl))
  f218:=Tryd.func103.trans (congrArg some (by kernel_rfl))
  f219:=Tryd.func104.trans (congrArg some (by kernel_rfl))
  f221:=Tryd.func81.trans (congrArg some (by kernel_rfl))
  f224:=Tryd.func107.trans (congrArg some (by kernel_rfl))
  f225:=Tryd.func106.trans (congrArg some (by kernel_rfl))
  f260:=Tryd.func105.trans (congrArg some (by kernel_rfl))
  f266:=Tryd.func96.trans (congrArg some (by kernel_rfl))
  f267:=Tryd.func108.trans (congrArg some (by kernel_rfl))
  f268:=Tryd.func92.trans (congrArg some (by kernel_rfl))
  f314:=Tryd.func109.trans (congrArg some (by kernel_rfl))
  t0:=Tryd.underlying0
  a0:=Tryd.isAgg0
  z0:=Tryd.sizeOf0
  v0:=Tryd.zeroValue0
  t3:=Tryd.underlying3
  a3:=Tryd.isAgg3
  z3:=Tryd.sizeOf3
  v3:=Tryd.zeroValue3
  t4:=Tryd.underlying4
  a4:=Tryd.isAgg4
  z4:=Tryd.sizeOf4
  v4:=Tryd.zeroValue4
  t5:=Tryd.underlying5
  a5:=Tryd.isAgg5
  z5:=Tryd.sizeOf5
  v5:=Tryd.zeroValue5
  t9:=Tryd.underlying9
  a9:=Tryd.isAgg9
  z9:=Tryd.sizeOf9
  v9:=Tryd.zeroValue9
  t21:=Tryd.underlying21
  a21:=Tryd.isAgg21
  z21:=Tryd.sizeOf21
  v21:=Tryd.zeroValue21
  t31:=Tryd.underlying51
  a31:=Tryd.isAgg51
  z31:=Tryd.sizeOf51
  v31:=Tryd.zeroValue51
  t46:=Tryd.underlying106
  a46:=Tryd.isAgg106
  z46:=Tryd.sizeOf106
  v46:=Tryd.zeroValue106
  t51:=Tryd.underlying122
  a51:=Tryd.isAgg122
  z51:=Tryd.sizeOf122
  v51:=Tryd.zeroValue122
  t105:=Tryd.underlying115
  a105:=Tryd.isAgg115
  z105:=Tryd.sizeOf115
  v105:=Tryd.zeroValue115
  t119:=Tryd.underlying118
  a119:=Tryd.isAgg118
  z119:=Tryd.sizeOf118
  t138:=Tryd.underlying120
  a138:=Tryd.isAgg120
  z138:=Tryd.sizeOf120
  v138:=Tryd.zeroValue120
  t139:=Tryd.underlying121
  a139:=Tryd.isAgg121
  z139:=Tryd.sizeOf121
  v139:=Tryd.zeroValue121
  t146:=Tryd.underlying123
  a146:=Tryd.isAgg123
  z146:=Tryd.sizeOf123
  v146:=Tryd.zeroValue123
  g1:=by kernel_rfl
  g3:=by kernel_rfl
  g4:=by kernel_rfl }
end Go.Proofs
end
section
namespace Go.Proofs.YtcbbcnmifohibaaDoor.All
open Go.RowKit Go.Proofs.YtcbbcnmifohibaaDoorW.PrintWords Go.Proofs.YtcbbcnmifohibaaDoorW.PrintLast Go.Proofs.YtcbbcnmifohibaaDoorW.PrintMore
open Go.Proofs.YtcbbcnmifohibaaDoorW.Mine
attribute [local go_sem] gtr_string leq_string geq_string
attribute [local go_sem] max2_int min2_int max_two min_two max_three min_three max_four min_four
set_option linter.unusedVariables false
set_option linter.unusedSimpArgs false
def errW:Option Int→Value
 | none => .nilIface
 | some c => .iface 0 (.int .i64 c)
theorem errW_none:errW none = .nilIface:=rfl
theorem errW_some (c:Int):errW (some c) = .iface 0 (.int .i64 c):=rfl
theorem info5:(Tryd.prog.info? 5).map (fun i=>(i.zero,i.size,i.bytes)) = some (some (.int .u8 0),1,1):=by kernel_rfl
theorem info9:(Tryd.prog.info? 9).map (fun i=>(i.zero,i.size,i.bytes)) = some (some (.string ⟨#[]⟩),1,16):=by kernel_rfl
theorem info45:(Tryd.prog.info? 45).map (fun i=>(i.zero,i.size,i.bytes)) = some (some (.agg #[(.string ⟨#[]⟩),(.int .i64 0),(.int .i64 0),(.string ⟨#[]⟩),(.int .i64 0),(.int .i64 0),(.int .i64 0),(.string ⟨#[]⟩),(.string ⟨#[]⟩),(.int .i64 0),(.int .i64 0),(.slice none 0 0)]),12,144):=by kernel_rfl
def rd_L1 (xs:List (List ByteArray)) (i:Int):(List ByteArray):=xs.getD i.toNat ([]:List ByteArray)
structure S58 where
 f0:Bool
 f1:ByteArray
def z58:S58:=⟨false,(⟨#[]⟩:ByteArray)⟩
def k58:Kd S58:=Kd.iso (Kd.pair Kd.bool Kd.string) (fun x:S58=>(x.f0,x.f1))
def rd_T58 (xs:List S58) (i:Int):S58:=xs.getD i.toNat z58
structure S42 where
 f0:Int
 f1:Int
 f2:Int
 f3:ByteArray
 f4:ByteArray
 f5:Int
 f6:Int
def z42:S42:=⟨(0:Int),(0:Int),(0:Int),(⟨#[]⟩:ByteArray),(⟨#[]⟩:ByteArray),(0:Int),(0:Int)⟩
def k42:Kd S42:=Kd.iso (Kd.pair (Kd.int .i64) (Kd.pair (Kd.int .i64) (Kd.pair (Kd.int .i64) (Kd.pair Kd.string (Kd.pair Kd.string (Kd.pair (Kd.int .i64) (Kd.int .i64))))))) (fun x:S42=>(x.f0,x.f1,x.f2,x.f3,x.f4,x.f5,x.f6))
theorem k42_heap:Kd.Heap k42:=Kd.heap_iso _ (Kd.heap_pair (Kd.heap_int .i64) (Kd.heap_pair (Kd.heap_int .i64) (Kd.heap_pair (Kd.heap_int .i64) (Kd.heap_pair Kd.heap_string (Kd.heap_pair Kd.heap_string (Kd.heap_pair (Kd.heap_int .i64) (Kd.heap_int .i64)))))))
theorem k42_open {w:World} {x:S42} {cs:List Value} (h:k42.K w x cs):cs = [.int .i64 x.f0,.int .i64 x.f1,.int .i64 x.f2,.string x.f3,.string x.f4,.int .i64 x.f5,.int .i64 x.f6]:=by
 obtain ⟨_,_,rfl,rfl,⟨_,_,rfl,rfl,⟨_,_,rfl,rfl,⟨_,_,rfl,rfl,⟨_,_,rfl,rfl,⟨_,_,rfl,rfl,rfl⟩⟩⟩⟩⟩⟩:=h
 exact rfl
theorem k42_mk (w:World) (x:S42)  : k42.K w x [.int .i64 x.f0,.int .i64 x.f1,.int .i64 x.f2,.string x.f3,.string x.f4,.int .i64 x.f5,.int .i64 x.f6]:=⟨[.int .i64 x.f0],[.int .i64 x.f1,.int .i64 x.f2,.string x.f3,.string x.f4,.int .i64 x.f5,.int .i64 x.f6],rfl,rfl,⟨[.int .i64 x.f1],[.int .i64 x.f2,.string x.f3,.string x.f4,.int .i64 x.f5,.int .i64 x.f6],rfl,rfl,⟨[.int .i64 x.f2],[.string x.f3,.string x.f4,.int .i64 x.f5,.int .i64 x.f6],rfl,rfl,⟨[.string x.f3],[.string x.f4,.int .i64 x.f5,.int .i64 x.f6],rfl,rfl,⟨[.string x.f4],[.int .i64 x.f5,.int .i64 x.f6],rfl,rfl,⟨[.int .i64 x.f5],[.int .i64 x.f6],rfl,rfl,rfl⟩⟩⟩⟩⟩⟩
theorem k42_mkM (w:World) (base:Nat) (ok:Nat→Prop) (x:S42)  : k42.M w base ok x [.int .i64 x.f0,.int .i64 x.f1,.int .i64 x.f2,.string x.f3,.string x.f4,.int .i64 x.f5,.int .i64 x.f6]:=⟨[.int .i64 x.f0],[.int .i64 x.f1,.int .i64 x.f2,.string x.f3,.string x.f4,.int .i64 x.f5,.int .i64 x.f6],rfl,rfl,⟨[.int .i64 x.f1],[.int .i64 x.f2,.string x.f3,.string x.f4,.int .i64 x.f5,.int .i64 x.f6],rfl,rfl,⟨[.int .i64 x.f2],[.string x.f3,.string x.f4,.int .i64 x.f5,.int .i64 x.f6],rfl,rfl,⟨[.string x.f3],[.string x.f4,.int .i64 x.f5,.int .i64 x.f6],rfl,rfl,⟨[.string x.f4],[.int .i64 x.f5,.int .i64 x.f6],rfl,rfl,⟨[.int .i64 x.f5],[.int .i64 x.f6],rfl,rfl,rfl⟩⟩⟩⟩⟩⟩
def rd_T42 (xs:List S42) (i:Int):S42:=xs.getD i.toNat z42
def rd_L7 (xs:List (List Int)) (i:Int):(List Int):=xs.getD i.toNat ([]:List Int)
structure S45 where
 f0:ByteArray
 f1:Int
 f2:Int
 f3:ByteArray
 f4:S42
 f5:(List Int)
def z45:S45:=⟨(⟨#[]⟩:ByteArray),(0:Int),(0:Int),(⟨#[]⟩:ByteArray),z42,([]:List Int)⟩
def k45:Kd S45:=Kd.iso (Kd.pair Kd.string (Kd.pair (Kd.int .i64) (Kd.pair (Kd.int .i64) (Kd.pair Kd.string (Kd.pair k42 (Kd.slice 5 (Kd.int .u8))))))) (fun x:S45=>(x.f0,x.f1,x.f2,x.f3,x.f4,x.f5))
theorem k45_heap:Kd.Heap k45:=Kd.heap_iso _ (Kd.heap_pair Kd.heap_string (Kd.heap_pair (Kd.heap_int .i64) (Kd.heap_pair (Kd.heap_int .i64) (Kd.heap_pair Kd.heap_string (Kd.heap_pair k42_heap (Kd.heap_slice 5 (Kd.heap_int .u8)))))))
theorem k45_open {w:World} {x:S45} {cs:List Value} (h:k45.K w x cs):∃ A11 c11,cs = [.string x.f0,.int .i64 x.f1,.int .i64 x.f2,.string x.f3,.int .i64 x.f4.f0,.int .i64 x.f4.f1,.int .i64 x.f4.f2,.string x.f4.f3,.string x.f4.f4,.int .i64 x.f4.f5,.int .i64 x.f4.f6,.slice A11 x.f5.length c11]∧x.f5.length ≤ c11∧(Kd.int .u8).C w A11 x.f5.length x.f5:=by
 obtain ⟨_,_,rfl,rfl,⟨_,_,rfl,rfl,⟨_,_,rfl,rfl,⟨_,_,rfl,rfl,⟨_,_,rfl,s4,⟨A11,c11,rfl,l11,g11⟩⟩⟩⟩⟩⟩:=h
 obtain rfl:=k42_open s4
 exact ⟨A11,c11,rfl,l11,g11⟩
theorem k45_mk (w:World) (x:S45) {A11:Option Addr} {c11:Nat} (l11:x.f5.length ≤ c11) (g11:(Kd.int .u8).C w A11 x.f5.length x.f5):k45.K w x [.string x.f0,.int .i64 x.f1,.int .i64 x.f2,.string x.f3,.int .i64 x.f4.f0,.int .i64 x.f4.f1,.int .i64 x.f4.f2,.string x.f4.f3,.string x.f4.f4,.int .i64 x.f4.f5,.int .i64 x.f4.f6,.slice A11 x.f5.length c11]:=⟨[.string x.f0],[.int .i64 x.f1,.int .i64 x.f2,.string x.f3,.int .i64 x.f4.f0,.int .i64 x.f4.f1,.int .i64 x.f4.f2,.string x.f4.f3,.string x.f4.f4,.int .i64 x.f4.f5,.int .i64 x.f4.f6,.slice A11 x.f5.length c11],rfl,rfl,⟨[.int .i64 x.f1],[.int .i64 x.f2,.string x.f3,.int .i64 x.f4.f0,.int .i64 x.f4.f1,.int .i64 x.f4.f2,.string x.f4.f3,.string x.f4.f4,.int .i64 x.f4.f5,.int .i64 x.f4.f6,.slice A11 x.f5.length c11],rfl,rfl,⟨[.int .i64 x.f2],[.string x.f3,.int .i64 x.f4.f0,.int .i64 x.f4.f1,.int .i64 x.f4.f2,.string x.f4.f3,.string x.f4.f4,.int .i64 x.f4.f5,.int .i64 x.f4.f6,.slice A11 x.f5.length c11],rfl,rfl,⟨[.string x.f3],[.int .i64 x.f4.f0,.int .i64 x.f4.f1,.int .i64 x.f4.f2,.string x.f4.f3,.string x.f4.f4,.int .i64 x.f4.f5,.int .i64 x.f4.f6,.slice A11 x.f5.length c11],rfl,rfl,⟨[.int .i64 x.f4.f0,.int .i64 x.f4.f1,.int .i64 x.f4.f2,.string x.f4.f3,.string x.f4.f4,.int .i64 x.f4.f5,.int .i64 x.f4.f6],[.slice A11 x.f5.length c11],rfl,(k42_mk w x.f4 ),⟨A11,c11,rfl,l11,g11⟩⟩⟩⟩⟩⟩
theorem k45_mkM (w:World) (base:Nat) (ok:Nat→Prop) (x:S45) {v11:Value} (g11:(Kd.int .u8).R 5 w base ok v11 x.f5):k45.M w base ok x [.string x.f0,.int .i64 x.f1,.int .i64 x.f2,.string x.f3,.int .i64 x.f4.f0,.int .i64 x.f4.f1,.int .i64 x.f4.f2,.string x.f4.f3,.string x.f4.f4,.int .i64 x.f4.f5,.int .i64 x.f4.f6,v11]:=⟨[.string x.f0],[.int .i64 x.f1,.int .i64 x.f2,.string x.f3,.int .i64 x.f4.f0,.int .i64 x.f4.f1,.int .i64 x.f4.f2,.string x.f4.f3,.string x.f4.f4,.int .i64 x.f4.f5,.int .i64 x.f4.f6,v11],rfl,rfl,⟨[.int .i64 x.f1],[.int .i64 x.f2,.string x.f3,.int .i64 x.f4.f0,.int .i64 x.f4.f1,.int .i64 x.f4.f2,.string x.f4.f3,.string x.f4.f4,.int .i64 x.f4.f5,.int .i64 x.f4.f6,v11],rfl,rfl,⟨[.int .i64 x.f2],[.string x.f3,.int .i64 x.f4.f0,.int .i64 x.f4.f1,.int .i64 x.f4.f2,.string x.f4.f3,.string x.f4.f4,.int .i64 x.f4.f5,.int .i64 x.f4.f6,v11],rfl,rfl,⟨[.string x.f3],[.int .i64 x.f4.f0,.int .i64 x.f4.f1,.int .i64 x.f4.f2,.string x.f4.f3,.string x.f4.f4,.int .i64 x.f4.f5,.int .i64 x.f4.f6,v11],rfl,rfl,⟨[.int .i64 x.f4.f0,.int .i64 x.f4.f1,.int .i64 x.f4.f2,.string x.f4.f3,.string x.f4.f4,.int .i64 x.f4.f5,.int .i64 x.f4.f6],[v11],rfl,(k42_mkM w base ok x.f4 ),⟨v11,rfl,g11⟩⟩⟩⟩⟩⟩
theorem k45_openF {W:World} {ok:Nat→Prop} {x:S45} {cs:List Value} (h:Kd.FK k45 W ok x cs):∃ A11 c11,cs = [.string x.f0,.int .i64 x.f1,.int .i64 x.f2,.string x.f3,.int .i64 x.f4.f0,.int .i64 x.f4.f1,.int .i64 x.f4.f2,.string x.f4.f3,.string x.f4.f4,.int .i64 x.f4.f5,.int .i64 x.f4.f6,.slice A11 x.f5.length c11]∧x.f5.length ≤ c11∧Kd.F (Kd.int .u8) W ok A11 x.f5.length x.f5:=by
 obtain ⟨A11,c11,rfl,l11,_⟩:=k45_open (Kd.FK_now h)
 exact ⟨A11,c11,rfl,l11,(fun W' hW=>by obtain ⟨A11_,c11_,he,l11_,g11_⟩:=k45_open (h W' hW);injection (Option.some.inj (show some (Value.slice A11 x.f5.length c11) = some (Value.slice A11_ x.f5.length c11_) from congrArg (fun l=>l[11]?) he)) with ha_ _ _;rw [ha_];exact g11_)⟩
theorem k45_mkF (W:World) (ok:Nat→Prop) (x:S45) {A11:Option Addr} {c11:Nat} (l11:x.f5.length ≤ c11) (g11:Kd.F (Kd.int .u8) W ok A11 x.f5.length x.f5):Kd.FK k45 W ok x [.string x.f0,.int .i64 x.f1,.int .i64 x.f2,.string x.f3,.int .i64 x.f4.f0,.int .i64 x.f4.f1,.int .i64 x.f4.f2,.string x.f4.f3,.string x.f4.f4,.int .i64 x.f4.f5,.int .i64 x.f4.f6,.slice A11 x.f5.length c11]:=fun W2 hW=>k45_mk W2 x l11 (g11 W2 hW)
def rd_T45 (xs:List S45) (i:Int):S45:=xs.getD i.toNat z45
theorem at_T45 {w:World} {A:Option Addr} {n:Nat} {xs:List S45} (h:Kd.C k45 w A n xs) (i:Int) (h0:0 ≤ i) (h1:i < n):∃ ad A11 c11,A = some ad∧w.cell? (ad.add (i.toNat * 12)) = some (.string (rd_T45 xs i).f0)∧w.cell? ⟨(ad.add (i.toNat * 12)).block,(ad.add (i.toNat * 12)).off + 1,none⟩ = some (.int .i64 (rd_T45 xs i).f1)∧w.cell? ⟨(ad.add (i.toNat * 12)).block,(ad.add (i.toNat * 12)).off + 2,none⟩ = some (.int .i64 (rd_T45 xs i).f2)∧w.cell? ⟨(ad.add (i.toNat * 12)).block,(ad.add (i.toNat * 12)).off + 3,none⟩ = some (.string (rd_T45 xs i).f3)∧w.cell? ⟨(ad.add (i.toNat * 12)).block,(ad.add (i.toNat * 12)).off + 4,none⟩ = some (.int .i64 (rd_T45 xs i).f4.f0)∧w.cell? ⟨(ad.add (i.toNat * 12)).block,(ad.add (i.toNat * 12)).off + 5,none⟩ = some (.int .i64 (rd_T45 xs i).f4.f1)∧w.cell? ⟨(ad.add (i.toNat * 12)).block,(ad.add (i.toNat * 12)).off + 6,none⟩ = some (.int .i64 (rd_T45 xs i).f4.f2)∧w.cell? ⟨(ad.add (i.toNat * 12)).block,(ad.add (i.toNat * 12)).off + 7,none⟩ = some (.string (rd_T45 xs i).f4.f3)∧w.cell? ⟨(ad.add (i.toNat * 12)).block,(ad.add (i.toNat * 12)).off + 8,none⟩ = some (.string (rd_T45 xs i).f4.f4)∧w.cell? ⟨(ad.add (i.toNat * 12)).block,(ad.add (i.toNat * 12)).off + 9,none⟩ = some (.int .i64 (rd_T45 xs i).f4.f5)∧w.cell? ⟨(ad.add (i.toNat * 12)).block,(ad.add (i.toNat * 12)).off + 10,none⟩ = some (.int .i64 (rd_T45 xs i).f4.f6)∧w.cell? ⟨(ad.add (i.toNat * 12)).block,(ad.add (i.toNat * 12)).off + 11,none⟩ = some (.slice A11 (rd_T45 xs i).f5.length c11)∧(rd_T45 xs i).f5.length ≤ c11∧(Kd.int .u8).C w A11 (rd_T45 xs i).f5.length (rd_T45 xs i).f5:=by
 obtain ⟨ad,c,e,_,hK,hc0⟩:=Kd.C_get h z45 i h0 h1
 have hc:∀ j u,c[j]? = some u→w.cell? (ad.add (i.toNat * 12 + j)) = some u:=hc0
 obtain ⟨A11,c11,rfl,l11,g11⟩:=k45_open hK
 exact ⟨ad,A11,c11,e,hc 0 _ rfl,by rw [← add_field _ _ 1 (by omega)];exact hc 1 _ rfl,by rw [← add_field _ _ 2 (by omega)];exact hc 2 _ rfl,by rw [← add_field _ _ 3 (by omega)];exact hc 3 _ rfl,by rw [← add_field _ _ 4 (by omega)];exact hc 4 _ rfl,by rw [← add_field _ _ 5 (by omega)];exact hc 5 _ rfl,by rw [← add_field _ _ 6 (by omega)];exact hc 6 _ rfl,by rw [← add_field _ _ 7 (by omega)];exact hc 7 _ rfl,by rw [← add_field _ _ 8 (by omega)];exact hc 8 _ rfl,by rw [← add_field _ _ 9 (by omega)];exact hc 9 _ rfl,by rw [← add_field _ _ 10 (by omega)];exact hc 10 _ rfl,by rw [← add_field _ _ 11 (by omega)];exact hc 11 _ rfl,l11,g11⟩
def rd_L9 (xs:List (List S45)) (i:Int):(List S45):=xs.getD i.toNat ([]:List S45)
def rd_L10 (xs:List (List S58)) (i:Int):(List S58):=xs.getD i.toNat ([]:List S58)
def rd_L11 (xs:List (List Int)) (i:Int):(List Int):=xs.getD i.toNat ([]:List Int)
structure S71 where
 f0:ByteArray
 f1:Int
 f2:ByteArray
 f3:S42
 f4:(List Int)
def z71:S71:=⟨(⟨#[]⟩:ByteArray),(0:Int),(⟨#[]⟩:ByteArray),z42,([]:List Int)⟩
def k71:Kd S71:=Kd.iso (Kd.pair Kd.string (Kd.pair (Kd.int .i64) (Kd.pair Kd.string (Kd.pair k42 (Kd.slice 5 (Kd.int .u8)))))) (fun x:S71=>(x.f0,x.f1,x.f2,x.f3,x.f4))
def rd_T71 (xs:List S71) (i:Int):S71:=xs.getD i.toNat z71
def rd_L13 (xs:List (List S71)) (i:Int):(List S71):=xs.getD i.toNat ([]:List S71)
end Go.Proofs.YtcbbcnmifohibaaDoor.All
end
section
namespace Go.Proofs.YtcbbcnmifohibaaDoorW.MakeCap
open Go Go.RowKit Go.Proofs.YtcbbcnmifohibaaDoorW.PrintWords
theorem R_makecap {α:Type} {P:Program} {ops:Array Oper} {rest:List Oper} {o:Oper} {a:Act} {Q:Exit→Act→World→Prop} (d:Kd α) {w0 W:World} (base e:Nat) (hgd:o.guard = none) {N:Tmp} (_hd:o.dst = some N) (t:TypeId) (x y:Operand) (ho:o.op = .makeSlice t x y) (n:Int) (hx:a.eval x = .int .i64 0) (hy:a.eval y = .int .i64 n)
    (ht:P.underlying t = some (.slice e)) (z:Value) (bytes:Nat) (hinfo:(P.info? e).map (fun i=>(i.zero,i.size,i.bytes)) = some (some z,d.sz,bytes)) (_hs0:0 < d.sz) (hb0:0 < bytes)
    {ok:Nat→Prop} (hfresh:ok W.heap.size) (h0:0 ≤ n) (hl:n.toNat * bytes ≤ 281474976710656) (HB:Below base w0 W) (hbase:base ≤ W.heap.size)
    (h:∀ v1 w1,d.R e w1 base ok v1 []→Below base w0 w1→W.grownBy w1 none→(∃ b,v1.ownBlock = some b∧W.heap.size ≤ b)→wpList P ops Q rest (a.put o.dst v1) w1):wpList P ops Q (o :: rest) a W:=by
  obtain ⟨m,rfl⟩:=Int.eq_ofNat_of_zero_le h0
  simp only [Int.toNat_natCast] at hl
  obtain ⟨i0,hi,hzz⟩:=Option.map_eq_some_iff.1 hinfo
  simp only [Prod.mk.injEq] at hzz
  obtain ⟨hz0,hz1,hz2⟩:=hzz
  have hm:m ≤ 281474976710656:=Nat.le_trans (Nat.le_mul_of_pos_right _ hb0) hl
  have hr:=run_make (P:=P) W t e i0 z ht hi hz0 .i64 .i64 0 (m:Int) (by omega) (by omega)
    (by
      have h3:((i0.bytes * m:Nat):Int) ≤ 281474976710656:=by rw [hz2,Nat.mul_comm];omega
      rwa [Int.natCast_mul] at h3) (by omega)
  simp only [Int.toNat_natCast] at hr
  rw [hz1] at hr
  have hrun:(execOp a.eval o).run P W = .ok (.value (.slice (some ⟨W.heap.size,0,none⟩) 0 m)) (W.alloc (.cells (madeCells z.cells (m * d.sz)) e)):=by simp [execOp,ho,hx,hy,hr]
  refine Kd.event_run hgd hrun (h _ _ ⟨fun k hk=>?_,[],⟨by simp,.inr ⟨W.heap.size,m,_,rfl,hbase,blk_new W _,Nat.zero_le _,by simp only [maxLen];omega,by simp [size_madeCells],by simp⟩⟩,Reps.none _ _⟩ (HB.alloc hbase _) (World.grownBy_alloc W _ none) ⟨W.heap.size,by simp [Value.ownBlock],Nat.le_refl _⟩)
  have:W.heap.size = k:=by simpa [Value.ownBlock] using hk
  subst this
  exact hfresh
end Go.Proofs.YtcbbcnmifohibaaDoorW.MakeCap
end
section
namespace Go.Proofs.YtcbbcnmifohibaaDoor.All
open Go.RowKit Go.Proofs.YtcbbcnmifohibaaDoorW.PrintWords Go.Proofs.YtcbbcnmifohibaaDoorW.PrintLast Go.Proofs.YtcbbcnmifohibaaDoorW.PrintMore
open Go.Proofs.YtcbbcnmifohibaaDoorW.Mine
attribute [local go_sem] gtr_string leq_string geq_string
attribute [local go_sem] max2_int min2_int max_two min_two max_three min_three max_four min_four
set_option linter.unusedVariables false
set_option linter.unusedSimpArgs false
theorem eqK42 (d:Nat) (w:World) (x0 y0:Int) (x1 y1:Int) (x2 y2:Int) (x3 y3:ByteArray) (x4 y4:ByteArray) (x5 y5:Int) (x6 y6:Int):(Op.equalIn (d + 2) 42 (.agg #[.int .i64 x0,.int .i64 x1,.int .i64 x2,.string x3,.string x4,.int .i64 x5,.int .i64 x6]) (.agg #[.int .i64 y0,.int .i64 y1,.int .i64 y2,.string y3,.string y4,.int .i64 y5,.int .i64 y6])).run Tryd.prog w = .ok (x0 == y0 && (x1 == y1 && (x2 == y2 && (x3.toList == y3.toList && (x4.toList == y4.toList && (x5 == y5 && (x6 == y6))))))) w:=by
 refine eqA_of Tryd.underlying42 (by kernel_rfl) ?_
 refine eqf_cons (by rfl) (by go_simp;rfl) (by go_simp;rfl) (by go_simp) ?_
 refine eqf_cons (by rfl) (by go_simp;rfl) (by go_simp;rfl) (by go_simp) ?_
 refine eqf_cons (by rfl) (by go_simp;rfl) (by go_simp;rfl) (by go_simp) ?_
 refine eqf_cons (by rfl) (by go_simp;rfl) (by go_simp;rfl) (by go_simp) ?_
 refine eqf_cons (by rfl) (by go_simp;rfl) (by go_simp;rfl) (by go_simp) ?_
 refine eqf_cons (by rfl) (by go_simp;rfl) (by go_simp;rfl) (by go_simp) ?_
 exact eqf_last (by rfl) (by go_simp;rfl) (by go_simp;rfl) (by go_simp)
theorem sz45:(Tryd.prog.info? 45).map (·.size) = some 12:=by kernel_rfl
theorem elem45 {w:World} {A:Option Addr} {l:List S45} (h:Kd.C k45 w A l.length l) (n:Nat) (hn:n < l.length):∃ ad A11 c11,A = some ad∧(∀ j v,([.string (rd_T45 l (n:Int)).f0,.int .i64 (rd_T45 l (n:Int)).f1,.int .i64 (rd_T45 l (n:Int)).f2,.string (rd_T45 l (n:Int)).f3,.int .i64 (rd_T45 l (n:Int)).f4.f0,.int .i64 (rd_T45 l (n:Int)).f4.f1,.int .i64 (rd_T45 l (n:Int)).f4.f2,.string (rd_T45 l (n:Int)).f4.f3,.string (rd_T45 l (n:Int)).f4.f4,.int .i64 (rd_T45 l (n:Int)).f4.f5,.int .i64 (rd_T45 l (n:Int)).f4.f6,.slice A11 (rd_T45 l (n:Int)).f5.length c11]:List Value)[j]? = some v→w.cell? ((ad.add (n * 12)).add j) = some v)∧(rd_T45 l (n:Int)).f5.length ≤ c11∧(Kd.int .u8).C w A11 (rd_T45 l (n:Int)).f5.length (rd_T45 l (n:Int)).f5:=by
 obtain ⟨ad,c,e,_,hK,hc0⟩:=Kd.C_get h z45 (n:Int) (Int.natCast_nonneg _) (by omega)
 obtain ⟨A11,c11,rfl,l11,g11⟩:=k45_open hK
 refine ⟨ad,A11,c11,e,fun j v hv=>?_,l11,g11⟩
 have:=hc0 j v hv
 rw [Int.toNat_natCast] at this
 rw [← this]
 congr 1
 show (ad.add (n * 12)).add j = ad.add (n * 12 + j)
 exact Go.Proofs.YtcbbcnmifohibaaDoorW.MapOwn.add_add ad (n * 12) j
end Go.Proofs.YtcbbcnmifohibaaDoor.All
end
section
namespace Go.Proofs.YtcbbcnmifohibaaDoor.All
open Go.RowKit Go.Proofs.YtcbbcnmifohibaaDoorW.PrintWords Go.Proofs.YtcbbcnmifohibaaDoorW.PrintLast Go.Proofs.YtcbbcnmifohibaaDoorW.PrintMore
open Go.Proofs.YtcbbcnmifohibaaDoorW.Mine
attribute [local go_sem] gtr_string leq_string geq_string
attribute [local go_sem] max2_int min2_int max_two min_two max_three min_three max_four min_four
set_option linter.unusedVariables false
set_option linter.unusedSimpArgs false
open Go.Proofs.YtcbbcnmifohibaaDoorW.MapOwn
def tree_Copy.f (l0:List S45):Option (List S45):=if l0.length < 977343669134∧(l0.all fun x=>decide (x.f5.length ≤ 140737488355327)) = true then some l0 else none
theorem tree_Copy.info:(Tryd.prog.info? 5).map (fun i=>(i.zero,i.size,i.bytes)) = some (some (.int .u8 0),1,1):=by kernel_rfl
theorem tree_Copy.nilS {α:Type} {d:Kd α} {e base:Nat} {w:World} {ok:Nat→Prop} {v:Value} (h:d.R e w base ok v []):Kd.S d e w base ok v []:=by
 obtain ⟨h0,inner,hown,hr⟩:=h;exact ⟨fun _=>0,h0,inner,hown,hr.1,fun j x hx=>by simp at hx⟩
theorem tree_Copy.elemR {W w1:World} {ok:Nat→Prop} {v u:Value} {xs:List Int} {l:List S45} {base gb:Nat} {cells:Array Value} (h:(Kd.int .u8).R 5 w1 W.heap.size (fun _=>True) v xs) (ho:Kd.S k45 45 W base ok u l) (hk:W.heap[gb]? = some (.cells cells 45 (0,0))) (hb:base ≤ W.heap.size:=by first|exact below_size HB.out|assumption):(Kd.int .u8).R 5 w1 base (fun k=>((True∧some k ≠ u.ownBlock)∧k ≠ gb)∧W.heap.size ≤ k) v xs :=
 Kd.R_lower (Kd.R_mono (Kd.R_bound (Kd.R_newB (Kd.R_new' h (Kd.S_lt ho)) hk)) (fun k hk=>⟨hk.1,hk.2.1⟩)) hb
set_option maxHeartbeats 8000000 in
set_option maxRecDepth 100000 in
theorem tree_Copy.calls (A0:Option Addr) (c0:Nat) (l0:List (S45)) (r:List (S45)) (w:World) (hr0:Kd.C k45 w A0 l0.length l0) (hc0:l0.length ≤ c0) (h:tree_Copy.f l0 = some r) :
 Calls Tryd.prog 23 #[.slice A0 l0.length c0] w fun e w'=>∃ v0_:Value,e = .returned (v0_)∧Kd.S k45 45 w' w.heap.size (fun _=>True) v0_ r∧Below w.heap.size w w':=by
 have hu45:=Tryd.underlying45;have HR0:=Aside0.mk hr0;have HC0:=Aside0.mk hc0;clear hr0 hc0;unfold tree_Copy.f at h;by_cases hl:l0.length < 977343669134∧(l0.all fun x=>decide (x.f5.length ≤ 140737488355327)) = true
 ·rw [if_pos hl] at h;obtain rfl:=Option.some.inj h;have HL:=Aside0.mk hl;clear h hl;go_enter Tryd.func23,Tryd.ntmps23;go_wp2_with ((with_reducible refine gate_dst (N:=8) rfl ?_);refine Go.Proofs.YtcbbcnmifohibaaDoorW.MakeCap.R_makecap k45 (w0:=w) w.heap.size 45 rfl (N:=8) rfl 30 _ _ rfl (l0.length:Int) rfl rfl Tryd.underlying30 (.agg #[.string (⟨#[]⟩:ByteArray),.int .i64 0,.int .i64 0,.string (⟨#[]⟩:ByteArray),.int .i64 0,.int .i64 0,.int .i64 0,.string (⟨#[]⟩:ByteArray),.string (⟨#[]⟩:ByteArray),.int .i64 0,.int .i64 0,.slice none 0 0]) 144 info45 (by decide) (by omega) (ok:=fun _=>True) trivial (by omega) (by have:=HL.out.1;simp only [Int.toNat_natCast];omega) (Below.refl _ _) (Nat.le_refl _) ?_;intro v8 w1 hr8 hb8 hg8 hat8;have HO:=Aside0.mk (tree_Copy.nilS hr8);have HB:=Aside0.mk hb8;clear hr8 hb8 hg8 hat8)
  go_loopg [3,11] l0.length (fun kq v3 v11 wx=>∃ (n:Nat),Aside0 (kq = l0.length - n)∧Aside0 (n ≤ l0.length)∧v11 = .int .i64 (n:Int)∧Aside0 (Kd.S k45 45 wx w.heap.size (fun _=>True) v3 (l0.take n))∧Aside0 (Below w.heap.size w wx))
  case atStart=>exact ⟨0,⟨rfl⟩,⟨Nat.zero_le _⟩,rfl,HO,HB⟩
  case round =>
   clear HO HB;obtain ⟨n,HQ,HN,rfl,HO,HB⟩:=hrel;by_cases c3:n < l0.length
   ·have c3b:decide ((n:Int) < (l0.length:Int)) = true:=decide_eq_true (by omega);obtain ⟨ad,A11,c11,e,hx,hl11,hi11⟩:=elem45 HR0.out n c3;cases e;have HXC:=Aside0.mk hx;have HXL:=Aside0.mk (of_decide_eq_true (List.all_eq_true.mp HL.out.2 _ (List.getElem_mem c3)));have htk:l0.take (n + 1) = l0.take n ++ [rd_T45 l0 (n:Int)]:=by rw [List.take_succ_eq_append_getElem c3];congr 2;unfold rd_T45;rw [Int.toNat_natCast,List.getD_eq_getElem?_getD,List.getElem?_eq_getElem c3];rfl
    have hxe:l0[n] = rd_T45 l0 (n:Int):=by unfold rd_T45;rw [Int.toNat_natCast,List.getD_eq_getElem?_getD,List.getElem?_eq_getElem c3];rfl
    rw [hxe] at HXL;have HTK:=Aside0.mk htk;clear hx hxe htk;have p3:((n:Int) < (l0.length:Int)) = True:=eq_true (by omega);have p4:(0 ≤ (n:Int)) = True:=eq_true (by omega);have HX:=Aside0.mk hi11;have HXM:=Aside0.mk hl11;have HLT:=Aside0.mk c3;have hw1:wrap64 ((n:Int) + 1) = ((n + 1:Nat):Int):=by have:=HL.out.1;unfold wrap64;omega
    clear hi11 hl11 c3;generalize hx:rd_T45 l0 (n:Int) = x at *;clear hx;go_wp2_with (first|((with_reducible refine gate_dst (N:=14) rfl ?_);refine load_event (ad:=ad.add (n * 12)) rfl rfl hu45 rfl rfl (cs:=[.string (x).f0,.int .i64 (x).f1,.int .i64 (x).f2,.string (x).f3,.int .i64 (x).f4.f0,.int .i64 (x).f4.f1,.int .i64 (x).f4.f2,.string (x).f4.f3,.string (x).f4.f4,.int .i64 (x).f4.f5,.int .i64 (x).f4.f6,.slice A11 (x).f5.length c11]) sz45 (fun j v hv=>(HB.out.cell (World.block_lt_of_cell? w _ (HXC.out j v hv))).trans (HXC.out j v hv)) ?_)|((with_reducible refine gate_dst (N:=5) rfl ?_);refine box_event ?hg (N:=5) ?hd (cs:=#[.string (⟨#[]⟩:ByteArray),.int .i64 0,.int .i64 0,.string (⟨#[]⟩:ByteArray),.int .i64 0,.int .i64 0,.int .i64 0,.string (⟨#[]⟩:ByteArray),.string (⟨#[]⟩:ByteArray),.int .i64 0,.int .i64 0,.slice none 0 0]) (t:=45) ?hr ?_;(case hd=>rfl);(case hg=>rfl);(case hr=>first|(go_simp;done)|(go_simp;rfl));intro gb hg w2 hbox hb2;have HG:=Aside0.mk (show w.heap.size ≤ gb by rw [hg];exact HB.out.size);have HO2:=Aside0.mk (Kd.S_below (Kd.S_elderB HO.out gb (Nat.le_of_eq hg.symm)) hb2);have HB2:=Aside0.mk (below_step HB.out hb2);have HK:=Aside0.mk hbox;clear hg hbox hb2 HO HB;have HO:=HO2;have HB:=HB2;clear HO2 HB2)|((with_reducible refine gate_store (t:=45) (p:=5) rfl ?_);refine put_event rfl rfl rfl rfl rfl HK.out sz45 rfl rfl ?_;intro w3 hk3 hg3;have HO3:=Aside0.mk (Kd.S_grown HO.out hg3 (fun k hk=>(fun e=>hk.2 (Option.some.inj e))));have HB3:=Aside0.mk (below_grown HB.out hg3 HG.out (blk_lt HK.out));clear HO HB HK;have HO:=HO3;have HB:=HB3;have HK:=Aside0.mk hk3;clear HO3 HB3 hk3 hg3;have hc11:=blk_cell HK.out 11;have hf11:=blkF HK.out 11)|((with_reducible refine gate_builtin (b := .append) (xs:=#[.const (.slice none 0 0),.tmp 16]) rfl ?_);at_builtin;refine Kd.R_append_row (Value.int .u8) 0 (w0:=w3) w3.heap.size rfl (.const (.slice none 0 0)) (.tmp 16) 43 5 (.int .u8 0) 1 rfl Tryd.underlying43 tree_Copy.info rfl (by decide) (.slice none 0 0) [] x.f5 A11 x.f5.length c11 (fun _=>True) rfl rfl (fun _ _=>trivial) (Kd.R_nil _ _ _ _ _) (Kd.C_below HX.out HB.out) (Below.refl _ _) (Nat.le_refl _) (by have:=HXL.out;simp only [List.length_nil];omega) ?_;intro v17 w5 ho hb hg hat;obtain ⟨A17,c17,e17⟩:=Kd.R_slice ho;simp only [List.nil_append] at ho e17;subst e17;have HY:=Aside0.mk (tree_Copy.elemR ho HO.out HK.out);have HO5:=Aside0.mk (Kd.S_old HO.out hb);have HK5:=Aside0.mk (blk_grown HK.out hg (by simp [Value.ownBlock]));have HB5:=Aside0.mk (below_step HB.out hb);clear HO HB HK ho hb hg hat hc11 hf11;have HO:=HO5;have HB:=HB5;have HK:=HK5;clear HO5 HB5 HK5;have hc11:=blk_cell HK.out 11;have hf11:=blkF HK.out 11)|((with_reducible refine gate_dst (N:=20) rfl ?_);refine load_event rfl rfl hu45 rfl rfl (cs:=[.string (x).f0,.int .i64 (x).f1,.int .i64 (x).f2,.string (x).f3,.int .i64 (x).f4.f0,.int .i64 (x).f4.f1,.int .i64 (x).f4.f2,.string (x).f4.f3,.string (x).f4.f4,.int .i64 (x).f4.f5,.int .i64 (x).f4.f6,.slice A17 (x).f5.length c17]) sz45 (cells_of_blk (blk_put (cs:=#[.string (x).f0,.int .i64 (x).f1,.int .i64 (x).f2,.string (x).f3,.int .i64 (x).f4.f0,.int .i64 (x).f4.f1,.int .i64 (x).f4.f2,.string (x).f4.f3,.string (x).f4.f4,.int .i64 (x).f4.f5,.int .i64 (x).f4.f6,.slice A11 (x).f5.length c11]) HK.out 11 _ rfl)) ?_)|((with_reducible refine gate_builtin (b := .append) (xs:=#[.tmp 19,.tmp 21]) rfl ?_);at_builtin;refine Kd.S_append k45 (w0:=w) w.heap.size rfl (.tmp 19) (.tmp 21) 30 45 (.agg #[.string (⟨#[]⟩:ByteArray),.int .i64 0,.int .i64 0,.string (⟨#[]⟩:ByteArray),.int .i64 0,.int .i64 0,.int .i64 0,.string (⟨#[]⟩:ByteArray),.string (⟨#[]⟩:ByteArray),.int .i64 0,.int .i64 0,.slice none 0 0]) 144 rfl Tryd.underlying30 info45 rfl (by decide) (by omega) u3 (l0.take n) x [.string (x).f0,.int .i64 (x).f1,.int .i64 (x).f2,.string (x).f3,.int .i64 (x).f4.f0,.int .i64 (x).f4.f1,.int .i64 (x).f4.f2,.string (x).f4.f3,.string (x).f4.f4,.int .i64 (x).f4.f5,.int .i64 (x).f4.f6,.slice A17 (x).f5.length c17] (fun k_=>True∧k_ ≠ gb) (fun k_=>((True∧some k_ ≠ u3.ownBlock)∧k_ ≠ gb)∧w3.heap.size ≤ k_) rfl (by first|(go_simp;done)|(go_simp;rfl)) (k45_mkM _ _ _ x (Kd.R_far (p:=⟨gb,11,none⟩) HY.out (fun _ hk=>hk.1.2) _)) (fun k_ hk=>⟨⟨trivial,hk.1.2⟩,hk.1.1.2⟩) (fun k_ hk=>⟨trivial,by have h1:=blk_lt HK.out;have h2:(w5.setCell ⟨gb,11,none⟩ (.slice A17 (x).f5.length c17)).heap.size = w5.heap.size:=(by simp [World.setCell]);omega⟩) (Kd.S_mono (Kd.S_far (p:=⟨gb,11,none⟩) HO.out (fun _ hk=>hk.1.2) _) (fun k_ hk=>⟨hk.1,fun h=>absurd h.2 (by have:=hk.2;omega)⟩)) (HB.out.setCell (p:=⟨gb,11,none⟩) HG.out _) (below_size (HB.out.setCell (p:=⟨gb,11,none⟩) HG.out _)) (by have:=HL.out.1;have:=HLT.out;simp only [List.length_take];omega) ?_;intro v22 w7 ho hb hg hat;have HO7:=Aside0.mk (Kd.S_mono ho (fun k_ hk=>hk.1));have HB7:=Aside0.mk hb;clear HO HB HK HY ho hb hg hat hc11 hf11;have HO:=HO7;have HB:=HB7;clear HO7 HB7))
    go_roundg (l0.length - (n + 1))
    case measure=>have:=HQ.out;have:=HLT.out;omega
    case rel=>exact ⟨n + 1,⟨rfl⟩,⟨HLT.out⟩,(by first|rfl|rw [hw1]),(by rw [HTK.out];exact HO),HB⟩
   ·have c3b:decide ((n:Int) < (l0.length:Int)) = false:=decide_eq_false (by omega);have c3n:decide (n < l0.length) = false:=decide_eq_false c3;have c3m:(n < l0.length) = False:=eq_false c3;have hn:n = l0.length:=by have:=HN.out;omega
    have HE:=Aside0.mk (show l0.take n = l0 by rw [hn,List.take_length]);clear c3 hn;obtain ⟨Ao,co,eo⟩:=Kd.S_slice HO.out;subst eo;go_wp2;go_ret
    exact ⟨_,rfl,by have h9:=HO.out;rw [HE.out] at h9 ⊢;exact h9,HB.out⟩
 ·rw [if_neg hl] at h;cases h
end Go.Proofs.YtcbbcnmifohibaaDoor.All
end
section
namespace Go.Proofs.YtcbbcnmifohibaaDoor.All
open Go.RowKit Go.Proofs.YtcbbcnmifohibaaDoorW.PrintWords Go.Proofs.YtcbbcnmifohibaaDoorW.PrintLast Go.Proofs.YtcbbcnmifohibaaDoorW.PrintMore
open Go.Proofs.YtcbbcnmifohibaaDoorW.Mine
attribute [local go_sem] gtr_string leq_string geq_string
attribute [local go_sem] max2_int min2_int max_two min_two max_three min_three max_four min_four
set_option linter.unusedVariables false
set_option linter.unusedSimpArgs false
def creelref_TreeCopy.l0:Nat→List (S45)→List (S45)→Int→Option ((List (S45)))
 | 0,_,_,_=>none
 | k + 1,x0,x3,x4=>if x4 < (x0.length:Int) then (if 0 ≤ x4 then (if x3.length < 977343669134 then ((some (x3 ++ [(⟨(rd_T45 x0 x4).f0,(rd_T45 x0 x4).f1,(rd_T45 x0 x4).f2,(rd_T45 x0 x4).f3,(⟨(rd_T45 x0 x4).f4.f0,(rd_T45 x0 x4).f4.f1,(rd_T45 x0 x4).f4.f2,(rd_T45 x0 x4).f4.f3,(rd_T45 x0 x4).f4.f4,(rd_T45 x0 x4).f4.f5,(rd_T45 x0 x4).f4.f6⟩:S42),(rd_T45 x0 x4).f5⟩:S45)]:List (S45))).bind fun y102=>((some (([]:List Int):List Int)).bind fun y105=>(if y105.length + ((rd_T45 x0 x4).f5).length < 140737488355328 then (if x4 < (y102.length:Int) then (creelref_TreeCopy.l0 k x0 (y102.set (x4:Int).toNat (⟨(rd_T45 y102 x4).f0,(rd_T45 y102 x4).f1,(rd_T45 y102 x4).f2,(rd_T45 y102 x4).f3,(⟨(rd_T45 y102 x4).f4.f0,(rd_T45 y102 x4).f4.f1,(rd_T45 y102 x4).f4.f2,(rd_T45 y102 x4).f4.f3,(rd_T45 y102 x4).f4.f4,(rd_T45 y102 x4).f4.f5,(rd_T45 y102 x4).f4.f6⟩:S42),(y105 ++ ((rd_T45 x0 x4).f5))⟩:S45)) (wrap64 (x4 + 1))) else (none)) else (none)))) else (none)) else (none)) else (some x3)
def creelref_TreeCopy.f (k:Nat) (l0:List (S45)):Option ((List (S45))):=creelref_TreeCopy.l0 k l0 ([]:List (S45)) 0
set_option maxHeartbeats 8000000 in
set_option maxRecDepth 100000 in
theorem creelref_TreeCopy.calls (k:Nat) (P0_:Nat→Prop) (A0:Option Addr) (c0:Nat) (l0:List (S45)) (r:List (S45)) (w:World) (hs0:Kd.V k45 45 w w.heap.size (fun k_=>P0_ k_) (.slice A0 l0.length c0) l0) (h:creelref_TreeCopy.f k l0 = some r) :
 Calls Tryd.prog 25 #[.slice A0 l0.length c0] w fun e w'=>∃ v0_:Value,e = .returned (v0_)∧Kd.N k45 45 w' w.heap.size (fun k_=>(P0_ k_ ∨ w.heap.size ≤ k_)) v0_ r∧Below w.heap.size w w':=by
 have hu45:=Tryd.underlying45;have HO0:=Aside0.mk (show Kd.V k45 45 w w.heap.size (fun k_=>(P0_ k_ ∨ w.heap.size ≤ k_)) (.slice A0 l0.length c0) l0 from Kd.V_mono hs0 (fun k_ hk => .inl hk));have HB:=Aside0.mk (Below.refl w.heap.size w);have H:(creelref_TreeCopy.l0 k l0 ([]:List (S45)) 0) = some r:=h;clear h;have H':=Aside0.mk H;clear H;go_enter Tryd.func25,Tryd.ntmps25;go_wp2;go_loopg [3,4] k (fun kq v3 v4 w'=>∃ (x0_1:List (S45)) (x3_1:List (S45)) (x4_1:Int),v4 = .int .i64 x4_1∧Aside0 (creelref_TreeCopy.l0 kq x0_1 x3_1 x4_1 = some r)∧Aside0 (kq ≤ k)∧Aside0 (Kd.V k45 45 w' w.heap.size (fun k_=>(P0_ k_ ∨ w.heap.size ≤ k_)∧some k_ ≠ (v3:Value).ownBlock) (.slice A0 l0.length c0) x0_1)∧Aside0 (Kd.N k45 45 w' w.heap.size (fun k_=>(P0_ k_ ∨ w.heap.size ≤ k_)) v3 x3_1)∧Aside0 (Below w.heap.size w w'))
 case atStart=>exact ⟨(l0),(([]:List (S45))),(0),(by first|rfl|(simp;done)|(simp [*];done)),H',⟨Nat.le_refl _⟩,⟨by (with_reducible repeat (first|apply Kd.V_alloc|apply Kd.V_drewN|apply Kd.V_drew));exact Kd.V_mono HO0.out (fun _ hk=>⟨hk,(by simp [Value.ownBlock])⟩)⟩,⟨by first|exact Kd.S_nil _ _ _ _ _|exact Kd.N_nil _ _ _ _ _|exact Kd.V_nil _ _ _ _ _|exact Kd.Q_nil _ _ _ _ _|exact Kd.R_nil _ _ _ _ _⟩,⟨by repeat (first|(with_reducible first|exact HB.out|apply bwA|apply pwbN|apply bw1)|exact HB.out)⟩⟩
 case round =>
  clear H';obtain ⟨x0_1,x3_1,x4_1,rfl,HA,HK1,HO_0,HO_3,HB⟩:=hrel;have hl0_1:=(Kd.V_reads' HO_0.out).1;rw [hl0_1] at HO_0;(try simp only [hl0_1]);(try simp only [hl0_1] at HO_3);cases gk with
  | zero=>exact absurd HA.out (by simp [creelref_TreeCopy.l0])
  | succ k1 =>
   have H:=HA.out;clear HA;simp only [creelref_TreeCopy.l0] at H;by_cases c2:x4_1 < (x0_1.length:Int)
   ·rw [if_pos c2] at H;have c2b0:decide (x4_1 < (x0_1.length:Int)) = true:=decide_eq_true c2;clear c2;by_cases c3:0 ≤ x4_1
    ·rw [if_pos c3] at H;have c3b0:decide (0 ≤ x4_1) = true:=decide_eq_true c3;clear c3;by_cases c4:x3_1.length < 977343669134
     ·rw [if_pos c4] at H;have LMc4:=Aside0.mk c4;clear c4;obtain ⟨y102,hy102⟩:∃ y_:List (S45),y_ = (x3_1 ++ [(⟨(rd_T45 x0_1 x4_1).f0,(rd_T45 x0_1 x4_1).f1,(rd_T45 x0_1 x4_1).f2,(rd_T45 x0_1 x4_1).f3,(⟨(rd_T45 x0_1 x4_1).f4.f0,(rd_T45 x0_1 x4_1).f4.f1,(rd_T45 x0_1 x4_1).f4.f2,(rd_T45 x0_1 x4_1).f4.f3,(rd_T45 x0_1 x4_1).f4.f4,(rd_T45 x0_1 x4_1).f4.f5,(rd_T45 x0_1 x4_1).f4.f6⟩:S42),(rd_T45 x0_1 x4_1).f5⟩:S45)]):=⟨_,rfl⟩
      replace H:((some (([]:List Int):List Int)).bind fun y105=>(if y105.length + ((rd_T45 x0_1 x4_1).f5).length < 140737488355328 then (if x4_1 < (y102.length:Int) then (creelref_TreeCopy.l0 k1 x0_1 (y102.set (x4_1:Int).toNat (⟨(rd_T45 y102 x4_1).f0,(rd_T45 y102 x4_1).f1,(rd_T45 y102 x4_1).f2,(rd_T45 y102 x4_1).f3,(⟨(rd_T45 y102 x4_1).f4.f0,(rd_T45 y102 x4_1).f4.f1,(rd_T45 y102 x4_1).f4.f2,(rd_T45 y102 x4_1).f4.f3,(rd_T45 y102 x4_1).f4.f4,(rd_T45 y102 x4_1).f4.f5,(rd_T45 y102 x4_1).f4.f6⟩:S42),(y105 ++ ((rd_T45 x0_1 x4_1).f5))⟩:S45)) (wrap64 (x4_1 + 1))) else (none)) else (none))) = some r:=by first|(rw [hy102];with_reducible exact H)|(have H2_:=(Option.bind_some _ _).symm.trans H;rw [hy102];with_reducible exact H2_)|(have H2_:=(Option.bind_some _ _).symm.trans H;with_reducible exact H2_)|with_reducible exact H|(rw [hy102];exact H)|exact H
      have Ny102:=Aside0.mk hy102;clear hy102;obtain ⟨y105,hy105⟩:∃ y_:List Int,y_ = (([]:List Int)):=⟨_,rfl⟩
      replace H:(if y105.length + ((rd_T45 x0_1 x4_1).f5).length < 140737488355328 then (if x4_1 < (y102.length:Int) then (creelref_TreeCopy.l0 k1 x0_1 (y102.set (x4_1:Int).toNat (⟨(rd_T45 y102 x4_1).f0,(rd_T45 y102 x4_1).f1,(rd_T45 y102 x4_1).f2,(rd_T45 y102 x4_1).f3,(⟨(rd_T45 y102 x4_1).f4.f0,(rd_T45 y102 x4_1).f4.f1,(rd_T45 y102 x4_1).f4.f2,(rd_T45 y102 x4_1).f4.f3,(rd_T45 y102 x4_1).f4.f4,(rd_T45 y102 x4_1).f4.f5,(rd_T45 y102 x4_1).f4.f6⟩:S42),(y105 ++ ((rd_T45 x0_1 x4_1).f5))⟩:S45)) (wrap64 (x4_1 + 1))) else (none)) else (none)) = some r:=by first|(rw [hy105];with_reducible exact H)|(have H2_:=(Option.bind_some _ _).symm.trans H;rw [hy105];with_reducible exact H2_)|(have H2_:=(Option.bind_some _ _).symm.trans H;with_reducible exact H2_)|with_reducible exact H|(rw [hy105];exact H)|exact H
      have Ny105:=Aside0.mk hy105;clear hy105;by_cases c5:y105.length + ((rd_T45 x0_1 x4_1).f5).length < 140737488355328
      ·rw [if_pos c5] at H;have LMc5:=Aside0.mk c5;clear c5;obtain ⟨y109,hy109⟩:∃ y_:List Int,y_ = (y105 ++ ((rd_T45 x0_1 x4_1).f5)):=⟨_,rfl⟩
       replace H:(if x4_1 < (y102.length:Int) then (creelref_TreeCopy.l0 k1 x0_1 (y102.set (x4_1:Int).toNat (⟨(rd_T45 y102 x4_1).f0,(rd_T45 y102 x4_1).f1,(rd_T45 y102 x4_1).f2,(rd_T45 y102 x4_1).f3,(⟨(rd_T45 y102 x4_1).f4.f0,(rd_T45 y102 x4_1).f4.f1,(rd_T45 y102 x4_1).f4.f2,(rd_T45 y102 x4_1).f4.f3,(rd_T45 y102 x4_1).f4.f4,(rd_T45 y102 x4_1).f4.f5,(rd_T45 y102 x4_1).f4.f6⟩:S42),y109⟩:S45)) (wrap64 (x4_1 + 1))) else (none)) = some r:=by first|(rw [hy109];with_reducible exact H)|(have H2_:=(Option.bind_some _ _).symm.trans H;rw [hy109];with_reducible exact H2_)|(have H2_:=(Option.bind_some _ _).symm.trans H;with_reducible exact H2_)|with_reducible exact H|(rw [hy109];exact H)|exact H
       have Ny109:=Aside0.mk hy109;clear hy109;by_cases c6:x4_1 < (y102.length:Int)
       ·rw [if_pos c6] at H;have c6b0:decide (x4_1 < (y102.length:Int)) = true:=decide_eq_true c6;clear c6;obtain ⟨y112,hy112⟩:∃ y_:List (S45),y_ = (y102.set (x4_1:Int).toNat (⟨(rd_T45 y102 x4_1).f0,(rd_T45 y102 x4_1).f1,(rd_T45 y102 x4_1).f2,(rd_T45 y102 x4_1).f3,(⟨(rd_T45 y102 x4_1).f4.f0,(rd_T45 y102 x4_1).f4.f1,(rd_T45 y102 x4_1).f4.f2,(rd_T45 y102 x4_1).f4.f3,(rd_T45 y102 x4_1).f4.f4,(rd_T45 y102 x4_1).f4.f5,(rd_T45 y102 x4_1).f4.f6⟩:S42),y109⟩:S45)):=⟨_,rfl⟩
        replace H:(creelref_TreeCopy.l0 k1 x0_1 y112 (wrap64 (x4_1 + 1))) = some r:=by first|(rw [hy112];with_reducible exact H)|(have H2_:=(Option.bind_some _ _).symm.trans H;rw [hy112];with_reducible exact H2_)|(have H2_:=(Option.bind_some _ _).symm.trans H;with_reducible exact H2_)|with_reducible exact H|(rw [hy112];exact H)|exact H
        have Ny112:=Aside0.mk hy112;clear hy112;have H':=Aside0.mk H;clear H;have p101:0 ≤ (x4_1:Int):=of_decide_eq_true (by first|(with_reducible assumption)|assumption);have q101:x4_1 < (x0_1.length:Int):=of_decide_eq_true (by first|(with_reducible assumption)|assumption);obtain ⟨ad101,A101_11,c101_11,e101,hx101_0,hx101_1,hx101_2,hx101_3,hx101_4,hx101_5,hx101_6,hx101_7,hx101_8,hx101_9,hx101_10,hx101_11,hl101_11,hi101_11⟩:=at_T45 (Kd.V_reads' HO_0.out).2.2 x4_1 p101 q101;cases e101;obtain ⟨ce101,hce101,hMe101,hcc101⟩:=Kd.V_get HO_0.out z45 x4_1 p101 (by first|exact q101|exact of_decide_eq_true (by first|(with_reducible assumption)|assumption)|(have e_:=(Kd.V_reads' HO_0.out).1;omega));obtain ⟨ua101_11,uc101_11,rfl,ul101_11,ge101_11⟩:=k45_openF hMe101;have hv101_11:=hcc101 11 _ rfl;rw [add_field _ _ 11 (by omega)] at hv101_11;replace hv101_11:=Option.some.inj (hv101_11.symm.trans hx101_11);injection hv101_11 with hva_ hvn_ hvc_
        rw [hva_] at ge101_11;rw [hvc_] at ul101_11;have HL101_11:=Aside0.mk (show Kd.V (Kd.int .u8) 5 _ w.heap.size _ _ ((rd_T45 x0_1 x4_1).f5) from Kd.V_mk ul101_11 ge101_11);clear hva_ hvn_ hvc_ ge101_11 ul101_11;clear hcc101 hce101;have HR101_11:=Aside0.mk hi101_11;have HC101_11:=Aside0.mk hl101_11;clear hi101_11 hl101_11;replace p101:=eq_true p101;replace q101:=eq_true q101;go_wp2_with (first|((with_reducible refine gate_builtin (b := .append) (xs:=#[.tmp 11,.tmp 16]) rfl ?_);at_builtin;refine Kd.N_append k45 (w0:=w) w.heap.size rfl (.tmp 11) (.tmp 16) 30 45 (.agg #[(.string ⟨#[]⟩),(.int .i64 0),(.int .i64 0),(.string ⟨#[]⟩),(.int .i64 0),(.int .i64 0),(.int .i64 0),(.string ⟨#[]⟩),(.string ⟨#[]⟩),(.int .i64 0),(.int .i64 0),(.slice none 0 0)]) 144 rfl Tryd.underlying30 info45 rfl (by decide) (by omega) u3 x3_1 (⟨(rd_T45 x0_1 x4_1).f0,(rd_T45 x0_1 x4_1).f1,(rd_T45 x0_1 x4_1).f2,(rd_T45 x0_1 x4_1).f3,(⟨(rd_T45 x0_1 x4_1).f4.f0,(rd_T45 x0_1 x4_1).f4.f1,(rd_T45 x0_1 x4_1).f4.f2,(rd_T45 x0_1 x4_1).f4.f3,(rd_T45 x0_1 x4_1).f4.f4,(rd_T45 x0_1 x4_1).f4.f5,(rd_T45 x0_1 x4_1).f4.f6⟩:S42),(rd_T45 x0_1 x4_1).f5⟩:S45) [.string ((rd_T45 x0_1 x4_1).f0),.int .i64 ((rd_T45 x0_1 x4_1).f1),.int .i64 ((rd_T45 x0_1 x4_1).f2),.string ((rd_T45 x0_1 x4_1).f3),.int .i64 ((rd_T45 x0_1 x4_1).f4.f0),.int .i64 ((rd_T45 x0_1 x4_1).f4.f1),.int .i64 ((rd_T45 x0_1 x4_1).f4.f2),.string ((rd_T45 x0_1 x4_1).f4.f3),.string ((rd_T45 x0_1 x4_1).f4.f4),.int .i64 ((rd_T45 x0_1 x4_1).f4.f5),.int .i64 ((rd_T45 x0_1 x4_1).f4.f6),.slice A101_11 ((rd_T45 x0_1 x4_1).f5).length c101_11] (fun k_=>(P0_ k_ ∨ w.heap.size ≤ k_)) (fun k_=>((fun k_=>(P0_ k_ ∨ w.heap.size ≤ k_))) k_∧some k_ ≠ (u3:Value).ownBlock) rfl rfl ?aP (fun _ hk=>hk) ?aF ?aO ?aB ?aS ?aL ?_;(case aP=>exact (k45_mkF _ _ (⟨(rd_T45 x0_1 x4_1).f0,(rd_T45 x0_1 x4_1).f1,(rd_T45 x0_1 x4_1).f2,(rd_T45 x0_1 x4_1).f3,(⟨(rd_T45 x0_1 x4_1).f4.f0,(rd_T45 x0_1 x4_1).f4.f1,(rd_T45 x0_1 x4_1).f4.f2,(rd_T45 x0_1 x4_1).f4.f3,(rd_T45 x0_1 x4_1).f4.f4,(rd_T45 x0_1 x4_1).f4.f5,(rd_T45 x0_1 x4_1).f4.f6⟩:S42),(rd_T45 x0_1 x4_1).f5⟩:S45) (Kd.V_reads' (Kd.V_mono (ok':=(fun k_=>((fun k_=>(P0_ k_ ∨ w.heap.size ≤ k_))) k_∧some k_ ≠ (u3:Value).ownBlock)) (HL101_11.out) (fun k_ hk=>⟨hk.1,hk.2⟩))).2.1 (Kd.V_F (Kd.V_mono (ok':=(fun k_=>((fun k_=>(P0_ k_ ∨ w.heap.size ≤ k_))) k_∧some k_ ≠ (u3:Value).ownBlock)) (HL101_11.out) (fun k_ hk=>⟨hk.1,hk.2⟩)))));(case aB=>exact (by repeat (first|(with_reducible first|exact HB.out|apply bwA|apply pwbN|apply bw1)|exact HB.out)));(case aF=>exact (fun k_ hk=>(.inr (Nat.le_trans (below_size (by repeat (first|(with_reducible first|exact HB.out|apply bwA|apply pwbN|apply bw1)|exact HB.out))) hk))));(case aO=>exact (by (with_reducible repeat (first|apply Kd.N_alloc|apply Kd.N_drewN|apply Kd.N_drew));exact HO_3.out));(case aS=>exact (below_size (by repeat (first|(with_reducible first|exact HB.out|apply bwA|apply pwbN|apply bw1)|exact HB.out))));(case aL=>have:=LMc4.out;omega);intro v103 w8 ho hb hg hat;rw [← Ny102.out] at ho;have n0_:=Aside0.mk (Kd.V_afterv (ok:=(fun k_=>(P0_ k_ ∨ w.heap.size ≤ k_))) (by (with_reducible repeat (first|apply Kd.V_alloc|apply Kd.V_drewN|apply Kd.V_drew));exact HO_0.out) hg hat);have n1_:=Aside0.mk (Kd.V_afterv (ok:=(fun k_=>(P0_ k_ ∨ w.heap.size ≤ k_))) (by (with_reducible repeat (first|apply Kd.V_alloc|apply Kd.V_drewN|apply Kd.V_drew));exact HL101_11.out) hg hat);have n2_:=Aside0.mk (hb);have n3_:=Aside0.mk (ho);clear HO_0;clear HL101_11;clear HB;clear HO_3;have HO_0:=n0_;have HL101_11:=n1_;have HB:=n2_;have HO104:=n3_;clear n0_ n1_ n2_ n3_;clear ho hb hg hat)|((with_reducible refine gate_dst (N:=20) rfl ?_);refine Kd.R_lit (Kd.int .u8) _ 5 ?hg (N:=20) ?hd (xs:=([]:List Int)) (inner:=[]) (ok:=fun _=>True) (okp:=fun _=>True) ?hr ?hp (fun _ hk=>hk) trivial (Below.refl _ _) (Nat.le_refl _) (by simp) ?_;(case hd=>rfl);(case hg=>rfl);(case hr=>first|(go_simp;done)|(go_simp;rfl));(case hp=>exact (Reps.none _ _));intro v106 w9 ho10 hb hg_ hnew_;clear hg_ hnew_;(first|rw [← Ny105.out] at ho10|(simp only [Int.reduceToNat] at ho10;rw [← Ny105.out] at ho10));have n0_:=Aside0.mk (Kd.V_elder' (by (with_reducible repeat (first|apply Kd.V_alloc|apply Kd.V_drewN|apply Kd.V_drew));exact HO_0.out) (Kd.R_base ho10) hb);have n1_:=Aside0.mk (Kd.V_elder' (by (with_reducible repeat (first|apply Kd.V_alloc|apply Kd.V_drewN|apply Kd.V_drew));exact HL101_11.out) (Kd.R_base ho10) hb);have n2_:=Aside0.mk (Kd.N_elder' (by (with_reducible repeat (first|apply Kd.N_alloc|apply Kd.N_drewN|apply Kd.N_drew));exact HO104.out) (Kd.R_base ho10) hb);have n3_:=Aside0.mk (Kd.R_lower (Kd.R_newM (M:=fun k_=>(w.heap.size ≤ k_)) ho10 (below_size (by repeat (first|(with_reducible first|exact HB.out|apply bwA|apply pwbN|apply bw1)|exact HB.out))) (fun k_ h_=>h_)) (below_size (by repeat (first|(with_reducible first|exact HB.out|apply bwA|apply pwbN|apply bw1)|exact HB.out))));have n4_:=Aside0.mk (below_step (by repeat (first|(with_reducible first|exact HB.out|apply bwA|apply pwbN|apply bw1)|exact HB.out)) hb);clear HO_0;clear HL101_11;clear HO104;clear HB;have HO_0:=n0_;have HL101_11:=n1_;have HO104:=n2_;have HO107:=n3_;have HB:=n4_;clear n0_ n1_ n2_ n3_ n4_;clear hb ho10;have p108:0 ≤ (x4_1:Int):=of_decide_eq_true (by first|(with_reducible assumption)|assumption);have q108:x4_1 < (x0_1.length:Int):=of_decide_eq_true (by first|(with_reducible assumption)|assumption);obtain ⟨ad108,A108_11,c108_11,e108,hx108_0,hx108_1,hx108_2,hx108_3,hx108_4,hx108_5,hx108_6,hx108_7,hx108_8,hx108_9,hx108_10,hx108_11,hl108_11,hi108_11⟩:=at_T45 (Kd.V_reads' HO_0.out).2.2 x4_1 p108 q108;obtain rfl:ad101 = ad108:=(by injection e108);obtain ⟨ce108,hce108,hMe108,hcc108⟩:=Kd.V_get HO_0.out z45 x4_1 p108 (by first|exact q108|exact of_decide_eq_true (by first|(with_reducible assumption)|assumption)|(have e_:=(Kd.V_reads' HO_0.out).1;omega));obtain ⟨ua108_11,uc108_11,rfl,ul108_11,ge108_11⟩:=k45_openF hMe108;have hv108_11:=hcc108 11 _ rfl;rw [add_field _ _ 11 (by omega)] at hv108_11;replace hv108_11:=Option.some.inj (hv108_11.symm.trans hx108_11);injection hv108_11 with hva_ hvn_ hvc_;rw [hva_] at ge108_11;rw [hvc_] at ul108_11;have HL108_11:=Aside0.mk (show Kd.V (Kd.int .u8) 5 _ w.heap.size _ _ ((rd_T45 x0_1 x4_1).f5) from Kd.V_mk ul108_11 ge108_11);clear hva_ hvn_ hvc_ ge108_11 ul108_11;clear hcc108 hce108;have HR108_11:=Aside0.mk hi108_11;have HC108_11:=Aside0.mk hl108_11;clear hi108_11 hl108_11;replace p108:=eq_true p108;replace q108:=eq_true q108)|((with_reducible refine gate_builtin (b := .append) (xs:=#[.tmp 20,.tmp 25]) rfl ?_);at_builtin;refine Kd.R_append_rows (Kd.int .u8) (w0:=w) w.heap.size rfl (.tmp 20) (.tmp 25) 43 5 (.int .u8 0) 1 rfl Tryd.underlying43 info5 rfl (by decide) (by omega) v106 y105 ((rd_T45 x0_1 x4_1).f5) _ _ _ (fun k_=>(w.heap.size ≤ k_)) (fun _=>False) rfl rfl ?aO ?aR (fun _ _ h=>h) (fun _ h=>h.elim) ?aF ?aB ?aS ?aL ?_;(case aR=>repeat (first|exact (by repeat (first|(with_reducible exact HR108_11.out)|(with_reducible refine Kd.C_alloc ?_ _)|(with_reducible refine Kd.C_drewN ?_ _)|(with_reducible refine Kd.C_drew ?_)|exact HR108_11.out))|(with_reducible refine Kd.C_alloc ?_ _)|(with_reducible refine Kd.C_drewN ?_ _)|(with_reducible refine Kd.C_drew ?_)));(case aB=>exact (by repeat (first|(with_reducible first|exact HB.out|apply bwA|apply pwbN|apply bw1)|exact HB.out)));(case aF=>exact (fun k_ hk=>(Nat.le_trans (below_size (by repeat (first|(with_reducible first|exact HB.out|apply bwA|apply pwbN|apply bw1)|exact HB.out))) hk)));(case aO=>exact (by (with_reducible repeat (first|apply Kd.R_alloc|apply Kd.R_drewN|apply Kd.R_drew));exact Kd.R_mono HO107.out (fun _ hk=>hk.1)));(case aS=>exact (below_size (by repeat (first|(with_reducible first|exact HB.out|apply bwA|apply pwbN|apply bw1)|exact HB.out))));(case aL=>have:=LMc5.out;omega);intro v110 w11 ho hb hg hat;rw [← Ny109.out] at ho;have n0_:=Aside0.mk (Kd.V_afterv (ok:=(fun k_=>(P0_ k_ ∨ w.heap.size ≤ k_)∧some k_ ≠ (v103:Value).ownBlock)) (by (with_reducible repeat (first|apply Kd.V_alloc|apply Kd.V_drewN|apply Kd.V_drew));exact HO_0.out) hg hat);have n1_:=Aside0.mk (Kd.V_afterv (ok:=(fun k_=>(P0_ k_ ∨ w.heap.size ≤ k_)∧some k_ ≠ (v103:Value).ownBlock)) (by (with_reducible repeat (first|apply Kd.V_alloc|apply Kd.V_drewN|apply Kd.V_drew));exact HL101_11.out) hg hat);have n2_:=Aside0.mk (Kd.N_afterv (ok:=(fun k_=>(P0_ k_ ∨ w.heap.size ≤ k_))) (by (with_reducible repeat (first|apply Kd.N_alloc|apply Kd.N_drewN|apply Kd.N_drew));exact HO104.out) hg hat);have n3_:=Aside0.mk (Kd.V_afterv (ok:=(fun k_=>(P0_ k_ ∨ w.heap.size ≤ k_)∧some k_ ≠ (v103:Value).ownBlock)) (by (with_reducible repeat (first|apply Kd.V_alloc|apply Kd.V_drewN|apply Kd.V_drew));exact HL108_11.out) hg hat);have n4_:=Aside0.mk (hb);have n5_:=Aside0.mk (ho);clear HO_0;clear HL101_11;clear HO104;clear HL108_11;clear HB;clear HO107;have HO_0:=n0_;have HL101_11:=n1_;have HO104:=n2_;have HL108_11:=n3_;have HB:=n4_;have HO111:=n5_;clear n0_ n1_ n2_ n3_ n4_ n5_;clear ho hb hg hat;obtain ⟨Ao_v110,co_v110,eo_v110⟩:=Kd.R_slice HO111.out;subst eo_v110;have p7:0 ≤ (x4_1:Int):=of_decide_eq_true (by first|(with_reducible assumption)|assumption);have q7:(x4_1:Int) < ((y102.length:Int):Int):=of_decide_eq_true (by first|(with_reducible assumption)|assumption);obtain ⟨go7,co7,eo7,gb7,gl7,cl7,HG7⟩:=Kd.N_form HO104.out (by omega);(first|cases eo7|(injection eo7 with ea_ en_ ec_;(first|subst ea_|(injection ea_ with ea_;subst ea_));subst ec_;clear en_));have GB7:=Aside0.mk gb7;have GG7:=Aside0.mk HG7;clear gb7 gl7 HG7;obtain ⟨ce7,hcl7,hM7,hcc7,hfr7⟩:=Kd.N_elem HO104.out z45 (x4_1:Int) p7 q7;obtain ⟨ua7_11,uc7_11,rfl,ul7_11,ge7_11⟩:=k45_openF hM7;have hx7_0:w11.cell? ⟨go7,(x4_1:Int).toNat * 12,none⟩ = some (.string ((rd_T45 y102 x4_1).f0)):=hcc7 0 _ rfl;have hx7_1:w11.cell? ⟨go7,(x4_1:Int).toNat * 12 + 1,none⟩ = some (.int .i64 ((rd_T45 y102 x4_1).f1)):=hcc7 1 _ rfl;have hx7_2:w11.cell? ⟨go7,(x4_1:Int).toNat * 12 + 2,none⟩ = some (.int .i64 ((rd_T45 y102 x4_1).f2)):=hcc7 2 _ rfl;have hx7_3:w11.cell? ⟨go7,(x4_1:Int).toNat * 12 + 3,none⟩ = some (.string ((rd_T45 y102 x4_1).f3)):=hcc7 3 _ rfl;have hx7_4:w11.cell? ⟨go7,(x4_1:Int).toNat * 12 + 4,none⟩ = some (.int .i64 ((rd_T45 y102 x4_1).f4.f0)):=hcc7 4 _ rfl;have hx7_5:w11.cell? ⟨go7,(x4_1:Int).toNat * 12 + 5,none⟩ = some (.int .i64 ((rd_T45 y102 x4_1).f4.f1)):=hcc7 5 _ rfl;have hx7_6:w11.cell? ⟨go7,(x4_1:Int).toNat * 12 + 6,none⟩ = some (.int .i64 ((rd_T45 y102 x4_1).f4.f2)):=hcc7 6 _ rfl;have hx7_7:w11.cell? ⟨go7,(x4_1:Int).toNat * 12 + 7,none⟩ = some (.string ((rd_T45 y102 x4_1).f4.f3)):=hcc7 7 _ rfl;have hx7_8:w11.cell? ⟨go7,(x4_1:Int).toNat * 12 + 8,none⟩ = some (.string ((rd_T45 y102 x4_1).f4.f4)):=hcc7 8 _ rfl;have hx7_9:w11.cell? ⟨go7,(x4_1:Int).toNat * 12 + 9,none⟩ = some (.int .i64 ((rd_T45 y102 x4_1).f4.f5)):=hcc7 9 _ rfl;have hx7_10:w11.cell? ⟨go7,(x4_1:Int).toNat * 12 + 10,none⟩ = some (.int .i64 ((rd_T45 y102 x4_1).f4.f6)):=hcc7 10 _ rfl;have hx7_11:w11.cell? ⟨go7,(x4_1:Int).toNat * 12 + 11,none⟩ = some (.slice ua7_11 ((rd_T45 y102 x4_1).f5).length uc7_11):=hcc7 11 _ rfl;have hf7_0:w11.frozen? ⟨go7,(x4_1:Int).toNat * 12,none⟩ = false:=hfr7 0;have hf7_1:w11.frozen? ⟨go7,(x4_1:Int).toNat * 12 + 1,none⟩ = false:=hfr7 1;have hf7_2:w11.frozen? ⟨go7,(x4_1:Int).toNat * 12 + 2,none⟩ = false:=hfr7 2;have hf7_3:w11.frozen? ⟨go7,(x4_1:Int).toNat * 12 + 3,none⟩ = false:=hfr7 3;have hf7_4:w11.frozen? ⟨go7,(x4_1:Int).toNat * 12 + 4,none⟩ = false:=hfr7 4;have hf7_5:w11.frozen? ⟨go7,(x4_1:Int).toNat * 12 + 5,none⟩ = false:=hfr7 5;have hf7_6:w11.frozen? ⟨go7,(x4_1:Int).toNat * 12 + 6,none⟩ = false:=hfr7 6;have hf7_7:w11.frozen? ⟨go7,(x4_1:Int).toNat * 12 + 7,none⟩ = false:=hfr7 7;have hf7_8:w11.frozen? ⟨go7,(x4_1:Int).toNat * 12 + 8,none⟩ = false:=hfr7 8;have hf7_9:w11.frozen? ⟨go7,(x4_1:Int).toNat * 12 + 9,none⟩ = false:=hfr7 9;have hf7_10:w11.frozen? ⟨go7,(x4_1:Int).toNat * 12 + 10,none⟩ = false:=hfr7 10;have hf7_11:w11.frozen? ⟨go7,(x4_1:Int).toNat * 12 + 11,none⟩ = false:=hfr7 11;clear hcl7 hcc7 hfr7 hM7;replace p7:=eq_true p7;replace q7:=eq_true q7;have HX12:=Aside0.mk (show Kd.N k45 45 w11 w.heap.size (fun k_=>(P0_ k_ ∨ w.heap.size ≤ k_)) (.slice (some ⟨go7,0,none⟩) y102.length co7) y102 from (by (with_reducible repeat (first|apply Kd.N_alloc|apply Kd.N_drewN|apply Kd.N_drew));exact Kd.N_mono HO104.out (fun _ hk=>hk.1)));obtain ⟨ce12,hcl12,hM12,hcc12,hfr12⟩:=Kd.N_elem HX12.out z45 (x4_1:Int) (of_decide_eq_true (by first|(with_reducible assumption)|assumption)) (by have h_:(x4_1:Int) < ((y102.length:Int):Int):=of_decide_eq_true (by first|(with_reducible assumption)|assumption);first|exact h_|(have e_:=(Kd.N_reads' HO104.out).1;omega)|simpa using h_);obtain ⟨ua12_11,uc12_11,rfl,ul12_11,ge12_11⟩:=k45_openF hM12;have HP12:=Kd.N_seg HX12.out (x4_1:Int) (of_decide_eq_true (by first|(with_reducible assumption)|assumption)) (by have h_:(x4_1:Int) < ((y102.length:Int):Int):=of_decide_eq_true (by first|(with_reducible assumption)|assumption);first|exact h_|(have e_:=(Kd.N_reads' HO104.out).1;omega)|simpa using h_) (seg:=[(.slice Ao_v110 y109.length co_v110)]) (j:=11) hcl12 hcc12 (show 12 ≤ 12 from by decide) (x':=(⟨(rd_T45 y102 x4_1).f0,(rd_T45 y102 x4_1).f1,(rd_T45 y102 x4_1).f2,(rd_T45 y102 x4_1).f3,(⟨(rd_T45 y102 x4_1).f4.f0,(rd_T45 y102 x4_1).f4.f1,(rd_T45 y102 x4_1).f4.f2,(rd_T45 y102 x4_1).f4.f3,(rd_T45 y102 x4_1).f4.f4,(rd_T45 y102 x4_1).f4.f5,(rd_T45 y102 x4_1).f4.f6⟩:S42),y109⟩:S45)) (k45_mkF _ _ (⟨(rd_T45 y102 x4_1).f0,(rd_T45 y102 x4_1).f1,(rd_T45 y102 x4_1).f2,(rd_T45 y102 x4_1).f3,(⟨(rd_T45 y102 x4_1).f4.f0,(rd_T45 y102 x4_1).f4.f1,(rd_T45 y102 x4_1).f4.f2,(rd_T45 y102 x4_1).f4.f3,(rd_T45 y102 x4_1).f4.f4,(rd_T45 y102 x4_1).f4.f5,(rd_T45 y102 x4_1).f4.f6⟩:S42),y109⟩:S45) (Kd.R_reads' (Kd.R_mono (ok':=(fun k_=>((fun k_=>(P0_ k_ ∨ w.heap.size ≤ k_))) k_∧k_ ≠ go7)) (Kd.R_apart' (HO111.out) (Kd.N_typed HO104.out) (by decide)) (fun k_ hk=>⟨(.inr (hk.1)),fun e_=>(hk.2) (by rw [e_];rfl)⟩))).2.1 (Kd.R_F (Kd.R_mono (ok':=(fun k_=>((fun k_=>(P0_ k_ ∨ w.heap.size ≤ k_))) k_∧k_ ≠ go7)) (Kd.R_apart' (HO111.out) (Kd.N_typed HO104.out) (by decide)) (fun k_ hk=>⟨(.inr (hk.1)),fun e_=>(hk.2) (by rw [e_];rfl)⟩)))) (fun _ hk=>hk);have hx12_11:=hcc12 11 _ rfl;(try simp only [show (k45).sz = 12 from rfl,Nat.mul_one,Nat.add_zero] at hx12_11);have hf12_11:=hfr12 11;(try simp only [show (k45).sz = 12 from rfl,Nat.mul_one,Nat.add_zero] at hf12_11);clear hcl12 hcc12 hfr12 hM12)|((with_reducible refine gate_store (t:=43) (p:=28) rfl ?_);refine store_event (t:=43) (p:=28) (v:=?vo_w13) (w1:=(w11.setCell ⟨go7,(x4_1:Int).toNat * 12 + 11,none⟩ ((.slice Ao_v110 y109.length co_v110)))) ?hg ?ho ?hn ?hr ?_;(case ho=>rfl);(case hg=>rfl);(case hn=>rfl);(case hr=>first|(go_simp;done)|(go_simp;rfl));intro w13 hw;have hg:w11.grownBy w13 (some go7):=(by rw [hw];exact HP12.2);have hp_:Kd.N k45 45 w13 w.heap.size (fun k_=>(P0_ k_ ∨ w.heap.size ≤ k_)) (.slice (some ⟨go7,0,none⟩) y102.length co7) y112:=(by rw [hw,Ny112.out];exact HP12.1);clear HP12;have n0_:=Aside0.mk (Kd.V_afterv (v:=(.slice (some ⟨go7,0,none⟩) y102.length co7)) (v1:=(.slice (some ⟨go7,0,none⟩) y102.length co7)) (ok:=(fun k_=>(P0_ k_ ∨ w.heap.size ≤ k_)∧some k_ ≠ ((.slice Ao_v110 y109.length co_v110):Value).ownBlock)) (by (with_reducible repeat (first|apply Kd.V_alloc|apply Kd.V_drewN|apply Kd.V_drew));exact Kd.V_mono HO_0.out (fun _ hk=>⟨⟨hk.1.1,hk.2⟩,hk.1.2⟩)) hg (.inl rfl));have n1_:=Aside0.mk (Kd.V_afterv (v:=(.slice (some ⟨go7,0,none⟩) y102.length co7)) (v1:=(.slice (some ⟨go7,0,none⟩) y102.length co7)) (ok:=(fun k_=>(P0_ k_ ∨ w.heap.size ≤ k_)∧some k_ ≠ ((.slice Ao_v110 y109.length co_v110):Value).ownBlock)) (by (with_reducible repeat (first|apply Kd.V_alloc|apply Kd.V_drewN|apply Kd.V_drew));exact Kd.V_mono HL101_11.out (fun _ hk=>⟨⟨hk.1.1,hk.2⟩,hk.1.2⟩)) hg (.inl rfl));have n2_:=Aside0.mk (hp_);have n3_:=Aside0.mk (Kd.V_afterv (v:=(.slice (some ⟨go7,0,none⟩) y102.length co7)) (v1:=(.slice (some ⟨go7,0,none⟩) y102.length co7)) (ok:=(fun k_=>(P0_ k_ ∨ w.heap.size ≤ k_)∧some k_ ≠ ((.slice Ao_v110 y109.length co_v110):Value).ownBlock)) (by (with_reducible repeat (first|apply Kd.V_alloc|apply Kd.V_drewN|apply Kd.V_drew));exact Kd.V_mono HL108_11.out (fun _ hk=>⟨⟨hk.1.1,hk.2⟩,hk.1.2⟩)) hg (.inl rfl));have n4_:=Aside0.mk ((by rw [hw];exact below_set (HB.out) GB7.out:Below w.heap.size w w13));clear HO_0;clear HL101_11;clear HO104;clear HL108_11;clear HB;clear HO111;have HO_0:=n0_;have HL101_11:=n1_;have HO104:=n2_;have HL108_11:=n3_;have HB:=n4_;clear n0_ n1_ n2_ n3_ n4_;clear hg hw hp_))
        (try simp only [← hl0_1]);go_roundg k1
        case measure=>have:=HK1.out;omega
        case rel=>exact ⟨(x0_1),(y112),(wrap64 (x4_1 + 1)),(by first|rfl|(simp;done)|(simp [*];done)),H',⟨by have:=HK1.out;omega⟩,⟨by (try simp only [hl0_1]);(with_reducible repeat (first|apply Kd.V_alloc|apply Kd.V_drewN|apply Kd.V_drew));exact Kd.V_mono HO_0.out (fun _ hk=>⟨hk.1.1,hk.2⟩)⟩,⟨by (try simp only [hl0_1]);(with_reducible repeat (first|apply Kd.N_alloc|apply Kd.N_drewN|apply Kd.N_drew));exact HO104.out⟩,⟨by repeat (first|(with_reducible first|exact HB.out|apply bwA|apply pwbN|apply bw1)|exact HB.out)⟩⟩
       ·rw [if_neg c6] at H;exact absurd H (by simp)
      ·rw [if_neg c5] at H;exact absurd H (by simp)
     ·rw [if_neg c4] at H;exact absurd H (by simp)
    ·rw [if_neg c3] at H;exact absurd H (by simp)
   ·rw [if_neg c2] at H;have c2b0:decide (x4_1 < (x0_1.length:Int)) = false:=decide_eq_false c2;clear c2;obtain rfl:=Option.some.inj H;go_wp2;go_ret
    exact ⟨_,by first|rfl|(simp [errW_none,errW_some] <;> rfl)|(simp [*,errW_none,errW_some] <;> rfl),by (with_reducible repeat (first|apply Kd.N_alloc|apply Kd.N_drewN|apply Kd.N_drew));exact HO_3.out,by repeat (first|(with_reducible first|exact HB.out|apply bwA|apply pwbN|apply bw1)|exact HB.out)⟩
theorem eqA42 (d:Nat) (w:World) (x0 y0:Int) (x1 y1:Int) (x2 y2:Int) (x3 y3:ByteArray) (x4 y4:ByteArray) (x5 y5:Int) (x6 y6:Int) :
  (Op.equalIn (d + 2) 42 (.agg #[.int .i64 x0,.int .i64 x1,.int .i64 x2,.string x3,.string x4,.int .i64 x5,.int .i64 x6]) (.agg #[.int .i64 y0,.int .i64 y1,.int .i64 y2,.string y3,.string y4,.int .i64 y5,.int .i64 y6])).run Tryd.prog w = .ok (x0 == y0 && (x1 == y1 && (x2 == y2 && (x3.toList == y3.toList && (x4.toList == y4.toList && (x5 == y5 && (x6 == y6))))))) w:=by
 refine eqA_of Tryd.underlying42 (by kernel_rfl) ?_
 refine eqf_cons (by rfl) (by go_simp;rfl) (by go_simp;rfl) (by go_simp) ?_
 refine eqf_cons (by rfl) (by go_simp;rfl) (by go_simp;rfl) (by go_simp) ?_
 refine eqf_cons (by rfl) (by go_simp;rfl) (by go_simp;rfl) (by go_simp) ?_
 refine eqf_cons (by rfl) (by go_simp;rfl) (by go_simp;rfl) (by go_simp) ?_
 refine eqf_cons (by rfl) (by go_simp;rfl) (by go_simp;rfl) (by go_simp) ?_
 refine eqf_cons (by rfl) (by go_simp;rfl) (by go_simp;rfl) (by go_simp) ?_
 exact eqf_last (by rfl) (by go_simp;rfl) (by go_simp;rfl) (by go_simp)
def creellaw_sameBytes.f (l0:List Int) (l1:List Int):Option (Bool):=some ((strOfNums l0).toList == (strOfNums l1).toList)
set_option maxHeartbeats 8000000 in
set_option maxRecDepth 100000 in
theorem creellaw_sameBytes.calls (A0:Option Addr) (c0:Nat) (l0:List Int) (A1:Option Addr) (c1:Nat) (l1:List Int) (r:Bool) (w:World) (hr0:Kd.C (Kd.int .u8) w A0 l0.length l0) (hc0:l0.length ≤ c0) (hr1:Kd.C (Kd.int .u8) w A1 l1.length l1) (hc1:l1.length ≤ c1) (h:creellaw_sameBytes.f l0 l1 = some r) :
 Calls Tryd.prog 75 #[.slice A0 l0.length c0,.slice A1 l1.length c1] w fun e w'=>e = .returned (.bool r)∧Drawn0 w w':=by
 have HR0:=Aside0.mk hr0;have HC0:=Aside0.mk hc0;clear hr0 hc0;have HR1:=Aside0.mk hr1;have HC1:=Aside0.mk hc1;clear hr1 hc1;have H:(some ((strOfNums l0).toList == (strOfNums l1).toList)) = some r:=h;clear h;obtain rfl:=Option.some.inj H;have hcv3:=Kd.C_string (P:=Tryd.prog) (A:=A0) (c:=c0) Tryd.underlying43 Tryd.underlying5 Tryd.underlying9 HR0.out;have hcv4:=Kd.C_string (P:=Tryd.prog) (A:=A1) (c:=c1) Tryd.underlying43 Tryd.underlying5 Tryd.underlying9 HR1.out;go_enter Tryd.func75,Tryd.ntmps75;go_wp2;go_ret
 exact ⟨by first|rfl|(simp;done)|(simp [*];done),by repeat (first|exact Drawn0.refl _|apply Drawn0.step)⟩
end Go.Proofs.YtcbbcnmifohibaaDoor.All
end
section
namespace Go.Proofs.YtcbbcnmifohibaaDoor.All
open Go.RowKit Go.Proofs.YtcbbcnmifohibaaDoorW.PrintWords Go.Proofs.YtcbbcnmifohibaaDoorW.PrintLast Go.Proofs.YtcbbcnmifohibaaDoorW.PrintMore
open Go.Proofs.YtcbbcnmifohibaaDoorW.Mine
attribute [local go_sem] gtr_string leq_string geq_string
attribute [local go_sem] max2_int min2_int max_two min_two max_three min_three max_four min_four
set_option linter.unusedVariables false
set_option linter.unusedSimpArgs false
attribute [local go_sem high] eqA42
def creellaw_sameNode.f (a0_0:ByteArray) (a0_1:Int) (a0_2:Int) (a0_3:ByteArray) (a0_4:Int) (a0_5:Int) (a0_6:Int) (a0_7:ByteArray) (a0_8:ByteArray) (a0_9:Int) (a0_10:Int) (l0_11:List Int) (a1_0:ByteArray) (a1_1:Int) (a1_2:Int) (a1_3:ByteArray) (a1_4:Int) (a1_5:Int) (a1_6:Int) (a1_7:ByteArray) (a1_8:ByteArray) (a1_9:Int) (a1_10:Int) (l1_11:List Int):Option (Bool):=if a0_0.toList = a1_0.toList then (if a0_1 = a1_1 then (if a0_2 = a1_2 then (if a0_3.toList = a1_3.toList then (if (a0_4 == a1_4 && (a0_5 == a1_5 && (a0_6 == a1_6 && (a0_7.toList == a1_7.toList && (a0_8.toList == a1_8.toList && (a0_9 == a1_9 && (a0_10 == a1_10))))))) = true then ((creellaw_sameBytes.f l0_11 l1_11).bind fun t103=>(some t103)) else (some false)) else (some false)) else (some false)) else (some false)) else (some false)
set_option maxHeartbeats 8000000 in
set_option maxRecDepth 100000 in
theorem creellaw_sameNode.calls (a0_0:ByteArray) (a0_1:Int) (a0_2:Int) (a0_3:ByteArray) (a0_4:Int) (a0_5:Int) (a0_6:Int) (a0_7:ByteArray) (a0_8:ByteArray) (a0_9:Int) (a0_10:Int) (A0_11:Option Addr) (c0_11:Nat) (l0_11:List Int) (a1_0:ByteArray) (a1_1:Int) (a1_2:Int) (a1_3:ByteArray) (a1_4:Int) (a1_5:Int) (a1_6:Int) (a1_7:ByteArray) (a1_8:ByteArray) (a1_9:Int) (a1_10:Int) (A1_11:Option Addr) (c1_11:Nat) (l1_11:List Int) (r:Bool) (w:World) (hr0_11:Kd.C (Kd.int .u8) w A0_11 l0_11.length l0_11) (hc0_11:l0_11.length ≤ c0_11) (hr1_11:Kd.C (Kd.int .u8) w A1_11 l1_11.length l1_11) (hc1_11:l1_11.length ≤ c1_11) (h:creellaw_sameNode.f a0_0 a0_1 a0_2 a0_3 a0_4 a0_5 a0_6 a0_7 a0_8 a0_9 a0_10 l0_11 a1_0 a1_1 a1_2 a1_3 a1_4 a1_5 a1_6 a1_7 a1_8 a1_9 a1_10 l1_11 = some r) :
 Calls Tryd.prog 46 #[.agg #[.string a0_0,.int .i64 a0_1,.int .i64 a0_2,.string a0_3,.int .i64 a0_4,.int .i64 a0_5,.int .i64 a0_6,.string a0_7,.string a0_8,.int .i64 a0_9,.int .i64 a0_10,.slice A0_11 l0_11.length c0_11],.agg #[.string a1_0,.int .i64 a1_1,.int .i64 a1_2,.string a1_3,.int .i64 a1_4,.int .i64 a1_5,.int .i64 a1_6,.string a1_7,.string a1_8,.int .i64 a1_9,.int .i64 a1_10,.slice A1_11 l1_11.length c1_11]] w fun e w'=>e = .returned (.bool r)∧Below w.heap.size w w':=by
 have hu45:=Tryd.underlying45;have hu42:=Tryd.underlying42;have HR0_11:=Aside0.mk hr0_11;have HC0_11:=Aside0.mk hc0_11;clear hr0_11 hc0_11;have HR1_11:=Aside0.mk hr1_11;have HC1_11:=Aside0.mk hc1_11;clear hr1_11 hc1_11;have HB:=Aside0.mk (Below.refl w.heap.size w);have H:(if a0_0.toList = a1_0.toList then (if a0_1 = a1_1 then (if a0_2 = a1_2 then (if a0_3.toList = a1_3.toList then (if (a0_4 == a1_4 && (a0_5 == a1_5 && (a0_6 == a1_6 && (a0_7.toList == a1_7.toList && (a0_8.toList == a1_8.toList && (a0_9 == a1_9 && (a0_10 == a1_10))))))) = true then ((creellaw_sameBytes.f l0_11 l1_11).bind fun t103=>(some t103)) else (some false)) else (some false)) else (some false)) else (some false)) else (some false)) = some r:=h;clear h;by_cases c3:a0_0.toList = a1_0.toList
 ·rw [if_pos c3] at H;have c3b0:(a0_0.toList == a1_0.toList) = true:=beq_iff_eq.mpr c3;have c3b1:(a0_0.toList != a1_0.toList) = false:=bne_eq_false_iff_eq.mpr c3;clear c3;by_cases c4:a0_1 = a1_1
  ·rw [if_pos c4] at H;have c4b0:(a0_1 == a1_1) = true:=beq_iff_eq.mpr c4;have c4b1:(a0_1 != a1_1) = false:=bne_eq_false_iff_eq.mpr c4;clear c4;by_cases c5:a0_2 = a1_2
   ·rw [if_pos c5] at H;have c5b0:(a0_2 == a1_2) = true:=beq_iff_eq.mpr c5;have c5b1:(a0_2 != a1_2) = false:=bne_eq_false_iff_eq.mpr c5;clear c5;by_cases c6:a0_3.toList = a1_3.toList
    ·rw [if_pos c6] at H;have c6b0:(a0_3.toList == a1_3.toList) = true:=beq_iff_eq.mpr c6;have c6b1:(a0_3.toList != a1_3.toList) = false:=bne_eq_false_iff_eq.mpr c6;clear c6;by_cases c7:(a0_4 == a1_4 && (a0_5 == a1_5 && (a0_6 == a1_6 && (a0_7.toList == a1_7.toList && (a0_8.toList == a1_8.toList && (a0_9 == a1_9 && (a0_10 == a1_10))))))) = true
     ·rw [if_pos c7] at H;have c7b0:(a0_4 == a1_4 && (a0_5 == a1_5 && (a0_6 == a1_6 && (a0_7.toList == a1_7.toList && (a0_8.toList == a1_8.toList && (a0_9 == a1_9 && (a0_10 == a1_10))))))) = true:=c7;(try (have c7b1:decide (a0_4 = a1_4 && (a0_5 == a1_5 && (a0_6 == a1_6 && (a0_7.toList == a1_7.toList && (a0_8.toList == a1_8.toList && (a0_9 == a1_9 && (a0_10 == a1_10))))))) = true:=by simpa using c7));(try (have c7b2:(a0_4 == a1_4 && (a0_5 == a1_5 && (a0_6 == a1_6 && (a0_7.toList == a1_7.toList && (a0_8.toList == a1_8.toList && (a0_9 == a1_9 && (a0_10 == a1_10))))))) = true:=by simpa using c7));clear c7;replace H:=Option.bind_eq_some_iff.mp H;obtain ⟨t103,A80,H⟩:=H;replace H:(some t103) = some r:=H;have A8:=Aside0.mk A80;clear A80;obtain rfl:=Option.some.inj H;go_enter Tryd.func46,Tryd.ntmps46;go_wp2_with (first|((with_reducible refine gate_dst (N:=2) rfl ?_);refine box_event ?hg (N:=2) ?hd (cs:=#[.string a0_0,.int .i64 a0_1,.int .i64 a0_2,.string a0_3,.int .i64 a0_4,.int .i64 a0_5,.int .i64 a0_6,.string a0_7,.string a0_8,.int .i64 a0_9,.int .i64 a0_10,.slice A0_11 l0_11.length c0_11]) (t:=45) ?hr ?_;(case hd=>rfl);(case hg=>rfl);(case hr=>first|(go_simp;done)|(go_simp;rfl));intro gb101 hg w9 hbox hb;have n0_:=Aside0.mk (below_step (by repeat (first|(with_reducible first|exact HB.out|apply bwA|apply pwbN|apply bw1)|exact HB.out)) hb);have n1_:=Aside0.mk (hbox);have n2_:=Aside0.mk ((by rw [hg];exact (below_size (by repeat (first|(with_reducible first|exact HB.out|apply bwA|apply pwbN|apply bw1)|exact HB.out))):w.heap.size ≤ gb101));have n3_:=Aside0.mk ((by rw [hg];exact (below_size (by repeat (first|(with_reducible first|exact HB.out|apply bwA|apply pwbN|apply bw1)|exact HB.out))):w.heap.size ≤ gb101));clear HB;have HB:=n0_;have BK101:=n1_;have GW101:=n2_;have GE101:=n3_;clear n0_ n1_ n2_ n3_;clear hb hbox hg)|((with_reducible refine gate_dst (N:=3) rfl ?_);refine box_event ?hg (N:=3) ?hd (cs:=#[.string a1_0,.int .i64 a1_1,.int .i64 a1_2,.string a1_3,.int .i64 a1_4,.int .i64 a1_5,.int .i64 a1_6,.string a1_7,.string a1_8,.int .i64 a1_9,.int .i64 a1_10,.slice A1_11 l1_11.length c1_11]) (t:=45) ?hr ?_;(case hd=>rfl);(case hg=>rfl);(case hr=>first|(go_simp;done)|(go_simp;rfl));intro gb102 hg w10 hbox hb;have n0_:=Aside0.mk (blk_below (g:=gb101) (o := .cells #[.string a0_0,.int .i64 a0_1,.int .i64 a0_2,.string a0_3,.int .i64 a0_4,.int .i64 a0_5,.int .i64 a0_6,.string a0_7,.string a0_8,.int .i64 a0_9,.int .i64 a0_10,.slice A0_11 l0_11.length c0_11] 45 (0,0)) (by (with_reducible repeat (first|refine blk_drewN ?_ _|refine blk_drew ?_|refine blk_alloc ?_ _));exact BK101.out) hb);have n1_:=Aside0.mk (below_step (by repeat (first|(with_reducible first|exact HB.out|apply bwA|apply pwbN|apply bw1|refine below_set ?_ GE101.out)|exact HB.out)) hb);have n2_:=Aside0.mk (hbox);have n3_:=Aside0.mk ((by rw [hg];exact (below_size (by repeat (first|(with_reducible first|exact HB.out|apply bwA|apply pwbN|apply bw1|refine below_set ?_ GE101.out)|exact HB.out))):w.heap.size ≤ gb102));have n4_:=Aside0.mk ((by rw [hg];exact (below_size (by repeat (first|(with_reducible first|exact HB.out|apply bwA|apply pwbN|apply bw1|refine below_set ?_ GE101.out)|exact HB.out))):w.heap.size ≤ gb102));have n5_:=Aside0.mk ((by rw [hg];exact Nat.ne_of_lt (blk_lt (g:=gb101) (o := .cells #[.string a0_0,.int .i64 a0_1,.int .i64 a0_2,.string a0_3,.int .i64 a0_4,.int .i64 a0_5,.int .i64 a0_6,.string a0_7,.string a0_8,.int .i64 a0_9,.int .i64 a0_10,.slice A0_11 l0_11.length c0_11] 45 (0,0)) (by (with_reducible repeat (first|refine blk_drewN ?_ _|refine blk_drew ?_|refine blk_alloc ?_ _));exact BK101.out)):gb101 ≠ gb102));have n6_:=Aside0.mk ((by rw [hg];exact Nat.ne_of_gt (blk_lt (g:=gb101) (o := .cells #[.string a0_0,.int .i64 a0_1,.int .i64 a0_2,.string a0_3,.int .i64 a0_4,.int .i64 a0_5,.int .i64 a0_6,.string a0_7,.string a0_8,.int .i64 a0_9,.int .i64 a0_10,.slice A0_11 l0_11.length c0_11] 45 (0,0)) (by (with_reducible repeat (first|refine blk_drewN ?_ _|refine blk_drew ?_|refine blk_alloc ?_ _));exact BK101.out)):gb102 ≠ gb101));clear BK101;clear HB;have BK101:=n0_;have HB:=n1_;have BK102:=n2_;have GW102:=n3_;have GE102:=n4_;have NB101_102:=n5_;have NB102_101:=n6_;clear n0_ n1_ n2_ n3_ n4_ n5_ n6_;clear hb hbox hg;have hnb11:=NB101_102.out;have hnc11:=NB102_101.out;obtain ⟨_,_,_,_,_,_,_,_,_,_,_,_,_,_,_,_,_,_,_,_,_,_,_,_⟩:=blkA12 BK101.out;obtain ⟨_,_,_,_,_,_,_,_,_,_,_,_,_,_,_,_,_,_,_,_,_,_,_,_⟩:=blkA12 BK102.out)|(go_at_call 75;(with_reducible refine (creellaw_sameBytes.calls _ _ l0_11 _ _ l1_11 t103 _ ?side1 ?side2 ?side3 ?side4 A8.out).mono ?_);(case side1=>repeat (first|exact (Kd.C_below HR0_11.out HB.out)|(with_reducible refine Kd.C_alloc ?_ _)|(with_reducible refine Kd.C_drewN ?_ _)|(with_reducible refine Kd.C_drew ?_)));(case side2=>exact HC0_11.out);(case side3=>repeat (first|exact (Kd.C_below HR1_11.out HB.out)|(with_reducible refine Kd.C_alloc ?_ _)|(with_reducible refine Kd.C_drewN ?_ _)|(with_reducible refine Kd.C_drew ?_)));(case side4=>exact HC1_11.out);rintro e w' ⟨rfl,⟨nd,rfl⟩⟩))
      go_ret
      exact ⟨by first|rfl|(simp [errW_none,errW_some] <;> rfl)|(simp [*,errW_none,errW_some] <;> rfl),by repeat (first|(with_reducible first|exact HB.out|apply bwA|apply pwbN|apply bw1|refine below_set ?_ GE101.out|refine below_set ?_ GE102.out)|exact HB.out)⟩
     ·rw [if_neg c7] at H;have c7b0:(a0_4 == a1_4 && (a0_5 == a1_5 && (a0_6 == a1_6 && (a0_7.toList == a1_7.toList && (a0_8.toList == a1_8.toList && (a0_9 == a1_9 && (a0_10 == a1_10))))))) = false:=by simpa using c7
      (try (have c7b1:decide (a0_4 = a1_4 && (a0_5 == a1_5 && (a0_6 == a1_6 && (a0_7.toList == a1_7.toList && (a0_8.toList == a1_8.toList && (a0_9 == a1_9 && (a0_10 == a1_10))))))) = false:=by simpa using c7));(try (have c7b2:(a0_4 == a1_4 && (a0_5 == a1_5 && (a0_6 == a1_6 && (a0_7.toList == a1_7.toList && (a0_8.toList == a1_8.toList && (a0_9 == a1_9 && (a0_10 == a1_10))))))) = false:=by simpa using c7));(try (have c7b3:¬ (a0_4 = a1_4 && (a0_5 == a1_5 && (a0_6 == a1_6 && (a0_7.toList == a1_7.toList && (a0_8.toList == a1_8.toList && (a0_9 == a1_9 && (a0_10 == a1_10))))))):=by simpa using c7));clear c7;obtain rfl:=Option.some.inj H;go_enter Tryd.func46,Tryd.ntmps46;go_wp2_with (first|((with_reducible refine gate_dst (N:=2) rfl ?_);refine box_event ?hg (N:=2) ?hd (cs:=#[.string a0_0,.int .i64 a0_1,.int .i64 a0_2,.string a0_3,.int .i64 a0_4,.int .i64 a0_5,.int .i64 a0_6,.string a0_7,.string a0_8,.int .i64 a0_9,.int .i64 a0_10,.slice A0_11 l0_11.length c0_11]) (t:=45) ?hr ?_;(case hd=>rfl);(case hg=>rfl);(case hr=>first|(go_simp;done)|(go_simp;rfl));intro gb101 hg w14 hbox hb;have n0_:=Aside0.mk (below_step (by repeat (first|(with_reducible first|exact HB.out|apply bwA|apply pwbN|apply bw1)|exact HB.out)) hb);have n1_:=Aside0.mk (hbox);have n2_:=Aside0.mk ((by rw [hg];exact (below_size (by repeat (first|(with_reducible first|exact HB.out|apply bwA|apply pwbN|apply bw1)|exact HB.out))):w.heap.size ≤ gb101));have n3_:=Aside0.mk ((by rw [hg];exact (below_size (by repeat (first|(with_reducible first|exact HB.out|apply bwA|apply pwbN|apply bw1)|exact HB.out))):w.heap.size ≤ gb101));clear HB;have HB:=n0_;have BK101:=n1_;have GW101:=n2_;have GE101:=n3_;clear n0_ n1_ n2_ n3_;clear hb hbox hg)|((with_reducible refine gate_dst (N:=3) rfl ?_);refine box_event ?hg (N:=3) ?hd (cs:=#[.string a1_0,.int .i64 a1_1,.int .i64 a1_2,.string a1_3,.int .i64 a1_4,.int .i64 a1_5,.int .i64 a1_6,.string a1_7,.string a1_8,.int .i64 a1_9,.int .i64 a1_10,.slice A1_11 l1_11.length c1_11]) (t:=45) ?hr ?_;(case hd=>rfl);(case hg=>rfl);(case hr=>first|(go_simp;done)|(go_simp;rfl));intro gb102 hg w15 hbox hb;have n0_:=Aside0.mk (blk_below (g:=gb101) (o := .cells #[.string a0_0,.int .i64 a0_1,.int .i64 a0_2,.string a0_3,.int .i64 a0_4,.int .i64 a0_5,.int .i64 a0_6,.string a0_7,.string a0_8,.int .i64 a0_9,.int .i64 a0_10,.slice A0_11 l0_11.length c0_11] 45 (0,0)) (by (with_reducible repeat (first|refine blk_drewN ?_ _|refine blk_drew ?_|refine blk_alloc ?_ _));exact BK101.out) hb);have n1_:=Aside0.mk (below_step (by repeat (first|(with_reducible first|exact HB.out|apply bwA|apply pwbN|apply bw1|refine below_set ?_ GE101.out)|exact HB.out)) hb);have n2_:=Aside0.mk (hbox);have n3_:=Aside0.mk ((by rw [hg];exact (below_size (by repeat (first|(with_reducible first|exact HB.out|apply bwA|apply pwbN|apply bw1|refine below_set ?_ GE101.out)|exact HB.out))):w.heap.size ≤ gb102));have n4_:=Aside0.mk ((by rw [hg];exact (below_size (by repeat (first|(with_reducible first|exact HB.out|apply bwA|apply pwbN|apply bw1|refine below_set ?_ GE101.out)|exact HB.out))):w.heap.size ≤ gb102));have n5_:=Aside0.mk ((by rw [hg];exact Nat.ne_of_lt (blk_lt (g:=gb101) (o := .cells #[.string a0_0,.int .i64 a0_1,.int .i64 a0_2,.string a0_3,.int .i64 a0_4,.int .i64 a0_5,.int .i64 a0_6,.string a0_7,.string a0_8,.int .i64 a0_9,.int .i64 a0_10,.slice A0_11 l0_11.length c0_11] 45 (0,0)) (by (with_reducible repeat (first|refine blk_drewN ?_ _|refine blk_drew ?_|refine blk_alloc ?_ _));exact BK101.out)):gb101 ≠ gb102));have n6_:=Aside0.mk ((by rw [hg];exact Nat.ne_of_gt (blk_lt (g:=gb101) (o := .cells #[.string a0_0,.int .i64 a0_1,.int .i64 a0_2,.string a0_3,.int .i64 a0_4,.int .i64 a0_5,.int .i64 a0_6,.string a0_7,.string a0_8,.int .i64 a0_9,.int .i64 a0_10,.slice A0_11 l0_11.length c0_11] 45 (0,0)) (by (with_reducible repeat (first|refine blk_drewN ?_ _|refine blk_drew ?_|refine blk_alloc ?_ _));exact BK101.out)):gb102 ≠ gb101));clear BK101;clear HB;have BK101:=n0_;have HB:=n1_;have BK102:=n2_;have GW102:=n3_;have GE102:=n4_;have NB101_102:=n5_;have NB102_101:=n6_;clear n0_ n1_ n2_ n3_ n4_ n5_ n6_;clear hb hbox hg;have hnb16:=NB101_102.out;have hnc16:=NB102_101.out;obtain ⟨_,_,_,_,_,_,_,_,_,_,_,_,_,_,_,_,_,_,_,_,_,_,_,_⟩:=blkA12 BK101.out;obtain ⟨_,_,_,_,_,_,_,_,_,_,_,_,_,_,_,_,_,_,_,_,_,_,_,_⟩:=blkA12 BK102.out))
      go_ret
      exact ⟨by first|rfl|(simp [errW_none,errW_some] <;> rfl)|(simp [*,errW_none,errW_some] <;> rfl),by repeat (first|(with_reducible first|exact HB.out|apply bwA|apply pwbN|apply bw1|refine below_set ?_ GE101.out|refine below_set ?_ GE102.out)|exact HB.out)⟩
    ·rw [if_neg c6] at H;have c6b0:(a0_3.toList == a1_3.toList) = false:=beq_eq_false_iff_ne.mpr c6;have c6b1:(a0_3.toList != a1_3.toList) = true:=bne_iff_ne.mpr c6;obtain rfl:=Option.some.inj H;go_enter Tryd.func46,Tryd.ntmps46;go_wp2_with (first|((with_reducible refine gate_dst (N:=2) rfl ?_);refine box_event ?hg (N:=2) ?hd (cs:=#[.string a0_0,.int .i64 a0_1,.int .i64 a0_2,.string a0_3,.int .i64 a0_4,.int .i64 a0_5,.int .i64 a0_6,.string a0_7,.string a0_8,.int .i64 a0_9,.int .i64 a0_10,.slice A0_11 l0_11.length c0_11]) (t:=45) ?hr ?_;(case hd=>rfl);(case hg=>rfl);(case hr=>first|(go_simp;done)|(go_simp;rfl));intro gb101 hg w19 hbox hb;have n0_:=Aside0.mk (below_step (by repeat (first|(with_reducible first|exact HB.out|apply bwA|apply pwbN|apply bw1)|exact HB.out)) hb);have n1_:=Aside0.mk (hbox);have n2_:=Aside0.mk ((by rw [hg];exact (below_size (by repeat (first|(with_reducible first|exact HB.out|apply bwA|apply pwbN|apply bw1)|exact HB.out))):w.heap.size ≤ gb101));have n3_:=Aside0.mk ((by rw [hg];exact (below_size (by repeat (first|(with_reducible first|exact HB.out|apply bwA|apply pwbN|apply bw1)|exact HB.out))):w.heap.size ≤ gb101));clear HB;have HB:=n0_;have BK101:=n1_;have GW101:=n2_;have GE101:=n3_;clear n0_ n1_ n2_ n3_;clear hb hbox hg)|((with_reducible refine gate_dst (N:=3) rfl ?_);refine box_event ?hg (N:=3) ?hd (cs:=#[.string a1_0,.int .i64 a1_1,.int .i64 a1_2,.string a1_3,.int .i64 a1_4,.int .i64 a1_5,.int .i64 a1_6,.string a1_7,.string a1_8,.int .i64 a1_9,.int .i64 a1_10,.slice A1_11 l1_11.length c1_11]) (t:=45) ?hr ?_;(case hd=>rfl);(case hg=>rfl);(case hr=>first|(go_simp;done)|(go_simp;rfl));intro gb102 hg w20 hbox hb;have n0_:=Aside0.mk (blk_below (g:=gb101) (o := .cells #[.string a0_0,.int .i64 a0_1,.int .i64 a0_2,.string a0_3,.int .i64 a0_4,.int .i64 a0_5,.int .i64 a0_6,.string a0_7,.string a0_8,.int .i64 a0_9,.int .i64 a0_10,.slice A0_11 l0_11.length c0_11] 45 (0,0)) (by (with_reducible repeat (first|refine blk_drewN ?_ _|refine blk_drew ?_|refine blk_alloc ?_ _));exact BK101.out) hb);have n1_:=Aside0.mk (below_step (by repeat (first|(with_reducible first|exact HB.out|apply bwA|apply pwbN|apply bw1|refine below_set ?_ GE101.out)|exact HB.out)) hb);have n2_:=Aside0.mk (hbox);have n3_:=Aside0.mk ((by rw [hg];exact (below_size (by repeat (first|(with_reducible first|exact HB.out|apply bwA|apply pwbN|apply bw1|refine below_set ?_ GE101.out)|exact HB.out))):w.heap.size ≤ gb102));have n4_:=Aside0.mk ((by rw [hg];exact (below_size (by repeat (first|(with_reducible first|exact HB.out|apply bwA|apply pwbN|apply bw1|refine below_set ?_ GE101.out)|exact HB.out))):w.heap.size ≤ gb102));have n5_:=Aside0.mk ((by rw [hg];exact Nat.ne_of_lt (blk_lt (g:=gb101) (o := .cells #[.string a0_0,.int .i64 a0_1,.int .i64 a0_2,.string a0_3,.int .i64 a0_4,.int .i64 a0_5,.int .i64 a0_6,.string a0_7,.string a0_8,.int .i64 a0_9,.int .i64 a0_10,.slice A0_11 l0_11.length c0_11] 45 (0,0)) (by (with_reducible repeat (first|refine blk_drewN ?_ _|refine blk_drew ?_|refine blk_alloc ?_ _));exact BK101.out)):gb101 ≠ gb102));have n6_:=Aside0.mk ((by rw [hg];exact Nat.ne_of_gt (blk_lt (g:=gb101) (o := .cells #[.string a0_0,.int .i64 a0_1,.int .i64 a0_2,.string a0_3,.int .i64 a0_4,.int .i64 a0_5,.int .i64 a0_6,.string a0_7,.string a0_8,.int .i64 a0_9,.int .i64 a0_10,.slice A0_11 l0_11.length c0_11] 45 (0,0)) (by (with_reducible repeat (first|refine blk_drewN ?_ _|refine blk_drew ?_|refine blk_alloc ?_ _));exact BK101.out)):gb102 ≠ gb101));clear BK101;clear HB;have BK101:=n0_;have HB:=n1_;have BK102:=n2_;have GW102:=n3_;have GE102:=n4_;have NB101_102:=n5_;have NB102_101:=n6_;clear n0_ n1_ n2_ n3_ n4_ n5_ n6_;clear hb hbox hg;have hnb21:=NB101_102.out;have hnc21:=NB102_101.out;obtain ⟨_,_,_,_,_,_,_,_,_,_,_,_,_,_,_,_,_,_,_,_,_,_,_,_⟩:=blkA12 BK101.out;obtain ⟨_,_,_,_,_,_,_,_,_,_,_,_,_,_,_,_,_,_,_,_,_,_,_,_⟩:=blkA12 BK102.out))
     go_ret
     exact ⟨by first|rfl|(simp [errW_none,errW_some] <;> rfl)|(simp [*,errW_none,errW_some] <;> rfl),by repeat (first|(with_reducible first|exact HB.out|apply bwA|apply pwbN|apply bw1|refine below_set ?_ GE101.out|refine below_set ?_ GE102.out)|exact HB.out)⟩
   ·rw [if_neg c5] at H;have c5b0:(a0_2 == a1_2) = false:=beq_eq_false_iff_ne.mpr c5;have c5b1:(a0_2 != a1_2) = true:=bne_iff_ne.mpr c5;obtain rfl:=Option.some.inj H;go_enter Tryd.func46,Tryd.ntmps46;go_wp2_with (first|((with_reducible refine gate_dst (N:=2) rfl ?_);refine box_event ?hg (N:=2) ?hd (cs:=#[.string a0_0,.int .i64 a0_1,.int .i64 a0_2,.string a0_3,.int .i64 a0_4,.int .i64 a0_5,.int .i64 a0_6,.string a0_7,.string a0_8,.int .i64 a0_9,.int .i64 a0_10,.slice A0_11 l0_11.length c0_11]) (t:=45) ?hr ?_;(case hd=>rfl);(case hg=>rfl);(case hr=>first|(go_simp;done)|(go_simp;rfl));intro gb101 hg w24 hbox hb;have n0_:=Aside0.mk (below_step (by repeat (first|(with_reducible first|exact HB.out|apply bwA|apply pwbN|apply bw1)|exact HB.out)) hb);have n1_:=Aside0.mk (hbox);have n2_:=Aside0.mk ((by rw [hg];exact (below_size (by repeat (first|(with_reducible first|exact HB.out|apply bwA|apply pwbN|apply bw1)|exact HB.out))):w.heap.size ≤ gb101));have n3_:=Aside0.mk ((by rw [hg];exact (below_size (by repeat (first|(with_reducible first|exact HB.out|apply bwA|apply pwbN|apply bw1)|exact HB.out))):w.heap.size ≤ gb101));clear HB;have HB:=n0_;have BK101:=n1_;have GW101:=n2_;have GE101:=n3_;clear n0_ n1_ n2_ n3_;clear hb hbox hg)|((with_reducible refine gate_dst (N:=3) rfl ?_);refine box_event ?hg (N:=3) ?hd (cs:=#[.string a1_0,.int .i64 a1_1,.int .i64 a1_2,.string a1_3,.int .i64 a1_4,.int .i64 a1_5,.int .i64 a1_6,.string a1_7,.string a1_8,.int .i64 a1_9,.int .i64 a1_10,.slice A1_11 l1_11.length c1_11]) (t:=45) ?hr ?_;(case hd=>rfl);(case hg=>rfl);(case hr=>first|(go_simp;done)|(go_simp;rfl));intro gb102 hg w25 hbox hb;have n0_:=Aside0.mk (blk_below (g:=gb101) (o := .cells #[.string a0_0,.int .i64 a0_1,.int .i64 a0_2,.string a0_3,.int .i64 a0_4,.int .i64 a0_5,.int .i64 a0_6,.string a0_7,.string a0_8,.int .i64 a0_9,.int .i64 a0_10,.slice A0_11 l0_11.length c0_11] 45 (0,0)) (by (with_reducible repeat (first|refine blk_drewN ?_ _|refine blk_drew ?_|refine blk_alloc ?_ _));exact BK101.out) hb);have n1_:=Aside0.mk (below_step (by repeat (first|(with_reducible first|exact HB.out|apply bwA|apply pwbN|apply bw1|refine below_set ?_ GE101.out)|exact HB.out)) hb);have n2_:=Aside0.mk (hbox);have n3_:=Aside0.mk ((by rw [hg];exact (below_size (by repeat (first|(with_reducible first|exact HB.out|apply bwA|apply pwbN|apply bw1|refine below_set ?_ GE101.out)|exact HB.out))):w.heap.size ≤ gb102));have n4_:=Aside0.mk ((by rw [hg];exact (below_size (by repeat (first|(with_reducible first|exact HB.out|apply bwA|apply pwbN|apply bw1|refine below_set ?_ GE101.out)|exact HB.out))):w.heap.size ≤ gb102));have n5_:=Aside0.mk ((by rw [hg];exact Nat.ne_of_lt (blk_lt (g:=gb101) (o := .cells #[.string a0_0,.int .i64 a0_1,.int .i64 a0_2,.string a0_3,.int .i64 a0_4,.int .i64 a0_5,.int .i64 a0_6,.string a0_7,.string a0_8,.int .i64 a0_9,.int .i64 a0_10,.slice A0_11 l0_11.length c0_11] 45 (0,0)) (by (with_reducible repeat (first|refine blk_drewN ?_ _|refine blk_drew ?_|refine blk_alloc ?_ _));exact BK101.out)):gb101 ≠ gb102));have n6_:=Aside0.mk ((by rw [hg];exact Nat.ne_of_gt (blk_lt (g:=gb101) (o := .cells #[.string a0_0,.int .i64 a0_1,.int .i64 a0_2,.string a0_3,.int .i64 a0_4,.int .i64 a0_5,.int .i64 a0_6,.string a0_7,.string a0_8,.int .i64 a0_9,.int .i64 a0_10,.slice A0_11 l0_11.length c0_11] 45 (0,0)) (by (with_reducible repeat (first|refine blk_drewN ?_ _|refine blk_drew ?_|refine blk_alloc ?_ _));exact BK101.out)):gb102 ≠ gb101));clear BK101;clear HB;have BK101:=n0_;have HB:=n1_;have BK102:=n2_;have GW102:=n3_;have GE102:=n4_;have NB101_102:=n5_;have NB102_101:=n6_;clear n0_ n1_ n2_ n3_ n4_ n5_ n6_;clear hb hbox hg;have hnb26:=NB101_102.out;have hnc26:=NB102_101.out;obtain ⟨_,_,_,_,_,_,_,_,_,_,_,_,_,_,_,_,_,_,_,_,_,_,_,_⟩:=blkA12 BK101.out;obtain ⟨_,_,_,_,_,_,_,_,_,_,_,_,_,_,_,_,_,_,_,_,_,_,_,_⟩:=blkA12 BK102.out))
    go_ret
    exact ⟨by first|rfl|(simp [errW_none,errW_some] <;> rfl)|(simp [*,errW_none,errW_some] <;> rfl),by repeat (first|(with_reducible first|exact HB.out|apply bwA|apply pwbN|apply bw1|refine below_set ?_ GE101.out|refine below_set ?_ GE102.out)|exact HB.out)⟩
  ·rw [if_neg c4] at H;have c4b0:(a0_1 == a1_1) = false:=beq_eq_false_iff_ne.mpr c4;have c4b1:(a0_1 != a1_1) = true:=bne_iff_ne.mpr c4;obtain rfl:=Option.some.inj H;go_enter Tryd.func46,Tryd.ntmps46;go_wp2_with (first|((with_reducible refine gate_dst (N:=2) rfl ?_);refine box_event ?hg (N:=2) ?hd (cs:=#[.string a0_0,.int .i64 a0_1,.int .i64 a0_2,.string a0_3,.int .i64 a0_4,.int .i64 a0_5,.int .i64 a0_6,.string a0_7,.string a0_8,.int .i64 a0_9,.int .i64 a0_10,.slice A0_11 l0_11.length c0_11]) (t:=45) ?hr ?_;(case hd=>rfl);(case hg=>rfl);(case hr=>first|(go_simp;done)|(go_simp;rfl));intro gb101 hg w29 hbox hb;have n0_:=Aside0.mk (below_step (by repeat (first|(with_reducible first|exact HB.out|apply bwA|apply pwbN|apply bw1)|exact HB.out)) hb);have n1_:=Aside0.mk (hbox);have n2_:=Aside0.mk ((by rw [hg];exact (below_size (by repeat (first|(with_reducible first|exact HB.out|apply bwA|apply pwbN|apply bw1)|exact HB.out))):w.heap.size ≤ gb101));have n3_:=Aside0.mk ((by rw [hg];exact (below_size (by repeat (first|(with_reducible first|exact HB.out|apply bwA|apply pwbN|apply bw1)|exact HB.out))):w.heap.size ≤ gb101));clear HB;have HB:=n0_;have BK101:=n1_;have GW101:=n2_;have GE101:=n3_;clear n0_ n1_ n2_ n3_;clear hb hbox hg)|((with_reducible refine gate_dst (N:=3) rfl ?_);refine box_event ?hg (N:=3) ?hd (cs:=#[.string a1_0,.int .i64 a1_1,.int .i64 a1_2,.string a1_3,.int .i64 a1_4,.int .i64 a1_5,.int .i64 a1_6,.string a1_7,.string a1_8,.int .i64 a1_9,.int .i64 a1_10,.slice A1_11 l1_11.length c1_11]) (t:=45) ?hr ?_;(case hd=>rfl);(case hg=>rfl);(case hr=>first|(go_simp;done)|(go_simp;rfl));intro gb102 hg w30 hbox hb;have n0_:=Aside0.mk (blk_below (g:=gb101) (o := .cells #[.string a0_0,.int .i64 a0_1,.int .i64 a0_2,.string a0_3,.int .i64 a0_4,.int .i64 a0_5,.int .i64 a0_6,.string a0_7,.string a0_8,.int .i64 a0_9,.int .i64 a0_10,.slice A0_11 l0_11.length c0_11] 45 (0,0)) (by (with_reducible repeat (first|refine blk_drewN ?_ _|refine blk_drew ?_|refine blk_alloc ?_ _));exact BK101.out) hb);have n1_:=Aside0.mk (below_step (by repeat (first|(with_reducible first|exact HB.out|apply bwA|apply pwbN|apply bw1|refine below_set ?_ GE101.out)|exact HB.out)) hb);have n2_:=Aside0.mk (hbox);have n3_:=Aside0.mk ((by rw [hg];exact (below_size (by repeat (first|(with_reducible first|exact HB.out|apply bwA|apply pwbN|apply bw1|refine below_set ?_ GE101.out)|exact HB.out))):w.heap.size ≤ gb102));have n4_:=Aside0.mk ((by rw [hg];exact (below_size (by repeat (first|(with_reducible first|exact HB.out|apply bwA|apply pwbN|apply bw1|refine below_set ?_ GE101.out)|exact HB.out))):w.heap.size ≤ gb102));have n5_:=Aside0.mk ((by rw [hg];exact Nat.ne_of_lt (blk_lt (g:=gb101) (o := .cells #[.string a0_0,.int .i64 a0_1,.int .i64 a0_2,.string a0_3,.int .i64 a0_4,.int .i64 a0_5,.int .i64 a0_6,.string a0_7,.string a0_8,.int .i64 a0_9,.int .i64 a0_10,.slice A0_11 l0_11.length c0_11] 45 (0,0)) (by (with_reducible repeat (first|refine blk_drewN ?_ _|refine blk_drew ?_|refine blk_alloc ?_ _));exact BK101.out)):gb101 ≠ gb102));have n6_:=Aside0.mk ((by rw [hg];exact Nat.ne_of_gt (blk_lt (g:=gb101) (o := .cells #[.string a0_0,.int .i64 a0_1,.int .i64 a0_2,.string a0_3,.int .i64 a0_4,.int .i64 a0_5,.int .i64 a0_6,.string a0_7,.string a0_8,.int .i64 a0_9,.int .i64 a0_10,.slice A0_11 l0_11.length c0_11] 45 (0,0)) (by (with_reducible repeat (first|refine blk_drewN ?_ _|refine blk_drew ?_|refine blk_alloc ?_ _));exact BK101.out)):gb102 ≠ gb101));clear BK101;clear HB;have BK101:=n0_;have HB:=n1_;have BK102:=n2_;have GW102:=n3_;have GE102:=n4_;have NB101_102:=n5_;have NB102_101:=n6_;clear n0_ n1_ n2_ n3_ n4_ n5_ n6_;clear hb hbox hg;have hnb31:=NB101_102.out;have hnc31:=NB102_101.out;obtain ⟨_,_,_,_,_,_,_,_,_,_,_,_,_,_,_,_,_,_,_,_,_,_,_,_⟩:=blkA12 BK101.out;obtain ⟨_,_,_,_,_,_,_,_,_,_,_,_,_,_,_,_,_,_,_,_,_,_,_,_⟩:=blkA12 BK102.out))
   go_ret
   exact ⟨by first|rfl|(simp [errW_none,errW_some] <;> rfl)|(simp [*,errW_none,errW_some] <;> rfl),by repeat (first|(with_reducible first|exact HB.out|apply bwA|apply pwbN|apply bw1|refine below_set ?_ GE101.out|refine below_set ?_ GE102.out)|exact HB.out)⟩
 ·rw [if_neg c3] at H;have c3b0:(a0_0.toList == a1_0.toList) = false:=beq_eq_false_iff_ne.mpr c3;have c3b1:(a0_0.toList != a1_0.toList) = true:=bne_iff_ne.mpr c3;obtain rfl:=Option.some.inj H;go_enter Tryd.func46,Tryd.ntmps46;go_wp2_with (first|((with_reducible refine gate_dst (N:=2) rfl ?_);refine box_event ?hg (N:=2) ?hd (cs:=#[.string a0_0,.int .i64 a0_1,.int .i64 a0_2,.string a0_3,.int .i64 a0_4,.int .i64 a0_5,.int .i64 a0_6,.string a0_7,.string a0_8,.int .i64 a0_9,.int .i64 a0_10,.slice A0_11 l0_11.length c0_11]) (t:=45) ?hr ?_;(case hd=>rfl);(case hg=>rfl);(case hr=>first|(go_simp;done)|(go_simp;rfl));intro gb101 hg w34 hbox hb;have n0_:=Aside0.mk (below_step (by repeat (first|(with_reducible first|exact HB.out|apply bwA|apply pwbN|apply bw1)|exact HB.out)) hb);have n1_:=Aside0.mk (hbox);have n2_:=Aside0.mk ((by rw [hg];exact (below_size (by repeat (first|(with_reducible first|exact HB.out|apply bwA|apply pwbN|apply bw1)|exact HB.out))):w.heap.size ≤ gb101));have n3_:=Aside0.mk ((by rw [hg];exact (below_size (by repeat (first|(with_reducible first|exact HB.out|apply bwA|apply pwbN|apply bw1)|exact HB.out))):w.heap.size ≤ gb101));clear HB;have HB:=n0_;have BK101:=n1_;have GW101:=n2_;have GE101:=n3_;clear n0_ n1_ n2_ n3_;clear hb hbox hg)|((with_reducible refine gate_dst (N:=3) rfl ?_);refine box_event ?hg (N:=3) ?hd (cs:=#[.string a1_0,.int .i64 a1_1,.int .i64 a1_2,.string a1_3,.int .i64 a1_4,.int .i64 a1_5,.int .i64 a1_6,.string a1_7,.string a1_8,.int .i64 a1_9,.int .i64 a1_10,.slice A1_11 l1_11.length c1_11]) (t:=45) ?hr ?_;(case hd=>rfl);(case hg=>rfl);(case hr=>first|(go_simp;done)|(go_simp;rfl));intro gb102 hg w35 hbox hb;have n0_:=Aside0.mk (blk_below (g:=gb101) (o := .cells #[.string a0_0,.int .i64 a0_1,.int .i64 a0_2,.string a0_3,.int .i64 a0_4,.int .i64 a0_5,.int .i64 a0_6,.string a0_7,.string a0_8,.int .i64 a0_9,.int .i64 a0_10,.slice A0_11 l0_11.length c0_11] 45 (0,0)) (by (with_reducible repeat (first|refine blk_drewN ?_ _|refine blk_drew ?_|refine blk_alloc ?_ _));exact BK101.out) hb);have n1_:=Aside0.mk (below_step (by repeat (first|(with_reducible first|exact HB.out|apply bwA|apply pwbN|apply bw1|refine below_set ?_ GE101.out)|exact HB.out)) hb);have n2_:=Aside0.mk (hbox);have n3_:=Aside0.mk ((by rw [hg];exact (below_size (by repeat (first|(with_reducible first|exact HB.out|apply bwA|apply pwbN|apply bw1|refine below_set ?_ GE101.out)|exact HB.out))):w.heap.size ≤ gb102));have n4_:=Aside0.mk ((by rw [hg];exact (below_size (by repeat (first|(with_reducible first|exact HB.out|apply bwA|apply pwbN|apply bw1|refine below_set ?_ GE101.out)|exact HB.out))):w.heap.size ≤ gb102));have n5_:=Aside0.mk ((by rw [hg];exact Nat.ne_of_lt (blk_lt (g:=gb101) (o := .cells #[.string a0_0,.int .i64 a0_1,.int .i64 a0_2,.string a0_3,.int .i64 a0_4,.int .i64 a0_5,.int .i64 a0_6,.string a0_7,.string a0_8,.int .i64 a0_9,.int .i64 a0_10,.slice A0_11 l0_11.length c0_11] 45 (0,0)) (by (with_reducible repeat (first|refine blk_drewN ?_ _|refine blk_drew ?_|refine blk_alloc ?_ _));exact BK101.out)):gb101 ≠ gb102));have n6_:=Aside0.mk ((by rw [hg];exact Nat.ne_of_gt (blk_lt (g:=gb101) (o := .cells #[.string a0_0,.int .i64 a0_1,.int .i64 a0_2,.string a0_3,.int .i64 a0_4,.int .i64 a0_5,.int .i64 a0_6,.string a0_7,.string a0_8,.int .i64 a0_9,.int .i64 a0_10,.slice A0_11 l0_11.length c0_11] 45 (0,0)) (by (with_reducible repeat (first|refine blk_drewN ?_ _|refine blk_drew ?_|refine blk_alloc ?_ _));exact BK101.out)):gb102 ≠ gb101));clear BK101;clear HB;have BK101:=n0_;have HB:=n1_;have BK102:=n2_;have GW102:=n3_;have GE102:=n4_;have NB101_102:=n5_;have NB102_101:=n6_;clear n0_ n1_ n2_ n3_ n4_ n5_ n6_;clear hb hbox hg;have hnb36:=NB101_102.out;have hnc36:=NB102_101.out;obtain ⟨_,_,_,_,_,_,_,_,_,_,_,_,_,_,_,_,_,_,_,_,_,_,_,_⟩:=blkA12 BK101.out;obtain ⟨_,_,_,_,_,_,_,_,_,_,_,_,_,_,_,_,_,_,_,_,_,_,_,_⟩:=blkA12 BK102.out))
  go_ret
  exact ⟨by first|rfl|(simp [errW_none,errW_some] <;> rfl)|(simp [*,errW_none,errW_some] <;> rfl),by repeat (first|(with_reducible first|exact HB.out|apply bwA|apply pwbN|apply bw1|refine below_set ?_ GE101.out|refine below_set ?_ GE102.out)|exact HB.out)⟩
end Go.Proofs.YtcbbcnmifohibaaDoor.All
end
section
namespace Go.Proofs.YtcbbcnmifohibaaDoor.All
open Go.RowKit Go.Proofs.YtcbbcnmifohibaaDoorW.PrintWords Go.Proofs.YtcbbcnmifohibaaDoorW.PrintLast Go.Proofs.YtcbbcnmifohibaaDoorW.PrintMore
open Go.Proofs.YtcbbcnmifohibaaDoorW.Mine
attribute [local go_sem] gtr_string leq_string geq_string
attribute [local go_sem] max2_int min2_int max_two min_two max_three min_three max_four min_four
set_option linter.unusedVariables false
set_option linter.unusedSimpArgs false
open Go.Proofs.YtcbbcnmifohibaaDoorW.MapOwn
def creellaw_sameTree.eq (x y:S45):Option Bool:=creellaw_sameNode.f (x).f0 (x).f1 (x).f2 (x).f3 (x).f4.f0 (x).f4.f1 (x).f4.f2 (x).f4.f3 (x).f4.f4 (x).f4.f5 (x).f4.f6 (x).f5 (y).f0 (y).f1 (y).f2 (y).f3 (y).f4.f0 (y).f4.f1 (y).f4.f2 (y).f4.f3 (y).f4.f4 (y).f4.f5 (y).f4.f6 (y).f5
def creellaw_sameTree.l0:List S45→List S45→Option Bool
 | [],[]=>some true
 | x :: xs,y :: ys=>(creellaw_sameTree.eq x y).bind fun b=>if b = true then creellaw_sameTree.l0 xs ys else some false
 | _,_=>none
def creellaw_sameTree.f (l0 l1:List S45):Option Bool:=if l0.length = l1.length then (if l0.length ≤ 140737488351232 then creellaw_sameTree.l0 l0 l1 else none) else some false
theorem creellaw_sameTree.at_ (l:List S45) (n:Nat) (h:n < l.length):l.drop n = rd_T45 l (n:Int) :: l.drop (n + 1):=by
 rw [List.drop_eq_getElem_cons h];congr 1
 unfold rd_T45;rw [Int.toNat_natCast,List.getD_eq_getElem?_getD,List.getElem?_eq_getElem h];rfl
set_option maxHeartbeats 8000000 in
set_option maxRecDepth 100000 in
theorem creellaw_sameTree.equal (A0:Option Addr) (c0:Nat) (l0:List (S45)) (A1:Option Addr) (c1:Nat) (l1:List (S45)) (r:Bool) (w:World) (hr0:Kd.C k45 w A0 l0.length l0) (hc0:l0.length ≤ c0) (hr1:Kd.C k45 w A1 l1.length l1) (hc1:l1.length ≤ c1) (h:creellaw_sameTree.f l0 l1 = some r) :
 Calls Tryd.prog 45 #[.slice A0 l0.length c0,.slice A1 l1.length c1,.func (.func 46) #[] #[]] w fun e w'=>e = .returned (.bool r)∧Below w.heap.size w w':=by
 have hu45:=Tryd.underlying45;have HR0:=Aside0.mk hr0;have HR1:=Aside0.mk hr1;clear hr0 hr1 hc0 hc1;unfold creellaw_sameTree.f at h;by_cases hl:l0.length = l1.length
 ·rw [if_pos hl] at h;by_cases hm:l0.length ≤ 140737488351232
  rotate_left
  ·rw [if_neg hm] at h;cases h
  rw [if_pos hm] at h;have HM:=Aside0.mk hm;clear hm;have HE:=Aside0.mk hl;have H':=Aside0.mk h;have HB:=Aside0.mk (Below.refl w.heap.size w);have q1:((l0.length:Int) != (l1.length:Int)) = false:=by rw [hl];simp
  have q2:(l0.length != l1.length) = false:=by rw [hl];simp
  have q3:((l0.length:Int) == (l1.length:Int)) = true:=by rw [hl];simp
  have q4:(l0.length == l1.length) = true:=by rw [hl];simp
  clear h hl;go_enter Tryd.func45,Tryd.ntmps45;go_wp2;clear q1 q2 q3 q4;go_loopg [17] l0.length (fun kq v17 wx=>∃ (n:Nat),Aside0 (kq = l0.length - n)∧Aside0 (n ≤ l0.length)∧v17 = .int .i64 (n:Int)∧Aside0 (creellaw_sameTree.l0 (l0.drop n) (l1.drop n) = some r)∧Aside0 (Below w.heap.size w wx))
  case atStart=>exact ⟨0,⟨rfl⟩,⟨Nat.zero_le _⟩,rfl,⟨by rw [List.drop_zero,List.drop_zero];exact H'.out⟩,HB⟩
  case round =>
   clear HB H';obtain ⟨n,HQ,HN,rfl,HA,HB⟩:=hrel;by_cases c3:n < l0.length
   ·have H:=HA.out;clear HA;rw [creellaw_sameTree.at_ l0 n c3,creellaw_sameTree.at_ l1 n (by have:=HE.out;omega)] at H;obtain ⟨b,A10,H⟩:=Option.bind_eq_some_iff.mp (show ((creellaw_sameTree.eq (rd_T45 l0 (n:Int)) (rd_T45 l1 (n:Int))).bind fun b=>if b = true then creellaw_sameTree.l0 (l0.drop (n + 1)) (l1.drop (n + 1)) else some false) = some r from H);have HA1:=Aside0.mk A10;have HH:=Aside0.mk H;clear A10 H;obtain ⟨ad,A11,c11,e,hx,hl11,hi11⟩:=elem45 HR0.out n c3;cases e;obtain ⟨bd,B11,d11,e,hy,hl12,hi12⟩:=elem45 HR1.out n (by have:=HE.out;omega);cases e;have HXC:=Aside0.mk hx;have HYC:=Aside0.mk hy;have HX:=Aside0.mk hi11;have HXM:=Aside0.mk hl11;have HY:=Aside0.mk hi12;have HYM:=Aside0.mk hl12;have HLT:=Aside0.mk c3;have p3:((n:Int) < (l0.length:Int)) = True:=eq_true (by omega);have p4:(0 ≤ (n:Int)) = True:=eq_true (by omega);have p5:((n:Int) < (l1.length:Int)) = True:=eq_true (by have:=HE.out;omega);have hw1:wrap64 ((n:Int) + 1) = ((n + 1:Nat):Int):=by have:=HM.out;unfold wrap64;omega
    clear hx hy hl11 hi11 hl12 hi12 c3;generalize hx:rd_T45 l0 (n:Int) = x at *;generalize hy:rd_T45 l1 (n:Int) = y at *;clear hx hy;cases b with
    | true =>
     have H:=HH.out;rw [if_pos rfl] at H;have H':=Aside0.mk H;clear HH H;go_wp2_with (first|((with_reducible refine gate_dst (N:=21) rfl ?_);refine load_event (ad:=ad.add (n * 12)) rfl rfl hu45 rfl rfl (cs:=[.string (x).f0,.int .i64 (x).f1,.int .i64 (x).f2,.string (x).f3,.int .i64 (x).f4.f0,.int .i64 (x).f4.f1,.int .i64 (x).f4.f2,.string (x).f4.f3,.string (x).f4.f4,.int .i64 (x).f4.f5,.int .i64 (x).f4.f6,.slice A11 (x).f5.length c11]) sz45 (fun j v hv=>(HB.out.cell (World.block_lt_of_cell? w _ (HXC.out j v hv))).trans (HXC.out j v hv)) ?_)|((with_reducible refine gate_dst (N:=25) rfl ?_);refine load_event (ad:=bd.add (n * 12)) rfl rfl hu45 rfl rfl (cs:=[.string (y).f0,.int .i64 (y).f1,.int .i64 (y).f2,.string (y).f3,.int .i64 (y).f4.f0,.int .i64 (y).f4.f1,.int .i64 (y).f4.f2,.string (y).f4.f3,.string (y).f4.f4,.int .i64 (y).f4.f5,.int .i64 (y).f4.f6,.slice B11 (y).f5.length d11]) sz45 (fun j v hv=>(HB.out.cell (World.block_lt_of_cell? w _ (HYC.out j v hv))).trans (HYC.out j v hv)) ?_)|((with_reducible refine gate_dst (N:=8) rfl ?_);refine box_event ?hg (N:=8) ?hd (cs:=#[.string (⟨#[]⟩:ByteArray),.int .i64 0,.int .i64 0,.string (⟨#[]⟩:ByteArray),.int .i64 0,.int .i64 0,.int .i64 0,.string (⟨#[]⟩:ByteArray),.string (⟨#[]⟩:ByteArray),.int .i64 0,.int .i64 0,.slice none 0 0]) (t:=45) ?hr ?_;(case hd=>rfl);(case hg=>rfl);(case hr=>first|(go_simp;done)|(go_simp;rfl));intro g8 hg w2 hbox hb2;have HG:=Aside0.mk (show w.heap.size ≤ g8 by rw [hg];exact HB.out.size);have HK:=Aside0.mk hbox;have HB9:=Aside0.mk (below_step HB.out hb2);clear HB;have HB:=HB9;clear HB9;clear hg hbox hb2)|((with_reducible refine gate_store (t:=45) (p:=8) rfl ?_);refine put_event rfl rfl rfl rfl rfl HK.out sz45 rfl rfl ?_;intro w3 hk3 hg3;have HB9:=Aside0.mk (below_grown HB.out hg3 HG.out (blk_lt HK.out));have HK9:=Aside0.mk (hk3);clear HB HK;have HB:=HB9;have HK:=HK9;clear HB9 HK9;clear hk3 hg3)|((with_reducible refine gate_dst (N:=9) rfl ?_);refine box_event ?hg (N:=9) ?hd (cs:=#[.string (⟨#[]⟩:ByteArray),.int .i64 0,.int .i64 0,.string (⟨#[]⟩:ByteArray),.int .i64 0,.int .i64 0,.int .i64 0,.string (⟨#[]⟩:ByteArray),.string (⟨#[]⟩:ByteArray),.int .i64 0,.int .i64 0,.slice none 0 0]) (t:=45) ?hr ?_;(case hd=>rfl);(case hg=>rfl);(case hr=>first|(go_simp;done)|(go_simp;rfl));intro g9 hg w2 hbox hb2;have HG9:=Aside0.mk (show w.heap.size ≤ g9 by rw [hg];exact HB.out.size);have HNE:=Aside0.mk (show g8 ≠ g9 by have:=blk_lt HK.out;omega);have HL:=Aside0.mk hbox;have HB9:=Aside0.mk (below_step HB.out hb2);have HK9:=Aside0.mk (blk_below HK.out hb2);clear HB HK;have HB:=HB9;have HK:=HK9;clear HB9 HK9;clear hg hbox hb2)|((with_reducible refine gate_store (t:=45) (p:=9) rfl ?_);refine put_event rfl rfl rfl rfl rfl HL.out sz45 rfl rfl ?_;intro w3 hk3 hg3;have HB9:=Aside0.mk (below_grown HB.out hg3 HG9.out (blk_lt HL.out));have HK9:=Aside0.mk (blk_grown HK.out hg3 (fun e=>HNE.out (Option.some.inj e)));have HL9:=Aside0.mk (hk3);clear HB HK HL;have HB:=HB9;have HK:=HK9;have HL:=HL9;clear HB9 HK9 HL9;clear hk3 hg3)|((with_reducible refine gate_dst (N:=27) rfl ?_);refine load_event rfl rfl hu45 rfl rfl (cs:=[.string (x).f0,.int .i64 (x).f1,.int .i64 (x).f2,.string (x).f3,.int .i64 (x).f4.f0,.int .i64 (x).f4.f1,.int .i64 (x).f4.f2,.string (x).f4.f3,.string (x).f4.f4,.int .i64 (x).f4.f5,.int .i64 (x).f4.f6,.slice A11 (x).f5.length c11]) sz45 (cells_of_blk HK.out) ?_)|((with_reducible refine gate_dst (N:=28) rfl ?_);refine load_event rfl rfl hu45 rfl rfl (cs:=[.string (y).f0,.int .i64 (y).f1,.int .i64 (y).f2,.string (y).f3,.int .i64 (y).f4.f0,.int .i64 (y).f4.f1,.int .i64 (y).f4.f2,.string (y).f4.f3,.string (y).f4.f4,.int .i64 (y).f4.f5,.int .i64 (y).f4.f6,.slice B11 (y).f5.length d11]) sz45 (cells_of_blk HL.out) ?_)|(go_at_call 46;refine (creellaw_sameNode.calls (x).f0 (x).f1 (x).f2 (x).f3 (x).f4.f0 (x).f4.f1 (x).f4.f2 (x).f4.f3 (x).f4.f4 (x).f4.f5 (x).f4.f6 A11 c11 (x).f5 (y).f0 (y).f1 (y).f2 (y).f3 (y).f4.f0 (y).f4.f1 (y).f4.f2 (y).f4.f3 (y).f4.f4 (y).f4.f5 (y).f4.f6 B11 d11 (y).f5 _ _ (Kd.C_below HX.out HB.out) HXM.out (Kd.C_below HY.out HB.out) HYM.out HA1.out).mono ?_;rintro e w5 ⟨rfl,hb5⟩;have HB9:=Aside0.mk (below_step HB.out hb5);clear HB;have HB:=HB9;clear HB9;clear hb5))
     go_roundg (l0.length - (n + 1))
     case measure=>have:=HQ.out;have:=HLT.out;omega
     case rel=>exact ⟨n + 1,⟨rfl⟩,⟨HLT.out⟩,(by first|rfl|rw [hw1]),H',HB⟩
    | false =>
     have H:=HH.out;rw [if_neg (by decide)] at H;obtain rfl:=Option.some.inj H;clear HH H;go_wp2_with (first|((with_reducible refine gate_dst (N:=21) rfl ?_);refine load_event (ad:=ad.add (n * 12)) rfl rfl hu45 rfl rfl (cs:=[.string (x).f0,.int .i64 (x).f1,.int .i64 (x).f2,.string (x).f3,.int .i64 (x).f4.f0,.int .i64 (x).f4.f1,.int .i64 (x).f4.f2,.string (x).f4.f3,.string (x).f4.f4,.int .i64 (x).f4.f5,.int .i64 (x).f4.f6,.slice A11 (x).f5.length c11]) sz45 (fun j v hv=>(HB.out.cell (World.block_lt_of_cell? w _ (HXC.out j v hv))).trans (HXC.out j v hv)) ?_)|((with_reducible refine gate_dst (N:=25) rfl ?_);refine load_event (ad:=bd.add (n * 12)) rfl rfl hu45 rfl rfl (cs:=[.string (y).f0,.int .i64 (y).f1,.int .i64 (y).f2,.string (y).f3,.int .i64 (y).f4.f0,.int .i64 (y).f4.f1,.int .i64 (y).f4.f2,.string (y).f4.f3,.string (y).f4.f4,.int .i64 (y).f4.f5,.int .i64 (y).f4.f6,.slice B11 (y).f5.length d11]) sz45 (fun j v hv=>(HB.out.cell (World.block_lt_of_cell? w _ (HYC.out j v hv))).trans (HYC.out j v hv)) ?_)|((with_reducible refine gate_dst (N:=8) rfl ?_);refine box_event ?hg (N:=8) ?hd (cs:=#[.string (⟨#[]⟩:ByteArray),.int .i64 0,.int .i64 0,.string (⟨#[]⟩:ByteArray),.int .i64 0,.int .i64 0,.int .i64 0,.string (⟨#[]⟩:ByteArray),.string (⟨#[]⟩:ByteArray),.int .i64 0,.int .i64 0,.slice none 0 0]) (t:=45) ?hr ?_;(case hd=>rfl);(case hg=>rfl);(case hr=>first|(go_simp;done)|(go_simp;rfl));intro g8 hg w2 hbox hb2;have HG:=Aside0.mk (show w.heap.size ≤ g8 by rw [hg];exact HB.out.size);have HK:=Aside0.mk hbox;have HB9:=Aside0.mk (below_step HB.out hb2);clear HB;have HB:=HB9;clear HB9;clear hg hbox hb2)|((with_reducible refine gate_store (t:=45) (p:=8) rfl ?_);refine put_event rfl rfl rfl rfl rfl HK.out sz45 rfl rfl ?_;intro w3 hk3 hg3;have HB9:=Aside0.mk (below_grown HB.out hg3 HG.out (blk_lt HK.out));have HK9:=Aside0.mk (hk3);clear HB HK;have HB:=HB9;have HK:=HK9;clear HB9 HK9;clear hk3 hg3)|((with_reducible refine gate_dst (N:=9) rfl ?_);refine box_event ?hg (N:=9) ?hd (cs:=#[.string (⟨#[]⟩:ByteArray),.int .i64 0,.int .i64 0,.string (⟨#[]⟩:ByteArray),.int .i64 0,.int .i64 0,.int .i64 0,.string (⟨#[]⟩:ByteArray),.string (⟨#[]⟩:ByteArray),.int .i64 0,.int .i64 0,.slice none 0 0]) (t:=45) ?hr ?_;(case hd=>rfl);(case hg=>rfl);(case hr=>first|(go_simp;done)|(go_simp;rfl));intro g9 hg w2 hbox hb2;have HG9:=Aside0.mk (show w.heap.size ≤ g9 by rw [hg];exact HB.out.size);have HNE:=Aside0.mk (show g8 ≠ g9 by have:=blk_lt HK.out;omega);have HL:=Aside0.mk hbox;have HB9:=Aside0.mk (below_step HB.out hb2);have HK9:=Aside0.mk (blk_below HK.out hb2);clear HB HK;have HB:=HB9;have HK:=HK9;clear HB9 HK9;clear hg hbox hb2)|((with_reducible refine gate_store (t:=45) (p:=9) rfl ?_);refine put_event rfl rfl rfl rfl rfl HL.out sz45 rfl rfl ?_;intro w3 hk3 hg3;have HB9:=Aside0.mk (below_grown HB.out hg3 HG9.out (blk_lt HL.out));have HK9:=Aside0.mk (blk_grown HK.out hg3 (fun e=>HNE.out (Option.some.inj e)));have HL9:=Aside0.mk (hk3);clear HB HK HL;have HB:=HB9;have HK:=HK9;have HL:=HL9;clear HB9 HK9 HL9;clear hk3 hg3)|((with_reducible refine gate_dst (N:=27) rfl ?_);refine load_event rfl rfl hu45 rfl rfl (cs:=[.string (x).f0,.int .i64 (x).f1,.int .i64 (x).f2,.string (x).f3,.int .i64 (x).f4.f0,.int .i64 (x).f4.f1,.int .i64 (x).f4.f2,.string (x).f4.f3,.string (x).f4.f4,.int .i64 (x).f4.f5,.int .i64 (x).f4.f6,.slice A11 (x).f5.length c11]) sz45 (cells_of_blk HK.out) ?_)|((with_reducible refine gate_dst (N:=28) rfl ?_);refine load_event rfl rfl hu45 rfl rfl (cs:=[.string (y).f0,.int .i64 (y).f1,.int .i64 (y).f2,.string (y).f3,.int .i64 (y).f4.f0,.int .i64 (y).f4.f1,.int .i64 (y).f4.f2,.string (y).f4.f3,.string (y).f4.f4,.int .i64 (y).f4.f5,.int .i64 (y).f4.f6,.slice B11 (y).f5.length d11]) sz45 (cells_of_blk HL.out) ?_)|(go_at_call 46;refine (creellaw_sameNode.calls (x).f0 (x).f1 (x).f2 (x).f3 (x).f4.f0 (x).f4.f1 (x).f4.f2 (x).f4.f3 (x).f4.f4 (x).f4.f5 (x).f4.f6 A11 c11 (x).f5 (y).f0 (y).f1 (y).f2 (y).f3 (y).f4.f0 (y).f4.f1 (y).f4.f2 (y).f4.f3 (y).f4.f4 (y).f4.f5 (y).f4.f6 B11 d11 (y).f5 _ _ (Kd.C_below HX.out HB.out) HXM.out (Kd.C_below HY.out HB.out) HYM.out HA1.out).mono ?_;rintro e w5 ⟨rfl,hb5⟩;have HB9:=Aside0.mk (below_step HB.out hb5);clear HB;have HB:=HB9;clear HB9;clear hb5))
     go_ret
     exact ⟨rfl,HB.out⟩
   ·have c3b:decide ((n:Int) < (l0.length:Int)) = false:=decide_eq_false (by omega);have c3n:decide (n < l0.length) = false:=decide_eq_false c3;have c3m:(n < l0.length) = False:=eq_false c3;have H:=HA.out;rw [List.drop_of_length_le (by omega),List.drop_of_length_le (by have:=HE.out;omega)] at H;obtain rfl:=Option.some.inj (show some true = some r from H);clear c3 H HA;go_wp2;go_ret
    exact ⟨rfl,HB.out⟩
 ·rw [if_neg hl] at h;obtain rfl:=Option.some.inj h;have HB:=Aside0.mk (Below.refl w.heap.size w);have q1:((l0.length:Int) != (l1.length:Int)) = true:=by rw [bne_iff_ne];omega
  have q2:(l0.length != l1.length) = true:=by rw [bne_iff_ne];exact hl
  have q3:((l0.length:Int) == (l1.length:Int)) = false:=by rw [beq_eq_false_iff_ne];omega
  have q4:(l0.length == l1.length) = false:=by rw [beq_eq_false_iff_ne];exact hl
  clear h hl;go_enter Tryd.func45,Tryd.ntmps45;go_wp2;go_ret
  exact ⟨rfl,HB.out⟩
set_option maxHeartbeats 8000000 in
set_option maxRecDepth 100000 in
theorem creellaw_sameTree.calls (A0:Option Addr) (c0:Nat) (l0:List (S45)) (A1:Option Addr) (c1:Nat) (l1:List (S45)) (r:Bool) (w:World) (hr0:Kd.C k45 w A0 l0.length l0) (hc0:l0.length ≤ c0) (hr1:Kd.C k45 w A1 l1.length l1) (hc1:l1.length ≤ c1) (h:creellaw_sameTree.f l0 l1 = some r) :
 Calls Tryd.prog 17 #[.slice A0 l0.length c0,.slice A1 l1.length c1] w fun e w'=>e = .returned (.bool r)∧Below w.heap.size w w':=by
 have HR0:=Aside0.mk hr0;have HR1:=Aside0.mk hr1;have HC0:=Aside0.mk hc0;have HC1:=Aside0.mk hc1;have H:=Aside0.mk h;clear hr0 hr1 hc0 hc1 h;go_enter Tryd.func17,Tryd.ntmps17;go_wp2_with (go_at_call 45;refine (creellaw_sameTree.equal A0 c0 l0 A1 c1 l1 r _ HR0.out HC0.out HR1.out HC1.out H.out).mono ?_;rintro e w' ⟨rfl,hb⟩;have HB:=Aside0.mk hb;clear hb)
 go_ret
 exact ⟨rfl,HB.out⟩
end Go.Proofs.YtcbbcnmifohibaaDoor.All
end
