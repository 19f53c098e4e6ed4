/- Made by programs of the prover: walks of Go functions, the words that they use, and plain laws, each text in a section of its own; no condition of its own. -/
import Derived.Test.YtlfeijjilndljaaDoorRows
import Derived.Test.YtlfeijjilndljaaDoorCards
import Derived.Test.YtlfeijjilndljaaDoorTie
import Derived.WalkKit
import Derived.ProofKit
import Derived.OpenShut
import Derived.ShutString
import Derived.ChangeOld
import Derived.Below
import Derived.SizedLaws
import Derived.WideShapes
import Derived.Deep.DeepHandedRow
import Derived.Lib.LaidTab
import Derived.Test.YtlfeijjilndljaaDoorZPlanGrows2
import Derived.Test.YtlfeijjilndljaaDoorZPlanGrows3
import Derived.Test.YtlfeijjilndljaaDoorZPlanGrows4
import Derived.Test.YtlfeijjilndljaaDoorZPlanGrows5
import Derived.Test.YtlfeijjilndljaaDoorZPlanGrows6
import Derived.Test.YtlfeijjilndljaaDoorZPlanGrows7
section
namespace Go.Proofs.YtlfeijjilndljaaDoor.All
open Go.RowKit Go.Proofs.YtlfeijjilndljaaDoorW.PrintWords Go.Proofs.YtlfeijjilndljaaDoorW.PrintLast Go.Proofs.YtlfeijjilndljaaDoorW.PrintMore
open Go.Proofs.YtlfeijjilndljaaDoorW.Mine
attribute [local go_sem] gtr_string leq_string geq_string
attribute [local go_sem] max2_int min2_int max_two min_two max_three min_three max_four min_four
set_option linter.unusedVariables false
set_option linter.unusedSimpArgs false
def tree_Find.l0:Nat→List (S56)→ByteArray→Int→Option Int
 | 0,_,_,_=>none
 | k + 1,x0,s,i=>if i < (x0.length:Int) then (if 0 ≤ i then (if ((rd_T56 x0 i).f0).toList = s.toList then (some i) else (tree_Find.l0 k x0 s (wrap64 (i + 1)))) else none) else (some (-1))
def tree_Find.f (k:Nat) (l0:List (S56)) (a1:ByteArray):Option (Int × Int):=(tree_Find.l0 k l0 a1 0).bind fun i=>if i < 0 then some (0,5) else some (i,0)
end Go.Proofs.YtlfeijjilndljaaDoor.All
end
section
namespace Go.Proofs.YtlfeijjilndljaaDoor.All
open Go.RowKit Go.Proofs.YtlfeijjilndljaaDoorW.PrintWords Go.Proofs.YtlfeijjilndljaaDoorW.PrintLast Go.Proofs.YtlfeijjilndljaaDoorW.PrintMore
open Go.Proofs.YtlfeijjilndljaaDoorW.Mine
attribute [local go_sem] gtr_string leq_string geq_string
attribute [local go_sem] max2_int min2_int max_two min_two max_three min_three max_four min_four
set_option linter.unusedVariables false
set_option linter.unusedSimpArgs false
mutual
def tree_Right.j0:Nat→Bool→ByteArray→Int→Int→ByteArray→Int→Int→Int→ByteArray→ByteArray→Int→Int→List Int→Option (Int)
 | 0,_,_,_,_,_,_,_,_,_,_,_,_,_=>none
 | k + 1,x28,x102000,x102001,x102002,x102003,x102004,x102005,x102006,x102007,x102008,x102009,x102010,x102011=>if x28 = true then (some 3) else (if (x102011.length:Int) > 2000 then (some 1) else (some 0))
def tree_Right.j1:Nat→Bool→ByteArray→Int→Int→ByteArray→Int→Int→Int→ByteArray→ByteArray→Int→Int→List Int→Option (Int)
 | 0,_,_,_,_,_,_,_,_,_,_,_,_,_=>none
 | k + 1,x33,x102000,x102001,x102002,x102003,x102004,x102005,x102006,x102007,x102008,x102009,x102010,x102011=>if x33 = true then (if (x102011.length:Int) > 0 then (tree_Right.j2 k true x102000 x102001 x102002 x102003 x102004 x102005 x102006 x102007 x102008 x102009 x102010 x102011) else (tree_Right.j2 k (x102002 != 0) x102000 x102001 x102002 x102003 x102004 x102005 x102006 x102007 x102008 x102009 x102010 x102011)) else (some 2)
def tree_Right.j2:Nat→Bool→ByteArray→Int→Int→ByteArray→Int→Int→Int→ByteArray→ByteArray→Int→Int→List Int→Option (Int)
 | 0,_,_,_,_,_,_,_,_,_,_,_,_,_=>none
 | k + 1,x44,x102000,x102001,x102002,x102003,x102004,x102005,x102006,x102007,x102008,x102009,x102010,x102011=>if x44 = true then (some 3) else (if x102001 = 2 then (if x102003.toList = ([]:List UInt8) then (if x102001 = 3 then (tree_Right.j3 k true x102000 x102001 x102002 x102003 x102004 x102005 x102006 x102007 x102008 x102009 x102010 x102011) else (tree_Right.j3 k false x102000 x102001 x102002 x102003 x102004 x102005 x102006 x102007 x102008 x102009 x102010 x102011)) else (tree_Right.j3 k true x102000 x102001 x102002 x102003 x102004 x102005 x102006 x102007 x102008 x102009 x102010 x102011)) else (if x102001 = 3 then (if x102003.toList = ([]:List UInt8) then (tree_Right.j3 k true x102000 x102001 x102002 x102003 x102004 x102005 x102006 x102007 x102008 x102009 x102010 x102011) else ((strings_IndexByte.f x102003 0).bind fun t104=>(tree_Right.j3 k (decide (t104 ≥ 0)) x102000 x102001 x102002 x102003 x102004 x102005 x102006 x102007 x102008 x102009 x102010 x102011))) else (tree_Right.j3 k false x102000 x102001 x102002 x102003 x102004 x102005 x102006 x102007 x102008 x102009 x102010 x102011)))
def tree_Right.j3:Nat→Bool→ByteArray→Int→Int→ByteArray→Int→Int→Int→ByteArray→ByteArray→Int→Int→List Int→Option (Int)
 | 0,_,_,_,_,_,_,_,_,_,_,_,_,_=>none
 | k + 1,x68,x102000,x102001,x102002,x102003,x102004,x102005,x102006,x102007,x102008,x102009,x102010,x102011=>if x68 = true then (some 3) else (if (x102003.size:Int) > 400 then (some 1) else (some 0))
end
def tree_Right.f (k:Nat) (a0_0:ByteArray) (a0_1:Int) (a0_2:Int) (a0_3:ByteArray) (a0_4:Int) (a0_5:Int) (a0_6:Int) (a0_7:ByteArray) (a0_8:ByteArray) (a0_9:Int) (a0_10:Int) (l0_11:List Int):Option (Int):=(path_Check.f k a0_0).bind fun t102=>(if t102 = 0 then ((meta_Check.f k a0_4 a0_5 a0_6 a0_7 a0_8 a0_9 a0_10).bind fun t103=>(if t103 = 0 then (if a0_1 = 1 then (if a0_3.toList = ([]:List UInt8) then (tree_Right.j0 k (decide (a0_2 < 0)) a0_0 a0_1 a0_2 a0_3 a0_4 a0_5 a0_6 a0_7 a0_8 a0_9 a0_10 l0_11) else (tree_Right.j0 k true a0_0 a0_1 a0_2 a0_3 a0_4 a0_5 a0_6 a0_7 a0_8 a0_9 a0_10 l0_11)) else (if a0_1 = 2 then (tree_Right.j1 k (a0_1 == 2) a0_0 a0_1 a0_2 a0_3 a0_4 a0_5 a0_6 a0_7 a0_8 a0_9 a0_10 l0_11) else (tree_Right.j1 k (a0_1 == 3) a0_0 a0_1 a0_2 a0_3 a0_4 a0_5 a0_6 a0_7 a0_8 a0_9 a0_10 l0_11))) else (some t103))) else (some t102))
end Go.Proofs.YtlfeijjilndljaaDoor.All
end
section
namespace Go.Proofs.YtlfeijjilndljaaDoor.All
open Go.RowKit Go.Proofs.YtlfeijjilndljaaDoorW.PrintWords Go.Proofs.YtlfeijjilndljaaDoorW.PrintLast Go.Proofs.YtlfeijjilndljaaDoorW.PrintMore
open Go.Proofs.YtlfeijjilndljaaDoorW.Mine
attribute [local go_sem] gtr_string leq_string geq_string
attribute [local go_sem] max2_int min2_int max_two min_two max_three min_three max_four min_four
set_option linter.unusedVariables false
set_option linter.unusedSimpArgs false
attribute [local go_sem high] eqA32
def tree_alike.f (a0_0:ByteArray) (a0_1:Int) (a0_2:Int) (a0_3:ByteArray) (a0_4:Int) (a0_5:Int) (a0_6:Int) (a0_7:ByteArray) (a0_8:ByteArray) (a0_9:Int) (a0_10:Int) (l0_11:List Int) (a1_0:ByteArray) (a1_1:Int) (a1_2:Int) (a1_3:ByteArray) (a1_4:Int) (a1_5:Int) (a1_6:Int) (a1_7:ByteArray) (a1_8:ByteArray) (a1_9:Int) (a1_10:Int) (l1_11:List Int):Option (Bool):=if (a0_4 == a1_4 && (a0_5 == a1_5 && (a0_6 == a1_6 && (a0_7.toList == a1_7.toList && (a0_8.toList == a1_8.toList && (a0_9 == a1_9 && (a0_10 == a1_10))))))) = true then (some ((strOfNums l0_11).toList == (strOfNums l1_11).toList)) else (some false)
end Go.Proofs.YtlfeijjilndljaaDoor.All
end
section
namespace Go.Proofs.YtlfeijjilndljaaDoor.All
open Go.RowKit Go.Proofs.YtlfeijjilndljaaDoorW.PrintWords Go.Proofs.YtlfeijjilndljaaDoorW.PrintLast Go.Proofs.YtlfeijjilndljaaDoorW.PrintMore
open Go.Proofs.YtlfeijjilndljaaDoorW.Mine
attribute [local go_sem] gtr_string leq_string geq_string
attribute [local go_sem] max2_int min2_int max_two min_two max_three min_three max_four min_four
set_option linter.unusedVariables false
set_option linter.unusedSimpArgs false
open Go.Proofs.YtlfeijjilndljaaDoorW.MapOwn
def tree_Check.two (k:Nat) (l:List S56) (x:S56) (n:Nat):Option Bool:=if 0 < n then (path_Compare.f k (rd_T56 l ((n - 1:Nat):Int)).f0 x.f0).bind fun c=>some (decide (0 ≤ c)) else some false
def tree_Check.up (k:Nat) (l:List S56) (x:S56) (n:Nat):Option Bool:=(path_Up.f x.f0).bind fun up=>if up.toList = ([]:List UInt8) then some false else (tree_Find.f k (l.take n) up).bind fun r=>if r.2 = 0 then (if 0 ≤ r.1∧r.1 < (l.length:Int) then some ((rd_T56 l r.1).f1 != 2) else none) else some true
def tree_Check.alike (y x:S56):Option Bool:=tree_alike.f (y).f0 (y).f1 (y).f2 (y).f3 (y).f4.f0 (y).f4.f1 (y).f4.f2 (y).f4.f3 (y).f4.f4 (y).f4.f5 (y).f4.f6 (y).f5 (x).f0 (x).f1 (x).f2 (x).f3 (x).f4.f0 (x).f4.f1 (x).f4.f2 (x).f4.f3 (x).f4.f4 (x).f4.f5 (x).f4.f6 (x).f5
def tree_Check.right (k:Nat) (x:S56):Option Int:=tree_Right.f k (x).f0 (x).f1 (x).f2 (x).f3 (x).f4.f0 (x).f4.f1 (x).f4.f2 (x).f4.f3 (x).f4.f4 (x).f4.f5 (x).f4.f6 (x).f5
def tree_Check.same (m:List (Int × S56)) (x:S56):Option (Int × List (Int × S56)):=if x.f2 = 0 then some (0,m) else if (Lit.int .i64 x.f2).wf = true then (match get m x.f2 with
 | some y=>(tree_Check.alike y x).bind fun b=>if b = true then some (0,m) else some (11,m)
 | none=>some (0,(x.f2,x) :: m)) else none
def tree_Check.step (k:Nat) (l:List S56) (m:List (Int × S56)) (x:S56) (n:Nat):Option (Int × List (Int × S56)):=(tree_Check.right k x).bind fun e=>if e = 0 then ((tree_Check.two k l x n).bind fun t=>if t = true then some (6,m) else (tree_Check.up k l x n).bind fun u=>if u = true then some (10,m) else tree_Check.same m x) else some (e,m)
def tree_Check.l0:Nat→List S56→List (Int × S56)→Nat→Option Int
 | 0,_,_,_=>none
 | k + 1,l,m,n=>if n < l.length then (tree_Check.step k l m (rd_T56 l (n:Int)) n).bind fun r=>if r.1 = 0 then tree_Check.l0 k l r.2 (n + 1) else some r.1 else some 0
def tree_Check.f (k:Nat) (l0:List S56):Option Int:=if 40 < l0.length then some 1 else tree_Check.l0 k l0 [] 0
def tree_Check.Rep (w:World) (y:S56) (v:Value):Prop:=∃ cs:Array Value,v = .agg cs∧k56.K w y cs.toList
def tree_Check.Inv (w W:World) (bm n:Nat) (m:List (Int × S56)):Prop:=MapAt (Lit.int .i64) Tryd.prog 3 (tree_Check.Rep w) W bm n m∧w.heap.size ≤ bm∧Below w.heap.size w W
def tree_Check.St (w W:World) (bm n:Nat) (m:List (Int × S56)) (gb:Nat) (cs:Array Value):Prop:=tree_Check.Inv w W bm n m∧w.heap.size ≤ gb∧gb ≠ bm∧W.heap[gb]? = some (.cells cs 56 (0,0))
end Go.Proofs.YtlfeijjilndljaaDoor.All
end
section
namespace Go.Proofs.YtlfeijjilndljaaDoor.All
open Go.RowKit Go.Proofs.YtlfeijjilndljaaDoorW.PrintWords Go.Proofs.YtlfeijjilndljaaDoorW.PrintLast Go.Proofs.YtlfeijjilndljaaDoorW.PrintMore
open Go.Proofs.YtlfeijjilndljaaDoorW.Mine
attribute [local go_sem] gtr_string leq_string geq_string
attribute [local go_sem] max2_int min2_int max_two min_two max_three min_three max_four min_four
set_option linter.unusedVariables false
set_option linter.unusedSimpArgs false
def creelref_TreeFind.l0:Nat→List (S56)→ByteArray→Int→Option (Int)
 | 0,_,_,_=>none
 | k + 1,x0,x1,x5=>if x5 < (x0.length:Int) then (if 0 ≤ x5 then (if ((rd_T56 x0 x5).f0).toList = x1.toList then (some x5) else (creelref_TreeFind.l0 k x0 x1 (wrap64 (x5 + 1)))) else (none)) else (some (x0.length:Int))
def creelref_TreeFind.f (k:Nat) (l0:List (S56)) (a1:ByteArray):Option (Int):=creelref_TreeFind.l0 k l0 a1 0
end Go.Proofs.YtlfeijjilndljaaDoor.All
end
section
namespace Go.Proofs.YtlfeijjilndljaaDoor.All
open Go.RowKit Go.Proofs.YtlfeijjilndljaaDoorW.PrintWords Go.Proofs.YtlfeijjilndljaaDoorW.PrintLast Go.Proofs.YtlfeijjilndljaaDoorW.PrintMore
open Go.Proofs.YtlfeijjilndljaaDoorW.Mine
attribute [local go_sem] gtr_string leq_string geq_string
attribute [local go_sem] max2_int min2_int max_two min_two max_three min_three max_four min_four
set_option linter.unusedVariables false
set_option linter.unusedSimpArgs false
mutual
def rNF.j0:Nat→Bool→ByteArray→Int→Int→ByteArray→Int→Int→Int→ByteArray→ByteArray→Int→Int→List Int→Option (Int)
 | 0,_,_,_,_,_,_,_,_,_,_,_,_,_=>none
 | k + 1,x29,x102000,x102001,x102002,x102003,x102004,x102005,x102006,x102007,x102008,x102009,x102010,x102011=>if x29 = true then (some 2) else (if x102001 = 1 then (if x102003.toList = ([]:List UInt8) then (rNF.j1 k (decide (x102002 < 0)) x102000 x102001 x102002 x102003 x102004 x102005 x102006 x102007 x102008 x102009 x102010 x102011) else (rNF.j1 k true x102000 x102001 x102002 x102003 x102004 x102005 x102006 x102007 x102008 x102009 x102010 x102011)) else (if (x102011.length:Int) = 0 then (if x102002 = 0 then (if ((x102003.toList == ([]:List UInt8)) != (x102001 == 2)) = true then (rNF.j2 k true x102000 x102001 x102002 x102003 x102004 x102005 x102006 x102007 x102008 x102009 x102010 x102011) else ((creelref_has.f k x102003 0).bind fun t104=>(rNF.j2 k t104 x102000 x102001 x102002 x102003 x102004 x102005 x102006 x102007 x102008 x102009 x102010 x102011))) else (rNF.j2 k true x102000 x102001 x102002 x102003 x102004 x102005 x102006 x102007 x102008 x102009 x102010 x102011)) else (rNF.j2 k true x102000 x102001 x102002 x102003 x102004 x102005 x102006 x102007 x102008 x102009 x102010 x102011)))
def rNF.j1:Nat→Bool→ByteArray→Int→Int→ByteArray→Int→Int→Int→ByteArray→ByteArray→Int→Int→List Int→Option (Int)
 | 0,_,_,_,_,_,_,_,_,_,_,_,_,_=>none
 | k + 1,x40,x102000,x102001,x102002,x102003,x102004,x102005,x102006,x102007,x102008,x102009,x102010,x102011=>if x40 = true then (some 3) else (if (x102011.length:Int) > 2000 then (some 1) else (some 0))
def rNF.j2:Nat→Bool→ByteArray→Int→Int→ByteArray→Int→Int→Int→ByteArray→ByteArray→Int→Int→List Int→Option (Int)
 | 0,_,_,_,_,_,_,_,_,_,_,_,_,_=>none
 | k + 1,x67,x102000,x102001,x102002,x102003,x102004,x102005,x102006,x102007,x102008,x102009,x102010,x102011=>if x67 = true then (some 3) else (if (x102003.size:Int) > 400 then (some 1) else (some 0))
end
def rNF.f (k:Nat) (a0_0:ByteArray) (a0_1:Int) (a0_2:Int) (a0_3:ByteArray) (a0_4:Int) (a0_5:Int) (a0_6:Int) (a0_7:ByteArray) (a0_8:ByteArray) (a0_9:Int) (a0_10:Int) (l0_11:List Int):Option (Int):=(creelref_PathFault.f k a0_0).bind fun t102=>(if t102 = 0 then ((creelref_MetaFault.f k a0_4 a0_5 a0_6 a0_7 a0_8 a0_9 a0_10).bind fun t103=>(if t103 = 0 then (if a0_1 = 1 then (rNF.j0 k false a0_0 a0_1 a0_2 a0_3 a0_4 a0_5 a0_6 a0_7 a0_8 a0_9 a0_10 l0_11) else (if a0_1 = 2 then (rNF.j0 k false a0_0 a0_1 a0_2 a0_3 a0_4 a0_5 a0_6 a0_7 a0_8 a0_9 a0_10 l0_11) else (rNF.j0 k (a0_1 != 3) a0_0 a0_1 a0_2 a0_3 a0_4 a0_5 a0_6 a0_7 a0_8 a0_9 a0_10 l0_11))) else (some t103))) else (some t102))
end Go.Proofs.YtlfeijjilndljaaDoor.All
end
section
namespace Go.Proofs.YtlfeijjilndljaaDoor.All
open Go.RowKit Go.Proofs.YtlfeijjilndljaaDoorW.PrintWords Go.Proofs.YtlfeijjilndljaaDoorW.PrintLast Go.Proofs.YtlfeijjilndljaaDoorW.PrintMore
open Go.Proofs.YtlfeijjilndljaaDoorW.Mine
attribute [local go_sem] gtr_string leq_string geq_string
attribute [local go_sem] max2_int min2_int max_two min_two max_three min_three max_four min_four
set_option linter.unusedVariables false
set_option linter.unusedSimpArgs false
open Go.Proofs.YtlfeijjilndljaaDoorW.MapOwn
attribute [local go_sem high] eqK32
def rTF.right (k:Nat) (x:S56):Option Int:=rNF.f k (x).f0 (x).f1 (x).f2 (x).f3 (x).f4.f0 (x).f4.f1 (x).f4.f2 (x).f4.f3 (x).f4.f4 (x).f4.f5 (x).f4.f6 (x).f5
def rTF.two (k:Nat) (l:List S56) (x:S56) (n:Nat):Option Bool:=if 0 < n then (creelref_PathOrder.f k (rd_T56 l ((n - 1:Nat):Int)).f0 x.f0).bind fun c=>some (c != -1) else some false
def rTF.up (k:Nat) (l:List S56) (x:S56) (n:Nat):Option Bool:=(creelref_PathSplit.f k x.f0).bind fun p=>(creelref_TreeFind.f k (l.take n) p.1).bind fun j=>if p.1.toList = ([]:List UInt8) then some false else if j = (n:Int) then some true else if 0 ≤ j∧j < (l.length:Int) then some ((rd_T56 l j).f1 != 2) else none
def rTF.meta (y x:S56):Bool:=((y.f4).f0 == (x.f4).f0 && ((y.f4).f1 == (x.f4).f1 && ((y.f4).f2 == (x.f4).f2 && ((y.f4).f3.toList == (x.f4).f3.toList && ((y.f4).f4.toList == (x.f4).f4.toList && ((y.f4).f5 == (x.f4).f5 && ((y.f4).f6 == (x.f4).f6)))))))
def rTF.data (y x:S56):Bool:=(strOfNums y.f5).toList == (strOfNums x.f5).toList
def rTF.l1:Nat→List S56→S56→Nat→Nat→Option Int
 | 0,_,_,_,_=>none
 | k + 1,l,x,n,j=>if j < n then (if (rd_T56 l (j:Int)).f2 = x.f2 then (if rTF.meta (rd_T56 l (j:Int)) x = true then (if rTF.data (rd_T56 l (j:Int)) x = true then rTF.l1 k l x n (j + 1) else some 11) else some 11) else rTF.l1 k l x n (j + 1)) else some 0
def rTF.step (k:Nat) (l:List S56) (x:S56) (n:Nat):Option Int:=(rTF.right k x).bind fun e=>if e = 0 then ((rTF.two k l x n).bind fun t=>if t = true then some 6 else (rTF.up k l x n).bind fun u=>if u = true then some 10 else if x.f2 = 0 then some 0 else rTF.l1 k l x n 0) else some e
def rTF.l0:Nat→List S56→Nat→Option Int
 | 0,_,_=>none
 | k + 1,l,n=>if n < l.length then (rTF.step k l (rd_T56 l (n:Int)) n).bind fun e=>if e = 0 then rTF.l0 k l (n + 1) else some e else some 0
def rTF.f (k:Nat) (l0:List S56):Option Int:=if 40 < l0.length then some 1 else rTF.l0 k l0 0
end Go.Proofs.YtlfeijjilndljaaDoor.All
end
section
namespace Go.Proofs.YtlfeijjilndljaaDoor.Q
set_option linter.unusedVariables false
set_option linter.unusedSimpArgs false
open Go.RowKit Go.Proofs.YtlfeijjilndljaaDoor.All Go.Proofs.YtlfeijjilndljaaDoorW.PrintWords Go.Proofs.YtlfeijjilndljaaDoorW.PrintLast Go.Proofs.YtlfeijjilndljaaDoorW.PrintMore Go.Proofs.YtlfeijjilndljaaDoorW.PureBase
def restR (kind same:Int) (t:ByteArray) (n:Nat):Int :=
  if kind = 1 then (if t.toList ≠ [] ∨ same < 0 then 3 else if n > 2000 then 1 else 0)
  else if kind = 2 then (if n > 0 ∨ same ≠ 0 ∨ t.toList ≠ [] then 3 else 0)
  else if kind = 3 then (if n > 0 ∨ same ≠ 0 ∨ t.toList = [] ∨ t.data.toList.contains 0 = true then 3 else if t.size > 400 then 1 else 0)
  else 2
def nodeR (p:ByteArray) (kind same:Int) (t:ByteArray) (a b c:Int) (u g:ByteArray) (s n:Int) (d:Nat):Int :=
  if pathR p = 0 then (if wrong a b c u g s n = 0 then restR kind same t d else wrong a b c u g s n) else pathR p
abbrev Node:=S56
def nd (l:List Node) (i:Nat):Node:=l.getD i z56
theorem rd_nd (l:List Node) (i:Nat):rd_T56 l (i:Int) = nd l i:=by unfold rd_T56 nd;rw [Int.toNat_natCast]
theorem nd_mem (l:List Node) (i:Nat) (h:i < l.length):nd l i ∈ l:=by
  unfold nd
  rw [List.getD_eq_getElem?_getD,List.getElem?_eq_getElem h]
  exact List.getElem_mem h
theorem nd_get (l:List Node) (i:Nat) (h:i < l.length):l[i] = nd l i:=by
  unfold nd
  rw [List.getD_eq_getElem?_getD,List.getElem?_eq_getElem h]
  rfl
theorem take_nd (l:List Node) (n:Nat) (h:n < l.length):l.take (n + 1) = l.take n ++ [nd l n]:=by
  rw [List.take_succ_eq_append_getElem h,nd_get l n h]
def okN (x:Node):Prop:=x.f0.size ≤ 140737488351232∧x.f3.size ≤ 140737488351232∧x.f4.f3.size ≤ 140737488351232∧x.f4.f4.size ≤ 140737488351232∧(Lit.int .i64 x.f2).wf = true
def nodeX (x:Node):Int:=nodeR x.f0 x.f1 x.f2 x.f3 x.f4.f0 x.f4.f1 x.f4.f2 x.f4.f3 x.f4.f4 x.f4.f5 x.f4.f6 x.f5.length
def alikeB (y x:Node):Bool:=rTF.meta y x && rTF.data y x
def akey (y:Node):Int × Int × Int × List UInt8 × List UInt8 × Int × Int × List UInt8:=(y.f4.f0,y.f4.f1,y.f4.f2,y.f4.f3.toList,y.f4.f4.toList,y.f4.f5,y.f4.f6,(strOfNums y.f5).toList)
def isP (s:ByteArray) (y:Node):Bool:=decide (y.f0.toList = s.toList)
def findP (l:List Node) (s:ByteArray):Nat:=l.findIdx (isP s)
def findR (l:List Node) (s:ByteArray):Int × Int:=if findP l s < l.length then ((findP l s:Int),0) else (0,5)
def twoR (l:List Node) (n:Nat) (x:Node):Bool:=if 0 < n then decide (0 ≤ cmpP (nd l (n - 1)).f0 x.f0) else false
def upR (l:List Node) (n:Nat) (x:Node):Bool:=if (upOf x.f0).toList = ([]:List UInt8) then false else if findP (l.take n) (upOf x.f0) < n then ((nd l (findP (l.take n) (upOf x.f0))).f1 != 2) else true
def sameR (l:List Node) (n:Nat) (x:Node):Bool:=if x.f2 = 0 then false else (l.take n).any fun y=>decide (y.f2 = x.f2) && !alikeB y x
def stepR (l:List Node) (n:Nat) (x:Node):Int:=if nodeX x = 0 then (if twoR l n x = true then 6 else if upR l n x = true then 10 else if sameR l n x = true then 11 else 0) else nodeX x
def treeFrom (l:List Node):Nat→Nat→Int
  | 0,_=>0
  | d + 1,n=>if stepR l n (nd l n) = 0 then treeFrom l d (n + 1) else stepR l n (nd l n)
def treeR (l:List Node):Int:=if 40 < l.length then 1 else treeFrom l l.length 0
def MapRel (l:List Node) (n:Nat) (m:List (Int × Node)):Prop:=∀ s,s ≠ 0→Go.Proofs.YtlfeijjilndljaaDoorW.MapOwn.get m s = (l.take n).find? (fun y=>decide (y.f2 = s))
def AllAlike (l:List Node) (n:Nat):Prop:=∀ y ∈ l.take n,∀ z ∈ l.take n,y.f2 = z.f2→y.f2 ≠ 0→akey y = akey z
theorem set_app (a:List S56) (x y:S56):(a ++ [x]).set a.length y = a ++ [y]:=by
  rw [List.set_append_right _ _ (Nat.le_refl _),Nat.sub_self];rfl
theorem copy_ref (l:List S56) (hl:l.length ≤ 2000000) (hd:∀ i,i < l.length→(nd l i).f5.length ≤ 140737488351232) (d:Nat):∀ (i:Nat),l.length - i = d→i ≤ l.length→Ev (fun k=>creelref_TreeCopy.l0 k l (l.take i) (i:Int)) l:=by
  induction d with
  | zero =>
    intro i hd' hi
    rw [List.take_of_length_le (by omega)]
    refine Ev.step (f:=fun _=>some l) (fun k=>?_) (Ev.now _)
    simp only [creelref_TreeCopy.l0]
    rw [if_neg (by omega)]
  | succ d ih =>
    intro i hd' hi
    have hw:wrap64 ((i:Int) + 1) = ((i + 1:Nat):Int):=by rw [wrap_is (by omega) (by omega)];omega
    have hln:(l.take i).length = i:=by rw [List.length_take];omega
    have hdi:=hd i (by omega)
    have hrd:rd_T56 (l.take i ++ [nd l i]) (i:Int) = nd l i:=by
      rw [rd_nd]
      unfold nd
      rw [List.getD_eq_getElem?_getD,List.getElem?_append_right (by omega),hln,Nat.sub_self];rfl
    refine Ev.step (f:=fun k=>creelref_TreeCopy.l0 k l (l.take (i + 1)) ((i + 1:Nat):Int)) (fun k=>?_) (ih (i + 1) (by omega) (by omega))
    simp only [creelref_TreeCopy.l0,Option.bind_some,List.nil_append,List.length_nil]
    rw [if_pos (by omega),if_pos (by omega),if_pos (by omega),rd_nd,if_pos (by omega),if_pos (by simp;omega),hw,hrd]
    rw [show (i:Int).toNat = (l.take i).length by omega,set_app,take_nd l i (by omega)]
theorem node_same (x:S56) (h:x.f5.length ≤ 140737488351232):creellaw_sameTree.eq x x = some true:=by
  unfold creellaw_sameTree.eq creellaw_sameNode.f creellaw_sameBytes.f
  simp
theorem tree_same (l:List S56) (h:∀ y ∈ l,y.f5.length ≤ 140737488351232):creellaw_sameTree.l0 l l = some true:=by
  induction l with
  | nil=>rfl
  | cons x xs ih =>
    show ((creellaw_sameTree.eq x x).bind fun b=>if b = true then creellaw_sameTree.l0 xs xs else some false) = _
    rw [node_same x (h x (List.mem_cons_self ..))]
    exact ih (fun y hy=>h y (List.mem_cons_of_mem _ hy))
theorem good_data (l:List S56) (n:Nat) (h:∀ y ∈ l,y.f5.length ≤ n):(l.all fun x=>decide (x.f5.length ≤ 140737488355327)) = true ∨ 140737488355327 < n:=by
  by_cases c:140737488355327 < n
  · exact Or.inr c
  · left
    rw [List.all_eq_true]
    intro x hx
    exact decide_eq_true (by have:=h x hx;omega)
theorem copy_both (l:List S56) (hl:l.length ≤ 2000000) (hd:∀ y ∈ l,y.f5.length ≤ 140737488351232):tree_Copy.f l = some l∧Ev (fun k=>creelref_TreeCopy.f k l) l:=by
  refine ⟨?_,copy_ref l hl (fun i hi=>hd _ (nd_mem l i hi)) l.length 0 (by omega) (by omega)⟩
  unfold tree_Copy.f
  rw [if_pos ⟨by omega,(good_data l 140737488351232 hd).resolve_right (by omega)⟩]
theorem same_self (l:List S56) (hl:l.length ≤ 140737488351232) (hd:∀ y ∈ l,y.f5.length ≤ 140737488351232):creellaw_sameTree.f l l = some true:=by
  unfold creellaw_sameTree.f
  rw [if_pos rfl,if_pos hl,tree_same l hd]
end Go.Proofs.YtlfeijjilndljaaDoor.Q
end
section
namespace Go.Proofs.YtlfeijjilndljaaDoor.Q
set_option linter.unusedVariables false
set_option linter.unusedSimpArgs false
open Go.RowKit Go.Proofs.YtlfeijjilndljaaDoor.All Go.Proofs.YtlfeijjilndljaaDoorW.PrintWords Go.Proofs.YtlfeijjilndljaaDoorW.PrintLast Go.Proofs.YtlfeijjilndljaaDoorW.PrintMore Go.Proofs.YtlfeijjilndljaaDoorW.PureBase
abbrev GN:=S56
theorem ent_all (l:List Entry):∀ d n,entFrom l d n = 0→∀ j,n ≤ j→j < n + d→stepE l j (ne l j) = 0
  | 0,n,_,j,h1,h2=>absurd h2 (by omega)
  | d + 1,n,h,j,h1,h2=>by
    unfold entFrom at h
    by_cases c:stepE l n (ne l n) = 0
    · rw [if_pos c] at h
      by_cases e:j = n
      · subst e;exact c
      · exact ent_all l d (n + 1) h j (by omega) (by omega)
    · rw [if_neg c] at h
      exact absurd h c
structure PlanOk (l:List Entry):Prop where
  len:l.length ≤ 40
  step:∀ j,j < l.length→stepE l j (ne l j) = 0
theorem planOk_of (l:List Entry) (h:entriesR l = 0):PlanOk l:=by
  unfold entriesR at h
  by_cases c:40 < l.length
  · rw [if_pos c] at h;cases h
  · rw [if_neg c] at h
    exact ⟨by omega,fun j hj=>ent_all l l.length 0 h j (by omega) (by omega)⟩
section
variable {l:List Entry} (hp:PlanOk l)
include hp
theorem PlanOk.inj {i j:Nat} (hi:i < l.length) (hj:j < l.length) (e:(ne l i).f0.toList = (ne l j).f0.toList):i = j:=by
  rcases Nat.lt_trichotomy i j with h|h|h
  · exact absurd (toList_inj e) (cmpP_ne (rising_e l l.length hp.step i j h hj))
  · exact h
  · exact absurd (toList_inj e).symm (cmpP_ne (rising_e l l.length hp.step j i h hi))
theorem PlanOk.link {j:Nat} (hj:j < l.length) (h4:(ne l j).f1 = 4):findE (l.take j) (ne l j).f2.toList < j∧(ne l (findE (l.take j) (ne l j).f2.toList)).f1 = 1∧metaE (ne l (findE (l.take j) (ne l j).f2.toList)) (ne l j) = true:=by
  have h:=(stepE_zero l j _ (hp.step j hj)).2.2.2
  unfold linkE at h
  rw [if_pos h4] at h
  by_cases c:findE (l.take j) (ne l j).f2.toList < j
  · rw [if_pos c] at h
    by_cases d:(ne l (findE (l.take j) (ne l j).f2.toList)).f1 = 1
    · rw [if_pos d] at h
      exact ⟨c,d,by simpa using h⟩
    · rw [if_neg d] at h;cases h
  · rw [if_neg c] at h;cases h
theorem PlanOk.at_ {j:Nat} (hj:j ≤ l.length) (s:List UInt8) (h:findE (l.take j) s < j):(ne l (findE (l.take j) s)).f0.toList = s:=by
  have _h0:=hp.len
  have hlen:(l.take j).length = j:=by simp;omega
  have h2:findE (l.take j) s < (l.take j).length:=by omega
  have:=List.findIdx_getElem (p:=isE s) (xs:=l.take j) (w:=h2)
  have h3:=of_decide_eq_true this
  have h4:(ne (l.take j) (findE (l.take j) s)).f0.toList = s:=by rw [← ne_get _ _ h2];exact h3
  rw [ne_take l j _ h] at h4
  exact h4
theorem PlanOk.whole {j:Nat} (hj:j ≤ l.length) (s:List UInt8) (h:findE (l.take j) s < j):findE l s = findE (l.take j) s:=by
  refine findE_at l s _ (by omega) (hp.at_ hj s h) (fun q hq e=>?_)
  have:=hp.inj (i:=q) (j:=findE (l.take j) s) (by omega) (by omega) (by rw [e,hp.at_ hj s h])
  omega
theorem PlanOk.file {j:Nat} (hj:j < l.length) (h1:(ne l j).f1 = 1):(ne l j).f2 = (⟨#[]⟩:ByteArray):=by
  have h:=(stepE_zero l j _ (hp.step j hj)).1
  unfold entX entryR restE midE at h
  rw [h1] at h
  split at h
  · split at h
    · rw [if_neg (by omega)] at h
      split at h
      · cases h
      · rename_i h0 _ c
        have:((ne l j).f2.toList != ([]:List UInt8)) = false:=by
          revert c
          cases ((ne l j).f2.toList != ([]:List UInt8)) <;> simp
        have h3:(ne l j).f2.toList = []:=by simpa using this
        exact toList_inj (h3.trans (by rw [toList_data] <;> rfl))
    · contradiction
  · contradiction
end
theorem meta_eq {y x:Entry} (h:metaE y x = true):y.f3 = x.f3:=by
  unfold metaE creelref_EntriesFault.meta at h
  simp only [Bool.and_eq_true,beq_iff_eq] at h
  obtain ⟨h0,h1,h2,h3,h4,h5,h6⟩:=h
  have e3:=toList_inj h3
  have e4:=toList_inj h4
  cases hy:y.f3
  cases hx:x.f3
  rw [hy,hx] at h0 h1 h2 e3 e4 h5 h6
  simp only at h0 h1 h2 e3 e4 h5 h6
  subst h0 h1 h2 e3 e4 h5 h6
  rfl
def tgt (l:List Entry) (j:Nat):Nat:=findE l (ne l j).f2.toList
def hasK (l:List Entry) (i:Nat) (x:Entry):Bool:=(l.take i).any (fun y=>decide (y.f1 = 4∧y.f2.toList = x.f0.toList∧x.f1 = 1))
def smG (l:List Entry) (i j:Nat):Int:=if hasK l i (ne l j) = true then (j:Int) + 1 else 0
def ndG (l:List Entry) (i j:Nat):GN:=if (ne l j).f1 = 4 then creelref_Grown.lnk (ne l j) (ne l (tgt l j)) ((tgt l j:Int) + 1) else creelref_Grown.nod (ne l j) (smG l i j)
def outG (l:List Entry) (i n:Nat):List GN:=(List.range n).map (ndG l i)
theorem outG_len (l:List Entry) (i n:Nat):(outG l i n).length = n:=by unfold outG;simp
theorem outG_at (l:List Entry) (i n j:Nat) (h:j < n):rd_T56 (outG l i n) (j:Int) = ndG l i j:=by
  unfold rd_T56 outG
  rw [Int.toNat_natCast,List.getD_eq_getElem?_getD,List.getElem?_map,List.getElem?_range h]
  rfl
theorem outG_next (l:List Entry) (i n:Nat):outG l i (n + 1) = outG l i n ++ [ndG l i n]:=by
  unfold outG
  rw [List.range_succ,List.map_append];rfl
theorem hasK_next (l:List Entry) (i:Nat) (hi:i < l.length) (x:Entry):hasK l (i + 1) x = (hasK l i x || decide ((ne l i).f1 = 4∧(ne l i).f2.toList = x.f0.toList∧x.f1 = 1)):=by
  unfold hasK
  rw [take_ne l i hi,List.any_append]
  simp
theorem ndG_keep (l:List Entry) (i j:Nat) (hi:i < l.length) (h:¬ ((ne l i).f1 = 4∧(ne l i).f2.toList = (ne l j).f0.toList∧(ne l j).f1 = 1)):ndG l (i + 1) j = ndG l i j:=by
  unfold ndG smG
  rw [hasK_next l i hi,decide_eq_false h,Bool.or_false]
def MapRelG (l:List Entry) (n:Nat) (m:List (List UInt8 × Int)):Prop:=∀ s,Go.Proofs.YtlfeijjilndljaaDoorW.MapOwn.get m s = if findE (l.take n) s < n then some (findE (l.take n) s:Int) else none
theorem mapG_next (l:List Entry) (n:Nat) (hn:n < l.length) (m:List (List UInt8 × Int)) (hm:MapRelG l n m) (hb:∀ j,j < n + 1→stepE l j (ne l j) = 0):MapRelG l (n + 1) (((ne l n).f0.data.toList,(n:Int)) :: m):=by
  intro s
  by_cases e:(ne l n).f0.toList = s
  · subst e
    rw [← toList_data,Go.Proofs.YtlfeijjilndljaaDoorW.MapOwn.get_same,find_new l n hn hb,if_pos (by omega)]
  · rw [← toList_data,Go.Proofs.YtlfeijjilndljaaDoorW.MapOwn.get_other _ _ e,hm s]
    obtain ⟨h1,h2⟩:=find_old l n hn s e
    by_cases h:findE (l.take n) s < n
    · rw [if_pos h,if_pos (h1.2 h),h2 h]
    · rw [if_neg h,if_neg (fun h'=>h (h1.1 h'))]
theorem set_map (f:Nat→GN) (n t:Nat) (y:GN):((List.range n).map f).set t y = (List.range n).map (fun j=>if j = t then y else f j):=by
  apply List.ext_getElem?
  intro j
  by_cases hj:j < n
  · by_cases e:t = j
    · subst e
      rw [List.getElem?_set_self (by simp;omega),List.getElem?_map,List.getElem?_range hj]
      simp
    · rw [List.getElem?_set_ne e,List.getElem?_map,List.getElem?_map,List.getElem?_range hj]
      simp [Ne.symm e]
  · rw [List.getElem?_eq_none (by simp;omega),List.getElem?_eq_none (by simp;omega)]
theorem prog_grow {l:List Entry} (hp:PlanOk l) (hg:∀ y ∈ l,okE y) (d:Nat):∀ i m,i + d = l.length→MapRelG l i m→plan_Tree.run l d i m (outG l i i) = some (outG l l.length l.length):=by
  induction d with
  | zero =>
    intro i m hd hm
    obtain rfl:i = l.length:=by omega
    rfl
  | succ d ih =>
    intro i m hd hm
    have hi:i < l.length:=by omega
    have hl:=hp.len
    obtain ⟨g1,g2,_,_⟩:=hg _ (ne_mem l i hi)
    have hm':=mapG_next l i hi m hm (fun j hj=>hp.step j (by omega))
    rw [plan_Tree.run,rd_ne,if_pos ⟨by unfold maxLen;omega,by unfold maxLen;omega,by rw [outG_len];omega⟩]
    by_cases c:(ne l i).f1 = 4
    · rw [if_pos c]
      obtain ⟨k1,k2,k3⟩:=hp.link hi c
      have hw:=hp.whole (by omega:i ≤ l.length) _ k1
      have ha:=hp.at_ (by omega:i ≤ l.length) _ k1
      rw [← toList_data,hm,if_pos k1]
      rw [← hw] at k1 k2 k3 ha ⊢
      simp only [Option.bind_some]
      rw [if_pos ⟨by omega,by rw [outG_len];omega⟩,Int.toNat_natCast,outG_at l i i _ k1]
      rw [show (outG l i i).set (findE l (ne l i).f2.toList) (plan_Tree.sam (ndG l i (findE l (ne l i).f2.toList)) ((findE l (ne l i).f2.toList:Int) + 1)) ++ [plan_Tree.ren (ndG l i (findE l (ne l i).f2.toList)) ((findE l (ne l i).f2.toList:Int) + 1) (ne l i).f0] = outG l (i + 1) (i + 1) from ?_]
      · exact ih (i + 1) _ (by omega) hm'
      · have hn4:¬ (ne l (findE l (ne l i).f2.toList)).f1 = 4:=by rw [k2];decide
        have he:=hp.file (by omega) k2
        have e3:=meta_eq k3
        rw [outG_next]
        congr 1
        · unfold outG
          rw [set_map]
          apply List.map_congr_left
          intro j hj
          rw [List.mem_range] at hj
          by_cases e:j = findE l (ne l i).f2.toList
          · rw [if_pos e,← e]
            unfold ndG
            rw [e,if_neg hn4,if_neg hn4]
            unfold smG
            rw [hasK_next l i hi,decide_eq_true ⟨c,ha.symm,k2⟩,Bool.or_true,if_pos rfl]
            rfl
          · rw [if_neg e]
            refine (ndG_keep l i j hi (fun h=>e ?_)).symm
            exact hp.inj (by omega) (by omega) (by rw [ha];exact h.2.1.symm)
        · congr 1
          unfold ndG
          rw [if_neg hn4,if_pos c]
          unfold plan_Tree.ren creelref_Grown.nod creelref_Grown.lnk tgt
          simp only
          rw [k2,he,e3]
    · rw [if_neg c]
      rw [show outG l i i ++ [plan_Tree.nod (ne l i)] = outG l (i + 1) (i + 1) from ?_]
      · exact ih (i + 1) _ (by omega) hm'
      · rw [outG_next]
        congr 1
        · unfold outG
          apply List.map_congr_left
          intro j hj
          exact (ndG_keep l i j hi (fun h=>c h.1)).symm
        · congr 1
          unfold ndG
          rw [if_neg c]
          have hno:hasK l (i + 1) (ne l i) = false:=by
            rw [hasK_next l i hi,decide_eq_false (fun h=>c h.1),Bool.or_false]
            refine Bool.eq_false_iff.mpr (fun h=>?_)
            unfold hasK at h
            rw [List.any_eq_true] at h
            obtain ⟨y,hy,hd⟩:=h
            obtain ⟨y4,y2,y1⟩:=of_decide_eq_true hd
            obtain ⟨q,hq,rfl⟩:=List.mem_iff_getElem.1 hy
            have hq':q < i:=by simp at hq;omega
            have eq:(l.take i)[q] = ne l q:=by rw [ne_get _ _ hq,ne_take l i q hq']
            rw [eq] at y4 y2
            obtain ⟨k1,k2,k3⟩:=hp.link (by omega) y4
            have ha:=hp.at_ (by omega:q ≤ l.length) _ k1
            have:=hp.inj (i:=findE (l.take q) (ne l q).f2.toList) (j:=i) (by omega) hi (by rw [ha,y2])
            omega
          unfold smG
          rw [hno]
          rfl
theorem sm_is (l:List Entry) (x:Entry) (v:Int) (d:Nat):∀ j s,j + d = l.length→creelref_Grown.sm x v l d j s = if ((l.drop j).any (fun y=>decide (y.f1 = 4∧y.f2.toList = x.f0.toList∧x.f1 = 1))) = true then v else s:=by
  induction d with
  | zero =>
    intro j s h
    rw [List.drop_of_length_le (by omega)]
    rfl
  | succ d ih =>
    intro j s h
    have hj:j < l.length:=by omega
    rw [creelref_Grown.sm,rd_ne,ih (j + 1) _ (by omega),List.drop_eq_getElem_cons hj,ne_get l j hj,List.any_cons]
    by_cases c:(ne l j).f1 = 4∧(ne l j).f2.toList = x.f0.toList∧x.f1 = 1
    · rw [if_pos c,decide_eq_true c,Bool.true_or,if_pos rfl]
      split <;> rfl
    · rw [if_neg c,decide_eq_false c,Bool.false_or]
theorem node_is {l:List Entry} (hp:PlanOk l) (i:Nat) (hi:i < l.length):Ev (fun k=>creelref_Grown.node k l (ne l i) i) (ndG l l.length i):=by
  have hl:=hp.len
  unfold creelref_Grown.node ndG
  by_cases c:(ne l i).f1 = 4
  · rw [if_pos c]
    refine Ev.ifp c ?_
    obtain ⟨k1,k2,k3⟩:=hp.link hi c
    have hw:=hp.whole (by omega:i ≤ l.length) _ k1
    have he:Ev (fun k=>creelref_EntryAt.f k l (ne l i).f2) (findE l (ne l i).f2.toList:Int):=⟨50,fun k hk=>at_is l _ (by omega) k (by omega)⟩
    refine Ev.bind he ?_
    rw [← hw] at k1
    refine Ev.ifp ⟨by omega,by omega⟩ ?_
    rw [rd_ne,wrap_is (by omega) (by omega)]
    exact Ev.now _
  · rw [if_neg c]
    refine Ev.ifn c ?_
    rw [sm_is l _ _ l.length 0 0 (by omega)]
    unfold smG hasK
    rw [List.take_length]
    exact Ev.now _
theorem ref_grow {l:List Entry} (hp:PlanOk l) (d:Nat):∀ i,i + d = l.length→Ev (fun k=>creelref_Grown.run k l d i (outG l l.length i)) (outG l l.length l.length):=by
  induction d with
  | zero =>
    intro i h
    obtain rfl:i = l.length:=by omega
    exact Ev.now _
  | succ d ih =>
    intro i h
    have hl:=hp.len
    simp only [creelref_Grown.run]
    rw [rd_ne]
    refine Ev.bind (node_is hp i (by omega)) (Ev.ifp (by rw [outG_len];omega) ?_)
    rw [← outG_next]
    exact ih (i + 1) (by omega)
theorem ndG_data (l:List Entry) (hd:∀ y ∈ l,y.f4.length ≤ 140737488351232) (i j:Nat) (hj:j < l.length) (ht:(ne l j).f1 = 4→tgt l j < l.length):(ndG l i j).f5.length ≤ 140737488351232:=by
  unfold ndG
  split
  · rename_i h
    exact hd _ (ne_mem l _ (ht h))
  · exact hd _ (ne_mem l _ hj)
theorem grow_both (l:List Entry) (hg:∀ y ∈ l,okE y) (hd:∀ y ∈ l,y.f4.length ≤ 140737488351232) :
    ∃ r,Ev (fun k=>plan_Tree.f k l) r∧Ev (fun k=>creelref_Grown.f k l) r∧r.1.length ≤ 40∧∀ y ∈ r.1,y.f5.length ≤ 140737488351232:=by
  have e1:=prog_entries l hg
  have e2:=ref_entries l hg
  by_cases c:entriesR l = 0
  · have hp:=planOk_of l c
    have hl:=hp.len
    have hdd:∀ y ∈ outG l l.length l.length,y.f5.length ≤ 140737488351232:=by
      intro y hy
      unfold outG at hy
      obtain ⟨j,hj,rfl⟩:=List.mem_map.1 hy
      rw [List.mem_range] at hj
      refine ndG_data l hd _ j hj (fun h4=>?_)
      obtain ⟨k1,_⟩:=hp.link hj h4
      have hw:=hp.whole (by omega:j ≤ l.length) _ k1
      unfold tgt
      omega
    have hc:=copy_both (outG l l.length l.length) (by rw [outG_len];omega) hdd
    refine ⟨(outG l l.length l.length,0),?_,?_,by rw [outG_len];omega,hdd⟩
    · unfold plan_Tree.f
      refine Ev.bind e1 (Ev.ifp c ?_)
      rw [show plan_Tree.run l l.length 0 [] [] = some (outG l l.length l.length) from prog_grow hp hg l.length 0 [] (by omega) (fun s=>by rw [if_neg (Nat.not_lt_zero _)];rfl)]
      simp only [Option.bind_some]
      rw [hc.1]
      exact Ev.now _
    · unfold creelref_Grown.f
      refine Ev.bind e2 (Ev.ifp c (Ev.bind (ref_grow hp l.length 0 (by omega)) (Ev.bind hc.2 (Ev.now _))))
  · refine ⟨([],entriesR l),?_,?_,Nat.zero_le _,fun y hy=>by cases hy⟩
    · unfold plan_Tree.f
      exact Ev.bind e1 (Ev.ifn c (Ev.now _))
    · unfold creelref_Grown.f
      exact Ev.bind e2 (Ev.ifn c (Ev.now _))
end Go.Proofs.YtlfeijjilndljaaDoor.Q
end
section
namespace Go.Proofs.YtlfeijjilndljaaDoor.PuPlanGrows
set_option linter.unusedVariables false
set_option linter.unusedSimpArgs false
open Go.RowKit Go.Proofs.YtlfeijjilndljaaDoor.All Go.Proofs.YtlfeijjilndljaaDoor.GPlanGrows Go.Proofs.YtlfeijjilndljaaDoorW.PrintWords Go.Proofs.YtlfeijjilndljaaDoorW.PrintLast Go.Proofs.YtlfeijjilndljaaDoorW.PrintMore Go.Proofs.YtlfeijjilndljaaDoorW.PureBase Go.Proofs.YtlfeijjilndljaaDoor.Q
theorem pure:Pure:=by
  intro l hl
  have hg:∀ y ∈ l,okE y:=fun y hy=>by
    obtain ⟨hp,_,ht,gm,_⟩:=hl.2 y hy
    obtain ⟨_,_,_,hu,hv,_⟩:=gm
    exact ⟨hp,ht,hu,hv⟩
  have hd:∀ y ∈ l,y.f4.length ≤ 140737488351232:=fun y hy=>by
    obtain ⟨_,_,_,_,hz⟩:=hl.2 y hy
    have:=hz.1
    omega
  obtain ⟨r,h1,h2,h3,h4⟩:=grow_both l hg hd
  have hs:=same_self r.1 (by omega) h4
  have E:Ev (fun k=>creellaw_PlanGrows.f k l) true:=by
    unfold creellaw_PlanGrows.f
    refine Ev.bind h1 (Ev.bind h2 ?_)
    rw [hs]
    simp only [Option.bind_some]
    refine Ev.ifp (by trivial) (Ev.const ?_)
    simp
  obtain ⟨K,hK⟩:=E
  exact ⟨K,hK K (Nat.le_refl _)⟩
end Go.Proofs.YtlfeijjilndljaaDoor.PuPlanGrows
end
section
namespace Go.Proofs.YtlfeijjilndljaaDoor.planGrows
open Go.ChangeShapes Go.WideShapes Go.ChangeAt Go.RowKit Go.Proofs.YtlfeijjilndljaaDoorW.PrintWords Go.Proofs.YtlfeijjilndljaaDoorW.Opens
open Go.ChangeMaps (open_string shut_string)
set_option linter.unusedVariables false
theorem own:ownKnob Tryd.prog.godebug = none:=by kernel_rfl
theorem laidOut:laidOutB Tryd.prog = true:=by kernel_rfl
set_option maxRecDepth 100000 in
theorem contract (H:Type) (enc:TypeId × Value→H) (W:World) (base:Nat) (args:Array Value) (ds gs:List (DataW H)) (before:List MemPlace)
    (hval0:∀ (j:Nat) t v,Tryd.f3.params[j]? = some t→args[j]? = some v→Value.okWide Tryd.prog W .any base t v)
    (hW:DataW.Whole enc Tryd.prog Tryd.f3.params.toList Rows.planGrowsSpec.vars false W args.toList ds gs before)
    (hsz0:(DataW.weightsEach Tryd.prog (Tryd.f3.params.toList ++ Rows.planGrowsSpec.plain.varTypes Tryd.prog) (ds ++ gs)).all (· ≤ reachBytes) = true) (hL:laidMetH Tryd.prog Rows.planGrowsRow.laid W) (hsh:W.ShapedOpen Tryd.prog) :
    Calls Tryd.prog 3 args W fun e W'=>∃ v,e = .returned v∧Rows.planGrowsSpec.post enc Tryd.prog Tryd.f3 false true false false W args v W':=by
  have hsz:=hsz0
  have hval:=hval0
  have hW':=hW
  obtain ⟨p,q,hA0,hV,rfl,hfz,hnd⟩:=hW
  have hA:DataW.TrodAll enc Tryd.prog W 0 (fun _=>true) true Tryd.f3.params.toList args.toList ds p:=hA0
  rw [Tryd.params3] at hA hval hsz
  obtain ⟨v0,vs0,d0,ds0,p0,q0,hargs,rfl,rfl,h0,r0⟩:=trodAll_cons hA
  obtain ⟨rfl,rfl,rfl⟩:=trodAll_nil r0
  obtain rfl:args = #[v0]:=by cases args;simp_all
  obtain ⟨rfl,rfl⟩:=trodVars_none hV
  obtain ⟨B0,n0,C0,rfl⟩:=okWide_slice Tryd.underlying22 (hval 0 22 v0 rfl rfl)
  have m0:=h0
  have lt0:∀ x ∈ p0,x.block < W.heap.size:=by obtain ⟨m,hm⟩:=m0;exact DataW.trod_lt m _ _ _ hm
  obtain ⟨x0,⟨A0,c0,e0,hc0,hr0⟩,g0⟩:=opens_at (opens_slice (B:=136) Tryd.underlying22 (by kernel_rfl) (by kernel_rfl) GPlanGrows.opens35) hsz (j:=0) rfl rfl h0
  simp only [Value.cells,List.cons.injEq,Value.slice.injEq,and_true] at e0
  obtain ⟨rfl,rfl,rfl⟩:=e0
  clear hA0 hval0 hsz0 hsz
  refine (GPlanGrows.walk PuPlanGrows.pure x0 W g0 hr0 hc0).mono fun e W' ⟨he,bel⟩=>?_
  subst he
  exact ⟨_,rfl,_,_,_,[],_,[],hW',trodAll_mk1 (shut_bool Tryd.underlying4 _),(trodAll_cons_mk (Below.trod laidOut (by kernel_rfl) (of_decide_eq_true (by kernel_rfl)) m0 bel lt0) trodAll_mk0),rfl,bel.frame _,fun h=>by cases h⟩
set_option maxRecDepth 100000 in
noncomputable def laidWorld (os:Os):World :=
  { World.holding Tryd.prog os ⟨#[],#[],[]⟩ with heap:=(((World.holding Tryd.prog os ⟨#[],#[],[]⟩).heap.modify 5 fun
      | .cells _ t frozen => .cells #[.int .u8 128,.int .u8 191,.int .u8 160,.int .u8 191,.int .u8 128,.int .u8 159,.int .u8 144,.int .u8 191,.int .u8 128,.int .u8 143,.int .u8 0,.int .u8 0,.int .u8 0,.int .u8 0,.int .u8 0,.int .u8 0,.int .u8 0,.int .u8 0,.int .u8 0,.int .u8 0,.int .u8 0,.int .u8 0,.int .u8 0,.int .u8 0,.int .u8 0,.int .u8 0,.int .u8 0,.int .u8 0,.int .u8 0,.int .u8 0,.int .u8 0,.int .u8 0] t frozen
      | o=>o).modify 4 fun
      | .cells _ t frozen => .cells #[.int .u8 240,.int .u8 240,.int .u8 240,.int .u8 240,.int .u8 240,.int .u8 240,.int .u8 240,.int .u8 240,.int .u8 240,.int .u8 240,.int .u8 240,.int .u8 240,.int .u8 240,.int .u8 240,.int .u8 240,.int .u8 240,.int .u8 240,.int .u8 240,.int .u8 240,.int .u8 240,.int .u8 240,.int .u8 240,.int .u8 240,.int .u8 240,.int .u8 240,.int .u8 240,.int .u8 240,.int .u8 240,.int .u8 240,.int .u8 240,.int .u8 240,.int .u8 240,.int .u8 240,.int .u8 240,.int .u8 240,.int .u8 240,.int .u8 240,.int .u8 240,.int .u8 240,.int .u8 240,.int .u8 240,.int .u8 240,.int .u8 240,.int .u8 240,.int .u8 240,.int .u8 240,.int .u8 240,.int .u8 240,.int .u8 240,.int .u8 240,.int .u8 240,.int .u8 240,.int .u8 240,.int .u8 240,.int .u8 240,.int .u8 240,.int .u8 240,.int .u8 240,.int .u8 240,.int .u8 240,.int .u8 240,.int .u8 240,.int .u8 240,.int .u8 240,.int .u8 240,.int .u8 240,.int .u8 240,.int .u8 240,.int .u8 240,.int .u8 240,.int .u8 240,.int .u8 240,.int .u8 240,.int .u8 240,.int .u8 240,.int .u8 240,.int .u8 240,.int .u8 240,.int .u8 240,.int .u8 240,.int .u8 240,.int .u8 240,.int .u8 240,.int .u8 240,.int .u8 240,.int .u8 240,.int .u8 240,.int .u8 240,.int .u8 240,.int .u8 240,.int .u8 240,.int .u8 240,.int .u8 240,.int .u8 240,.int .u8 240,.int .u8 240,.int .u8 240,.int .u8 240,.int .u8 240,.int .u8 240,.int .u8 240,.int .u8 240,.int .u8 240,.int .u8 240,.int .u8 240,.int .u8 240,.int .u8 240,.int .u8 240,.int .u8 240,.int .u8 240,.int .u8 240,.int .u8 240,.int .u8 240,.int .u8 240,.int .u8 240,.int .u8 240,.int .u8 240,.int .u8 240,.int .u8 240,.int .u8 240,.int .u8 240,.int .u8 240,.int .u8 240,.int .u8 240,.int .u8 240,.int .u8 240,.int .u8 240,.int .u8 240,.int .u8 241,.int .u8 241,.int .u8 241,.int .u8 241,.int .u8 241,.int .u8 241,.int .u8 241,.int .u8 241,.int .u8 241,.int .u8 241,.int .u8 241,.int .u8 241,.int .u8 241,.int .u8 241,.int .u8 241,.int .u8 241,.int .u8 241,.int .u8 241,.int .u8 241,.int .u8 241,.int .u8 241,.int .u8 241,.int .u8 241,.int .u8 241,.int .u8 241,.int .u8 241,.int .u8 241,.int .u8 241,.int .u8 241,.int .u8 241,.int .u8 241,.int .u8 241,.int .u8 241,.int .u8 241,.int .u8 241,.int .u8 241,.int .u8 241,.int .u8 241,.int .u8 241,.int .u8 241,.int .u8 241,.int .u8 241,.int .u8 241,.int .u8 241,.int .u8 241,.int .u8 241,.int .u8 241,.int .u8 241,.int .u8 241,.int .u8 241,.int .u8 241,.int .u8 241,.int .u8 241,.int .u8 241,.int .u8 241,.int .u8 241,.int .u8 241,.int .u8 241,.int .u8 241,.int .u8 241,.int .u8 241,.int .u8 241,.int .u8 241,.int .u8 241,.int .u8 241,.int .u8 241,.int .u8 2,.int .u8 2,.int .u8 2,.int .u8 2,.int .u8 2,.int .u8 2,.int .u8 2,.int .u8 2,.int .u8 2,.int .u8 2,.int .u8 2,.int .u8 2,.int .u8 2,.int .u8 2,.int .u8 2,.int .u8 2,.int .u8 2,.int .u8 2,.int .u8 2,.int .u8 2,.int .u8 2,.int .u8 2,.int .u8 2,.int .u8 2,.int .u8 2,.int .u8 2,.int .u8 2,.int .u8 2,.int .u8 2,.int .u8 2,.int .u8 19,.int .u8 3,.int .u8 3,.int .u8 3,.int .u8 3,.int .u8 3,.int .u8 3,.int .u8 3,.int .u8 3,.int .u8 3,.int .u8 3,.int .u8 3,.int .u8 3,.int .u8 35,.int .u8 3,.int .u8 3,.int .u8 52,.int .u8 4,.int .u8 4,.int .u8 4,.int .u8 68,.int .u8 241,.int .u8 241,.int .u8 241,.int .u8 241,.int .u8 241,.int .u8 241,.int .u8 241,.int .u8 241,.int .u8 241,.int .u8 241,.int .u8 241] t frozen
      | o=>o) }
theorem laid_met (os:Os):laidMet Tryd.prog Rows.planGrowsRow.laid ((laidWorld os).forCall (fun _ _=>0) ⟨#[],#[.slice none 0 0],[]⟩).memory :=
  laidMet_of_run' 8 (by kernel_rfl) (by kernel_rfl)
theorem reads (os:Os) {H:Type} (enc:TypeId × Value→H):∃ places,DataW.whole enc Tryd.prog ((laidWorld os).forCall (fun _ _=>0) ⟨#[],#[.slice none 0 0],[]⟩).memory Tryd.f3.params.toList Rows.planGrowsSpec.vars false (#[.slice none 0 0]:Array Value).toList 8 = some ([.nil],[],places) :=
  ⟨[],by kernel_rfl⟩
set_option maxRecDepth 100000 in
theorem lifted (os:Os) (started:os.Started) (H:Type) (enc:TypeId × Value→H) (F:Stop.Interp) :
    ReturnsInHanded {} Tryd.checked os 3 .any ((OpenSpec.ofChange Rows.planGrowsSpec).preRow enc Tryd.prog Tryd.f3 Rows.planGrowsRow.domain false Rows.planGrowsRow.laid) (((OpenSpec.ofChange Rows.planGrowsSpec).at F).post enc Tryd.prog Tryd.f3 false true false false):=by
  obtain ⟨places,hx⟩:=reads os enc
  refine returnsInHanded_of_row (C:=Tryd.checked) (s:=OpenSpec.ofChange Rows.planGrowsSpec) own started (by kernel_rfl) Tryd.func3
    (witness_row_at (enc:=enc) (C:=Tryd.checked) false (laidWorld os) #[.slice none 0 0] rfl (by kernel_rfl) (by kernel_rfl) (by kernel_rfl)
      (OpenSpec.preRow_of_cond 8 hx (by kernel_rfl) (fun k hk=>by cases hk) (by kernel_rfl) (laid_met os))) ?_
  intro W base args ds gs before hval hW _ hcond hsz hL hsh _
  exact contract H enc W base args ds gs before hval hW hsz hL hsh
theorem proved:Rows.PlanGrowsSaid :=
  OpenClaim.holds_of_cond 3 Tryd.f3 rfl rfl rfl rfl rfl rfl rfl ⟨rfl,rfl,rfl,rfl,rfl⟩ rfl rfl rfl rfl rfl (by kernel_rfl) Tryd.func3 (by kernel_rfl)
    (of_decide_eq_true (by kernel_rfl)) (by unfold Func.isWrapper;first|(rw [if_pos (by decide +kernel)];kernel_rfl)|(rw [if_neg (by decide +kernel)];exact ⟨rfl,rfl⟩))
    (fun os started H enc _ F=>by rw [OpenClaim.pre_eq_preRow];exact lifted os started H enc F)
theorem plain (f : FuncId) (fn : Func) (hf : Tryd.pinned.checked.prog.funcNamed "creel/creellaw.PlanGrows" = some f) (hfn : Tryd.pinned.checked.prog.funcs[f]? = some fn) :
    false = Tryd.pinned.checked.prog.looks []∧∀ (j:Nat) t,fn.params[j]? = some t→Tryd.pinned.checked.prog.wantsStandIn t = false:=by
  obtain rfl : f = 3 := Option.some.inj ((show Tryd.prog.funcNamed "creel/creellaw.PlanGrows" = some 3 by kernel_rfl).symm.trans hf) |>.symm
  obtain rfl:fn = Tryd.f3:=(Option.some.inj (Tryd.func3.symm.trans hfn)).symm
  refine ⟨by kernel_rfl,fun j t ht=>?_⟩
  rw [Tryd.params3] at ht
  have hm:=Array.mem_of_getElem? ht
  simp only [List.mem_toArray,List.mem_cons,List.not_mem_nil,or_false] at hm
  rcases hm with rfl
  · exact (show Tryd.prog.wantsStandIn 22 = false by kernel_rfl)
theorem card:Rows.PlanGrowsCardSaid :=
  Claim7.holds_tied_plain_at .later [] _ _ _ _ proved (fun _ h=>by cases h) (by kernel_rfl) (fun _ h=>by cases h) planGrows_row_tie rfl ⟨rfl,rfl⟩ (by kernel_rfl) rfl plain (by kernel_rfl)
#print axioms card
end Go.Proofs.YtlfeijjilndljaaDoor.planGrows
namespace Go.Proofs.YtlfeijjilndljaaDoor
theorem planGrows_holds:Rows.PlanGrowsCardSaid:=planGrows.card
end Go.Proofs.YtlfeijjilndljaaDoor
end
