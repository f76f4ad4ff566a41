/- What functions of the given program compute, as contracts. -/
import Derived.Test.YtbkaaakphpbmiaaGreatSAfterReadingx14
import Derived.Test.YtbkaaakphpbmiaaGreatXAfterReading13
import Derived.Test.YtbkaaakphpbmiaaGreatXAfterReading9
set_option linter.unusedVariables false
set_option linter.unusedSimpArgs false
set_option maxRecDepth 4000
open Nat renaming reduceAdd → jq, reduceMul → jj, reduceBEq → jy, reduceLeDiff → jv, reduceLT → jk, reduceEqDiff → jx
open Bool renaming or_eq_false_iff → jp, or_eq_true → jQ, and_eq_true → jJ
open Int renaming toNat_natCast → jW, natCast_nonneg → jY
namespace Go.Proofs.YtbkaaakphpbmiaaGreat
open Go Go.SL
set_option maxHeartbeats 1000000
def zxf (c:PChart) (a:Int) (r:List Int):Bool:=(zwV c a r).isSome
def zxm (g:List DSegment) (acc s:Int):Int:=IntKind.i64.wrap (acc+(g.getD s.toNat dG).minutes)
def rmOk (n:Nat) (r:List Int) (i:Nat):Bool:=decide (0≤r.getD i 0∧r.getD i 0 < n)
def zxn (c:PChart) (r:List Int):Int:=if zva c=true∧∀ i,i < r.length→rmOk c.segments.length r i=true then r.foldl (zxm c.segments) 0 else -1
@[go_sem] theorem zxz (t1 fs d t p af gd tk):ziY (⟨d,.build t1 fs,t,p,af,gd⟩:Oper) tk=⟨d,.build t1 fs,t,p,af,gd⟩ :: tk:=rfl
def arOk (c:PChart) (s:DShip) (r st:List Int):Bool:=!decide (zxn c r < 0) && zvj s && decide (0 < r.length) && decide (r.length=st.length)
def zxJ (c:PChart) (s:DShip) (r st:List Int):Int :=
 if arOk c s r st=true then (if In (st.getD (r.length - 1) 0) 0 2880=true then IntKind.i64.wrap (st.getD (r.length - 1) 0+zvG s (c.segments.getD (r.getD (r.length - 1) 0).toNat dG)) else -1) else -1
def zxL (c:PChart) (ship:Int) (s:DShip) (pts r st:List Int) (i:Nat):DPassage :=
 ⟨ship,r.getD i 0,pts.getD i 0 == (c.segments.getD (r.getD i 0).toNat dG).a,st.getD i 0,IntKind.i64.wrap (st.getD i 0+zvG s (c.segments.getD (r.getD i 0).toNat dG))⟩
def pasL (c:PChart) (ship:Int) (s:DShip) (pts r st:List Int) (k:Nat):List DPassage:=(List.range k).map (zxL c ship s pts r st)
def zxM (c:PChart) (s:DShip) (a:Int) (r st:List Int):Bool:=zxf c a r && zvj s && decide (r.length=st.length)
def zxN (c:PChart) (ship:Int) (s:DShip) (a:Int) (r st:List Int):List DPassage :=
 if zxM c s a r st=true∧(∀ i,i < r.length→In (st.getD i 0) 0 2880=true) then pasL c ship s ((zwV c a r).getD []) r st r.length else []
end Go.Proofs.YtbkaaakphpbmiaaGreat
