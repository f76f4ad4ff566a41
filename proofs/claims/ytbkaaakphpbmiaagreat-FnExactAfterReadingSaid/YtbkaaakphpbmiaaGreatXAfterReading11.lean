/- What functions of the given program compute, as contracts. -/
import Derived.Test.YtbkaaakphpbmiaaGreatSAfterReadingx10
import Derived.Test.YtbkaaakphpbmiaaGreatXAfterReading9
set_option linter.unusedVariables false
set_option linter.unusedSimpArgs false
set_option maxRecDepth 4000
open Nat renaming reduceAdd → jq, reduceMul → jj, reduceBEq → jy, reduceLeDiff → jv, reduceLT → jk, reduceEqDiff → jx
open Bool renaming or_eq_false_iff → jp, or_eq_true → jQ, and_eq_true → jJ
open Int renaming toNat_natCast → jW, natCast_nonneg → jY
namespace Go.Proofs.YtbkaaakphpbmiaaGreat
open Go Go.SL
set_option maxHeartbeats 1000000
def dW:DWindow:=⟨0,0⟩
theorem wget {l:List DWindow} {i:Nat} (hi:i < l.length):l.getD i dW=l[i]:=by simp [List.getD_eq_getElem?_getD,hi]
def zv9 (l:List DWindow) (i:Nat):Bool:=decide ((0≤(l.getD i dW).src∧(l.getD i dW).src≤(l.getD i dW).dst∧(l.getD i dW).dst≤2880)∧(0 < i→IntKind.i64.wrap ((l.getD (i - 1) dW).dst+1) < (l.getD i dW).src))
def zwa (l:List DWindow):Bool:=decide (∀ i,i < l.length→zv9 l i=true)
def zwb (l:List DWindow) (m:Int):Bool:=l.any fun w=>In m w.src w.dst
def zwc (l:List DWindow) (m:Int):Int:=if zwa l=true then (match l.find? (fun w=>decide (m≤w.dst)) with|some w=>max w.src m|none=>-1) else -1
def shr (n:Int) (w:DWindow):Bool:=decide (n≤IntKind.i64.wrap (w.dst - w.src))
def shw (n:Int) (w:DWindow):DWindow:=⟨w.src,IntKind.i64.wrap (w.dst - n)⟩
def zwd (l:List DWindow) (n:Int):List DWindow:=if zwa l=true∧0≤n∧n≤2880 then (l.filter (shr n)).map (shw n) else []
def zwn (l:List DWindow) (k:Nat):Bool:=match l.getLast? with|some w=>decide (w.dst=(k:Int) - 1)|none=>false
def zwo (l:List DWindow) (k:Nat):List DWindow:=if zwn l k=true then l.dropLast ++ [⟨(l.getLast?.getD dW).src,k⟩] else l ++ [⟨k,k⟩]
def zwp (p:Nat→Bool):Nat→List DWindow
 | 0=>[]
 | k+1=>if p k=true then zwo (zwp p k) k else zwp p k
def zwB (f:PForecast) (lv:Int):List DWindow:=zwp (fun m=>decide (lv≤zv1 f m)) 2881
def zwD (s:DShip):Int:=if s.slow=true then Int.tdiv s.draught 50 else Int.tdiv s.draught 20
def zwE (s:DShip):Int:=IntKind.i64.wrap (IntKind.i64.wrap (s.draught+IntKind.i64.wrap (zwD s))+50)
def zwF (c:PChart) (k:Int) (s:DShip):Bool:=zva c && zvj s && decide (0≤k∧k < c.segments.length)
def zwG (c:PChart) (k:Int) (s:DShip):Int:=if zwF c k s=true then IntKind.i64.wrap (zwE s - (c.segments.getD k.toNat dG).depth) else 0
def zwH (c:PChart) (k:Int) (s:DShip):Int:=if zwF c k s=true then zvG s (c.segments.getD k.toNat dG) else 0
def zwO (f:PForecast) (c:PChart) (k:Int) (s:DShip):List DWindow:=if zuY f=true∧zwF c k s=true then zwd (zwB f (zwG c k s)) (zwH c k s) else []
end Go.Proofs.YtbkaaakphpbmiaaGreat
