/- What functions of the given program compute, as contracts. -/
import Derived.Test.YtbkaaakphpbmiaaGreatSAfterReadingx12
import Derived.Test.YtbkaaakphpbmiaaGreatXAfterReading11
set_option linter.unusedVariables false
set_option linter.unusedSimpArgs false
set_option maxRecDepth 4000
open Nat renaming reduceAdd → jq, reduceMul → jj, reduceBEq → jy, reduceLeDiff → jv, reduceLT → jk, reduceEqDiff → jx
open Bool renaming or_eq_false_iff → jp, or_eq_true → jQ, and_eq_true → jJ
open Int renaming toNat_natCast → jW, natCast_nonneg → jY
namespace Go.Proofs.YtbkaaakphpbmiaaGreat
open Go Go.SL
set_option maxHeartbeats 1000000
def zwS (s:DSegment) (pt:Int):Int:=if pt=s.a then s.b else if pt=s.b then s.a else -1
def zwT (g:List DSegment) (pts:List Int) (s:Int):Option (List Int) :=
 if 0≤s∧s < g.length then (if zwS (g.getD s.toNat dG) (pts.getLast?.getD 0) < 0∨zwS (g.getD s.toNat dG) (pts.getLast?.getD 0) ∈ pts then none else some (pts ++ [zwS (g.getD s.toNat dG) (pts.getLast?.getD 0)])) else none
def ptsK (g:List DSegment) (a:Int) (r:List Int):Nat→Option (List Int)
 | 0=>some [a]
 | k+1=>(ptsK g a r k).bind fun pts=>zwT g pts (r.getD k 0)
def zwU (c:PChart) (a:Int) (r:List Int):Option (List Int):=if 0≤a∧a < c.points.length then ptsK c.segments a r r.length else none
def zwV (c:PChart) (a:Int) (r:List Int):Option (List Int):=if zva c=true then zwU c a r else none
end Go.Proofs.YtbkaaakphpbmiaaGreat
