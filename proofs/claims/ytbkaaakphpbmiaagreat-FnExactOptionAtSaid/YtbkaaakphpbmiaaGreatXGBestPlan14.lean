/- What functions of the given program compute, as contracts. -/
import Derived.Test.YtbkaaakphpbmiaaGreatSGBestPlanx13
import Derived.Test.YtbkaaakphpbmiaaGreatXGBestPlan12
set_option linter.unusedVariables false
set_option linter.unusedSimpArgs false
set_option maxRecDepth 4000
open Nat renaming reduceAdd → jq, reduceMul → jj, reduceBEq → jy, reduceLeDiff → jv, reduceLT → jk, reduceEqDiff → jx
open Bool renaming or_eq_false_iff → jp, or_eq_true → jQ, and_eq_true → jJ
open Int renaming toNat_natCast → jW, natCast_nonneg → jY
open Go.Proofs.Tryz renaming prog → jV
namespace Go.Proofs.YtbkaaakphpbmiaaGreat
open Go Go.SL
set_option maxHeartbeats 1000000
def zwS (s:DSegment) (pt:Int):Int:=if pt=s.a then s.b else if pt=s.b then s.a else -1
def zwT (g:List DSegment) (pts:List Int) (s:Int):Option (List Int) :=
 if 0≤s∧s < g.length then (if zwS (g.getD s.toNat dG) (pts.getLast?.getD 0) < 0∨zwS (g.getD s.toNat dG) (pts.getLast?.getD 0) ∈ pts then none else some (pts ++ [zwS (g.getD s.toNat dG) (pts.getLast?.getD 0)])) else none
def ptsK (g:List DSegment) (a:Int) (r:List Int):Nat→Option (List Int)
 | 0=>some [a]
 | k+1=>(ptsK g a r k).bind fun pts=>zwT g pts (r.getD k 0)
def zwU (c:PChart) (a:Int) (r:List Int):Option (List Int):=if 0≤a∧a < c.points.length then ptsK c.segments a r r.length else none
def zwV (c:PChart) (a:Int) (r:List Int):Option (List Int):=if zva c=true then zwU c a r else none
theorem zwW {g:List DSegment} {a:Int} {r:List Int} {k:Nat} (h:ptsK g a r k=none):∀ {n:Nat},k≤n→ptsK g a r n=none
 | 0,hn=>by rw [← Nat.le_zero.1 hn,h]
 | n+1,hn=>by
  rcases Nat.lt_or_ge k (n+1) with h1|h1
  ·rw [ptsK,zwW h (Nat.le_of_lt_succ h1)];rfl
  ·obtain rfl:k=n+1:=by omega
   exact h
theorem zwX {c:PChart} (h:zva c=true):c.points.length≤8∧∀ i,i < c.segments.length→0≤(c.segments.getD i dG).a∧(c.segments.getD i dG).a < c.points.length∧0≤(c.segments.getD i dG).b∧(c.segments.getD i dG).b < c.points.length:=by
 simp only [zva,jJ,decide_eq_true_eq] at h
 refine ⟨h.1.1.1,fun i hi=>?_⟩
 have:=h.2 i hi
 simp only [zu9,zu7,jJ,decide_eq_true_eq] at this
 exact ⟨this.1.1,this.1.2.1,this.1.2.2.1,this.1.2.2.2.1⟩
theorem zwY {c:PChart} (h:zva c=true) {i:Nat} (hi:i < c.segments.length) (p:Int):zwS (c.segments.getD i dG) p < c.points.length∧-1≤zwS (c.segments.getD i dG) p:=by
 have h1:=(zwX h).2 i hi
 unfold zwS
 split
 ·omega
 ·split <;> omega
theorem zwZ (c:DChart):(Con.con c).points=c.points.l:=zu2 _
theorem zw0 (s:DSegment) (pt:Int) (h:Hp):Ct jV 277 [s.v,.int .i64 pt] h fun v h'=>v=.int .i64 (zwS s pt)∧h'=h:=by
 refine zdn (fun A W=>by simp) Tryz.func277 rfl rfl (by simp) fun W0=>?_
 refine Wk ?_
 refine zc9 rfl (fun hq=>?_) (fun hq=>?_)
 ·refine Wk ?_
  rw [zwS,if_pos (eq_of_beq hq)]
 ·refine Wk ?_
  refine zc9 rfl (fun hr=>?_) (fun hr=>?_)
  ·refine Wk ?_
   rw [zwS,if_neg (ne_of_beq_false hq),if_pos (eq_of_beq hr)]
  ·refine Wk ?_
   rw [zwS,if_neg (ne_of_beq_false hq),if_neg (ne_of_beq_false hr)]
theorem zZM (s:DSegment) (pt:Int) (h:Hp):Ct jV 272 [s.v,.int .i64 pt] h fun v h'=>v=.int .i64 (zwS s pt)∧h'=h:=by
 refine zdn (fun A W=>by simp) Tryz.func272 rfl rfl (by simp) fun W0=>?_
 refine Wk ?_
 refine zc9 rfl (fun hq=>?_) (fun hq=>?_)
 ·refine Wk ?_
  rw [zwS,if_pos (eq_of_beq hq)]
 ·refine Wk ?_
  refine zc9 rfl (fun hr=>?_) (fun hr=>?_)
  ·refine Wk ?_
   rw [zwS,if_neg (ne_of_beq_false hq),if_pos (eq_of_beq hr)]
  ·refine Wk ?_
   rw [zwS,if_neg (ne_of_beq_false hq),if_neg (ne_of_beq_false hr)]
end Go.Proofs.YtbkaaakphpbmiaaGreat
