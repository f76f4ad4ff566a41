/- What functions of the given program compute, as contracts. -/
import Derived.Test.YtdejfjdbcggilaaGreatSGBestMatesx9
set_option linter.unusedVariables false
set_option linter.unusedSimpArgs false
set_option maxRecDepth 4000
open Nat renaming reduceAdd → jq, reduceMul → jj, reduceBEq → jy, reduceLeDiff → jv, reduceLT → jk, reduceEqDiff → jx
open Bool renaming or_eq_false_iff → jp, or_eq_true → jQ, and_eq_true → jJ
open Int renaming toNat_natCast → jW, natCast_nonneg → jY
open Go.Proofs.Tryz renaming prog → jV
namespace Go.Proofs.YtdejfjdbcggilaaGreat
open Go Go.SL
set_option maxHeartbeats 1000000
def zCZ (s:DSegment) (pt:Int):Int:=if pt=s.a then s.b else if pt=s.b then s.a else -1
def zC0 (g:List DSegment) (pts:List Int) (s:Int):Option (List Int) :=
 if 0≤s∧s < g.length then (if zCZ (g.getD s.toNat dG) (pts.getLast?.getD 0) < 0∨zCZ (g.getD s.toNat dG) (pts.getLast?.getD 0) ∈ pts then none else some (pts ++ [zCZ (g.getD s.toNat dG) (pts.getLast?.getD 0)])) else none
def ptsK (g:List DSegment) (a:Int) (r:List Int):Nat→Option (List Int)
 | 0=>some [a]
 | k+1=>(ptsK g a r k).bind fun pts=>zC0 g pts (r.getD k 0)
def zC1 (c:PChart) (a:Int) (r:List Int):Option (List Int):=if 0≤a∧a < c.points.length then ptsK c.segments a r r.length else none
def zC2 (c:PChart) (a:Int) (r:List Int):Option (List Int):=if zz9 c=true then zC1 c a r else none
theorem zC3 {g:List DSegment} {a:Int} {r:List Int} {k:Nat} (h:ptsK g a r k=none):∀ {n:Nat},k≤n→ptsK g a r n=none
 | 0,hn=>by rw [← Nat.le_zero.1 hn,h]
 | n+1,hn=>by
  rcases Nat.lt_or_ge k (n+1) with h1|h1
  ·rw [ptsK,zC3 h (Nat.le_of_lt_succ h1)];rfl
  ·obtain rfl:k=n+1:=by omega
   exact h
theorem zC4 {c:PChart} (h:zz9 c=true):c.points.length≤8∧∀ i,i < c.segments.length→0≤(c.segments.getD i dG).a∧(c.segments.getD i dG).a < c.points.length∧0≤(c.segments.getD i dG).b∧(c.segments.getD i dG).b < c.points.length:=by
 simp only [zz9,jJ,decide_eq_true_eq] at h
 refine ⟨h.1.1.1,fun i hi=>?_⟩
 have:=h.2 i hi
 simp only [zz8,zz6,jJ,decide_eq_true_eq] at this
 exact ⟨this.1.1,this.1.2.1,this.1.2.2.1,this.1.2.2.2.1⟩
theorem zC5 {c:PChart} (h:zz9 c=true) {i:Nat} (hi:i < c.segments.length) (p:Int):zCZ (c.segments.getD i dG) p < c.points.length∧-1≤zCZ (c.segments.getD i dG) p:=by
 have h1:=(zC4 h).2 i hi
 unfold zCZ
 split
 ·omega
 ·split <;> omega
theorem zC6 (c:DChart):(Con.con c).points=c.points.l:=zz0 _
theorem zC7 (s:DSegment) (pt:Int) (h:Hp):Ct jV 264 [s.v,.int .i64 pt] h fun v h'=>v=.int .i64 (zCZ s pt)∧h'=h:=by
 refine zdn (fun A W=>by simp) Tryz.func264 rfl rfl (by simp) fun W0=>?_
 refine Wk ?_
 refine zc9 rfl (fun hq=>?_) (fun hq=>?_)
 ·refine Wk ?_
  rw [zCZ,if_pos (eq_of_beq hq)]
 ·refine Wk ?_
  refine zc9 rfl (fun hr=>?_) (fun hr=>?_)
  ·refine Wk ?_
   rw [zCZ,if_neg (ne_of_beq_false hq),if_pos (eq_of_beq hr)]
  ·refine Wk ?_
   rw [zCZ,if_neg (ne_of_beq_false hq),if_neg (ne_of_beq_false hr)]
theorem zC8 (s:DSegment) (pt:Int) (h:Hp):Ct jV 255 [s.v,.int .i64 pt] h fun v h'=>v=.int .i64 (zCZ s pt)∧h'=h:=by
 refine zdn (fun A W=>by simp) Tryz.func255 rfl rfl (by simp) fun W0=>?_
 refine Wk ?_
 refine zc9 rfl (fun hq=>?_) (fun hq=>?_)
 ·refine Wk ?_
  rw [zCZ,if_pos (eq_of_beq hq)]
 ·refine Wk ?_
  refine zc9 rfl (fun hr=>?_) (fun hr=>?_)
  ·refine Wk ?_
   rw [zCZ,if_neg (ne_of_beq_false hq),if_pos (eq_of_beq hr)]
  ·refine Wk ?_
   rw [zCZ,if_neg (ne_of_beq_false hq),if_neg (ne_of_beq_false hr)]
end Go.Proofs.YtdejfjdbcggilaaGreat
