/- What functions of the given program compute, each as a contract over what its arguments read as. No condition beside those that each theorem states. -/
import Derived.Test.YtjiggadgmmjnhaaGreatS10
set_option linter.unusedVariables false
set_option linter.unusedSimpArgs false
open Nat renaming reduceAdd → yqa, reduceMul → yqb, reduceBEq → yqc, reduceLeDiff → yqd, reduceLT → yqe, reduceEqDiff → yqf
open Bool renaming or_eq_false_iff → yqg, or_eq_true → yqh, and_eq_true → yqi
open Int renaming toNat_natCast → yqj, natCast_nonneg → yqk
namespace Go.Proofs.YtjiggadgmmjnhaaGreat
open Go Go.SL
set_option maxHeartbeats 1000000
def zJR (s:DSegment) (pt:Int):Int:=if pt=s.a then s.b else if pt=s.b then s.a else -1
def zJS (g:List DSegment) (pts:List Int) (s:Int):Option (List Int) :=
 if 0≤s∧s < g.length then (if zJR (g.getD s.toNat dG) (pts.getLast?.getD 0) < 0∨zJR (g.getD s.toNat dG) (pts.getLast?.getD 0) ∈ pts then none else some (pts ++ [zJR (g.getD s.toNat dG) (pts.getLast?.getD 0)])) else none
def ptsK (g:List DSegment) (a:Int) (r:List Int):Nat→Option (List Int)
 | 0=>some [a]
 | k+1=>(ptsK g a r k).bind fun pts=>zJS g pts (r.getD k 0)
def zJT (c:PChart) (a:Int) (r:List Int):Option (List Int):=if 0≤a∧a < c.points.length then ptsK c.segments a r r.length else none
def zJU (c:PChart) (a:Int) (r:List Int):Option (List Int):=if zrC c=true then zJT c a r else none
theorem zJV {g:List DSegment} {a:Int} {r:List Int} {k:Nat} (h:ptsK g a r k=none):∀ {n:Nat},k≤n→ptsK g a r n=none
 | 0,hn=>by rw [← Nat.le_zero.1 hn,h]
 | n+1,hn=>by
  rcases Nat.lt_or_ge k (n+1) with h1|h1
  ·rw [ptsK,zJV h (Nat.le_of_lt_succ h1)];rfl
  ·obtain rfl:k=n+1:=by omega
   exact h
theorem zJW {c:PChart} (h:zrC c=true):c.points.length≤8∧∀ i,i < c.segments.length→0≤(c.segments.getD i dG).a∧(c.segments.getD i dG).a < c.points.length∧0≤(c.segments.getD i dG).b∧(c.segments.getD i dG).b < c.points.length:=by
 simp only [zrC,yqi,decide_eq_true_eq] at h
 refine ⟨h.1.1.1,fun i hi=>?_⟩
 have:=h.2 i hi
 simp only [zrB,zrz,yqi,decide_eq_true_eq] at this
 exact ⟨this.1.1,this.1.2.1,this.1.2.2.1,this.1.2.2.2.1⟩
theorem zJX {c:PChart} (h:zrC c=true) {i:Nat} (hi:i < c.segments.length) (p:Int):zJR (c.segments.getD i dG) p < c.points.length∧-1≤zJR (c.segments.getD i dG) p:=by
 have h1:=(zJW h).2 i hi
 unfold zJR
 split
 ·omega
 ·split <;> omega
theorem zJY (c:DChart):(Con.con c).points=c.points.l:=zrt _
theorem zJZ (s:DSegment) (pt:Int) (h:Hp):Ct Tryz.prog 245 [s.v,.int .i64 pt] h fun v h'=>v=.int .i64 (zJR s pt)∧h'=h:=by
 refine zdn (fun A W=>by simp) Tryz.func245 rfl rfl (by simp) fun W0=>?_
 repeat' first|refine zie rfl ?_|refine zc4 rfl ?_|refine zc7 ?_|refine zc8 ?_|refine zc5 ?_|refine zc6 ?_|(simp (maxSteps:=2000000) only [go_sem,yqa,yqb,yqc,yqd,yqe,yqf];try rfl)|refine zc3 ?_|(refine And.intro ?_ ?_;focus (intros;simp_all only [yqg,yqh,yqi,and_self,true_and,and_true];done))
 refine zc9 rfl (fun hq=>?_) (fun hq=>?_)
 ·repeat' first|refine zie rfl ?_|refine zc4 rfl ?_|refine zc7 ?_|refine zc8 ?_|refine zc5 ?_|refine zc6 ?_|(simp (maxSteps:=2000000) only [go_sem,yqa,yqb,yqc,yqd,yqe,yqf];try rfl)|refine zc3 ?_|(refine And.intro ?_ ?_;focus (intros;simp_all only [yqg,yqh,yqi,and_self,true_and,and_true];done))
  rw [zJR,if_pos (eq_of_beq hq)]
 ·repeat' first|refine zie rfl ?_|refine zc4 rfl ?_|refine zc7 ?_|refine zc8 ?_|refine zc5 ?_|refine zc6 ?_|(simp (maxSteps:=2000000) only [go_sem,yqa,yqb,yqc,yqd,yqe,yqf];try rfl)|refine zc3 ?_|(refine And.intro ?_ ?_;focus (intros;simp_all only [yqg,yqh,yqi,and_self,true_and,and_true];done))
  refine zc9 rfl (fun hr=>?_) (fun hr=>?_)
  ·repeat' first|refine zie rfl ?_|refine zc4 rfl ?_|refine zc7 ?_|refine zc8 ?_|refine zc5 ?_|refine zc6 ?_|(simp (maxSteps:=2000000) only [go_sem,yqa,yqb,yqc,yqd,yqe,yqf];try rfl)|refine zc3 ?_|(refine And.intro ?_ ?_;focus (intros;simp_all only [yqg,yqh,yqi,and_self,true_and,and_true];done))
   rw [zJR,if_neg (ne_of_beq_false hq),if_pos (eq_of_beq hr)]
  ·repeat' first|refine zie rfl ?_|refine zc4 rfl ?_|refine zc7 ?_|refine zc8 ?_|refine zc5 ?_|refine zc6 ?_|(simp (maxSteps:=2000000) only [go_sem,yqa,yqb,yqc,yqd,yqe,yqf];try rfl)|refine zc3 ?_|(refine And.intro ?_ ?_;focus (intros;simp_all only [yqg,yqh,yqi,and_self,true_and,and_true];done))
   rw [zJR,if_neg (ne_of_beq_false hq),if_neg (ne_of_beq_false hr)]
theorem zJ0 (s:DSegment) (pt:Int) (h:Hp):Ct Tryz.prog 221 [s.v,.int .i64 pt] h fun v h'=>v=.int .i64 (zJR s pt)∧h'=h:=by
 refine zdn (fun A W=>by simp) Tryz.func221 rfl rfl (by simp) fun W0=>?_
 repeat' first|refine zie rfl ?_|refine zc4 rfl ?_|refine zc7 ?_|refine zc8 ?_|refine zc5 ?_|refine zc6 ?_|(simp (maxSteps:=2000000) only [go_sem,yqa,yqb,yqc,yqd,yqe,yqf];try rfl)|refine zc3 ?_|(refine And.intro ?_ ?_;focus (intros;simp_all only [yqg,yqh,yqi,and_self,true_and,and_true];done))
 refine zc9 rfl (fun hq=>?_) (fun hq=>?_)
 ·repeat' first|refine zie rfl ?_|refine zc4 rfl ?_|refine zc7 ?_|refine zc8 ?_|refine zc5 ?_|refine zc6 ?_|(simp (maxSteps:=2000000) only [go_sem,yqa,yqb,yqc,yqd,yqe,yqf];try rfl)|refine zc3 ?_|(refine And.intro ?_ ?_;focus (intros;simp_all only [yqg,yqh,yqi,and_self,true_and,and_true];done))
  rw [zJR,if_pos (eq_of_beq hq)]
 ·repeat' first|refine zie rfl ?_|refine zc4 rfl ?_|refine zc7 ?_|refine zc8 ?_|refine zc5 ?_|refine zc6 ?_|(simp (maxSteps:=2000000) only [go_sem,yqa,yqb,yqc,yqd,yqe,yqf];try rfl)|refine zc3 ?_|(refine And.intro ?_ ?_;focus (intros;simp_all only [yqg,yqh,yqi,and_self,true_and,and_true];done))
  refine zc9 rfl (fun hr=>?_) (fun hr=>?_)
  ·repeat' first|refine zie rfl ?_|refine zc4 rfl ?_|refine zc7 ?_|refine zc8 ?_|refine zc5 ?_|refine zc6 ?_|(simp (maxSteps:=2000000) only [go_sem,yqa,yqb,yqc,yqd,yqe,yqf];try rfl)|refine zc3 ?_|(refine And.intro ?_ ?_;focus (intros;simp_all only [yqg,yqh,yqi,and_self,true_and,and_true];done))
   rw [zJR,if_neg (ne_of_beq_false hq),if_pos (eq_of_beq hr)]
  ·repeat' first|refine zie rfl ?_|refine zc4 rfl ?_|refine zc7 ?_|refine zc8 ?_|refine zc5 ?_|refine zc6 ?_|(simp (maxSteps:=2000000) only [go_sem,yqa,yqb,yqc,yqd,yqe,yqf];try rfl)|refine zc3 ?_|(refine And.intro ?_ ?_;focus (intros;simp_all only [yqg,yqh,yqi,and_self,true_and,and_true];done))
   rw [zJR,if_neg (ne_of_beq_false hq),if_neg (ne_of_beq_false hr)]
end Go.Proofs.YtjiggadgmmjnhaaGreat
