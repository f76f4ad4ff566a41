/- What functions of the given program compute, as contracts. -/
import Derived.Test.YtdeflkhkfmjckaaGreatXGFnTop12
import Derived.Test.YtdeflkhkfmjckaaGreatXGFnTop16
import Derived.Test.YtdeflkhkfmjckaaGreatXGFnTop19
set_option linter.unusedVariables false
set_option linter.unusedSimpArgs false
set_option maxRecDepth 4000
open Nat renaming reduceAdd → jq, reduceMul → jj, reduceBEq → jy, reduceLeDiff → jv, reduceLT → jk, reduceEqDiff → jx
open Bool renaming or_eq_false_iff → jp, or_eq_true → jQ, and_eq_true → jJ
open Int renaming toNat_natCast → jW, natCast_nonneg → jY
open Go.Proofs.Tryz renaming prog → jV
namespace Go.Proofs.YtdeflkhkfmjckaaGreat
open Go Go.SL
set_option maxHeartbeats 1000000
set_option maxRecDepth 100000 in
theorem zOt (a0:Sl U8) (h:Hp) (oa0:a0.Ok h):Ct jV 4 [a0.val] h fun v h'=>v=.bool true:=by
 refine zdn (fun A W=>by simp) Tryz.func4 rfl rfl (by simp) fun W0=>?_
 refine Wk ?_
 refine zc9 rfl (fun hq=>?_) (fun hq=>?_)
 ·exact Wk0
 refine Wk ?_
 refine zkj (zNW a0 _ oa0) rfl ?_
 rintro v h1 le1 ⟨x,a,rfl,gx,ga,okx,oka⟩
 have hca:(Con.con a:List DCall)=a.l:=zJK a
 have hc:=zLh gx ga
 have hcs:zMU (Con.con x) a.l=(zLC (Con.con x) a.l).2.2:=rfl
 have hn6:=zMj hc
 have ham:=oka.max
 refine Wk ?_
 refine zkj (zMw x a _ okx oka) rfl ?_
 rintro v h2 le2 ⟨ch,rfl,ech,okch,_⟩
 have okx2:=Enc.mono (x:=x) le2 okx
 have oka2:=oka.mono le2
 rw [hca] at ech
 obtain ⟨sv,hsv⟩:∃ sv,(zLC (Con.con x) a.l).2.2=sv:=⟨_,rfl⟩
 rw [hca,hsv]
 refine Wk ?_
 refine zhF (fun _=>zJL x a _ okx2 oka2) ?_
 simp (maxSteps:=2000000) only [go_sem,jq,jj,jy,jv,jk,jx,hca,hc,Bool.not_true,Bool.not_false,Bool.true_or,Bool.or_true,Bool.or_false,Bool.false_or,Bool.and_true,Bool.true_and,Bool.and_false,Bool.false_and,Bool.false_eq_true,false_implies,true_and,and_true,implies_true,bne_self_eq_false,beq_self_eq_true,reduceCtorEq]
 refine zc9 rfl (fun hz=>?_) (fun hz=>?_)
 ·cases hz
 refine Wk ?_
 cases sv with
 | false =>
  refine zc9 rfl (fun hz=>?_) (fun hz=>?_)
  case refine_2=>cases hz
  refine Wk ?_
  refine zhF (fun _=>zMX x a _ okx2 oka2) ?_
  simp (maxSteps:=2000000) only [go_sem,jq,jj,jy,jv,jk,jx,hca,hcs,hsv,Bool.not_true,Bool.not_false,Bool.true_or,Bool.or_true,Bool.or_false,Bool.false_or,Bool.and_true,Bool.true_and,Bool.and_false,Bool.false_and,Bool.false_eq_true,false_implies,true_and,and_true,implies_true,bne_self_eq_false,beq_self_eq_true,reduceCtorEq]
  exact Wk0
 | true =>
 refine zc9 rfl (fun hz=>?_) (fun hz=>?_)
 ·cases hz
 refine Wk ?_
 refine zkj (zM4 x a ch _ okx2 oka2 okch) rfl ?_
 rintro v h3 le3 ⟨p,rfl,ep,okp,_⟩
 have okx3:=Enc.mono (x:=x) le3 okx2
 have oka3:=oka2.mono le3
 have zp:Sz.sz (Con.con p)≤1048576:=by rw [ep];exact zM3 _ _ _
 rw [hca] at ep
 obtain ⟨c1,c2,c3,c4,c5⟩:=zOl hc hsv (old:=Con.con p) (by rw [ep,ech])
 refine Wk ?_
 refine zkj (zOs x a p _ okx3 oka3 okp zp) rfl ?_
 rintro v h4 le4 ⟨q1,rfl,eq1,okq1⟩
 rw [c3] at eq1 ⊢
 have eq1:(Con.con q1:List POption)=Con.con p:=eq1
 have okx4:=Enc.mono (x:=x) le4 okx3
 have oka4:=oka3.mono le4
 have okp4:=okp.mono le4
 refine Evs ?_
 repeat' first|refine zc8 ?_|(refine zc5 ?_;simp (maxSteps:=2000000) only [go_sem,jq,jj,jy,jv,jk,jx])|refine zc3 ?_
 (first|refine zie rfl ?_|refine zc4 rfl ?_)
 simp (maxSteps:=2000000) only [go_sem,jq,jj,jy,jv,jk,jx,Bool.not_true,Bool.not_false,Bool.true_or,Bool.or_true,Bool.or_false,Bool.false_or,Bool.and_true,Bool.true_and,Bool.and_false,Bool.false_and,Bool.false_eq_true,false_implies,true_and,and_true,implies_true,bne_self_eq_false,beq_self_eq_true,reduceCtorEq]
 refine zhF (fun _=>zKz p q1 _ okp4 okq1 zp) ?_
 simp (maxSteps:=2000000) only [go_sem,jq,jj,jy,jv,jk,jx,eq1,c4,Bool.not_true,Bool.not_false,Bool.true_or,Bool.or_true,Bool.or_false,Bool.false_or,Bool.and_true,Bool.true_and,Bool.and_false,Bool.false_and,Bool.false_eq_true,false_implies,true_and,and_true,implies_true,bne_self_eq_false,beq_self_eq_true,reduceCtorEq]
 refine zkj (zKw p q1 _ okp4 okq1 zp) rfl ?_
 rintro v h5 le5 ⟨kc,rfl,ekc,okkc,_⟩
 have hkl:kc.l.length=a.l.length:=by
  have h9:=congrArg List.length ekc
  rw [eq1,c5,con_ints] at h9;exact h9
 have okx5:=Enc.mono (x:=x) le5 okx4
 have oka5:=oka4.mono le5
 have okp5:=okp4.mono le5
 simp (maxSteps:=2000000) only [go_sem,jq,jj,jy,jv,jk,jx,hkl,Bool.not_true,Bool.not_false,Bool.true_or,Bool.or_true,Bool.or_false,Bool.false_or,Bool.and_true,Bool.true_and,Bool.and_false,Bool.false_and,Bool.false_eq_true,false_implies,true_and,and_true,implies_true,bne_self_eq_false,beq_self_eq_true,reduceCtorEq]
 repeat' first|refine zc8 ?_|(refine zc5 ?_;simp (maxSteps:=2000000) only [go_sem,jq,jj,jy,jv,jk,jx])|refine zc3 ?_
 refine zc9 rfl (fun hz=>?_) (fun hz=>?_)
 ·cases hz
 have hrg:0≤x.regime.gap∧x.regime.gap≤60:=by
  have h9:zvl x.regime=true:=(zLN hc).1
  rw [zvl,In,jJ,decide_eq_true_eq,decide_eq_true_eq] at h9;exact h9
 repeat' first|refine zc8 ?_|(refine zc5 ?_;simp (maxSteps:=2000000) only [go_sem,jq,jj,jy,jv,jk,jx])|refine zc3 ?_
 (first|refine zie rfl ?_|refine zc4 rfl ?_|(refine zc3 ?_;first|refine zie rfl ?_|refine zc4 rfl ?_));simp (maxSteps:=2000000) only [go_sem,jq,jj,jy,jv,jk,jx]
 repeat' first|refine zc8 ?_|(refine zc5 ?_;simp (maxSteps:=2000000) only [go_sem,jq,jj,jy,jv,jk,jx])|refine zc3 ?_
 refine znv rfl ?_
 refine U_t [0,3,1,2] rfl ?_
 refine Evs ?_
 refine U_1 4 0 [2,1,0] rfl rfl ?_
 refine Evs ?_
 refine zkj (zDJ a0 90 _ (oa0.mono (Hp.le_trans (Hp.le_trans (Hp.le_trans (Hp.le_trans le1 le2) le3) le4) le5)) (by omega)) rfl ?_
 rintro v h6 le6 ⟨k,rfl,k0,k1⟩
 have hk:=zDa (m:=30) k0 (by decide)
 have hwg:IntKind.i64.wrap (x.regime.gap+Int.tmod k 30)=x.regime.gap+Int.tmod k 30:=zjz (by omega)
 simp (maxSteps:=2000000) only [go_sem,jq,jj,jy,jv,jk,jx,hwg]
 refine U_t [5,6] rfl ?_
 simp (maxSteps:=2000000) only [go_sem,jq,jj,jy,jv,jk,jx,hwg]
 refine ⟨by decide,?_⟩
 try simp (maxSteps:=2000000) only [go_sem,jq,jj,jy,jv,jk,jx,hwg]
 refine U_1 7 0 [] rfl rfl ?_
 refine Evs ?_
 refine U_1 8 0 [] rfl rfl ?_
 refine Evs ?_
 refine U_t [9] rfl ?_
 refine Evs ?_
 refine U_1 10 0 [] rfl rfl ?_
 refine Evs ?_
 refine U_d ?_
 have okx6:=Enc.mono (x:=x) le6 okx5
 have oka6:=oka5.mono le6
 have okp6:=okp5.mono le6
 have hg0:0≤(min 60 (x.regime.gap+Int.tmod k 30))∧(min 60 (x.regime.gap+Int.tmod k 30))≤60:=by omega
 have hc2:zJJ (Con.con (⟨x.forecast,x.chart,x.fleet,⟨(min 60 (x.regime.gap+Int.tmod k 30)),true⟩,x.crew⟩:DHarbour)) a.l=true:=zOm hc (r:=⟨(min 60 (x.regime.gap+Int.tmod k 30)),true⟩) (by rw [zvl,In,jJ,decide_eq_true_eq,decide_eq_true_eq];exact hg0)
 have oky:Enc.ok h6 (⟨x.forecast,x.chart,x.fleet,⟨(min 60 (x.regime.gap+Int.tmod k 30)),true⟩,x.crew⟩:DHarbour):=⟨okx6.1,okx6.2.1,okx6.2.2.1,(by show I64 (min 60 (x.regime.gap+Int.tmod k 30));unfold I64;omega),okx6.2.2.2.2⟩
 have law:=zOk (x:=(⟨x.forecast,x.chart,x.fleet,⟨(min 60 (x.regime.gap+Int.tmod k 30)),true⟩,x.crew⟩:DHarbour)) (old:=Con.con p) hc2 c1 c2
 refine Wk ?_
 refine zkj (zOs (⟨x.forecast,x.chart,x.fleet,⟨(min 60 (x.regime.gap+Int.tmod k 30)),true⟩,x.crew⟩:DHarbour) a p _ oky oka6 okp6 zp) rfl ?_
 rintro v h7 le7 ⟨q2,rfl,eq2,okq2⟩
 obtain ⟨r,hr⟩:∃ r,zOc (Con.con (⟨x.forecast,x.chart,x.fleet,⟨(min 60 (x.regime.gap+Int.tmod k 30)),true⟩,x.crew⟩:DHarbour)) a.l (Con.con p)=r:=⟨_,rfl⟩
 rw [hr] at eq2 law ⊢
 obtain ⟨pl,pr,fo⟩:=r
 simp only at eq2 law
 have oky7:=Enc.mono (x:=(⟨x.forecast,x.chart,x.fleet,⟨(min 60 (x.regime.gap+Int.tmod k 30)),true⟩,x.crew⟩:DHarbour)) le7 oky
 have oka7:=oka6.mono le7
 have okp7:=okp6.mono le7
 rcases law with ⟨b1,b2,b3⟩|⟨b1,b2,b3,b4,b5,b6,b7,b8⟩
 ·subst b1 b2 b3
  have hql:((q2.l.length:Int) == 0)=true:=by
   have h9:=congrArg List.length eq2
   rw [zmw] at h9
   rw [h9];rfl
  refine Evs ?_
  refine Wk ?_
  refine zc9 rfl (fun hz=>?_) (fun hz=>?_)
  case refine_2=>cases hz
  repeat' first|refine Wa ?_|(simp (maxSteps:=2000000) only [go_sem,jq,jj,jy,jv,jk,jx,hql,beq_self_eq_true,Bool.not_true,Bool.not_false,Bool.true_or,Bool.or_true,Bool.or_false,Bool.false_or,Bool.and_true,Bool.true_and,Bool.and_false,Bool.false_and,Bool.false_eq_true,false_implies,true_and,and_true,implies_true,bne_self_eq_false,beq_self_eq_true,reduceCtorEq];try rfl)|refine Wb ?_|fail
 ·subst b1
  have hq8:∀ y ∈ pl,Sz.sz y≤8:=fun y hy=>by
   have h9:=b2
   rw [zK8,jJ,decide_eq_true_eq] at h9
   obtain ⟨i,hi,rfl⟩:=List.getElem_of_mem hy
   have h8:=h9.2 i (by omega)
   rw [ipAt,jJ,List.getD_eq_getElem?_getD (l:=pl),List.getElem?_eq_getElem hi] at h8
   exact zBQ h8.1
  have zq:Sz.sz (Con.con q2)≤1048576:=by rw [eq2];have:=zJY hq8;omega
  obtain ⟨C,hC⟩:∃ C,zKx (Con.con p) pl=C:=⟨_,rfl⟩
  rw [hC] at b4 b5 b7 b8
  refine Evs ?_
  refine Wk ?_
  refine zc9 rfl (fun hz=>?_) (fun hz=>?_)
  ·cases hz
  repeat' first|refine zc8 ?_|(refine zc5 ?_;simp (maxSteps:=2000000) only [go_sem,jq,jj,jy,jv,jk,jx])|refine zc3 ?_
  (first|refine zie rfl ?_|refine zc4 rfl ?_)
  simp (maxSteps:=2000000) only [go_sem,jq,jj,jy,jv,jk,jx,Bool.not_true,Bool.not_false,Bool.true_or,Bool.or_true,Bool.or_false,Bool.false_or,Bool.and_true,Bool.true_and,Bool.and_false,Bool.false_and,Bool.false_eq_true,false_implies,true_and,and_true,implies_true,bne_self_eq_false,beq_self_eq_true,reduceCtorEq]
  refine zhF (fun _=>zLP (⟨x.forecast,x.chart,x.fleet,⟨(min 60 (x.regime.gap+Int.tmod k 30)),true⟩,x.crew⟩:DHarbour) a q2 _ oky7 oka7 okq2 zq) ?_
  simp (maxSteps:=2000000) only [go_sem,jq,jj,jy,jv,jk,jx,hca,eq2,b2,Bool.not_true,Bool.not_false,Bool.true_or,Bool.or_true,Bool.or_false,Bool.false_or,Bool.and_true,Bool.true_and,Bool.and_false,Bool.false_and,Bool.false_eq_true,false_implies,true_and,and_true,implies_true,bne_self_eq_false,beq_self_eq_true,reduceCtorEq]
  refine zhF (fun _=>zJD p q2 _ okp7 okq2) ?_
  simp (maxSteps:=2000000) only [go_sem,jq,jj,jy,jv,jk,jx,eq2,b3,Bool.not_true,Bool.not_false,Bool.true_or,Bool.or_true,Bool.or_false,Bool.false_or,Bool.and_true,Bool.true_and,Bool.and_false,Bool.false_and,Bool.false_eq_true,false_implies,true_and,and_true,implies_true,bne_self_eq_false,beq_self_eq_true,reduceCtorEq]
  refine zhF (fun _=>zKz p q2 _ okp7 okq2 zp) ?_
  simp (maxSteps:=2000000) only [go_sem,jq,jj,jy,jv,jk,jx,eq2,hC,Bool.not_true,Bool.not_false,Bool.true_or,Bool.or_true,Bool.or_false,Bool.false_or,Bool.and_true,Bool.true_and,Bool.and_false,Bool.false_and,Bool.false_eq_true,false_implies,true_and,and_true,implies_true,bne_self_eq_false,beq_self_eq_true,reduceCtorEq]
  refine zkj (zKw p q2 _ okp7 okq2 zp) rfl ?_
  rintro v h8 le8 ⟨kd,rfl,ekd,okkd,_⟩
  have hkd:(kd.l.length:Int)=(zJF (Con.con p) pl).length:=by
   have h9:=congrArg List.length ekd
   rw [eq2,con_ints] at h9;omega
  have hsum:IntKind.i64.wrap (C+kd.l.length)=a.l.length:=by rw [hkd,zjz (by omega)];omega
  have hmul:IntKind.i64.wrap (60 * C)=60 * C:=zjz (by omega)
  have hlp:(60 * C≤pr)=True:=eq_true b5
  simp (maxSteps:=2000000) only [go_sem,jq,jj,jy,jv,jk,jx,hsum,Bool.not_true,Bool.not_false,Bool.true_or,Bool.or_true,Bool.or_false,Bool.false_or,Bool.and_true,Bool.true_and,Bool.and_false,Bool.false_and,Bool.false_eq_true,false_implies,true_and,and_true,implies_true,bne_self_eq_false,beq_self_eq_true,reduceCtorEq]
  refine zhF (fun _=>zKz p q2 _ (okp7.mono le8) (okq2.mono le8) zp) ?_
  simp (maxSteps:=2000000) only [go_sem,jq,jj,jy,jv,jk,jx,eq2,hC,hmul,hlp,decide_true,Bool.not_true,Bool.not_false,Bool.true_or,Bool.or_true,Bool.or_false,Bool.false_or,Bool.and_true,Bool.true_and,Bool.and_false,Bool.false_and,Bool.false_eq_true,false_implies,true_and,and_true,implies_true,bne_self_eq_false,beq_self_eq_true,reduceCtorEq]
  exact Wk0
end Go.Proofs.YtdeflkhkfmjckaaGreat
