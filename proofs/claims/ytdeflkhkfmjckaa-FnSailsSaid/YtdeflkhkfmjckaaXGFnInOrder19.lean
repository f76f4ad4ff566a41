/- What functions of the given program compute, as contracts. -/
import Derived.Test.YtdeflkhkfmjckaaXGFnInOrder13
import Derived.Test.YtdeflkhkfmjckaaXGFnInOrder15
import Derived.Test.YtdeflkhkfmjckaaXGFnInOrder18
import Derived.Test.YtdeflkhkfmjckaaXGFnInOrder7
import Derived.Test.YtdeflkhkfmjckaaXGFnInOrder9
set_option linter.unusedVariables false
set_option linter.unusedSimpArgs false
set_option maxRecDepth 4000
open Nat renaming reduceAdd → jq, reduceMul → jj, reduceBEq → jy, reduceLeDiff → jv, reduceLT → jk, reduceEqDiff → jx
open Bool renaming or_eq_false_iff → jp, or_eq_true → jQ, and_eq_true → jJ
open Int renaming toNat_natCast → jW, natCast_nonneg → jY
open Go.Proofs.Try renaming prog → jV
namespace Go.Proofs.Ytdeflkhkfmjckaa
open Go Go.SL
set_option maxHeartbeats 1000000
set_option maxRecDepth 100000 in
set_option maxHeartbeats 16000000 in
theorem zE3 (a0:Sl U8) (h:Hp) (oa0:a0.Ok h):Ct jV 4 [a0.val] h fun v h'=>v=.bool true:=by
 refine zdn (fun A W=>by simp) Try.func4 rfl rfl (by simp) fun W0=>?_
 refine Wk ?_
 refine zc9 rfl (fun hq=>?_) (fun hq=>?_)
 ·exact Wk0
 refine Wk ?_
 refine zkj (zDH a0 _ oa0) rfl ?_
 rintro v h1 le1 ⟨x,a,rfl,gx,ga,okx,oka⟩
 have hok:=zCU gx ga
 obtain ⟨r,hb⟩:=zCY gx ga
 obtain ⟨hfo,hch,⟨hsi,hsh,hso⟩,hs0,hs1,_,_,_,_,_,hr0,hr1,hr2,hr3⟩:=zyE hok
 have hca:(Con.con a:DCall)=a:=rfl
 have hbs:(zyd (Con.con x.chart) a.src a.dst).isSome=true:=by rw [hb];rfl
 repeat' first|refine Wa ?_|(simp (maxSteps:=2000000) only [go_sem,jq,jj,jy,jv,jk,jx,zlT okx.2.2.1 hsi,zk0 okx.2.2.1 hsi,okx.2.2.1.some hsi,hsi,hs0,hs1,jW,implies_true,true_and,and_true,and_self];try rfl)|refine Wb ?_|fail
 refine zkj (zyj x.chart a.src a.dst _ okx.2.1 oka.2.1) rfl ?_
 rintro v h2 le2 ⟨rs,rfl,er,okr⟩
 rw [hb] at er
 have er:rs.l=r:=er
 have hrz:rs.l.length≤1048576:=by rw [er];have:=zyf hb;omega
 have okx2:=Enc.mono (x:=x) le2 okx
 have oka2:=Enc.mono (x:=a) le2 oka
 simp (maxSteps:=2000000) only [go_sem,jq,jj,jy,jv,jk,jx,hbs]
 repeat' first|refine zc8 ?_|(refine zc5 ?_;simp (maxSteps:=2000000) only [go_sem,jq,jj,jy,jv,jk,jx])|refine zc3 ?_
 (first|refine zie rfl ?_|refine zc4 rfl ?_)
 simp (maxSteps:=2000000) only [go_sem,jq,jj,jy,jv,jk,jx,Bool.not_true,Bool.not_false,Bool.true_or,Bool.or_true,Bool.or_false,Bool.false_or,Bool.and_true,Bool.true_and,Bool.and_false,Bool.false_and,Bool.false_eq_true,false_implies,true_and,and_true,implies_true,bne_self_eq_false,beq_self_eq_true,reduceCtorEq]
 refine zhF (fun _=>zvE x a _ okx2 oka2) ?_
 simp (maxSteps:=2000000) only [go_sem,jq,jj,jy,jv,jk,jx,hca,hok,Bool.not_true,Bool.not_false,Bool.true_or,Bool.or_true,Bool.or_false,Bool.false_or,Bool.and_true,Bool.true_and,Bool.and_false,Bool.false_and,Bool.false_eq_true,false_implies,true_and,and_true,implies_true,bne_self_eq_false,beq_self_eq_true,reduceCtorEq]
 repeat' first|refine zc8 ?_|(refine zc5 ?_;simp (maxSteps:=2000000) only [go_sem,jq,jj,jy,jv,jk,jx])|refine zc3 ?_
 refine zc9 rfl (fun hz=>?_) (fun hz=>?_)
 ·cases hz
 refine Wk ?_
 refine zkj (zC6 x.forecast x.chart x.fleet.l[a.ship.toNat] a.src rs a.ready _ okx2.1 okx2.2.1 (okx2.2.2.1.el hsi) oka2.2.1 okr (by omega) hrz) rfl ?_
 rintro v h3 le3 ⟨q,rfl,eq,okq⟩
 have okx3:=Enc.mono (x:=x) le3 okx2
 have oka3:=Enc.mono (x:=a) le3 oka2
 have okr3:=okr.mono le3
 obtain ⟨sl1,sl2⟩:=zE2 hok hb
 rw [hsh,← er] at sl1 sl2
 obtain ⟨o1,ho1⟩:∃ o,zCt (Con.con x.forecast) (Con.con x.chart) x.fleet.l[a.ship.toNat] a.src rs.l a.ready=o:=⟨_,rfl⟩
 rw [ho1] at eq ⊢
 cases o1 with
 | none =>
  have hS0:=sl1 ho1
  have ql0:((q.l.length:Int) == 0)=true:=by rw [eq];rfl
  simp (maxSteps:=2000000) only [go_sem,jq,jj,jy,jv,jk,jx,Option.isSome_none]
  refine Wk ?_
  refine zc9 rfl (fun hz2=>?_) (fun hz2=>?_)
  case refine_2=>cases hz2
  refine Wk ?_
  refine zkj (zE1 x.forecast x.chart x.fleet.l[a.ship.toNat] a.src rs a.ready _ okx3.1 okx3.2.1 (okx3.2.2.1.el hsi) oka3.2.1 okr3 oka3.2.2.2.1 hrz) rfl ?_
  rintro v h4 le4 ⟨q2,rfl,eq2,okq2⟩
  rw [hS0] at eq2 ⊢
  simp (maxSteps:=2000000) only [go_sem,jq,jj,jy,jv,jk,jx,Option.isSome_none]
  repeat' first|refine Wa ?_|(simp (maxSteps:=2000000) only [go_sem,jq,jj,jy,jv,jk,jx,ql0,Option.isSome_none,Bool.not_true,Bool.not_false,Bool.true_or,Bool.or_true,Bool.or_false,Bool.false_or,Bool.and_true,Bool.true_and,Bool.and_false,Bool.false_and,Bool.false_eq_true,false_implies,true_and,and_true,implies_true,bne_self_eq_false,beq_self_eq_true,reduceCtorEq];try rfl)|refine Wb ?_|fail
 | some l =>
 obtain ⟨pl,V,hpl,b1,⟨b2,b3⟩,hmin⟩:=sl2 l ho1
 have eq:q.l=l:=eq
 rw [← eq] at V b1 b2 b3 hmin
 skip
 have ql:q.l.length=rs.l.length:=V.ll
 have hr0:=V.n0
 have hr8:=V.n8
 have g0:0 < q.l.length:=by omega
 have g0i:(0:Int) < q.l.length:=by omega
 have hq00:q.l.getD 0 0=q.l[0]:=iget g0
 rw [hq00] at b1 b2 b3 hmin
 have hS0:zyB (Con.con x.forecast) (Con.con x.chart) x.fleet.l[a.ship.toNat] a.src rs.l q.l[0]=some q.l:=by
  have h9:=V.sr
  rw [hsh,hq00] at h9;exact h9
 have hq0:I64 q.l[0]:=by unfold I64;omega
 have cs0:0≤a.src:=(zyE hok).2.2.2.2.2.1
 have cs1:a.src < (Con.con x.chart:PChart).points.length:=by rw [zwZ];exact (zyE hok).2.2.2.2.2.2.1
 have hq01:I64 (q.l[0] - 1):=by unfold I64;omega
 have hw0:IntKind.i64.wrap (q.l[0] - 1)=q.l[0] - 1:=zjz (by omega)
 have hat0:=zkv okq g0
 have hat0':=hat0
 simp only [Nat.zero_mul,zmA,zmB] at hat0'
 simp (maxSteps:=2000000) only [go_sem,jq,jj,jy,jv,jk,jx,Option.isSome_some]
 refine Wk ?_
 refine zc9 rfl (fun hz2=>?_) (fun hz2=>?_)
 ·cases hz2
 repeat' first|refine zc8 ?_|(refine zc5 ?_;simp (maxSteps:=2000000) only [go_sem,jq,jj,jy,jv,jk,jx])|refine zc3 ?_
 refine znv rfl ?_
 refine U_t [0,2,4,5,7,8,1,3,6,9,10] rfl ?_
 simp (maxSteps:=2000000) only [go_sem,jq,jj,jy,jv,jk,jx,hat0,hat0',okq.some g0,g0,g0i,Int.toNat_zero,Nat.zero_mul,Int.le_refl,zmA,zmB,Bool.not_true,Bool.not_false,Bool.true_or,Bool.or_true,Bool.or_false,Bool.false_or,Bool.and_true,Bool.true_and,Bool.and_false,Bool.false_and,Bool.false_eq_true,false_implies,true_and,and_true,implies_true,bne_self_eq_false,beq_self_eq_true,reduceCtorEq]
 refine U_1 11 0 [] rfl rfl ?_
 simp (maxSteps:=2000000) only [go_sem,jq,jj,jy,jv,jk,jx,hat0,hat0',okq.some g0,g0,g0i,Int.toNat_zero,Nat.zero_mul,Int.le_refl,zmA,zmB,Bool.not_true,Bool.not_false,Bool.true_or,Bool.or_true,Bool.or_false,Bool.false_or,Bool.and_true,Bool.true_and,Bool.and_false,Bool.false_and,Bool.false_eq_true,false_implies,true_and,and_true,implies_true,bne_self_eq_false,beq_self_eq_true,reduceCtorEq]
 refine zkj (zE1 x.forecast x.chart x.fleet.l[a.ship.toNat] a.src rs q.l[0] _ okx3.1 okx3.2.1 (okx3.2.2.1.el hsi) oka3.2.1 okr3 hq0 hrz) rfl ?_
 rintro v h4 le4 ⟨q2,rfl,eq2,okq2⟩
 rw [hS0] at eq2 ⊢
 simp (maxSteps:=2000000) only [go_sem,jq,jj,jy,jv,jk,jx,Option.isSome_some]
 refine U_t [12,13,14,15,16] rfl ?_
 simp (maxSteps:=2000000) only [go_sem,jq,jj,jy,jv,jk,jx,hat0,hat0',okq.some g0,g0,g0i,Int.toNat_zero,Nat.zero_mul,Int.le_refl,zmA,zmB,Bool.not_true,Bool.not_false,Bool.true_or,Bool.or_true,Bool.or_false,Bool.false_or,Bool.and_true,Bool.true_and,Bool.and_false,Bool.false_and,Bool.false_eq_true,false_implies,true_and,and_true,implies_true,bne_self_eq_false,beq_self_eq_true,reduceCtorEq]
 refine U_d ?_
 have eq2:q2.l=q.l:=eq2
 have okx4:=Enc.mono (x:=x) le4 okx3
 have okr4:=okr3.mono le4
 have okq4:=okq.mono le4
 have oka4:=Enc.mono (x:=a) le4 oka3
 refine Wk ?_
 refine zkj (zxT x.chart a.ship x.fleet.l[a.ship.toNat] a.src rs q _ okx4.2.1 oka4.1 (okx4.2.2.1.el hsi) oka4.2.1 okr4 okq4 hrz) rfl ?_
 rintro v h5 le5 ⟨p,rfl,ep,okp5,_⟩
 have okx5:=Enc.mono (x:=x) le5 okx4
 have okr5:=okr4.mono le5
 have okq5:=okq4.mono le5
 have okq25:=okq2.mono le5
 have oka5:=Enc.mono (x:=a) le5 oka4
 rw [← hsh,V.ps] at ep
 have qpl:p.l.length=rs.l.length:=by rw [ep,zxQ]
 have q2l:q2.l.length=rs.l.length:=by rw [eq2,ql]
 have c0:(q.l[0] < a.ready)=False:=eq_false (by omega)
 have hn1:rs.l.length - 1 < p.l.length:=by omega
 have hn1i:((rs.l.length - 1:Nat):Int) < p.l.length:=by omega
 have hw:IntKind.i64.wrap ((rs.l.length:Int) - 1)=((rs.l.length - 1:Nat):Int):=by rw [zjz (by omega)];omega
 have hr0i:(0:Int) < rs.l.length:=by omega
 have hr1:rs.l.length - 1 < rs.l.length:=by omega
 have hr1i:((rs.l.length - 1:Nat):Int) < rs.l.length:=by omega
 have hch:zxr (Con.con x.chart) p.l=true:=by rw [ep];exact V.chain
 have pasg:∀ i (hi:i < p.l.length),p.l[i]=zxL (Con.con x.chart) a.ship x.fleet.l[a.ship.toNat] pl rs.l q.l i:=fun i hi=>by
  rw [← qget hi,ep,zBI (by omega),hsh]
 have har:zxJ (Con.con x.chart) x.fleet.l[a.ship.toNat] rs.l q.l=p.l[rs.l.length - 1].fin:=by
  rw [pasg,← hsh];exact V.fin
 have hau0:=zkv okq5 g0
 have hau0':=hau0
 simp only [Nat.zero_mul,zmA,zmB] at hau0'
 repeat' first|refine zc8 ?_|(refine zc5 ?_;simp (maxSteps:=2000000) only [go_sem,jq,jj,jy,jv,jk,jx])|refine zc3 ?_
 refine znv rfl ?_
 refine U_t [0,1,2,3,5,4,6,7,8,9,10,12] rfl ?_
 simp (maxSteps:=2000000) only [go_sem,jq,jj,jy,jv,jk,jx,hr0,hr0i,hr1,hr1i,Option.isSome_some,qpl,ql,q2l,c0,hw,hn1,hn1i,zlO okp5 hn1,okp5.some hn1,decide_true,decide_false,hau0,hau0',okq5.some g0,g0,g0i,Int.toNat_zero,Nat.zero_mul,Int.le_refl,zmA,zmB,jW,jY,Bool.not_true,Bool.not_false,Bool.true_or,Bool.or_true,Bool.or_false,Bool.false_or,Bool.and_true,Bool.true_and,Bool.and_false,Bool.false_and,Bool.false_eq_true,false_implies,true_and,and_true,implies_true,bne_self_eq_false,beq_self_eq_true,reduceCtorEq]
 refine U_t [11,13,14,15,16,17,19,18,20,21,22,23] rfl ?_
 simp (maxSteps:=2000000) only [go_sem,jq,jj,jy,jv,jk,jx,hr0,hr0i,hr1,hr1i,Option.isSome_some,qpl,ql,q2l,c0,hw,hn1,hn1i,zlO okp5 hn1,okp5.some hn1,decide_true,decide_false,hau0,hau0',okq5.some g0,g0,g0i,Int.toNat_zero,Nat.zero_mul,Int.le_refl,zmA,zmB,jW,jY,Bool.not_true,Bool.not_false,Bool.true_or,Bool.or_true,Bool.or_false,Bool.false_or,Bool.and_true,Bool.true_and,Bool.and_false,Bool.false_and,Bool.false_eq_true,false_implies,true_and,and_true,implies_true,bne_self_eq_false,beq_self_eq_true,reduceCtorEq]
 refine U_t [24,27,25,28,26,29,30,31,32,34,33] rfl ?_
 simp (maxSteps:=2000000) only [go_sem,jq,jj,jy,jv,jk,jx,hr0,hr0i,hr1,hr1i,Option.isSome_some,qpl,ql,q2l,c0,hw,hn1,hn1i,zlO okp5 hn1,okp5.some hn1,decide_true,decide_false,hau0,hau0',okq5.some g0,g0,g0i,Int.toNat_zero,Nat.zero_mul,Int.le_refl,zmA,zmB,jW,jY,Bool.not_true,Bool.not_false,Bool.true_or,Bool.or_true,Bool.or_false,Bool.false_or,Bool.and_true,Bool.true_and,Bool.and_false,Bool.false_and,Bool.false_eq_true,false_implies,true_and,and_true,implies_true,bne_self_eq_false,beq_self_eq_true,reduceCtorEq]
 refine U_1 35 0 [] rfl rfl ?_
 simp (maxSteps:=2000000) only [go_sem,jq,jj,jy,jv,jk,jx,hr0,hr0i,hr1,hr1i,Option.isSome_some,qpl,ql,q2l,c0,hw,hn1,hn1i,zlO okp5 hn1,okp5.some hn1,decide_true,decide_false,hau0,hau0',okq5.some g0,g0,g0i,Int.toNat_zero,Nat.zero_mul,Int.le_refl,zmA,zmB,jW,jY,Bool.not_true,Bool.not_false,Bool.true_or,Bool.or_true,Bool.or_false,Bool.false_or,Bool.and_true,Bool.true_and,Bool.and_false,Bool.false_and,Bool.false_eq_true,false_implies,true_and,and_true,implies_true,bne_self_eq_false,beq_self_eq_true,reduceCtorEq]
 refine zhF (fun _=>zxy x.chart p _ okx5.2.1 okp5) ?_
 simp (maxSteps:=2000000) only [go_sem,jq,jj,jy,jv,jk,jx,hch,hr0,hr0i,hr1,hr1i,Option.isSome_some,qpl,ql,q2l,c0,hw,hn1,hn1i,zlO okp5 hn1,okp5.some hn1,decide_true,decide_false,hau0,hau0',okq5.some g0,g0,g0i,Int.toNat_zero,Nat.zero_mul,Int.le_refl,zmA,zmB,jW,jY,Bool.not_true,Bool.not_false,Bool.true_or,Bool.or_true,Bool.or_false,Bool.false_or,Bool.and_true,Bool.true_and,Bool.and_false,Bool.false_and,Bool.false_eq_true,false_implies,true_and,and_true,implies_true,bne_self_eq_false,beq_self_eq_true,reduceCtorEq]
 refine U_t [36,37,38,39,41,42,43,45,46,40,47,48] rfl ?_
 simp (maxSteps:=2000000) only [go_sem,jq,jj,jy,jv,jk,jx,hr0,hr0i,hr1,hr1i,Option.isSome_some,qpl,ql,q2l,c0,hw,hn1,hn1i,zlO okp5 hn1,okp5.some hn1,decide_true,decide_false,hau0,hau0',okq5.some g0,g0,g0i,Int.toNat_zero,Nat.zero_mul,Int.le_refl,zmA,zmB,jW,jY,Bool.not_true,Bool.not_false,Bool.true_or,Bool.or_true,Bool.or_false,Bool.false_or,Bool.and_true,Bool.true_and,Bool.and_false,Bool.false_and,Bool.false_eq_true,false_implies,true_and,and_true,implies_true,bne_self_eq_false,beq_self_eq_true,reduceCtorEq]
 refine U_t [49,50,51] rfl ?_
 simp (maxSteps:=2000000) only [go_sem,jq,jj,jy,jv,jk,jx,hr0,hr0i,hr1,hr1i,Option.isSome_some,qpl,ql,q2l,c0,hw,hn1,hn1i,zlO okp5 hn1,okp5.some hn1,decide_true,decide_false,hau0,hau0',okq5.some g0,g0,g0i,Int.toNat_zero,Nat.zero_mul,Int.le_refl,zmA,zmB,jW,jY,Bool.not_true,Bool.not_false,Bool.true_or,Bool.or_true,Bool.or_false,Bool.false_or,Bool.and_true,Bool.true_and,Bool.and_false,Bool.false_and,Bool.false_eq_true,false_implies,true_and,and_true,implies_true,bne_self_eq_false,beq_self_eq_true,reduceCtorEq]
 refine U_1 44 0 [51,50,49,48,47] rfl rfl ?_
 simp (maxSteps:=2000000) only [go_sem,jq,jj,jy,jv,jk,jx,hr0,hr0i,hr1,hr1i,Option.isSome_some,qpl,ql,q2l,c0,hw,hn1,hn1i,zlO okp5 hn1,okp5.some hn1,decide_true,decide_false,hau0,hau0',okq5.some g0,g0,g0i,Int.toNat_zero,Nat.zero_mul,Int.le_refl,zmA,zmB,jW,jY,Bool.not_true,Bool.not_false,Bool.true_or,Bool.or_true,Bool.or_false,Bool.false_or,Bool.and_true,Bool.true_and,Bool.and_false,Bool.false_and,Bool.false_eq_true,false_implies,true_and,and_true,implies_true,bne_self_eq_false,beq_self_eq_true,reduceCtorEq]
 refine zhF (fun _=>zxS x.chart x.fleet.l[a.ship.toNat] rs q _ okx5.2.1 (okx5.2.2.1.el hsi) okr5 okq5) ?_
 simp (maxSteps:=2000000) only [go_sem,jq,jj,jy,jv,jk,jx,har,hr0,hr0i,hr1,hr1i,Option.isSome_some,qpl,ql,q2l,c0,hw,hn1,hn1i,zlO okp5 hn1,okp5.some hn1,decide_true,decide_false,hau0,hau0',okq5.some g0,g0,g0i,Int.toNat_zero,Nat.zero_mul,Int.le_refl,zmA,zmB,jW,jY,Bool.not_true,Bool.not_false,Bool.true_or,Bool.or_true,Bool.or_false,Bool.false_or,Bool.and_true,Bool.true_and,Bool.and_false,Bool.false_and,Bool.false_eq_true,false_implies,true_and,and_true,implies_true,bne_self_eq_false,beq_self_eq_true,reduceCtorEq]
 refine U_t [52,53] rfl ?_
 simp (maxSteps:=2000000) only [go_sem,jq,jj,jy,jv,jk,jx,hr0,hr0i,hr1,hr1i,Option.isSome_some,qpl,ql,q2l,c0,hw,hn1,hn1i,zlO okp5 hn1,okp5.some hn1,decide_true,decide_false,hau0,hau0',okq5.some g0,g0,g0i,Int.toNat_zero,Nat.zero_mul,Int.le_refl,zmA,zmB,jW,jY,Bool.not_true,Bool.not_false,Bool.true_or,Bool.or_true,Bool.or_false,Bool.false_or,Bool.and_true,Bool.true_and,Bool.and_false,Bool.false_and,Bool.false_eq_true,false_implies,true_and,and_true,implies_true,bne_self_eq_false,beq_self_eq_true,reduceCtorEq]
 refine U_d ?_
 repeat' first|refine zc8 ?_|(refine zc5 ?_;simp (maxSteps:=2000000) only [go_sem,jq,jj,jy,jv,jk,jx])|refine zc3 ?_
 refine zc9 rfl (fun hz=>?_) (fun hz=>?_)
 ·cases hz
 refine Wk ?_
 refine zkj (zxl x.chart a.src rs _ okx5.2.1 oka5.2.1 okr5 hrz) rfl ?_
 rintro v h6 le6 ⟨pts,rfl,ept,okpt⟩
 have okx6:=Enc.mono (x:=x) le6 okx5
 have okr6:=okr5.mono le6
 have okq6:=okq5.mono le6
 have okq26:=okq25.mono le6
 have okp6:=okp5.mono le6
 have oka6:=Enc.mono (x:=a) le6 oka5
 have ept:pts.l=pl:=by rw [ept,V.rt];rfl
 have ptl:pts.l.length=rs.l.length+1:=by rw [ept,hpl]
 have hwr:IntKind.i64.wrap ((rs.l.length:Int)+1)=((rs.l.length+1:Nat):Int):=by rw [zjz (by omega)];omega
 have hne:(((rs.l.length+1:Nat):Int) != ((rs.l.length+1:Nat):Int))=false:=bne_self_eq_false _
 refine Evs ?_
 repeat' first|refine Wa ?_|(simp (maxSteps:=2000000) only [go_sem,jq,jj,jy,jv,jk,jx,ptl,hwr,Bool.not_true,Bool.not_false,Bool.true_or,Bool.or_true,Bool.or_false,Bool.false_or,Bool.and_true,Bool.true_and,Bool.and_false,Bool.false_and,Bool.false_eq_true,false_implies,true_and,and_true,implies_true,bne_self_eq_false,beq_self_eq_true,reduceCtorEq];try rfl)|refine Wb ?_|fail
 refine zc9 rfl (fun hz=>?_) (fun hz=>?_)
 ·cases hz
 refine Wk ?_
 refine zde (ι:=Nat) (fun i=>⟨[(2,true,.c (.v (.bool false))),(3,true,.c (.p 0 0)),(4,true,.c (.p 1 0)),(5,true,.c (.p 2 0)),(6,true,.c (.v rs.val)),(8,true,.c (.v q.val)),(12,true,.c (.v q2.val)),(14,true,.c (.v p.val)),(15,true,.c (.v pts.val)),(180,true,.c (.v (.int .i64 rs.l.length))),(181,true,.c (.v (.int .i64 i)))],[(0,.box 40 [.v (.int .i64 x.forecast.tide.mean),.v x.forecast.tide.parts.val,.v x.forecast.surges.val,.v x.chart.points.val,.v x.chart.segments.val,.v x.fleet.val,.v (.int .i64 x.regime.gap),.v (.bool x.regime.noMeet),.v (.int .i64 x.crew.tugs),.v (.int .i64 x.crew.pilots),.v (.int .i64 x.crew.rest),.v x.crew.moves.val]),(1,.box 42 [.v (.int .i64 a.ship),.v (.int .i64 a.src),.v (.int .i64 a.dst),.v (.int .i64 a.ready),.v (.int .i64 a.due)]),(2,.box 46 [.v (.string x.fleet.l[a.ship.toNat].name),.v (.int .i64 x.fleet.l[a.ship.toNat].length),.v (.int .i64 x.fleet.l[a.ship.toNat].draught),.v (.int .i64 x.fleet.l[a.ship.toNat].line),.v (.int .i64 x.fleet.l[a.ship.toNat].tugs),.v (.bool x.fleet.l[a.ship.toNat].slow)])],h6,3⟩)
  (fun i=>i≤rs.l.length) (fun i=>rs.l.length - i) 0 (Nat.zero_le _) ?_ ?_
 ·refine Evs ?_
  exact Gk
 intro i hi
 refine Wk ?_
 refine zc9 rfl (fun hd=>?_) (fun hd=>?_)
 case refine_2 =>
  have hav0:=zkv okq6 g0
  have hav0':=hav0
  simp only [Nat.zero_mul,zmA,zmB] at hav0'
  refine Wk ?_
  refine znv rfl ?_
  refine U_t [0,3,1,4,2,5] rfl ?_
  simp (maxSteps:=2000000) only [go_sem,jq,jj,jy,jv,jk,jx,hav0,hav0',okq6.some g0,g0,g0i,Int.toNat_zero,Nat.zero_mul,Int.le_refl,zmA,zmB,decide_true,decide_false,Bool.not_true,Bool.not_false,Bool.true_or,Bool.or_true,Bool.or_false,Bool.false_or,Bool.and_true,Bool.true_and,Bool.and_false,Bool.false_and,Bool.false_eq_true,false_implies,true_and,and_true,implies_true,bne_self_eq_false,beq_self_eq_true,reduceCtorEq]
  refine U_d ?_
  repeat' first|refine zc8 ?_|(refine zc5 ?_;simp (maxSteps:=2000000) only [go_sem,jq,jj,jy,jv,jk,jx])|refine zc3 ?_
  refine zc9 rfl (fun hz=>?_) (fun hz=>?_)
  ·have hmn:=hmin (of_decide_eq_true hz)
   repeat' first|refine zc8 ?_|(refine zc5 ?_;simp (maxSteps:=2000000) only [go_sem,jq,jj,jy,jv,jk,jx])|refine zc3 ?_
   refine znv rfl ?_
   refine U_t [0,2,4,5,7,8,1,3,6,9,10,11] rfl ?_
   simp (maxSteps:=2000000) only [go_sem,jq,jj,jy,jv,jk,jx,hav0,hav0',okq6.some g0,g0,g0i,Int.toNat_zero,Nat.zero_mul,Int.le_refl,zmA,zmB,decide_true,decide_false,Bool.not_true,Bool.not_false,Bool.true_or,Bool.or_true,Bool.or_false,Bool.false_or,Bool.and_true,Bool.true_and,Bool.and_false,Bool.false_and,Bool.false_eq_true,false_implies,true_and,and_true,implies_true,bne_self_eq_false,beq_self_eq_true,reduceCtorEq,hw0]
   refine U_1 12 0 [] rfl rfl ?_
   simp (maxSteps:=2000000) only [go_sem,jq,jj,jy,jv,jk,jx,hav0,hav0',okq6.some g0,g0,g0i,Int.toNat_zero,Nat.zero_mul,Int.le_refl,zmA,zmB,decide_true,decide_false,Bool.not_true,Bool.not_false,Bool.true_or,Bool.or_true,Bool.or_false,Bool.false_or,Bool.and_true,Bool.true_and,Bool.and_false,Bool.false_and,Bool.false_eq_true,false_implies,true_and,and_true,implies_true,bne_self_eq_false,beq_self_eq_true,reduceCtorEq,hw0]
   refine zkj (zE1 x.forecast x.chart x.fleet.l[a.ship.toNat] a.src rs (q.l[0] - 1) _ okx6.1 okx6.2.1 (okx6.2.2.1.el hsi) oka6.2.1 okr6 hq01 hrz) rfl ?_
   rintro v h7 le7 ⟨q3,rfl,eq3,okq3⟩
   rw [hmn] at eq3 ⊢
   simp (maxSteps:=2000000) only [go_sem,jq,jj,jy,jv,jk,jx,Option.isSome_none]
   refine U_t [13,14,15,16,17] rfl ?_
   simp (maxSteps:=2000000) only [go_sem,jq,jj,jy,jv,jk,jx,hav0,hav0',okq6.some g0,g0,g0i,Int.toNat_zero,Nat.zero_mul,Int.le_refl,zmA,zmB,decide_true,decide_false,Bool.not_true,Bool.not_false,Bool.true_or,Bool.or_true,Bool.or_false,Bool.false_or,Bool.and_true,Bool.true_and,Bool.and_false,Bool.false_and,Bool.false_eq_true,false_implies,true_and,and_true,implies_true,bne_self_eq_false,beq_self_eq_true,reduceCtorEq,hw0]
   refine U_d ?_
   exact Wk0
  ·exact Wk0
 have hlt:=zjH hd
 have gq:i < q.l.length:=by omega
 have gqi:(i:Int) < q.l.length:=by omega
 have gq2:i < q2.l.length:=by omega
 have gq2i:(i:Int) < q2.l.length:=by omega
 have gri:(i:Int) < rs.l.length:=by omega
 have gr:=hlt
 have gp:i < p.l.length:=by omega
 have gpi:(i:Int) < p.l.length:=by omega
 have e1:q2.l[i]=q.l[i]:=by simp only [eq2]
 have hqi:q.l.getD i 0=q.l[i]:=iget gq
 have e2:p.l[i].start=q.l[i]:=by rw [pasg i gp];exact hqi
 have hsu:zCq (Con.con x.forecast) (Con.con x.chart) rs.l[i] x.fleet.l[a.ship.toNat] q.l[i]=true:=by
  have h9:=V.sure hlt
  rw [hsh,hqi,iget hlt] at h9;exact h9
 refine Wk ?_
 refine zoc (ι:=Unit) (fun _=>⟨[(2,true,.c (.v (.bool false))),(3,true,.c (.p 0 0)),(4,true,.c (.p 1 0)),(5,true,.c (.p 2 0)),(6,true,.c (.v rs.val)),(8,true,.c (.v q.val)),(12,true,.c (.v q2.val)),(14,true,.c (.v p.val)),(15,true,.c (.v pts.val)),(180,true,.c (.v (.int .i64 rs.l.length))),(181,true,.c (.v (.int .i64 i))),(264,true,.c (.v (.bool false)))],[(0,.box 40 [.v (.int .i64 x.forecast.tide.mean),.v x.forecast.tide.parts.val,.v x.forecast.surges.val,.v x.chart.points.val,.v x.chart.segments.val,.v x.fleet.val,.v (.int .i64 x.regime.gap),.v (.bool x.regime.noMeet),.v (.int .i64 x.crew.tugs),.v (.int .i64 x.crew.pilots),.v (.int .i64 x.crew.rest),.v x.crew.moves.val]),(1,.box 42 [.v (.int .i64 a.ship),.v (.int .i64 a.src),.v (.int .i64 a.dst),.v (.int .i64 a.ready),.v (.int .i64 a.due)]),(2,.box 46 [.v (.string x.fleet.l[a.ship.toNat].name),.v (.int .i64 x.fleet.l[a.ship.toNat].length),.v (.int .i64 x.fleet.l[a.ship.toNat].draught),.v (.int .i64 x.fleet.l[a.ship.toNat].line),.v (.int .i64 x.fleet.l[a.ship.toNat].tugs),.v (.bool x.fleet.l[a.ship.toNat].slow)])],h6,3⟩) (fun _=>True) ?_ ?_
 ·refine znv rfl ?_
  dsimp only [List.append]
  refine zno [0,1,4,5,2,6,3,7,8,9] rfl (by as_aux_lemma=>kernel_rfl) ?_
  simp (maxSteps:=2000000) only [go_sem,jq,jj,jy,jv,jk,jx,e1,e2,zkv okq6 gq,okq6.some gq,gq,gqi,zkv okq26 gq2,okq26.some gq2,gq2,gq2i,zkv okr6 gr,okr6.some gr,gr,gri,zlO okp6 gp,okp6.some gp,gp,gpi,decide_true,decide_false,jW,jY,Bool.not_true,Bool.not_false,Bool.true_or,Bool.or_true,Bool.or_false,Bool.false_or,Bool.and_true,Bool.true_and,Bool.and_false,Bool.false_and,Bool.false_eq_true,false_implies,true_and,and_true,implies_true,bne_self_eq_false,beq_self_eq_true,reduceCtorEq]
  refine zno [10,12,14,15,18,19,20,11,13,16] rfl (by as_aux_lemma=>kernel_rfl) ?_
  simp (maxSteps:=2000000) only [go_sem,jq,jj,jy,jv,jk,jx,e1,e2,zkv okq6 gq,okq6.some gq,gq,gqi,zkv okq26 gq2,okq26.some gq2,gq2,gq2i,zkv okr6 gr,okr6.some gr,gr,gri,zlO okp6 gp,okp6.some gp,gp,gpi,decide_true,decide_false,jW,jY,Bool.not_true,Bool.not_false,Bool.true_or,Bool.or_true,Bool.or_false,Bool.false_or,Bool.and_true,Bool.true_and,Bool.and_false,Bool.false_and,Bool.false_eq_true,false_implies,true_and,and_true,implies_true,bne_self_eq_false,beq_self_eq_true,reduceCtorEq]
  refine zno [21,17,22] rfl (by as_aux_lemma=>kernel_rfl) ?_
  simp (maxSteps:=2000000) only [go_sem,jq,jj,jy,jv,jk,jx,e1,e2,zkv okq6 gq,okq6.some gq,gq,gqi,zkv okq26 gq2,okq26.some gq2,gq2,gq2i,zkv okr6 gr,okr6.some gr,gr,gri,zlO okp6 gp,okp6.some gp,gp,gpi,decide_true,decide_false,jW,jY,Bool.not_true,Bool.not_false,Bool.true_or,Bool.or_true,Bool.or_false,Bool.false_or,Bool.and_true,Bool.true_and,Bool.and_false,Bool.false_and,Bool.false_eq_true,false_implies,true_and,and_true,implies_true,bne_self_eq_false,beq_self_eq_true,reduceCtorEq]
  refine znt 23 0 [] rfl (by as_aux_lemma=>kernel_rfl) (by as_aux_lemma=>kernel_rfl) (by as_aux_lemma=>kernel_rfl) rfl ?_
  simp (maxSteps:=2000000) only [go_sem,jq,jj,jy,jv,jk,jx,e1,e2,zkv okq6 gq,okq6.some gq,gq,gqi,zkv okq26 gq2,okq26.some gq2,gq2,gq2i,zkv okr6 gr,okr6.some gr,gr,gri,zlO okp6 gp,okp6.some gp,gp,gpi,decide_true,decide_false,jW,jY,Bool.not_true,Bool.not_false,Bool.true_or,Bool.or_true,Bool.or_false,Bool.false_or,Bool.and_true,Bool.true_and,Bool.and_false,Bool.false_and,Bool.false_eq_true,false_implies,true_and,and_true,implies_true,bne_self_eq_false,beq_self_eq_true,reduceCtorEq]
  refine zhF (fun _=>zC4 x.forecast x.chart rs.l[i] x.fleet.l[a.ship.toNat] q.l[i] _ okx6.1 okx6.2.1 (okx6.2.2.1.el hsi)) ?_
  simp (maxSteps:=2000000) only [go_sem,jq,jj,jy,jv,jk,jx,hsu,e1,e2,zkv okq6 gq,okq6.some gq,gq,gqi,zkv okq26 gq2,okq26.some gq2,gq2,gq2i,zkv okr6 gr,okr6.some gr,gr,gri,zlO okp6 gp,okp6.some gp,gp,gpi,decide_true,decide_false,jW,jY,Bool.not_true,Bool.not_false,Bool.true_or,Bool.or_true,Bool.or_false,Bool.false_or,Bool.and_true,Bool.true_and,Bool.and_false,Bool.false_and,Bool.false_eq_true,false_implies,true_and,and_true,implies_true,bne_self_eq_false,beq_self_eq_true,reduceCtorEq]
  refine zno [24,25,26,27,28,32,33,29,34,30] rfl (by as_aux_lemma=>kernel_rfl) ?_
  simp (maxSteps:=2000000) only [go_sem,jq,jj,jy,jv,jk,jx,e1,e2,zkv okq6 gq,okq6.some gq,gq,gqi,zkv okq26 gq2,okq26.some gq2,gq2,gq2i,zkv okr6 gr,okr6.some gr,gr,gri,zlO okp6 gp,okp6.some gp,gp,gpi,decide_true,decide_false,jW,jY,Bool.not_true,Bool.not_false,Bool.true_or,Bool.or_true,Bool.or_false,Bool.false_or,Bool.and_true,Bool.true_and,Bool.and_false,Bool.false_and,Bool.false_eq_true,false_implies,true_and,and_true,implies_true,bne_self_eq_false,beq_self_eq_true,reduceCtorEq]
  refine zno [35,31,36,37,38,39,40] rfl (by as_aux_lemma=>kernel_rfl) ?_
  simp (maxSteps:=2000000) only [go_sem,jq,jj,jy,jv,jk,jx,e1,e2,zkv okq6 gq,okq6.some gq,gq,gqi,zkv okq26 gq2,okq26.some gq2,gq2,gq2i,zkv okr6 gr,okr6.some gr,gr,gri,zlO okp6 gp,okp6.some gp,gp,gpi,decide_true,decide_false,jW,jY,Bool.not_true,Bool.not_false,Bool.true_or,Bool.or_true,Bool.or_false,Bool.false_or,Bool.and_true,Bool.true_and,Bool.and_false,Bool.false_and,Bool.false_eq_true,false_implies,true_and,and_true,implies_true,bne_self_eq_false,beq_self_eq_true,reduceCtorEq]
  rcases Nat.eq_zero_or_pos i with h9|h9
  ·have hi0:((0:Int) < i)=False:=eq_false (by omega)
   refine zno [41,42,43,46,47,44,48,45,49,50] rfl (by as_aux_lemma=>kernel_rfl) ?_
   simp (maxSteps:=2000000) only [go_sem,jq,jj,jy,jv,jk,jx,e1,e2,zkv okq6 gq,okq6.some gq,gq,gqi,zkv okq26 gq2,okq26.some gq2,gq2,gq2i,zkv okr6 gr,okr6.some gr,gr,gri,zlO okp6 gp,okp6.some gp,gp,gpi,decide_true,decide_false,jW,jY,Bool.not_true,Bool.not_false,Bool.true_or,Bool.or_true,Bool.or_false,Bool.false_or,Bool.and_true,Bool.true_and,Bool.and_false,Bool.false_and,Bool.false_eq_true,false_implies,true_and,and_true,implies_true,bne_self_eq_false,beq_self_eq_true,reduceCtorEq,hi0]
   refine zno [51,52,53,54,55,58,59,56,60,57] rfl (by as_aux_lemma=>kernel_rfl) ?_
   simp (maxSteps:=2000000) only [go_sem,jq,jj,jy,jv,jk,jx,e1,e2,zkv okq6 gq,okq6.some gq,gq,gqi,zkv okq26 gq2,okq26.some gq2,gq2,gq2i,zkv okr6 gr,okr6.some gr,gr,gri,zlO okp6 gp,okp6.some gp,gp,gpi,decide_true,decide_false,jW,jY,Bool.not_true,Bool.not_false,Bool.true_or,Bool.or_true,Bool.or_false,Bool.false_or,Bool.and_true,Bool.true_and,Bool.and_false,Bool.false_and,Bool.false_eq_true,false_implies,true_and,and_true,implies_true,bne_self_eq_false,beq_self_eq_true,reduceCtorEq,hi0]
   refine zno [61,62,63,64,65,66,69,70,67,71] rfl (by as_aux_lemma=>kernel_rfl) ?_
   simp (maxSteps:=2000000) only [go_sem,jq,jj,jy,jv,jk,jx,e1,e2,zkv okq6 gq,okq6.some gq,gq,gqi,zkv okq26 gq2,okq26.some gq2,gq2,gq2i,zkv okr6 gr,okr6.some gr,gr,gri,zlO okp6 gp,okp6.some gp,gp,gpi,decide_true,decide_false,jW,jY,Bool.not_true,Bool.not_false,Bool.true_or,Bool.or_true,Bool.or_false,Bool.false_or,Bool.and_true,Bool.true_and,Bool.and_false,Bool.false_and,Bool.false_eq_true,false_implies,true_and,and_true,implies_true,bne_self_eq_false,beq_self_eq_true,reduceCtorEq,hi0]
   refine zno [68,72,73,74,75,76,77,78,79,80] rfl (by as_aux_lemma=>kernel_rfl) ?_
   simp (maxSteps:=2000000) only [go_sem,jq,jj,jy,jv,jk,jx,e1,e2,zkv okq6 gq,okq6.some gq,gq,gqi,zkv okq26 gq2,okq26.some gq2,gq2,gq2i,zkv okr6 gr,okr6.some gr,gr,gri,zlO okp6 gp,okp6.some gp,gp,gpi,decide_true,decide_false,jW,jY,Bool.not_true,Bool.not_false,Bool.true_or,Bool.or_true,Bool.or_false,Bool.false_or,Bool.and_true,Bool.true_and,Bool.and_false,Bool.false_and,Bool.false_eq_true,false_implies,true_and,and_true,implies_true,bne_self_eq_false,beq_self_eq_true,reduceCtorEq,hi0]
   refine znu (by as_aux_lemma=>kernel_rfl) ?_
   refine ⟨(),[0,1,2],?_⟩
   exact Gk
  ·have hi0:((0:Int) < i)=True:=eq_true (by omega)
   have gp1:i - 1 < p.l.length:=by omega
   have gp1i:((i - 1:Nat):Int) < p.l.length:=by omega
   have hw1:IntKind.i64.wrap ((i:Int) - 1)=((i - 1:Nat):Int):=by rw [zjz (by omega)];omega
   have b5:=V.step (i:=i - 1) (by omega)
   have b6:=V.wait (i:=i - 1) (by omega)
   rw [hsh,show i - 1+1=i by omega,hqi,← pasg (i - 1) gp1] at b5 b6
   have w1:(q.l[i] < p.l[i - 1].fin)=False:=eq_false (by omega)
   refine zno [41,42,43,46,47,44,48,45,49,50] rfl (by as_aux_lemma=>kernel_rfl) ?_
   simp (maxSteps:=2000000) only [go_sem,jq,jj,jy,jv,jk,jx,e1,e2,zkv okq6 gq,okq6.some gq,gq,gqi,zkv okq26 gq2,okq26.some gq2,gq2,gq2i,zkv okr6 gr,okr6.some gr,gr,gri,zlO okp6 gp,okp6.some gp,gp,gpi,decide_true,decide_false,jW,jY,Bool.not_true,Bool.not_false,Bool.true_or,Bool.or_true,Bool.or_false,Bool.false_or,Bool.and_true,Bool.true_and,Bool.and_false,Bool.false_and,Bool.false_eq_true,false_implies,true_and,and_true,implies_true,bne_self_eq_false,beq_self_eq_true,reduceCtorEq,hi0,hw1,zlO okp6 gp1,okp6.some gp1,gp1,gp1i,w1]
   refine zno [51,52,53,54,55,58,59,56,60,57] rfl (by as_aux_lemma=>kernel_rfl) ?_
   simp (maxSteps:=2000000) only [go_sem,jq,jj,jy,jv,jk,jx,e1,e2,zkv okq6 gq,okq6.some gq,gq,gqi,zkv okq26 gq2,okq26.some gq2,gq2,gq2i,zkv okr6 gr,okr6.some gr,gr,gri,zlO okp6 gp,okp6.some gp,gp,gpi,decide_true,decide_false,jW,jY,Bool.not_true,Bool.not_false,Bool.true_or,Bool.or_true,Bool.or_false,Bool.false_or,Bool.and_true,Bool.true_and,Bool.and_false,Bool.false_and,Bool.false_eq_true,false_implies,true_and,and_true,implies_true,bne_self_eq_false,beq_self_eq_true,reduceCtorEq,hi0,hw1,zlO okp6 gp1,okp6.some gp1,gp1,gp1i,w1]
   refine zno [61,62,63] rfl (by as_aux_lemma=>kernel_rfl) ?_
   simp (maxSteps:=2000000) only [go_sem,jq,jj,jy,jv,jk,jx,e1,e2,zkv okq6 gq,okq6.some gq,gq,gqi,zkv okq26 gq2,okq26.some gq2,gq2,gq2i,zkv okr6 gr,okr6.some gr,gr,gri,zlO okp6 gp,okp6.some gp,gp,gpi,decide_true,decide_false,jW,jY,Bool.not_true,Bool.not_false,Bool.true_or,Bool.or_true,Bool.or_false,Bool.false_or,Bool.and_true,Bool.true_and,Bool.and_false,Bool.false_and,Bool.false_eq_true,false_implies,true_and,and_true,implies_true,bne_self_eq_false,beq_self_eq_true,reduceCtorEq,hi0,hw1,zlO okp6 gp1,okp6.some gp1,gp1,gp1i,w1]
   rcases Int.lt_or_le p.l[i - 1].fin q.l[i] with h8|h8
   ·have w2:(p.l[i - 1].fin < q.l[i])=True:=eq_true h8
    have b7:=b6 h8
    have gpt:i < pts.l.length:=by omega
    have gpti:(i:Int) < pts.l.length:=by omega
    rw [← ept,iget gpt] at b7
    obtain ⟨gz0,gz1⟩:=zw6 V.hc ⟨cs0,cs1⟩ V.pk pts.l[i] (by rw [← ept];exact List.getElem_mem _)
    rw [zwZ] at gz1 b7
    have gz:pts.l[i].toNat < x.chart.points.l.length:=by omega
    have gzi:pts.l[i] < x.chart.points.l.length:=by omega
    have hwt:x.chart.points.l[pts.l[i].toNat].wait=true:=by rw [← pget gz];exact b7
    refine zno [64,65,66,69,70,67,71,68,72,73] rfl (by as_aux_lemma=>kernel_rfl) ?_
    simp (maxSteps:=2000000) only [go_sem,jq,jj,jy,jv,jk,jx,e1,e2,zkv okq6 gq,okq6.some gq,gq,gqi,zkv okq26 gq2,okq26.some gq2,gq2,gq2i,zkv okr6 gr,okr6.some gr,gr,gri,zlO okp6 gp,okp6.some gp,gp,gpi,decide_true,decide_false,jW,jY,Bool.not_true,Bool.not_false,Bool.true_or,Bool.or_true,Bool.or_false,Bool.false_or,Bool.and_true,Bool.true_and,Bool.and_false,Bool.false_and,Bool.false_eq_true,false_implies,true_and,and_true,implies_true,bne_self_eq_false,beq_self_eq_true,reduceCtorEq,hi0,hw1,zlO okp6 gp1,okp6.some gp1,gp1,gp1i,w1,w2,zkv okpt gpt,okpt.some gpt,gpt,gpti,gz,gzi,gz0,zlR okx6.2.1.1 gz,okx6.2.1.1.some gz,hwt]
    refine zno [74,75,76,77,78,79,80] rfl (by as_aux_lemma=>kernel_rfl) ?_
    simp (maxSteps:=2000000) only [go_sem,jq,jj,jy,jv,jk,jx,e1,e2,zkv okq6 gq,okq6.some gq,gq,gqi,zkv okq26 gq2,okq26.some gq2,gq2,gq2i,zkv okr6 gr,okr6.some gr,gr,gri,zlO okp6 gp,okp6.some gp,gp,gpi,decide_true,decide_false,jW,jY,Bool.not_true,Bool.not_false,Bool.true_or,Bool.or_true,Bool.or_false,Bool.false_or,Bool.and_true,Bool.true_and,Bool.and_false,Bool.false_and,Bool.false_eq_true,false_implies,true_and,and_true,implies_true,bne_self_eq_false,beq_self_eq_true,reduceCtorEq,hi0,hw1,zlO okp6 gp1,okp6.some gp1,gp1,gp1i,w1,w2,zkv okpt gpt,okpt.some gpt,gpt,gpti,gz,gzi,gz0,zlR okx6.2.1.1 gz,okx6.2.1.1.some gz,hwt]
    refine znu (by as_aux_lemma=>kernel_rfl) ?_
    refine ⟨(),[0,1,2],?_⟩
    exact Gk
   ·have w2:(p.l[i - 1].fin < q.l[i])=False:=eq_false (by omega)
    refine zno [64,65,66,69,70,67,71,68,72,73] rfl (by as_aux_lemma=>kernel_rfl) ?_
    simp (maxSteps:=2000000) only [go_sem,jq,jj,jy,jv,jk,jx,e1,e2,zkv okq6 gq,okq6.some gq,gq,gqi,zkv okq26 gq2,okq26.some gq2,gq2,gq2i,zkv okr6 gr,okr6.some gr,gr,gri,zlO okp6 gp,okp6.some gp,gp,gpi,decide_true,decide_false,jW,jY,Bool.not_true,Bool.not_false,Bool.true_or,Bool.or_true,Bool.or_false,Bool.false_or,Bool.and_true,Bool.true_and,Bool.and_false,Bool.false_and,Bool.false_eq_true,false_implies,true_and,and_true,implies_true,bne_self_eq_false,beq_self_eq_true,reduceCtorEq,hi0,hw1,zlO okp6 gp1,okp6.some gp1,gp1,gp1i,w1,w2]
    refine zno [74,75,76,77,78,79,80] rfl (by as_aux_lemma=>kernel_rfl) ?_
    simp (maxSteps:=2000000) only [go_sem,jq,jj,jy,jv,jk,jx,e1,e2,zkv okq6 gq,okq6.some gq,gq,gqi,zkv okq26 gq2,okq26.some gq2,gq2,gq2i,zkv okr6 gr,okr6.some gr,gr,gri,zlO okp6 gp,okp6.some gp,gp,gpi,decide_true,decide_false,jW,jY,Bool.not_true,Bool.not_false,Bool.true_or,Bool.or_true,Bool.or_false,Bool.false_or,Bool.and_true,Bool.true_and,Bool.and_false,Bool.false_and,Bool.false_eq_true,false_implies,true_and,and_true,implies_true,bne_self_eq_false,beq_self_eq_true,reduceCtorEq,hi0,hw1,zlO okp6 gp1,okp6.some gp1,gp1,gp1i,w1,w2]
    refine znu (by as_aux_lemma=>kernel_rfl) ?_
    refine ⟨(),[0,1,2],?_⟩
    exact Gk
 intro _ _
 repeat' first|refine zc8 ?_|(refine zc5 ?_;simp (maxSteps:=2000000) only [go_sem,jq,jj,jy,jv,jk,jx])|refine zc3 ?_
 refine zc9 rfl (fun hz=>?_) (fun hz=>?_)
 ·cases hz
 refine Wk ?_
 refine ⟨i+1,by omega,by omega,zjB (zjA hlt (by omega))⟩
end Go.Proofs.Ytdeflkhkfmjckaa
