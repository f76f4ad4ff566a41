/- What functions of the given program compute, as contracts. -/
import Derived.Test.YtdejfjdbcggilaaGreatSIsRefusalx23
set_option linter.unusedVariables false
set_option linter.unusedSimpArgs false
set_option maxRecDepth 4000
open Nat renaming reduceAdd → jq, reduceMul → jj, reduceBEq → jy, reduceLeDiff → jv, reduceLT → jk, reduceEqDiff → jx
open Bool renaming or_eq_false_iff → jp, or_eq_true → jQ, and_eq_true → jJ
open Int renaming toNat_natCast → jW, natCast_nonneg → jY
open Go.Proofs.Tryz renaming prog → jV
namespace Go.Proofs.YtdejfjdbcggilaaGreat
open Go Go.SL
set_option maxHeartbeats 1000000
def zLJ (x:PHarbour) (a:List DCall):Bool:=(zKf x a).2.2
def zLK (x:PHarbour) (a:List DCall) (l:List Int):Bool:=zAP x a && decide (Sel a.length l) && zLJ x (zJm a l)
def zOj (x:PHarbour) (a:List DCall) (l:List Int):Bool:=zAP x a && decide (Sel a.length l) && !zLK x a l && decide (∀ i,i < l.length→zLK x a (l.take i ++ l.drop (i+1))=true)
theorem zLL (x:DHarbour) (a:Sl DCall) (h:Hp) (hx:Enc.ok h x) (ha:a.Ok h):Ct jV 20 [x.v,a.val] h fun v h'=>v=.bool (zLJ (Con.con x) (Con.con a))∧h'=h:=by
 refine Ct.forget ?_
 refine zdn (fun A W=>by simp) Tryz.func20 rfl rfl (by simp) fun W0=>?_
 refine Wk ?_
 refine zkr (zK3 x a _ hx ha) rfl ?_
 rintro v h1 le1 ⟨s,rfl,es,oks,ms⟩
 refine Evs ?_
 exact Wk0
set_option maxRecDepth 30000 in
theorem zLM (x:DHarbour) (a:Sl DCall) (l:Sl Int) (h:Hp) (hx:Enc.ok h x) (ha:a.Ok h) (hl:l.Ok h) (hz:Sz.sz (Con.con l)≤1048576):Ct jV 25 [x.v,a.val,l.val] h fun v h'=>v=.bool (zLK (Con.con x) (Con.con a) (Con.con l))∧h'=h:=by
 have hla:=ha.max
 have hll:=hl.max
 have hcl:Con.con l=l.l:=con_ints
 have hca:Con.con a=a.l:=zAQ a
 refine Ct.forget ?_
 rw [zLK,hca,hcl]
 refine zdn (fun A W=>by simp) Tryz.func25 rfl rfl (by simp) fun W0=>?_
 refine Wk ?_
 cases hc:zAP (Con.con x) a.l with
 | false =>
  refine zyW rfl ?_
  refine U_t [0,1] rfl ?_
  simp only [go_sem,jq,jj,jy,jv,jk,jx,hc]
  refine U_1 2 0 [] rfl rfl ?_
  simp only [go_sem,jq,jj,jy,jv,jk,jx,hc]
  refine zhF (fun _=>zAS x a _ hx ha) ?_
  rw [zAQ]
  simp only [go_sem,jq,jj,jy,jv,jk,jx,hc]
  refine U_t [3,4,5] rfl ?_
  simp only [go_sem,jq,jj,jy,jv,jk,jx,hc]
  refine U_1 6 0 [] rfl rfl ?_
  simp only [go_sem,jq,jj,jy,jv,jk,jx,hc]
  refine zhF (V:=.bool false) (fun e=>by cases e) ?_
  simp only [go_sem,jq,jj,jy,jv,jk,jx,hc]
  refine U_t [7,8,9,10,11] rfl ?_
  simp only [go_sem,jq,jj,jy,jv,jk,jx,hc]
  refine U_1 12 0 [9] rfl rfl ?_
  simp only [go_sem,jq,jj,jy,jv,jk,jx,hc]
  refine zhF (V:=.slice none 0 0) (fun e=>by cases e) ?_
  simp only [go_sem,jq,jj,jy,jv,jk,jx,hc]
  refine U_1 13 0 [] rfl rfl ?_
  simp only [go_sem,jq,jj,jy,jv,jk,jx,hc]
  refine zhF (V:=.bool false) (fun e=>by cases e) ?_
  simp only [go_sem,jq,jj,jy,jv,jk,jx,hc]
  refine U_t [14,15] rfl ?_
  simp only [go_sem,jq,jj,jy,jv,jk,jx,hc]
  refine U_d ?_
  exact Wk0
 | true =>
  cases hs:decide (Sel a.l.length l.l) with
  | false =>
   refine zyW rfl ?_
   refine U_t [0,1] rfl ?_
   simp only [go_sem,jq,jj,jy,jv,jk,jx,hc,hs]
   refine U_1 2 0 [] rfl rfl ?_
   simp only [go_sem,jq,jj,jy,jv,jk,jx,hc,hs]
   refine zhF (fun _=>zAS x a _ hx ha) ?_
   rw [zAQ]
   simp only [go_sem,jq,jj,jy,jv,jk,jx,hc]
   refine U_t [3,4,5] rfl ?_
   simp only [go_sem,jq,jj,jy,jv,jk,jx,hc,hs]
   refine U_1 6 0 [] rfl rfl ?_
   simp only [go_sem,jq,jj,jy,jv,jk,jx,hc,hs]
   refine zhF (fun _=>zJl a l _ ha hl) ?_
   simp only [go_sem,jq,jj,jy,jv,jk,jx,hc,hs]
   refine U_t [7,8,9,10,11] rfl ?_
   simp only [go_sem,jq,jj,jy,jv,jk,jx,hc,hs]
   refine U_1 12 0 [9] rfl rfl ?_
   simp only [go_sem,jq,jj,jy,jv,jk,jx,hc,hs]
   refine zhF (V:=.slice none 0 0) (fun e=>by cases e) ?_
   simp only [go_sem,jq,jj,jy,jv,jk,jx,hc,hs]
   refine U_1 13 0 [] rfl rfl ?_
   simp only [go_sem,jq,jj,jy,jv,jk,jx,hc,hs]
   refine zhF (V:=.bool false) (fun e=>by cases e) ?_
   simp only [go_sem,jq,jj,jy,jv,jk,jx,hc,hs]
   refine U_t [14,15] rfl ?_
   simp only [go_sem,jq,jj,jy,jv,jk,jx,hc,hs]
   refine U_d ?_
   exact Wk0
  | true =>
   refine zyW rfl ?_
   refine U_t [0,1] rfl ?_
   simp only [go_sem,jq,jj,jy,jv,jk,jx,hc,hs]
   refine U_1 2 0 [] rfl rfl ?_
   simp only [go_sem,jq,jj,jy,jv,jk,jx,hc,hs]
   refine zhF (fun _=>zAS x a _ hx ha) ?_
   rw [zAQ]
   simp only [go_sem,jq,jj,jy,jv,jk,jx,hc]
   refine U_t [3,4,5] rfl ?_
   simp only [go_sem,jq,jj,jy,jv,jk,jx,hc,hs]
   refine U_1 6 0 [] rfl rfl ?_
   simp only [go_sem,jq,jj,jy,jv,jk,jx,hc,hs]
   refine zhF (fun _=>zJl a l _ ha hl) ?_
   simp only [go_sem,jq,jj,jy,jv,jk,jx,hc,hs]
   refine U_t [7,8,9,10,11] rfl ?_
   simp only [go_sem,jq,jj,jy,jv,jk,jx,hc,hs]
   refine U_1 12 0 [9] rfl rfl ?_
   simp only [go_sem,jq,jj,jy,jv,jk,jx,hc,hs]
   refine zkr (zJn a l _ ha hl hz) rfl ?_
   rintro v h1 le1 ⟨s,rfl,es,oks,ms⟩
   simp only [go_sem,jq,jj,jy,jv,jk,jx,hc,hs]
   refine U_1 13 0 [] rfl rfl ?_
   simp only [go_sem,jq,jj,jy,jv,jk,jx,hc,hs]
   refine zhF (fun _=>zLL x s _ (Enc.mono le1 hx) oks) ?_
   rw [es,hca,hcl]
   simp only [go_sem,jq,jj,jy,jv,jk,jx,hc,hs]
   refine U_t [14,15] rfl ?_
   simp only [go_sem,jq,jj,jy,jv,jk,jx,hc,hs]
   refine U_d ?_
   exact Wk0
theorem zOk (x:DHarbour) (a:Sl DCall) (h:Hp) (hx:Enc.ok h x) (ha:a.Ok h):Ct jV 17 [x.v,a.val] h fun v h'=>v=.bool (zLJ (Con.con x) (Con.con a))∧h'=h:=by
 refine Ct.forget ?_
 refine zdn (fun A W=>by simp) Tryz.func17 rfl rfl (by simp) fun W0=>?_
 refine Wk ?_
 refine zkr (zNw x a _ hx ha) rfl ?_
 rintro v h1 le1 ⟨s,rfl,es,oks,ms⟩
 refine Evs ?_
 exact Wk0
set_option maxRecDepth 30000 in
theorem zOl (x:DHarbour) (a:Sl DCall) (l:Sl Int) (h:Hp) (hx:Enc.ok h x) (ha:a.Ok h) (hl:l.Ok h) (hz:Sz.sz (Con.con l)≤1048576):Ct jV 23 [x.v,a.val,l.val] h fun v h'=>v=.bool (zLK (Con.con x) (Con.con a) (Con.con l))∧h'=h:=by
 have hla:=ha.max
 have hll:=hl.max
 have hcl:Con.con l=l.l:=con_ints
 have hca:Con.con a=a.l:=zAQ a
 refine Ct.forget ?_
 rw [zLK,hca,hcl]
 refine zdn (fun A W=>by simp) Tryz.func23 rfl rfl (by simp) fun W0=>?_
 refine Wk ?_
 cases hc:zAP (Con.con x) a.l with
 | false =>
  refine zyW rfl ?_
  refine U_t [0,1] rfl ?_
  simp only [go_sem,jq,jj,jy,jv,jk,jx,hc]
  refine U_1 2 0 [] rfl rfl ?_
  simp only [go_sem,jq,jj,jy,jv,jk,jx,hc]
  refine zhF (fun _=>zAR x a _ hx ha) ?_
  rw [zAQ]
  simp only [go_sem,jq,jj,jy,jv,jk,jx,hc]
  refine U_t [3,4,6,5] rfl ?_
  simp only [go_sem,jq,jj,jy,jv,jk,jx,hc]
  refine U_1 7 0 [] rfl rfl ?_
  simp only [go_sem,jq,jj,jy,jv,jk,jx,hc]
  refine zhF (V:=.bool false) (fun e=>by cases e) ?_
  simp only [go_sem,jq,jj,jy,jv,jk,jx,hc]
  refine U_t [8,9,10,11,12] rfl ?_
  simp only [go_sem,jq,jj,jy,jv,jk,jx,hc]
  refine U_1 13 0 [10] rfl rfl ?_
  simp only [go_sem,jq,jj,jy,jv,jk,jx,hc]
  refine zhF (V:=.slice none 0 0) (fun e=>by cases e) ?_
  simp only [go_sem,jq,jj,jy,jv,jk,jx,hc]
  refine U_1 14 0 [] rfl rfl ?_
  simp only [go_sem,jq,jj,jy,jv,jk,jx,hc]
  refine zhF (V:=.bool false) (fun e=>by cases e) ?_
  simp only [go_sem,jq,jj,jy,jv,jk,jx,hc]
  refine U_t [15,16] rfl ?_
  simp only [go_sem,jq,jj,jy,jv,jk,jx,hc]
  refine U_d ?_
  exact Wk0
 | true =>
  cases hs:decide (Sel a.l.length l.l) with
  | false =>
   refine zyW rfl ?_
   refine U_t [0,1] rfl ?_
   simp only [go_sem,jq,jj,jy,jv,jk,jx,hc,hs]
   refine U_1 2 0 [] rfl rfl ?_
   simp only [go_sem,jq,jj,jy,jv,jk,jx,hc,hs]
   refine zhF (fun _=>zAR x a _ hx ha) ?_
   rw [zAQ]
   simp only [go_sem,jq,jj,jy,jv,jk,jx,hc]
   refine U_t [3,4,6,5] rfl ?_
   simp only [go_sem,jq,jj,jy,jv,jk,jx,hc,hs]
   refine U_1 7 0 [] rfl rfl ?_
   simp only [go_sem,jq,jj,jy,jv,jk,jx,hc,hs]
   refine zhF (fun _=>zOf _ l _ (by omega) hl) ?_
   simp only [go_sem,jq,jj,jy,jv,jk,jx,hc,hs]
   refine U_t [8,9,10,11,12] rfl ?_
   simp only [go_sem,jq,jj,jy,jv,jk,jx,hc,hs]
   refine U_1 13 0 [10] rfl rfl ?_
   simp only [go_sem,jq,jj,jy,jv,jk,jx,hc,hs]
   refine zhF (V:=.slice none 0 0) (fun e=>by cases e) ?_
   simp only [go_sem,jq,jj,jy,jv,jk,jx,hc,hs]
   refine U_1 14 0 [] rfl rfl ?_
   simp only [go_sem,jq,jj,jy,jv,jk,jx,hc,hs]
   refine zhF (V:=.bool false) (fun e=>by cases e) ?_
   simp only [go_sem,jq,jj,jy,jv,jk,jx,hc,hs]
   refine U_t [15,16] rfl ?_
   simp only [go_sem,jq,jj,jy,jv,jk,jx,hc,hs]
   refine U_d ?_
   exact Wk0
  | true =>
   refine zyW rfl ?_
   refine U_t [0,1] rfl ?_
   simp only [go_sem,jq,jj,jy,jv,jk,jx,hc,hs]
   refine U_1 2 0 [] rfl rfl ?_
   simp only [go_sem,jq,jj,jy,jv,jk,jx,hc,hs]
   refine zhF (fun _=>zAR x a _ hx ha) ?_
   rw [zAQ]
   simp only [go_sem,jq,jj,jy,jv,jk,jx,hc]
   refine U_t [3,4,6,5] rfl ?_
   simp only [go_sem,jq,jj,jy,jv,jk,jx,hc,hs]
   refine U_1 7 0 [] rfl rfl ?_
   simp only [go_sem,jq,jj,jy,jv,jk,jx,hc,hs]
   refine zhF (fun _=>zOf _ l _ (by omega) hl) ?_
   simp only [go_sem,jq,jj,jy,jv,jk,jx,hc,hs]
   refine U_t [8,9,10,11,12] rfl ?_
   simp only [go_sem,jq,jj,jy,jv,jk,jx,hc,hs]
   refine U_1 13 0 [10] rfl rfl ?_
   simp only [go_sem,jq,jj,jy,jv,jk,jx,hc,hs]
   refine zkr (zOg a l _ ha hl hz) rfl ?_
   rintro v h1 le1 ⟨s,rfl,es,oks,ms⟩
   simp only [go_sem,jq,jj,jy,jv,jk,jx,hc,hs]
   refine U_1 14 0 [] rfl rfl ?_
   simp only [go_sem,jq,jj,jy,jv,jk,jx,hc,hs]
   refine zhF (fun _=>zOk x s _ (Enc.mono le1 hx) oks) ?_
   rw [es,hca,hcl]
   simp only [go_sem,jq,jj,jy,jv,jk,jx,hc,hs]
   refine U_t [15,16] rfl ?_
   simp only [go_sem,jq,jj,jy,jv,jk,jx,hc,hs]
   refine U_d ?_
   exact Wk0
set_option maxRecDepth 30000 in
theorem zOm (x:DHarbour) (a:Sl DCall) (l:Sl Int) (h:Hp) (hx:Enc.ok h x) (ha:a.Ok h) (hl:l.Ok h) (hz:Sz.sz (Con.con l)≤1048576):Ct jV 28 [x.v,a.val,l.val] h fun v h'=>v=.bool (zOj (Con.con x) (Con.con a) (Con.con l))∧h'=h:=by
 have hla:=ha.max
 have hll:=hl.max
 have hcl:Con.con l=l.l:=con_ints
 have hca:Con.con a=a.l:=zAQ a
 have hz1:l.l.length≤1048576:=by rw [hcl,znw] at hz;omega
 refine Ct.forget ?_
 rw [zOj,hca,hcl]
 refine zdn (fun A W=>by simp) Tryz.func28 rfl rfl (by simp) fun W0=>?_
 repeat' first|refine Wa ?_|refine zhF (fun _=>zAS x a _ hx ha) ?_|refine zhF (fun _=>zJl a l _ ha hl) ?_|refine zhF (fun _=>zLM x a l _ hx ha hl hz) ?_|(simp only [go_sem,jq,jj,jy,jv,jk,jx];try rfl)|refine Wb ?_|fail
 rw [hca,hcl]
 refine zc9 rfl (fun hq=>?_) (fun hq=>?_)
 ·refine Wk ?_
  congr 1
  cases h1:zAP (Con.con x) a.l <;> cases h2:decide (Sel a.l.length l.l) <;> cases h3:zLK (Con.con x) a.l l.l <;> simp_all
 have hq2:zAP (Con.con x) a.l=true∧decide (Sel a.l.length l.l)=true∧zLK (Con.con x) a.l l.l=false:=by
  simpa [and_assoc] using hq
 obtain ⟨hc,hs,hv⟩:=hq2
 rw [hc,hs,hv,Bool.not_false,Bool.and_true,Bool.true_and]
 refine Wk ?_
 refine zm1 (ι:=Nat) (fun k=>⟨[(1,true,.c (.v a.val)),(2,true,.c (.v l.val)),(3,true,.c (.p 0 0)),(6,true,.c (.v (.bool false))),(25,true,.c (.v (.int .i64 l.l.length))),(26,true,.c (.v (.int .i64 k)))],[(0,.box 58 [.v (.int .i64 x.forecast.tide.mean),.v x.forecast.tide.parts.val,.v x.forecast.surges.val,.v x.chart.points.val,.v x.chart.segments.val,.v x.fleet.val,.v (.int .i64 x.regime.gap),.v (.bool x.regime.noMeet),.v (.int .i64 x.crew.tugs),.v (.int .i64 x.crew.pilots),.v (.int .i64 x.crew.rest),.v x.crew.moves.val])],h,1⟩) (fun k=>k≤l.l.length∧∀ i,i < k→zLK (Con.con x) a.l (l.l.take i ++ l.l.drop (i+1))=true) (fun k=>l.l.length - k) 0 ⟨Nat.zero_le _,zAe⟩ [0] ?_ ?_
 ·refine Evs ?_
  exact Gk
 rintro k ⟨hk,hno⟩
 refine Wk ?_
 refine zc9 rfl (fun hd=>?_) (fun hd=>?_)
 ·have hlt:=zjH hd
  have hcp:=hl.1
  have hw1:IntKind.i64.wrap ((k:Int)+1)=((k+1:Nat):Int):=zjA hlt (by omega)
  have hsl:∀ (hp:Prop) (K:SV→Prop),zgh hp (((k+1:Nat)):Int) (l.l.length:Int) l.val 1 K=(hp∧K (.c (.v (l.fr (k+1)).val))):=fun hp K=>zOi (by omega)
  have hfl:(l.fr (k+1)).l.length=l.l.length - (k+1):=List.length_drop ..
  have hz2:Sz.sz (l.l.take k ++ l.l.drop (k+1))≤1048576:=by
   have h9:∀ q:List Int,(q.map Sz.sz).sum=0:=fun q=>by
    induction q with
    | nil=>rfl
    | cons y q ih=>rw [List.map_cons,List.sum_cons,ih];rfl
   rw [znw,h9,List.length_append,List.length_take,List.length_drop];omega
  refine Wk ?_
  refine zyW rfl ?_
  refine U_t [0,1,2,3,6,7,8] rfl ?_
  simp only [go_sem,jq,jj,jy,jv,jk,jx,hsl,hw1,jW,jY,Int.toNat_zero,Nat.zero_mul,zx1,zx2,ite_self,Nat.sub_zero]
  refine U_m 4 [9] ⟨?_,?_,trivial⟩
  ·refine U_b 4 0 [8,0] rfl rfl ?_
   simp only [go_sem,jq,jj,jy,jv,jk,jx,hsl,hw1,jW,jY,Int.toNat_zero,Nat.zero_mul,zx1,zx2,ite_self,Nat.sub_zero]
   refine ⟨by omega,?_⟩
   rw [zx3 (by omega)]
   try simp only [go_sem,jq,jj,jy,jv,jk,jx,hsl,hw1,jW,jY,Int.toNat_zero,Nat.zero_mul,zx1,zx2,ite_self,Nat.sub_zero]
   refine U_m 5 [9] ⟨?_,?_,trivial⟩
   ·refine U_b 5 0 [8,0] rfl rfl ?_
    simp only [go_sem,jq,jj,jy,jv,jk,jx,hsl,hw1,jW,jY,Int.toNat_zero,Nat.zero_mul,zx1,zx2,ite_self,Nat.sub_zero]
    refine zkr (zES (l.to k) _ (Sl.to_ok hl k) (by rw [Sl.to_len (by omega)];omega)) rfl ?_
    rintro v h1 le1 ⟨q,rfl,eq1,Rq,fq⟩
    try simp only [go_sem,jq,jj,jy,jv,jk,jx,hsl,hw1,jW,jY,Int.toNat_zero,Nat.zero_mul,zx1,zx2,ite_self,Nat.sub_zero]
    refine U_1 9 0 [0] rfl rfl ?_
    simp only [go_sem,jq,jj,jy,jv,jk,jx,hsl,hw1,jW,jY,Int.toNat_zero,Nat.zero_mul,zx1,zx2,ite_self,Nat.sub_zero]
    refine ⟨by omega,?_⟩
    try simp only [go_sem,jq,jj,jy,jv,jk,jx,hsl,hw1,jW,jY,Int.toNat_zero,Nat.zero_mul,zx1,zx2,ite_self,Nat.sub_zero]
    refine U_1 10 3 [0] rfl rfl ?_
    simp only [go_sem,jq,jj,jy,jv,jk,jx,hsl,hw1,jW,jY,Int.toNat_zero,Nat.zero_mul,zx1,zx2,ite_self,Nat.sub_zero]
    refine zCQ (s:=q) rfl Rq (fun g hg=>.inl (fq g hg)) ?_
    have hql:q.l.length=k:=by rw [eq1];exact Sl.to_len (by omega)
    have hall:(zCO h1 q).ldL (l.fr (k+1)).val 1=some ((l.fr (k+1)).l.flatMap Enc.enc):=(Sl.fr_ok (hl.mono (zCR le1 fq Rq.addr)) (k+1)).all (by decide)
    try simp only [go_sem,jq,jj,jy,jv,jk,jx,hsl,hw1,jW,jY,Int.toNat_zero,Nat.zero_mul,zx1,zx2,ite_self,Nat.sub_zero]
    simp only [hall,Option.isSome_some,Option.getD_some]
    refine ⟨trivial,rfl,fun u hu=>?_,by rw [hql,hfl];simp only [maxLen];omega,by rw [hql,hfl];omega,fun ad cap h2 P=>?_⟩
    ·rw [zCX] at hu
     obtain ⟨y,_,rfl⟩:=List.mem_map.1 hu
     rfl
    have P':Pub (zCO h1 q) 3 (Enc.size Int) (q.l ++ (l.fr (k+1)).l).length ((q.l ++ (l.fr (k+1)).l).flatMap Enc.enc) ad cap h2:=by
     rw [List.length_append,List.flatMap_append];exact P
    have led:=zCR le1 fq Rq.addr
    have k2:(Sl.mk ad cap (q.l ++ (l.fr (k+1)).l)).Ok h2:=Pub.sl (by decide) P' fun y hy=>by
     rcases List.mem_append.1 hy with hy|hy
     ·rw [eq1] at hy;exact hl.2.2.2.1 y (List.mem_of_mem_take hy)
     ·exact hl.2.2.2.1 y (List.mem_of_mem_drop hy)
    have le2:=Hp.le_trans led P'.le
    have hel:q.l ++ (l.fr (k+1)).l=l.l.take k ++ l.l.drop (k+1):=by rw [eq1];rfl
    rw [show Value.slice ad (q.l.length+(l.fr (k+1)).l.length) cap=(Sl.mk ad cap (q.l ++ (l.fr (k+1)).l)).val from by simp only [Sl.val,List.length_append]]
    try simp only [go_sem,jq,jj,jy,jv,jk,jx,hsl,hw1,jW,jY,Int.toNat_zero,Nat.zero_mul,zx1,zx2,ite_self,Nat.sub_zero]
    refine U_1 11 0 [] rfl rfl ?_
    simp only [go_sem,jq,jj,jy,jv,jk,jx,hsl,hw1,jW,jY,Int.toNat_zero,Nat.zero_mul,zx1,zx2,ite_self,Nat.sub_zero]
    refine zhF (fun _=>zLM x a ⟨ad,cap,q.l ++ (l.fr (k+1)).l⟩ _ (Enc.mono le2 hx) (ha.mono le2) k2 (by rw [con_ints];show Sz.sz (q.l ++ (l.fr (k+1)).l)≤_;rw [hel];exact hz2)) ?_
    rw [con_ints,hca,show (Sl.mk ad cap (q.l ++ (l.fr (k+1)).l)).l=l.l.take k ++ l.l.drop (k+1) from hel]
    try simp only [go_sem,jq,jj,jy,jv,jk,jx]
    refine U_t [12] rfl ?_
    simp only [go_sem,jq,jj,jy,jv,jk,jx,hsl,hw1,jW,jY,Int.toNat_zero,Nat.zero_mul,zx1,zx2,ite_self,Nat.sub_zero]
    refine U_d ?_
    refine zc9 rfl (fun hq=>?_) (fun hq=>?_)
    ·rw [Bool.not_eq_true'] at hq
     refine Wk ?_
     rw [decide_eq_false fun H=>by rw [H k hlt] at hq;cases hq]
    ·rw [Bool.not_eq_false'] at hq
     refine Wk ?_
     refine ⟨k+1,[0],⟨hlt,fun i hi=>?_⟩,by omega,?_⟩
     ·rcases Nat.lt_succ_iff_lt_or_eq.1 hi with hi|rfl
      ·exact hno i hi
      ·exact hq
     refine Evs ?_
     exact Gi (zjA hlt (by omega))
   ·refine U_b 9 0 [0] rfl rfl ?_
    simp only [go_sem,jq,jj,jy,jv,jk,jx,hsl,hw1,jW,jY,Int.toNat_zero,Nat.zero_mul,zx1,zx2,ite_self,Nat.sub_zero]
    refine ⟨by omega,?_⟩
    try simp only [go_sem,jq,jj,jy,jv,jk,jx,hsl,hw1,jW,jY,Int.toNat_zero,Nat.zero_mul,zx1,zx2,ite_self,Nat.sub_zero]
    refine U_1 5 0 [0] rfl rfl ?_
    simp only [go_sem,jq,jj,jy,jv,jk,jx,hsl,hw1,jW,jY,Int.toNat_zero,Nat.zero_mul,zx1,zx2,ite_self,Nat.sub_zero]
    refine zkr (zES (l.to k) _ (Sl.to_ok hl k) (by rw [Sl.to_len (by omega)];omega)) rfl ?_
    rintro v h1 le1 ⟨q,rfl,eq1,Rq,fq⟩
    try simp only [go_sem,jq,jj,jy,jv,jk,jx,hsl,hw1,jW,jY,Int.toNat_zero,Nat.zero_mul,zx1,zx2,ite_self,Nat.sub_zero]
    refine U_1 10 3 [0] rfl rfl ?_
    simp only [go_sem,jq,jj,jy,jv,jk,jx,hsl,hw1,jW,jY,Int.toNat_zero,Nat.zero_mul,zx1,zx2,ite_self,Nat.sub_zero]
    refine zCQ (s:=q) rfl Rq (fun g hg=>.inl (fq g hg)) ?_
    have hql:q.l.length=k:=by rw [eq1];exact Sl.to_len (by omega)
    have hall:(zCO h1 q).ldL (l.fr (k+1)).val 1=some ((l.fr (k+1)).l.flatMap Enc.enc):=(Sl.fr_ok (hl.mono (zCR le1 fq Rq.addr)) (k+1)).all (by decide)
    try simp only [go_sem,jq,jj,jy,jv,jk,jx,hsl,hw1,jW,jY,Int.toNat_zero,Nat.zero_mul,zx1,zx2,ite_self,Nat.sub_zero]
    simp only [hall,Option.isSome_some,Option.getD_some]
    refine ⟨trivial,rfl,fun u hu=>?_,by rw [hql,hfl];simp only [maxLen];omega,by rw [hql,hfl];omega,fun ad cap h2 P=>?_⟩
    ·rw [zCX] at hu
     obtain ⟨y,_,rfl⟩:=List.mem_map.1 hu
     rfl
    have P':Pub (zCO h1 q) 3 (Enc.size Int) (q.l ++ (l.fr (k+1)).l).length ((q.l ++ (l.fr (k+1)).l).flatMap Enc.enc) ad cap h2:=by
     rw [List.length_append,List.flatMap_append];exact P
    have led:=zCR le1 fq Rq.addr
    have k2:(Sl.mk ad cap (q.l ++ (l.fr (k+1)).l)).Ok h2:=Pub.sl (by decide) P' fun y hy=>by
     rcases List.mem_append.1 hy with hy|hy
     ·rw [eq1] at hy;exact hl.2.2.2.1 y (List.mem_of_mem_take hy)
     ·exact hl.2.2.2.1 y (List.mem_of_mem_drop hy)
    have le2:=Hp.le_trans led P'.le
    have hel:q.l ++ (l.fr (k+1)).l=l.l.take k ++ l.l.drop (k+1):=by rw [eq1];rfl
    rw [show Value.slice ad (q.l.length+(l.fr (k+1)).l.length) cap=(Sl.mk ad cap (q.l ++ (l.fr (k+1)).l)).val from by simp only [Sl.val,List.length_append]]
    try simp only [go_sem,jq,jj,jy,jv,jk,jx,hsl,hw1,jW,jY,Int.toNat_zero,Nat.zero_mul,zx1,zx2,ite_self,Nat.sub_zero]
    refine U_1 11 0 [] rfl rfl ?_
    simp only [go_sem,jq,jj,jy,jv,jk,jx,hsl,hw1,jW,jY,Int.toNat_zero,Nat.zero_mul,zx1,zx2,ite_self,Nat.sub_zero]
    refine zhF (fun _=>zLM x a ⟨ad,cap,q.l ++ (l.fr (k+1)).l⟩ _ (Enc.mono le2 hx) (ha.mono le2) k2 (by rw [con_ints];show Sz.sz (q.l ++ (l.fr (k+1)).l)≤_;rw [hel];exact hz2)) ?_
    rw [con_ints,hca,show (Sl.mk ad cap (q.l ++ (l.fr (k+1)).l)).l=l.l.take k ++ l.l.drop (k+1) from hel]
    try simp only [go_sem,jq,jj,jy,jv,jk,jx]
    refine U_t [12] rfl ?_
    simp only [go_sem,jq,jj,jy,jv,jk,jx,hsl,hw1,jW,jY,Int.toNat_zero,Nat.zero_mul,zx1,zx2,ite_self,Nat.sub_zero]
    refine U_d ?_
    refine zc9 rfl (fun hq=>?_) (fun hq=>?_)
    ·rw [Bool.not_eq_true'] at hq
     refine Wk ?_
     rw [decide_eq_false fun H=>by rw [H k hlt] at hq;cases hq]
    ·rw [Bool.not_eq_false'] at hq
     refine Wk ?_
     refine ⟨k+1,[0],⟨hlt,fun i hi=>?_⟩,by omega,?_⟩
     ·rcases Nat.lt_succ_iff_lt_or_eq.1 hi with hi|rfl
      ·exact hno i hi
      ·exact hq
     refine Evs ?_
     exact Gi (zjA hlt (by omega))
  ·refine U_b 9 0 [0] rfl rfl ?_
   simp only [go_sem,jq,jj,jy,jv,jk,jx,hsl,hw1,jW,jY,Int.toNat_zero,Nat.zero_mul,zx1,zx2,ite_self,Nat.sub_zero]
   refine ⟨by omega,?_⟩
   try simp only [go_sem,jq,jj,jy,jv,jk,jx,hsl,hw1,jW,jY,Int.toNat_zero,Nat.zero_mul,zx1,zx2,ite_self,Nat.sub_zero]
   refine U_1 4 0 [0] rfl rfl ?_
   simp only [go_sem,jq,jj,jy,jv,jk,jx,hsl,hw1,jW,jY,Int.toNat_zero,Nat.zero_mul,zx1,zx2,ite_self,Nat.sub_zero]
   refine ⟨by omega,?_⟩
   rw [zx3 (by omega)]
   try simp only [go_sem,jq,jj,jy,jv,jk,jx,hsl,hw1,jW,jY,Int.toNat_zero,Nat.zero_mul,zx1,zx2,ite_self,Nat.sub_zero]
   refine U_1 5 0 [0] rfl rfl ?_
   simp only [go_sem,jq,jj,jy,jv,jk,jx,hsl,hw1,jW,jY,Int.toNat_zero,Nat.zero_mul,zx1,zx2,ite_self,Nat.sub_zero]
   refine zkr (zES (l.to k) _ (Sl.to_ok hl k) (by rw [Sl.to_len (by omega)];omega)) rfl ?_
   rintro v h1 le1 ⟨q,rfl,eq1,Rq,fq⟩
   try simp only [go_sem,jq,jj,jy,jv,jk,jx,hsl,hw1,jW,jY,Int.toNat_zero,Nat.zero_mul,zx1,zx2,ite_self,Nat.sub_zero]
   refine U_1 10 3 [0] rfl rfl ?_
   simp only [go_sem,jq,jj,jy,jv,jk,jx,hsl,hw1,jW,jY,Int.toNat_zero,Nat.zero_mul,zx1,zx2,ite_self,Nat.sub_zero]
   refine zCQ (s:=q) rfl Rq (fun g hg=>.inl (fq g hg)) ?_
   have hql:q.l.length=k:=by rw [eq1];exact Sl.to_len (by omega)
   have hall:(zCO h1 q).ldL (l.fr (k+1)).val 1=some ((l.fr (k+1)).l.flatMap Enc.enc):=(Sl.fr_ok (hl.mono (zCR le1 fq Rq.addr)) (k+1)).all (by decide)
   try simp only [go_sem,jq,jj,jy,jv,jk,jx,hsl,hw1,jW,jY,Int.toNat_zero,Nat.zero_mul,zx1,zx2,ite_self,Nat.sub_zero]
   simp only [hall,Option.isSome_some,Option.getD_some]
   refine ⟨trivial,rfl,fun u hu=>?_,by rw [hql,hfl];simp only [maxLen];omega,by rw [hql,hfl];omega,fun ad cap h2 P=>?_⟩
   ·rw [zCX] at hu
    obtain ⟨y,_,rfl⟩:=List.mem_map.1 hu
    rfl
   have P':Pub (zCO h1 q) 3 (Enc.size Int) (q.l ++ (l.fr (k+1)).l).length ((q.l ++ (l.fr (k+1)).l).flatMap Enc.enc) ad cap h2:=by
    rw [List.length_append,List.flatMap_append];exact P
   have led:=zCR le1 fq Rq.addr
   have k2:(Sl.mk ad cap (q.l ++ (l.fr (k+1)).l)).Ok h2:=Pub.sl (by decide) P' fun y hy=>by
    rcases List.mem_append.1 hy with hy|hy
    ·rw [eq1] at hy;exact hl.2.2.2.1 y (List.mem_of_mem_take hy)
    ·exact hl.2.2.2.1 y (List.mem_of_mem_drop hy)
   have le2:=Hp.le_trans led P'.le
   have hel:q.l ++ (l.fr (k+1)).l=l.l.take k ++ l.l.drop (k+1):=by rw [eq1];rfl
   rw [show Value.slice ad (q.l.length+(l.fr (k+1)).l.length) cap=(Sl.mk ad cap (q.l ++ (l.fr (k+1)).l)).val from by simp only [Sl.val,List.length_append]]
   try simp only [go_sem,jq,jj,jy,jv,jk,jx,hsl,hw1,jW,jY,Int.toNat_zero,Nat.zero_mul,zx1,zx2,ite_self,Nat.sub_zero]
   refine U_1 11 0 [] rfl rfl ?_
   simp only [go_sem,jq,jj,jy,jv,jk,jx,hsl,hw1,jW,jY,Int.toNat_zero,Nat.zero_mul,zx1,zx2,ite_self,Nat.sub_zero]
   refine zhF (fun _=>zLM x a ⟨ad,cap,q.l ++ (l.fr (k+1)).l⟩ _ (Enc.mono le2 hx) (ha.mono le2) k2 (by rw [con_ints];show Sz.sz (q.l ++ (l.fr (k+1)).l)≤_;rw [hel];exact hz2)) ?_
   rw [con_ints,hca,show (Sl.mk ad cap (q.l ++ (l.fr (k+1)).l)).l=l.l.take k ++ l.l.drop (k+1) from hel]
   try simp only [go_sem,jq,jj,jy,jv,jk,jx]
   refine U_t [12] rfl ?_
   simp only [go_sem,jq,jj,jy,jv,jk,jx,hsl,hw1,jW,jY,Int.toNat_zero,Nat.zero_mul,zx1,zx2,ite_self,Nat.sub_zero]
   refine U_d ?_
   refine zc9 rfl (fun hq=>?_) (fun hq=>?_)
   ·rw [Bool.not_eq_true'] at hq
    refine Wk ?_
    rw [decide_eq_false fun H=>by rw [H k hlt] at hq;cases hq]
   ·rw [Bool.not_eq_false'] at hq
    refine Wk ?_
    refine ⟨k+1,[0],⟨hlt,fun i hi=>?_⟩,by omega,?_⟩
    ·rcases Nat.lt_succ_iff_lt_or_eq.1 hi with hi|rfl
     ·exact hno i hi
     ·exact hq
    refine Evs ?_
    exact Gi (zjA hlt (by omega))
 ·have hge:=zjI hd
  obtain rfl:k=l.l.length:=by omega
  refine Wk ?_
  rw [decide_eq_true hno]
set_option maxRecDepth 30000 in
theorem zOn (l:Sl Int) (k:Nat) (h:Hp) (hl:l.Ok h) (hk:k < l.l.length) (hz1:l.l.length≤1048576):Ct jV 78 [l.val,.int .i64 k] h fun v h'=>∃ s:Sl Int,v=s.val∧s.l=l.l.take k ++ l.l.drop (k+1)∧s.Ok h':=by
 have hll:=hl.max
 have hcp:=hl.1
 have hw1:IntKind.i64.wrap ((k:Int)+1)=((k+1:Nat):Int):=zjA hk (by omega)
 have hsl:∀ (hp:Prop) (K:SV→Prop),zgh hp (((k+1:Nat)):Int) (l.l.length:Int) l.val 1 K=(hp∧K (.c (.v (l.fr (k+1)).val))):=fun hp K=>zOi (by omega)
 have hfl:(l.fr (k+1)).l.length=l.l.length - (k+1):=List.length_drop ..
 have hall1:h.ldL (l.to k).val 1=some ((l.to k).l.flatMap Enc.enc):=(Sl.to_ok hl k).all (by decide)
 have hall2:h.ldL (l.fr (k+1)).val 1=some ((l.fr (k+1)).l.flatMap Enc.enc):=(Sl.fr_ok hl (k+1)).all (by decide)
 have hone:∀ (q:List Int) (u:Value),u ∈ q.flatMap Enc.enc→u.oneCell'=true:=fun q u hu=>by
  rw [zCX] at hu
  obtain ⟨y,_,rfl⟩:=List.mem_map.1 hu
  rfl
 refine zdn (fun A W=>by simp) Tryz.func78 rfl rfl (by simp) fun W0=>?_
 refine Wk ?_
 refine zyW rfl ?_
 refine U_t [1,2,5,6,7] rfl ?_
 simp only [go_sem,jq,jj,jy,jv,jk,jx,hsl,hw1,jW,jY,Int.toNat_zero,Nat.zero_mul,zx1,zx2,ite_self,Nat.sub_zero]
 refine U_m 0 [3,8] ⟨?_,?_,?_,trivial⟩
 ·refine U_b 0 0 [7] rfl rfl ?_
  simp only [go_sem,jq,jj,jy,jv,jk,jx,hsl,hw1,jW,jY,Int.toNat_zero,Nat.zero_mul,zx1,zx2,ite_self,Nat.sub_zero]
  refine U_m 3 [8] ⟨?_,?_,trivial⟩
  ·refine U_b 3 0 [7] rfl rfl ?_
   simp only [go_sem,jq,jj,jy,jv,jk,jx,hsl,hw1,jW,jY,Int.toNat_zero,Nat.zero_mul,zx1,zx2,ite_self,Nat.sub_zero]
   refine ⟨by omega,?_⟩
   rw [zx3 (by omega)]
   try simp only [go_sem,jq,jj,jy,jv,jk,jx,hsl,hw1,jW,jY,Int.toNat_zero,Nat.zero_mul,zx1,zx2,ite_self,Nat.sub_zero]
   refine U_m 4 [8] ⟨?_,?_,trivial⟩
   ·refine U_b 4 0 [7] rfl rfl ?_
    simp only [go_sem,jq,jj,jy,jv,jk,jx,hsl,hw1,jW,jY,Int.toNat_zero,Nat.zero_mul,zx1,zx2,ite_self,Nat.sub_zero]
    simp only [hall1,Option.isSome_some,Option.getD_some]
    refine ⟨trivial,fun u hu=>hone _ u hu,by rw [Sl.to_len (by omega)];simp only [maxLen];omega,by rw [Sl.to_len (by omega)];omega,?_⟩
    try simp only [go_sem,jq,jj,jy,jv,jk,jx,hsl,hw1,jW,jY,Int.toNat_zero,Nat.zero_mul,zx1,zx2,ite_self,Nat.sub_zero]
    refine U_1 8 0 [] rfl rfl ?_
    simp only [go_sem,jq,jj,jy,jv,jk,jx,hsl,hw1,jW,jY,Int.toNat_zero,Nat.zero_mul,zx1,zx2,ite_self,Nat.sub_zero]
    refine ⟨by omega,?_⟩
    try simp only [go_sem,jq,jj,jy,jv,jk,jx,hsl,hw1,jW,jY,Int.toNat_zero,Nat.zero_mul,zx1,zx2,ite_self,Nat.sub_zero]
    refine U_1 9 0 [] rfl rfl ?_
    simp only [go_sem,jq,jj,jy,jv,jk,jx,hsl,hw1,jW,jY,Int.toNat_zero,Nat.zero_mul,zx1,zx2,ite_self,Nat.sub_zero]
    simp only [hall2,Option.isSome_some,Option.getD_some]
    refine ⟨trivial,fun u hu=>hone _ u hu,by rw [Sl.to_len (by omega),hfl];simp only [maxLen];omega,by rw [Sl.to_len (by omega),hfl];omega,?_⟩
    try simp only [go_sem,jq,jj,jy,jv,jk,jx,hsl,hw1,jW,jY,Int.toNat_zero,Nat.zero_mul,zx1,zx2,ite_self,Nat.sub_zero]
    refine U_t [10] rfl ?_
    simp only [go_sem,jq,jj,jy,jv,jk,jx,hsl,hw1,jW,jY,Int.toNat_zero,Nat.zero_mul,zx1,zx2,ite_self,Nat.sub_zero]
    refine U_d ?_
    refine zjQ 2 (l.l.take k ++ l.l.drop (k+1)) rfl rfl ?_ ?_ (by decide) (fun y hy=>?_) fun s h' e1 e2 _ _ _=>?_
    ·rw [List.length_append];show 0+(l.l.take k).length+(l.l.drop (k+1)).length=_;omega
    ·rw [List.flatMap_append];rfl
    ·rcases List.mem_append.1 hy with hy|hy
     ·exact hl.2.2.2.1 y (List.mem_of_mem_take hy)
     ·exact hl.2.2.2.1 y (List.mem_of_mem_drop hy)
    refine Wk ?_
    exact ⟨s,rfl,e1,e2⟩
   ·refine U_b 8 0 [] rfl rfl ?_
    simp only [go_sem,jq,jj,jy,jv,jk,jx,hsl,hw1,jW,jY,Int.toNat_zero,Nat.zero_mul,zx1,zx2,ite_self,Nat.sub_zero]
    refine ⟨by omega,?_⟩
    try simp only [go_sem,jq,jj,jy,jv,jk,jx,hsl,hw1,jW,jY,Int.toNat_zero,Nat.zero_mul,zx1,zx2,ite_self,Nat.sub_zero]
    refine U_1 4 0 [] rfl rfl ?_
    simp only [go_sem,jq,jj,jy,jv,jk,jx,hsl,hw1,jW,jY,Int.toNat_zero,Nat.zero_mul,zx1,zx2,ite_self,Nat.sub_zero]
    simp only [hall1,Option.isSome_some,Option.getD_some]
    refine ⟨trivial,fun u hu=>hone _ u hu,by rw [Sl.to_len (by omega)];simp only [maxLen];omega,by rw [Sl.to_len (by omega)];omega,?_⟩
    try simp only [go_sem,jq,jj,jy,jv,jk,jx,hsl,hw1,jW,jY,Int.toNat_zero,Nat.zero_mul,zx1,zx2,ite_self,Nat.sub_zero]
    refine U_1 9 0 [] rfl rfl ?_
    simp only [go_sem,jq,jj,jy,jv,jk,jx,hsl,hw1,jW,jY,Int.toNat_zero,Nat.zero_mul,zx1,zx2,ite_self,Nat.sub_zero]
    simp only [hall2,Option.isSome_some,Option.getD_some]
    refine ⟨trivial,fun u hu=>hone _ u hu,by rw [Sl.to_len (by omega),hfl];simp only [maxLen];omega,by rw [Sl.to_len (by omega),hfl];omega,?_⟩
    try simp only [go_sem,jq,jj,jy,jv,jk,jx,hsl,hw1,jW,jY,Int.toNat_zero,Nat.zero_mul,zx1,zx2,ite_self,Nat.sub_zero]
    refine U_t [10] rfl ?_
    simp only [go_sem,jq,jj,jy,jv,jk,jx,hsl,hw1,jW,jY,Int.toNat_zero,Nat.zero_mul,zx1,zx2,ite_self,Nat.sub_zero]
    refine U_d ?_
    refine zjQ 2 (l.l.take k ++ l.l.drop (k+1)) rfl rfl ?_ ?_ (by decide) (fun y hy=>?_) fun s h' e1 e2 _ _ _=>?_
    ·rw [List.length_append];show 0+(l.l.take k).length+(l.l.drop (k+1)).length=_;omega
    ·rw [List.flatMap_append];rfl
    ·rcases List.mem_append.1 hy with hy|hy
     ·exact hl.2.2.2.1 y (List.mem_of_mem_take hy)
     ·exact hl.2.2.2.1 y (List.mem_of_mem_drop hy)
    refine Wk ?_
    exact ⟨s,rfl,e1,e2⟩
  ·refine U_b 8 0 [] rfl rfl ?_
   simp only [go_sem,jq,jj,jy,jv,jk,jx,hsl,hw1,jW,jY,Int.toNat_zero,Nat.zero_mul,zx1,zx2,ite_self,Nat.sub_zero]
   refine ⟨by omega,?_⟩
   try simp only [go_sem,jq,jj,jy,jv,jk,jx,hsl,hw1,jW,jY,Int.toNat_zero,Nat.zero_mul,zx1,zx2,ite_self,Nat.sub_zero]
   refine U_1 3 0 [] rfl rfl ?_
   simp only [go_sem,jq,jj,jy,jv,jk,jx,hsl,hw1,jW,jY,Int.toNat_zero,Nat.zero_mul,zx1,zx2,ite_self,Nat.sub_zero]
   refine ⟨by omega,?_⟩
   rw [zx3 (by omega)]
   try simp only [go_sem,jq,jj,jy,jv,jk,jx,hsl,hw1,jW,jY,Int.toNat_zero,Nat.zero_mul,zx1,zx2,ite_self,Nat.sub_zero]
   refine U_1 4 0 [] rfl rfl ?_
   simp only [go_sem,jq,jj,jy,jv,jk,jx,hsl,hw1,jW,jY,Int.toNat_zero,Nat.zero_mul,zx1,zx2,ite_self,Nat.sub_zero]
   simp only [hall1,Option.isSome_some,Option.getD_some]
   refine ⟨trivial,fun u hu=>hone _ u hu,by rw [Sl.to_len (by omega)];simp only [maxLen];omega,by rw [Sl.to_len (by omega)];omega,?_⟩
   try simp only [go_sem,jq,jj,jy,jv,jk,jx,hsl,hw1,jW,jY,Int.toNat_zero,Nat.zero_mul,zx1,zx2,ite_self,Nat.sub_zero]
   refine U_1 9 0 [] rfl rfl ?_
   simp only [go_sem,jq,jj,jy,jv,jk,jx,hsl,hw1,jW,jY,Int.toNat_zero,Nat.zero_mul,zx1,zx2,ite_self,Nat.sub_zero]
   simp only [hall2,Option.isSome_some,Option.getD_some]
   refine ⟨trivial,fun u hu=>hone _ u hu,by rw [Sl.to_len (by omega),hfl];simp only [maxLen];omega,by rw [Sl.to_len (by omega),hfl];omega,?_⟩
   try simp only [go_sem,jq,jj,jy,jv,jk,jx,hsl,hw1,jW,jY,Int.toNat_zero,Nat.zero_mul,zx1,zx2,ite_self,Nat.sub_zero]
   refine U_t [10] rfl ?_
   simp only [go_sem,jq,jj,jy,jv,jk,jx,hsl,hw1,jW,jY,Int.toNat_zero,Nat.zero_mul,zx1,zx2,ite_self,Nat.sub_zero]
   refine U_d ?_
   refine zjQ 2 (l.l.take k ++ l.l.drop (k+1)) rfl rfl ?_ ?_ (by decide) (fun y hy=>?_) fun s h' e1 e2 _ _ _=>?_
   ·rw [List.length_append];show 0+(l.l.take k).length+(l.l.drop (k+1)).length=_;omega
   ·rw [List.flatMap_append];rfl
   ·rcases List.mem_append.1 hy with hy|hy
    ·exact hl.2.2.2.1 y (List.mem_of_mem_take hy)
    ·exact hl.2.2.2.1 y (List.mem_of_mem_drop hy)
   refine Wk ?_
   exact ⟨s,rfl,e1,e2⟩
 ·refine U_b 3 0 [7] rfl rfl ?_
  simp only [go_sem,jq,jj,jy,jv,jk,jx,hsl,hw1,jW,jY,Int.toNat_zero,Nat.zero_mul,zx1,zx2,ite_self,Nat.sub_zero]
  refine ⟨by omega,?_⟩
  rw [zx3 (by omega)]
  try simp only [go_sem,jq,jj,jy,jv,jk,jx,hsl,hw1,jW,jY,Int.toNat_zero,Nat.zero_mul,zx1,zx2,ite_self,Nat.sub_zero]
  refine U_m 0 [8] ⟨?_,?_,trivial⟩
  ·refine U_b 0 0 [7] rfl rfl ?_
   simp only [go_sem,jq,jj,jy,jv,jk,jx,hsl,hw1,jW,jY,Int.toNat_zero,Nat.zero_mul,zx1,zx2,ite_self,Nat.sub_zero]
   refine U_m 4 [8] ⟨?_,?_,trivial⟩
   ·refine U_b 4 0 [7] rfl rfl ?_
    simp only [go_sem,jq,jj,jy,jv,jk,jx,hsl,hw1,jW,jY,Int.toNat_zero,Nat.zero_mul,zx1,zx2,ite_self,Nat.sub_zero]
    simp only [hall1,Option.isSome_some,Option.getD_some]
    refine ⟨trivial,fun u hu=>hone _ u hu,by rw [Sl.to_len (by omega)];simp only [maxLen];omega,by rw [Sl.to_len (by omega)];omega,?_⟩
    try simp only [go_sem,jq,jj,jy,jv,jk,jx,hsl,hw1,jW,jY,Int.toNat_zero,Nat.zero_mul,zx1,zx2,ite_self,Nat.sub_zero]
    refine U_1 8 0 [] rfl rfl ?_
    simp only [go_sem,jq,jj,jy,jv,jk,jx,hsl,hw1,jW,jY,Int.toNat_zero,Nat.zero_mul,zx1,zx2,ite_self,Nat.sub_zero]
    refine ⟨by omega,?_⟩
    try simp only [go_sem,jq,jj,jy,jv,jk,jx,hsl,hw1,jW,jY,Int.toNat_zero,Nat.zero_mul,zx1,zx2,ite_self,Nat.sub_zero]
    refine U_1 9 0 [] rfl rfl ?_
    simp only [go_sem,jq,jj,jy,jv,jk,jx,hsl,hw1,jW,jY,Int.toNat_zero,Nat.zero_mul,zx1,zx2,ite_self,Nat.sub_zero]
    simp only [hall2,Option.isSome_some,Option.getD_some]
    refine ⟨trivial,fun u hu=>hone _ u hu,by rw [Sl.to_len (by omega),hfl];simp only [maxLen];omega,by rw [Sl.to_len (by omega),hfl];omega,?_⟩
    try simp only [go_sem,jq,jj,jy,jv,jk,jx,hsl,hw1,jW,jY,Int.toNat_zero,Nat.zero_mul,zx1,zx2,ite_self,Nat.sub_zero]
    refine U_t [10] rfl ?_
    simp only [go_sem,jq,jj,jy,jv,jk,jx,hsl,hw1,jW,jY,Int.toNat_zero,Nat.zero_mul,zx1,zx2,ite_self,Nat.sub_zero]
    refine U_d ?_
    refine zjQ 2 (l.l.take k ++ l.l.drop (k+1)) rfl rfl ?_ ?_ (by decide) (fun y hy=>?_) fun s h' e1 e2 _ _ _=>?_
    ·rw [List.length_append];show 0+(l.l.take k).length+(l.l.drop (k+1)).length=_;omega
    ·rw [List.flatMap_append];rfl
    ·rcases List.mem_append.1 hy with hy|hy
     ·exact hl.2.2.2.1 y (List.mem_of_mem_take hy)
     ·exact hl.2.2.2.1 y (List.mem_of_mem_drop hy)
    refine Wk ?_
    exact ⟨s,rfl,e1,e2⟩
   ·refine U_b 8 0 [] rfl rfl ?_
    simp only [go_sem,jq,jj,jy,jv,jk,jx,hsl,hw1,jW,jY,Int.toNat_zero,Nat.zero_mul,zx1,zx2,ite_self,Nat.sub_zero]
    refine ⟨by omega,?_⟩
    try simp only [go_sem,jq,jj,jy,jv,jk,jx,hsl,hw1,jW,jY,Int.toNat_zero,Nat.zero_mul,zx1,zx2,ite_self,Nat.sub_zero]
    refine U_1 4 0 [] rfl rfl ?_
    simp only [go_sem,jq,jj,jy,jv,jk,jx,hsl,hw1,jW,jY,Int.toNat_zero,Nat.zero_mul,zx1,zx2,ite_self,Nat.sub_zero]
    simp only [hall1,Option.isSome_some,Option.getD_some]
    refine ⟨trivial,fun u hu=>hone _ u hu,by rw [Sl.to_len (by omega)];simp only [maxLen];omega,by rw [Sl.to_len (by omega)];omega,?_⟩
    try simp only [go_sem,jq,jj,jy,jv,jk,jx,hsl,hw1,jW,jY,Int.toNat_zero,Nat.zero_mul,zx1,zx2,ite_self,Nat.sub_zero]
    refine U_1 9 0 [] rfl rfl ?_
    simp only [go_sem,jq,jj,jy,jv,jk,jx,hsl,hw1,jW,jY,Int.toNat_zero,Nat.zero_mul,zx1,zx2,ite_self,Nat.sub_zero]
    simp only [hall2,Option.isSome_some,Option.getD_some]
    refine ⟨trivial,fun u hu=>hone _ u hu,by rw [Sl.to_len (by omega),hfl];simp only [maxLen];omega,by rw [Sl.to_len (by omega),hfl];omega,?_⟩
    try simp only [go_sem,jq,jj,jy,jv,jk,jx,hsl,hw1,jW,jY,Int.toNat_zero,Nat.zero_mul,zx1,zx2,ite_self,Nat.sub_zero]
    refine U_t [10] rfl ?_
    simp only [go_sem,jq,jj,jy,jv,jk,jx,hsl,hw1,jW,jY,Int.toNat_zero,Nat.zero_mul,zx1,zx2,ite_self,Nat.sub_zero]
    refine U_d ?_
    refine zjQ 2 (l.l.take k ++ l.l.drop (k+1)) rfl rfl ?_ ?_ (by decide) (fun y hy=>?_) fun s h' e1 e2 _ _ _=>?_
    ·rw [List.length_append];show 0+(l.l.take k).length+(l.l.drop (k+1)).length=_;omega
    ·rw [List.flatMap_append];rfl
    ·rcases List.mem_append.1 hy with hy|hy
     ·exact hl.2.2.2.1 y (List.mem_of_mem_take hy)
     ·exact hl.2.2.2.1 y (List.mem_of_mem_drop hy)
    refine Wk ?_
    exact ⟨s,rfl,e1,e2⟩
  ·refine U_b 8 0 [] rfl rfl ?_
   simp only [go_sem,jq,jj,jy,jv,jk,jx,hsl,hw1,jW,jY,Int.toNat_zero,Nat.zero_mul,zx1,zx2,ite_self,Nat.sub_zero]
   refine ⟨by omega,?_⟩
   try simp only [go_sem,jq,jj,jy,jv,jk,jx,hsl,hw1,jW,jY,Int.toNat_zero,Nat.zero_mul,zx1,zx2,ite_self,Nat.sub_zero]
   refine U_1 0 0 [] rfl rfl ?_
   simp only [go_sem,jq,jj,jy,jv,jk,jx,hsl,hw1,jW,jY,Int.toNat_zero,Nat.zero_mul,zx1,zx2,ite_self,Nat.sub_zero]
   refine U_1 4 0 [] rfl rfl ?_
   simp only [go_sem,jq,jj,jy,jv,jk,jx,hsl,hw1,jW,jY,Int.toNat_zero,Nat.zero_mul,zx1,zx2,ite_self,Nat.sub_zero]
   simp only [hall1,Option.isSome_some,Option.getD_some]
   refine ⟨trivial,fun u hu=>hone _ u hu,by rw [Sl.to_len (by omega)];simp only [maxLen];omega,by rw [Sl.to_len (by omega)];omega,?_⟩
   try simp only [go_sem,jq,jj,jy,jv,jk,jx,hsl,hw1,jW,jY,Int.toNat_zero,Nat.zero_mul,zx1,zx2,ite_self,Nat.sub_zero]
   refine U_1 9 0 [] rfl rfl ?_
   simp only [go_sem,jq,jj,jy,jv,jk,jx,hsl,hw1,jW,jY,Int.toNat_zero,Nat.zero_mul,zx1,zx2,ite_self,Nat.sub_zero]
   simp only [hall2,Option.isSome_some,Option.getD_some]
   refine ⟨trivial,fun u hu=>hone _ u hu,by rw [Sl.to_len (by omega),hfl];simp only [maxLen];omega,by rw [Sl.to_len (by omega),hfl];omega,?_⟩
   try simp only [go_sem,jq,jj,jy,jv,jk,jx,hsl,hw1,jW,jY,Int.toNat_zero,Nat.zero_mul,zx1,zx2,ite_self,Nat.sub_zero]
   refine U_t [10] rfl ?_
   simp only [go_sem,jq,jj,jy,jv,jk,jx,hsl,hw1,jW,jY,Int.toNat_zero,Nat.zero_mul,zx1,zx2,ite_self,Nat.sub_zero]
   refine U_d ?_
   refine zjQ 2 (l.l.take k ++ l.l.drop (k+1)) rfl rfl ?_ ?_ (by decide) (fun y hy=>?_) fun s h' e1 e2 _ _ _=>?_
   ·rw [List.length_append];show 0+(l.l.take k).length+(l.l.drop (k+1)).length=_;omega
   ·rw [List.flatMap_append];rfl
   ·rcases List.mem_append.1 hy with hy|hy
    ·exact hl.2.2.2.1 y (List.mem_of_mem_take hy)
    ·exact hl.2.2.2.1 y (List.mem_of_mem_drop hy)
   refine Wk ?_
   exact ⟨s,rfl,e1,e2⟩
 ·refine U_b 8 0 [] rfl rfl ?_
  simp only [go_sem,jq,jj,jy,jv,jk,jx,hsl,hw1,jW,jY,Int.toNat_zero,Nat.zero_mul,zx1,zx2,ite_self,Nat.sub_zero]
  refine ⟨by omega,?_⟩
  try simp only [go_sem,jq,jj,jy,jv,jk,jx,hsl,hw1,jW,jY,Int.toNat_zero,Nat.zero_mul,zx1,zx2,ite_self,Nat.sub_zero]
  refine U_m 0 [3] ⟨?_,?_,trivial⟩
  ·refine U_b 0 0 [] rfl rfl ?_
   simp only [go_sem,jq,jj,jy,jv,jk,jx,hsl,hw1,jW,jY,Int.toNat_zero,Nat.zero_mul,zx1,zx2,ite_self,Nat.sub_zero]
   refine U_1 3 0 [] rfl rfl ?_
   simp only [go_sem,jq,jj,jy,jv,jk,jx,hsl,hw1,jW,jY,Int.toNat_zero,Nat.zero_mul,zx1,zx2,ite_self,Nat.sub_zero]
   refine ⟨by omega,?_⟩
   rw [zx3 (by omega)]
   try simp only [go_sem,jq,jj,jy,jv,jk,jx,hsl,hw1,jW,jY,Int.toNat_zero,Nat.zero_mul,zx1,zx2,ite_self,Nat.sub_zero]
   refine U_1 4 0 [] rfl rfl ?_
   simp only [go_sem,jq,jj,jy,jv,jk,jx,hsl,hw1,jW,jY,Int.toNat_zero,Nat.zero_mul,zx1,zx2,ite_self,Nat.sub_zero]
   simp only [hall1,Option.isSome_some,Option.getD_some]
   refine ⟨trivial,fun u hu=>hone _ u hu,by rw [Sl.to_len (by omega)];simp only [maxLen];omega,by rw [Sl.to_len (by omega)];omega,?_⟩
   try simp only [go_sem,jq,jj,jy,jv,jk,jx,hsl,hw1,jW,jY,Int.toNat_zero,Nat.zero_mul,zx1,zx2,ite_self,Nat.sub_zero]
   refine U_1 9 0 [] rfl rfl ?_
   simp only [go_sem,jq,jj,jy,jv,jk,jx,hsl,hw1,jW,jY,Int.toNat_zero,Nat.zero_mul,zx1,zx2,ite_self,Nat.sub_zero]
   simp only [hall2,Option.isSome_some,Option.getD_some]
   refine ⟨trivial,fun u hu=>hone _ u hu,by rw [Sl.to_len (by omega),hfl];simp only [maxLen];omega,by rw [Sl.to_len (by omega),hfl];omega,?_⟩
   try simp only [go_sem,jq,jj,jy,jv,jk,jx,hsl,hw1,jW,jY,Int.toNat_zero,Nat.zero_mul,zx1,zx2,ite_self,Nat.sub_zero]
   refine U_t [10] rfl ?_
   simp only [go_sem,jq,jj,jy,jv,jk,jx,hsl,hw1,jW,jY,Int.toNat_zero,Nat.zero_mul,zx1,zx2,ite_self,Nat.sub_zero]
   refine U_d ?_
   refine zjQ 2 (l.l.take k ++ l.l.drop (k+1)) rfl rfl ?_ ?_ (by decide) (fun y hy=>?_) fun s h' e1 e2 _ _ _=>?_
   ·rw [List.length_append];show 0+(l.l.take k).length+(l.l.drop (k+1)).length=_;omega
   ·rw [List.flatMap_append];rfl
   ·rcases List.mem_append.1 hy with hy|hy
    ·exact hl.2.2.2.1 y (List.mem_of_mem_take hy)
    ·exact hl.2.2.2.1 y (List.mem_of_mem_drop hy)
   refine Wk ?_
   exact ⟨s,rfl,e1,e2⟩
  ·refine U_b 3 0 [] rfl rfl ?_
   simp only [go_sem,jq,jj,jy,jv,jk,jx,hsl,hw1,jW,jY,Int.toNat_zero,Nat.zero_mul,zx1,zx2,ite_self,Nat.sub_zero]
   refine ⟨by omega,?_⟩
   rw [zx3 (by omega)]
   try simp only [go_sem,jq,jj,jy,jv,jk,jx,hsl,hw1,jW,jY,Int.toNat_zero,Nat.zero_mul,zx1,zx2,ite_self,Nat.sub_zero]
   refine U_1 0 0 [] rfl rfl ?_
   simp only [go_sem,jq,jj,jy,jv,jk,jx,hsl,hw1,jW,jY,Int.toNat_zero,Nat.zero_mul,zx1,zx2,ite_self,Nat.sub_zero]
   refine U_1 4 0 [] rfl rfl ?_
   simp only [go_sem,jq,jj,jy,jv,jk,jx,hsl,hw1,jW,jY,Int.toNat_zero,Nat.zero_mul,zx1,zx2,ite_self,Nat.sub_zero]
   simp only [hall1,Option.isSome_some,Option.getD_some]
   refine ⟨trivial,fun u hu=>hone _ u hu,by rw [Sl.to_len (by omega)];simp only [maxLen];omega,by rw [Sl.to_len (by omega)];omega,?_⟩
   try simp only [go_sem,jq,jj,jy,jv,jk,jx,hsl,hw1,jW,jY,Int.toNat_zero,Nat.zero_mul,zx1,zx2,ite_self,Nat.sub_zero]
   refine U_1 9 0 [] rfl rfl ?_
   simp only [go_sem,jq,jj,jy,jv,jk,jx,hsl,hw1,jW,jY,Int.toNat_zero,Nat.zero_mul,zx1,zx2,ite_self,Nat.sub_zero]
   simp only [hall2,Option.isSome_some,Option.getD_some]
   refine ⟨trivial,fun u hu=>hone _ u hu,by rw [Sl.to_len (by omega),hfl];simp only [maxLen];omega,by rw [Sl.to_len (by omega),hfl];omega,?_⟩
   try simp only [go_sem,jq,jj,jy,jv,jk,jx,hsl,hw1,jW,jY,Int.toNat_zero,Nat.zero_mul,zx1,zx2,ite_self,Nat.sub_zero]
   refine U_t [10] rfl ?_
   simp only [go_sem,jq,jj,jy,jv,jk,jx,hsl,hw1,jW,jY,Int.toNat_zero,Nat.zero_mul,zx1,zx2,ite_self,Nat.sub_zero]
   refine U_d ?_
   refine zjQ 2 (l.l.take k ++ l.l.drop (k+1)) rfl rfl ?_ ?_ (by decide) (fun y hy=>?_) fun s h' e1 e2 _ _ _=>?_
   ·rw [List.length_append];show 0+(l.l.take k).length+(l.l.drop (k+1)).length=_;omega
   ·rw [List.flatMap_append];rfl
   ·rcases List.mem_append.1 hy with hy|hy
    ·exact hl.2.2.2.1 y (List.mem_of_mem_take hy)
    ·exact hl.2.2.2.1 y (List.mem_of_mem_drop hy)
   refine Wk ?_
   exact ⟨s,rfl,e1,e2⟩
set_option maxRecDepth 30000 in
theorem zOo (x:DHarbour) (a:Sl DCall) (l:Sl Int) (h:Hp) (hx:Enc.ok h x) (ha:a.Ok h) (hl:l.Ok h) (hz:Sz.sz (Con.con l)≤1048576):Ct jV 27 [x.v,a.val,l.val] h fun v h'=>v=.bool (zOj (Con.con x) (Con.con a) (Con.con l))∧h'=h:=by
 have hla:=ha.max
 have hll:=hl.max
 have hcl:Con.con l=l.l:=con_ints
 have hca:Con.con a=a.l:=zAQ a
 have hz1:l.l.length≤1048576:=by rw [hcl,znw] at hz;omega
 refine Ct.forget ?_
 rw [zOj,hca,hcl]
 refine zdn (fun A W=>by simp) Tryz.func27 rfl rfl (by simp) fun W0=>?_
 repeat' first|refine Wa ?_|refine zhF (fun _=>zAR x a _ hx ha) ?_|refine zhF (fun _=>zOf _ l _ (by omega) hl) ?_|refine zhF (fun _=>zOl x a l _ hx ha hl hz) ?_|(simp only [go_sem,jq,jj,jy,jv,jk,jx];try rfl)|refine Wb ?_|fail
 rw [hca,hcl]
 refine zc9 rfl (fun hq=>?_) (fun hq=>?_)
 ·refine Wk ?_
  congr 1
  cases h1:zAP (Con.con x) a.l <;> cases h2:decide (Sel a.l.length l.l) <;> cases h3:zLK (Con.con x) a.l l.l <;> simp_all
 have hq2:zAP (Con.con x) a.l=true∧decide (Sel a.l.length l.l)=true∧zLK (Con.con x) a.l l.l=false:=by
  simpa [and_assoc] using hq
 obtain ⟨hc,hs,hv⟩:=hq2
 rw [hc,hs,hv,Bool.not_false,Bool.and_true,Bool.true_and]
 refine Wk ?_
 refine zm1 (ι:=Nat) (fun k=>⟨[(1,true,.c (.v a.val)),(2,true,.c (.v l.val)),(3,true,.c (.p 0 0)),(6,true,.c (.v (.bool false))),(26,true,.c (.v (.int .i64 l.l.length))),(27,true,.c (.v (.int .i64 k)))],[(0,.box 58 [.v (.int .i64 x.forecast.tide.mean),.v x.forecast.tide.parts.val,.v x.forecast.surges.val,.v x.chart.points.val,.v x.chart.segments.val,.v x.fleet.val,.v (.int .i64 x.regime.gap),.v (.bool x.regime.noMeet),.v (.int .i64 x.crew.tugs),.v (.int .i64 x.crew.pilots),.v (.int .i64 x.crew.rest),.v x.crew.moves.val])],h,1⟩) (fun k=>k≤l.l.length∧∀ i,i < k→zLK (Con.con x) a.l (l.l.take i ++ l.l.drop (i+1))=true) (fun k=>l.l.length - k) 0 ⟨Nat.zero_le _,zAe⟩ [0] ?_ ?_
 ·refine Evs ?_
  exact Gk
 rintro k ⟨hk,hno⟩
 refine Wk ?_
 refine zc9 rfl (fun hd=>?_) (fun hd=>?_)
 ·have hlt:=zjH hd
  have hcp:=hl.1
  have hw1:IntKind.i64.wrap ((k:Int)+1)=((k+1:Nat):Int):=zjA hlt (by omega)
  have hsl:∀ (hp:Prop) (K:SV→Prop),zgh hp (((k+1:Nat)):Int) (l.l.length:Int) l.val 1 K=(hp∧K (.c (.v (l.fr (k+1)).val))):=fun hp K=>zOi (by omega)
  have hfl:(l.fr (k+1)).l.length=l.l.length - (k+1):=List.length_drop ..
  have hz2:Sz.sz (l.l.take k ++ l.l.drop (k+1))≤1048576:=by
   have h9:∀ q:List Int,(q.map Sz.sz).sum=0:=fun q=>by
    induction q with
    | nil=>rfl
    | cons y q ih=>rw [List.map_cons,List.sum_cons,ih];rfl
   rw [znw,h9,List.length_append,List.length_take,List.length_drop];omega
  refine Wk ?_
  refine zyW rfl ?_
  refine U_t [0,1,2,3] rfl ?_
  refine Evs ?_
  refine U_1 4 0 [0] rfl rfl ?_
  refine Evs ?_
  refine zkr (zOn l k _ hl hlt hz1) rfl ?_
  rintro v h1 le1 ⟨q,rfl,eq1,okq⟩
  try simp only [go_sem,jq,jj,jy,jv,jk,jx]
  refine U_1 5 0 [] rfl rfl ?_
  refine Evs ?_
  refine zhF (fun _=>zOl x a q _ (Enc.mono le1 hx) (ha.mono le1) okq (by rw [con_ints,eq1];exact hz2)) ?_
  try simp only [go_sem,jq,jj,jy,jv,jk,jx]
  refine U_t [6] rfl ?_
  refine Evs ?_
  refine U_d ?_
  rw [con_ints,eq1,hca]
  refine zc9 rfl (fun hq=>?_) (fun hq=>?_)
  ·rw [Bool.not_eq_true'] at hq
   refine Wk ?_
   rw [decide_eq_false fun H=>by rw [H k hlt] at hq;cases hq]
  ·rw [Bool.not_eq_false'] at hq
   refine Wk ?_
   refine ⟨k+1,[0],⟨hlt,fun i hi=>?_⟩,by omega,?_⟩
   ·rcases Nat.lt_succ_iff_lt_or_eq.1 hi with hi|rfl
    ·exact hno i hi
    ·exact hq
   refine Evs ?_
   exact Gi (zjA hlt (by omega))
 ·have hge:=zjI hd
  obtain rfl:k=l.l.length:=by omega
  refine Wk ?_
  rw [decide_eq_true hno]
open Go Go.SL Go.RowKit Go.ChangeShapes Go.WideShapes Go.ChangeAt Go.Deep
theorem Tryz.own:ownKnob Tryz.prog.godebug=none:=by kernel_rfl
theorem Tryz.laidOut:laidOutB jV=true:=by kernel_rfl
theorem zMy:Tryz.prog.cellsOf 3=1:=by kernel_rfl
theorem zMz:Tryz.prog.cellsOf 4=1:=by kernel_rfl
theorem zMA:Tryz.prog.cellsOf 9=1:=by kernel_rfl
theorem zMB:Opens Int jV 3:=zkv Tryz.underlying3
set_option maxRecDepth 100000 in
theorem zMC:Opens DCall jV 107:=by
 intro H enc w base spare held fuel cs x h
 obtain ⟨hl,hf⟩:=zkx Tryz.underlying107 h
 have hl:cs.length=5:=hl.trans (by kernel_rfl)
 match cs,hl with
 | [c0,c1,c2,c3,c4],_ =>
  obtain ⟨a0,e0,o0⟩:=zlC Tryz.underlying3 hf 0 0 ⟨_,rfl,rfl,rfl⟩ zMy
  have e0:[c0]=[.int .i64 a0]:=e0
  obtain ⟨a1,e1,o1⟩:=zlC Tryz.underlying3 hf 1 1 ⟨_,rfl,rfl,rfl⟩ zMy
  have e1:[c1]=[.int .i64 a1]:=e1
  obtain ⟨a2,e2,o2⟩:=zlC Tryz.underlying3 hf 2 2 ⟨_,rfl,rfl,rfl⟩ zMy
  have e2:[c2]=[.int .i64 a2]:=e2
  obtain ⟨a3,e3,o3⟩:=zlC Tryz.underlying3 hf 3 3 ⟨_,rfl,rfl,rfl⟩ zMy
  have e3:[c3]=[.int .i64 a3]:=e3
  obtain ⟨a4,e4,o4⟩:=zlC Tryz.underlying3 hf 4 4 ⟨_,rfl,rfl,rfl⟩ zMy
  have e4:[c4]=[.int .i64 a4]:=e4
  have ee:[c0] ++ [c1] ++ [c2] ++ [c3] ++ [c4]=[.int .i64 a0] ++ [.int .i64 a1] ++ [.int .i64 a2] ++ [.int .i64 a3] ++ [.int .i64 a4]:=by rw [e0,e1,e2,e3,e4]
  exact ⟨⟨a0,a1,a2,a3,a4⟩,ee,o0,o1,o2,o3,o4⟩
theorem zMD:Opens (Sl DCall) jV 40:=zkw Tryz.underlying40 (by kernel_rfl) zMC
theorem zME:Tryz.prog.cellsOf 35=1:=by kernel_rfl
theorem opens_IntS:Opens (Sl Int) jV 35:=zkw Tryz.underlying35 (by kernel_rfl) zMB
theorem zMF:Tryz.prog.cellsOf 37=4:=by kernel_rfl
set_option maxRecDepth 100000 in
theorem opens_Crew:Opens DCrew jV 37:=by
 intro H enc w base spare held fuel cs x h
 obtain ⟨hl,hf⟩:=zkx Tryz.underlying37 h
 have hl:cs.length=4:=hl.trans (by kernel_rfl)
 match cs,hl with
 | [c0,c1,c2,c3],_ =>
  obtain ⟨a0,e0,o0⟩:=zlC Tryz.underlying3 hf 0 0 ⟨_,rfl,rfl,rfl⟩ zMy
  have e0:[c0]=[.int .i64 a0]:=e0
  obtain ⟨a1,e1,o1⟩:=zlC Tryz.underlying3 hf 1 1 ⟨_,rfl,rfl,rfl⟩ zMy
  have e1:[c1]=[.int .i64 a1]:=e1
  obtain ⟨a2,e2,o2⟩:=zlC Tryz.underlying3 hf 2 2 ⟨_,rfl,rfl,rfl⟩ zMy
  have e2:[c2]=[.int .i64 a2]:=e2
  obtain ⟨a3,e3,o3⟩:=opens_IntS.field hf 3 3 1 ⟨_,rfl,rfl,rfl⟩ zME
  have e3:[c3]=Enc.enc a3:=e3
  have ee:[c0] ++ [c1] ++ [c2] ++ [c3]=[.int .i64 a0] ++ [.int .i64 a1] ++ [.int .i64 a2] ++ Enc.enc a3:=by rw [e0,e1,e2,e3]
  exact ⟨⟨a0,a1,a2,a3⟩,ee,o0,o1,o2,o3⟩
set_option maxRecDepth 100000 in
theorem zMG:Opens DPart jV 277:=by
 intro H enc w base spare held fuel cs x h
 obtain ⟨hl,hf⟩:=zkx Tryz.underlying277 h
 have hl:cs.length=3:=hl.trans (by kernel_rfl)
 match cs,hl with
 | [c0,c1,c2],_ =>
  obtain ⟨a0,e0,o0⟩:=zlC Tryz.underlying3 hf 0 0 ⟨_,rfl,rfl,rfl⟩ zMy
  have e0:[c0]=[.int .i64 a0]:=e0
  obtain ⟨a1,e1,o1⟩:=zlC Tryz.underlying3 hf 1 1 ⟨_,rfl,rfl,rfl⟩ zMy
  have e1:[c1]=[.int .i64 a1]:=e1
  obtain ⟨a2,e2,o2⟩:=zlC Tryz.underlying3 hf 2 2 ⟨_,rfl,rfl,rfl⟩ zMy
  have e2:[c2]=[.int .i64 a2]:=e2
  have ee:[c0] ++ [c1] ++ [c2]=[.int .i64 a0] ++ [.int .i64 a1] ++ [.int .i64 a2]:=by rw [e0,e1,e2]
  exact ⟨⟨a0,a1,a2⟩,ee,o0,o1,o2⟩
theorem zMH:Tryz.prog.cellsOf 22=1:=by kernel_rfl
theorem opens_PartS:Opens (Sl DPart) jV 22:=zkw Tryz.underlying22 (by kernel_rfl) zMG
theorem zMI:Tryz.prog.cellsOf 24=2:=by kernel_rfl
set_option maxRecDepth 100000 in
theorem opens_Tide:Opens DTide jV 24:=by
 intro H enc w base spare held fuel cs x h
 obtain ⟨hl,hf⟩:=zkx Tryz.underlying24 h
 have hl:cs.length=2:=hl.trans (by kernel_rfl)
 match cs,hl with
 | [c0,c1],_ =>
  obtain ⟨a0,e0,o0⟩:=zlC Tryz.underlying3 hf 0 0 ⟨_,rfl,rfl,rfl⟩ zMy
  have e0:[c0]=[.int .i64 a0]:=e0
  obtain ⟨a1,e1,o1⟩:=opens_PartS.field hf 1 1 1 ⟨_,rfl,rfl,rfl⟩ zMH
  have e1:[c1]=Enc.enc a1:=e1
  have ee:[c0] ++ [c1]=[.int .i64 a0] ++ Enc.enc a1:=by rw [e0,e1]
  exact ⟨⟨a0,a1⟩,ee,o0,o1⟩
set_option maxRecDepth 100000 in
theorem zMJ:Opens DSurge jV 227:=by
 intro H enc w base spare held fuel cs x h
 obtain ⟨hl,hf⟩:=zkx Tryz.underlying227 h
 have hl:cs.length=3:=hl.trans (by kernel_rfl)
 match cs,hl with
 | [c0,c1,c2],_ =>
  obtain ⟨a0,e0,o0⟩:=zlC Tryz.underlying3 hf 0 0 ⟨_,rfl,rfl,rfl⟩ zMy
  have e0:[c0]=[.int .i64 a0]:=e0
  obtain ⟨a1,e1,o1⟩:=zlC Tryz.underlying3 hf 1 1 ⟨_,rfl,rfl,rfl⟩ zMy
  have e1:[c1]=[.int .i64 a1]:=e1
  obtain ⟨a2,e2,o2⟩:=zlC Tryz.underlying3 hf 2 2 ⟨_,rfl,rfl,rfl⟩ zMy
  have e2:[c2]=[.int .i64 a2]:=e2
  have ee:[c0] ++ [c1] ++ [c2]=[.int .i64 a0] ++ [.int .i64 a1] ++ [.int .i64 a2]:=by rw [e0,e1,e2]
  exact ⟨⟨a0,a1,a2⟩,ee,o0,o1,o2⟩
theorem zMK:Tryz.prog.cellsOf 25=1:=by kernel_rfl
theorem opens_SurgeS:Opens (Sl DSurge) jV 25:=zkw Tryz.underlying25 (by kernel_rfl) zMJ
theorem zML:Tryz.prog.cellsOf 27=3:=by kernel_rfl
set_option maxRecDepth 100000 in
theorem opens_Forecast:Opens DForecast jV 27:=by
 intro H enc w base spare held fuel cs x h
 obtain ⟨hl,hf⟩:=zkx Tryz.underlying27 h
 have hl:cs.length=3:=hl.trans (by kernel_rfl)
 match cs,hl with
 | [c0,c1,c2],_ =>
  obtain ⟨a0,e0,o0⟩:=opens_Tide.field hf 0 0 2 ⟨_,rfl,rfl,rfl⟩ zMI
  have e0:[c0,c1]=Enc.enc a0:=e0
  obtain ⟨a1,e1,o1⟩:=opens_SurgeS.field hf 1 2 1 ⟨_,rfl,rfl,rfl⟩ zMK
  have e1:[c2]=Enc.enc a1:=e1
  have ee:[c0,c1] ++ [c2]=Enc.enc a0 ++ Enc.enc a1:=by rw [e0,e1]
  exact ⟨⟨a0,a1⟩,ee,o0,o1⟩
set_option maxRecDepth 100000 in
theorem zMM:Opens DPoint jV 216:=by
 intro H enc w base spare held fuel cs x h
 obtain ⟨hl,hf⟩:=zkx Tryz.underlying216 h
 have hl:cs.length=2:=hl.trans (by kernel_rfl)
 match cs,hl with
 | [c0,c1],_ =>
  obtain ⟨a0,e0,o0⟩:=zlE Tryz.underlying9 hf 0 0 ⟨_,rfl,rfl,rfl⟩ zMA
  have e0:[c0]=[.string a0]:=e0
  obtain ⟨a1,e1⟩:=zlD Tryz.underlying4 hf 1 1 ⟨_,rfl,rfl,rfl⟩ zMz
  have e1:[c1]=[.bool a1]:=e1
  have ee:[c0] ++ [c1]=[.string a0] ++ [.bool a1]:=by rw [e0,e1]
  exact ⟨⟨a0,a1⟩,ee,o0⟩
theorem zMN:Tryz.prog.cellsOf 28=1:=by kernel_rfl
theorem opens_PointS:Opens (Sl DPoint) jV 28:=zkw Tryz.underlying28 (by kernel_rfl) zMM
set_option maxRecDepth 100000 in
theorem zMO:Opens DSegment jV 233:=by
 intro H enc w base spare held fuel cs x h
 obtain ⟨hl,hf⟩:=zkx Tryz.underlying233 h
 have hl:cs.length=5:=hl.trans (by kernel_rfl)
 match cs,hl with
 | [c0,c1,c2,c3,c4],_ =>
  obtain ⟨a0,e0,o0⟩:=zlC Tryz.underlying3 hf 0 0 ⟨_,rfl,rfl,rfl⟩ zMy
  have e0:[c0]=[.int .i64 a0]:=e0
  obtain ⟨a1,e1,o1⟩:=zlC Tryz.underlying3 hf 1 1 ⟨_,rfl,rfl,rfl⟩ zMy
  have e1:[c1]=[.int .i64 a1]:=e1
  obtain ⟨a2,e2,o2⟩:=zlC Tryz.underlying3 hf 2 2 ⟨_,rfl,rfl,rfl⟩ zMy
  have e2:[c2]=[.int .i64 a2]:=e2
  obtain ⟨a3,e3,o3⟩:=zlC Tryz.underlying3 hf 3 3 ⟨_,rfl,rfl,rfl⟩ zMy
  have e3:[c3]=[.int .i64 a3]:=e3
  obtain ⟨a4,e4⟩:=zlD Tryz.underlying4 hf 4 4 ⟨_,rfl,rfl,rfl⟩ zMz
  have e4:[c4]=[.bool a4]:=e4
  have ee:[c0] ++ [c1] ++ [c2] ++ [c3] ++ [c4]=[.int .i64 a0] ++ [.int .i64 a1] ++ [.int .i64 a2] ++ [.int .i64 a3] ++ [.bool a4]:=by rw [e0,e1,e2,e3,e4]
  exact ⟨⟨a0,a1,a2,a3,a4⟩,ee,o0,o1,o2,o3⟩
theorem zMP:Tryz.prog.cellsOf 29=1:=by kernel_rfl
theorem opens_SegmentS:Opens (Sl DSegment) jV 29:=zkw Tryz.underlying29 (by kernel_rfl) zMO
theorem zMQ:Tryz.prog.cellsOf 31=2:=by kernel_rfl
set_option maxRecDepth 100000 in
theorem opens_Chart:Opens DChart jV 31:=by
 intro H enc w base spare held fuel cs x h
 obtain ⟨hl,hf⟩:=zkx Tryz.underlying31 h
 have hl:cs.length=2:=hl.trans (by kernel_rfl)
 match cs,hl with
 | [c0,c1],_ =>
  obtain ⟨a0,e0,o0⟩:=opens_PointS.field hf 0 0 1 ⟨_,rfl,rfl,rfl⟩ zMN
  have e0:[c0]=Enc.enc a0:=e0
  obtain ⟨a1,e1,o1⟩:=opens_SegmentS.field hf 1 1 1 ⟨_,rfl,rfl,rfl⟩ zMP
  have e1:[c1]=Enc.enc a1:=e1
  have ee:[c0] ++ [c1]=Enc.enc a0 ++ Enc.enc a1:=by rw [e0,e1]
  exact ⟨⟨a0,a1⟩,ee,o0,o1⟩
set_option maxRecDepth 100000 in
theorem zMR:Opens DShip jV 162:=by
 intro H enc w base spare held fuel cs x h
 obtain ⟨hl,hf⟩:=zkx Tryz.underlying162 h
 have hl:cs.length=6:=hl.trans (by kernel_rfl)
 match cs,hl with
 | [c0,c1,c2,c3,c4,c5],_ =>
  obtain ⟨a0,e0,o0⟩:=zlE Tryz.underlying9 hf 0 0 ⟨_,rfl,rfl,rfl⟩ zMA
  have e0:[c0]=[.string a0]:=e0
  obtain ⟨a1,e1,o1⟩:=zlC Tryz.underlying3 hf 1 1 ⟨_,rfl,rfl,rfl⟩ zMy
  have e1:[c1]=[.int .i64 a1]:=e1
  obtain ⟨a2,e2,o2⟩:=zlC Tryz.underlying3 hf 2 2 ⟨_,rfl,rfl,rfl⟩ zMy
  have e2:[c2]=[.int .i64 a2]:=e2
  obtain ⟨a3,e3,o3⟩:=zlC Tryz.underlying3 hf 3 3 ⟨_,rfl,rfl,rfl⟩ zMy
  have e3:[c3]=[.int .i64 a3]:=e3
  obtain ⟨a4,e4,o4⟩:=zlC Tryz.underlying3 hf 4 4 ⟨_,rfl,rfl,rfl⟩ zMy
  have e4:[c4]=[.int .i64 a4]:=e4
  obtain ⟨a5,e5⟩:=zlD Tryz.underlying4 hf 5 5 ⟨_,rfl,rfl,rfl⟩ zMz
  have e5:[c5]=[.bool a5]:=e5
  have ee:[c0] ++ [c1] ++ [c2] ++ [c3] ++ [c4] ++ [c5]=[.string a0] ++ [.int .i64 a1] ++ [.int .i64 a2] ++ [.int .i64 a3] ++ [.int .i64 a4] ++ [.bool a5]:=by rw [e0,e1,e2,e3,e4,e5]
  exact ⟨⟨a0,a1,a2,a3,a4,a5⟩,ee,o0,o1,o2,o3,o4⟩
theorem zMS:Tryz.prog.cellsOf 32=1:=by kernel_rfl
theorem opens_ShipS:Opens (Sl DShip) jV 32:=zkw Tryz.underlying32 (by kernel_rfl) zMR
theorem zMT:Tryz.prog.cellsOf 34=2:=by kernel_rfl
set_option maxRecDepth 100000 in
theorem opens_Regime:Opens DRegime jV 34:=by
 intro H enc w base spare held fuel cs x h
 obtain ⟨hl,hf⟩:=zkx Tryz.underlying34 h
 have hl:cs.length=2:=hl.trans (by kernel_rfl)
 match cs,hl with
 | [c0,c1],_ =>
  obtain ⟨a0,e0,o0⟩:=zlC Tryz.underlying3 hf 0 0 ⟨_,rfl,rfl,rfl⟩ zMy
  have e0:[c0]=[.int .i64 a0]:=e0
  obtain ⟨a1,e1⟩:=zlD Tryz.underlying4 hf 1 1 ⟨_,rfl,rfl,rfl⟩ zMz
  have e1:[c1]=[.bool a1]:=e1
  have ee:[c0] ++ [c1]=[.int .i64 a0] ++ [.bool a1]:=by rw [e0,e1]
  exact ⟨⟨a0,a1⟩,ee,o0⟩
set_option maxRecDepth 100000 in
theorem zMU:Opens DHarbour jV 39:=by
 intro H enc w base spare held fuel cs x h
 obtain ⟨hl,hf⟩:=zkx Tryz.underlying39 h
 have hl:cs.length=12:=hl.trans (by kernel_rfl)
 match cs,hl with
 | [c0,c1,c2,c3,c4,c5,c6,c7,c8,c9,c10,c11],_ =>
  obtain ⟨a0,e0,o0⟩:=opens_Forecast.field hf 0 0 3 ⟨_,rfl,rfl,rfl⟩ zML
  have e0:[c0,c1,c2]=Enc.enc a0:=e0
  obtain ⟨a1,e1,o1⟩:=opens_Chart.field hf 1 3 2 ⟨_,rfl,rfl,rfl⟩ zMQ
  have e1:[c3,c4]=Enc.enc a1:=e1
  obtain ⟨a2,e2,o2⟩:=opens_ShipS.field hf 2 5 1 ⟨_,rfl,rfl,rfl⟩ zMS
  have e2:[c5]=Enc.enc a2:=e2
  obtain ⟨a3,e3,o3⟩:=opens_Regime.field hf 3 6 2 ⟨_,rfl,rfl,rfl⟩ zMT
  have e3:[c6,c7]=Enc.enc a3:=e3
  obtain ⟨a4,e4,o4⟩:=opens_Crew.field hf 4 8 4 ⟨_,rfl,rfl,rfl⟩ zMF
  have e4:[c8,c9,c10,c11]=Enc.enc a4:=e4
  have ee:[c0,c1,c2] ++ [c3,c4] ++ [c5] ++ [c6,c7] ++ [c8,c9,c10,c11]=Enc.enc a0 ++ Enc.enc a1 ++ Enc.enc a2 ++ Enc.enc a3 ++ Enc.enc a4:=by rw [e0,e1,e2,e3,e4]
  exact ⟨⟨a0,a1,a2,a3,a4⟩,ee,o0,o1,o2,o3,o4⟩
end Go.Proofs.YtdejfjdbcggilaaGreat
