/- What functions of the given program compute, as contracts. -/
import Derived.Test.YtdejfjdbcggilaaGreatSGFnRefusalsx16
import Derived.Test.YtdejfjdbcggilaaGreatSGFnRefusalsx5
import Derived.Test.YtdejfjdbcggilaaGreatXGFnRefusals13
import Derived.Test.YtdejfjdbcggilaaGreatXGFnRefusals14
import Derived.Test.YtdejfjdbcggilaaGreatXGFnRefusals15
import Derived.Test.YtdejfjdbcggilaaGreatXGFnRefusals6
set_option linter.unusedVariables false
set_option linter.unusedSimpArgs false
set_option maxRecDepth 4000
open Nat renaming reduceAdd → jq, reduceMul → jj, reduceBEq → jy, reduceLeDiff → jv, reduceLT → jk, reduceEqDiff → jx
open Bool renaming or_eq_false_iff → jp, or_eq_true → jQ, and_eq_true → jJ
open Int renaming toNat_natCast → jW, natCast_nonneg → jY
open Go.Proofs.Tryz renaming prog → jV
namespace Go.Proofs.YtdejfjdbcggilaaGreat
open Go Go.SL
set_option maxHeartbeats 1000000
def zLJ (x:zOw) (a:List DCall):Bool:=(zKf x a).2.2
def zLK (x:zOw) (a:List DCall) (l:List Int):Bool:=zAP x a && decide (Sel a.length l) && zLJ x (zJm a l)
def zOj (x:zOw) (a:List DCall) (l:List Int):Bool:=zAP x a && decide (Sel a.length l) && !zLK x a l && decide (∀ i,i < l.length→zLK x a (l.take i ++ l.drop (i+1))=true)
theorem zLL (x:DHarbour) (a:Sl DCall) (h:Hp) (hx:Enc.ok h x) (ha:a.Ok h):Ct jV 20 [x.v,a.val] h fun v h'=>v=.bool (zLJ (Con.con x) (Con.con a))∧h'=h:=by
 refine Ct.forget ?_
 refine zdn (fun A W=>by simp) Tryz.func20 rfl rfl (by simp) fun W0=>?_
 refine Wk ?_
 refine zkr (zK3 x a _ hx ha) rfl ?_
 rintro v h1 le1 ⟨s,rfl,es,oks,ms⟩
 refine Evs ?_
 exact Wk0
set_option maxRecDepth 30000 in
theorem zLM (x:DHarbour) (a:Sl DCall) (l:Sl Int) (h:Hp) (hx:Enc.ok h x) (ha:a.Ok h) (hl:l.Ok h) (hz:Sz.sz (Con.con l)≤1048576):Ct jV 25 [x.v,a.val,l.val] h fun v h'=>v=.bool (zLK (Con.con x) (Con.con a) (Con.con l))∧h'=h:=by
 have hla:=ha.max
 have hll:=hl.max
 have hcl:Con.con l=l.l:=con_ints
 have hca:Con.con a=a.l:=zAQ a
 refine Ct.forget ?_
 rw [zLK,hca,hcl]
 refine zdn (fun A W=>by simp) Tryz.func25 rfl rfl (by simp) fun W0=>?_
 refine Wk ?_
 cases hc:zAP (Con.con x) a.l with
 | false =>
  refine zyW rfl ?_
  refine U_t [0,1] rfl ?_
  simp only [go_sem,jq,jj,jy,jv,jk,jx,hc]
  refine U_1 2 0 [] rfl rfl ?_
  simp only [go_sem,jq,jj,jy,jv,jk,jx,hc]
  refine zhF (fun _=>zAS x a _ hx ha) ?_
  rw [zAQ]
  simp only [go_sem,jq,jj,jy,jv,jk,jx,hc]
  refine U_t [3,4,5] rfl ?_
  simp only [go_sem,jq,jj,jy,jv,jk,jx,hc]
  refine U_1 6 0 [] rfl rfl ?_
  simp only [go_sem,jq,jj,jy,jv,jk,jx,hc]
  refine zhF (V:=.bool false) (fun e=>by cases e) ?_
  simp only [go_sem,jq,jj,jy,jv,jk,jx,hc]
  refine U_t [7,8,9,10,11] rfl ?_
  simp only [go_sem,jq,jj,jy,jv,jk,jx,hc]
  refine U_1 12 0 [9] rfl rfl ?_
  simp only [go_sem,jq,jj,jy,jv,jk,jx,hc]
  refine zhF (V:=.slice none 0 0) (fun e=>by cases e) ?_
  simp only [go_sem,jq,jj,jy,jv,jk,jx,hc]
  refine U_1 13 0 [] rfl rfl ?_
  simp only [go_sem,jq,jj,jy,jv,jk,jx,hc]
  refine zhF (V:=.bool false) (fun e=>by cases e) ?_
  simp only [go_sem,jq,jj,jy,jv,jk,jx,hc]
  refine U_t [14,15] rfl ?_
  simp only [go_sem,jq,jj,jy,jv,jk,jx,hc]
  refine U_d ?_
  exact Wk0
 | true =>
  cases hs:decide (Sel a.l.length l.l) with
  | false =>
   refine zyW rfl ?_
   refine U_t [0,1] rfl ?_
   simp only [go_sem,jq,jj,jy,jv,jk,jx,hc,hs]
   refine U_1 2 0 [] rfl rfl ?_
   simp only [go_sem,jq,jj,jy,jv,jk,jx,hc,hs]
   refine zhF (fun _=>zAS x a _ hx ha) ?_
   rw [zAQ]
   simp only [go_sem,jq,jj,jy,jv,jk,jx,hc]
   refine U_t [3,4,5] rfl ?_
   simp only [go_sem,jq,jj,jy,jv,jk,jx,hc,hs]
   refine U_1 6 0 [] rfl rfl ?_
   simp only [go_sem,jq,jj,jy,jv,jk,jx,hc,hs]
   refine zhF (fun _=>zJl a l _ ha hl) ?_
   simp only [go_sem,jq,jj,jy,jv,jk,jx,hc,hs]
   refine U_t [7,8,9,10,11] rfl ?_
   simp only [go_sem,jq,jj,jy,jv,jk,jx,hc,hs]
   refine U_1 12 0 [9] rfl rfl ?_
   simp only [go_sem,jq,jj,jy,jv,jk,jx,hc,hs]
   refine zhF (V:=.slice none 0 0) (fun e=>by cases e) ?_
   simp only [go_sem,jq,jj,jy,jv,jk,jx,hc,hs]
   refine U_1 13 0 [] rfl rfl ?_
   simp only [go_sem,jq,jj,jy,jv,jk,jx,hc,hs]
   refine zhF (V:=.bool false) (fun e=>by cases e) ?_
   simp only [go_sem,jq,jj,jy,jv,jk,jx,hc,hs]
   refine U_t [14,15] rfl ?_
   simp only [go_sem,jq,jj,jy,jv,jk,jx,hc,hs]
   refine U_d ?_
   exact Wk0
  | true =>
   refine zyW rfl ?_
   refine U_t [0,1] rfl ?_
   simp only [go_sem,jq,jj,jy,jv,jk,jx,hc,hs]
   refine U_1 2 0 [] rfl rfl ?_
   simp only [go_sem,jq,jj,jy,jv,jk,jx,hc,hs]
   refine zhF (fun _=>zAS x a _ hx ha) ?_
   rw [zAQ]
   simp only [go_sem,jq,jj,jy,jv,jk,jx,hc]
   refine U_t [3,4,5] rfl ?_
   simp only [go_sem,jq,jj,jy,jv,jk,jx,hc,hs]
   refine U_1 6 0 [] rfl rfl ?_
   simp only [go_sem,jq,jj,jy,jv,jk,jx,hc,hs]
   refine zhF (fun _=>zJl a l _ ha hl) ?_
   simp only [go_sem,jq,jj,jy,jv,jk,jx,hc,hs]
   refine U_t [7,8,9,10,11] rfl ?_
   simp only [go_sem,jq,jj,jy,jv,jk,jx,hc,hs]
   refine U_1 12 0 [9] rfl rfl ?_
   simp only [go_sem,jq,jj,jy,jv,jk,jx,hc,hs]
   refine zkr (zJn a l _ ha hl hz) rfl ?_
   rintro v h1 le1 ⟨s,rfl,es,oks,ms⟩
   simp only [go_sem,jq,jj,jy,jv,jk,jx,hc,hs]
   refine U_1 13 0 [] rfl rfl ?_
   simp only [go_sem,jq,jj,jy,jv,jk,jx,hc,hs]
   refine zhF (fun _=>zLL x s _ (Enc.mono le1 hx) oks) ?_
   rw [es,hca,hcl]
   simp only [go_sem,jq,jj,jy,jv,jk,jx,hc,hs]
   refine U_t [14,15] rfl ?_
   simp only [go_sem,jq,jj,jy,jv,jk,jx,hc,hs]
   refine U_d ?_
   exact Wk0
set_option maxRecDepth 30000 in
theorem zOm (x:DHarbour) (a:Sl DCall) (l:Sl Int) (h:Hp) (hx:Enc.ok h x) (ha:a.Ok h) (hl:l.Ok h) (hz:Sz.sz (Con.con l)≤1048576):Ct jV 28 [x.v,a.val,l.val] h fun v h'=>v=.bool (zOj (Con.con x) (Con.con a) (Con.con l))∧h'=h:=by
 have hla:=ha.max
 have hll:=hl.max
 have hcl:Con.con l=l.l:=con_ints
 have hca:Con.con a=a.l:=zAQ a
 have hz1:l.l.length≤1048576:=by rw [hcl,znw] at hz;omega
 refine Ct.forget ?_
 rw [zOj,hca,hcl]
 refine zdn (fun A W=>by simp) Tryz.func28 rfl rfl (by simp) fun W0=>?_
 repeat' first|refine Wa ?_|refine zhF (fun _=>zAS x a _ hx ha) ?_|refine zhF (fun _=>zJl a l _ ha hl) ?_|refine zhF (fun _=>zLM x a l _ hx ha hl hz) ?_|(simp only [go_sem,jq,jj,jy,jv,jk,jx];try rfl)|refine Wb ?_|fail
 rw [hca,hcl]
 refine zc9 rfl (fun hq=>?_) (fun hq=>?_)
 ·refine Wk ?_
  congr 1
  cases h1:zAP (Con.con x) a.l <;> cases h2:decide (Sel a.l.length l.l) <;> cases h3:zLK (Con.con x) a.l l.l <;> simp_all
 have hq2:zAP (Con.con x) a.l=true∧decide (Sel a.l.length l.l)=true∧zLK (Con.con x) a.l l.l=false:=by
  simpa [and_assoc] using hq
 obtain ⟨hc,hs,hv⟩:=hq2
 rw [hc,hs,hv,Bool.not_false,Bool.and_true,Bool.true_and]
 refine Wk ?_
 refine zm1 (ι:=Nat) (fun k=>⟨[(1,true,.c (.v a.val)),(2,true,.c (.v l.val)),(3,true,.c (.p 0 0)),(6,true,.c (.v (.bool false))),(25,true,.c (.v (.int .i64 l.l.length))),(26,true,.c (.v (.int .i64 k)))],[(0,.box 58 [.v (.int .i64 x.forecast.tide.mean),.v x.forecast.tide.parts.val,.v x.forecast.surges.val,.v x.chart.points.val,.v x.chart.segments.val,.v x.fleet.val,.v (.int .i64 x.regime.gap),.v (.bool x.regime.noMeet),.v (.int .i64 x.crew.tugs),.v (.int .i64 x.crew.pilots),.v (.int .i64 x.crew.rest),.v x.crew.moves.val])],h,1⟩) (fun k=>k≤l.l.length∧∀ i,i < k→zLK (Con.con x) a.l (l.l.take i ++ l.l.drop (i+1))=true) (fun k=>l.l.length - k) 0 ⟨Nat.zero_le _,zAe⟩ [0] ?_ ?_
 ·refine Evs ?_
  exact Gk
 rintro k ⟨hk,hno⟩
 refine Wk ?_
 refine zc9 rfl (fun hd=>?_) (fun hd=>?_)
 ·have hlt:=zjH hd
  have hcp:=hl.1
  have hw1:IntKind.i64.wrap ((k:Int)+1)=((k+1:Nat):Int):=zjA hlt (by omega)
  have hsl:∀ (hp:Prop) (K:SV→Prop),zgh hp (((k+1:Nat)):Int) (l.l.length:Int) l.val 1 K=(hp∧K (.c (.v (l.fr (k+1)).val))):=fun hp K=>zOi (by omega)
  have hfl:(l.fr (k+1)).l.length=l.l.length - (k+1):=List.length_drop ..
  have hz2:Sz.sz (l.l.take k ++ l.l.drop (k+1))≤1048576:=by
   have h9:∀ q:List Int,(q.map Sz.sz).sum=0:=fun q=>by
    induction q with
    | nil=>rfl
    | cons y q ih=>rw [List.map_cons,List.sum_cons,ih];rfl
   rw [znw,h9,List.length_append,List.length_take,List.length_drop];omega
  refine Wk ?_
  refine zyW rfl ?_
  refine U_t [0,1,2,3,6,7,8] rfl ?_
  simp only [go_sem,jq,jj,jy,jv,jk,jx,hsl,hw1,jW,jY,Int.toNat_zero,Nat.zero_mul,zx1,zx2,ite_self,Nat.sub_zero]
  refine U_m 4 [9] ⟨?_,?_,trivial⟩
  ·refine U_b 4 0 [8,0] rfl rfl ?_
   simp only [go_sem,jq,jj,jy,jv,jk,jx,hsl,hw1,jW,jY,Int.toNat_zero,Nat.zero_mul,zx1,zx2,ite_self,Nat.sub_zero]
   refine ⟨by omega,?_⟩
   rw [zx3 (by omega)]
   try simp only [go_sem,jq,jj,jy,jv,jk,jx,hsl,hw1,jW,jY,Int.toNat_zero,Nat.zero_mul,zx1,zx2,ite_self,Nat.sub_zero]
   refine U_m 5 [9] ⟨?_,?_,trivial⟩
   ·refine U_b 5 0 [8,0] rfl rfl ?_
    simp only [go_sem,jq,jj,jy,jv,jk,jx,hsl,hw1,jW,jY,Int.toNat_zero,Nat.zero_mul,zx1,zx2,ite_self,Nat.sub_zero]
    refine zkr (zES (l.to k) _ (Sl.to_ok hl k) (by rw [Sl.to_len (by omega)];omega)) rfl ?_
    rintro v h1 le1 ⟨q,rfl,eq1,Rq,fq⟩
    try simp only [go_sem,jq,jj,jy,jv,jk,jx,hsl,hw1,jW,jY,Int.toNat_zero,Nat.zero_mul,zx1,zx2,ite_self,Nat.sub_zero]
    refine U_1 9 0 [0] rfl rfl ?_
    simp only [go_sem,jq,jj,jy,jv,jk,jx,hsl,hw1,jW,jY,Int.toNat_zero,Nat.zero_mul,zx1,zx2,ite_self,Nat.sub_zero]
    refine ⟨by omega,?_⟩
    try simp only [go_sem,jq,jj,jy,jv,jk,jx,hsl,hw1,jW,jY,Int.toNat_zero,Nat.zero_mul,zx1,zx2,ite_self,Nat.sub_zero]
    refine U_1 10 3 [0] rfl rfl ?_
    simp only [go_sem,jq,jj,jy,jv,jk,jx,hsl,hw1,jW,jY,Int.toNat_zero,Nat.zero_mul,zx1,zx2,ite_self,Nat.sub_zero]
    refine zCQ (s:=q) rfl Rq (fun g hg=>.inl (fq g hg)) ?_
    have hql:q.l.length=k:=by rw [eq1];exact Sl.to_len (by omega)
    have hall:(zCO h1 q).ldL (l.fr (k+1)).val 1=some ((l.fr (k+1)).l.flatMap Enc.enc):=(Sl.fr_ok (hl.mono (zCR le1 fq Rq.addr)) (k+1)).all (by decide)
    try simp only [go_sem,jq,jj,jy,jv,jk,jx,hsl,hw1,jW,jY,Int.toNat_zero,Nat.zero_mul,zx1,zx2,ite_self,Nat.sub_zero]
    simp only [hall,Option.isSome_some,Option.getD_some]
    refine ⟨trivial,rfl,fun u hu=>?_,by rw [hql,hfl];simp only [maxLen];omega,by rw [hql,hfl];omega,fun ad cap h2 P=>?_⟩
    ·rw [zCX] at hu
     obtain ⟨y,_,rfl⟩:=List.mem_map.1 hu
     rfl
    have P':Pub (zCO h1 q) 3 (Enc.size Int) (q.l ++ (l.fr (k+1)).l).length ((q.l ++ (l.fr (k+1)).l).flatMap Enc.enc) ad cap h2:=by
     rw [List.length_append,List.flatMap_append];exact P
    have led:=zCR le1 fq Rq.addr
    have k2:(Sl.mk ad cap (q.l ++ (l.fr (k+1)).l)).Ok h2:=Pub.sl (by decide) P' fun y hy=>by
     rcases List.mem_append.1 hy with hy|hy
     ·rw [eq1] at hy;exact hl.2.2.2.1 y (List.mem_of_mem_take hy)
     ·exact hl.2.2.2.1 y (List.mem_of_mem_drop hy)
    have le2:=Hp.le_trans led P'.le
    have hel:q.l ++ (l.fr (k+1)).l=l.l.take k ++ l.l.drop (k+1):=by rw [eq1];rfl
    rw [show Value.slice ad (q.l.length+(l.fr (k+1)).l.length) cap=(Sl.mk ad cap (q.l ++ (l.fr (k+1)).l)).val from by simp only [Sl.val,List.length_append]]
    try simp only [go_sem,jq,jj,jy,jv,jk,jx,hsl,hw1,jW,jY,Int.toNat_zero,Nat.zero_mul,zx1,zx2,ite_self,Nat.sub_zero]
    refine U_1 11 0 [] rfl rfl ?_
    simp only [go_sem,jq,jj,jy,jv,jk,jx,hsl,hw1,jW,jY,Int.toNat_zero,Nat.zero_mul,zx1,zx2,ite_self,Nat.sub_zero]
    refine zhF (fun _=>zLM x a ⟨ad,cap,q.l ++ (l.fr (k+1)).l⟩ _ (Enc.mono le2 hx) (ha.mono le2) k2 (by rw [con_ints];show Sz.sz (q.l ++ (l.fr (k+1)).l)≤_;rw [hel];exact hz2)) ?_
    rw [con_ints,hca,show (Sl.mk ad cap (q.l ++ (l.fr (k+1)).l)).l=l.l.take k ++ l.l.drop (k+1) from hel]
    try simp only [go_sem,jq,jj,jy,jv,jk,jx]
    refine U_t [12] rfl ?_
    simp only [go_sem,jq,jj,jy,jv,jk,jx,hsl,hw1,jW,jY,Int.toNat_zero,Nat.zero_mul,zx1,zx2,ite_self,Nat.sub_zero]
    refine U_d ?_
    refine zc9 rfl (fun hq=>?_) (fun hq=>?_)
    ·rw [Bool.not_eq_true'] at hq
     refine Wk ?_
     rw [decide_eq_false fun H=>by rw [H k hlt] at hq;cases hq]
    ·rw [Bool.not_eq_false'] at hq
     refine Wk ?_
     refine ⟨k+1,[0],⟨hlt,fun i hi=>?_⟩,by omega,?_⟩
     ·rcases Nat.lt_succ_iff_lt_or_eq.1 hi with hi|rfl
      ·exact hno i hi
      ·exact hq
     refine Evs ?_
     exact Gi (zjA hlt (by omega))
   ·refine U_b 9 0 [0] rfl rfl ?_
    simp only [go_sem,jq,jj,jy,jv,jk,jx,hsl,hw1,jW,jY,Int.toNat_zero,Nat.zero_mul,zx1,zx2,ite_self,Nat.sub_zero]
    refine ⟨by omega,?_⟩
    try simp only [go_sem,jq,jj,jy,jv,jk,jx,hsl,hw1,jW,jY,Int.toNat_zero,Nat.zero_mul,zx1,zx2,ite_self,Nat.sub_zero]
    refine U_1 5 0 [0] rfl rfl ?_
    simp only [go_sem,jq,jj,jy,jv,jk,jx,hsl,hw1,jW,jY,Int.toNat_zero,Nat.zero_mul,zx1,zx2,ite_self,Nat.sub_zero]
    refine zkr (zES (l.to k) _ (Sl.to_ok hl k) (by rw [Sl.to_len (by omega)];omega)) rfl ?_
    rintro v h1 le1 ⟨q,rfl,eq1,Rq,fq⟩
    try simp only [go_sem,jq,jj,jy,jv,jk,jx,hsl,hw1,jW,jY,Int.toNat_zero,Nat.zero_mul,zx1,zx2,ite_self,Nat.sub_zero]
    refine U_1 10 3 [0] rfl rfl ?_
    simp only [go_sem,jq,jj,jy,jv,jk,jx,hsl,hw1,jW,jY,Int.toNat_zero,Nat.zero_mul,zx1,zx2,ite_self,Nat.sub_zero]
    refine zCQ (s:=q) rfl Rq (fun g hg=>.inl (fq g hg)) ?_
    have hql:q.l.length=k:=by rw [eq1];exact Sl.to_len (by omega)
    have hall:(zCO h1 q).ldL (l.fr (k+1)).val 1=some ((l.fr (k+1)).l.flatMap Enc.enc):=(Sl.fr_ok (hl.mono (zCR le1 fq Rq.addr)) (k+1)).all (by decide)
    try simp only [go_sem,jq,jj,jy,jv,jk,jx,hsl,hw1,jW,jY,Int.toNat_zero,Nat.zero_mul,zx1,zx2,ite_self,Nat.sub_zero]
    simp only [hall,Option.isSome_some,Option.getD_some]
    refine ⟨trivial,rfl,fun u hu=>?_,by rw [hql,hfl];simp only [maxLen];omega,by rw [hql,hfl];omega,fun ad cap h2 P=>?_⟩
    ·rw [zCX] at hu
     obtain ⟨y,_,rfl⟩:=List.mem_map.1 hu
     rfl
    have P':Pub (zCO h1 q) 3 (Enc.size Int) (q.l ++ (l.fr (k+1)).l).length ((q.l ++ (l.fr (k+1)).l).flatMap Enc.enc) ad cap h2:=by
     rw [List.length_append,List.flatMap_append];exact P
    have led:=zCR le1 fq Rq.addr
    have k2:(Sl.mk ad cap (q.l ++ (l.fr (k+1)).l)).Ok h2:=Pub.sl (by decide) P' fun y hy=>by
     rcases List.mem_append.1 hy with hy|hy
     ·rw [eq1] at hy;exact hl.2.2.2.1 y (List.mem_of_mem_take hy)
     ·exact hl.2.2.2.1 y (List.mem_of_mem_drop hy)
    have le2:=Hp.le_trans led P'.le
    have hel:q.l ++ (l.fr (k+1)).l=l.l.take k ++ l.l.drop (k+1):=by rw [eq1];rfl
    rw [show Value.slice ad (q.l.length+(l.fr (k+1)).l.length) cap=(Sl.mk ad cap (q.l ++ (l.fr (k+1)).l)).val from by simp only [Sl.val,List.length_append]]
    try simp only [go_sem,jq,jj,jy,jv,jk,jx,hsl,hw1,jW,jY,Int.toNat_zero,Nat.zero_mul,zx1,zx2,ite_self,Nat.sub_zero]
    refine U_1 11 0 [] rfl rfl ?_
    simp only [go_sem,jq,jj,jy,jv,jk,jx,hsl,hw1,jW,jY,Int.toNat_zero,Nat.zero_mul,zx1,zx2,ite_self,Nat.sub_zero]
    refine zhF (fun _=>zLM x a ⟨ad,cap,q.l ++ (l.fr (k+1)).l⟩ _ (Enc.mono le2 hx) (ha.mono le2) k2 (by rw [con_ints];show Sz.sz (q.l ++ (l.fr (k+1)).l)≤_;rw [hel];exact hz2)) ?_
    rw [con_ints,hca,show (Sl.mk ad cap (q.l ++ (l.fr (k+1)).l)).l=l.l.take k ++ l.l.drop (k+1) from hel]
    try simp only [go_sem,jq,jj,jy,jv,jk,jx]
    refine U_t [12] rfl ?_
    simp only [go_sem,jq,jj,jy,jv,jk,jx,hsl,hw1,jW,jY,Int.toNat_zero,Nat.zero_mul,zx1,zx2,ite_self,Nat.sub_zero]
    refine U_d ?_
    refine zc9 rfl (fun hq=>?_) (fun hq=>?_)
    ·rw [Bool.not_eq_true'] at hq
     refine Wk ?_
     rw [decide_eq_false fun H=>by rw [H k hlt] at hq;cases hq]
    ·rw [Bool.not_eq_false'] at hq
     refine Wk ?_
     refine ⟨k+1,[0],⟨hlt,fun i hi=>?_⟩,by omega,?_⟩
     ·rcases Nat.lt_succ_iff_lt_or_eq.1 hi with hi|rfl
      ·exact hno i hi
      ·exact hq
     refine Evs ?_
     exact Gi (zjA hlt (by omega))
  ·refine U_b 9 0 [0] rfl rfl ?_
   simp only [go_sem,jq,jj,jy,jv,jk,jx,hsl,hw1,jW,jY,Int.toNat_zero,Nat.zero_mul,zx1,zx2,ite_self,Nat.sub_zero]
   refine ⟨by omega,?_⟩
   try simp only [go_sem,jq,jj,jy,jv,jk,jx,hsl,hw1,jW,jY,Int.toNat_zero,Nat.zero_mul,zx1,zx2,ite_self,Nat.sub_zero]
   refine U_1 4 0 [0] rfl rfl ?_
   simp only [go_sem,jq,jj,jy,jv,jk,jx,hsl,hw1,jW,jY,Int.toNat_zero,Nat.zero_mul,zx1,zx2,ite_self,Nat.sub_zero]
   refine ⟨by omega,?_⟩
   rw [zx3 (by omega)]
   try simp only [go_sem,jq,jj,jy,jv,jk,jx,hsl,hw1,jW,jY,Int.toNat_zero,Nat.zero_mul,zx1,zx2,ite_self,Nat.sub_zero]
   refine U_1 5 0 [0] rfl rfl ?_
   simp only [go_sem,jq,jj,jy,jv,jk,jx,hsl,hw1,jW,jY,Int.toNat_zero,Nat.zero_mul,zx1,zx2,ite_self,Nat.sub_zero]
   refine zkr (zES (l.to k) _ (Sl.to_ok hl k) (by rw [Sl.to_len (by omega)];omega)) rfl ?_
   rintro v h1 le1 ⟨q,rfl,eq1,Rq,fq⟩
   try simp only [go_sem,jq,jj,jy,jv,jk,jx,hsl,hw1,jW,jY,Int.toNat_zero,Nat.zero_mul,zx1,zx2,ite_self,Nat.sub_zero]
   refine U_1 10 3 [0] rfl rfl ?_
   simp only [go_sem,jq,jj,jy,jv,jk,jx,hsl,hw1,jW,jY,Int.toNat_zero,Nat.zero_mul,zx1,zx2,ite_self,Nat.sub_zero]
   refine zCQ (s:=q) rfl Rq (fun g hg=>.inl (fq g hg)) ?_
   have hql:q.l.length=k:=by rw [eq1];exact Sl.to_len (by omega)
   have hall:(zCO h1 q).ldL (l.fr (k+1)).val 1=some ((l.fr (k+1)).l.flatMap Enc.enc):=(Sl.fr_ok (hl.mono (zCR le1 fq Rq.addr)) (k+1)).all (by decide)
   try simp only [go_sem,jq,jj,jy,jv,jk,jx,hsl,hw1,jW,jY,Int.toNat_zero,Nat.zero_mul,zx1,zx2,ite_self,Nat.sub_zero]
   simp only [hall,Option.isSome_some,Option.getD_some]
   refine ⟨trivial,rfl,fun u hu=>?_,by rw [hql,hfl];simp only [maxLen];omega,by rw [hql,hfl];omega,fun ad cap h2 P=>?_⟩
   ·rw [zCX] at hu
    obtain ⟨y,_,rfl⟩:=List.mem_map.1 hu
    rfl
   have P':Pub (zCO h1 q) 3 (Enc.size Int) (q.l ++ (l.fr (k+1)).l).length ((q.l ++ (l.fr (k+1)).l).flatMap Enc.enc) ad cap h2:=by
    rw [List.length_append,List.flatMap_append];exact P
   have led:=zCR le1 fq Rq.addr
   have k2:(Sl.mk ad cap (q.l ++ (l.fr (k+1)).l)).Ok h2:=Pub.sl (by decide) P' fun y hy=>by
    rcases List.mem_append.1 hy with hy|hy
    ·rw [eq1] at hy;exact hl.2.2.2.1 y (List.mem_of_mem_take hy)
    ·exact hl.2.2.2.1 y (List.mem_of_mem_drop hy)
   have le2:=Hp.le_trans led P'.le
   have hel:q.l ++ (l.fr (k+1)).l=l.l.take k ++ l.l.drop (k+1):=by rw [eq1];rfl
   rw [show Value.slice ad (q.l.length+(l.fr (k+1)).l.length) cap=(Sl.mk ad cap (q.l ++ (l.fr (k+1)).l)).val from by simp only [Sl.val,List.length_append]]
   try simp only [go_sem,jq,jj,jy,jv,jk,jx,hsl,hw1,jW,jY,Int.toNat_zero,Nat.zero_mul,zx1,zx2,ite_self,Nat.sub_zero]
   refine U_1 11 0 [] rfl rfl ?_
   simp only [go_sem,jq,jj,jy,jv,jk,jx,hsl,hw1,jW,jY,Int.toNat_zero,Nat.zero_mul,zx1,zx2,ite_self,Nat.sub_zero]
   refine zhF (fun _=>zLM x a ⟨ad,cap,q.l ++ (l.fr (k+1)).l⟩ _ (Enc.mono le2 hx) (ha.mono le2) k2 (by rw [con_ints];show Sz.sz (q.l ++ (l.fr (k+1)).l)≤_;rw [hel];exact hz2)) ?_
   rw [con_ints,hca,show (Sl.mk ad cap (q.l ++ (l.fr (k+1)).l)).l=l.l.take k ++ l.l.drop (k+1) from hel]
   try simp only [go_sem,jq,jj,jy,jv,jk,jx]
   refine U_t [12] rfl ?_
   simp only [go_sem,jq,jj,jy,jv,jk,jx,hsl,hw1,jW,jY,Int.toNat_zero,Nat.zero_mul,zx1,zx2,ite_self,Nat.sub_zero]
   refine U_d ?_
   refine zc9 rfl (fun hq=>?_) (fun hq=>?_)
   ·rw [Bool.not_eq_true'] at hq
    refine Wk ?_
    rw [decide_eq_false fun H=>by rw [H k hlt] at hq;cases hq]
   ·rw [Bool.not_eq_false'] at hq
    refine Wk ?_
    refine ⟨k+1,[0],⟨hlt,fun i hi=>?_⟩,by omega,?_⟩
    ·rcases Nat.lt_succ_iff_lt_or_eq.1 hi with hi|rfl
     ·exact hno i hi
     ·exact hq
    refine Evs ?_
    exact Gi (zjA hlt (by omega))
 ·have hge:=zjI hd
  obtain rfl:k=l.l.length:=by omega
  refine Wk ?_
  rw [decide_eq_true hno]
theorem zLN {α:Type} {l:List α} {i:Nat} {d:α} (h:i < l.length):l.getD i d=l[i]:=by simp [List.getD_eq_getElem?_getD,h]
theorem zPX {α:Type} {l:List α} {i:Nat} {d:α} (h:l.length≤i):l.getD i d=d:=by simp [List.getD_eq_getElem?_getD,h]
theorem zPY {L:List (List POption)} {ch:List Int} (hL:∀ l ∈ L,∀ y ∈ l,Sz.sz y≤8):∀ {k:Nat} {p:List POption},plGo L ch k=some p→p.length=k∧∀ y ∈ p,Sz.sz y≤8
 | 0,p,h=>by rw [plGo] at h;cases h;exact ⟨rfl,fun y hy=>by cases hy⟩
 | k+1,p,h=>by
  rw [plGo] at h
  obtain ⟨q,hq,h⟩:=Option.bind_eq_some_iff.1 h
  rw [zO7] at h
  split at h
  ·rename_i hb
   obtain rfl:=Option.some.inj h
   obtain ⟨h1,h2⟩:=zPY hL hq
   refine ⟨by rw [List.length_append,h1];rfl,fun y hy=>?_⟩
   rcases List.mem_append.1 hy with hy|hy
   ·exact h2 y hy
   ·rw [List.mem_singleton.1 hy]
    have hc:(ch.getD k 0).toNat < (L.getD k []).length:=by omega
    rw [zLN hc]
    refine hL (L.getD k []) ?_ _ (List.getElem_mem hc)
    by_cases hk:k < L.length
    ·rw [zLN hk];exact List.getElem_mem hk
    ·rw [zPX (l:=L) (i:=k) (d:=[]) (by omega)] at hc;exact absurd hc (Nat.not_lt_zero _)
  ·cases h
theorem zPZ {x:zOw} {a:List DCall} {ch:List Int}:(zO8 x a ch).1.length≤6∧∀ y ∈ (zO8 x a ch).1,Sz.sz y≤8:=by
 rw [zO8]
 split
 ·rename_i hc
  have hl:=zJy (Bool.and_eq_true_iff.1 hc).1
  cases hp:plGo (zJu x a) ch a.length with
  | none=>exact ⟨Nat.zero_le _,fun y hy=>by cases hy⟩
  | some s =>
   obtain ⟨h1,h2⟩:=zPY (fun l hl y hy=>by
    rw [zJu] at hl
    obtain ⟨c,-,rfl⟩:=List.mem_map.1 hl
    exact (zGa).2 y hy) hp
   exact ⟨by rw [oLB];simp only;omega,h2⟩
 ·exact ⟨Nat.zero_le _,fun y hy=>by cases hy⟩
theorem zP0 (x:zOw) (a:List DCall) (ch:List Int):Sz.sz (zO8 x a ch).1≤1048576:=by
 obtain ⟨h1,h2⟩:=zPZ (x:=x) (a:=a) (ch:=ch)
 have:=zGb h2
 omega
theorem zP1 (x:DHarbour) (a:Sl DCall) (m:Sl Int) (h:Hp) (hx:Enc.ok h x) (ha:a.Ok h) (hm:m.Ok h):Ct jV 47 [x.v,a.val,m.val] h fun v h'=>∃ s:Sl DOption,v=.tuple #[s.val,.bool (zO8 (Con.con x) (Con.con a) (Con.con m)).2]∧Con.con s=(zO8 (Con.con x) (Con.con a) (Con.con m)).1∧s.Ok h'∧Mine h h' s:=by
 have h1:(Con.con a:List DCall)=a.l:=List.map_id _
 have h2:(Con.con m:List Int)=m.l:=List.map_id _
 rw [h1,h2]
 exact zPd x a m h hx ha hm
theorem zLO {l:List Nat} {k:Nat} (h:k < l.length) (h2:k < (zs l).length):(zs l)[k]=((l[k]:Nat):Int):=by simp [zs]
theorem zLQ {a b:List Nat}:zs (a ++ b)=zs a ++ zs b:=by simp [zs]
theorem zLR {l:List Nat} (h:∀ x ∈ l,x < 1000):∀ y ∈ zs l,I64 y:=fun y hy=>by
 obtain ⟨z,hz,rfl⟩:=List.mem_map.1 hy
 have:=h z hz
 show I64 _;unfold I64;omega
noncomputable def QS (x:zOw) (a:List DCall) (w:List Nat):Bool:=(zKe (zKc x (w.map fun k=>(zJu x a).getD k []))).2.2
def selG (size n f:Nat):List (List Nat):=(sels size (n - f - 1)).map fun r=>f :: r.map (f+1+·)
theorem zL7 {size n:Nat}:sels (size+1) n=(List.range n).flatMap (selG size n):=rfl
set_option maxRecDepth 30000 in
theorem zL8:∀ (size n:Nat) (h:Hp),n≤6→size≤100→Ct jV 82 [.int .i64 n,.int .i64 size] h fun v h'=>∃ s:Sl (Sl Int),v=s.val∧s.l.map (·.l)=(sels size n).map zs∧s.Ok h'∧Mine h h' s
 | 0,n,h,hn,_=>by
  refine zdn (fun A W=>by simp) Tryz.func82 rfl rfl (by simp) fun W0=>?_
  refine Wk ?_
  refine zc9 rfl (fun hq=>?_) (fun hq=>?_)
  case refine_2=>simp at hq
  first|refine zyi [2,0,0] rfl ?_|refine zyh [2,0,0] rfl ?_|(refine zc3 ?_;first|refine zyi [2,0,0] rfl ?_|refine zyh [2,0,0] rfl ?_)
  refine Evs ?_
  intro ad cap h1 P
  have P':Pub h 3 (Enc.size Int) ([]:List Int).length (([]:List Int).flatMap Enc.enc) ad cap h1:=P
  have ok1:(Sl.mk ad cap ([]:List Int)).Ok h1:=Pub.sl (l:=([]:List Int)) (by decide) P' (fun y hy=>(by cases hy))
  try simp only [go_sem,jq,jj,jy,jv,jk,jx]
  refine zl5 1 [Sl.mk ad cap ([]:List Int)] rfl rfl rfl rfl (by decide) (fun y hy=>by rw [List.mem_singleton.1 hy];exact ok1) h P'.le ⟨fun y hy=>by rw [List.mem_singleton.1 hy];exact (Mine.nil (h:=h) (h':=h1)).1,fun b hb=>(by cases hb),List.nodup_nil⟩ fun s h' e1 e2 e3 e4=>?_
  refine Wk ?_
  exact ⟨s,rfl,by rw [e1];rfl,e2,e4⟩
 | size+1,n,h,hn,hs100=>by
  refine zdn (fun A W=>by simp) Tryz.func82 rfl rfl (by simp) fun W0=>?_
  refine Wk ?_
  refine zc9 rfl (fun hq=>?_) (fun hq=>?_)
  ·have:=eq_of_beq hq
   omega
  refine Wk ?_
  refine zm1 (ι:=Nat × List (Sl Int) × Hp) (fun t=>match t with|(f,acc,hk)=>⟨[(0,true,.c (.v (.int .i64 n))),(1,true,.c (.v (.int .i64 (size+1:Nat)))),(4,true,.c (.v (.slice none 0 0))),(5,true,.c (.s 0)),(17,true,.c (.v (.int .i64 n))),(18,true,.c (.v (.int .i64 f)))],[(0,.row 35 1 acc.length (acc.flatMap Enc.enc))],hk,1⟩) (fun t=>t.1≤n∧t.2.1.map (·.l)=((List.range t.1).flatMap (selG size n)).map zs∧t.2.1.length≤64 * t.1∧(∀ y ∈ t.2.1,Enc.ok t.2.2 y)∧Mines h t.2.2 t.2.1∧h.le t.2.2) (fun t=>n - t.1) (0,[],h) ⟨Nat.zero_le _,rfl,Nat.zero_le _,fun y hy=>(by cases hy),Mines.nil,Hp.le_refl _⟩ [0] ?_ ?_
  ·refine Evs ?_
   exact Gk
  rintro ⟨f,acc,hk⟩ ⟨hf,hm,hal,hok,hmi,hle⟩
  simp only at hf hm hal hok hmi hle
  refine Wk ?_
  refine zc9 rfl (fun hd=>?_) (fun hd=>?_)
  ·have hlt:f < n:=zjH hd
   have hw1:IntKind.i64.wrap (IntKind.i64.wrap ((n:Int) - (f:Int)) - 1)=((n - f - 1:Nat):Int):=by rw [zjz (n:=(n:Int) - (f:Int)) (by omega),zjz (by omega)];omega
   have hw2:IntKind.i64.wrap (((size+1:Nat):Int) - 1)=((size:Nat):Int):=by rw [zjz (by omega)];omega
   repeat' first|refine Wa ?_|(simp only [go_sem,jq,jj,jy,jv,jk,jx,hw1,hw2];try rfl)|refine Wb ?_|fail
   refine zkr (zL8 size (n - f - 1) _ (by omega) (by omega)) rfl ?_
   rintro v h1 le1 ⟨s,rfl,es,oks,ms⟩
   have hsl:s.l.length=(sels size (n - f - 1)).length:=zKG es
   have hs64:=zLI (n:=n - f - 1) (by omega) (s:=size)
   refine Wk ?_
   refine zm1 (ι:=Nat × List (Sl Int) × Hp) (fun t=>match t with|(j,ac,hj)=>⟨[(0,true,.c (.v (.int .i64 n))),(1,true,.c (.v (.int .i64 (size+1:Nat)))),(4,true,.c (.v (.slice none 0 0))),(5,true,.c (.s 0)),(6,true,.c (.v (.int .i64 f))),(17,true,.c (.v (.int .i64 n))),(18,true,.c (.v (.int .i64 f))),(27,true,.c (.v s.val)),(28,true,.c (.v (.int .i64 s.l.length))),(29,true,.c (.v (.int .i64 j)))],[(0,.row 35 1 ac.length (ac.flatMap Enc.enc))],hj,1⟩) (fun t=>t.1≤s.l.length∧t.2.1.map (·.l)=((List.range f).flatMap (selG size n)).map zs ++ ((selG size n f).take t.1).map zs∧t.2.1.length≤64 * f+t.1∧(∀ y ∈ t.2.1,Enc.ok t.2.2 y)∧Mines h t.2.2 t.2.1∧h.le t.2.2∧h1.le t.2.2) (fun t=>s.l.length - t.1) (0,acc,h1) ⟨Nat.zero_le _,by simp [hm],hal,fun y hy=>Enc.mono le1 (hok y hy),⟨fun y hy=>(Foot.loc (hok y hy) (hmi.1 y hy) fun b _ o ho=>le1 b o ho).2,hmi.2.1,hmi.2.2⟩,Hp.le_trans hle le1,Hp.le_refl _⟩ [0] ?_ ?_
   ·refine Evs ?_
    have l01:=Hp.le_trans hle le1
    exact Gk
   rintro ⟨j,ac,hj⟩ ⟨hjl,hmj,hlj,hoj,hmij,lej,lesj⟩
   simp only at hjl hmj hlj hoj hmij lej lesj
   have oksj:=oks.mono lesj
   refine Wk ?_
   refine zc9 rfl (fun hdj=>?_) (fun hdj=>?_)
   ·have hltj:=zjH hdj
    have hokr:s.l[j].Ok hj:=Sl.Ok.el oksj hltj
    obtain ⟨r,hrm,hr⟩:∃ r,r ∈ sels size (n - f - 1)∧s.l[j].l=zs r∧(selG size n f)[j]?=some (f :: r.map (f+1+·)):=by
     have h9:j < (sels size (n - f - 1)).length:=by omega
     refine ⟨(sels size (n - f - 1))[j],List.getElem_mem h9,zKF es hltj h9,?_⟩
     rw [selG,List.getElem?_map,List.getElem?_eq_getElem h9];rfl
    obtain ⟨hr,hg⟩:=hr
    obtain ⟨hrs,hra⟩:=zLm.1 hrm
    have hrl:r.length≤6:=Nat.le_trans (zLA hra) (by omega)
    have hsj:s.l[j].l.length=r.length:=by rw [hr,zHW]
    obtain ⟨W,hW⟩:∃ W:Nat→List Int,W=fun i=>zs (f :: (r.take i).map (f+1+·)):=⟨_,rfl⟩
    have hW0:W 0=[(f:Int)]:=by rw [hW];rfl
    have hWl:∀ i,i≤r.length→(W i).length=i+1:=fun i hi=>by rw [hW];simp [zs];omega
    have hWn:∀ i (hi:i < r.length),W (i+1)=W i ++ [((f+1+r[i]:Nat):Int)]:=fun i hi=>by
     rw [hW]
     simp only [List.take_succ_eq_append_getElem hi,List.map_append,List.map_cons,List.map_nil]
     rw [← List.cons_append,zLQ];rfl
    repeat' first|refine Wa ?_|(simp only [go_sem,jq,jj,jy,jv,jk,jx,zkQ oksj hltj,oksj.some hltj,hltj,jW];try rfl)|refine Wb ?_|fail
    refine zm1 (ι:=Nat) (fun i=>⟨[(0,true,.c (.v (.int .i64 n))),(1,true,.c (.v (.int .i64 (size+1:Nat)))),(4,true,.c (.v (.slice none 0 0))),(5,true,.c (.s 0)),(6,true,.c (.v (.int .i64 f))),(17,true,.c (.v (.int .i64 n))),(18,true,.c (.v (.int .i64 f))),(27,true,.c (.v s.val)),(28,true,.c (.v (.int .i64 s.l.length))),(29,true,.c (.v (.int .i64 j))),(9,true,.c (.s 1)),(35,true,.c (.v s.l[j].val)),(36,true,.c (.v (.int .i64 r.length))),(37,true,.c (.v (.int .i64 i)))],[(0,.row 35 1 ac.length (ac.flatMap Enc.enc)),(1,.row 3 1 (i+1) ((W i).flatMap Enc.enc))],hj,2⟩) (fun i=>i≤r.length) (fun i=>r.length - i) 0 (Nat.zero_le _) [0,1] ?_ ?_
    ·simp only [go_sem,jq,jj,jy,jv,jk,jx,hsj]
     rw [hW0]
     exact Gk
    intro i hi
    refine Wk ?_
    refine zc9 rfl (fun hdi=>?_) (fun hdi=>?_)
    ·have hlti:i < r.length:=zjH hdi
     have hlti2:i < s.l[j].l.length:=by omega
     have he:s.l[j].l[i]=((r[i]:Nat):Int):=by simp only [hr];exact zLO hlti _
     have hri:=hra.2 _ (List.getElem_mem hlti)
     have hwe:IntKind.i64.wrap (IntKind.i64.wrap ((f:Int)+1)+(r[i]:Nat))=((f+1+r[i]:Nat):Int):=by rw [zjz (n:=(f:Int)+1) (by omega),zjz (by omega)];omega
     repeat' first|refine Wa ?_|(simp only [go_sem,jq,jj,jy,jv,jk,jx,zkR hokr hlti2,hokr.some hlti2,hlti2,hlti,he,hwe,jW];try rfl)|refine Wb ?_|fail
     refine ⟨by simp only [maxLen];omega,by omega,?_⟩
     refine Wk ?_
     refine ⟨i+1,[0,3],hlti,by omega,?_⟩
     refine Evs ?_
     rw [hWn i hlti,List.flatMap_append]
     exact Gi (zjA hlti (by omega))
    ·have hgei:=zjI hdi
     obtain rfl:i=r.length:=by omega
     refine zc6 ?_
     refine Evs ?_
     refine zl5 1 (W r.length) rfl rfl (hWl _ (Nat.le_refl _)).symm rfl (by decide) (fun y hy=>?_) hj (Hp.le_refl _) (Mines.flat (fun _=>rfl) (fun _=>trivial)) fun q h' e1 e2 e3 e4=>?_
     ·rw [hW] at hy
      refine zLR (fun z hz=>?_) y hy
      rcases List.mem_cons.1 hz with rfl|hz
      ·omega
      ·obtain ⟨u,hu,rfl⟩:=List.mem_map.1 hz
       have:=hra.2 u (List.mem_of_mem_take hu)
       omega
     refine Wk ?_
     refine ⟨by simp only [maxLen];omega,by omega,?_⟩
     refine Wk ?_
     have hqe:q.l=zs (f :: r.map (f+1+·)):=by rw [e1,hW];simp
     refine ⟨(j+1,ac ++ [q],h'),[3],⟨hltj,?_,by simp only [List.length_append,List.length_singleton];omega,fun y hy=>?_,Mines.snoc hmij hoj e3 lej e4,Hp.le_trans lej e3,Hp.le_trans lesj e3⟩,by simp only;omega,?_⟩
     ·show (ac ++ [q]).map _=_
      obtain ⟨hj9,hg9⟩:=List.getElem?_eq_some_iff.1 hg
      rw [List.map_append,hmj,List.map_cons,List.map_nil,hqe,List.take_succ_eq_append_getElem hj9,hg9,List.map_append,List.append_assoc];rfl
     ·rcases List.mem_append.1 hy with hy|hy
      ·exact Enc.mono e3 (hoj y hy)
      ·rw [List.mem_singleton.1 hy];exact e2
     refine Evs ?_
     have lle:=Hp.le_trans lej e3
     simp only [List.flatMap_append,List.length_append]
     exact Gi (zjA hltj (by omega))
   ·have hgej:=zjI hdj
    have hje:j=s.l.length:=by omega
    refine Wk ?_
    refine ⟨(f+1,ac,hj),[0],⟨hlt,?_,by simp only;omega,hoj,hmij,lej⟩,by simp only;omega,?_⟩
    ·simp only
     rw [hmj,List.range_succ,List.flatMap_append,List.map_append,List.flatMap_cons,List.flatMap_nil,List.append_nil,List.take_of_length_le (by rw [selG,List.length_map];omega)]
    refine Evs ?_
    exact Gi (zjA (n:=64) (k:=f) (by omega) (by omega))
  ·have hge:=zjI hd
   obtain rfl:f=n:=by omega
   refine zc6 ?_
   refine Evs ?_
   refine zl5 0 acc rfl rfl rfl rfl (by decide) hok h hle hmi fun q h' e1 e2 e3 e4=>?_
   refine Wk ?_
   exact ⟨q,rfl,by rw [e1,hm,zL7],e2,e4⟩
theorem zL9 {s m:Nat} (h:s < m):List.range m=List.range s ++ s :: (List.range m).drop (s+1):=by
 have e:=List.take_append_drop s (List.range m)
 rw [List.take_range,Nat.min_eq_left (Nat.le_of_lt h),List.drop_eq_getElem_cons (by simpa using h)] at e
 simpa using e.symm
theorem zMa {α:Type} {P:α→Bool} {A B:List α} {w:α} (hA:∀ y ∈ A,P y=false) (hw:P w=true):(A ++ w :: B).find? P=some w:=by
 rw [List.find?_append,List.find?_eq_none.2 (fun y hy=>by rw [hA y hy];exact Bool.false_ne_true),List.find?_cons,hw];rfl
theorem zMb {β:Type} {P:β→Bool} {F:Nat→List β} {m s j:Nat} (hs:s < m) (hj:j < (F s).length) (hA:∀ y ∈ (List.range s).flatMap F,P y=false) (hB:∀ y ∈ (F s).take j,P y=false) (hw:P (F s)[j]=true):((List.range m).flatMap F).find? P=some (F s)[j]:=by
 have e:(List.range m).flatMap F=((List.range s).flatMap F ++ (F s).take j) ++ (F s)[j] :: ((F s).drop (j+1) ++ ((List.range m).drop (s+1)).flatMap F):=by
  rw [zL9 hs]
  simp only [List.flatMap_append,List.flatMap_cons]
  have h2:=List.take_append_drop j (F s)
  rw [List.drop_eq_getElem_cons hj] at h2
  have h3:(List.range s ++ s :: (List.range m).drop (s+1)).drop (s+1)=(List.range m).drop (s+1):=by rw [← zL9 hs]
  rw [h3,List.append_assoc]
  congr 1
  exact (congrArg (· ++ _) h2.symm).trans (List.append_assoc ..)
 rw [e]
 refine zMa (fun y hy=>?_) hw
 rcases List.mem_append.1 hy with hy|hy
 ·exact hA y hy
 ·exact hB y hy
theorem zMc {β:Type} {P:β→Bool} {F:Nat→List β} {m:Nat} (hA:∀ y ∈ (List.range m).flatMap F,P y=false):((List.range m).flatMap F).find? P=none:=List.find?_eq_none.2 fun y hy=>by rw [hA y hy];exact Bool.false_ne_true
theorem zMd {w:List Nat} {i:Nat} (h:i < w.length):(zs w).getD i 0=((w[i]:Nat):Int):=by simp [zs,List.getD_eq_getElem?_getD,h]
theorem zMe {n:Nat} {w:List Nat} (h:Asc n w) {i j:Nat} (hj:j < w.length) (hij:i < j):w[i]'(by omega) < w[j]:=List.pairwise_iff_getElem.1 h.1 i j (by omega) hj hij
theorem zMf {n:Nat} {w:List Nat} (h:Asc n w):Sel n (zs w):=fun i hi=>by
 rw [zHW] at hi
 rw [zMd hi]
 refine ⟨jY _,by have:=h.2 _ (List.getElem_mem hi);omega,fun h0=>?_⟩
 rw [zMd (show i - 1 < w.length by omega)]
 have:=zMe h (i:=i - 1) hi (by omega)
 omega
def selC (a:List DCall) (w:List Nat):List DCall:=w.map fun k=>a.getD k ⟨0,0,0,0,0⟩
theorem zMg {a:List DCall} {w:List Nat} (h:Asc a.length w):zJm a (zs w)=selC a w:=by
 rw [zJm,if_pos (zMf h),zs,List.map_map];rfl
theorem zMh {a:List DCall} {w:List Nat} {i:Nat} (hi:i < w.length):(selC a w).getD i dC=a.getD w[i] ⟨0,0,0,0,0⟩:=by simp [selC,List.getD_eq_getElem?_getD,hi]
theorem zMi {x:zOw} {a:List DCall} {w:List Nat} (hc:zAP x a=true) (h:Asc a.length w):zAP x (selC a w)=true:=by
 have hl:=zLA h
 rw [zAP,jJ,jJ,decide_eq_true_eq,decide_eq_true_eq] at hc ⊢
 obtain ⟨⟨h1,h2⟩,h3⟩:=hc
 have hwl:(selC a w).length=w.length:=List.length_map ..
 have hd:dC=(⟨0,0,0,0,0⟩:DCall):=rfl
 refine ⟨⟨h1,by omega⟩,fun i hi=>?_⟩
 rw [hwl] at hi
 have hwi:=h.2 _ (List.getElem_mem hi)
 have h4:=h3 _ hwi
 rw [clOk,jJ] at h4 ⊢
 rw [zMh hi,← hd]
 refine ⟨h4.1,?_⟩
 rw [zAO,decide_eq_true_eq] at h4 ⊢
 intro j hj
 rw [zMh hi,zMh (show j < w.length by omega),← hd]
 exact h4.2 _ (zMe h hi hj)
theorem zMj {x:DHarbour} {a:List DCall} {w:List Nat} (hc:zAP (Con.con x) a=true) (h:Asc a.length w):zLK (Con.con x) a (zs w)=QS (Con.con x) a w:=by
 have hs:=zMi hc h
 have h6:=zJy hs
 have hw:=zJU hs
 have hfl:(Con.con x).fleet=x.fleet.l:=zz2 _
 have hB:zKc (Con.con x) (zJu (Con.con x) (selC a w))=srI (Con.con x) (zJu (Con.con x) (selC a w)) [] [] none:=zKd hw (fun l hl o ho=>by
  rw [zJu] at hl
  obtain ⟨d,_,rfl⟩:=List.mem_map.1 hl
  rw [hfl];exact zJj o ho) (fun l hl o ho=>by
  rw [zJu] at hl
  obtain ⟨d,_,rfl⟩:=List.mem_map.1 hl
  exact (zGr o ho).1) (by rw [zJx];omega)
 have hL:zJu (Con.con x) (selC a w)=w.map fun k=>(zJu (Con.con x) a).getD k []:=by
  rw [zJu,selC,List.map_map]
  refine List.map_congr_left fun k hk=>?_
  have hka:=h.2 k hk
  simp only [Function.comp]
  rw [zJw hka]
  simp [List.getD_eq_getElem?_getD,hka]
 rw [zLK,hc,decide_eq_true (zMf h),zMg h,Bool.true_and,Bool.true_and,zLJ,zKf,if_pos hs,← hB,hL,QS]
noncomputable def refL (x:zOw) (a:List DCall):List Nat:=(zLt false (fun w=>QS x a w == false) (zLz a.length)).getD []
noncomputable def srvL (x:zOw) (a:List DCall):List Nat:=(zLt true (fun w=>QS x a w == true) (zLz a.length)).getD []
noncomputable def zMk (x:zOw) (a:List DCall):List Int:=if zAP x a=true then zs (refL x a) else []
noncomputable def zMl (x:zOw) (a:List DCall):List Int:=if zAP x a=true then zs (srvL x a) else []
theorem zMm {long:Bool} {Q:List Nat→Bool} {n:Nat}:((zLt long Q (zLz n)).getD []).length≤n:=by
 have h:=zLw (long:=long) (Q:=Q) (ls:=zLz n)
 cases hr:zLt long Q (zLz n) with
 | none=>exact Nat.zero_le _
 | some b =>
  rw [hr] at h
  exact zLA (zLB.1 h.1)
theorem zMn (x:zOw) (a:List DCall):Sz.sz (zMk x a)≤1048576:=by
 rw [zMk]
 split
 ·rename_i hc
  have:=zJy hc
  have h2:(refL x a).length≤a.length:=zMm
  rw [zLh];omega
 ·exact Nat.zero_le _
theorem zMo (x:zOw) (a:List DCall):Sz.sz (zMl x a)≤1048576:=by
 rw [zMl]
 split
 ·rename_i hc
  have:=zJy hc
  have h2:(srvL x a).length≤a.length:=zMm
  rw [zLh];omega
 ·exact Nat.zero_le _
noncomputable def zMp (x:zOw) (a:List DCall):Int:=if zAP x a=true then (a.length:Int) - (zMl x a).length else -1
set_option maxRecDepth 30000 in
theorem zMs (x:DHarbour) (a:Sl DCall) (h:Hp) (hx:Enc.ok h x) (ha:a.Ok h):Ct jV 34 [x.v,a.val] h fun v h'=>∃ s:Sl Int,v=s.val∧Con.con s=zMk (Con.con x) (Con.con a)∧s.Ok h'∧Mine h h' s:=by
 have hca:Con.con a=a.l:=zAQ a
 rw [hca]
 refine zdn (fun A W=>by simp) Tryz.func34 rfl rfl (by simp) fun W0=>?_
 repeat' first|refine Wa ?_|refine zhF (fun _=>zAS x a _ hx ha) ?_|(simp only [go_sem,jq,jj,jy,jv,jk,jx];try rfl)|refine Wb ?_|fail
 rw [hca]
 refine zc9 rfl (fun hc=>?_) (fun hc=>?_)
 ·rw [Bool.not_eq_true'] at hc
  rw [zMk,if_neg (by rw [hc];exact Bool.false_ne_true)]
  refine Wk ?_
  exact ⟨⟨none,0,[]⟩,rfl,rfl,znp,Mine.nil⟩
 rw [Bool.not_eq_false'] at hc
 have h6:=zJy hc
 rw [zMk,if_pos hc]
 obtain ⟨P,hserv,hR⟩:∃ P:List Nat→Bool,(∀ w,Asc a.l.length w→(!zLK (Con.con x) a.l (zs w))=P w)∧∀ r,((List.range (a.l.length+1)).flatMap fun s=>sels s a.l.length).find? P=r→refL (Con.con x) a.l=r.getD []:=by
  refine ⟨fun w=>QS (Con.con x) a.l w == false,fun w hw=>?_,fun r hr=>?_⟩
  ·rw [zMj hc hw]
   show (!QS (Con.con x) a.l w)=(QS (Con.con x) a.l w == false)
   cases QS (Con.con x) a.l w <;> rfl
  ·rw [refL,← zLE,upL,hr]
 have hwn:IntKind.i64.wrap ((a.l.length:Int)+1)=((a.l.length+1:Nat):Int):=by rw [zjz (by omega)];rfl
 repeat' first|refine Wa ?_|(simp only [go_sem,jq,jj,jy,jv,jk,jx,hwn];try rfl)|refine Wb ?_|fail
 refine zm1 (ι:=Nat × Hp) (fun t=>⟨[(1,true,.c (.v a.val)),(2,true,.c (.p 0 0)),(4,true,.c (.v (.slice none 0 0))),(14,true,.c (.v (.int .i64 (a.l.length+1:Nat)))),(15,true,.c (.v (.int .i64 t.1)))],[(0,.box 58 [.v (.int .i64 x.forecast.tide.mean),.v x.forecast.tide.parts.val,.v x.forecast.surges.val,.v x.chart.points.val,.v x.chart.segments.val,.v x.fleet.val,.v (.int .i64 x.regime.gap),.v (.bool x.regime.noMeet),.v (.int .i64 x.crew.tugs),.v (.int .i64 x.crew.pilots),.v (.int .i64 x.crew.rest),.v x.crew.moves.val])],t.2,1⟩) (fun t=>t.1≤a.l.length+1∧(∀ y ∈ (List.range t.1).flatMap (fun s=>sels s a.l.length),P y=false)∧h.le t.2) (fun t=>a.l.length+1 - t.1) (0,h) ⟨Nat.zero_le _,fun y hy=>(by cases hy),Hp.le_refl _⟩ [0] ?_ ?_
 ·refine Evs ?_
  exact Gk
 rintro ⟨f,hk⟩ ⟨hf,hno,hle⟩
 simp only at hf hno hle
 refine Wk ?_
 refine zc9 rfl (fun hd=>?_) (fun hd=>?_)
 ·have hlt:f < a.l.length+1:=zjH hd
  refine Wk ?_
  refine zkr (zL8 f a.l.length _ h6 (by omega)) rfl ?_
  rintro v h1 le1 ⟨s,rfl,es,oks,ms⟩
  have hsl:s.l.length=(sels f a.l.length).length:=zKG es
  have le01:=Hp.le_trans hle le1
  have hs64:=zLI (n:=a.l.length) h6 (s:=f)
  refine Wk ?_
  refine zm1 (ι:=Nat) (fun j=>⟨[(1,true,.c (.v a.val)),(2,true,.c (.p 0 0)),(4,true,.c (.v (.slice none 0 0))),(14,true,.c (.v (.int .i64 (a.l.length+1:Nat)))),(15,true,.c (.v (.int .i64 f))),(21,true,.c (.v s.val)),(22,true,.c (.v (.int .i64 s.l.length))),(23,true,.c (.v (.int .i64 j)))],[(0,.box 58 [.v (.int .i64 x.forecast.tide.mean),.v x.forecast.tide.parts.val,.v x.forecast.surges.val,.v x.chart.points.val,.v x.chart.segments.val,.v x.fleet.val,.v (.int .i64 x.regime.gap),.v (.bool x.regime.noMeet),.v (.int .i64 x.crew.tugs),.v (.int .i64 x.crew.pilots),.v (.int .i64 x.crew.rest),.v x.crew.moves.val])],h1,1⟩) (fun j=>j≤s.l.length∧∀ y ∈ (sels f a.l.length).take j,P y=false) (fun j=>s.l.length - j) 0 ⟨Nat.zero_le _,fun y hy=>(by cases hy)⟩ [0] ?_ ?_
  ·refine Evs ?_
   exact Gk
  rintro j ⟨hj,hnj⟩
  refine Wk ?_
  refine zc9 rfl (fun hdj=>?_) (fun hdj=>?_)
  ·have hltj:=zjH hdj
   have h9:j < (sels f a.l.length).length:=by omega
   have hel:s.l[j].l=zs (sels f a.l.length)[j]:=zKF es hltj h9
   have has:=(zLm.1 (List.getElem_mem h9)).2
   have hos:s.l[j].Ok h1:=Sl.Ok.el oks hltj
   repeat' first|refine Wa ?_|(simp only [go_sem,jq,jj,jy,jv,jk,jx,zkQ oks hltj,oks.some hltj,hltj,jW];try rfl)|refine Wb ?_|fail
   refine zhF (fun _=>zLM x a s.l[j] _ (Enc.mono le01 hx) (ha.mono le01) hos (by rw [con_ints,hel,zLh];have:=zLA has;omega)) ?_
   rw [con_ints,hca,hel]
   refine Wk ?_
   rw [hserv _ has]
   refine zc9 rfl (fun hq=>?_) (fun hq=>?_)
   ·refine Wk ?_
    rw [hR _ (zMb (F:=fun s=>sels s a.l.length) hlt h9 hno hnj hq)]
    exact ⟨s.l[j],rfl,con_ints.trans hel,hos,(zKW ms hltj).back hle⟩
   ·refine Wk ?_
    refine ⟨j+1,[0],⟨hltj,fun y hy=>?_⟩,by omega,?_⟩
    ·rw [List.take_succ_eq_append_getElem h9] at hy
     rcases List.mem_append.1 hy with hy|hy
     ·exact hnj y hy
     ·rw [List.mem_singleton.1 hy];exact hq
    refine Evs ?_
    exact Gi (zjA hltj (by omega))
  ·have hgej:=zjI hdj
   refine Wk ?_
   refine ⟨(f+1,h1),[0],⟨hlt,fun y hy=>?_,le01⟩,by simp only;omega,?_⟩
   ·rw [List.range_succ,List.flatMap_append] at hy
    rcases List.mem_append.1 hy with hy|hy
    ·exact hno y hy
    ·rw [List.flatMap_cons,List.flatMap_nil,List.append_nil] at hy
     rw [List.take_of_length_le (by omega)] at hnj
     exact hnj y hy
   refine Evs ?_
   exact Gi (zjA (n:=64) (k:=f) (by omega) (by omega))
 ·have hge:=zjI hd
  have hfe:f=a.l.length+1:=by omega
  rw [hfe] at hno
  rw [hR _ (zMc hno)]
  refine Wk ?_
  exact ⟨⟨none,0,[]⟩,rfl,rfl,znp,Mine.nil⟩
theorem zMt (x:DHarbour) (a:Sl DCall) (s:Sl Int) (p q:Nat) (h:Hp) (hp:h.lds (some ⟨p,0,none⟩) 12=some [.int .i64 x.forecast.tide.mean,x.forecast.tide.parts.val,x.forecast.surges.val,x.chart.points.val,x.chart.segments.val,x.fleet.val,.int .i64 x.regime.gap,.bool x.regime.noMeet,.int .i64 x.crew.tugs,.int .i64 x.crew.pilots,.int .i64 x.crew.rest,x.crew.moves.val]) (hq:h.lds (some ⟨q,0,none⟩) 1=some [a.val]) (hx:Enc.ok h x) (ha:a.Ok h) (hs:s.Ok h) (hz:Sz.sz (Con.con s)≤1048576):Ct jV 88 [s.val,.pointer (some ⟨p,0,none⟩),.pointer (some ⟨q,0,none⟩)] h fun v h'=>v=.bool (zLK (Con.con x) a.l s.l)∧h'=h:=by
 have hca:Con.con a=a.l:=zAQ a
 have hcs:Con.con s=s.l:=con_ints
 refine zdn (fun A W=>by simp) Tryz.func88 rfl rfl (by simp) fun W0=>?_
 repeat' first|refine Wa ?_|refine zhF (fun _=>zLM x a s _ hx ha hs hz) ?_|(simp only [go_sem,jq,jj,jy,jv,jk,jx,hp,hq];try rfl)|refine Wb ?_|fail
 try rw [hca,hcs]
set_option maxRecDepth 30000 in
theorem zMu (a:Sl DCall) (fn:Nat) (cs:List Value) (P:List Nat→Bool) (h:Hp) (ha:a.Ok h) (h6:a.l.length≤6) (hf:∀ (s:Sl Int) (w:List Nat) (h':Hp),h.le h'→s.Ok h'→s.l=zs w→Asc a.l.length w→Ct jV fn ([s.val] ++ cs) h' fun v h2=>v=.bool (P w)∧h2=h') :
  Ct jV 87 [a.val,.func (.func fn) #[] cs.toArray] h fun v h'=>∃ s:Sl Int,v=s.val∧s.l=zs (((zLy a.l.length).find? P).getD [])∧s.Ok h'∧Mine h h' s:=by
 obtain ⟨r,hr⟩:∃ r,(zLy a.l.length).find? P=r:=⟨_,rfl⟩
 rw [hr]
 rw [zLy] at hr
 refine zdn (fun A W=>by simp) Tryz.func87 rfl rfl (by simp) fun W0=>?_
 refine Wk ?_
 refine zm1 (ι:=Nat × Hp) (fun t=>⟨[(0,true,.c (.v a.val)),(1,true,.c (.v (.func (.func fn) #[] cs.toArray))),(4,true,.c (.v (.slice none 0 0))),(5,true,.c (.v (.int .i64 ((a.l.length:Int) - t.1))))],[],t.2,0⟩) (fun t=>t.1≤a.l.length+1∧(∀ y ∈ (List.range t.1).flatMap (fun s=>sels (a.l.length - s) a.l.length),P y=false)∧h.le t.2) (fun t=>a.l.length+1 - t.1) (0,h) ⟨Nat.zero_le _,fun y hy=>(by cases hy),Hp.le_refl _⟩ [] ?_ ?_
 ·refine Evs ?_
  repeat' first|exact zjB (by simp)|exact rfl|exact trivial|assumption|decide|refine And.intro ?_ ?_
 rintro ⟨f,hk⟩ ⟨hf9,hno,hle⟩
 simp only at hf9 hno hle
 refine Wk ?_
 refine zc9 rfl (fun hd=>?_) (fun hd=>?_)
 ·have hd9:(0:Int)≤(a.l.length:Int) - f:=of_decide_eq_true hd
  have hlt:f < a.l.length+1:=by omega
  have hsz:((a.l.length:Int) - f)=((a.l.length - f:Nat):Int):=by omega
  have hwn:IntKind.i64.wrap (((a.l.length - f:Nat):Int) - 1)=(a.l.length:Int) - ((f+1:Nat):Int):=by rw [zjz (by omega)];omega
  rw [hsz]
  refine Wk ?_
  refine zkr (zL8 (a.l.length - f) a.l.length _ h6 (by omega)) rfl ?_
  rintro v h1 le1 ⟨s,rfl,es,oks,ms⟩
  have hsl:s.l.length=(sels (a.l.length - f) a.l.length).length:=zKG es
  have le01:=Hp.le_trans hle le1
  have hs64:=zLI (n:=a.l.length) h6 (s:=a.l.length - f)
  refine Wk ?_
  refine zm1 (ι:=Nat) (fun j=>⟨[(0,true,.c (.v a.val)),(1,true,.c (.v (.func (.func fn) #[] cs.toArray))),(4,true,.c (.v (.slice none 0 0))),(5,true,.c (.v (.int .i64 (a.l.length - f:Nat)))),(17,true,.c (.v s.val)),(18,true,.c (.v (.int .i64 s.l.length))),(19,true,.c (.v (.int .i64 j)))],[],h1,0⟩) (fun j=>j≤s.l.length∧∀ y ∈ (sels (a.l.length - f) a.l.length).take j,P y=false) (fun j=>s.l.length - j) 0 ⟨Nat.zero_le _,fun y hy=>(by cases hy)⟩ [] ?_ ?_
  ·refine Evs ?_
   exact Gk
  rintro j ⟨hj,hnj⟩
  refine Wk ?_
  refine zc9 rfl (fun hdj=>?_) (fun hdj=>?_)
  ·have hltj:=zjH hdj
   have h9:j < (sels (a.l.length - f) a.l.length).length:=by omega
   have hel:s.l[j].l=zs (sels (a.l.length - f) a.l.length)[j]:=zKF es hltj h9
   have has:=(zLm.1 (List.getElem_mem h9)).2
   have hos:s.l[j].Ok h1:=Sl.Ok.el oks hltj
   repeat' first|refine Wa ?_|(simp only [go_sem,jq,jj,jy,jv,jk,jx,zkQ oks hltj,oks.some hltj,hltj,jW];try rfl)|refine Wb ?_|fail
   refine zhF (fun _=>hf s.l[j] _ _ le01 hos hel has) ?_
   refine Wk ?_
   refine zc9 rfl (fun hq=>?_) (fun hq=>?_)
   ·refine Wk ?_
    rw [← hr,zMb (F:=fun s=>sels (a.l.length - s) a.l.length) hlt h9 hno hnj hq]
    exact ⟨s.l[j],rfl,hel,hos,(zKW ms hltj).back hle⟩
   ·refine Wk ?_
    refine ⟨j+1,[],⟨hltj,fun y hy=>?_⟩,by omega,?_⟩
    ·rw [List.take_succ_eq_append_getElem h9] at hy
     rcases List.mem_append.1 hy with hy|hy
     ·exact hnj y hy
     ·rw [List.mem_singleton.1 hy];exact hq
    refine Evs ?_
    exact Gi (zjA hltj (by omega))
  ·have hgej:=zjI hdj
   refine Wk ?_
   refine ⟨(f+1,h1),[],⟨hlt,fun y hy=>?_,le01⟩,by simp only;omega,?_⟩
   ·rw [List.range_succ,List.flatMap_append] at hy
    rcases List.mem_append.1 hy with hy|hy
    ·exact hno y hy
    ·rw [List.flatMap_cons,List.flatMap_nil,List.append_nil] at hy
     rw [List.take_of_length_le (by omega)] at hnj
     exact hnj y hy
   refine Evs ?_
   rw [hwn]
   exact Gk
 ·have hge:¬ (0:Int)≤(a.l.length:Int) - f:=of_decide_eq_false hd
  have hfe:f=a.l.length+1:=by omega
  rw [hfe] at hno
  refine Wk ?_
  rw [← hr,zMc hno]
  exact ⟨⟨none,0,[]⟩,rfl,rfl,znp,Mine.nil⟩
set_option maxRecDepth 30000 in
theorem zMv (x:DHarbour) (a:Sl DCall) (h:Hp) (hx:Enc.ok h x) (ha:a.Ok h):Ct jV 40 [x.v,a.val] h fun v h'=>∃ s:Sl Int,v=s.val∧Con.con s=zMl (Con.con x) (Con.con a)∧s.Ok h'∧Mine h h' s:=by
 have hca:Con.con a=a.l:=zAQ a
 rw [hca]
 refine zdn (fun A W=>by simp) Tryz.func40 rfl rfl (by simp) fun W0=>?_
 repeat' first|refine Wa ?_|refine zhF (fun _=>zAS x a _ hx ha) ?_|(simp only [go_sem,jq,jj,jy,jv,jk,jx];try rfl)|refine Wb ?_|fail
 rw [hca]
 refine zc9 rfl (fun hc=>?_) (fun hc=>?_)
 ·rw [Bool.not_eq_true'] at hc
  rw [zMl,if_neg (by rw [hc];exact Bool.false_ne_true)]
  refine Wk ?_
  exact ⟨⟨none,0,[]⟩,rfl,rfl,znp,Mine.nil⟩
 rw [Bool.not_eq_false'] at hc
 have h6:=zJy hc
 rw [zMl,if_pos hc]
 obtain ⟨P,hserv,hR⟩:∃ P:List Nat→Bool,(∀ w,Asc a.l.length w→zLK (Con.con x) a.l (zs w)=P w)∧((zLy a.l.length).find? P).getD []=srvL (Con.con x) a.l:=by
  refine ⟨fun w=>QS (Con.con x) a.l w == true,fun w hw=>?_,by rw [srvL,zLF]⟩
  rw [zMj hc hw]
  show QS (Con.con x) a.l w=(QS (Con.con x) a.l w == true)
  cases QS (Con.con x) a.l w <;> rfl
 refine zc5 ?_
 refine Evs ?_
 refine zx5 0 rfl rfl fun p hp hop=>?_
 refine Evs ?_
 refine zx5 1 rfl rfl fun q hq hoq=>?_
 refine Evs ?_
 have le1:h.le (h.ins p (.cells #[.int .i64 x.forecast.tide.mean,x.forecast.tide.parts.val,x.forecast.surges.val,x.chart.points.val,x.chart.segments.val,x.fleet.val,.int .i64 x.regime.gap,.bool x.regime.noMeet,.int .i64 x.crew.tugs,.int .i64 x.crew.pilots,.int .i64 x.crew.rest,x.crew.moves.val] 58 (0,0))):=Hp.ins_le hp
 have le2:=Hp.le_trans le1 (Hp.ins_le (o:=.cells #[a.val] 60 (0,0)) hq)
 have hpq:p ≠ q:=fun e=>by rw [e] at hq;simp [Hp.ins] at hq
 have hl1:((h.ins p (.cells #[.int .i64 x.forecast.tide.mean,x.forecast.tide.parts.val,x.forecast.surges.val,x.chart.points.val,x.chart.segments.val,x.fleet.val,.int .i64 x.regime.gap,.bool x.regime.noMeet,.int .i64 x.crew.tugs,.int .i64 x.crew.pilots,.int .i64 x.crew.rest,x.crew.moves.val] 58 (0,0))).ins q (.cells #[a.val] 60 (0,0))).lds (some ⟨p,0,none⟩) 12=some [.int .i64 x.forecast.tide.mean,x.forecast.tide.parts.val,x.forecast.surges.val,x.chart.points.val,x.chart.segments.val,x.fleet.val,.int .i64 x.regime.gap,.bool x.regime.noMeet,.int .i64 x.crew.tugs,.int .i64 x.crew.pilots,.int .i64 x.crew.rest,x.crew.moves.val]:=zx7 (xs:=[.int .i64 x.forecast.tide.mean,x.forecast.tide.parts.val,x.forecast.surges.val,x.chart.points.val,x.chart.segments.val,x.fleet.val,.int .i64 x.regime.gap,.bool x.regime.noMeet,.int .i64 x.crew.tugs,.int .i64 x.crew.pilots,.int .i64 x.crew.rest,x.crew.moves.val]) (ty:=58) (by rw [Hp.ins_ne hpq,Hp.ins_same]) rfl (by simp)
 have hl2:((h.ins p (.cells #[.int .i64 x.forecast.tide.mean,x.forecast.tide.parts.val,x.forecast.surges.val,x.chart.points.val,x.chart.segments.val,x.fleet.val,.int .i64 x.regime.gap,.bool x.regime.noMeet,.int .i64 x.crew.tugs,.int .i64 x.crew.pilots,.int .i64 x.crew.rest,x.crew.moves.val] 58 (0,0))).ins q (.cells #[a.val] 60 (0,0))).lds (some ⟨q,0,none⟩) 1=some [a.val]:=zx7 (xs:=[a.val]) Hp.ins_same rfl (by simp)
 generalize (h.ins p (.cells #[.int .i64 x.forecast.tide.mean,x.forecast.tide.parts.val,x.forecast.surges.val,x.chart.points.val,x.chart.segments.val,x.fleet.val,.int .i64 x.regime.gap,.bool x.regime.noMeet,.int .i64 x.crew.tugs,.int .i64 x.crew.pilots,.int .i64 x.crew.rest,x.crew.moves.val] 58 (0,0))).ins q (.cells #[a.val] 60 (0,0))=h9 at hl1 hl2 le2 ⊢
 first|refine zyi [0,1,0,0] rfl ?_|refine zyh [0,1,0,0] rfl ?_|(refine zc3 ?_;first|refine zyi [0,1,0,0] rfl ?_|refine zyh [0,1,0,0] rfl ?_)
 simp only [go_sem,jq,jj,jy,jv,jk,jx,hl2,true_or,true_and]
 refine zkr (zMu a 88 [.pointer (some ⟨p,0,none⟩),.pointer (some ⟨q,0,none⟩)] P _ (ha.mono le2) h6 (fun s w h' hle hs hw has=>?_)) rfl ?_
 ·have e:P w=zLK (Con.con x) a.l s.l:=by rw [hw,hserv w has]
  rw [e]
  exact zMt x a s p q h' (zaf hle hl1) (zaf hle hl2) (Enc.mono (Hp.le_trans le2 hle) hx) (ha.mono (Hp.le_trans le2 hle)) hs (by rw [con_ints,hw,zLh];have:=zLA has;omega)
 rintro v h8 le8 ⟨s,rfl,es,oks,ms⟩
 rw [hR] at es
 refine Wk ?_
 exact ⟨s,rfl,con_ints.trans es,oks,ms.back le2⟩
set_option maxRecDepth 30000 in
theorem zMw (x:DHarbour) (a:Sl DCall) (h:Hp) (hx:Enc.ok h x) (ha:a.Ok h):Ct jV 30 [x.v,a.val] h fun v h'=>v=.int .i64 (zMp (Con.con x) (Con.con a))∧h'=h:=by
 have hca:Con.con a=a.l:=zAQ a
 refine Ct.forget ?_
 rw [hca]
 refine zdn (fun A W=>by simp) Tryz.func30 rfl rfl (by simp) fun W0=>?_
 repeat' first|refine Wa ?_|refine zhF (fun _=>zAS x a _ hx ha) ?_|(simp only [go_sem,jq,jj,jy,jv,jk,jx];try rfl)|refine Wb ?_|fail
 rw [hca]
 refine zc9 rfl (fun hc=>?_) (fun hc=>?_)
 ·rw [Bool.not_eq_true'] at hc
  rw [zMp,if_neg (by rw [hc];exact Bool.false_ne_true)]
  exact Wk0
 rw [Bool.not_eq_false'] at hc
 have h6:=zJy hc
 rw [zMp,if_pos hc]
 refine Wk ?_
 refine zkr (zMv x a _ hx ha) rfl ?_
 rintro v h1 le1 ⟨s,rfl,es,oks,ms⟩
 have hsl:=oks.max
 have hes:(zMl (Con.con x) a.l).length=s.l.length:=by rw [← hca,← es,con_ints]
 refine Wk ?_
 rw [hes,zjz (n:=(a.l.length:Int) - s.l.length) (by omega)]
theorem zP2 {α:Type} {d:α} {l l2:List α} (h:l.Sublist l2):∃ f:Nat→Nat,(∀ i,i < l.length→f i < l2.length∧l.getD i d=l2.getD (f i) d)∧∀ i j,i < j→j < l.length→f i < f j:=by
 induction h with
 | slnil=>exact ⟨id,fun i hi=>absurd hi (Nat.not_lt_zero _),fun i j _ hj=>absurd hj (Nat.not_lt_zero _)⟩
 | cons a _ ih =>
  obtain ⟨f,h1,h2⟩:=ih
  refine ⟨fun i=>f i+1,fun i hi=>?_,fun i j hij hj=>by show f i+1 < f j+1;have:=h2 i j hij hj;omega⟩
  obtain ⟨a1,a2⟩:=h1 i hi
  exact ⟨by rw [List.length_cons];show f i+1 < _;omega,by rw [a2,List.getD_cons_succ]⟩
 | cons_cons a _ ih =>
  obtain ⟨f,h1,h2⟩:=ih
  refine ⟨fun i=>match i with|0=>0|i+1=>f i+1,fun i hi=>?_,fun i j hij hj=>?_⟩
  ·cases i with
   | zero=>exact ⟨Nat.succ_pos _,rfl⟩
   | succ i =>
    obtain ⟨a1,a2⟩:=h1 i (by rw [List.length_cons] at hi;omega)
    exact ⟨by rw [List.length_cons];show f i+1 < _;omega,by
     show (a :: _).getD (i+1) d=(a :: _).getD (f i+1) d
     rw [List.getD_cons_succ,List.getD_cons_succ,a2]⟩
  ·rw [List.length_cons] at hj
   cases j with
   | zero=>exact absurd hij (Nat.not_lt_zero _)
   | succ j =>
    cases i with
    | zero=>show 0 < f j+1;omega
    | succ i=>show f i+1 < f j+1;have:=h2 i j (by omega) (by omega);omega
theorem zP3 {l l2:List DDuty} (hs:l.Sublist l2) (h:zHb l2=true):zHb l=true:=by
 rw [zHb,jJ,decide_eq_true_eq,List.all_eq_true] at h ⊢
 exact ⟨Nat.le_trans hs.length_le h.1,fun x hx=>h.2 x (hs.subset hx)⟩
theorem zP4 {p:Int} {m:List Int} {l l2:List DDuty} {k:Int} (hs:l.Sublist l2) (hp:In p 0 2880=true) (hm:zAn m=true) (hd:zHb l2=true) (h:zJC p m l2 k=true):zJC p m l k=true:=by
 have c1:zIs p m l2=true:=by rw [zIs,hd,hp,hm];rfl
 have c2:zIs p m l=true:=by rw [zIs,zP3 hs hd,hp,hm];rfl
 rw [zJD c1,In,jJ,decide_eq_true_eq,decide_eq_true_eq] at h
 obtain ⟨a1,a2,a3⟩:=zJB c1
 obtain ⟨b1,b2,b3⟩:=zJB c2
 obtain ⟨h0,g,g1,g2⟩:=(a3 k).1 h.2
 obtain ⟨f,f1,f2⟩:=zP2 (d:=dD) hs
 rw [zJD c2,In,jJ,decide_eq_true_eq,decide_eq_true_eq]
 refine ⟨b1,(b3 k).2 ⟨h0,fun i=>g (f i),fun i hi=>g1 _ (f1 i hi).1,fun i j hi hj hji he=>?_⟩⟩
 have:=g2 (f i) (f j) (f1 i hi).1 (f1 j hj).1 (f2 j i hji hi) he
 rw [zIq] at this ⊢
 rw [(f1 i hi).2,(f1 j hj).2]
 exact this
theorem zP5 {α β:Type} {f:α→List β} {l l2:List α} (h:l.Sublist l2):(l.flatMap f).Sublist (l2.flatMap f):=by
 induction h with
 | slnil=>exact List.Sublist.refl _
 | cons a _ ih=>rw [List.flatMap_cons];exact ih.trans (List.sublist_append_right _ _)
 | cons_cons a _ ih=>rw [List.flatMap_cons,List.flatMap_cons];exact (List.Sublist.refl _).append ih
theorem zP6 {x:zOw} {l l2:List POption} (hs:l.Sublist l2) (hw:zAo x.crew=true) (hg:∀ o ∈ l2,zJb x.chart x.fleet o.pas) (h12:l2.length≤12) (h:zJG x l2=true):zJG x l=true:=by
 obtain ⟨hr,ht⟩:=zIP hw
 have hd:=zJK hg h12
 have hfs:=zP5 (f:=fun o:POption=>o.pas) hs
 rw [zJG] at h ⊢
 cases hq:zGt x.chart x.fleet (l2.flatMap (·.pas)) with
 | none=>rw [hq] at h;cases h
 | some d =>
  rw [hq] at h
  have hdd:=zIN hq
  simp only [jJ] at h
  rw [zGt] at hq
  split at hq
  ·rename_i hc
   obtain ⟨hc1,hc2⟩:=hc
   obtain rfl:=Option.some.inj hq
   have hts:(tugL x.chart x.fleet (l.flatMap (·.pas))).Sublist (tugL x.chart x.fleet (l2.flatMap (·.pas))):=zP5 hfs
   have hq2:zGt x.chart x.fleet (l.flatMap (·.pas))=some (tugL x.chart x.fleet (l.flatMap (·.pas))):=by
    obtain ⟨f,f1,_⟩:=zP2 (d:=dQ) hfs
    have hall:∀ i,i < (l.flatMap (·.pas)).length→pOk x.chart x.fleet (l.flatMap (·.pas)) i=true:=fun i hi=>by
     have:=hc1 (f i) (f1 i hi).1
     rw [pOk] at this ⊢
     rw [(f1 i hi).2];exact this
    rw [zGt,if_pos ⟨hall,Nat.le_trans hts.length_le hc2⟩]
   rw [hq2]
   simp only [jJ]
   have hps:(pilD x.chart l).Sublist (pilD x.chart l2):=(hs.filter _).map _
   exact ⟨zP4 hts (by decide) ht hdd h.1,zP4 hps hr ht hd h.2⟩
  ·cases hq
theorem zP7 {l:List POption} {w:List Nat} (h:Asc l.length w):(w.map fun k=>l.getD k zFE).Sublist l:=by
 have key:∀ (l:List POption) (s:Nat) (w:List Nat),w.Pairwise (· < ·)→(∀ k ∈ w,s≤k∧k < s+l.length)→(w.map fun k=>l.getD (k - s) zFE).Sublist l:=by
  intro l
  induction l with
  | nil =>
   intro s w _ h
   cases w with
   | nil=>exact List.Sublist.refl _
   | cons k w=>have:=h k (List.mem_cons_self ..);simp only [List.length_nil] at this;omega
  | cons y l ih =>
   intro s w hp h
   have rest:∀ w:List Nat,w.Pairwise (· < ·)→(∀ k ∈ w,s+1≤k∧k < s+1+l.length)→(w.map fun k=>(y :: l).getD (k - s) zFE).Sublist l:=fun w hp h=>by
    have e:(w.map fun k=>(y :: l).getD (k - s) zFE)=w.map fun k=>l.getD (k - (s+1)) zFE:=List.map_congr_left fun k hk=>by
     have:=h k hk
     rw [show k - s=(k - (s+1))+1 by omega,List.getD_cons_succ]
    rw [e]
    exact ih (s+1) w hp h
   cases w with
   | nil=>exact List.nil_sublist _
   | cons k w =>
    obtain ⟨h1,h2⟩:=List.pairwise_cons.1 hp
    have hk:=h k (List.mem_cons_self ..)
    rw [List.length_cons] at hk
    by_cases e:k=s
    ·subst e
     rw [List.map_cons,Nat.sub_self,List.getD_cons_zero]
     refine List.Sublist.cons_cons _ (rest w h2 fun j hj=>?_)
     have a1:=h1 j hj
     have a2:=h j (List.mem_cons_of_mem _ hj)
     rw [List.length_cons] at a2
     omega
    ·refine List.Sublist.cons _ (rest (k :: w) hp fun j hj=>?_)
     have a2:=h j hj
     rw [List.length_cons] at a2
     rcases List.mem_cons.1 hj with rfl|hj
     ·omega
     ·have a1:=h1 j hj
      omega
 have:=key l 0 w h.1 fun k hk=>⟨Nat.zero_le _,by rw [Nat.zero_add];exact h.2 k hk⟩
 simpa using this
theorem zP8 {x:zOw}:∀ {l p:List POption},zJG x p=true→zPs x p l→zJG x (p ++ l)=true
 | [],p,h,_=>by rw [List.append_nil];exact h
 | o :: l,p,_,h=>by
  have h1:=h.1
  rw [zJT,jJ] at h1
  have:=zP8 h1.2 h.2
  rwa [List.append_assoc] at this
theorem zP9 {x:DHarbour} {calls:List DCall} {ks:List Nat} (h:inR (zJu (Con.con x) calls) ks):∀ o ∈ picks (zJu (Con.con x) calls) ks,zJb (Con.con x:zOw).chart (Con.con x:zOw).fleet o.pas:=fun o ho=>by
 have hl:(zJu (Con.con x) calls).length=calls.length:=List.length_map ..
 have hp:=zPx h
 obtain ⟨i,hi,rfl⟩:=List.getElem_of_mem ho
 have:=zPH h i (by omega)
 have e:(picks (zJu (Con.con x) calls) ks).getD i zFE=(picks (zJu (Con.con x) calls) ks)[i]:=by rw [List.getD_eq_getElem?_getD,List.getElem?_eq_getElem hi];rfl
 rw [e] at this
 rw [show (Con.con x:zOw).fleet=x.fleet.l from zz2 _]
 exact zJj _ this
theorem zQa {x:DHarbour} {a:List DCall} {w:List Nat} (hc:zAP (Con.con x) a=true) (hw:Asc a.length w) (h:zLJ (Con.con x) a=true):zLJ (Con.con x) (selC a w)=true:=by
 have hl:(zJu (Con.con x) a).length=a.length:=List.length_map ..
 have h6:=zPL hc
 have hcw:=zJU hc
 rcases zPK hc with ⟨h1,_⟩|⟨_,ks,_,h3,h4,_⟩
 ·rw [zLJ,h1] at h;cases h
 ·have hsc:=zMi hc hw
  have hpl:=zPx h3
  have hsl:(selC a w).length=w.length:=List.length_map ..
  have hw2:=hw.2
  have hget:∀ i (hi:i < w.length),(zJu (Con.con x) (selC a w)).getD i []=(zJu (Con.con x) a).getD w[i] []:=fun i hi=>by
   rw [zPG (by omega),zPG (hw2 _ (List.getElem_mem hi)),zMh hi];rfl
  have hks:inR (zJu (Con.con x) (selC a w)) (w.map fun k=>ks.getD k 0):=zPz (by rw [List.length_map,zJu,List.length_map,hsl]) fun i hi=>by
   rw [zJu,List.length_map,hsl] at hi
   rw [hget i hi]
   have:=(zPy h3 w[i] (by rw [hl];exact hw2 _ (List.getElem_mem hi))).1
   have e:(w.map fun k=>ks.getD k 0).getD i 0=ks.getD w[i] 0:=by rw [List.getD_eq_getElem?_getD,List.getElem?_map,List.getElem?_eq_getElem hi];rfl
   rw [e];exact this
  have hpk:picks (zJu (Con.con x) (selC a w)) (w.map fun k=>ks.getD k 0)=w.map fun k=>(picks (zJu (Con.con x) a) ks).getD k zFE:=by
   have hpl2:=zPx hks
   rw [zJu,List.length_map,hsl] at hpl2
   refine List.ext_getElem (by rw [List.length_map];exact hpl2) fun i h5 h7=>?_
   have hi:i < w.length:=by rwa [List.length_map] at h7
   have g1:=(zPy hks i (by rw [zJu,List.length_map,hsl];exact hi)).2
   have g2:=(zPy h3 w[i] (by rw [hl];exact hw2 _ (List.getElem_mem hi))).2
   rw [List.getD_eq_getElem?_getD,List.getElem?_eq_getElem h5,Option.getD_some] at g1
   rw [g1,List.getElem_map,g2,hget i hi]
   have e:(w.map fun k=>ks.getD k 0).getD i 0=ks.getD w[i] 0:=by rw [List.getD_eq_getElem?_getD,List.getElem?_map,List.getElem?_eq_getElem hi];rfl
   rw [e]
  have hgood:=zP9 h3
  have hcf:=zP8 (zJM hcw) h4
  rw [List.nil_append] at hcf
  have hfit:zPs (Con.con x) [] (picks (zJu (Con.con x) (selC a w)) (w.map fun k=>ks.getD k 0)):=by
   rw [hpk,zPA]
   intro i hi
   have hiw:i < w.length:=by rwa [List.length_map] at hi
   have hsub:=zP7 (l:=picks (zJu (Con.con x) a) ks) (w:=w) ⟨hw.1,fun k hk=>by rw [hpl,hl];exact hw2 k hk⟩
   rw [List.nil_append,zJT,jJ]
   refine ⟨?_,?_⟩
   ·rw [zJS,Bool.not_eq_true',List.any_eq_false]
    intro p hp
    obtain ⟨j,hj,rfl⟩:=List.getElem_of_mem hp
    rw [List.length_take] at hj
    have hjw:j < w.length:=by omega
    have hlt:w[j] < w[i]:=List.pairwise_iff_getElem.1 hw.1 j i hjw hiw (by omega)
    have h7:=zPA.1 h4 w[i] (by rw [hpl,hl];exact hw2 _ (List.getElem_mem hiw))
    rw [List.nil_append,zJT,jJ,zJS,Bool.not_eq_true'] at h7
    have hwl:w[j] < (picks (zJu (Con.con x) a) ks).length:=by rw [hpl,hl];exact hw2 _ (List.getElem_mem hjw)
    have h8:=List.any_eq_false.1 h7.1 ((picks (zJu (Con.con x) a) ks).getD w[j] zFE) (by
     have hil:w[j] < ((picks (zJu (Con.con x) a) ks).take w[i]).length:=by rw [List.length_take];omega
     have e:(picks (zJu (Con.con x) a) ks).getD w[j] zFE=((picks (zJu (Con.con x) a) ks).take w[i])[w[j]]:=by
      rw [List.getElem_take,List.getD_eq_getElem?_getD,List.getElem?_eq_getElem hwl];rfl
     rw [e];exact List.getElem_mem hil)
    rw [List.getElem_take,List.getElem_map]
    have e2:(w.map fun k=>(picks (zJu (Con.con x) a) ks).getD k zFE).getD i zFE=(picks (zJu (Con.con x) a) ks).getD w[i] zFE:=by rw [List.getD_eq_getElem?_getD,List.getElem?_map,List.getElem?_eq_getElem hiw];rfl
    rw [e2]
    exact h8
   ·rw [zO4 hi]
    exact zP6 ((List.take_sublist ..).trans hsub) hcw hgood (by rw [hpl,hl];omega) hcf
  rcases zPK hsc with ⟨_,_,h5⟩|⟨h5,_⟩
  ·exact (h5 _ hks hfit).elim
  ·exact h5
theorem zQb {a:List DCall}:selC a (List.range a.length)=a:=by
 refine List.ext_getElem (by rw [selC,List.length_map,List.length_range]) fun i h1 h2=>?_
 simp only [selC,List.getElem_map,List.getElem_range,List.getD_eq_getElem?_getD,List.getElem?_eq_getElem h2,Option.getD_some]
theorem zQc {n:Nat}:Asc n (List.range n):=⟨List.pairwise_lt_range,fun x hx=>List.mem_range.1 hx⟩
theorem zQd {x:DHarbour} {a:List DCall} {w:List Nat} (hc:zAP (Con.con x) a=true) (h:Asc a.length w):QS (Con.con x) a w=zLJ (Con.con x) (selC a w):=by
 rw [← zMj hc h,zLK,hc,decide_eq_true (zMf h),zMg h];rfl
theorem zQe {n:Nat} {w:List Nat} (h:Asc n w) (hl:w.length=n):w=List.range n:=by
 refine zLi h.1 List.pairwise_lt_range fun k=>⟨fun hk=>List.mem_range.2 (h.2 k hk),fun hk=>?_⟩
 have hs:w.Sublist (List.range n):=by
  have e:w=zLj n (zG7 (fun i=>decide (i ∈ w)) n):=by
   refine zLi h.1 zLk.1 fun x=>?_
   rw [zLj,List.mem_filter,List.mem_range,zG8,jJ,decide_eq_true_eq,decide_eq_true_eq]
   exact ⟨fun hx=>⟨h.2 x hx,h.2 x hx,hx⟩,fun hx=>hx.2.2⟩
  rw [e]
  exact List.filter_sublist
 rw [hs.eq_of_length (by rw [List.length_range];exact hl)]
 exact hk
theorem zQf {x:DHarbour} {a:List DCall} (hc:zAP (Con.con x) a=true) :
  zLK (Con.con x) a (zMl (Con.con x) a)=true∧zLK (Con.con x) a []=true∧zMp (Con.con x) a=(a.length:Int) - (zMl (Con.con x) a).length ∧
  (zLJ (Con.con x) a=true→zMk (Con.con x) a=[]∧(zMl (Con.con x) a).length=a.length) ∧
  (zLJ (Con.con x) a=false→0 < (zMk (Con.con x) a).length∧zOj (Con.con x) a (zMk (Con.con x) a)=true∧zLK (Con.con x) a (zMk (Con.con x) a)=false∧(zMl (Con.con x) a).length < a.length ∧
   (zJm a (zMk (Con.con x) a)).length=(zMk (Con.con x) a).length):=by
 have hnil:Asc a.length []:=⟨List.Pairwise.nil,fun x hx=>by cases hx⟩
 have hQ0:QS (Con.con x) a []=true:=by
  rw [zQd hc hnil,zLJ]
  have h0:=zMi hc hnil
  rcases zPK h0 with ⟨_,_,h5⟩|⟨h5,_⟩
  ·exact (h5 [] trivial trivial).elim
  ·exact h5
 have hQn:QS (Con.con x) a (List.range a.length)=zLJ (Con.con x) a:=by rw [zQd hc zQc,zQb]
 have hM:zMl (Con.con x) a=zs (srvL (Con.con x) a):=by rw [zMl,if_pos hc]
 have hR:zMk (Con.con x) a=zs (refL (Con.con x) a):=by rw [zMk,if_pos hc]
 have hzl:∀ w:List Nat,(zs w).length=w.length:=fun w=>List.length_map ..
 have pm:=zLw (long:=true) (Q:=fun w=>QS (Con.con x) a w == true) (ls:=zLz a.length)
 have pr:=zLw (long:=false) (Q:=fun w=>QS (Con.con x) a w == false) (ls:=zLz a.length)
 have hS:∃ b,srvL (Con.con x) a=b∧Asc a.length b∧QS (Con.con x) a b=true∧∀ s,Asc a.length s→QS (Con.con x) a s=true→s.length≤b.length:=by
  rw [srvL]
  cases hp:zLt true (fun w=>QS (Con.con x) a w == true) (zLz a.length) with
  | none =>
   rw [hp] at pm
   have:(QS (Con.con x) a [] == true)=false:=pm [] (zLB.2 hnil)
   rw [hQ0] at this;cases this
  | some b =>
   rw [hp] at pm
   obtain ⟨p1,p2,p3⟩:=pm
   refine ⟨b,rfl,zLB.1 p1,eq_of_beq p2,fun s hs hq=>?_⟩
   have:=p3 s (zLB.2 hs) (show (QS (Con.con x) a s == true)=true by rw [hq];rfl)
   rw [bet,jp,if_pos rfl,decide_eq_false_iff_not] at this
   omega
 obtain ⟨b,eb,b1,b2,b3⟩:=hS
 rw [hM,eb,hR]
 refine ⟨by rw [zMj hc b1];exact b2,by rw [show ([]:List Int)=zs [] from rfl,zMj hc hnil];exact hQ0,by rw [zMp,if_pos hc,hM,eb],fun hcs=>?_,fun hcs=>?_⟩
 ·have hb:=b3 _ zQc (by rw [hQn];exact hcs)
  have hbl:=zLA b1
  rw [List.length_range] at hb
  refine ⟨?_,by rw [hzl];omega⟩
  rw [refL]
  cases hp:zLt false (fun w=>QS (Con.con x) a w == false) (zLz a.length) with
  | none=>rfl
  | some r =>
   rw [hp] at pr
   obtain ⟨p1,p2,_⟩:=pr
   have hr:=zLB.1 p1
   have p2:QS (Con.con x) a r=false:=eq_of_beq p2
   rw [zQd hc hr,zQa hc hr hcs] at p2
   cases p2
 ·rw [hcs] at hQn
  have hRr:∃ r,refL (Con.con x) a=r∧Asc a.length r∧QS (Con.con x) a r=false∧∀ s,Asc a.length s→QS (Con.con x) a s=false→r.length≤s.length:=by
   rw [refL]
   cases hp:zLt false (fun w=>QS (Con.con x) a w == false) (zLz a.length) with
   | none =>
    rw [hp] at pr
    have:(QS (Con.con x) a (List.range a.length) == false)=false:=pr _ (zLB.2 zQc)
    rw [hQn] at this;cases this
   | some r =>
    rw [hp] at pr
    obtain ⟨p1,p2,p3⟩:=pr
    refine ⟨r,rfl,zLB.1 p1,eq_of_beq p2,fun s hs hq=>?_⟩
    have:=p3 s (zLB.2 hs) (show (QS (Con.con x) a s == false)=true by rw [hq];rfl)
    rw [bet,jp,if_neg Bool.false_ne_true,decide_eq_false_iff_not] at this
    omega
  obtain ⟨r,er,r1,r2,r3⟩:=hRr
  rw [er]
  have hsr:zLK (Con.con x) a (zs r)=false:=by rw [zMj hc r1];exact r2
  refine ⟨?_,?_,hsr,?_,?_⟩
  ·rw [hzl]
   cases r with
   | nil=>rw [hQ0] at r2;cases r2
   | cons k r=>exact Nat.succ_pos _
  ·rw [zOj,hc,decide_eq_true (zMf r1),hsr]
   refine decide_eq_true fun i hi=>?_
   rw [hzl] at hi
   have e:(zs r).take i ++ (zs r).drop (i+1)=zs (r.take i ++ r.drop (i+1)):=by rw [zs,zs,List.map_append,List.map_take,List.map_drop]
   have hsub:(r.take i ++ r.drop (i+1)).Sublist r:=by
    conv=>rhs;rw [← List.take_append_drop i r]
    refine (List.Sublist.refl _).append ?_
    rw [List.drop_eq_getElem_cons hi]
    exact List.sublist_cons_self _ _
   have ha:Asc a.length (r.take i ++ r.drop (i+1)):=⟨r1.1.sublist hsub,fun k hk=>r1.2 k (hsub.subset hk)⟩
   rw [e,zMj hc ha]
   cases hq:QS (Con.con x) a (r.take i ++ r.drop (i+1)) with
   | true=>rfl
   | false =>
    have:=r3 _ ha hq
    rw [List.length_append,List.length_take,List.length_drop] at this
    omega
  ·rw [hzl]
   have hbl:=zLA b1
   rcases Nat.lt_or_ge b.length a.length with h9|h9
   ·exact h9
   ·have:=zQe b1 (by omega)
    rw [this,hQn] at b2;cases b2
  ·rw [zMg r1,selC,List.length_map,hzl]
theorem zQg (c:Sl U8) (h:Hp) (hc:c.Ok h):Ct jV 95 [c.val] h fun v h'=>∃ b,v=.pointer (some ⟨b,0,none⟩)∧h b=none∧Cu 188 c h' b:=by
 have hm:=hc.max
 refine zdn (fun A W=>by simp) Tryz.func95 rfl rfl (by simp) fun W0=>?_
 refine Wk ?_
 refine zde (ι:=Nat × Int) (fun i=>⟨[(0,true,.c (.v c.val)),(3,true,.c (.v (.int .i64 i.2))),(4,true,.c (.v (.int .i64 i.1)))],[],h,0⟩) (fun i=>i.1≤c.l.length) (fun i=>c.l.length - i.1) (0,IntKind.i64.wrap (1976+c.l.length)) (Nat.zero_le _) ?_ ?_
 ·refine Evs ?_
  repeat' first|exact rfl|exact trivial|assumption|decide|refine And.intro ?_ ?_
 rintro ⟨i,k⟩ hi
 simp only at hi
 refine Wk ?_
 refine zc9 rfl (fun hd=>?_) (fun hd=>?_)
 ·have hlt:i < c.l.length:=by
   simp at hd
   omega
  have hlti:(i:Int) < c.l.length:=by omega
  repeat' first|refine Wa ?_|(simp only [go_sem,jq,jj,jy,jv,jk,jx,zOy hc hlt,hc.some hlt,hlt,hlti,jW,jY,and_self];try rfl)|refine Wb ?_|fail
  refine ⟨(i+1,zaE .and .i64 (IntKind.i64.wrap (IntKind.i64.wrap (IntKind.i64.wrap (k * 79)+IntKind.i64.wrap c.l[i].n)+7)) 1073741823),hlt,by simp only;omega,?_⟩
  refine Evs ?_
  repeat' first|exact zjB (zjA hlt (by omega))|exact rfl|exact trivial|assumption|decide|refine And.intro ?_ ?_
 refine zc6 ?_
 refine Evs ?_
 (first|refine zie rfl ?_|(refine zc3 ?_;first|refine zie rfl ?_|refine zc4 rfl ?_));simp only [go_sem,jq,jj,jy,jv,jk,jx]
 refine zx5 0 rfl rfl fun g hg og=>?_
 refine Wk ?_
 exact ⟨g,rfl,hg,by rw [zOC,zOD hg];exact hc,0,k,Hp.ins_same,Int.le_refl _,by omega⟩
theorem zQh {tc:TypeId} {h:Hp} {b:Nat} {c:Sl U8} {i k:Int} (hb:h b=some (.cells #[c.val,.int .i64 i,.int .i64 k] tc (0,0))):h.lds (some ⟨b,0,none⟩) 1=some [c.val]∧h.lds (some ⟨b,1,none⟩) 1=some [.int .i64 i]∧h.lds (some ⟨b,2,none⟩) 1=some [.int .i64 k] :=
 ⟨zx7 (xs:=[c.val,.int .i64 i,.int .i64 k]) hb rfl (Nat.le_of_ble_eq_true rfl),zx7 (xs:=[c.val,.int .i64 i,.int .i64 k]) hb rfl (Nat.le_of_ble_eq_true rfl),zx7 (xs:=[c.val,.int .i64 i,.int .i64 k]) hb rfl (Nat.le_of_ble_eq_true rfl)⟩
theorem zQi (c:Sl U8) (h:Hp) (b:Nat) (H:Cu 188 c h b):Cw jV 102 [.pointer (some ⟨b,0,none⟩)] h (fun k=>k=b) fun v h'=>∃ n:Int,(v=.int .i64 n∧0≤n∧n≤255)∧Cg 188 c h b h':=by
 have H0:=H
 obtain ⟨hc,i,k,hb,hi0,hi1⟩:=H0
 have hcm:=hc.max
 obtain ⟨q0,q1,q2⟩:=zQh hb
 refine zlI (fun A W=>by simp) Tryz.func102 rfl rfl (by simp)  (fun q hq=>by rw [hq];exact H.ne) fun W0 hW=>?_
 have own:W0.own b:=hW b rfl
 (first|refine zie rfl ?_|(refine zc3 ?_;first|refine zie rfl ?_|refine zc4 rfl ?_));simp only [go_sem,jq,jj,jy,jv,jk,jx]
 first|refine zyi [0,0,0,0,0,0,0,0,0,1] rfl ?_|refine zyh [0,0,0,0,0,0,0,0,0,1] rfl ?_|(refine zc3 ?_;first|refine zyi [0,0,0,0,0,0,0,0,0,1] rfl ?_|refine zyh [0,0,0,0,0,0,0,0,0,1] rfl ?_)
 simp only [go_sem,jq,jj,jy,jv,jk,jx,q2,true_or,true_and]
 refine zOH (xs:=[c.val,.int .i64 i,.int .i64 k]) (xs':=[c.val,.int .i64 i,.int .i64 (IntKind.i64.wrap (IntKind.i64.wrap (k * 6364136223846793005)+1442695040888963407))]) (by simp only [go_sem]) (by simp only [go_sem]) rfl rfl hb (.inr own) (Nat.le_of_ble_eq_true rfl) rfl ?_
 generalize IntKind.i64.wrap (IntKind.i64.wrap (k * 6364136223846793005)+1442695040888963407)=k1
 have hb1:(h.ins b (.cells #[c.val,.int .i64 i,.int .i64 k1] 188 (0,0))) b=some (.cells #[c.val,.int .i64 i,.int .i64 k1] 188 (0,0)):=Hp.ins_same
 have hd1:(h.ins b (.cells #[c.val,.int .i64 i,.int .i64 k1] 188 (0,0))).del b=h.del b:=zOC
 generalize h.ins b (.cells #[c.val,.int .i64 i,.int .i64 k1] 188 (0,0))=h1 at hb1 hd1 ⊢
 have hc1:c.Ok h1:=Sl.Ok.mono zOB (by rw [hd1];exact hc)
 obtain ⟨q0,q1,q2⟩:=zQh hb1
 refine Wk ?_
 refine zi8 rfl (by kernel_rfl) ?_
 simp only [go_sem,jq,jj,jy,jv,jk,jx,q0,q1,q2,true_or,true_and,and_true,implies_true,and_self]
 refine ⟨by decide,by decide,?_⟩
 generalize hx:zaE BinOp.and IntKind.i64 (zaE BinOp.xor IntKind.i64 (k1.fdiv (2 ^ min (Int.toNat 33) 64)) (k1.fdiv (2 ^ min (Int.toNat 45) 64))) 255=x
 have hx0:0≤x∧x≤255:=by rw [← hx];exact zOA _
 refine Wk ?_
 refine zi8 rfl (by kernel_rfl) ?_
 simp only [go_sem,jq,jj,jy,jv,jk,jx,q0,q1,q2,true_or,true_and,and_true,implies_true,and_self]
 try (refine zc3 ?_)
 refine zc9 rfl (fun hd=>?_) (fun hd=>?_)
 ·have hd:=of_decide_eq_true hd
  obtain ⟨j,rfl⟩:∃ j:Nat,i=j:=⟨i.toNat,by omega⟩
  have hj:j < c.l.length:=by omega
  try (refine zc3 ?_)
  refine zi8 rfl (by kernel_rfl) ?_
  simp only [go_sem,jq,jj,jy,jv,jk,jx,q0,q1,q2,zOy hc1 hj,hc1.some hj,hj,hd,jW,jY,true_or,true_and,and_true,implies_true,and_self]
  generalize hy:zaE BinOp.and IntKind.i64 (IntKind.i64.wrap (x+IntKind.i64.wrap c.l[j].n)) 255=y
  have hy0:0≤y∧y≤255:=by rw [← hy];exact zOA _
  first|refine zyi [0,0,0,0,0,0,0,0,1] rfl ?_|refine zyh [0,0,0,0,0,0,0,0,1] rfl ?_|(refine zc3 ?_;first|refine zyi [0,0,0,0,0,0,0,0,1] rfl ?_|refine zyh [0,0,0,0,0,0,0,0,1] rfl ?_)
  simp only [go_sem,jq,jj,jy,jv,jk,jx,q1,true_or,true_and]
  refine zOH (xs:=[c.val,.int .i64 j,.int .i64 k1]) (xs':=[c.val,.int .i64 (IntKind.i64.wrap (j+1)),.int .i64 k1]) (by simp only [go_sem]) (by simp only [go_sem]) rfl rfl hb1 (.inr own) (Nat.le_of_ble_eq_true rfl) rfl ?_
  refine Wk ?_
  have hdi:(h1.ins b (.cells [c.val,.int .i64 (IntKind.i64.wrap ((j:Int)+1)),.int .i64 k1].toArray 188 (0,0))).del b=h.del b:=by rw [zOC,hd1]
  exact ⟨y,⟨rfl,hy0⟩,⟨by rw [hdi];exact hc,_,k1,Hp.ins_same,by rw [zjz (by omega)];omega,by rw [zjz (by omega)];omega⟩,by rw [hdi];exact Hp.le_refl _⟩
 ·refine Wk ?_
  exact ⟨x,⟨rfl,hx0⟩,⟨by rw [hd1];exact hc,_,k1,hb1,hi0,hi1⟩,by rw [hd1];exact Hp.le_refl _⟩
theorem zQj {n m:Int} (hn:0≤n) (hm:0 < m):0≤Int.tmod n m∧Int.tmod n m < m:=⟨Int.tmod_nonneg _ hn,Int.tmod_lt_of_pos _ hm⟩
theorem zQk (c:Sl U8) (n:Int) (h:Hp) (b:Nat) (H:Cu 188 c h b) (hn:0 < n):Cw jV 190 [.pointer (some ⟨b,0,none⟩),.int .i64 n] h (fun k=>k=b) fun v h'=>∃ k:Int,(v=.int .i64 k∧0≤k∧k < n)∧Cg 188 c h b h':=by
 have hn0:n ≠ 0:=by omega
 refine zlI (fun A W=>by simp) Tryz.func190 rfl rfl (by simp)  (fun q hq=>by rw [hq];exact H.ne) fun W0 hW=>?_
 have own:W0.own b:=hW b rfl
 (first|refine zie rfl ?_|(refine zc3 ?_;first|refine zie rfl ?_|refine zc4 rfl ?_));simp only [go_sem,jq,jj,jy,jv,jk,jx]
 (first|refine zie rfl ?_|(refine zc3 ?_;first|refine zie rfl ?_|refine zc4 rfl ?_));simp only [go_sem,jq,jj,jy,jv,jk,jx]
 try (refine zc3 ?_)
 refine zc9 rfl (fun hq=>?_) (fun hq=>?_)
 ·have:=of_decide_eq_true hq;omega
 refine zc5 ?_
 refine Evs ?_
 (first|refine zie rfl ?_|(refine zc3 ?_;first|refine zie rfl ?_|refine zc4 rfl ?_));simp only [go_sem,jq,jj,jy,jv,jk,jx]
 try (refine zc3 ?_)
 refine zc9 rfl (fun hq=>?_) (fun hq=>?_)
 ·first|refine zyi [0,1] rfl ?_|refine zyh [0,1] rfl ?_|(refine zc3 ?_;first|refine zyi [0,1] rfl ?_|refine zyh [0,1] rfl ?_)
  refine Evs ?_
  refine zlJ (zQi c _ b H) rfl (fun q hq=>⟨by rw [hq];exact H.ne,.inr (hq ▸ own)⟩) ?_
  rintro v h1 - ⟨k1,⟨rfl,a1,b1⟩,G1⟩
  have C1:=G1.1
  refine Evs ?_
  have hk:=zQj a1 hn
  repeat' first|refine Wa ?_|(simp only [go_sem,jq,jj,jy,jv,jk,jx,hn0];try rfl)|refine Wb ?_|fail
  exact ⟨_,⟨rfl,hk⟩,G1⟩
 refine zc5 ?_
 refine Evs ?_
 first|refine zyi [0,1] rfl ?_|refine zyh [0,1] rfl ?_|(refine zc3 ?_;first|refine zyi [0,1] rfl ?_|refine zyh [0,1] rfl ?_)
 refine Evs ?_
 refine zlJ (zQi c _ b H) rfl (fun q hq=>⟨by rw [hq];exact H.ne,.inr (hq ▸ own)⟩) ?_
 rintro v h1 - ⟨k1,⟨rfl,a1,b1⟩,G1⟩
 have C1:=G1.1
 refine Evs ?_
 first|refine zyi [0,1] rfl ?_|refine zyh [0,1] rfl ?_|(refine zc3 ?_;first|refine zyi [0,1] rfl ?_|refine zyh [0,1] rfl ?_)
 refine Evs ?_
 refine zlJ (zQi c _ b C1) rfl (fun q hq=>⟨by rw [hq];exact C1.ne,.inr (hq ▸ own)⟩) ?_
 rintro v h2 - ⟨k2,⟨rfl,a2,b2⟩,G2⟩
 have C2:=G2.1
 refine Evs ?_
 first|refine zyi [0,1] rfl ?_|refine zyh [0,1] rfl ?_|(refine zc3 ?_;first|refine zyi [0,1] rfl ?_|refine zyh [0,1] rfl ?_)
 refine Evs ?_
 refine zlJ (zQi c _ b C2) rfl (fun q hq=>⟨by rw [hq];exact C2.ne,.inr (hq ▸ own)⟩) ?_
 rintro v h3 - ⟨k3,⟨rfl,a3,b3⟩,G3⟩
 have C3:=G3.1
 refine Evs ?_
 first|refine zyi [0,1] rfl ?_|refine zyh [0,1] rfl ?_|(refine zc3 ?_;first|refine zyi [0,1] rfl ?_|refine zyh [0,1] rfl ?_)
 refine Evs ?_
 refine zlJ (zQi c _ b C3) rfl (fun q hq=>⟨by rw [hq];exact C3.ne,.inr (hq ▸ own)⟩) ?_
 rintro v h4 - ⟨k4,⟨rfl,a4,b4⟩,G4⟩
 have C4:=G4.1
 refine Evs ?_
 have hw:IntKind.i64.wrap (IntKind.i64.wrap (IntKind.i64.wrap (IntKind.i64.wrap (k1 * 16777216)+IntKind.i64.wrap (k2 * 65536))+IntKind.i64.wrap (k3 * 256))+k4)=k1 * 16777216+k2 * 65536+k3 * 256+k4:=by
  rw [zjz (n:=k1 * 16777216) (by omega),zjz (n:=k2 * 65536) (by omega),zjz (n:=k3 * 256) (by omega),zjz (n:=k1 * 16777216+k2 * 65536) (by omega),zjz (n:=k1 * 16777216+k2 * 65536+k3 * 256) (by omega),zjz (by omega)]
 have hk:=zQj (n:=k1 * 16777216+k2 * 65536+k3 * 256+k4) (by omega) hn
 repeat' first|refine Wa ?_|(simp only [go_sem,jq,jj,jy,jv,jk,jx,hn0,hw];try rfl)|refine Wb ?_|fail
 exact ⟨_,⟨rfl,hk⟩,((G1.trans G2).trans G3).trans G4⟩
theorem zQl (c:Sl U8) (n:Int) (h:Hp) (b:Nat) (H:Cu 188 c h b) (hn:0 < n):Cw jV 142 [.pointer (some ⟨b,0,none⟩),.int .i64 n] h (fun k=>k=b) fun v h'=>∃ k:Bool,v=.bool k∧Cg 188 c h b h':=by
 refine zlI (fun A W=>by simp) Tryz.func142 rfl rfl (by simp)  (fun q hq=>by rw [hq];exact H.ne) fun W0 hW=>?_
 have own:W0.own b:=hW b rfl
 (first|refine zie rfl ?_|(refine zc3 ?_;first|refine zie rfl ?_|refine zc4 rfl ?_));simp only [go_sem,jq,jj,jy,jv,jk,jx]
 first|refine zyi [0,0,1] rfl ?_|refine zyh [0,0,1] rfl ?_|(refine zc3 ?_;first|refine zyi [0,0,1] rfl ?_|refine zyh [0,0,1] rfl ?_)
 refine Evs ?_
 refine zlJ (zQk c n _ b H hn) rfl (fun q hq=>⟨by rw [hq];exact H.ne,.inr (hq ▸ own)⟩) ?_
 rintro v h1 - ⟨k1,⟨rfl,a1,b1⟩,G1⟩
 have C1:=G1.1
 refine Evs ?_
 refine Wk ?_
 exact ⟨_,rfl,G1⟩
theorem zQm (c:Sl U8) (s:Sl Int) (h:Hp) (b:Nat) (H:Cu 188 c h b) (hs:s.Ok (h.del b)) (hn:0 < s.l.length):Cw jV 284 [.pointer (some ⟨b,0,none⟩),s.val] h (fun k=>k=b) fun v h'=>∃ k:Int,(v=.int .i64 k∧k ∈ s.l)∧Cg 188 c h b h':=by
 refine zlI (fun A W=>by simp) Tryz.func284 rfl rfl (by simp)  (fun q hq=>by rw [hq];exact H.ne) fun W0 hW=>?_
 have own:W0.own b:=hW b rfl
 (first|refine zie rfl ?_|(refine zc3 ?_;first|refine zie rfl ?_|refine zc4 rfl ?_));simp only [go_sem,jq,jj,jy,jv,jk,jx]
 first|refine zyi [0,0,0,0,1] rfl ?_|refine zyh [0,0,0,0,1] rfl ?_|(refine zc3 ?_;first|refine zyi [0,0,0,0,1] rfl ?_|refine zyh [0,0,0,0,1] rfl ?_)
 refine Evs ?_
 refine zlJ (zQk c (s.l.length:Int) _ b H (by omega)) rfl (fun q hq=>⟨by rw [hq];exact H.ne,.inr (hq ▸ own)⟩) ?_
 rintro v h1 - ⟨k1,⟨rfl,a1,b1⟩,G1⟩
 have C1:=G1.1
 refine Evs ?_
 obtain ⟨j,rfl⟩:∃ j:Nat,k1=j:=⟨k1.toNat,by omega⟩
 have hs1:=(hs.mono G1.2).mono zOB
 have hj:j < s.l.length:=by omega
 repeat' first|refine Wa ?_|(simp only [go_sem,jq,jj,jy,jv,jk,jx,zkR hs1 hj,hs1.some hj,hj,b1,jW,jY,and_self];try rfl)|refine Wb ?_|fail
 exact ⟨_,⟨rfl,List.getElem_mem hj⟩,G1⟩
end Go.Proofs.YtdejfjdbcggilaaGreat
