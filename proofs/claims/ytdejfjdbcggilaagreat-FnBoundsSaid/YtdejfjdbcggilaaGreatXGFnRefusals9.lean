/- What functions of the given program compute, as contracts. -/
import Derived.Test.YtdejfjdbcggilaaGreatSGFnRefusalsx5
import Derived.Test.YtdejfjdbcggilaaGreatXGFnRefusals6
import Derived.Test.YtdejfjdbcggilaaGreatXGFnRefusals7
import Derived.Test.YtdejfjdbcggilaaGreatXGFnRefusals8
set_option linter.unusedVariables false
set_option linter.unusedSimpArgs false
set_option maxRecDepth 4000
open Nat renaming reduceAdd → jq, reduceMul → jj, reduceBEq → jy, reduceLeDiff → jv, reduceLT → jk, reduceEqDiff → jx
open Bool renaming or_eq_false_iff → jp, or_eq_true → jQ, and_eq_true → jJ
open Int renaming toNat_natCast → jW, natCast_nonneg → jY
open Go.Proofs.Tryz renaming prog → jV
namespace Go.Proofs.YtdejfjdbcggilaaGreat
open Go Go.SL
set_option maxHeartbeats 1000000
theorem zFf {c:DChart} {s:DShip} {h:Hp} (hc:Enc.ok h c) (i:Nat):I64 (zAU s ((Con.con c).segments.getD i dG)):=by
 unfold zAU
 split
 ·exact i64w _
 ·rw [zAX]
  by_cases hi:i < c.segments.l.length
  ·rw [gget hi];exact (hc.2.el hi).2.2.2
  ·rw [List.getD_eq_getElem?_getD,List.getElem?_eq_none (by omega)];exact i64z
def voOk (f:zOu) (c:zOv) (s:DShip) (a:Int) (r:List Int):Bool:=zzV f && zAk s && zDJ c a r && decide (0 < r.length)
def zFg (c:zOv) (pts:List Int) (k:Nat):List Bool:=(List.range k).map fun i=>(c.points.getD (pts.getD i 0).toNat dP).wait
def minL (c:zOv) (s:DShip) (r:List Int) (k:Nat):List Int:=(List.range k).map fun i=>zAU s (c.segments.getD (r.getD i 0).toNat dG)
def zFh (f:zOu) (c:zOv) (s:DShip) (r:List Int) (k:Nat):List (List DWindow):=(List.range k).map fun i=>zCH f c (r.getD i 0) s
theorem zFi {β:Type} {g:Nat→β} {k:Nat}:(List.range (k+1)).map g=(List.range k).map g ++ [g k]:=by rw [List.range_succ,List.map_append];rfl
theorem rmap_len {β:Type} {g:Nat→β} {k:Nat}:((List.range k).map g).length=k:=by rw [List.length_map,List.length_range]
set_option maxRecDepth 20000 in
theorem zFj (f:DForecast) (c:DChart) (s:DShip) (a:Int) (r:Sl Int) (h:Hp) (hf:Enc.ok h f) (hc:Enc.ok h c) (hs:Enc.ok h s) (ha:I64 a) (hr:r.Ok h) (hz:r.l.length≤1048576):Ct jV 203 [f.v,c.v,s.v,.int .i64 a,r.val] h fun v h'=>∃ (w:Sl Bool) (m:Sl Int) (u:Sl (Sl DWindow)),v=.tuple #[.agg #[w.val,m.val,u.val],.bool (voOk (Con.con f) (Con.con c) s a r.l)]∧w.Ok h'∧m.Ok h'∧u.Ok h'∧(voOk (Con.con f) (Con.con c) s a r.l=true→w.l=zFg (Con.con c) ((zC2 (Con.con c) a r.l).getD []) r.l.length∧m.l=minL (Con.con c) s r.l r.l.length∧u.l.map (·.l)=zFh (Con.con f) (Con.con c) s r.l r.l.length):=by
 have hl:=hr.max
 have hsl:(Con.con c).segments=c.segments.l:=zAX c
 have hpl:(Con.con c).points=c.points.l:=zC6 c
 refine zdn (fun A W=>by simp) Tryz.func203 rfl rfl (by simp) fun W0=>?_
 repeat' first|refine Wa ?_|refine zhF (fun _=>zzY f _ hf) ?_|refine zhF (fun _=>zAv s _ hs) ?_|refine zhF (fun _=>zDQ c a r _ hc ha hr hz) ?_|(simp only [go_sem,jq,jj,jy,jv,jk,jx];try rfl)|refine Wb ?_|fail
 refine zc9 rfl (fun hx=>?_) (fun hx=>?_)
 ·have hno:voOk (Con.con f) (Con.con c) s a r.l=false:=by
   rw [voOk]
   simp only [jQ,Bool.not_eq_true',beq_iff_eq] at hx
   rw [Bool.and_eq_false_iff,Bool.and_eq_false_iff,Bool.and_eq_false_iff,decide_eq_false_iff_not]
   rcases hx with ((hx|hx)|hx)|hx
   ·exact .inl (.inl (.inl hx))
   ·exact .inl (.inl (.inr hx))
   ·exact .inl (.inr hx)
   ·exact .inr (by omega)
  rw [hno]
  refine Wk ?_
  exact ⟨⟨none,0,[]⟩,⟨none,0,[]⟩,⟨none,0,[]⟩,rfl,znp,znp,znp,fun e=>by cases e⟩
 simp only [jp,Bool.not_eq_false',beq_eq_false_iff_ne,ne_eq] at hx
 obtain ⟨⟨⟨hF,hS⟩,hR⟩,h0⟩:=hx
 have hyes:voOk (Con.con f) (Con.con c) s a r.l=true:=by rw [voOk,hF,hS,hR,decide_eq_true (by omega)];rfl
 rw [hyes]
 obtain ⟨hC,hin,pl,hptl,hpk,hplen,hpx⟩:=zDN hR
 refine zc5 ?_
 refine Evs ?_
 (first|refine zie rfl ?_|(refine zc3 ?_;first|refine zie rfl ?_|refine zc4 rfl ?_));simp only [go_sem,jq,jj,jy,jv,jk,jx]
 (first|refine zie rfl ?_|(refine zc3 ?_;first|refine zie rfl ?_|refine zc4 rfl ?_));simp only [go_sem,jq,jj,jy,jv,jk,jx]
 refine Wk ?_
 refine zkr (zDS c a r _ hc ha hr hz) rfl ?_
 rintro v h1 le1 ⟨p,rfl,e1,pok⟩
 rw [hptl] at e1
 have e1:p.l=pl:=e1
 have hplen1:p.l.length=r.l.length+1:=by rw [e1];exact hplen
 have hpcap:=pok.1
 simp only [go_sem,jq,jj,jy,jv,jk,jx,true_or,true_and,Int.toNat_zero,Nat.zero_mul,zx1,zx2,ite_self,Nat.sub_zero]
 refine ⟨by omega,?_⟩
 rw [zx3 (by omega)]
 refine zFe 4 [] [.v (.slice none 0 0),.v (.slice none 0 0)] 4 1 rfl ?_
 refine zFe 4 [.s 5] [.v (.slice none 0 0)] 3 1 rfl ?_
 refine zFe 4 [.s 5,.s 6] [] 280 1 rfl ?_
 have ptok:(p.to r.l.length).Ok h1:=Sl.to_ok pok _
 have ptl:(p.to r.l.length).l.length=r.l.length:=Sl.to_len (by omega)
 refine Evs ?_
 refine Wk ?_
 refine zm1 (ι:=Nat × List (Sl DWindow) × Hp) (fun i=>⟨[(4,true,.c (.v r.val)),(5,true,.c (.p 0 0)),(6,true,.c (.p 1 0)),(7,true,.c (.p 2 0)),(10,true,.c (.p 3 0)),(11,true,.c (.v (.bool false))),(12,true,.c (.p 4 0)),(43,true,.c (.v (p.to r.l.length).val)),(44,true,.c (.v (.int .i64 r.l.length))),(45,true,.c (.v (.int .i64 i.1)))],[(0,.box 49 [.v (.int .i64 f.tide.mean),.v f.tide.parts.val,.v f.surges.val]),(1,.box 53 [.v c.points.val,.v c.segments.val]),(2,.box 168 [.v (.string s.name),.v (.int .i64 s.length),.v (.int .i64 s.draught),.v (.int .i64 s.line),.v (.int .i64 s.tugs),.v (.bool s.slow)]),(3,.box 203 [.v (.slice none 0 0),.v (.slice none 0 0),.v (.slice none 0 0)]),(4,.box 203 [.s 5,.s 6,.s 7]),(5,.row 4 1 i.1 ((zFg (Con.con c) p.l i.1).flatMap Enc.enc)),(6,.row 3 1 i.1 ((minL (Con.con c) s r.l i.1).flatMap Enc.enc)),(7,.row 280 1 i.1 (i.2.1.flatMap Enc.enc))],i.2.2,8⟩) (fun i=>i.1≤r.l.length∧i.2.1.map (·.l)=zFh (Con.con f) (Con.con c) s r.l i.1∧(∀ q ∈ i.2.1,Enc.ok i.2.2 q)∧h1.le i.2.2) (fun i=>r.l.length - i.1) (0,[],h1) ⟨Nat.zero_le _,rfl,fun _ h=>(by cases h),Hp.le_refl _⟩ [0,1,2,3,4,5,6,7] ?_ ?_
 ·refine Evs ?_
  exact Gk
 rintro ⟨k,us,hk⟩ ⟨hkn,hus,huok,hle⟩
 simp only at hkn hus huok hle
 have hln:us.length=k:=by have:=congrArg List.length hus;rwa [List.length_map,zFh,rmap_len] at this
 have hle0:h.le hk:=Hp.le_trans le1 hle
 have fk:Enc.ok hk f:=Enc.mono hle0 hf
 have ck:Enc.ok hk c:=Enc.mono hle0 hc
 have sk:Enc.ok hk s:=Enc.mono hle0 hs
 have rk:=hr.mono hle0
 replace ptok:=ptok.mono hle
 refine Wk ?_
 refine zc9 rfl (fun hd=>?_) (fun hd=>?_)
 ·have hlt:=zjH hd
  have hlti:(k:Int) < r.l.length:=by omega
  have hlt2:k < (p.to r.l.length).l.length:=by omega
  have hlt2i:(k:Int) < (p.to r.l.length).l.length:=by omega
  have hlt3:k < p.l.length:=by omega
  have htog:(p.to r.l.length).l[k]=p.l[k]:=Sl.to_get _ _
  have hpp:=hpx p.l[k] (by rw [← e1];exact List.getElem_mem hlt3)
  rw [hpl] at hpp
  obtain ⟨hpp0,hpp1⟩:=hpp
  have hpi:p.l[k].toNat < c.points.l.length:=by omega
  have hseg:=zDO hpk (Nat.le_refl _) k hlt hlt
  rw [hsl] at hseg
  obtain ⟨hx0,hx1⟩:=hseg
  have hsi:r.l[k].toNat < c.segments.l.length:=by omega
  have hw1:(c.points.l[p.l[k].toNat]).wait=((Con.con c).points.getD (p.l.getD k 0).toNat dP).wait:=by rw [hpl,iget hlt3,pget hpi]
  have hm1:zAU s c.segments.l[r.l[k].toNat]=zAU s ((Con.con c).segments.getD (r.l.getD k 0).toNat dG):=by rw [hsl,iget hlt,gget hsi]
  repeat' first|refine Wa ?_|(simp only [go_sem,jq,jj,jy,jv,jk,jx,zkR rk hlt,rk.some hlt,hlt,hlti,zkR ptok hlt2,ptok.some hlt2,hlt2,hlt2i,htog,zlf ck.1 hpi,ck.1.some hpi,zmS ck.1 hpi,hpi,hpp0,hpp1,zlh ck.2 hsi,ck.2.some hsi,zmT ck.2 hsi,hsi,hx0,hx1,jW,jY,implies_true,true_and,and_true,and_self];try rfl)|refine Wb ?_|fail
  refine zyW rfl ?_
  refine U_t [0,2,4,1,3,5,6,7] rfl ?_
  simp only [go_sem,jq,jj,jy,jv,jk,jx,zkR rk hlt,rk.some hlt,hlt,hlti,zkR ptok hlt2,ptok.some hlt2,hlt2,hlt2i,htog,zlf ck.1 hpi,ck.1.some hpi,zmS ck.1 hpi,hpi,hpp0,hpp1,zlh ck.2 hsi,ck.2.some hsi,zmT ck.2 hsi,hsi,hx0,hx1,jW,jY,implies_true,true_and,and_true,and_self]
  refine U_1 8 0 [1,0] rfl rfl ?_
  simp only [go_sem,jq,jj,jy,jv,jk,jx,zkR rk hlt,rk.some hlt,hlt,hlti,zkR ptok hlt2,ptok.some hlt2,hlt2,hlt2i,htog,zlf ck.1 hpi,ck.1.some hpi,zmS ck.1 hpi,hpi,hpp0,hpp1,zlh ck.2 hsi,ck.2.some hsi,zmT ck.2 hsi,hsi,hx0,hx1,jW,jY,implies_true,true_and,and_true,and_self]
  refine U_1 9 0 [] rfl rfl ?_
  simp only [go_sem,jq,jj,jy,jv,jk,jx,zkR rk hlt,rk.some hlt,hlt,hlti,zkR ptok hlt2,ptok.some hlt2,hlt2,hlt2i,htog,zlf ck.1 hpi,ck.1.some hpi,zmS ck.1 hpi,hpi,hpp0,hpp1,zlh ck.2 hsi,ck.2.some hsi,zmT ck.2 hsi,hsi,hx0,hx1,jW,jY,implies_true,true_and,and_true,and_self]
  refine ⟨by simp only [maxLen];omega,by omega,?_⟩
  refine U_t [10] rfl ?_
  simp only [go_sem,jq,jj,jy,jv,jk,jx,zkR rk hlt,rk.some hlt,hlt,hlti,zkR ptok hlt2,ptok.some hlt2,hlt2,hlt2i,htog,zlf ck.1 hpi,ck.1.some hpi,zmS ck.1 hpi,hpi,hpp0,hpp1,zlh ck.2 hsi,ck.2.some hsi,zmT ck.2 hsi,hsi,hx0,hx1,jW,jY,implies_true,true_and,and_true,and_self]
  refine U_1 11 0 [] rfl rfl ?_
  simp only [go_sem,jq,jj,jy,jv,jk,jx,zkR rk hlt,rk.some hlt,hlt,hlti,zkR ptok hlt2,ptok.some hlt2,hlt2,hlt2i,htog,zlf ck.1 hpi,ck.1.some hpi,zmS ck.1 hpi,hpi,hpp0,hpp1,zlh ck.2 hsi,ck.2.some hsi,zmT ck.2 hsi,hsi,hx0,hx1,jW,jY,implies_true,true_and,and_true,and_self]
  refine U_d ?_
  repeat' first|refine Wa ?_|(simp only [go_sem,jq,jj,jy,jv,jk,jx,zkR rk hlt,rk.some hlt,hlt,hlti,zkR ptok hlt2,ptok.some hlt2,hlt2,hlt2i,htog,zlf ck.1 hpi,ck.1.some hpi,zmS ck.1 hpi,hpi,hpp0,hpp1,zlh ck.2 hsi,ck.2.some hsi,zmT ck.2 hsi,hsi,hx0,hx1,jW,jY,implies_true,true_and,and_true,and_self];try rfl)|refine Wb ?_|fail
  refine zyW rfl ?_
  refine U_t [0,2,3,5,6,1,4,7,8,9,10] rfl ?_
  simp only [go_sem,jq,jj,jy,jv,jk,jx,zkR rk hlt,rk.some hlt,hlt,hlti,zkR ptok hlt2,ptok.some hlt2,hlt2,hlt2i,htog,zlf ck.1 hpi,ck.1.some hpi,zmS ck.1 hpi,hpi,hpp0,hpp1,zlh ck.2 hsi,ck.2.some hsi,zmT ck.2 hsi,hsi,hx0,hx1,jW,jY,implies_true,true_and,and_true,and_self]
  refine U_1 11 0 [1,0] rfl rfl ?_
  simp only [go_sem,jq,jj,jy,jv,jk,jx,zkR rk hlt,rk.some hlt,hlt,hlti,zkR ptok hlt2,ptok.some hlt2,hlt2,hlt2i,htog,zlf ck.1 hpi,ck.1.some hpi,zmS ck.1 hpi,hpi,hpp0,hpp1,zlh ck.2 hsi,ck.2.some hsi,zmT ck.2 hsi,hsi,hx0,hx1,jW,jY,implies_true,true_and,and_true,and_self]
  refine zhF (fun _=>zA2 s c.segments.l[r.l[k].toNat] _) ?_
  simp only [go_sem,jq,jj,jy,jv,jk,jx,zkR rk hlt,rk.some hlt,hlt,hlti,zkR ptok hlt2,ptok.some hlt2,hlt2,hlt2i,htog,zlf ck.1 hpi,ck.1.some hpi,zmS ck.1 hpi,hpi,hpp0,hpp1,zlh ck.2 hsi,ck.2.some hsi,zmT ck.2 hsi,hsi,hx0,hx1,jW,jY,implies_true,true_and,and_true,and_self]
  refine U_1 12 0 [1,0] rfl rfl ?_
  simp only [go_sem,jq,jj,jy,jv,jk,jx,zkR rk hlt,rk.some hlt,hlt,hlti,zkR ptok hlt2,ptok.some hlt2,hlt2,hlt2i,htog,zlf ck.1 hpi,ck.1.some hpi,zmS ck.1 hpi,hpi,hpp0,hpp1,zlh ck.2 hsi,ck.2.some hsi,zmT ck.2 hsi,hsi,hx0,hx1,jW,jY,implies_true,true_and,and_true,and_self]
  refine U_1 13 0 [] rfl rfl ?_
  simp only [go_sem,jq,jj,jy,jv,jk,jx,zkR rk hlt,rk.some hlt,hlt,hlti,zkR ptok hlt2,ptok.some hlt2,hlt2,hlt2i,htog,zlf ck.1 hpi,ck.1.some hpi,zmS ck.1 hpi,hpi,hpp0,hpp1,zlh ck.2 hsi,ck.2.some hsi,zmT ck.2 hsi,hsi,hx0,hx1,jW,jY,implies_true,true_and,and_true,and_self]
  refine ⟨by simp only [maxLen];omega,by omega,?_⟩
  refine U_t [14] rfl ?_
  simp only [go_sem,jq,jj,jy,jv,jk,jx,zkR rk hlt,rk.some hlt,hlt,hlti,zkR ptok hlt2,ptok.some hlt2,hlt2,hlt2i,htog,zlf ck.1 hpi,ck.1.some hpi,zmS ck.1 hpi,hpi,hpp0,hpp1,zlh ck.2 hsi,ck.2.some hsi,zmT ck.2 hsi,hsi,hx0,hx1,jW,jY,implies_true,true_and,and_true,and_self]
  refine U_1 15 0 [] rfl rfl ?_
  simp only [go_sem,jq,jj,jy,jv,jk,jx,zkR rk hlt,rk.some hlt,hlt,hlti,zkR ptok hlt2,ptok.some hlt2,hlt2,hlt2i,htog,zlf ck.1 hpi,ck.1.some hpi,zmS ck.1 hpi,hpi,hpp0,hpp1,zlh ck.2 hsi,ck.2.some hsi,zmT ck.2 hsi,hsi,hx0,hx1,jW,jY,implies_true,true_and,and_true,and_self]
  refine U_d ?_
  repeat' first|refine Wa ?_|(simp only [go_sem,jq,jj,jy,jv,jk,jx,zkR rk hlt,rk.some hlt,hlt,hlti,zkR ptok hlt2,ptok.some hlt2,hlt2,hlt2i,htog,zlf ck.1 hpi,ck.1.some hpi,zmS ck.1 hpi,hpi,hpp0,hpp1,zlh ck.2 hsi,ck.2.some hsi,zmT ck.2 hsi,hsi,hx0,hx1,jW,jY,implies_true,true_and,and_true,and_self];try rfl)|refine Wb ?_|fail
  refine zyW rfl ?_
  refine U_t [0,2,3,4,5,8,1,6,7] rfl ?_
  simp only [go_sem,jq,jj,jy,jv,jk,jx,zkR rk hlt,rk.some hlt,hlt,hlti,zkR ptok hlt2,ptok.some hlt2,hlt2,hlt2i,htog,zlf ck.1 hpi,ck.1.some hpi,zmS ck.1 hpi,hpi,hpp0,hpp1,zlh ck.2 hsi,ck.2.some hsi,zmT ck.2 hsi,hsi,hx0,hx1,jW,jY,implies_true,true_and,and_true,and_self]
  refine U_1 9 0 [1,0] rfl rfl ?_
  simp only [go_sem,jq,jj,jy,jv,jk,jx,zkR rk hlt,rk.some hlt,hlt,hlti,zkR ptok hlt2,ptok.some hlt2,hlt2,hlt2i,htog,zlf ck.1 hpi,ck.1.some hpi,zmS ck.1 hpi,hpi,hpp0,hpp1,zlh ck.2 hsi,ck.2.some hsi,zmT ck.2 hsi,hsi,hx0,hx1,jW,jY,implies_true,true_and,and_true,and_self]
  refine zkr (zCL f c r.l[k] s _ fk ck sk) rfl ?_
  rintro v h3 le3 ⟨q,rfl,eq,okq,mq⟩
  have rk3:=rk.mono le3
  simp only [go_sem,jq,jj,jy,jv,jk,jx,zkR rk3 hlt,rk3.some hlt,hlt,hlti,zkR ptok hlt2,ptok.some hlt2,hlt2,hlt2i,htog,zlf ck.1 hpi,ck.1.some hpi,zmS ck.1 hpi,hpi,hpp0,hpp1,zlh ck.2 hsi,ck.2.some hsi,zmT ck.2 hsi,hsi,hx0,hx1,jW,jY,implies_true,true_and,and_true,and_self]
  refine U_1 10 0 [1,0] rfl rfl ?_
  refine Evs ?_
  refine U_1 11 0 [] rfl rfl ?_
  refine Evs ?_
  refine ⟨by simp only [maxLen];omega,by omega,?_⟩
  refine U_t [12] rfl ?_
  refine Evs ?_
  refine U_1 13 0 [] rfl rfl ?_
  refine Evs ?_
  refine U_d ?_
  refine Wk ?_
  refine ⟨(k+1,us ++ [q],h3),[0,1,2,3,4,9,11,13],⟨hlt,?_,fun q' hq'=>?_,Hp.le_trans hle le3⟩,by simp only;omega,?_⟩
  ·rw [List.map_append,hus,zFh,zFh,zFi,iget hlt,← eq];rfl
  ·rcases List.mem_append.1 hq' with hq'|hq'
   ·exact Enc.mono le3 (huok q' hq')
   ·rw [List.mem_singleton.1 hq'];exact okq
  have hle3:=Hp.le_trans hle0 le3
  refine Evs ?_
  simp only [zFg,minL,zFi,List.flatMap_append,← hw1,← hm1]
  exact Gi (zjA hlt (by omega))
 ·have hge:=zjI hd
  obtain rfl:k=r.l.length:=by omega
  refine zc6 ?_
  refine Evs ?_
  refine zCP 5 (zFg (Con.con c) p.l r.l.length) rfl rfl rmap_len.symm rfl fun w g1 ew Rw fw lw kw=>?_
  refine Evs ?_
  refine zCP 6 (minL (Con.con c) s r.l r.l.length) rfl rfl rmap_len.symm rfl fun m g2 em Rm fm lm km=>?_
  refine Evs ?_
  refine zCP 7 us rfl rfl hln.symm rfl fun u g3 eu Ru fu lu ku=>?_
  refine Evs ?_
  have lw:hk.le g1:=lw
  have lm:g1.le g2:=lm
  have lu:g2.le g3:=lu
  have okw:w.Ok g1:=Rw.ok (by decide) fun x hx=>trivial
  have okm:m.Ok g2:=Rm.ok (by decide) fun x hx=>by
   rw [em] at hx
   obtain ⟨i,hi,rfl⟩:=List.mem_map.1 hx
   exact zFf ck (r.l.getD i 0).toNat
  have oku:u.Ok g3:=Ru.ok (by decide) fun x hx=>Enc.mono (Hp.le_trans lw (Hp.le_trans lm lu)) (huok x (by rw [← eu];exact hx))
  refine Wk ?_
  refine ⟨w,m,u,rfl,okw.mono (Hp.le_trans lm lu),okm.mono lu,oku,?_,em,by rw [eu,hus]⟩
  rw [ew,hptl,e1];rfl
theorem zFk {l:List DWindow} {t:Int} (h:0≤zBQ l t):t≤zBQ l t:=by
 unfold zBQ at h ⊢
 split
 ·split
  ·exact Int.le_max_right _ _
  ·rename_i h1 _ h2;rw [if_pos h1] at h;simp only [h2] at h;omega
 ·rename_i h1;rw [if_neg h1] at h;omega
theorem zFl {l:List DWindow} {t:Int} {h:Hp} (hl:∀ w ∈ l,Enc.ok h w) (ht:I64 t):I64 (zBQ l t):=by
 have hm:I64 (-1):=by unfold I64;omega
 unfold zBQ
 split
 ·split
  ·rename_i w hw
   have:=(hl w (List.mem_of_find?_eq_some hw)).1
   unfold I64 at *
   rw [Int.max_def];split <;> omega
  ·exact hm
 ·exact hm
def zFm (w:List Bool) (m:List Int) (u:List (List DWindow)) (k:Nat) (l:List Int):Option (List Int) :=
 let t:=IntKind.i64.wrap (l.getD k 0+m.getD k 0)
 let n:=zBQ (u.getD (k+1) []) t
 if n < 0∨(t < n∧w.getD (k+1) false=false) then none else some (l ++ [n])
def slK (w:List Bool) (m:List Int) (u:List (List DWindow)) (st:Int):Nat→Option (List Int)
 | 0=>some [st]
 | k+1=>(slK w m u st k).bind (zFm w m u k)
def zFn (w:List Bool) (m:List Int) (u:List (List DWindow)) (st:Int):Option (List Int):=if zBP (u.getD 0 []) st=true then slK w m u st (u.length - 1) else none
theorem zFo {w:List Bool} {m:List Int} {u:List (List DWindow)} {st:Int} (h:zBP (u.getD 0 []) st=false):zFn w m u st=none:=by rw [zFn,if_neg (by rw [h];exact Bool.false_ne_true)]
theorem zFp {w:List Bool} {m:List Int} {u:List (List DWindow)} {st:Int} (h:zBP (u.getD 0 []) st=true):zFn w m u st=slK w m u st (u.length - 1):=by rw [zFn,if_pos h]
theorem zFq {w:List Bool} {m:List Int} {u:List (List DWindow)} {st:Int} {k:Nat} (h:slK w m u st k=none):∀ {n:Nat},k≤n→slK w m u st n=none
 | 0,hn=>by rw [← Nat.le_zero.1 hn,h]
 | n+1,hn=>by
  rcases Nat.lt_or_ge k (n+1) with h1|h1
  ·rw [slK,zFq h (Nat.le_of_lt_succ h1)];rfl
  ·obtain rfl:k=n+1:=by omega
   exact h
theorem zFr {w:List Bool} {m:List Int} {u:List (List DWindow)} {st:Int}:∀ {k:Nat} {l:List Int},slK w m u st k=some l→l.length=k+1
 | 0,l,h=>by rw [slK] at h;rw [← Option.some.inj h];rfl
 | k+1,l,h=>by
  rw [slK] at h
  cases hk:slK w m u st k with
  | none=>rw [hk] at h;cases h
  | some p =>
   rw [hk,Option.bind_some] at h
   unfold zFm at h
   dsimp only at h
   split at h
   ·cases h
   ·rw [← Option.some.inj h,List.length_append,zFr hk];rfl
theorem lget {l:List (Sl DWindow)} {i:Nat} (hi:i < l.length):(l.map (·.l)).getD i []=l[i].l:=by simp [List.getD_eq_getElem?_getD,hi]
theorem zFs {l:List Bool} {i:Nat} (hi:i < l.length):l.getD i false=l[i]:=by simp [List.getD_eq_getElem?_getD,hi]
theorem zFt {l:List Int} {i:Nat} (hi:i < l.length):(l.flatMap Enc.enc).getD i undef=Value.int .i64 l[i]:=by rw [zCX];simp [List.getD_eq_getElem?_getD,hi]
theorem zFu {l:List Int}:(l.flatMap Enc.enc).length=l.length:=by rw [zCX,List.length_map]
theorem zFv (w:Sl Bool) (m:Sl Int) (u:Sl (Sl DWindow)) (st:Int) (h:Hp) (hw:w.Ok h) (hm:m.Ok h) (hu:u.Ok h) (hst:I64 st) (hwn:w.l.length=u.l.length) (hmn:m.l.length=u.l.length) (h0:0 < u.l.length) (hz:u.l.length≤1048576):Ct jV 204 [.agg #[w.val,m.val,u.val],.int .i64 st] h fun v h'=>∃ s:Sl Int,v=.tuple #[s.val,.bool (zFn w.l m.l (u.l.map (·.l)) st).isSome]∧s.l=(zFn w.l m.l (u.l.map (·.l)) st).getD []∧s.Ok h':=by
 have hat0:=zkQ hu h0
 simp only [go_sem,Nat.zero_mul] at hat0
 have h0i:(0:Int) < u.l.length:=by omega
 refine zdn (fun A W=>by simp) Tryz.func204 rfl rfl (by simp) fun W0=>?_
 repeat' first|refine Wa ?_|refine zhF (fun _=>zB2 u.l[0] st _ (hu.el h0)) ?_|(simp only [go_sem,jq,jj,jy,jv,jk,jx,hat0,hu.some h0,h0,h0i,Int.toNat_zero,Nat.zero_mul,Int.le_refl,implies_true,true_and,and_true];try rfl)|refine Wb ?_|fail
 have hul:(u.l.map (·.l)).length=u.l.length:=List.length_map ..
 refine zc9 rfl (fun hx=>?_) (fun hx=>?_)
 ·rw [Bool.not_eq_true'] at hx
  rw [zFo (by rw [lget h0];exact hx)]
  refine Wk ?_
  exact ⟨⟨none,0,[]⟩,rfl,rfl,znp⟩
 rw [Bool.not_eq_false'] at hx
 rw [zFp (by rw [lget h0];exact hx),hul]
 refine Wk ?_
 refine zm1 (ι:=Nat × List Int) (fun i=>⟨[(2,true,.c (.p 0 0)),(4,true,.c (.v (.slice none 0 0))),(5,true,.c (.v (.bool false))),(6,true,.c (.s 1)),(7,true,.c (.v (.int .i64 (i.1+1:Nat))))],[(0,.box 203 [.v w.val,.v m.val,.v u.val]),(1,.row 3 1 (i.1+1) (i.2.flatMap Enc.enc))],h,2⟩) (fun i=>i.1+1≤u.l.length∧slK w.l m.l (u.l.map (·.l)) st i.1=some i.2∧∀ x ∈ i.2,I64 x) (fun i=>u.l.length - i.1) (0,[st]) ⟨h0,rfl,fun x hx=>by rw [List.mem_singleton.1 hx];exact hst⟩ [0,1] ?_ ?_
 ·refine Evs ?_
  exact Gk
 rintro ⟨k,l⟩ ⟨hkn,hsk,hli⟩
 simp only at hkn hsk hli
 have hlen:=zFr hsk
 refine Wk ?_
 refine zc9 rfl (fun hd=>?_) (fun hd=>?_)
 ·have hlt:k+1 < u.l.length:=by have:=of_decide_eq_true hd;omega
  have hlti:((k+1:Nat):Int) < u.l.length:=by omega
  have hkl:k < l.length:=by omega
  have hkli:(k:Int) < l.length:=by omega
  have hlts:(k:Int) < ((k+1:Nat):Int):=by omega
  have hw1:IntKind.i64.wrap (((k+1:Nat):Int) - 1)=(k:Int):=by rw [zjz (by omega)];omega
  have hgl:=zFt hkl
  have hfl:=zFu (l:=l)
  have hkm:k < m.l.length:=by omega
  have hkmi:(k:Int) < m.l.length:=by omega
  have hatm:=zkR hm hkm
  simp only [Nat.mul_one] at hatm
  have hgm:m.l.getD k 0=m.l[k]:=iget hkm
  obtain ⟨t,hsum⟩:∃ t,IntKind.i64.wrap (l[k]+m.l[k])=t:=⟨_,rfl⟩
  have hkw:k+1 < w.l.length:=by omega
  have hkwi:(((k+1:Nat):Int)) < w.l.length:=by omega
  have hgw:w.l.getD (k+1) false=w.l[k+1]:=zFs hkw
  have hno:zFm w.l m.l (u.l.map (·.l)) k l=none→slK w.l m.l (u.l.map (·.l)) st (u.l.length - 1)=none:=fun e=>zFq (k:=k+1) (by rw [slK,hsk];exact e) (by omega)
  have ht64:I64 t:=by rw [← hsum];exact i64w _
  obtain ⟨n,hne⟩:∃ n,zBQ u.l[k+1].l t=n:=⟨_,rfl⟩
  have hst2:zFm w.l m.l (u.l.map (·.l)) k l=if n < 0∨(t < n∧w.l[k+1]=false) then none else some (l ++ [n]):=by
   unfold zFm
   simp only [iget hkl,hgm,hsum,lget hlt,hne,hgw]
  have hn64:I64 n:=by rw [← hne];exact zFl (fun x hx=>(hu.el hlt).2.2.2.1 x hx) ht64
  have hck:∀ {b:Bool},(b=false)=(b=false):=rfl
  repeat' first|refine Wa ?_|(simp only [go_sem,jq,jj,jy,jv,jk,jx,hw1,hatm,hm.some hkm,hkm,hkmi,hkl,hkli,hgl,hfl,hsum,Nat.mul_one,hlts,jW,jY,implies_true,true_and,and_true,and_self];try rfl)|refine Wb ?_|fail
  refine zyW rfl ?_
  refine U_t [0,1,5,7,2,6,8,3,9,4,10,11,12] rfl ?_
  simp only [go_sem,jq,jj,jy,jv,jk,jx,hw1,hatm,hm.some hkm,hkm,hkmi,hkl,hkli,hgl,hfl,hsum,Nat.mul_one,hlts,jW,jY,implies_true,true_and,and_true,and_self]
  refine U_d ?_
  repeat' first|refine Wa ?_|refine zhF (fun _=>zB3 u.l[k+1] t _ (hu.el hlt)) ?_|(simp only [go_sem,jq,jj,jy,jv,jk,jx,zkQ hu hlt,hu.some hlt,hlt,hlti,jW,jY,implies_true,true_and,and_true,and_self];try rfl)|refine Wb ?_|fail
  rw [hne]
  by_cases hy:n < 0
  ·repeat' first|refine Wa ?_|(simp only [go_sem,jq,jj,jy,jv,jk,jx,eq_true hy,reduceCtorEq,decide_true,decide_false,Bool.not_true,Bool.not_false,Bool.true_or,Bool.false_or,Bool.or_false,Bool.or_true,Bool.true_and,Bool.false_and,Bool.and_true,Bool.and_false,Bool.false_eq_true,false_implies,implies_true,true_and];try rfl)|refine Wb ?_|fail
   refine zc9 rfl (fun hz=>?_) (fun hz=>?_)
   case refine_2=>cases hz
   refine Wk ?_
   rw [hno (by rw [hst2,if_pos (.inl hy)])]
   exact ⟨⟨none,0,[]⟩,rfl,rfl,znp⟩
  have hge2:t≤n:=by have:=zFk (l:=u.l[k+1].l) (t:=t) (by omega);omega
  by_cases hy2:t < n
  ·have bne_t:(n != t)=true:=by rw [bne_iff_ne];omega
   repeat' first|refine Wa ?_|(simp only [go_sem,jq,jj,jy,jv,jk,jx,eq_false hy,eq_true hy2,zBL hw hkw,hw.some hkw,hkw,hkwi,hck,jW,jY,implies_true,true_and,and_true,and_self,reduceCtorEq,decide_true,decide_false,Bool.not_true,Bool.not_false,Bool.true_or,Bool.false_or,Bool.or_false,Bool.or_true,Bool.true_and,Bool.false_and,Bool.and_true,Bool.and_false,Bool.false_eq_true,false_implies,implies_true,true_and];try rfl)|refine Wb ?_|fail
   refine zc9 rfl (fun hz=>?_) (fun hz=>?_)
   ·refine Wk ?_
    rw [hno (by rw [hst2,if_pos (.inr ⟨hy2,by simpa using hz⟩)])]
    exact ⟨⟨none,0,[]⟩,rfl,rfl,znp⟩
   have hneg:¬ (n < 0∨(t < n∧w.l[k+1]=false)):=by
    rintro (e|e)
    ·exact hy e
    ·rw [e.2] at hz;cases hz
   refine Wk ?_
   refine ⟨by simp only [maxLen];omega,by omega,?_⟩
   refine Wk ?_
   refine ⟨(k+1,l ++ [n]),[0,3],⟨by simp only;omega,by rw [slK,hsk,Option.bind_some,hst2,if_neg hneg],fun x hx=>?_⟩,by simp only;omega,?_⟩
   ·rcases List.mem_append.1 hx with hx|hx
    ·exact hli x hx
    ·rw [List.mem_singleton.1 hx];exact hn64
   refine Evs ?_
   simp only [List.flatMap_append]
   exact Gi (zjA (n:=u.l.length) (k:=k+1) hlt (by omega))
  ·have bne_f:(n != t)=false:=by rw [bne_eq_false_iff_eq];omega
   repeat' first|refine Wa ?_|(simp only [go_sem,jq,jj,jy,jv,jk,jx,eq_false hy,eq_false hy2,zBL hw hkw,hw.some hkw,hkw,hkwi,hck,jW,jY,implies_true,true_and,and_true,and_self,reduceCtorEq,decide_true,decide_false,Bool.not_true,Bool.not_false,Bool.true_or,Bool.false_or,Bool.or_false,Bool.or_true,Bool.true_and,Bool.false_and,Bool.and_true,Bool.and_false,Bool.false_eq_true,false_implies,implies_true,true_and];try rfl)|refine Wb ?_|fail
   refine zc9 rfl (fun hz=>?_) (fun hz=>?_)
   ·cases hz
   have hneg:¬ (n < 0∨(t < n∧w.l[k+1]=false)):=by
    rintro (e|e)
    ·exact hy e
    ·exact hy2 e.1
   refine Wk ?_
   refine ⟨by simp only [maxLen];omega,by omega,?_⟩
   refine Wk ?_
   refine ⟨(k+1,l ++ [n]),[0,3],⟨by simp only;omega,by rw [slK,hsk,Option.bind_some,hst2,if_neg hneg],fun x hx=>?_⟩,by simp only;omega,?_⟩
   ·rcases List.mem_append.1 hx with hx|hx
    ·exact hli x hx
    ·rw [List.mem_singleton.1 hx];exact hn64
   refine Evs ?_
   simp only [List.flatMap_append]
   exact Gi (zjA (n:=u.l.length) (k:=k+1) hlt (by omega))
 ·have hge:u.l.length≤k+1:=by have:=of_decide_eq_false hd;omega
  have hke:u.l.length - 1=k:=by omega
  refine zc6 ?_
  refine Evs ?_
  refine zCP 1 l rfl rfl hlen.symm rfl fun q h' e1 R f1 l1 k1=>?_
  refine Wk ?_
  rw [hke,hsk]
  exact ⟨q,rfl,e1,R.ok (by decide) fun x hx=>hli x (by rw [← e1];exact hx)⟩
def zFx (f:zOu) (c:zOv) (s:DShip) (a:Int) (r:List Int) (st:Int):Option (List Int):=if voOk f c s a r=true then zFn (zFg c ((zC2 c a r).getD []) r.length) (minL c s r r.length) (zFh f c s r r.length) st else none
def zFy (x:zOw) (a:DCall) (r:List Int):Bool:=match zC2 x.chart a.src r with|none=>false|some l=>decide (l.getD r.length 0=a.dst)
def zFz (x:zOw) (a:DCall):DShip:=x.fleet.getD a.ship.toNat dH
def cvOk (x:zOw) (a:DCall) (r:List Int):Bool:=zFy x a r && voOk x.forecast x.chart (zFz x a) a.src r
theorem zFA {x:DHarbour} {a:DCall} (h:zAJ (Con.con x) a=true):zzV (Con.con x.forecast)=true∧zz9 (Con.con x.chart)=true∧(∃ hs:a.ship.toNat < x.fleet.l.length,zFz (Con.con x) a=x.fleet.l[a.ship.toNat]∧zAk x.fleet.l[a.ship.toNat]=true)∧0≤a.ship∧a.ship < x.fleet.l.length∧0≤a.src∧a.src < x.chart.points.l.length∧0≤a.dst∧a.dst < x.chart.points.l.length∧a.src ≠ a.dst∧0≤a.ready∧a.ready≤2880∧a.ready≤a.due∧a.due≤2880:=by
 rw [zAJ,zAF,zAK,jJ,jJ,jJ,jJ,jJ,decide_eq_true_eq] at h
 obtain ⟨⟨⟨⟨⟨h1,h2⟩,h3⟩,h4⟩,h5⟩,h6⟩:=h
 have hs:a.ship.toNat < x.fleet.l.length:=by omega
 have hsh:zFz (Con.con x) a=x.fleet.l[a.ship.toNat]:=by
  rw [zFz,show (Con.con x).fleet=x.fleet.l from zz2 _,hget hs]
 refine ⟨h1,h2,⟨hs,hsh,?_⟩,by omega⟩
 rw [zAl,jJ,decide_eq_true_eq,decide_eq_true_eq] at h3
 have:=h3.2 _ hs
 rw [shOk,hget hs,jJ] at this
 exact this.1
theorem zFB {x:DHarbour} {a:DCall} {r:List Int} (h:zAJ (Con.con x) a=true):voOk (Con.con x.forecast) (Con.con x.chart) (zFz (Con.con x) a) a.src r=(zDJ (Con.con x.chart) a.src r && decide (0 < r.length)):=by
 obtain ⟨h1,h2,⟨hs,e,h3⟩,_⟩:=zFA h
 rw [voOk,h1,e,h3];rfl
theorem zFD (x:DHarbour) (a:DCall) (r:Sl Int) (h:Hp) (hx:Enc.ok h x) (ha:Enc.ok h a) (hr:r.Ok h) (hz:r.l.length≤1048576) (hok:zAJ (Con.con x) a=true):Ct jV 154 [x.v,a.v,r.val] h fun v h'=>∃ (w:Sl Bool) (m:Sl Int) (u:Sl (Sl DWindow)),v=.tuple #[.agg #[w.val,m.val,u.val],.bool (cvOk (Con.con x) a r.l)]∧w.Ok h'∧m.Ok h'∧u.Ok h'∧(cvOk (Con.con x) a r.l=true→w.l=zFg (Con.con x.chart) ((zC2 (Con.con x.chart) a.src r.l).getD []) r.l.length∧m.l=minL (Con.con x.chart) (zFz (Con.con x) a) r.l r.l.length∧u.l.map (·.l)=zFh (Con.con x.forecast) (Con.con x.chart) (zFz (Con.con x) a) r.l r.l.length):=by
 obtain ⟨hfo,hch,⟨hsi,hsh,hso⟩,hs0,hs1,_⟩:=zFA hok
 refine zdn (fun A W=>by simp) Tryz.func154 rfl rfl (by simp) fun W0=>?_
 refine Wk ?_
 refine zkr (zDS x.chart a.src r _ hx.2.1 ha.2.1 hr hz) rfl ?_
 rintro v h1 le1 ⟨p,rfl,e1,pok⟩
 have hx1:Enc.ok h1 x:=Enc.mono le1 hx
 have r1:=hr.mono le1
 refine Wk ?_
 cases hR:zC2 (Con.con x.chart) a.src r.l with
 | none =>
  have hno:cvOk (Con.con x) a r.l=false:=by
   rw [cvOk,zFy,show (Con.con x).chart=Con.con x.chart from rfl,hR];rfl
  rw [hR] at e1
  have hpl0:p.l.length=0:=by rw [e1];rfl
  have he0:((p.l.length:Int) == 0)=true:=by rw [hpl0];rfl
  have hl1:((1:Int) < p.l.length)=False:=eq_false (by omega)
  rw [hno]
  refine zyW rfl ?_
  refine U_t [0,1,2,3,4,5,10,6,11,7,8,9,12,13] rfl ?_
  simp only [go_sem,jq,jj,jy,jv,jk,jx,he0,hl1,reduceCtorEq,decide_true,decide_false,Bool.not_true,Bool.not_false,Bool.true_or,Bool.false_or,Bool.or_false,Bool.or_true,Bool.true_and,Bool.false_and,Bool.and_true,Bool.and_false,Bool.false_eq_true,false_implies,implies_true,true_and]
  refine U_d ?_
  refine Wk ?_
  refine zc9 rfl (fun hz=>?_) (fun hz=>?_)
  case refine_2=>cases hz
  refine Wk ?_
  first|exact ⟨⟨none,0,[]⟩,⟨none,0,[]⟩,⟨none,0,[]⟩,rfl,znp,znp,znp⟩|exact ⟨⟨none,0,[]⟩,⟨none,0,[]⟩,⟨none,0,[]⟩,rfl,znp,znp,znp,fun e=>by cases e⟩
 | some pl =>
  have hRo:zDJ (Con.con x.chart) a.src r.l=true:=by rw [zDJ,hR];rfl
  obtain ⟨hC,hin,pl',hptl,hpk,hplen,hpx⟩:=zDN hRo
  rw [hR] at hptl
  obtain rfl:pl=pl':=Option.some.inj hptl
  rw [hR] at e1
  have e1:p.l=pl:=e1
  have hpn:p.l.length=r.l.length+1:=by rw [e1];exact hplen
  have hlt:r.l.length < p.l.length:=by omega
  have hlti:(r.l.length:Int) < p.l.length:=by omega
  have hpnw:IntKind.i64.wrap ((p.l.length:Int) - 1)=(r.l.length:Int):=by rw [zjz (by omega)];omega
  have hne0:((p.l.length:Int) == 0)=false:=by rw [beq_eq_false_iff_ne];omega
  refine zyW rfl ?_
  refine U_t [0,1,2,3,4,5,10,6,11,7,8,9,12,13] rfl ?_
  simp only [go_sem,jq,jj,jy,jv,jk,jx,hne0,hpnw,zkR pok hlt,pok.some hlt,hlt,hlti,jW,jY,implies_true,true_and,and_true,and_self,reduceCtorEq,decide_true,decide_false,Bool.not_true,Bool.not_false,Bool.true_or,Bool.false_or,Bool.or_false,Bool.or_true,Bool.true_and,Bool.false_and,Bool.and_true,Bool.and_false,Bool.false_eq_true,false_implies,implies_true,true_and]
  refine U_d ?_
  refine Wk ?_
  refine zc9 rfl (fun hz2=>?_) (fun hz2=>?_)
  ·have hno:cvOk (Con.con x) a r.l=false:=by
    rw [cvOk,zFy,show (Con.con x).chart=Con.con x.chart from rfl,hR]
    dsimp only
    rw [← e1,iget hlt,decide_eq_false (by simpa using hz2)];rfl
   rw [hno]
   refine Wk ?_
   first|exact ⟨⟨none,0,[]⟩,⟨none,0,[]⟩,⟨none,0,[]⟩,rfl,znp,znp,znp⟩|exact ⟨⟨none,0,[]⟩,⟨none,0,[]⟩,⟨none,0,[]⟩,rfl,znp,znp,znp,fun e=>by cases e⟩
  have hld:zFy (Con.con x) a r.l=true:=by
   rw [zFy,show (Con.con x).chart=Con.con x.chart from rfl,hR]
   dsimp only
   rw [← e1,iget hlt,decide_eq_true (by simpa using hz2)]
  rw [cvOk,hld,Bool.true_and,hsh]
  repeat' first|refine Wa ?_|(simp only [go_sem,jq,jj,jy,jv,jk,jx,zmU hx1.2.2.1 hsi,zln hx1.2.2.1 hsi,hx1.2.2.1.some hsi,hsi,hs0,hs1,jW,implies_true,true_and,and_true,and_self];try rfl)|refine Wb ?_|fail
  refine zyW rfl ?_
  refine U_t [0,2,4,6,10,12,1,3,5,7,11,8,9] rfl ?_
  simp only [go_sem,jq,jj,jy,jv,jk,jx,zmU hx1.2.2.1 hsi,zln hx1.2.2.1 hsi,hx1.2.2.1.some hsi,hsi,hs0,hs1,jW,implies_true,true_and,and_true,and_self]
  refine U_1 13 0 [] rfl rfl ?_
  simp only [go_sem,jq,jj,jy,jv,jk,jx,zmU hx1.2.2.1 hsi,zln hx1.2.2.1 hsi,hx1.2.2.1.some hsi,hsi,hs0,hs1,jW,implies_true,true_and,and_true,and_self]
  refine zkr (zFj x.forecast x.chart x.fleet.l[a.ship.toNat] a.src r _ hx1.1 hx1.2.1 (hx1.2.2.1.el hsi) ha.2.1 r1 hz) rfl ?_
  rintro v h2 le2 ⟨w,m,u,rfl,ow,om,ou,hw⟩
  refine Evs ?_
  refine U_t [14,15] rfl ?_
  simp only [go_sem,jq,jj,jy,jv,jk,jx,zmU hx1.2.2.1 hsi,zln hx1.2.2.1 hsi,hx1.2.2.1.some hsi,hsi,hs0,hs1,jW,implies_true,true_and,and_true,and_self]
  refine U_1 16 0 [] rfl rfl ?_
  simp only [go_sem,jq,jj,jy,jv,jk,jx,zmU hx1.2.2.1 hsi,zln hx1.2.2.1 hsi,hx1.2.2.1.some hsi,hsi,hs0,hs1,jW,implies_true,true_and,and_true,and_self]
  refine U_t [17] rfl ?_
  simp only [go_sem,jq,jj,jy,jv,jk,jx,zmU hx1.2.2.1 hsi,zln hx1.2.2.1 hsi,hx1.2.2.1.some hsi,hsi,hs0,hs1,jW,implies_true,true_and,and_true,and_self]
  refine U_d ?_
  refine Wk ?_
  exact ⟨w,m,u,rfl,ow,om,ou,fun e=>by have:=hw e;rw [hR] at this;exact this⟩
def zFE:POption:=⟨0,0,0,[]⟩
def zFF (ready arr:Int) (ms:List Int):Int:=ms.foldl (fun acc m=>IntKind.i64.wrap (acc - m)) (IntKind.i64.wrap (arr - ready))
def zFG (x:zOw) (a:DCall) (r st:List Int) (start:Int):POption × Bool :=
 (⟨start,zEh x.chart (zFz x a) r st,zFF a.ready (zEh x.chart (zFz x a) r st) (minL x.chart (zFz x a) r r.length),zEl x.chart a.ship (zFz x a) a.src r st⟩,decide (zEh x.chart (zFz x a) r st≤2880))
def zFH (x:zOw) (a:DCall) (r:List Int) (start:Int):POption × Bool:=match zFx x.forecast x.chart (zFz x a) a.src r start with
 | none=>(zFE,false)
 | some st=>zFG x a r st start
def zFI (h:Hp) (F:POption × Bool) (v:Value) (h':Hp):Prop:=∃ q:DOption,v=.tuple #[q.v,.bool F.2]∧Con.con q=F.1∧Enc.ok h' q∧Mine h h' q
theorem zFJ {h h':Hp}:∃ q:DOption,q.v=.agg #[.int .i64 0,.int .i64 0,.int .i64 0,.slice none 0 0]∧Con.con q=zFE∧Enc.ok h' q∧Mine h h' q:=⟨⟨0,0,0,⟨none,0,[]⟩⟩,rfl,rfl,⟨i64z,i64z,i64z,znp⟩,(Mine.nil:Mine h h' (⟨none,0,[]⟩:Sl DPassage))⟩
theorem zFK {a b:Int} {l:List Int}:I64 (zFF a b l):=by
 unfold zFF
 have key:∀ {l:List Int} {z:Int},I64 z→I64 (l.foldl (fun acc m=>IntKind.i64.wrap (acc - m)) z):=fun {l}=>by
  induction l with
  | nil=>exact fun h=>h
  | cons x l ih=>exact fun _=>ih (i64w _)
 exact key (i64w _)
theorem zFL {c:zOv} {s:DShip} {r st:List Int}:I64 (zEh c s r st):=by
 have hm:I64 (-1):=by unfold I64;omega
 unfold zEh
 split
 ·split
  ·exact i64w _
  ·exact hm
 ·exact hm
theorem zFM {ready arr:Int} {l:List Int} {k:Nat} (hk:k < l.length):zFF ready arr (l.take (k+1))=IntKind.i64.wrap (zFF ready arr (l.take k) - l[k]):=by
 unfold zFF
 rw [List.take_succ_eq_append_getElem hk,List.foldl_append];rfl
theorem zFN {h h':Hp} {x:zOw} {a:DCall} {r st:List Int} {start:Int} {q:Sl DPassage} (hs:I64 start) (e:q.l=zEl x.chart a.ship (zFz x a) a.src r st) (ok:q.Ok h') (m:Mine h h' q) :
  Con.con (DOption.mk start (zEh x.chart (zFz x a) r st) (zFF a.ready (zEh x.chart (zFz x a) r st) (minL x.chart (zFz x a) r r.length)) q)=(zFG x a r st start).1∧Enc.ok h' (DOption.mk start (zEh x.chart (zFz x a) r st) (zFF a.ready (zEh x.chart (zFz x a) r st) (minL x.chart (zFz x a) r r.length)) q)∧Mine h h' (DOption.mk start (zEh x.chart (zFz x a) r st) (zFF a.ready (zEh x.chart (zFz x a) r st) (minL x.chart (zFz x a) r r.length)) q):=by
 refine ⟨?_,⟨hs,zFL,zFK,ok⟩,m⟩
 rw [zkX,show Con.con q=q.l from zEf q,e];rfl
theorem zFO (x:DHarbour) (a:DCall) (w:Sl Bool) (m:Sl Int) (u:Sl (Sl DWindow)) (r:Sl Int) (st:Int) (h:Hp) (hx:Enc.ok h x) (ha:Enc.ok h a) (hw:w.Ok h) (hm:m.Ok h) (hu:u.Ok h) (hr:r.Ok h) (hst:I64 st) (hz:r.l.length≤1048576) (hok:zAJ (Con.con x) a=true) (hv:voOk (Con.con x.forecast) (Con.con x.chart) (zFz (Con.con x) a) a.src r.l=true)
  (hl:w.l=zFg (Con.con x.chart) ((zC2 (Con.con x.chart) a.src r.l).getD []) r.l.length∧m.l=minL (Con.con x.chart) (zFz (Con.con x) a) r.l r.l.length∧u.l.map (·.l)=zFh (Con.con x.forecast) (Con.con x.chart) (zFz (Con.con x) a) r.l r.l.length) :
  Ct jV 155 [x.v,a.v,.agg #[w.val,m.val,u.val],r.val,.int .i64 st] h (zFI h (zFH (Con.con x) a r.l st)):=by
 obtain ⟨hfo,hch,⟨hsi,hsh,hso⟩,hs0,hs1,_⟩:=zFA hok
 obtain ⟨l1,l2,l3⟩:=hl
 have hwn:w.l.length=r.l.length:=by rw [l1];exact rmap_len
 have hmn:m.l.length=r.l.length:=by rw [l2];exact rmap_len
 have hun:u.l.length=r.l.length:=by have:=congrArg List.length l3;rwa [List.length_map,zFh,rmap_len] at this
 have hr0:0 < r.l.length:=by
  rw [voOk,jJ,decide_eq_true_eq] at hv;exact hv.2
 have hS:zFn w.l m.l (u.l.map (·.l)) st=zFx (Con.con x.forecast) (Con.con x.chart) (zFz (Con.con x) a) a.src r.l st:=by
  rw [zFx,if_pos hv,l1,l2,l3]
 refine zdn (fun A W=>by simp) Tryz.func155 rfl rfl (by simp) fun W0=>?_
 refine Wk ?_
 refine zkr (zFv w m u st _ hw hm hu hst (by omega) (by omega) (by omega) (by omega)) rfl ?_
 rintro v h1 le1 ⟨q,rfl,eq,okq⟩
 rw [hS] at eq
 rw [hS,zFH,show (Con.con x).forecast=Con.con x.forecast from rfl,show (Con.con x).chart=Con.con x.chart from rfl]
 have hx1:Enc.ok h1 x:=Enc.mono le1 hx
 have hr1:=hr.mono le1
 have hm1:=hm.mono le1
 cases hsl:zFx (Con.con x.forecast) (Con.con x.chart) (zFz (Con.con x) a) a.src r.l st with
 | none =>
  refine Evs ?_
  refine Wk ?_
  refine zc9 rfl (fun hz=>?_) (fun hz=>?_)
  case refine_2=>cases hz
  refine Wk ?_
  obtain ⟨z,hz1,hz2⟩:=zFJ (h:=h) (h':=h1)
  rw [← hz1]
  exact ⟨z,rfl,hz2⟩
 | some sl =>
  rw [hsl] at eq
  have eq:q.l=sl:=eq
  refine Evs ?_
  refine Wk ?_
  refine zc9 rfl (fun hzz=>?_) (fun hzz=>?_)
  ·cases hzz
  repeat' first|refine Wa ?_|(simp only [go_sem,jq,jj,jy,jv,jk,jx,zmU hx1.2.2.1 hsi,zln hx1.2.2.1 hsi,hx1.2.2.1.some hsi,hsi,hs0,hs1,jW,implies_true,true_and,and_true,and_self];try rfl)|refine Wb ?_|fail
  refine zkr (zEt x.chart a.ship x.fleet.l[a.ship.toNat] a.src r q _ hx1.2.1 ha.1 (hx1.2.2.1.el hsi) ha.2.1 hr1 okq hz) rfl ?_
  rintro v h2 le2 ⟨p,rfl,ep,okp,mp⟩
  have hx2:Enc.ok h2 x:=Enc.mono le2 hx1
  have hr2:=hr1.mono le2
  have hq2:=okq.mono le2
  have hm2:=hm1.mono le2
  have hle2:=Hp.le_trans le1 le2
  repeat' first|refine Wa ?_|refine zhF (fun _=>zEs x.chart x.fleet.l[a.ship.toNat] r q _ hx2.2.1 (hx2.2.2.1.el hsi) hr2 hq2) ?_|(simp only [go_sem,jq,jj,jy,jv,jk,jx];try rfl)|refine Wb ?_|fail
  have hml:=hm2.max
  refine zm1 (ι:=Nat) (fun i=>⟨[(10,true,.c (.p 3 0)),(11,true,.c (.v (.bool false))),(16,true,.c (.p 5 0)),(60,true,.c (.v m.val)),(61,true,.c (.v (.int .i64 m.l.length))),(62,true,.c (.v (.int .i64 i)))],[(0,.box 58 [.v (.int .i64 x.forecast.tide.mean),.v x.forecast.tide.parts.val,.v x.forecast.surges.val,.v x.chart.points.val,.v x.chart.segments.val,.v x.fleet.val,.v (.int .i64 x.regime.gap),.v (.bool x.regime.noMeet),.v (.int .i64 x.crew.tugs),.v (.int .i64 x.crew.pilots),.v (.int .i64 x.crew.rest),.v x.crew.moves.val]),(1,.box 90 [.v (.int .i64 a.ship),.v (.int .i64 a.src),.v (.int .i64 a.dst),.v (.int .i64 a.ready),.v (.int .i64 a.due)]),(2,.box 203 [.v w.val,.v m.val,.v u.val]),(3,.box 149 [.v (.int .i64 0),.v (.int .i64 0),.v (.int .i64 0),.v (.slice none 0 0)]),(4,.box 168 [.v (.string x.fleet.l[a.ship.toNat].name),.v (.int .i64 x.fleet.l[a.ship.toNat].length),.v (.int .i64 x.fleet.l[a.ship.toNat].draught),.v (.int .i64 x.fleet.l[a.ship.toNat].line),.v (.int .i64 x.fleet.l[a.ship.toNat].tugs),.v (.bool x.fleet.l[a.ship.toNat].slow)]),(5,.box 149 [.v (.int .i64 st),.v (.int .i64 (zEh (Con.con x.chart) x.fleet.l[a.ship.toNat] r.l q.l)),.v (.int .i64 (zFF a.ready (zEh (Con.con x.chart) x.fleet.l[a.ship.toNat] r.l q.l) (m.l.take i))),.v p.val])],h2,6⟩) (fun i=>i≤m.l.length) (fun i=>m.l.length - i) 0 (Nat.zero_le _) [0,1,2,3,4,5] ?_ ?_
  ·refine Evs ?_
   exact Gk
  intro k hk
  refine Wk ?_
  refine zc9 rfl (fun hd=>?_) (fun hd=>?_)
  ·have hlt:=zjH hd
   repeat' first|refine Wa ?_|(simp only [go_sem,jq,jj,jy,jv,jk,jx,zkR hm2 hlt,hm2.some hlt,hlt,jW];try rfl)|refine Wb ?_|fail
   refine ⟨k+1,[0,1,2,3,4,5],hlt,by omega,?_⟩
   refine Evs ?_
   rw [zFM hlt]
   exact Gi (zjA hlt (by omega))
  ·have hge:=zjI hd
   obtain rfl:k=m.l.length:=by omega
   rw [List.take_length,l2]
   refine Wk ?_
   refine zyW rfl ?_
   refine U_t [0,1,2,3] rfl ?_
   refine Evs ?_
   refine U_1 4 0 [3,2,1] rfl rfl ?_
   refine Evs ?_
   refine ⟨rfl,?_⟩
   refine U_t [5] rfl ?_
   refine Evs ?_
   refine U_d ?_
   refine Wk ?_
   rw [← hsh,eq]
   obtain ⟨k1,k2,k3⟩:=zFN (h:=h) (x:=Con.con x) (a:=a) (r:=r.l) (st:=sl) (start:=st) (q:=p) hst (by rw [ep,hsh,eq];rfl) okp (mp.back le1)
   exact ⟨_,rfl,k1,k2,k3⟩
def zOT (x:zOw) (a:DCall) (r:List Int) (st:Int):POption × Bool:=if (zAJ x a && In st a.ready a.due && cvOk x a r && (zFH x a r st).2)=true then zFH x a r st else (zFE,false)
theorem zOU {x:zOw} {a:DCall} {r:List Int} {st:Int} (h:(zAJ x a && In st a.ready a.due && cvOk x a r && (zFH x a r st).2)=false):zOT x a r st=(zFE,false):=by rw [zOT,if_neg (by rw [h];exact Bool.false_ne_true)]
theorem zOV {h h':Hp} {F:POption × Bool} (hF:F=(zFE,false)) {v:Value} (hv:v=.tuple #[.agg #[.int .i64 0,.int .i64 0,.int .i64 0,.slice none 0 0],.bool false]):zFI h F v h':=by
 subst hF hv
 obtain ⟨z,hz1,hz2⟩:=zFJ (h:=h) (h':=h')
 exact ⟨z,by rw [hz1],hz2⟩
theorem zOW (x:DHarbour) (a:DCall) (r:Sl Int) (st:Int) (h:Hp) (hx:Enc.ok h x) (ha:Enc.ok h a) (hr:r.Ok h) (hst:I64 st) (hz:r.l.length≤1048576):Ct jV 156 [x.v,a.v,r.val,.int .i64 st] h (zFI h (zOT (Con.con x) a r.l st)):=by
 refine zdn (fun A W=>by simp) Tryz.func156 rfl rfl (by simp) fun W0=>?_
 repeat' first|refine Wa ?_|refine zhF (fun _=>zAM x a _ hx ha) ?_|refine zhF (fun _=>zzl _ _ _ _) ?_|(simp only [go_sem,jq,jj,jy,jv,jk,jx];try rfl)|refine Wb ?_|fail
 refine zc9 rfl (fun hq=>?_) (fun hq=>?_)
 ·refine Wk ?_
  refine zOV (zOU ?_) rfl
  rw [jQ,Bool.not_eq_true',Bool.not_eq_true'] at hq
  rcases hq with hq|hq
  ·rw [show zAJ (Con.con x) a=false from hq];rfl
  ·rw [show In st a.ready a.due=false from hq,Bool.and_false];rfl
 rw [jp,Bool.not_eq_false',Bool.not_eq_false'] at hq
 obtain ⟨hok,hin⟩:=hq
 have hok:zAJ (Con.con x) a=true:=hok
 have hin:In st a.ready a.due=true:=hin
 refine Wk ?_
 refine zkr (zFD x a r _ hx ha hr hz hok) rfl ?_
 rintro v h1 le1 ⟨w,m,u,rfl,ow,om,ou,hl⟩
 cases hcv:cvOk (Con.con x) a r.l with
 | false =>
  refine Wk ?_
  refine zc9 rfl (fun hq=>?_) (fun hq=>?_)
  case refine_2=>cases hq
  refine Wk ?_
  exact zOV (zOU (by rw [hcv,Bool.and_false];rfl)) rfl
 | true =>
  have hl:=hl hcv
  have hv:voOk (Con.con x.forecast) (Con.con x.chart) (zFz (Con.con x) a) a.src r.l=true:=by
   rw [cvOk,jJ] at hcv;exact hcv.2
  have hx1:Enc.ok h1 x:=Enc.mono le1 hx
  have ha1:Enc.ok h1 a:=Enc.mono le1 ha
  refine Wk ?_
  refine zc9 rfl (fun hq=>?_) (fun hq=>?_)
  ·cases hq
  refine Wk ?_
  refine zkr (zFO x a w m u r st _ hx1 ha1 ow om ou (hr.mono le1) hst hz hok hv hl) rfl ?_
  rintro v h2 le2 ⟨q,rfl,eq,okq,mq⟩
  cases hb:(zFH (Con.con x) a r.l st).2 with
  | false =>
   refine Wk ?_
   refine zc9 rfl (fun hq=>?_) (fun hq=>?_)
   case refine_2=>cases hq
   refine Wk ?_
   exact zOV (zOU (by rw [hb,Bool.and_false])) rfl
  | true =>
   refine Wk ?_
   refine zc9 rfl (fun hq=>?_) (fun hq=>?_)
   ·cases hq
   refine Wk ?_
   have hF:zOT (Con.con x) a r.l st=zFH (Con.con x) a r.l st:=by rw [zOT,hok,hin,hcv,hb];rfl
   rw [hF]
   exact ⟨q,by rw [hb],eq,okq,mq.back le1⟩
def zOX (x:zOw) (a:DCall) (o:POption):Bool:=(zOT x a (o.pas.map (·.seg)) o.start).2 && zOQ (zOT x a (o.pas.map (·.seg)) o.start).1 o
theorem zOY {l:List DPassage} {k:Nat} (hk:k < l.length):((l.take (k+1)).map (·.seg))=((l.take k).map (·.seg)) ++ [l[k].seg]:=by rw [List.take_succ_eq_append_getElem hk,List.map_append];rfl
theorem zOZ (x:DHarbour) (a:DCall) (q:DOption) (h:Hp) (hx:Enc.ok h x) (ha:Enc.ok h a) (hq:Enc.ok h q) (hz:Sz.sz (Con.con q)≤1048576):Ct jV 105 [x.v,a.v,q.v] h fun v h'=>v=.bool (zOX (Con.con x) (Con.con a) (Con.con q))∧h'=h:=by
 have hp:=hq.2.2.2
 have hl:=hp.max
 have hz2:q.pas.l.length≤1048576:=by
  have h2:Sz.sz (Con.con q)=Sz.sz (Con.con q.pas):=rfl
  rw [h2] at hz
  have:=znx hz
  rwa [znA] at this
 refine Ct.forget ?_
 refine zdn (fun A W=>by simp) Tryz.func105 rfl rfl (by simp) fun W0=>?_
 refine Wk ?_
 refine zm1 (ι:=Nat) (fun k=>⟨[(3,true,.c (.p 0 0)),(4,true,.c (.p 1 0)),(5,true,.c (.p 2 0)),(6,true,.c (.v (.bool false))),(7,true,.c (.s 3)),(14,true,.c (.v q.pas.val)),(15,true,.c (.v (.int .i64 q.pas.l.length))),(16,true,.c (.v (.int .i64 k)))],[(0,.box 58 [.v (.int .i64 x.forecast.tide.mean),.v x.forecast.tide.parts.val,.v x.forecast.surges.val,.v x.chart.points.val,.v x.chart.segments.val,.v x.fleet.val,.v (.int .i64 x.regime.gap),.v (.bool x.regime.noMeet),.v (.int .i64 x.crew.tugs),.v (.int .i64 x.crew.pilots),.v (.int .i64 x.crew.rest),.v x.crew.moves.val]),(1,.box 90 [.v (.int .i64 a.ship),.v (.int .i64 a.src),.v (.int .i64 a.dst),.v (.int .i64 a.ready),.v (.int .i64 a.due)]),(2,.box 149 [.v (.int .i64 q.start),.v (.int .i64 q.arr),.v (.int .i64 q.cost),.v q.pas.val]),(3,.row 3 1 k (((q.pas.l.take k).map (·.seg)).flatMap Enc.enc))],h,4⟩) (fun k=>k≤q.pas.l.length) (fun k=>q.pas.l.length - k) 0 (Nat.zero_le _) [0,1,2,3] ?_ ?_
 ·refine Evs ?_
  exact Gk
 intro k hk
 refine Wk ?_
 refine zc9 rfl (fun hd=>?_) (fun hd=>?_)
 ·have hlt:=zjH hd
  repeat' first|refine Wa ?_|(simp only [go_sem,jq,jj,jy,jv,jk,jx,zkV hp hlt,hp.some hlt,hlt,jW];try rfl)|refine Wb ?_|fail
  refine ⟨by simp only [maxLen];omega,by omega,?_⟩
  refine Wk ?_
  refine ⟨k+1,[0,1,2,6],hlt,by omega,?_⟩
  refine Evs ?_
  rw [zOY hlt,List.flatMap_append]
  exact Gi (zjA hlt (by omega))
 ·have hge:=zjI hd
  obtain rfl:k=q.pas.l.length:=by omega
  rw [List.take_length]
  refine zc6 ?_
  refine Evs ?_
  refine zCP 3 (q.pas.l.map (·.seg)) rfl rfl (List.length_map ..).symm rfl fun s h1 e1 R1 f1 le1 k1=>?_
  have le1:h.le h1:=le1
  have ok1:s.Ok h1:=R1.ok (by decide) fun y hy=>by
   rw [e1] at hy
   obtain ⟨p,hp1,rfl⟩:=List.mem_map.1 hy
   exact (hp.2.2.2.1 p hp1).2.1
  refine Wk ?_
  refine zkr (zOW x a s q.start _ (Enc.mono le1 hx) (Enc.mono le1 ha) ok1 hq.1 (by rw [e1,List.length_map];exact hz2)) rfl ?_
  rintro v h2 le2 ⟨z,rfl,ez,okz,mz⟩
  have hq2:Enc.ok h2 q:=Enc.mono (Hp.le_trans le1 le2) hq
  repeat' first|refine Wa ?_|refine zhF (fun _=>zOS z q _ okz hq2) ?_|(simp only [go_sem,jq,jj,jy,jv,jk,jx];try rfl)|refine Wb ?_|fail
  rw [ez,e1,zOX,show (Con.con q).pas=q.pas.l from zEf _]
  rfl
theorem zFS {α:Type} [Enc α] [Foot α] {h h' h2:Hp} {l:List α} (hle:h'.le h2) (hok:∀ x ∈ l,Enc.ok h' x) (H:Mines h h' l):Mines h h2 l :=
 ⟨fun x hx=>(Foot.loc (hok x hx) (H.1 x hx) fun b _ o ho=>hle b o ho).2,H.2.1,H.2.2⟩
def zFT (opt:Int→POption × Bool) (due:Int):Nat→Int→List POption→List POption
 | 0,_,acc=>acc
 | f+1,s,acc=>if s≤due∧acc.length < 8 then zFT opt due f (IntKind.i64.wrap (s+15)) (if (opt s).2=true then acc ++ [(opt s).1] else acc) else acc
def zFU (x:zOw) (a:DCall):List POption:=if zAJ x a=true then (match zE5 x.chart a.src a.dst with|none=>[]|some r=>zFT (zFH x a r) a.due 200 a.ready []) else []
theorem zFV {g:List DSegment} {a:Int} {r r2:List Int}:∀ {k:Nat},(∀ i,i < k→r.getD i 0=r2.getD i 0)→ptsK g a r k=ptsK g a r2 k
 | 0,_=>rfl
 | k+1,h=>by rw [ptsK,ptsK,zFV (fun i hi=>h i (by omega)),h k (by omega)]
theorem zFW {g:List DSegment} {a to:Int}:∀ {f:Nat} {pts0 r0:List Int},ptsK g a r0 r0.length=some pts0→∀ r ∈ zEK g to f pts0 r0,∃ pts,ptsK g a r r.length=some pts∧pts.getLast?.getD 0=to
 | 0,pts0,r0,h0,r,hr=>by cases hr
 | f+1,pts0,r0,h0,r,hr=>by
  unfold zEK at hr
  split at hr
  ·rename_i hl
   rw [List.mem_singleton.1 hr]
   exact ⟨pts0,h0,hl⟩
  ·obtain ⟨i,hi,hr⟩:=List.mem_flatMap.1 hr
   have hi:=List.mem_range.1 hi
   unfold wkAt at hr
   split at hr
   ·rename_i hc
    refine zFW (f:=f) ?_ r hr
    have h1:ptsK g a (r0 ++ [(i:Int)]) r0.length=some pts0:=by
     rw [zFV (r2:=r0) (fun j hj=>by rw [List.getD_eq_getElem?_getD,List.getElem?_append_left hj,← List.getD_eq_getElem?_getD]),h0]
    rw [List.length_append,List.length_singleton,ptsK,h1,Option.bind_some]
    have hg:(r0 ++ [(i:Int)]).getD r0.length 0=(i:Int):=by simp
    rw [hg,zC0,if_pos (by omega),jW]
    have hc1:¬ (zCZ (g.getD i dG) (pts0.getLast?.getD 0) < 0∨zCZ (g.getD i dG) (pts0.getLast?.getD 0) ∈ pts0):=by
     rw [not_or]
     have:=hc.1
     unfold zEJ at this
     exact ⟨by omega,hc.2⟩
    rw [if_neg hc1];rfl
   ·cases hr
theorem zFX {x:DHarbour} {a:DCall} {r:List Int} (hok:zAJ (Con.con x) a=true) (hb:zE5 (Con.con x.chart) a.src a.dst=some r):cvOk (Con.con x) a r=true:=by
 obtain ⟨hfo,hch,⟨hsi,hsh,hso⟩,hs0,hs1,ha0,ha1,hb0,hb1,hne,_⟩:=zFA hok
 have hm:r ∈ zE0 (Con.con x.chart) a.src a.dst:=zE6 (acc:=none) (fun y hy=>by cases hy) (fun y hy=>hy) hb
 rw [zE0] at hm
 split at hm
 ·rename_i hin
  obtain ⟨pts,h1,h2⟩:=zFW (a:=a.src) (pts0:=[a.src]) (r0:=[]) rfl r hm
  have hlen:=zDw h1
  have hpts:zC2 (Con.con x.chart) a.src r=some pts:=by
   rw [zDL hch,zDH (by rw [zC6];exact ⟨ha0,ha1⟩),h1]
  have hR:zDJ (Con.con x.chart) a.src r=true:=by rw [zDJ,hpts];rfl
  have h0:0 < r.length:=by
   rcases Nat.eq_zero_or_pos r.length with e|e
   ·exfalso
    rw [e,ptsK] at h1
    rw [← Option.some.inj h1] at h2
    exact hne h2
   ·exact e
  have hld:zFy (Con.con x) a r=true:=by
   rw [zFy,show (Con.con x).chart=Con.con x.chart from rfl,hpts]
   dsimp only
   rw [← zDz hlen,h2,decide_eq_true rfl]
  rw [cvOk,hld,show (Con.con x).forecast=Con.con x.forecast from rfl,show (Con.con x).chart=Con.con x.chart from rfl,zFB hok,hR,decide_eq_true h0];rfl
 ·cases hm
theorem zFY {x:zOw} {a:DCall} (h:zAJ x a=false):zFU x a=[]:=by rw [zFU,if_neg (by rw [h];exact Bool.false_ne_true)]
theorem zFZ {opt:Int→POption × Bool} {due:Int}:∀ {f:Nat} {s:Int} {acc:List POption},¬ (s≤due∧acc.length < 8)→zFT opt due f s acc=acc
 | 0,_,_,_=>rfl
 | f+1,s,acc,h=>by rw [zFT,if_neg h]
theorem zF0 (l:List DOption):(l.map Con.con).length=l.length:=List.length_map ..
set_option maxRecDepth 30000 in
theorem zF1 (x:DHarbour) (a:DCall) (h:Hp) (hx:Enc.ok h x) (ha:Enc.ok h a):Ct jV 103 [x.v,a.v] h fun v h'=>∃ s:Sl DOption,v=s.val∧s.l.map Con.con=zFU (Con.con x) a∧s.Ok h'∧Mine h h' s:=by
 refine zdn (fun A W=>by simp) Tryz.func103 rfl rfl (by simp) fun W0=>?_
 repeat' first|refine Wa ?_|refine zhF (fun _=>zAM x a _ hx ha) ?_|(simp only [go_sem,jq,jj,jy,jv,jk,jx];try rfl)|refine Wb ?_|fail
 refine zc9 rfl (fun hq=>?_) (fun hq=>?_)
 ·rw [Bool.not_eq_true'] at hq
  rw [zFY (x:=Con.con x) (a:=a) hq]
  refine Wk ?_
  exact ⟨⟨none,0,[]⟩,rfl,rfl,znp,Mine.nil⟩
 rw [Bool.not_eq_false'] at hq
 have hok:zAJ (Con.con x) a=true:=hq
 obtain ⟨_,_,_,_,_,_,_,_,_,_,hrd0,hrd1,hrd2,hdue⟩:=zFA hok
 refine Wk ?_
 refine zkr (zFd x.chart a.src a.dst _ hx.2.1 ha.2.1) rfl ?_
 rintro v h1 le1 ⟨r,rfl,er,okr⟩
 have hx1:Enc.ok h1 x:=Enc.mono le1 hx
 have ha1:Enc.ok h1 a:=Enc.mono le1 ha
 have hrz:r.l.length≤1048576:=by
  rw [er]
  cases hb:zE5 (Con.con x.chart) a.src a.dst with
  | none=>exact Nat.zero_le _
  | some y=>have:=zE7 hb;show y.length≤_;omega
 refine Wk ?_
 refine zkr (zFD x a r _ hx1 ha1 okr hrz hok) rfl ?_
 rintro v h2 le2 ⟨w,m,u,rfl,ow,om,ou,hl⟩
 cases hb:zE5 (Con.con x.chart) a.src a.dst with
 | none =>
  have hF:zFU (Con.con x) a=[]:=by rw [zFU,if_pos hok,show (Con.con x).chart=Con.con x.chart from rfl,hb]
  rw [hF]
  refine Wk ?_
  refine zc9 rfl (fun hq=>?_) (fun hq=>?_)
  case refine_2=>simp at hq
  refine Wk ?_
  exact ⟨⟨none,0,[]⟩,rfl,rfl,znp,Mine.nil⟩
 | some rl =>
 rw [hb] at er
 have er:r.l=rl:=er
 have hcv:cvOk (Con.con x) a r.l=true:=by rw [er];exact zFX hok hb
 have hl:=hl hcv
 have hv:voOk (Con.con x.forecast) (Con.con x.chart) (zFz (Con.con x) a) a.src r.l=true:=by
  rw [cvOk,jJ] at hcv;exact hcv.2
 have le12:=Hp.le_trans le1 le2
 have hx2:Enc.ok h2 x:=Enc.mono le2 hx1
 have ha2:Enc.ok h2 a:=Enc.mono le2 ha1
 have okr2:=okr.mono le2
 rw [hcv]
 refine Wk ?_
 refine zc9 rfl (fun hq=>?_) (fun hq=>?_)
 ·simp at hq
 refine Wk ?_
 have hF:zFU (Con.con x) a=zFT (zFH (Con.con x) a r.l) a.due 200 a.ready []:=by
  rw [zFU,if_pos hok,show (Con.con x).chart=Con.con x.chart from rfl,hb,er]
 obtain ⟨G,hG⟩:∃ G,zFT (zFH (Con.con x) a r.l) a.due 200 a.ready []=G:=⟨_,rfl⟩
 rw [hF,hG]
 refine zm1 (ι:=Nat × Int × List DOption × Hp) (fun i=>⟨[(2,true,.c (.p 0 0)),(3,true,.c (.p 1 0)),(4,true,.c (.v (.slice none 0 0))),(5,true,.c (.v r.val)),(7,true,.c (.p 2 0)),(9,true,.c (.s 3)),(10,true,.c (.v (.int .i64 i.2.1)))],[(0,.box 58 [.v (.int .i64 x.forecast.tide.mean),.v x.forecast.tide.parts.val,.v x.forecast.surges.val,.v x.chart.points.val,.v x.chart.segments.val,.v x.fleet.val,.v (.int .i64 x.regime.gap),.v (.bool x.regime.noMeet),.v (.int .i64 x.crew.tugs),.v (.int .i64 x.crew.pilots),.v (.int .i64 x.crew.rest),.v x.crew.moves.val]),(1,.box 90 [.v (.int .i64 a.ship),.v (.int .i64 a.src),.v (.int .i64 a.dst),.v (.int .i64 a.ready),.v (.int .i64 a.due)]),(2,.box 203 [.v w.val,.v m.val,.v u.val]),(3,.row 149 4 i.2.2.1.length (i.2.2.1.flatMap Enc.enc))],i.2.2.2,4⟩) (fun i=>zFT (zFH (Con.con x) a r.l) a.due i.1 i.2.1 (i.2.2.1.map Con.con)=G∧(0≤i.2.1∧i.2.1≤2895)∧a.due < i.2.1+15 * i.1∧(∀ y ∈ i.2.2.1,Enc.ok i.2.2.2 y)∧Mines h i.2.2.2 i.2.2.1∧h2.le i.2.2.2) (fun i=>i.1) (200,a.ready,[],h2) ⟨hG,⟨hrd0,by simp only;omega⟩,by simp only;omega,fun y hy=>(by cases hy),Mines.nil,Hp.le_refl _⟩ [0,1,2,3] ?_ ?_
 ·refine Evs ?_
  exact Gk
 rintro ⟨f,s,acc,hk⟩ ⟨hgo,⟨hsl0,hsl1⟩,hfu,hacok,hacm,hle⟩
 simp only at hgo hsl0 hsl1 hfu hacok hacm hle
 have hxk:Enc.ok hk x:=Enc.mono hle hx2
 have hak:Enc.ok hk a:=Enc.mono hle ha2
 have hs64:I64 s:=by unfold I64;omega
 refine Wk ?_
 refine zc9 rfl (fun hd=>?_) (fun hd=>?_)
 ·have hd1:=Bool.and_eq_true_iff.1 hd
  have hc1:s≤a.due:=of_decide_eq_true hd1.1
  have hc2:acc.length < 8:=by have:=of_decide_eq_true hd1.2;omega
  obtain ⟨f,rfl⟩:∃ g,f=g+1:=⟨f - 1,by omega⟩
  have hw15:IntKind.i64.wrap (s+15)=s+15:=by rw [zjz (by omega)]
  refine Wk ?_
  refine zkr (zFO x a w m u r s _ hxk hak (ow.mono hle) (om.mono hle) (ou.mono hle) (okr2.mono hle) hs64 hrz hok hv hl) rfl ?_
  rintro v h3 le3 ⟨z,rfl,ez,okz,mz⟩
  have hle3:=Hp.le_trans hle le3
  have hle03:=Hp.le_trans le12 hle3
  cases hbo:(zFH (Con.con x) a r.l s).2 with
  | false =>
   refine Wk ?_
   refine zc9 rfl (fun hq=>?_) (fun hq=>?_)
   ·cases hq
   refine Wk ?_
   refine ⟨(f,IntKind.i64.wrap (s+15),acc,h3),[0,1,2,3],⟨?_,by simp only [hw15];omega,by simp only [hw15];omega,fun y hy=>Enc.mono le3 (hacok y hy),zFS le3 hacok hacm,hle3⟩,by simp only;omega,?_⟩
   ·rw [← hgo,zFT,if_pos ⟨hc1,by rw [zF0];exact hc2⟩,hbo,if_neg Bool.false_ne_true]
   refine Evs ?_
   exact Gk
  | true =>
   refine Wk ?_
   refine zc9 rfl (fun hq=>?_) (fun hq=>?_)
   case refine_2=>cases hq
   refine zc4 rfl ?_
   refine Evs ?_
   refine ⟨by simp only [maxLen];omega,by omega,?_⟩
   refine Wk ?_
   refine ⟨(f,IntKind.i64.wrap (s+15),acc ++ [z],h3),[0,1,2,6],⟨?_,by simp only [hw15];omega,by simp only [hw15];omega,fun y hy=>?_,Mines.snoc hacm hacok le3 (Hp.le_trans le12 hle) mz,hle3⟩,by simp only;omega,?_⟩
   ·rw [← hgo,zFT,if_pos ⟨hc1,by rw [zF0];exact hc2⟩,hbo,if_pos rfl,List.map_append,← ez];rfl
   ·rcases List.mem_append.1 hy with hy|hy
    ·exact Enc.mono le3 (hacok y hy)
    ·rw [List.mem_singleton.1 hy];exact okz
   refine Evs ?_
   simp only [List.flatMap_append,List.length_append]
   exact Gk
 ·have hstop:¬ (s≤a.due∧(acc.map Con.con).length < 8):=fun H=>by
   rw [zF0] at H
   have h1:decide (s≤a.due)=true:=decide_eq_true H.1
   have h2:decide (((acc.length:Nat):Int) < 8)=true:=decide_eq_true (by omega)
   have:(decide (s≤a.due) && decide (((acc.length:Nat):Int) < 8))=false:=hd
   rw [h1,h2] at this;cases this
  rw [← hgo,zFZ hstop]
  refine zc6 ?_
  refine Evs ?_
  refine zl5 3 acc rfl rfl rfl rfl (by decide) hacok h (Hp.le_trans le12 hle) hacm fun q h' e2 e3 e4 e5=>?_
  refine Wk ?_
  exact ⟨q,rfl,by rw [e2],e3,e5⟩
def zM3 (x:zOw) (a:DCall):Int:=if zzv (zFU x a) < 0 then -1 else ((zFU x a).getD (zzv (zFU x a)).toNat zFE).cost
theorem zF3 (l:List POption):(l=[]∧zzv l=-1)∨(0≤zzv l∧zzv l < l.length):=by
 unfold zzv
 rcases zzu (l.map (·.cost)) l.length with ⟨h,e⟩|h
 ·exact .inl ⟨List.length_eq_zero_iff.1 h,e⟩
 ·exact .inr h
theorem zM4 {s:Sl DOption} {l:List POption} (h:s.l.map Con.con=l) {i:Nat} (hi:i < s.l.length):(l.getD i zFE).cost=s.l[i].cost:=by
 subst h
 simp [List.getD_eq_getElem?_getD,hi];rfl
theorem zF4 (x:DHarbour) (a:DCall) (h:Hp) (hx:Enc.ok h x) (ha:Enc.ok h a):Ct jV 103 [x.v,a.v] h fun v h'=>∃ s:Sl DOption,v=s.val∧Con.con s=zFU (Con.con x) (Con.con a)∧s.Ok h'∧Mine h h' s:=zF1 x a h hx ha
theorem zM5 (x:DHarbour) (a:DCall) (h:Hp) (hx:Enc.ok h x) (ha:Enc.ok h a):Ct jV 52 [x.v,a.v] h fun v h'=>v=.int .i64 (zM3 (Con.con x) (Con.con a))∧h'=h:=by
 refine Ct.forget ?_
 refine zdn (fun A W=>by simp) Tryz.func52 rfl rfl (by simp) fun W0=>?_
 refine Wk ?_
 refine zkr (zF4 x a _ hx ha) rfl ?_
 rintro v h1 le1 ⟨s,rfl,es,oks,ms⟩
 have hl:=oks.max
 have es2:s.l.map Con.con=zFU (Con.con x) (Con.con a):=es
 have hln:s.l.length=(zFU (Con.con x) (Con.con a)).length:=by rw [← es2,List.length_map]
 refine Wk ?_
 refine zc9 rfl (fun hq=>?_) (fun hq=>?_)
 ·have h0:s.l.length=0:=by have:=eq_of_beq hq;omega
  refine Wk ?_
  rcases zF3 (zFU (Con.con x) (Con.con a)) with ⟨_,e⟩|e
  ·rw [zM3,e];rfl
  ·omega
 have h0:¬ s.l.length=0:=by have:=ne_of_beq_false hq;omega
 rcases zF3 (zFU (Con.con x) (Con.con a)) with ⟨e,_⟩|⟨e1,e2⟩
 ·rw [e] at hln;exact (h0 hln).elim
 obtain ⟨c,hc⟩:∃ c,zzv (zFU (Con.con x) (Con.con a))=c:=⟨_,rfl⟩
 have hF:zM3 (Con.con x) (Con.con a)=((zFU (Con.con x) (Con.con a)).getD c.toNat zFE).cost:=by rw [zM3,hc,if_neg (by omega)]
 rw [hc] at e1 e2
 have hci:c.toNat < s.l.length:=by omega
 have hc2:c < (s.l.length:Int):=by omega
 repeat' first|refine Wa ?_|refine zhF (fun _=>zM2 s _ oks) ?_|(simp only [go_sem,jq,jj,jy,jv,jk,jx];try rfl)|refine Wb ?_|fail
 rw [es,hc]
 simp only [go_sem,jq,jj,jy,jv,jk,jx,zmQ oks hci,oks.some hci,hci,e1,hc2,implies_true,true_and,and_true,and_self]
 refine Wk ?_
 rw [hF,zM4 es2 hci]
theorem zF6 {c:zOv} {ship:Int} {s:DShip} {a:Int} {r st:List Int}:(zEl c ship s a r st).length≤8:=by
 rw [zEl]
 split
 ·rename_i h
  have h1:=h.1
  rw [zEk,jJ,jJ] at h1
  obtain ⟨hC,hin,l,hl,hk,hlen,hx⟩:=zDN h1.1.1
  have:=zEO hC (zDx hk) hx
  rw [zEo];omega
 ·exact Nat.zero_le _
theorem zF7 (l:List DPassage):Sz.sz l=l.length:=by
 rw [znw]
 have:(l.map Sz.sz).sum=0:=by induction l with|nil=>rfl|cons x l ih=>rw [List.map_cons,List.sum_cons,ih];rfl
 omega
theorem zF8 {x:zOw} {a:DCall} {r:List Int} {st:Int}:Sz.sz (zFH x a r st).1≤8:=by
 show Sz.sz (zFH x a r st).1.pas≤8
 rw [zF7,zFH]
 split
 ·exact Nat.zero_le _
 ·exact zF6
theorem zF9 {opt:Int→POption × Bool} {due:Int} (ho:∀ s,Sz.sz (opt s).1≤8):∀ {f:Nat} {s:Int} {acc:List POption},(acc.length≤8∧∀ y ∈ acc,Sz.sz y≤8)→(zFT opt due f s acc).length≤8∧∀ y ∈ zFT opt due f s acc,Sz.sz y≤8
 | 0,_,_,h=>h
 | f+1,s,acc,h=>by
  unfold zFT
  split
  ·rename_i hc
   refine zF9 ho ?_
   split
   ·refine ⟨by rw [List.length_append,List.length_singleton];omega,fun y hy=>?_⟩
    rcases List.mem_append.1 hy with hy|hy
    ·exact h.2 y hy
    ·rw [List.mem_singleton.1 hy];exact ho s
   ·exact h
  ·exact h
theorem zGa {x:zOw} {a:DCall}:(zFU x a).length≤8∧∀ y ∈ zFU x a,Sz.sz y≤8:=by
 rw [zFU]
 split
 ·split
  ·exact ⟨Nat.zero_le _,fun y hy=>by cases hy⟩
  ·exact zF9 (fun s=>zF8) ⟨Nat.zero_le _,fun y hy=>by cases hy⟩
 ·exact ⟨Nat.zero_le _,fun y hy=>by cases hy⟩
theorem zGb {β:Type} [Sz β] {l:List β} {k:Nat} (h:∀ y ∈ l,Sz.sz y≤k):Sz.sz l≤l.length+l.length * k:=by
 rw [znw]
 have:(l.map Sz.sz).sum≤l.length * k:=by
  induction l with
  | nil=>simp
  | cons x l ih =>
   rw [List.map_cons,List.sum_cons,List.length_cons,Nat.add_mul,Nat.one_mul]
   have h1:=h x (List.mem_cons_self ..)
   have h2:=ih fun y hy=>h y (List.mem_cons_of_mem _ hy)
   omega
 omega
def clB (c:zOv) (r:DRegime) (p:DPassage) (b:List DPassage):Bool:=b.any fun q=>decide (zA9 c r p q ≠ 0)
theorem zGc (c:zOv) (r:DRegime) (a b:List DPassage):zBa c r a b=a.any fun p=>clB c r p b:=rfl
theorem zGd {α:Type} {f:α→Bool} {l:List α} {k:Nat} (hk:l.length≤k) (h:(l.take k).any f=false):l.any f=false:=by rwa [List.take_of_length_le hk] at h
theorem zGe (x:DChart) (r:DRegime) (a b:Sl DPassage) (h:Hp) (hx:Enc.ok h x) (hr:zAm r=true) (ha:Enc.ok h a) (hb:Enc.ok h b):Ct jV 108 [x.v,r.v,a.val,b.val] h fun v h'=>v=.bool (zBa (Con.con x) r a.l b.l)∧h'=h:=by
 have ha:a.Ok h:=ha
 have hb:b.Ok h:=hb
 have hla:=ha.max
 have hlb:=hb.max
 rw [zGc]
 refine zdn (fun A W=>by simp) Tryz.func108 rfl rfl (by simp) fun W0=>?_
 refine Wk ?_
 refine zde (ι:=Nat) (fun k=>⟨[(3,true,.c (.v b.val)),(4,true,.c (.p 0 0)),(5,true,.c (.p 1 0)),(8,true,.c (.v (.bool false))),(13,true,.c (.v a.val)),(14,true,.c (.v (.int .i64 a.l.length))),(15,true,.c (.v (.int .i64 k)))],[(0,.box 53 [.v x.points.val,.v x.segments.val]),(1,.box 55 [.v (.int .i64 r.gap),.v (.bool r.noMeet)])],h,2⟩) (fun k=>k≤a.l.length∧(a.l.take k).any (fun p=>clB (Con.con x) r p b.l)=false) (fun k=>a.l.length - k) 0 ⟨Nat.zero_le _,by simp⟩ ?_ ?_
 ·refine Evs ?_
  exact Gk
 intro k hk
 refine Wk ?_
 refine zc9 rfl (fun hd=>?_) (fun hd=>?_)
 ·have hlt:=zjH hd
  repeat' first|refine Wa ?_|(simp only [go_sem,jq,jj,jy,jv,jk,jx,zkV ha hlt,ha.some hlt,hlt,jW];try rfl)|refine Wb ?_|fail
  refine zde (ι:=Nat) (fun j=>⟨[(3,true,.c (.v b.val)),(4,true,.c (.p 0 0)),(5,true,.c (.p 1 0)),(8,true,.c (.v (.bool false))),(10,true,.c (.p 2 0)),(13,true,.c (.v a.val)),(14,true,.c (.v (.int .i64 a.l.length))),(15,true,.c (.v (.int .i64 k))),(19,true,.c (.v b.val)),(20,true,.c (.v (.int .i64 b.l.length))),(21,true,.c (.v (.int .i64 j)))],[(0,.box 53 [.v x.points.val,.v x.segments.val]),(1,.box 55 [.v (.int .i64 r.gap),.v (.bool r.noMeet)]),(2,.box 154 [.v (.int .i64 a.l[k].ship),.v (.int .i64 a.l[k].seg),.v (.bool a.l[k].toward),.v (.int .i64 a.l[k].start),.v (.int .i64 a.l[k].fin)])],h,3⟩) (fun j=>j≤b.l.length∧(b.l.take j).any (fun q=>decide (zA9 (Con.con x) r a.l[k] q ≠ 0))=false) (fun j=>b.l.length - j) 0 ⟨Nat.zero_le _,by simp⟩ ?_ ?_
  ·refine Evs ?_
   exact Gk
  intro j hj
  refine Wk ?_
  refine zc9 rfl (fun hd2=>?_) (fun hd2=>?_)
  ·have hltj:=zjH hd2
   repeat' first|refine Wa ?_|refine zhF (fun _=>zBm x r a.l[k] b.l[j] _ hx hr (ha.el hlt) (hb.el hltj)) ?_|(simp only [go_sem,jq,jj,jy,jv,jk,jx,zkV hb hltj,hb.some hltj,hltj,jW];try rfl)|refine Wb ?_|fail
   refine zc9 rfl (fun hq=>?_) (fun hq=>?_)
   ·refine Wk ?_
    rw [zBc hlt]
    rw [clB]
    exact zBc hltj (decide_eq_true (zjD hq))
   ·have hq0:zA9 (Con.con x) r a.l[k] b.l[j]=0:=by simpa using hq
    refine Wk ?_
    refine ⟨j+1,⟨hltj,?_⟩,by omega,zjB (zjA hltj (by omega))⟩
    rw [zBb hltj,hj.2,Bool.false_or,decide_eq_false (fun H=>H hq0)]
  ·have hge:=zjI hd2
   refine Wk ?_
   refine ⟨k+1,⟨hlt,?_⟩,by omega,zjB (zjA hlt (by omega))⟩
   rw [zBb hlt,hk.2,Bool.false_or,clB]
   exact zGd hge hj.2
 ·have hge:=zjI hd
  refine Wk ?_
  rw [zGd hge hk.2]
def stP (c:zOv) (r:DRegime) (o:POption) (best:Int) (p:POption):Int:=if ((decide (best < 0) || decide (IntKind.i64.wrap (o.cost+p.cost) < best)) && !zBa c r o.pas p.pas)=true then IntKind.i64.wrap (o.cost+p.cost) else best
def zM6 (c:zOv) (r:DRegime) (a b:List POption):Int:=a.foldl (fun best o=>b.foldl (stP c r o) best) (-1)
def zM7 (x:zOw) (a b:DCall):Int:=zM6 x.chart x.regime (zFU x a) (zFU x b)
theorem zM8 {α β:Type} {f:β→α→β} {z:β} {l:List α} {k:Nat} (hk:k < l.length):(l.take (k+1)).foldl f z=f ((l.take k).foldl f z) l[k]:=by
 rw [List.take_succ_eq_append_getElem hk,List.foldl_append,List.foldl_cons,List.foldl_nil]
theorem if_t {α:Type} {b:Bool} {p q:α} (h:b=true):(if b=true then p else q)=p:=if_pos h
theorem if_f {α:Type} {b:Bool} {p q:α} (h:b=false):(if b=true then p else q)=q:=if_neg (by rw [h];exact Bool.false_ne_true)
theorem zM9 {α β:Type} {f:β→α→β} {z:β} {l:List α} {k:Nat} (hk:l.length≤k):(l.take k).foldl f z=l.foldl f z:=by rw [List.take_of_length_le hk]
theorem zNa {l:List DOption}:(l.map (Con.con (α:=DOption))).length=l.length:=List.length_map ..
theorem zNb {β:Type} {f:β→POption→β} {z:β} {l:List DOption} {k:Nat} (hk:k < l.length):((l.map Con.con).take (k+1)).foldl f z=f (((l.map Con.con).take k).foldl f z) (Con.con l[k]):=by
 rw [zM8 (by rw [zNa];exact hk)];simp
theorem zNc {c:zOv} {r:DRegime} {o p:DOption} {best:Int}:stP c r (Con.con o) best (Con.con p)=if ((decide (best < 0) || decide (IntKind.i64.wrap (o.cost+p.cost) < best)) && !zBa c r o.pas.l p.pas.l)=true then IntKind.i64.wrap (o.cost+p.cost) else best:=by
 rw [stP,show (Con.con o).pas=o.pas.l from zEf _,show (Con.con p).pas=p.pas.l from zEf _];rfl
theorem zNe {x:zOw} {a:DCall} (h:zFU x a ≠ []):zz9 x.chart=true∧zAm x.regime=true:=by
 cases hok:zAJ x a with
 | false=>exact (h (zFY hok)).elim
 | true =>
  simp only [zAJ,zAp,jJ] at hok
  exact ⟨hok.1.1.1.1.2,hok.1.1.2⟩
theorem zNf {α β:Type} {f:α→β} {l:List α} {l2:List β} (h:l.map f=l2) (hl:l ≠ []):l2 ≠ []:=by
 rw [← h];intro e;exact hl (List.map_eq_nil_iff.1 e)
set_option maxRecDepth 30000 in
theorem zNg (x:DHarbour) (a b:DCall) (h:Hp) (hx:Enc.ok h x) (ha:Enc.ok h a) (hb:Enc.ok h b):Ct jV 51 [x.v,a.v,b.v] h fun v h'=>v=.int .i64 (zM7 (Con.con x) (Con.con a) (Con.con b))∧h'=h:=by
 refine Ct.forget ?_
 refine zdn (fun A W=>by simp) Tryz.func51 rfl rfl (by simp) fun W0=>?_
 refine Wk ?_
 refine zkr (zF4 x a _ hx ha) rfl ?_
 rintro v h1 le1 ⟨s,rfl,es,oks,ms⟩
 have es:s.l.map Con.con=zFU (Con.con x) (Con.con a):=es
 have hla:=oks.max
 refine Wk ?_
 refine zde (ι:=Nat × Hp) (fun i=>⟨[(3,true,.c (.p 0 0)),(5,true,.c (.p 2 0)),(6,true,.c (.v (.int .i64 0))),(7,true,.c (.v (.int .i64 (((s.l.map Con.con).take i.1).foldl (fun best o=>(zFU (Con.con x) (Con.con b)).foldl (stP (Con.con x.chart) x.regime o) best) (-1))))),(15,true,.c (.v s.val)),(16,true,.c (.v (.int .i64 s.l.length))),(17,true,.c (.v (.int .i64 i.1)))],[(0,.box 58 [.v (.int .i64 x.forecast.tide.mean),.v x.forecast.tide.parts.val,.v x.forecast.surges.val,.v x.chart.points.val,.v x.chart.segments.val,.v x.fleet.val,.v (.int .i64 x.regime.gap),.v (.bool x.regime.noMeet),.v (.int .i64 x.crew.tugs),.v (.int .i64 x.crew.pilots),.v (.int .i64 x.crew.rest),.v x.crew.moves.val]),(1,.box 90 [.v (.int .i64 a.ship),.v (.int .i64 a.src),.v (.int .i64 a.dst),.v (.int .i64 a.ready),.v (.int .i64 a.due)]),(2,.box 90 [.v (.int .i64 b.ship),.v (.int .i64 b.src),.v (.int .i64 b.dst),.v (.int .i64 b.ready),.v (.int .i64 b.due)])],i.2,3⟩) (fun i=>i.1≤s.l.length∧h1.le i.2) (fun i=>s.l.length - i.1) (0,h1) ⟨Nat.zero_le _,Hp.le_refl _⟩ ?_ ?_
 ·refine Evs ?_
  exact Gk
 rintro ⟨k,hk⟩ ⟨hkl,hle⟩
 simp only at hkl hle
 refine Wk ?_
 refine zc9 rfl (fun hd=>?_) (fun hd=>?_)
 ·have hlt:=zjH hd
  obtain ⟨hC,hR⟩:=zNe (x:=Con.con x) (a:=Con.con a) (zNf es (fun e=>by rw [e] at hlt;cases hlt))
  have hC:zz9 (Con.con x.chart)=true:=hC
  have hR:zAm x.regime=true:=hR
  have oksk:=oks.mono hle
  generalize hz:((s.l.map Con.con).take k).foldl (fun best o=>(zFU (Con.con x) (Con.con b)).foldl (stP (Con.con x.chart) x.regime o) best) (-1)=z
  repeat' first|refine Wa ?_|(simp only [go_sem,jq,jj,jy,jv,jk,jx,zkZ oksk hlt,oksk.some hlt,hlt,jW];try rfl)|refine Wb ?_|fail
  refine zkr (zF4 x b _ (Enc.mono (Hp.le_trans le1 hle) hx) (Enc.mono (Hp.le_trans le1 hle) hb)) rfl ?_
  rintro v h2 le2 ⟨t,rfl,et,okt,mt⟩
  have et:t.l.map Con.con=zFU (Con.con x) (Con.con b):=et
  have hlb:=okt.max
  have oks2:=oksk.mono le2
  have hx2:Enc.ok h2 x:=Enc.mono (Hp.le_trans (Hp.le_trans le1 hle) le2) hx
  have hos:=oks2.el hlt
  refine Wk ?_
  refine zde (ι:=Nat) (fun j=>⟨[(3,true,.c (.p 0 0)),(5,true,.c (.p 2 0)),(6,true,.c (.v (.int .i64 0))),(7,true,.c (.v (.int .i64 (((t.l.map Con.con).take j).foldl (stP (Con.con x.chart) x.regime (Con.con s.l[k])) z)))),(9,true,.c (.p 3 0)),(15,true,.c (.v s.val)),(16,true,.c (.v (.int .i64 s.l.length))),(17,true,.c (.v (.int .i64 k))),(23,true,.c (.v t.val)),(24,true,.c (.v (.int .i64 t.l.length))),(25,true,.c (.v (.int .i64 j)))],[(0,.box 58 [.v (.int .i64 x.forecast.tide.mean),.v x.forecast.tide.parts.val,.v x.forecast.surges.val,.v x.chart.points.val,.v x.chart.segments.val,.v x.fleet.val,.v (.int .i64 x.regime.gap),.v (.bool x.regime.noMeet),.v (.int .i64 x.crew.tugs),.v (.int .i64 x.crew.pilots),.v (.int .i64 x.crew.rest),.v x.crew.moves.val]),(1,.box 90 [.v (.int .i64 a.ship),.v (.int .i64 a.src),.v (.int .i64 a.dst),.v (.int .i64 a.ready),.v (.int .i64 a.due)]),(2,.box 90 [.v (.int .i64 b.ship),.v (.int .i64 b.src),.v (.int .i64 b.dst),.v (.int .i64 b.ready),.v (.int .i64 b.due)]),(3,.box 149 [.v (.int .i64 s.l[k].start),.v (.int .i64 s.l[k].arr),.v (.int .i64 s.l[k].cost),.v s.l[k].pas.val])],h2,4⟩) (fun j=>j≤t.l.length) (fun j=>t.l.length - j) 0 (Nat.zero_le _) ?_ ?_
  ·refine Evs ?_
   exact Gk
  intro j hj
  refine Wk ?_
  refine zc9 rfl (fun hd2=>?_) (fun hd2=>?_)
  ·have hltj:=zjH hd2
   have hfj:=zNb (f:=stP (Con.con x.chart) x.regime (Con.con s.l[k])) (z:=z) hltj
   generalize hy:((t.l.map Con.con).take j).foldl (stP (Con.con x.chart) x.regime (Con.con s.l[k])) z=y at hfj
   rw [zNc] at hfj
   repeat' first|refine Wa ?_|refine zhF (fun _=>zGe x.chart x.regime s.l[k].pas t.l[j].pas _ hx2.2.1 hR hos.2.2.2 (okt.el hltj).2.2.2) ?_|(simp only [go_sem,jq,jj,jy,jv,jk,jx,zkZ okt hltj,okt.some hltj,hltj,jW];try rfl)|refine Wb ?_|fail
   refine zc9 rfl (fun hq=>?_) (fun hq=>?_)
   ·have hfj:=hfj.trans (if_t hq)
    refine Wk ?_
    refine ⟨j+1,hltj,by omega,zjB hfj.symm,zjB (zjA hltj (by omega))⟩
   ·have hfj:=hfj.trans (if_f hq)
    refine Wk ?_
    refine ⟨j+1,hltj,by omega,zjB hfj.symm,zjB (zjA hltj (by omega))⟩
  ·have hge:=zjI hd2
   refine Wk ?_
   refine ⟨(k+1,h2),⟨hlt,Hp.le_trans hle le2⟩,by simp only;omega,⟨zjB ?_,zjB (zjA hlt (by omega))⟩,rfl⟩
   rw [zNb hlt,hz,zM9 (by rw [zNa];exact hge),et]
 ·have hge:=zjI hd
  refine Wk ?_
  rw [zM7,zM6,← es,← zM9 (k:=k) (l:=s.l.map Con.con) (by rw [zNa];exact hge)]
  rfl
theorem zGg {s:DShip} {g:DSegment} (h:1≤g.minutes∧g.minutes≤240):1≤zAU s g∧zAU s g≤480:=by
 unfold zAU
 split
 ·rw [zjz (by omega)];omega
 ·omega
theorem zGh {c:zOv} (h:zz9 c=true) {i:Nat} (hi:i < c.segments.length):1≤(c.segments.getD i dG).minutes∧(c.segments.getD i dG).minutes≤240:=by
 simp only [zz9,jJ,decide_eq_true_eq] at h
 have:=h.2 i hi
 simp only [zz8,zz6,jJ,decide_eq_true_eq] at this
 exact ⟨this.1.2.2.2.2.2.2.2.1,this.1.2.2.2.2.2.2.2.2⟩
theorem zGi {l:List DWindow} {m:Int} (hn:¬ zBQ l m < 0):m≤zBQ l m∧zBQ l m≤2880:=by
 unfold zBQ at hn ⊢
 split at hn
 ·rename_i hw
  rw [if_pos hw]
  split at hn
  ·rename_i w hf
   have h1:=List.find?_some hf
   have h1:m≤w.dst:=of_decide_eq_true h1
   obtain ⟨i,hi,e⟩:=List.getElem_of_mem (List.mem_of_find?_eq_some hf)
   have h2:=of_decide_eq_true hw i hi
   rw [zBN,decide_eq_true_eq,List.getD_eq_getElem?_getD,List.getElem?_eq_getElem hi,Option.getD_some,e] at h2
   omega
  ·exact absurd (show (-1:Int) < 0 by decide) hn
 ·exact absurd (show (-1:Int) < 0 by decide) hn
def zGj (m:List Int):Nat→Int
 | 0=>0
 | k+1=>zGj m k+m.getD k 0
theorem zGk {m:List Int} (hm:∀ i,i < m.length→1≤m.getD i 0∧m.getD i 0≤480):∀ {k:Nat},k≤m.length→0≤zGj m k∧zGj m k≤480 * k
 | 0,_=>⟨Int.le_refl _,by simp [zGj]⟩
 | k+1,hk=>by
  have h1:=zGk hm (k:=k) (by omega)
  have h2:=hm k (by omega)
  rw [zGj];omega
theorem zGl {w:List Bool} {m:List Int} {u:List (List DWindow)} {st:Int} (hst:0≤st∧st≤2880) (hm:∀ i,i < m.length→1≤m.getD i 0∧m.getD i 0≤480):∀ {k:Nat} {l:List Int},k≤m.length→slK w m u st k=some l→l.length=k+1∧(∀ i,i≤k→0≤l.getD i 0∧l.getD i 0≤2880)∧st+zGj m k≤l.getD k 0
 | 0,l,_,h=>by
  rw [slK] at h
  rw [← Option.some.inj h]
  refine ⟨rfl,fun i hi=>?_,?_⟩
  ·rw [Nat.le_zero.1 hi];exact hst
  ·rw [zGj,Int.add_zero];exact Int.le_refl _
 | k+1,l,hk,h=>by
  rw [slK] at h
  cases hp:slK w m u st k with
  | none=>rw [hp] at h;cases h
  | some p =>
   rw [hp,Option.bind_some] at h
   obtain ⟨h1,h2,h3⟩:=zGl hst hm (k:=k) (by omega) hp
   have h4:=hm k (by omega)
   have h5:=h2 k (Nat.le_refl _)
   unfold zFm at h
   dsimp only at h
   split at h
   ·cases h
   ·rename_i hc
    rw [not_or] at hc
    have h6:=zGi hc.1
    have hw:IntKind.i64.wrap (p.getD k 0+m.getD k 0)=p.getD k 0+m.getD k 0:=zjz (by omega)
    rw [hw] at h6 h
    have e:=Option.some.inj h
    generalize zBQ (u.getD (k+1) []) (p.getD k 0+m.getD k 0)=nx at h6 e
    rw [← e]
    refine ⟨by rw [List.length_append,h1];rfl,fun i hi=>?_,?_⟩
    ·rcases Nat.lt_or_ge i (k+1) with hi2|hi2
     ·rw [List.getD_eq_getElem?_getD,List.getElem?_append_left (by omega),← List.getD_eq_getElem?_getD]
      exact h2 i (by omega)
     ·rw [show i=p.length by omega]
      have e2:(p ++ [nx]).getD p.length 0=nx:=by simp only [List.getD_eq_getElem?_getD,List.getElem?_concat_length,Option.getD_some]
      rw [e2]
      omega
    ·rw [show k+1=p.length by omega]
     have e2:(p ++ [nx]).getD p.length 0=nx:=by simp only [List.getD_eq_getElem?_getD,List.getElem?_concat_length,Option.getD_some]
     rw [e2,show p.length=k+1 by omega,zGj]
     omega
theorem zGm {m:List Int} (hm:∀ i,i < m.length→1≤m.getD i 0∧m.getD i 0≤480) (hl:m.length≤100) {z:Int} (hz:-1000000≤z∧z≤1000000):∀ {k:Nat},k≤m.length→(m.take k).foldl (fun acc y=>IntKind.i64.wrap (acc - y)) z=z - zGj m k
 | 0,_=>by simp [zGj]
 | k+1,hk=>by
  rw [List.take_succ_eq_append_getElem (by omega),List.foldl_append,List.foldl_cons,List.foldl_nil,zGm hm hl hz (k:=k) (by omega),zGj]
  have h1:=zGk hm (k:=k) (by omega)
  have h2:=hm k (by omega)
  have h3:m.getD k 0=m[k]'(by omega):=by rw [List.getD_eq_getElem?_getD,List.getElem?_eq_getElem (by omega)];rfl
  rw [← h3,zjz (by omega)]
  omega
theorem zGn {P:POption→Prop} {opt:Int→POption × Bool} {lo due:Int} (hlo:0≤lo) (hdue:due≤2880) (h:∀ s,lo≤s→s≤due→(opt s).2=true→P (opt s).1):∀ {f:Nat} {s:Int} {acc:List POption},lo≤s→(∀ y ∈ acc,P y)→∀ y ∈ zFT opt due f s acc,P y
 | 0,s,acc,_,ha=>ha
 | f+1,s,acc,hs,ha=>by
  unfold zFT
  split
  ·rename_i hc
   refine zGn hlo hdue h (by rw [zjz (by omega)];omega) ?_
   split
   ·rename_i h2
    intro y hy
    rcases List.mem_append.1 hy with hy|hy
    ·exact ha y hy
    ·rw [List.mem_singleton.1 hy];exact h s hs hc.1 h2
   ·exact ha
  ·exact ha
theorem zGo {c:zOv} {s:DShip} {r:List Int} {n i:Nat} (hi:i < n):(minL c s r n).getD i 0=zAU s (c.segments.getD (r.getD i 0).toNat dG):=by
 rw [minL,List.getD_eq_getElem?_getD,List.getElem?_map,List.getElem?_range hi];rfl
theorem zGp {c:zOv} {r:List Int} (hC:zz9 c=true) (hr:∀ i (hi:i < r.length),0≤r[i]∧r[i] < c.segments.length) (hl:r.length≤8):∀ {k:Nat},k≤r.length→0≤(r.take k).foldl (zDT c.segments) 0∧(r.take k).foldl (zDT c.segments) 0≤240 * k
 | 0,_=>by simp
 | k+1,hk=>by
  have h1:=zGp hC hr hl (k:=k) (by omega)
  have h2:=hr k (by omega)
  have h3:=zGh hC (i:=(r[k]'(by omega)).toNat) (by omega)
  rw [List.take_succ_eq_append_getElem (by omega),List.foldl_append,List.foldl_cons,List.foldl_nil,zDT,zjz (by omega)]
  omega
theorem zGq {x:DHarbour} {a:DCall} {r:List Int} (hok:zAJ (Con.con x) a=true) (hcv:cvOk (Con.con x) a r=true) {st:Int} (hst:a.ready≤st∧st≤a.due) (h2:(zFH (Con.con x) a r st).2=true):0≤(zFH (Con.con x) a r st).1.cost∧(zFH (Con.con x) a r st).1.cost≤2880:=by
 obtain ⟨_,hC,⟨hsi,hsh,hso⟩,_,_,_,_,_,_,_,hr0,hr1,hr2,hr3⟩:=zFA hok
 have hv:voOk (Con.con x.forecast) (Con.con x.chart) (zFz (Con.con x) a) a.src r=true:=by
  rw [cvOk,jJ] at hcv;exact hcv.2
 have hR:zDJ (Con.con x.chart) a.src r=true:=by
  rw [zFB hok,jJ] at hv;exact hv.1
 have hlen0:0 < r.length:=by
  rw [zFB hok,jJ,decide_eq_true_eq] at hv;exact hv.2
 obtain ⟨_,hin,pl,hptl,hpk,hplen,hpx⟩:=zDN hR
 have hrl:r.length≤8:=by have:=zEO hC (zDx hpk) hpx;omega
 have hmi:∀ i,i < (minL (Con.con x.chart) (zFz (Con.con x) a) r r.length).length→1≤(minL (Con.con x.chart) (zFz (Con.con x) a) r r.length).getD i 0∧(minL (Con.con x.chart) (zFz (Con.con x) a) r r.length).getD i 0≤480:=fun i hi=>by
  rw [minL,rmap_len] at hi
  rw [zGo hi]
  have h1:=zDO hpk (Nat.le_refl _) i hi hi
  have h3:r.getD i 0=r[i]:=by rw [List.getD_eq_getElem?_getD,List.getElem?_eq_getElem hi];rfl
  rw [h3]
  exact zGg (zGh hC (by omega))
 have hml:(minL (Con.con x.chart) (zFz (Con.con x) a) r r.length).length=r.length:=by rw [minL,rmap_len]
 unfold zFH at h2 ⊢
 rw [show (Con.con x).forecast=Con.con x.forecast from rfl,show (Con.con x).chart=Con.con x.chart from rfl] at h2 ⊢
 cases hs:zFx (Con.con x.forecast) (Con.con x.chart) (zFz (Con.con x) a) a.src r st with
 | none=>rw [hs] at h2;cases h2
 | some l =>
  rw [hs] at h2
  dsimp only at h2 ⊢
  have h3:=hs
  rw [zFx,if_pos hv,zFn] at h3
  split at h3
  ·rw [show (zFh (Con.con x.forecast) (Con.con x.chart) (zFz (Con.con x) a) r r.length).length=r.length by rw [zFh,rmap_len]] at h3
   obtain ⟨h4,h5,h6⟩:=zGl (by omega) hmi (by omega) h3
   have hpo:arOk (Con.con x.chart) (zFz (Con.con x) a) r l=true:=by
    rw [arOk,jJ,jJ,jJ,Bool.not_eq_true',decide_eq_false_iff_not,decide_eq_true_eq,decide_eq_true_eq,hsh]
    refine ⟨⟨⟨?_,hso⟩,hlen0⟩,by omega⟩
    rw [zDU,if_pos ⟨hC,fun i hi=>by
     have h1:=zDO hpk (Nat.le_refl _) i hi hi
     rw [rmOk,iget hi,decide_eq_true_eq];exact h1⟩]
    have:=zGp hC (fun i hi=>zDO hpk (Nat.le_refl _) i hi hi) hrl (k:=r.length) (Nat.le_refl _)
    rw [List.take_length] at this
    omega
   have hA:zEh (Con.con x.chart) (zFz (Con.con x) a) r l=l.getD (r.length - 1) 0+(minL (Con.con x.chart) (zFz (Con.con x) a) r r.length).getD (r.length - 1) 0:=by
    have h7:=h5 (r.length - 1) (Nat.le_refl _)
    have h8:=hmi (r.length - 1) (by omega)
    rw [zGo (by omega)] at h8 ⊢
    rw [zEh,if_pos hpo,if_pos (by rw [In,jJ,decide_eq_true_eq,decide_eq_true_eq];exact h7),zjz (by omega)]
   have hle:zEh (Con.con x.chart) (zFz (Con.con x) a) r l≤2880:=of_decide_eq_true h2
   have h7:=h5 (r.length - 1) (Nat.le_refl _)
   have h8:=hmi (r.length - 1) (by omega)
   have h9:=zGk hmi (k:=r.length) (by omega)
   have h10:zGj (minL (Con.con x.chart) (zFz (Con.con x) a) r r.length) r.length=zGj (minL (Con.con x.chart) (zFz (Con.con x) a) r r.length) (r.length - 1)+(minL (Con.con x.chart) (zFz (Con.con x) a) r r.length).getD (r.length - 1) 0:=by
    obtain ⟨k,hk⟩:∃ k,r.length=k+1:=⟨r.length - 1,by omega⟩
    rw [show zGj (minL (Con.con x.chart) (zFz (Con.con x) a) r r.length) r.length=zGj (minL (Con.con x.chart) (zFz (Con.con x) a) r r.length) (r.length - 1+1) by rw [show r.length - 1+1=r.length by omega]]
    rfl
   have h11:=zGm hmi (by omega) (z:=zEh (Con.con x.chart) (zFz (Con.con x) a) r l - a.ready) (by omega) (k:=r.length) (by omega)
   rw [List.take_of_length_le (by omega)] at h11
   show 0≤zFF a.ready (zEh (Con.con x.chart) (zFz (Con.con x) a) r l) (minL (Con.con x.chart) (zFz (Con.con x) a) r r.length)∧zFF a.ready (zEh (Con.con x.chart) (zFz (Con.con x) a) r l) (minL (Con.con x.chart) (zFz (Con.con x) a) r r.length)≤2880
   rw [zFF,zjz (by omega),h11]
   omega
  ·cases h3
theorem zGr {x:DHarbour} {a:DCall}:∀ y ∈ zFU (Con.con x) a,0≤y.cost∧y.cost≤2880:=by
 cases hok:zAJ (Con.con x) a with
 | false=>rw [zFY hok];intro y hy;cases hy
 | true =>
  rw [zFU,if_pos hok]
  obtain ⟨_,_,_,_,_,_,_,_,_,_,hr0,hr1,hr2,hr3⟩:=zFA hok
  cases hb:zE5 (Con.con x).chart a.src a.dst with
  | none=>intro y hy;cases hy
  | some r =>
   dsimp only
   exact zGn hr0 hr3 (fun s h1 h2 h3=>zGq hok (zFX hok hb) ⟨h1,h2⟩ h3) (Int.le_refl _) (fun y hy=>by cases hy)
end Go.Proofs.YtdejfjdbcggilaaGreat
