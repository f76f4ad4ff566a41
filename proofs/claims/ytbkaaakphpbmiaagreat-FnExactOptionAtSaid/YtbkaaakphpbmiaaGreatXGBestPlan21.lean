/- What functions of the given program compute, as contracts. -/
import Derived.Test.YtbkaaakphpbmiaaGreatSGBestPlanx20
import Derived.Test.YtbkaaakphpbmiaaGreatXGBestPlan19
import Derived.Test.YtbkaaakphpbmiaaGreatXGBestPlan9
set_option linter.unusedVariables false
set_option linter.unusedSimpArgs false
set_option maxRecDepth 4000
open Nat renaming reduceAdd → jq, reduceMul → jj, reduceBEq → jy, reduceLeDiff → jv, reduceLT → jk, reduceEqDiff → jx
open Bool renaming or_eq_false_iff → jp, or_eq_true → jQ, and_eq_true → jJ
open Int renaming toNat_natCast → jW, natCast_nonneg → jY
open Go.Proofs.Tryz renaming prog → jV
namespace Go.Proofs.YtbkaaakphpbmiaaGreat
open Go Go.SL
set_option maxHeartbeats 1000000
theorem zyk {c:DChart} {s:DShip} {h:Hp} (hc:Enc.ok h c) (i:Nat):I64 (zvG s ((Con.con c).segments.getD i dG)):=by
 unfold zvG
 split
 ·exact i64w _
 ·rw [zvJ]
  by_cases hi:i < c.segments.l.length
  ·rw [gget hi];exact (hc.2.el hi).2.2.2
  ·rw [List.getD_eq_getElem?_getD,List.getElem?_eq_none (by omega)];exact i64z
def voOk (f:PForecast) (c:PChart) (s:DShip) (a:Int) (r:List Int):Bool:=zuY f && zvj s && zxf c a r && decide (0 < r.length)
def zyl (c:PChart) (pts:List Int) (k:Nat):List Bool:=(List.range k).map fun i=>(c.points.getD (pts.getD i 0).toNat dP).wait
def minL (c:PChart) (s:DShip) (r:List Int) (k:Nat):List Int:=(List.range k).map fun i=>zvG s (c.segments.getD (r.getD i 0).toNat dG)
def zym (f:PForecast) (c:PChart) (s:DShip) (r:List Int) (k:Nat):List (List DWindow):=(List.range k).map fun i=>zwO f c (r.getD i 0) s
theorem zyn {β:Type} {g:Nat→β} {k:Nat}:(List.range (k+1)).map g=(List.range k).map g ++ [g k]:=by rw [List.range_succ,List.map_append];rfl
theorem rmap_len {β:Type} {g:Nat→β} {k:Nat}:((List.range k).map g).length=k:=by rw [List.length_map,List.length_range]
set_option maxRecDepth 20000 in
theorem zyo (f:DForecast) (c:DChart) (s:DShip) (a:Int) (r:Sl Int) (h:Hp) (hf:Enc.ok h f) (hc:Enc.ok h c) (hs:Enc.ok h s) (ha:I64 a) (hr:r.Ok h) (hz:r.l.length≤1048576):Ct jV 177 [f.v,c.v,s.v,.int .i64 a,r.val] h fun v h'=>∃ (w:Sl Bool) (m:Sl Int) (u:Sl (Sl DWindow)),v=.tuple #[.agg #[w.val,m.val,u.val],.bool (voOk (Con.con f) (Con.con c) s a r.l)]∧w.Ok h'∧m.Ok h'∧u.Ok h'∧(voOk (Con.con f) (Con.con c) s a r.l=true→w.l=zyl (Con.con c) ((zwV (Con.con c) a r.l).getD []) r.l.length∧m.l=minL (Con.con c) s r.l r.l.length∧u.l.map (·.l)=zym (Con.con f) (Con.con c) s r.l r.l.length):=by
 have hl:=hr.max
 have hsl:(Con.con c).segments=c.segments.l:=zvJ c
 have hpl:(Con.con c).points=c.points.l:=zwZ c
 refine zdn (fun A W=>by simp) Tryz.func177 rfl rfl (by simp) fun W0=>?_
 repeat' first|refine Wa ?_|refine zhF (fun _=>zu0 f _ hf) ?_|refine zhF (fun _=>zvq s _ hs) ?_|refine zhF (fun _=>zxk c a r _ hc ha hr hz) ?_|(simp only [go_sem,jq,jj,jy,jv,jk,jx];try rfl)|refine Wb ?_|fail
 refine zc9 rfl (fun hx=>?_) (fun hx=>?_)
 ·have hno:voOk (Con.con f) (Con.con c) s a r.l=false:=by
   rw [voOk]
   simp only [jQ,Bool.not_eq_true',beq_iff_eq] at hx
   rw [Bool.and_eq_false_iff,Bool.and_eq_false_iff,Bool.and_eq_false_iff,decide_eq_false_iff_not]
   rcases hx with ((hx|hx)|hx)|hx
   ·exact .inl (.inl (.inl hx))
   ·exact .inl (.inl (.inr hx))
   ·exact .inl (.inr hx)
   ·exact .inr (by omega)
  rw [hno]
  refine Wk ?_
  exact ⟨⟨none,0,[]⟩,⟨none,0,[]⟩,⟨none,0,[]⟩,rfl,zmo,zmo,zmo,fun e=>by cases e⟩
 simp only [jp,Bool.not_eq_false',beq_eq_false_iff_ne,ne_eq] at hx
 obtain ⟨⟨⟨hF,hS⟩,hR⟩,h0⟩:=hx
 have hyes:voOk (Con.con f) (Con.con c) s a r.l=true:=by rw [voOk,hF,hS,hR,decide_eq_true (by omega)];rfl
 rw [hyes]
 obtain ⟨hC,hin,pl,hptl,hpk,hplen,hpx⟩:=zxi hR
 refine zc5 ?_
 refine Evs ?_
 (first|refine zie rfl ?_|refine zc4 rfl ?_|(refine zc3 ?_;first|refine zie rfl ?_|refine zc4 rfl ?_));simp only [go_sem,jq,jj,jy,jv,jk,jx]
 (first|refine zie rfl ?_|refine zc4 rfl ?_|(refine zc3 ?_;first|refine zie rfl ?_|refine zc4 rfl ?_));simp only [go_sem,jq,jj,jy,jv,jk,jx]
 refine Wk ?_
 refine zkj (zxl c a r _ hc ha hr hz) rfl ?_
 rintro v h1 le1 ⟨p,rfl,e1,pok⟩
 rw [hptl] at e1
 have e1:p.l=pl:=e1
 have hplen1:p.l.length=r.l.length+1:=by rw [e1];exact hplen
 have hpcap:=pok.1
 simp only [go_sem,jq,jj,jy,jv,jk,jx,true_or,true_and,Int.toNat_zero,Nat.zero_mul,zmA,zmB,ite_self,Nat.sub_zero]
 refine ⟨by omega,?_⟩
 rw [zmC (by omega)]
 refine zoj 4 [] [.v (.slice none 0 0),.v (.slice none 0 0)] 4 1 rfl ?_
 refine zoj 4 [.s 5] [.v (.slice none 0 0)] 3 1 rfl ?_
 refine zoj 4 [.s 5,.s 6] [] 283 1 rfl ?_
 have ptok:(p.to r.l.length).Ok h1:=Sl.to_ok pok _
 have ptl:(p.to r.l.length).l.length=r.l.length:=Sl.to_len (by omega)
 refine Evs ?_
 refine Wk ?_
 refine zl0 (ι:=Nat × List (Sl DWindow) × Hp) (fun i=>⟨[(4,true,.c (.v r.val)),(5,true,.c (.p 0 0)),(6,true,.c (.p 1 0)),(7,true,.c (.p 2 0)),(10,true,.c (.p 3 0)),(11,true,.c (.v (.bool false))),(12,true,.c (.p 4 0)),(43,true,.c (.v (p.to r.l.length).val)),(44,true,.c (.v (.int .i64 r.l.length))),(45,true,.c (.v (.int .i64 i.1)))],[(0,.box 53 [.v (.int .i64 f.tide.mean),.v f.tide.parts.val,.v f.surges.val]),(1,.box 57 [.v c.points.val,.v c.segments.val]),(2,.box 157 [.v (.string s.name),.v (.int .i64 s.length),.v (.int .i64 s.draught),.v (.int .i64 s.line),.v (.int .i64 s.tugs),.v (.bool s.slow)]),(3,.box 162 [.v (.slice none 0 0),.v (.slice none 0 0),.v (.slice none 0 0)]),(4,.box 162 [.s 5,.s 6,.s 7]),(5,.row 4 1 i.1 ((zyl (Con.con c) p.l i.1).flatMap Enc.enc)),(6,.row 3 1 i.1 ((minL (Con.con c) s r.l i.1).flatMap Enc.enc)),(7,.row 283 1 i.1 (i.2.1.flatMap Enc.enc))],i.2.2,8⟩) (fun i=>i.1≤r.l.length∧i.2.1.map (·.l)=zym (Con.con f) (Con.con c) s r.l i.1∧(∀ q ∈ i.2.1,Enc.ok i.2.2 q)∧h1.le i.2.2) (fun i=>r.l.length - i.1) (0,[],h1) ⟨Nat.zero_le _,rfl,fun _ h=>(by cases h),Hp.le_refl _⟩ [0,1,2,3,4,5,6,7] ?_ ?_
 ·refine Evs ?_
  exact Gk
 rintro ⟨k,us,hk⟩ ⟨hkn,hus,huok,hle⟩
 simp only at hkn hus huok hle
 have hln:us.length=k:=by have:=congrArg List.length hus;rwa [List.length_map,zym,rmap_len] at this
 have hle0:h.le hk:=Hp.le_trans le1 hle
 have fk:Enc.ok hk f:=Enc.mono hle0 hf
 have ck:Enc.ok hk c:=Enc.mono hle0 hc
 have sk:Enc.ok hk s:=Enc.mono hle0 hs
 have rk:=hr.mono hle0
 replace ptok:=ptok.mono hle
 refine Wk ?_
 refine zc9 rfl (fun hd=>?_) (fun hd=>?_)
 ·have hlt:=zjH hd
  have hlti:(k:Int) < r.l.length:=by omega
  have hlt2:k < (p.to r.l.length).l.length:=by omega
  have hlt2i:(k:Int) < (p.to r.l.length).l.length:=by omega
  have hlt3:k < p.l.length:=by omega
  have htog:(p.to r.l.length).l[k]=p.l[k]:=Sl.to_get _ _
  have hpp:=hpx p.l[k] (by rw [← e1];exact List.getElem_mem hlt3)
  rw [hpl] at hpp
  obtain ⟨hpp0,hpp1⟩:=hpp
  have hpi:p.l[k].toNat < c.points.l.length:=by omega
  have hseg:=zxj hpk (Nat.le_refl _) k hlt hlt
  rw [hsl] at hseg
  obtain ⟨hx0,hx1⟩:=hseg
  have hsi:r.l[k].toNat < c.segments.l.length:=by omega
  have hw1:(c.points.l[p.l[k].toNat]).wait=((Con.con c).points.getD (p.l.getD k 0).toNat dP).wait:=by rw [hpl,iget hlt3,pget hpi]
  have hm1:zvG s c.segments.l[r.l[k].toNat]=zvG s ((Con.con c).segments.getD (r.l.getD k 0).toNat dG):=by rw [hsl,iget hlt,gget hsi]
  repeat' first|refine Wa ?_|(simp only [go_sem,jq,jj,jy,jv,jk,jx,zkv rk hlt,rk.some hlt,hlt,hlti,zkv ptok hlt2,ptok.some hlt2,hlt2,hlt2i,htog,zkS ck.1 hpi,ck.1.some hpi,zlR ck.1 hpi,hpi,hpp0,hpp1,zkU ck.2 hsi,ck.2.some hsi,zlS ck.2 hsi,hsi,hx0,hx1,jW,jY,implies_true,true_and,and_true,and_self];try rfl)|refine Wb ?_|fail
  refine znv rfl ?_
  refine U_t [0,2,4,1,3,5,6,7] rfl ?_
  simp only [go_sem,jq,jj,jy,jv,jk,jx,zkv rk hlt,rk.some hlt,hlt,hlti,zkv ptok hlt2,ptok.some hlt2,hlt2,hlt2i,htog,zkS ck.1 hpi,ck.1.some hpi,zlR ck.1 hpi,hpi,hpp0,hpp1,zkU ck.2 hsi,ck.2.some hsi,zlS ck.2 hsi,hsi,hx0,hx1,jW,jY,implies_true,true_and,and_true,and_self]
  refine U_1 8 0 [1,0] rfl rfl ?_
  simp only [go_sem,jq,jj,jy,jv,jk,jx,zkv rk hlt,rk.some hlt,hlt,hlti,zkv ptok hlt2,ptok.some hlt2,hlt2,hlt2i,htog,zkS ck.1 hpi,ck.1.some hpi,zlR ck.1 hpi,hpi,hpp0,hpp1,zkU ck.2 hsi,ck.2.some hsi,zlS ck.2 hsi,hsi,hx0,hx1,jW,jY,implies_true,true_and,and_true,and_self]
  refine U_1 9 0 [] rfl rfl ?_
  simp only [go_sem,jq,jj,jy,jv,jk,jx,zkv rk hlt,rk.some hlt,hlt,hlti,zkv ptok hlt2,ptok.some hlt2,hlt2,hlt2i,htog,zkS ck.1 hpi,ck.1.some hpi,zlR ck.1 hpi,hpi,hpp0,hpp1,zkU ck.2 hsi,ck.2.some hsi,zlS ck.2 hsi,hsi,hx0,hx1,jW,jY,implies_true,true_and,and_true,and_self]
  refine ⟨by simp only [maxLen];omega,by omega,?_⟩
  refine U_t [10] rfl ?_
  simp only [go_sem,jq,jj,jy,jv,jk,jx,zkv rk hlt,rk.some hlt,hlt,hlti,zkv ptok hlt2,ptok.some hlt2,hlt2,hlt2i,htog,zkS ck.1 hpi,ck.1.some hpi,zlR ck.1 hpi,hpi,hpp0,hpp1,zkU ck.2 hsi,ck.2.some hsi,zlS ck.2 hsi,hsi,hx0,hx1,jW,jY,implies_true,true_and,and_true,and_self]
  refine U_1 11 0 [] rfl rfl ?_
  simp only [go_sem,jq,jj,jy,jv,jk,jx,zkv rk hlt,rk.some hlt,hlt,hlti,zkv ptok hlt2,ptok.some hlt2,hlt2,hlt2i,htog,zkS ck.1 hpi,ck.1.some hpi,zlR ck.1 hpi,hpi,hpp0,hpp1,zkU ck.2 hsi,ck.2.some hsi,zlS ck.2 hsi,hsi,hx0,hx1,jW,jY,implies_true,true_and,and_true,and_self]
  refine U_d ?_
  repeat' first|refine Wa ?_|(simp only [go_sem,jq,jj,jy,jv,jk,jx,zkv rk hlt,rk.some hlt,hlt,hlti,zkv ptok hlt2,ptok.some hlt2,hlt2,hlt2i,htog,zkS ck.1 hpi,ck.1.some hpi,zlR ck.1 hpi,hpi,hpp0,hpp1,zkU ck.2 hsi,ck.2.some hsi,zlS ck.2 hsi,hsi,hx0,hx1,jW,jY,implies_true,true_and,and_true,and_self];try rfl)|refine Wb ?_|fail
  refine znv rfl ?_
  refine U_t [0,2,3,5,6,1,4,7,8,9,10] rfl ?_
  simp only [go_sem,jq,jj,jy,jv,jk,jx,zkv rk hlt,rk.some hlt,hlt,hlti,zkv ptok hlt2,ptok.some hlt2,hlt2,hlt2i,htog,zkS ck.1 hpi,ck.1.some hpi,zlR ck.1 hpi,hpi,hpp0,hpp1,zkU ck.2 hsi,ck.2.some hsi,zlS ck.2 hsi,hsi,hx0,hx1,jW,jY,implies_true,true_and,and_true,and_self]
  refine U_1 11 0 [1,0] rfl rfl ?_
  simp only [go_sem,jq,jj,jy,jv,jk,jx,zkv rk hlt,rk.some hlt,hlt,hlti,zkv ptok hlt2,ptok.some hlt2,hlt2,hlt2i,htog,zkS ck.1 hpi,ck.1.some hpi,zlR ck.1 hpi,hpi,hpp0,hpp1,zkU ck.2 hsi,ck.2.some hsi,zlS ck.2 hsi,hsi,hx0,hx1,jW,jY,implies_true,true_and,and_true,and_self]
  refine zhF (fun _=>zvM s c.segments.l[r.l[k].toNat] _) ?_
  simp only [go_sem,jq,jj,jy,jv,jk,jx,zkv rk hlt,rk.some hlt,hlt,hlti,zkv ptok hlt2,ptok.some hlt2,hlt2,hlt2i,htog,zkS ck.1 hpi,ck.1.some hpi,zlR ck.1 hpi,hpi,hpp0,hpp1,zkU ck.2 hsi,ck.2.some hsi,zlS ck.2 hsi,hsi,hx0,hx1,jW,jY,implies_true,true_and,and_true,and_self]
  refine U_1 12 0 [1,0] rfl rfl ?_
  simp only [go_sem,jq,jj,jy,jv,jk,jx,zkv rk hlt,rk.some hlt,hlt,hlti,zkv ptok hlt2,ptok.some hlt2,hlt2,hlt2i,htog,zkS ck.1 hpi,ck.1.some hpi,zlR ck.1 hpi,hpi,hpp0,hpp1,zkU ck.2 hsi,ck.2.some hsi,zlS ck.2 hsi,hsi,hx0,hx1,jW,jY,implies_true,true_and,and_true,and_self]
  refine U_1 13 0 [] rfl rfl ?_
  simp only [go_sem,jq,jj,jy,jv,jk,jx,zkv rk hlt,rk.some hlt,hlt,hlti,zkv ptok hlt2,ptok.some hlt2,hlt2,hlt2i,htog,zkS ck.1 hpi,ck.1.some hpi,zlR ck.1 hpi,hpi,hpp0,hpp1,zkU ck.2 hsi,ck.2.some hsi,zlS ck.2 hsi,hsi,hx0,hx1,jW,jY,implies_true,true_and,and_true,and_self]
  refine ⟨by simp only [maxLen];omega,by omega,?_⟩
  refine U_t [14] rfl ?_
  simp only [go_sem,jq,jj,jy,jv,jk,jx,zkv rk hlt,rk.some hlt,hlt,hlti,zkv ptok hlt2,ptok.some hlt2,hlt2,hlt2i,htog,zkS ck.1 hpi,ck.1.some hpi,zlR ck.1 hpi,hpi,hpp0,hpp1,zkU ck.2 hsi,ck.2.some hsi,zlS ck.2 hsi,hsi,hx0,hx1,jW,jY,implies_true,true_and,and_true,and_self]
  refine U_1 15 0 [] rfl rfl ?_
  simp only [go_sem,jq,jj,jy,jv,jk,jx,zkv rk hlt,rk.some hlt,hlt,hlti,zkv ptok hlt2,ptok.some hlt2,hlt2,hlt2i,htog,zkS ck.1 hpi,ck.1.some hpi,zlR ck.1 hpi,hpi,hpp0,hpp1,zkU ck.2 hsi,ck.2.some hsi,zlS ck.2 hsi,hsi,hx0,hx1,jW,jY,implies_true,true_and,and_true,and_self]
  refine U_d ?_
  repeat' first|refine Wa ?_|(simp only [go_sem,jq,jj,jy,jv,jk,jx,zkv rk hlt,rk.some hlt,hlt,hlti,zkv ptok hlt2,ptok.some hlt2,hlt2,hlt2i,htog,zkS ck.1 hpi,ck.1.some hpi,zlR ck.1 hpi,hpi,hpp0,hpp1,zkU ck.2 hsi,ck.2.some hsi,zlS ck.2 hsi,hsi,hx0,hx1,jW,jY,implies_true,true_and,and_true,and_self];try rfl)|refine Wb ?_|fail
  refine znv rfl ?_
  refine U_t [0,2,3,4,5,8,1,6,7] rfl ?_
  simp only [go_sem,jq,jj,jy,jv,jk,jx,zkv rk hlt,rk.some hlt,hlt,hlti,zkv ptok hlt2,ptok.some hlt2,hlt2,hlt2i,htog,zkS ck.1 hpi,ck.1.some hpi,zlR ck.1 hpi,hpi,hpp0,hpp1,zkU ck.2 hsi,ck.2.some hsi,zlS ck.2 hsi,hsi,hx0,hx1,jW,jY,implies_true,true_and,and_true,and_self]
  refine U_1 9 0 [1,0] rfl rfl ?_
  simp only [go_sem,jq,jj,jy,jv,jk,jx,zkv rk hlt,rk.some hlt,hlt,hlti,zkv ptok hlt2,ptok.some hlt2,hlt2,hlt2i,htog,zkS ck.1 hpi,ck.1.some hpi,zlR ck.1 hpi,hpi,hpp0,hpp1,zkU ck.2 hsi,ck.2.some hsi,zlS ck.2 hsi,hsi,hx0,hx1,jW,jY,implies_true,true_and,and_true,and_self]
  refine zkj (zwR f c r.l[k] s _ fk ck sk) rfl ?_
  rintro v h3 le3 ⟨q,rfl,eq,okq,mq⟩
  have rk3:=rk.mono le3
  simp only [go_sem,jq,jj,jy,jv,jk,jx,zkv rk3 hlt,rk3.some hlt,hlt,hlti,zkv ptok hlt2,ptok.some hlt2,hlt2,hlt2i,htog,zkS ck.1 hpi,ck.1.some hpi,zlR ck.1 hpi,hpi,hpp0,hpp1,zkU ck.2 hsi,ck.2.some hsi,zlS ck.2 hsi,hsi,hx0,hx1,jW,jY,implies_true,true_and,and_true,and_self]
  refine U_1 10 0 [1,0] rfl rfl ?_
  refine Evs ?_
  refine U_1 11 0 [] rfl rfl ?_
  refine Evs ?_
  refine ⟨by simp only [maxLen];omega,by omega,?_⟩
  refine U_t [12] rfl ?_
  refine Evs ?_
  refine U_1 13 0 [] rfl rfl ?_
  refine Evs ?_
  refine U_d ?_
  refine Wk ?_
  refine ⟨(k+1,us ++ [q],h3),[0,1,2,3,4,9,11,13],⟨hlt,?_,fun q' hq'=>?_,Hp.le_trans hle le3⟩,by simp only;omega,?_⟩
  ·rw [List.map_append,hus,zym,zym,zyn,iget hlt,← eq];rfl
  ·rcases List.mem_append.1 hq' with hq'|hq'
   ·exact Enc.mono le3 (huok q' hq')
   ·rw [List.mem_singleton.1 hq'];exact okq
  have hle3:=Hp.le_trans hle0 le3
  refine Evs ?_
  simp only [zyl,minL,zyn,List.flatMap_append,← hw1,← hm1]
  exact Gi (zjA hlt (by omega))
 ·have hge:=zjI hd
  obtain rfl:k=r.l.length:=by omega
  refine zc6 ?_
  refine Evs ?_
  refine znD 5 (zyl (Con.con c) p.l r.l.length) rfl rfl rmap_len.symm rfl fun w g1 ew Rw fw lw kw=>?_
  refine Evs ?_
  refine znD 6 (minL (Con.con c) s r.l r.l.length) rfl rfl rmap_len.symm rfl fun m g2 em Rm fm lm km=>?_
  refine Evs ?_
  refine znD 7 us rfl rfl hln.symm rfl fun u g3 eu Ru fu lu ku=>?_
  refine Evs ?_
  have lw:hk.le g1:=lw
  have lm:g1.le g2:=lm
  have lu:g2.le g3:=lu
  have okw:w.Ok g1:=Rw.ok (by decide) fun x hx=>trivial
  have okm:m.Ok g2:=Rm.ok (by decide) fun x hx=>by
   rw [em] at hx
   obtain ⟨i,hi,rfl⟩:=List.mem_map.1 hx
   exact zyk ck (r.l.getD i 0).toNat
  have oku:u.Ok g3:=Ru.ok (by decide) fun x hx=>Enc.mono (Hp.le_trans lw (Hp.le_trans lm lu)) (huok x (by rw [← eu];exact hx))
  refine Wk ?_
  refine ⟨w,m,u,rfl,okw.mono (Hp.le_trans lm lu),okm.mono lu,oku,?_,em,by rw [eu,hus]⟩
  rw [ew,hptl,e1];rfl
theorem zyp {l:List DWindow} {t:Int} (h:0≤zwc l t):t≤zwc l t:=by
 unfold zwc at h ⊢
 split
 ·split
  ·exact Int.le_max_right _ _
  ·rename_i h1 _ h2;rw [if_pos h1] at h;simp only [h2] at h;omega
 ·rename_i h1;rw [if_neg h1] at h;omega
theorem zyq {l:List DWindow} {t:Int} {h:Hp} (hl:∀ w ∈ l,Enc.ok h w) (ht:I64 t):I64 (zwc l t):=by
 have hm:I64 (-1):=by unfold I64;omega
 unfold zwc
 split
 ·split
  ·rename_i w hw
   have:=(hl w (List.mem_of_find?_eq_some hw)).1
   unfold I64 at *
   rw [Int.max_def];split <;> omega
  ·exact hm
 ·exact hm
def zyr (w:List Bool) (m:List Int) (u:List (List DWindow)) (k:Nat) (l:List Int):Option (List Int) :=
 let t:=IntKind.i64.wrap (l.getD k 0+m.getD k 0)
 let n:=zwc (u.getD (k+1) []) t
 if n < 0∨(t < n∧w.getD (k+1) false=false) then none else some (l ++ [n])
def slK (w:List Bool) (m:List Int) (u:List (List DWindow)) (st:Int):Nat→Option (List Int)
 | 0=>some [st]
 | k+1=>(slK w m u st k).bind (zyr w m u k)
def zys (w:List Bool) (m:List Int) (u:List (List DWindow)) (st:Int):Option (List Int):=if zwb (u.getD 0 []) st=true then slK w m u st (u.length - 1) else none
theorem zyt {w:List Bool} {m:List Int} {u:List (List DWindow)} {st:Int} (h:zwb (u.getD 0 []) st=false):zys w m u st=none:=by rw [zys,if_neg (by rw [h];exact Bool.false_ne_true)]
theorem zyu {w:List Bool} {m:List Int} {u:List (List DWindow)} {st:Int} (h:zwb (u.getD 0 []) st=true):zys w m u st=slK w m u st (u.length - 1):=by rw [zys,if_pos h]
theorem zyv {w:List Bool} {m:List Int} {u:List (List DWindow)} {st:Int} {k:Nat} (h:slK w m u st k=none):∀ {n:Nat},k≤n→slK w m u st n=none
 | 0,hn=>by rw [← Nat.le_zero.1 hn,h]
 | n+1,hn=>by
  rcases Nat.lt_or_ge k (n+1) with h1|h1
  ·rw [slK,zyv h (Nat.le_of_lt_succ h1)];rfl
  ·obtain rfl:k=n+1:=by omega
   exact h
theorem zyw {w:List Bool} {m:List Int} {u:List (List DWindow)} {st:Int}:∀ {k:Nat} {l:List Int},slK w m u st k=some l→l.length=k+1
 | 0,l,h=>by rw [slK] at h;rw [← Option.some.inj h];rfl
 | k+1,l,h=>by
  rw [slK] at h
  cases hk:slK w m u st k with
  | none=>rw [hk] at h;cases h
  | some p =>
   rw [hk,Option.bind_some] at h
   unfold zyr at h
   dsimp only at h
   split at h
   ·cases h
   ·rw [← Option.some.inj h,List.length_append,zyw hk];rfl
theorem lget {l:List (Sl DWindow)} {i:Nat} (hi:i < l.length):(l.map (·.l)).getD i []=l[i].l:=by simp [List.getD_eq_getElem?_getD,hi]
theorem zyx {l:List Bool} {i:Nat} (hi:i < l.length):l.getD i false=l[i]:=by simp [List.getD_eq_getElem?_getD,hi]
theorem zyy {l:List Int} {i:Nat} (hi:i < l.length):(l.flatMap Enc.enc).getD i undef=Value.int .i64 l[i]:=by rw [znL];simp [List.getD_eq_getElem?_getD,hi]
theorem zyz {l:List Int}:(l.flatMap Enc.enc).length=l.length:=by rw [znL,List.length_map]
theorem zyA (w:Sl Bool) (m:Sl Int) (u:Sl (Sl DWindow)) (st:Int) (h:Hp) (hw:w.Ok h) (hm:m.Ok h) (hu:u.Ok h) (hst:I64 st) (hwn:w.l.length=u.l.length) (hmn:m.l.length=u.l.length) (h0:0 < u.l.length) (hz:u.l.length≤1048576):Ct jV 178 [.agg #[w.val,m.val,u.val],.int .i64 st] h fun v h'=>∃ s:Sl Int,v=.tuple #[s.val,.bool (zys w.l m.l (u.l.map (·.l)) st).isSome]∧s.l=(zys w.l m.l (u.l.map (·.l)) st).getD []∧s.Ok h':=by
 have hat0:=zku hu h0
 simp only [go_sem,Nat.zero_mul] at hat0
 have h0i:(0:Int) < u.l.length:=by omega
 refine zdn (fun A W=>by simp) Tryz.func178 rfl rfl (by simp) fun W0=>?_
 repeat' first|refine Wa ?_|refine zhF (fun _=>zwk u.l[0] st _ (hu.el h0)) ?_|(simp only [go_sem,jq,jj,jy,jv,jk,jx,hat0,hu.some h0,h0,h0i,Int.toNat_zero,Nat.zero_mul,Int.le_refl,implies_true,true_and,and_true];try rfl)|refine Wb ?_|fail
 have hul:(u.l.map (·.l)).length=u.l.length:=List.length_map ..
 refine zc9 rfl (fun hx=>?_) (fun hx=>?_)
 ·rw [Bool.not_eq_true'] at hx
  rw [zyt (by rw [lget h0];exact hx)]
  refine Wk ?_
  exact ⟨⟨none,0,[]⟩,rfl,rfl,zmo⟩
 rw [Bool.not_eq_false'] at hx
 rw [zyu (by rw [lget h0];exact hx),hul]
 refine Wk ?_
 refine zl0 (ι:=Nat × List Int) (fun i=>⟨[(2,true,.c (.p 0 0)),(4,true,.c (.v (.slice none 0 0))),(5,true,.c (.v (.bool false))),(6,true,.c (.s 1)),(7,true,.c (.v (.int .i64 (i.1+1:Nat))))],[(0,.box 162 [.v w.val,.v m.val,.v u.val]),(1,.row 3 1 (i.1+1) (i.2.flatMap Enc.enc))],h,2⟩) (fun i=>i.1+1≤u.l.length∧slK w.l m.l (u.l.map (·.l)) st i.1=some i.2∧∀ x ∈ i.2,I64 x) (fun i=>u.l.length - i.1) (0,[st]) ⟨h0,rfl,fun x hx=>by rw [List.mem_singleton.1 hx];exact hst⟩ [0,1] ?_ ?_
 ·refine Evs ?_
  exact Gk
 rintro ⟨k,l⟩ ⟨hkn,hsk,hli⟩
 simp only at hkn hsk hli
 have hlen:=zyw hsk
 refine Wk ?_
 refine zc9 rfl (fun hd=>?_) (fun hd=>?_)
 ·have hlt:k+1 < u.l.length:=by have:=of_decide_eq_true hd;omega
  have hlti:((k+1:Nat):Int) < u.l.length:=by omega
  have hkl:k < l.length:=by omega
  have hkli:(k:Int) < l.length:=by omega
  have hlts:(k:Int) < ((k+1:Nat):Int):=by omega
  have hw1:IntKind.i64.wrap (((k+1:Nat):Int) - 1)=(k:Int):=by rw [zjz (by omega)];omega
  have hgl:=zyy hkl
  have hfl:=zyz (l:=l)
  have hkm:k < m.l.length:=by omega
  have hkmi:(k:Int) < m.l.length:=by omega
  have hatm:=zkv hm hkm
  simp only [Nat.mul_one] at hatm
  have hgm:m.l.getD k 0=m.l[k]:=iget hkm
  obtain ⟨t,hsum⟩:∃ t,IntKind.i64.wrap (l[k]+m.l[k])=t:=⟨_,rfl⟩
  have hkw:k+1 < w.l.length:=by omega
  have hkwi:(((k+1:Nat):Int)) < w.l.length:=by omega
  have hgw:w.l.getD (k+1) false=w.l[k+1]:=zyx hkw
  have hno:zyr w.l m.l (u.l.map (·.l)) k l=none→slK w.l m.l (u.l.map (·.l)) st (u.l.length - 1)=none:=fun e=>zyv (k:=k+1) (by rw [slK,hsk];exact e) (by omega)
  have ht64:I64 t:=by rw [← hsum];exact i64w _
  obtain ⟨n,hne⟩:∃ n,zwc u.l[k+1].l t=n:=⟨_,rfl⟩
  have hst2:zyr w.l m.l (u.l.map (·.l)) k l=if n < 0∨(t < n∧w.l[k+1]=false) then none else some (l ++ [n]):=by
   unfold zyr
   simp only [iget hkl,hgm,hsum,lget hlt,hne,hgw]
  have hn64:I64 n:=by rw [← hne];exact zyq (fun x hx=>(hu.el hlt).2.2.2.1 x hx) ht64
  have hck:∀ {b:Bool},(b=false)=(b=false):=rfl
  repeat' first|refine Wa ?_|(simp only [go_sem,jq,jj,jy,jv,jk,jx,hw1,hatm,hm.some hkm,hkm,hkmi,hkl,hkli,hgl,hfl,hsum,Nat.mul_one,hlts,jW,jY,implies_true,true_and,and_true,and_self];try rfl)|refine Wb ?_|fail
  refine znv rfl ?_
  refine U_t [0,1,5,7,2,6,8,3,9,4,10,11,12] rfl ?_
  simp only [go_sem,jq,jj,jy,jv,jk,jx,hw1,hatm,hm.some hkm,hkm,hkmi,hkl,hkli,hgl,hfl,hsum,Nat.mul_one,hlts,jW,jY,implies_true,true_and,and_true,and_self]
  refine U_d ?_
  repeat' first|refine Wa ?_|refine zhF (fun _=>zwl u.l[k+1] t _ (hu.el hlt)) ?_|(simp only [go_sem,jq,jj,jy,jv,jk,jx,zku hu hlt,hu.some hlt,hlt,hlti,jW,jY,implies_true,true_and,and_true,and_self];try rfl)|refine Wb ?_|fail
  rw [hne]
  by_cases hy:n < 0
  ·repeat' first|refine Wa ?_|(simp only [go_sem,jq,jj,jy,jv,jk,jx,eq_true hy,reduceCtorEq,decide_true,decide_false,Bool.not_true,Bool.not_false,Bool.true_or,Bool.false_or,Bool.or_false,Bool.or_true,Bool.true_and,Bool.false_and,Bool.and_true,Bool.and_false,Bool.false_eq_true,false_implies,implies_true,true_and];try rfl)|refine Wb ?_|fail
   refine zc9 rfl (fun hz=>?_) (fun hz=>?_)
   case refine_2=>cases hz
   refine Wk ?_
   rw [hno (by rw [hst2,if_pos (.inl hy)])]
   exact ⟨⟨none,0,[]⟩,rfl,rfl,zmo⟩
  have hge2:t≤n:=by have:=zyp (l:=u.l[k+1].l) (t:=t) (by omega);omega
  by_cases hy2:t < n
  ·have bne_t:(n != t)=true:=by rw [bne_iff_ne];omega
   repeat' first|refine Wa ?_|(simp only [go_sem,jq,jj,jy,jv,jk,jx,eq_false hy,eq_true hy2,znA hw hkw,hw.some hkw,hkw,hkwi,hck,jW,jY,implies_true,true_and,and_true,and_self,reduceCtorEq,decide_true,decide_false,Bool.not_true,Bool.not_false,Bool.true_or,Bool.false_or,Bool.or_false,Bool.or_true,Bool.true_and,Bool.false_and,Bool.and_true,Bool.and_false,Bool.false_eq_true,false_implies,implies_true,true_and];try rfl)|refine Wb ?_|fail
   refine zc9 rfl (fun hz=>?_) (fun hz=>?_)
   ·refine Wk ?_
    rw [hno (by rw [hst2,if_pos (.inr ⟨hy2,by simpa using hz⟩)])]
    exact ⟨⟨none,0,[]⟩,rfl,rfl,zmo⟩
   have hneg:¬ (n < 0∨(t < n∧w.l[k+1]=false)):=by
    rintro (e|e)
    ·exact hy e
    ·rw [e.2] at hz;cases hz
   refine Wk ?_
   refine ⟨by simp only [maxLen];omega,by omega,?_⟩
   refine Wk ?_
   refine ⟨(k+1,l ++ [n]),[0,3],⟨by simp only;omega,by rw [slK,hsk,Option.bind_some,hst2,if_neg hneg],fun x hx=>?_⟩,by simp only;omega,?_⟩
   ·rcases List.mem_append.1 hx with hx|hx
    ·exact hli x hx
    ·rw [List.mem_singleton.1 hx];exact hn64
   refine Evs ?_
   simp only [List.flatMap_append]
   exact Gi (zjA (n:=u.l.length) (k:=k+1) hlt (by omega))
  ·have bne_f:(n != t)=false:=by rw [bne_eq_false_iff_eq];omega
   repeat' first|refine Wa ?_|(simp only [go_sem,jq,jj,jy,jv,jk,jx,eq_false hy,eq_false hy2,znA hw hkw,hw.some hkw,hkw,hkwi,hck,jW,jY,implies_true,true_and,and_true,and_self,reduceCtorEq,decide_true,decide_false,Bool.not_true,Bool.not_false,Bool.true_or,Bool.false_or,Bool.or_false,Bool.or_true,Bool.true_and,Bool.false_and,Bool.and_true,Bool.and_false,Bool.false_eq_true,false_implies,implies_true,true_and];try rfl)|refine Wb ?_|fail
   refine zc9 rfl (fun hz=>?_) (fun hz=>?_)
   ·cases hz
   have hneg:¬ (n < 0∨(t < n∧w.l[k+1]=false)):=by
    rintro (e|e)
    ·exact hy e
    ·exact hy2 e.1
   refine Wk ?_
   refine ⟨by simp only [maxLen];omega,by omega,?_⟩
   refine Wk ?_
   refine ⟨(k+1,l ++ [n]),[0,3],⟨by simp only;omega,by rw [slK,hsk,Option.bind_some,hst2,if_neg hneg],fun x hx=>?_⟩,by simp only;omega,?_⟩
   ·rcases List.mem_append.1 hx with hx|hx
    ·exact hli x hx
    ·rw [List.mem_singleton.1 hx];exact hn64
   refine Evs ?_
   simp only [List.flatMap_append]
   exact Gi (zjA (n:=u.l.length) (k:=k+1) hlt (by omega))
 ·have hge:u.l.length≤k+1:=by have:=of_decide_eq_false hd;omega
  have hke:u.l.length - 1=k:=by omega
  refine zc6 ?_
  refine Evs ?_
  refine znD 1 l rfl rfl hlen.symm rfl fun q h' e1 R f1 l1 k1=>?_
  refine Wk ?_
  rw [hke,hsk]
  exact ⟨q,rfl,e1,R.ok (by decide) fun x hx=>hli x (by rw [← e1];exact hx)⟩
theorem zZ5 (c:DChart) (s:DShip) (p r:Sl Int) (u:Sl (Sl DWindow)) (st:Int) (h:Hp) (hc:Enc.ok h c) (hs:Enc.ok h s) (hp:p.Ok h) (hr:r.Ok h) (hu:u.Ok h) (hst:I64 st) (hrn:r.l.length=u.l.length) (hpn:p.l.length=u.l.length+1) (h0:0 < u.l.length) (hz:u.l.length≤1048576) (hri:∀ i (hi:i < r.l.length),0≤r.l[i]∧r.l[i] < c.segments.l.length) (hpi:∀ i (hi:i < p.l.length),0≤p.l[i]∧p.l[i] < c.points.l.length):Ct jV 167 [c.v,s.v,p.val,r.val,u.val,.int .i64 st] h fun v h'=>∃ q:Sl Int,v=.tuple #[q.val,.bool (zys (zyl (Con.con c) p.l r.l.length) (minL (Con.con c) s r.l r.l.length) (u.l.map (·.l)) st).isSome]∧q.l=(zys (zyl (Con.con c) p.l r.l.length) (minL (Con.con c) s r.l r.l.length) (u.l.map (·.l)) st).getD []∧q.Ok h':=by
 have hsl:(Con.con c).segments=c.segments.l:=zvJ c
 have hpl:(Con.con c).points=c.points.l:=zwZ c
 have hwlen:(zyl (Con.con c) p.l r.l.length).length=r.l.length:=rmap_len
 have hmlen:(minL (Con.con c) s r.l r.l.length).length=r.l.length:=rmap_len
 have hat0:=zku hu h0
 simp only [go_sem,Nat.zero_mul] at hat0
 have h0i:(0:Int) < u.l.length:=by omega
 refine zdn (fun A W=>by simp) Tryz.func167 rfl rfl (by simp) fun W0=>?_
 repeat' first|refine Wa ?_|refine zhF (fun _=>zZv u.l[0] st _ (hu.el h0)) ?_|(simp only [go_sem,jq,jj,jy,jv,jk,jx,hat0,hu.some h0,h0,h0i,Int.toNat_zero,Nat.zero_mul,Int.le_refl,implies_true,true_and,and_true];try rfl)|refine Wb ?_|fail
 have hul:(u.l.map (·.l)).length=u.l.length:=List.length_map ..
 refine zc9 rfl (fun hx=>?_) (fun hx=>?_)
 ·rw [Bool.not_eq_true'] at hx
  rw [zyt (by rw [lget h0];exact hx)]
  refine Wk ?_
  exact ⟨⟨none,0,[]⟩,rfl,rfl,zmo⟩
 rw [Bool.not_eq_false'] at hx
 rw [zyu (by rw [lget h0];exact hx),hul]
 refine Wk ?_
 refine zl0 (ι:=Nat × List Int) (fun i=>⟨[(2,true,.c (.v p.val)),(3,true,.c (.v r.val)),(4,true,.c (.v u.val)),(6,true,.c (.p 0 0)),(7,true,.c (.p 1 0)),(12,true,.c (.v (.slice none 0 0))),(13,true,.c (.v (.bool false))),(14,true,.c (.s 2)),(15,true,.c (.v (.int .i64 (i.1+1:Nat))))],[(0,.box 57 [.v c.points.val,.v c.segments.val]),(1,.box 157 [.v (.string s.name),.v (.int .i64 s.length),.v (.int .i64 s.draught),.v (.int .i64 s.line),.v (.int .i64 s.tugs),.v (.bool s.slow)]),(2,.row 3 1 (i.1+1) (i.2.flatMap Enc.enc))],h,3⟩) (fun i=>i.1+1≤u.l.length∧slK (zyl (Con.con c) p.l r.l.length) (minL (Con.con c) s r.l r.l.length) (u.l.map (·.l)) st i.1=some i.2∧∀ x ∈ i.2,I64 x) (fun i=>u.l.length - i.1) (0,[st]) ⟨h0,rfl,fun x hx=>by rw [List.mem_singleton.1 hx];exact hst⟩ [0,1,2] ?_ ?_
 ·refine Evs ?_
  exact Gk
 rintro ⟨k,l⟩ ⟨hkn,hsk,hli⟩
 simp only at hkn hsk hli
 have hlen:=zyw hsk
 refine Wk ?_
 refine zc9 rfl (fun hd=>?_) (fun hd=>?_)
 ·have hlt:k+1 < u.l.length:=by have:=of_decide_eq_true hd;omega
  have hlti:((k+1:Nat):Int) < u.l.length:=by omega
  have hkl:k < l.length:=by omega
  have hkli:(k:Int) < l.length:=by omega
  have hlts:(k:Int) < ((k+1:Nat):Int):=by omega
  have hw1:IntKind.i64.wrap (((k+1:Nat):Int) - 1)=(k:Int):=by rw [zjz (by omega)];omega
  have hgl:=zyy hkl
  have hfl:=zyz (l:=l)
  have hkr:k < r.l.length:=by omega
  have hkri:(k:Int) < r.l.length:=by omega
  have hatm:=zkv hr hkr
  simp only [Nat.mul_one] at hatm
  obtain ⟨hx0,hx1⟩:=hri k hkr
  have hsi:r.l[k].toNat < c.segments.l.length:=by omega
  have hgm:(minL (Con.con c) s r.l r.l.length).getD k 0=zvG s c.segments.l[r.l[k].toNat]:=by
   rw [iget (by omega)]
   simp only [minL,List.getElem_map,List.getElem_range]
   rw [hsl,iget hkr,gget hsi]
  obtain ⟨t,hsum⟩:∃ t,IntKind.i64.wrap (l[k]+zvG s c.segments.l[r.l[k].toNat])=t:=⟨_,rfl⟩
  have hkw:k+1 < p.l.length:=by omega
  have hkwi:(((k+1:Nat):Int)) < p.l.length:=by omega
  obtain ⟨hp0,hp1⟩:=hpi (k+1) hkw
  have hpi2:p.l[k+1].toNat < c.points.l.length:=by omega
  have hgw:(zyl (Con.con c) p.l r.l.length).getD (k+1) false=c.points.l[p.l[k+1].toNat].wait:=by
   rw [zyx (by omega)]
   simp only [zyl,List.getElem_map,List.getElem_range]
   rw [hpl,iget hkw,pget hpi2]
  have hno:zyr (zyl (Con.con c) p.l r.l.length) (minL (Con.con c) s r.l r.l.length) (u.l.map (·.l)) k l=none→slK (zyl (Con.con c) p.l r.l.length) (minL (Con.con c) s r.l r.l.length) (u.l.map (·.l)) st (u.l.length - 1)=none:=fun e=>zyv (k:=k+1) (by rw [slK,hsk];exact e) (by omega)
  have ht64:I64 t:=by rw [← hsum];exact i64w _
  obtain ⟨n,hne⟩:∃ n,zwc u.l[k+1].l t=n:=⟨_,rfl⟩
  have hst2:zyr (zyl (Con.con c) p.l r.l.length) (minL (Con.con c) s r.l r.l.length) (u.l.map (·.l)) k l=if n < 0∨(t < n∧c.points.l[p.l[k+1].toNat].wait=false) then none else some (l ++ [n]):=by
   unfold zyr
   simp only [iget hkl,hgm,hsum,lget hlt,hne,hgw]
  have hn64:I64 n:=by rw [← hne];exact zyq (fun x hx=>(hu.el hlt).2.2.2.1 x hx) ht64
  have hck:∀ {b:Bool},(b=false)=(b=false):=rfl
  repeat' first|refine Wa ?_|(simp only [go_sem,jq,jj,jy,jv,jk,jx,hw1,hatm,hr.some hkr,hkr,hkri,zkU hc.2 hsi,hc.2.some hsi,zlS hc.2 hsi,hsi,hx0,hx1,hkl,hkli,hgl,hfl,hsum,Nat.mul_one,hlts,jW,jY,implies_true,true_and,and_true,and_self];try rfl)|refine Wb ?_|fail
  refine znv rfl ?_
  refine U_t [0,1,5,7,8,14,2,6,9,3,10,4,11,12,13] rfl ?_
  simp only [go_sem,jq,jj,jy,jv,jk,jx,hw1,hatm,hr.some hkr,hkr,hkri,zkU hc.2 hsi,hc.2.some hsi,zlS hc.2 hsi,hsi,hx0,hx1,hkl,hkli,hgl,hfl,hsum,Nat.mul_one,hlts,jW,jY,implies_true,true_and,and_true,and_self]
  refine U_1 15 0 [4,3,2] rfl rfl ?_
  simp only [go_sem,jq,jj,jy,jv,jk,jx,hw1,hatm,hr.some hkr,hkr,hkri,zkU hc.2 hsi,hc.2.some hsi,zlS hc.2 hsi,hsi,hx0,hx1,hkl,hkli,hgl,hfl,hsum,Nat.mul_one,hlts,jW,jY,implies_true,true_and,and_true,and_self]
  refine zhF (fun _=>zZj c.segments.l[r.l[k].toNat] s _) ?_
  simp only [go_sem,jq,jj,jy,jv,jk,jx,hw1,hatm,hr.some hkr,hkr,hkri,zkU hc.2 hsi,hc.2.some hsi,zlS hc.2 hsi,hsi,hx0,hx1,hkl,hkli,hgl,hfl,hsum,Nat.mul_one,hlts,jW,jY,implies_true,true_and,and_true,and_self]
  refine U_t [16,17] rfl ?_
  simp only [go_sem,jq,jj,jy,jv,jk,jx,hw1,hatm,hr.some hkr,hkr,hkri,zkU hc.2 hsi,hc.2.some hsi,zlS hc.2 hsi,hsi,hx0,hx1,hkl,hkli,hgl,hfl,hsum,Nat.mul_one,hlts,jW,jY,implies_true,true_and,and_true,and_self]
  refine U_d ?_
  repeat' first|refine Wa ?_|refine zhF (fun _=>zZw u.l[k+1] t _ (hu.el hlt)) ?_|(simp only [go_sem,jq,jj,jy,jv,jk,jx,zku hu hlt,hu.some hlt,hlt,hlti,jW,jY,implies_true,true_and,and_true,and_self];try rfl)|refine Wb ?_|fail
  rw [hne]
  by_cases hy:n < 0
  ·refine Wk ?_
   refine znv rfl ?_
   refine U_t [0,1,2,3,4,5,6,7,9,10,8,11,12,13,14,15,16,17,18] rfl ?_
   simp only [go_sem,jq,jj,jy,jv,jk,jx,eq_true hy,reduceCtorEq,decide_true,decide_false,Bool.not_true,Bool.not_false,Bool.true_or,Bool.false_or,Bool.or_false,Bool.or_true,Bool.true_and,Bool.false_and,Bool.and_true,Bool.and_false,Bool.false_eq_true,false_implies,implies_true,true_and]
   refine U_d ?_
   refine Wk ?_
   refine zc9 rfl (fun hz=>?_) (fun hz=>?_)
   case refine_2=>cases hz
   refine Wk ?_
   rw [hno (by rw [hst2,if_pos (.inl hy)])]
   exact ⟨⟨none,0,[]⟩,rfl,rfl,zmo⟩
  have hge2:t≤n:=by have:=zyp (l:=u.l[k+1].l) (t:=t) (by omega);omega
  by_cases hy2:t < n
  ·have bne_t:(n != t)=true:=by rw [bne_iff_ne];omega
   refine Wk ?_
   refine znv rfl ?_
   refine U_t [0,1,2,3,4,5,6,7,9,10,8,11,12,13,14,15,16,17,18] rfl ?_
   simp only [go_sem,jq,jj,jy,jv,jk,jx,eq_false hy,bne_t,zkv hp hkw,hp.some hkw,hkw,hkwi,hck,zlR hc.1 hpi2,zkS hc.1 hpi2,hc.1.some hpi2,hpi2,hp0,hp1,jW,jY,implies_true,true_and,and_true,and_self,reduceCtorEq,decide_true,decide_false,Bool.not_true,Bool.not_false,Bool.true_or,Bool.false_or,Bool.or_false,Bool.or_true,Bool.true_and,Bool.false_and,Bool.and_true,Bool.and_false,Bool.false_eq_true,false_implies,implies_true,true_and]
   refine U_d ?_
   refine Wk ?_
   refine zc9 rfl (fun hz=>?_) (fun hz=>?_)
   ·refine Wk ?_
    rw [hno (by rw [hst2,if_pos (.inr ⟨hy2,by simpa using hz⟩)])]
    exact ⟨⟨none,0,[]⟩,rfl,rfl,zmo⟩
   have hneg:¬ (n < 0∨(t < n∧c.points.l[p.l[k+1].toNat].wait=false)):=by
    rintro (e|e)
    ·exact hy e
    ·rw [e.2] at hz;cases hz
   refine Wk ?_
   refine ⟨by simp only [maxLen];omega,by omega,?_⟩
   refine Wk ?_
   refine ⟨(k+1,l ++ [n]),[0,1,4],⟨by simp only;omega,by rw [slK,hsk,Option.bind_some,hst2,if_neg hneg],fun x hx=>?_⟩,by simp only;omega,?_⟩
   ·rcases List.mem_append.1 hx with hx|hx
    ·exact hli x hx
    ·rw [List.mem_singleton.1 hx];exact hn64
   refine Evs ?_
   simp only [List.flatMap_append]
   exact Gi (zjA (n:=u.l.length) (k:=k+1) hlt (by omega))
  ·have bne_f:(n != t)=false:=by rw [bne_eq_false_iff_eq];omega
   refine Wk ?_
   refine znv rfl ?_
   refine U_t [0,1,2,3,4,5,6,7,9,10,8,11,12,13,14,15,16,17,18] rfl ?_
   simp only [go_sem,jq,jj,jy,jv,jk,jx,eq_false hy,bne_f,zkv hp hkw,hp.some hkw,hkw,hkwi,hck,zlR hc.1 hpi2,zkS hc.1 hpi2,hc.1.some hpi2,hpi2,hp0,hp1,jW,jY,implies_true,true_and,and_true,and_self,reduceCtorEq,decide_true,decide_false,Bool.not_true,Bool.not_false,Bool.true_or,Bool.false_or,Bool.or_false,Bool.or_true,Bool.true_and,Bool.false_and,Bool.and_true,Bool.and_false,Bool.false_eq_true,false_implies,implies_true,true_and]
   refine U_d ?_
   refine Wk ?_
   refine zc9 rfl (fun hz=>?_) (fun hz=>?_)
   ·cases hz
   have hneg:¬ (n < 0∨(t < n∧c.points.l[p.l[k+1].toNat].wait=false)):=by
    rintro (e|e)
    ·exact hy e
    ·exact hy2 e.1
   refine Wk ?_
   refine ⟨by simp only [maxLen];omega,by omega,?_⟩
   refine Wk ?_
   refine ⟨(k+1,l ++ [n]),[0,1,4],⟨by simp only;omega,by rw [slK,hsk,Option.bind_some,hst2,if_neg hneg],fun x hx=>?_⟩,by simp only;omega,?_⟩
   ·rcases List.mem_append.1 hx with hx|hx
    ·exact hli x hx
    ·rw [List.mem_singleton.1 hx];exact hn64
   refine Evs ?_
   simp only [List.flatMap_append]
   exact Gi (zjA (n:=u.l.length) (k:=k+1) hlt (by omega))
 ·have hge:u.l.length≤k+1:=by have:=of_decide_eq_false hd;omega
  have hke:u.l.length - 1=k:=by omega
  refine zc6 ?_
  refine Evs ?_
  refine znD 2 l rfl rfl hlen.symm rfl fun q h' e1 R f1 l1 k1=>?_
  refine Wk ?_
  rw [hke,hsk]
  exact ⟨q,rfl,e1,R.ok (by decide) fun x hx=>hli x (by rw [← e1];exact hx)⟩
def zyB (f:PForecast) (c:PChart) (s:DShip) (a:Int) (r:List Int) (st:Int):Option (List Int):=if voOk f c s a r=true then zys (zyl c ((zwV c a r).getD []) r.length) (minL c s r r.length) (zym f c s r r.length) st else none
def zyC (x:PHarbour) (a:DCall) (r:List Int):Bool:=match zwV x.chart a.src r with|none=>false|some l=>decide (l.getD r.length 0=a.dst)
def zyD (x:PHarbour) (a:DCall):DShip:=x.fleet.getD a.ship.toNat dH
def cvOk (x:PHarbour) (a:DCall) (r:List Int):Bool:=zyC x a r && voOk x.forecast x.chart (zyD x a) a.src r
theorem zyE {x:DHarbour} {a:DCall} (h:zvB (Con.con x) a=true):zuY (Con.con x.forecast)=true∧zva (Con.con x.chart)=true∧(∃ hs:a.ship.toNat < x.fleet.l.length,zyD (Con.con x) a=x.fleet.l[a.ship.toNat]∧zvj x.fleet.l[a.ship.toNat]=true)∧0≤a.ship∧a.ship < x.fleet.l.length∧0≤a.src∧a.src < x.chart.points.l.length∧0≤a.dst∧a.dst < x.chart.points.l.length∧a.src ≠ a.dst∧0≤a.ready∧a.ready≤2880∧a.ready≤a.due∧a.due≤2880:=by
 rw [zvB,zvy,zvC,jJ,jJ,jJ,jJ,jJ,decide_eq_true_eq] at h
 obtain ⟨⟨⟨⟨⟨h1,h2⟩,h3⟩,h4⟩,h5⟩,h6⟩:=h
 have hs:a.ship.toNat < x.fleet.l.length:=by omega
 have hsh:zyD (Con.con x) a=x.fleet.l[a.ship.toNat]:=by
  rw [zyD,show (Con.con x).fleet=x.fleet.l from zu4 _,hget hs]
 refine ⟨h1,h2,⟨hs,hsh,?_⟩,by omega⟩
 rw [zvk,jJ,decide_eq_true_eq,decide_eq_true_eq] at h3
 have:=h3.2 _ hs
 rw [shOk,hget hs,jJ] at this
 exact this.1
theorem zyF {x:DHarbour} {a:DCall} {r:List Int} (h:zvB (Con.con x) a=true):voOk (Con.con x.forecast) (Con.con x.chart) (zyD (Con.con x) a) a.src r=(zxf (Con.con x.chart) a.src r && decide (0 < r.length)):=by
 obtain ⟨h1,h2,⟨hs,e,h3⟩,_⟩:=zyE h
 rw [voOk,h1,e,h3];rfl
theorem zZ6 {x:PHarbour} {a:DCall} {r:List Int} (h:zyC x a r=true):zxf x.chart a.src r=true:=by
 rw [zyC] at h
 rw [zxf]
 cases hr:zwV x.chart a.src r with
 | none=>rw [hr] at h;cases h
 | some l=>rfl
theorem zZ7 (f:DForecast) (c:DChart) (s:DShip) (r:Sl Int) (h:Hp) (hf:Enc.ok h f) (hc:Enc.ok h c) (hs:Enc.ok h s) (hr:r.Ok h) (hz:r.l.length≤1048576):Ct jV 165 [f.v,c.v,s.v,r.val] h fun v h'=>∃ u:Sl (Sl DWindow),v=u.val∧u.l.map (·.l)=zym (Con.con f) (Con.con c) s r.l r.l.length∧u.Ok h':=by
 have hl:=hr.max
 refine zdn (fun A W=>by simp) Tryz.func165 rfl rfl (by simp) fun W0=>?_
 refine Wk ?_
 refine zl0 (ι:=Nat × List (Sl DWindow) × Hp) (fun i=>⟨[(4,true,.c (.p 0 0)),(5,true,.c (.p 1 0)),(6,true,.c (.p 2 0)),(8,true,.c (.v (.slice none 0 0))),(9,true,.c (.s 3)),(13,true,.c (.v r.val)),(14,true,.c (.v (.int .i64 r.l.length))),(15,true,.c (.v (.int .i64 i.1)))],[(0,.box 53 [.v (.int .i64 f.tide.mean),.v f.tide.parts.val,.v f.surges.val]),(1,.box 57 [.v c.points.val,.v c.segments.val]),(2,.box 157 [.v (.string s.name),.v (.int .i64 s.length),.v (.int .i64 s.draught),.v (.int .i64 s.line),.v (.int .i64 s.tugs),.v (.bool s.slow)]),(3,.row 283 1 i.1 (i.2.1.flatMap Enc.enc))],i.2.2,4⟩) (fun i=>i.1≤r.l.length∧i.2.1.map (·.l)=zym (Con.con f) (Con.con c) s r.l i.1∧(∀ q ∈ i.2.1,Enc.ok i.2.2 q)∧h.le i.2.2) (fun i=>r.l.length - i.1) (0,[],h) ⟨Nat.zero_le _,rfl,fun _ h=>(by cases h),Hp.le_refl _⟩ [0,1,2,3] ?_ ?_
 ·refine Evs ?_
  exact Gk
 rintro ⟨k,us,hk⟩ ⟨hkn,hus,huok,hle⟩
 simp only at hkn hus huok hle
 have hln:us.length=k:=by have:=congrArg List.length hus;rwa [List.length_map,zym,rmap_len] at this
 have fk:Enc.ok hk f:=Enc.mono hle hf
 have ck:Enc.ok hk c:=Enc.mono hle hc
 have sk:Enc.ok hk s:=Enc.mono hle hs
 have r2:=hr.mono hle
 refine Wk ?_
 refine zc9 rfl (fun hd=>?_) (fun hd=>?_)
 ·have hlt:=zjH hd
  repeat' first|refine Wa ?_|(simp only [go_sem,jq,jj,jy,jv,jk,jx,zkv r2 hlt,r2.some hlt,hlt,jW];try rfl)|refine Wb ?_|fail
  refine zkj (zZL f c r.l[k] s _ fk ck sk) rfl ?_
  rintro v h3 le3 ⟨q,rfl,eq,okq,mq⟩
  refine Evs ?_
  refine ⟨by simp only [maxLen];omega,by omega,?_⟩
  refine Wk ?_
  refine ⟨(k+1,us ++ [q],h3),[0,1,2,5],⟨hlt,?_,fun q' hq'=>?_,Hp.le_trans hle le3⟩,by simp only;omega,?_⟩
  ·rw [List.map_append,hus,zym,zym,zyn,iget hlt,← eq];rfl
  ·rcases List.mem_append.1 hq' with hq'|hq'
   ·exact Enc.mono le3 (huok q' hq')
   ·rw [List.mem_singleton.1 hq'];exact okq
  have hle3:=Hp.le_trans hle le3
  refine Evs ?_
  simp only [List.flatMap_append]
  exact Gi (zjA hlt (by omega))
 ·have hge:=zjI hd
  obtain rfl:k=r.l.length:=by omega
  refine zc6 ?_
  refine Evs ?_
  refine znD 3 us rfl rfl hln.symm rfl fun u g3 eu Ru fu lu ku=>?_
  have lu:hk.le g3:=lu
  have oku:u.Ok g3:=Ru.ok (by decide) fun x hx=>Enc.mono lu (huok x (by rw [← eu];exact hx))
  refine Wk ?_
  exact ⟨u,rfl,by rw [eu,hus],oku⟩
theorem zZ8 (f:DForecast) (c:DChart) (s:DShip) (a:Int) (r:Sl Int) (st:Int) (h:Hp) (hf:Enc.ok h f) (hc:Enc.ok h c) (hs:Enc.ok h s) (ha:I64 a) (hr:r.Ok h) (hst:I64 st) (hz:r.l.length≤1048576):Ct jV 95 [f.v,c.v,s.v,.int .i64 a,r.val,.int .i64 st] h fun v h'=>∃ q:Sl Int,v=.tuple #[q.val,.bool (zyB (Con.con f) (Con.con c) s a r.l st).isSome]∧q.l=(zyB (Con.con f) (Con.con c) s a r.l st).getD []∧q.Ok h':=by
 have hl:=hr.max
 have hsl:(Con.con c).segments=c.segments.l:=zvJ c
 have hpl:(Con.con c).points=c.points.l:=zwZ c
 refine zdn (fun A W=>by simp) Tryz.func95 rfl rfl (by simp) fun W0=>?_
 repeat' first|refine Wa ?_|refine zhF (fun _=>zY5 f _ hf) ?_|refine zhF (fun _=>zZa s _ hs) ?_|refine zhF (fun _=>zZR c a r _ hc ha hr hz) ?_|(simp only [go_sem,jq,jj,jy,jv,jk,jx];try rfl)|refine Wb ?_|fail
 refine zc9 rfl (fun hx=>?_) (fun hx=>?_)
 ·have hno:voOk (Con.con f) (Con.con c) s a r.l=false:=by
   rw [voOk]
   simp only [jQ,Bool.not_eq_true',beq_iff_eq] at hx
   rw [Bool.and_eq_false_iff,Bool.and_eq_false_iff,Bool.and_eq_false_iff,decide_eq_false_iff_not]
   rcases hx with ((hx|hx)|hx)|hx
   ·exact .inl (.inl (.inl hx))
   ·exact .inl (.inl (.inr hx))
   ·exact .inl (.inr hx)
   ·exact .inr (by omega)
  rw [zyB,if_neg (by rw [hno];exact Bool.false_ne_true)]
  refine Wk ?_
  exact ⟨⟨none,0,[]⟩,rfl,rfl,zmo⟩
 simp only [jp,Bool.not_eq_false',beq_eq_false_iff_ne,ne_eq] at hx
 obtain ⟨⟨⟨hF,hS⟩,hR⟩,h0⟩:=hx
 have hyes:voOk (Con.con f) (Con.con c) s a r.l=true:=by rw [voOk,hF,hS,hR,decide_eq_true (by omega)];rfl
 rw [zyB,if_pos hyes]
 obtain ⟨hC,hin,pl,hptl,hpk,hplen,hpx⟩:=zxi hR
 refine Wk ?_
 refine znv rfl ?_
 refine U_t [0,1,2,3,4,6,7,8,9,10,12] rfl ?_
 refine Evs ?_
 refine U_1 5 0 [9,8,7,1,0] rfl rfl ?_
 refine Evs ?_
 refine zkj (zZS c a r _ hc ha hr hz) rfl ?_
 rintro v h1 le1 ⟨p,rfl,e1,pok⟩
 have f1:Enc.ok h1 f:=Enc.mono le1 hf
 have c1:Enc.ok h1 c:=Enc.mono le1 hc
 have s1:Enc.ok h1 s:=Enc.mono le1 hs
 have r1:=hr.mono le1
 refine Evs ?_
 refine U_1 11 0 [1,0] rfl rfl ?_
 refine Evs ?_
 refine zkj (zZ7 f c s r _ f1 c1 s1 r1 hz) rfl ?_
 rintro v h2 le2 ⟨u,rfl,eu,uok⟩
 refine Evs ?_
 refine U_1 13 0 [] rfl rfl ?_
 refine Evs ?_
 rw [hptl] at e1
 have e1:p.l=pl:=e1
 have hun:u.l.length=r.l.length:=by have:=congrArg List.length eu;rwa [List.length_map,zym,rmap_len] at this
 refine zkj (zZ5 c s p r u st _ (Enc.mono le2 c1) (Enc.mono le2 s1) (pok.mono le2) (r1.mono le2) uok hst hun.symm (by rw [e1,hun];exact hplen) (by omega) (by omega) (fun i hi=>by rw [← hsl];exact zxj hpk (Nat.le_refl _) i hi hi) (fun i hi=>by rw [← hpl];exact hpx _ (by rw [← e1];exact List.getElem_mem hi))) rfl ?_
 rintro v h3 le3 ⟨q,rfl,eq,qok⟩
 refine Evs ?_
 refine U_t [14,15,16,17] rfl ?_
 refine Evs ?_
 refine U_d ?_
 refine Wk ?_
 refine ⟨q,?_,?_,qok⟩
 ·rw [hptl,← eu,e1];rfl
 ·rw [eq,hptl,← eu,e1];rfl
theorem zyG (x:DHarbour) (a:DCall) (r:Sl Int) (h:Hp) (hx:Enc.ok h x) (ha:Enc.ok h a) (hr:r.Ok h) (hz:r.l.length≤1048576) (hok:zvB (Con.con x) a=true):Ct jV 99 [x.v,a.v,r.val] h fun v h'=>∃ (w:Sl Bool) (m:Sl Int) (u:Sl (Sl DWindow)),v=.tuple #[.agg #[w.val,m.val,u.val],.bool (cvOk (Con.con x) a r.l)]∧w.Ok h'∧m.Ok h'∧u.Ok h'∧(cvOk (Con.con x) a r.l=true→w.l=zyl (Con.con x.chart) ((zwV (Con.con x.chart) a.src r.l).getD []) r.l.length∧m.l=minL (Con.con x.chart) (zyD (Con.con x) a) r.l r.l.length∧u.l.map (·.l)=zym (Con.con x.forecast) (Con.con x.chart) (zyD (Con.con x) a) r.l r.l.length):=by
 obtain ⟨hfo,hch,⟨hsi,hsh,hso⟩,hs0,hs1,_⟩:=zyE hok
 refine zdn (fun A W=>by simp) Tryz.func99 rfl rfl (by simp) fun W0=>?_
 refine Wk ?_
 refine zkj (zxl x.chart a.src r _ hx.2.1 ha.2.1 hr hz) rfl ?_
 rintro v h1 le1 ⟨p,rfl,e1,pok⟩
 have hx1:Enc.ok h1 x:=Enc.mono le1 hx
 have r1:=hr.mono le1
 refine Wk ?_
 cases hR:zwV (Con.con x.chart) a.src r.l with
 | none =>
  have hno:cvOk (Con.con x) a r.l=false:=by
   rw [cvOk,zyC,show (Con.con x).chart=Con.con x.chart from rfl,hR];rfl
  rw [hR] at e1
  have hpl0:p.l.length=0:=by rw [e1];rfl
  have he0:((p.l.length:Int) == 0)=true:=by rw [hpl0];rfl
  have hl1:((1:Int) < p.l.length)=False:=eq_false (by omega)
  rw [hno]
  refine znv rfl ?_
  refine U_t [0,1,2,3,4,5,10,6,11,7,8,9,12,13] rfl ?_
  simp only [go_sem,jq,jj,jy,jv,jk,jx,he0,hl1,reduceCtorEq,decide_true,decide_false,Bool.not_true,Bool.not_false,Bool.true_or,Bool.false_or,Bool.or_false,Bool.or_true,Bool.true_and,Bool.false_and,Bool.and_true,Bool.and_false,Bool.false_eq_true,false_implies,implies_true,true_and]
  refine U_d ?_
  refine Wk ?_
  refine zc9 rfl (fun hz=>?_) (fun hz=>?_)
  case refine_2=>cases hz
  refine Wk ?_
  first|exact ⟨⟨none,0,[]⟩,⟨none,0,[]⟩,⟨none,0,[]⟩,rfl,zmo,zmo,zmo⟩|exact ⟨⟨none,0,[]⟩,⟨none,0,[]⟩,⟨none,0,[]⟩,rfl,zmo,zmo,zmo,fun e=>by cases e⟩
 | some pl =>
  have hRo:zxf (Con.con x.chart) a.src r.l=true:=by rw [zxf,hR];rfl
  obtain ⟨hC,hin,pl',hptl,hpk,hplen,hpx⟩:=zxi hRo
  rw [hR] at hptl
  obtain rfl:pl=pl':=Option.some.inj hptl
  rw [hR] at e1
  have e1:p.l=pl:=e1
  have hpn:p.l.length=r.l.length+1:=by rw [e1];exact hplen
  have hlt:r.l.length < p.l.length:=by omega
  have hlti:(r.l.length:Int) < p.l.length:=by omega
  have hpnw:IntKind.i64.wrap ((p.l.length:Int) - 1)=(r.l.length:Int):=by rw [zjz (by omega)];omega
  have hne0:((p.l.length:Int) == 0)=false:=by rw [beq_eq_false_iff_ne];omega
  refine znv rfl ?_
  refine U_t [0,1,2,3,4,5,10,6,11,7,8,9,12,13] rfl ?_
  simp only [go_sem,jq,jj,jy,jv,jk,jx,hne0,hpnw,zkv pok hlt,pok.some hlt,hlt,hlti,jW,jY,implies_true,true_and,and_true,and_self,reduceCtorEq,decide_true,decide_false,Bool.not_true,Bool.not_false,Bool.true_or,Bool.false_or,Bool.or_false,Bool.or_true,Bool.true_and,Bool.false_and,Bool.and_true,Bool.and_false,Bool.false_eq_true,false_implies,implies_true,true_and]
  refine U_d ?_
  refine Wk ?_
  refine zc9 rfl (fun hz2=>?_) (fun hz2=>?_)
  ·have hno:cvOk (Con.con x) a r.l=false:=by
    rw [cvOk,zyC,show (Con.con x).chart=Con.con x.chart from rfl,hR]
    dsimp only
    rw [← e1,iget hlt,decide_eq_false (by simpa using hz2)];rfl
   rw [hno]
   refine Wk ?_
   first|exact ⟨⟨none,0,[]⟩,⟨none,0,[]⟩,⟨none,0,[]⟩,rfl,zmo,zmo,zmo⟩|exact ⟨⟨none,0,[]⟩,⟨none,0,[]⟩,⟨none,0,[]⟩,rfl,zmo,zmo,zmo,fun e=>by cases e⟩
  have hld:zyC (Con.con x) a r.l=true:=by
   rw [zyC,show (Con.con x).chart=Con.con x.chart from rfl,hR]
   dsimp only
   rw [← e1,iget hlt,decide_eq_true (by simpa using hz2)]
  rw [cvOk,hld,Bool.true_and,hsh]
  repeat' first|refine Wa ?_|(simp only [go_sem,jq,jj,jy,jv,jk,jx,zlT hx1.2.2.1 hsi,zk0 hx1.2.2.1 hsi,hx1.2.2.1.some hsi,hsi,hs0,hs1,jW,implies_true,true_and,and_true,and_self];try rfl)|refine Wb ?_|fail
  refine znv rfl ?_
  refine U_t [0,2,4,6,10,12,1,3,5,7,11,8,9] rfl ?_
  simp only [go_sem,jq,jj,jy,jv,jk,jx,zlT hx1.2.2.1 hsi,zk0 hx1.2.2.1 hsi,hx1.2.2.1.some hsi,hsi,hs0,hs1,jW,implies_true,true_and,and_true,and_self]
  refine U_1 13 0 [] rfl rfl ?_
  simp only [go_sem,jq,jj,jy,jv,jk,jx,zlT hx1.2.2.1 hsi,zk0 hx1.2.2.1 hsi,hx1.2.2.1.some hsi,hsi,hs0,hs1,jW,implies_true,true_and,and_true,and_self]
  refine zkj (zyo x.forecast x.chart x.fleet.l[a.ship.toNat] a.src r _ hx1.1 hx1.2.1 (hx1.2.2.1.el hsi) ha.2.1 r1 hz) rfl ?_
  rintro v h2 le2 ⟨w,m,u,rfl,ow,om,ou,hw⟩
  refine Evs ?_
  refine U_t [14,15] rfl ?_
  simp only [go_sem,jq,jj,jy,jv,jk,jx,zlT hx1.2.2.1 hsi,zk0 hx1.2.2.1 hsi,hx1.2.2.1.some hsi,hsi,hs0,hs1,jW,implies_true,true_and,and_true,and_self]
  refine U_1 16 0 [] rfl rfl ?_
  simp only [go_sem,jq,jj,jy,jv,jk,jx,zlT hx1.2.2.1 hsi,zk0 hx1.2.2.1 hsi,hx1.2.2.1.some hsi,hsi,hs0,hs1,jW,implies_true,true_and,and_true,and_self]
  refine U_t [17] rfl ?_
  simp only [go_sem,jq,jj,jy,jv,jk,jx,zlT hx1.2.2.1 hsi,zk0 hx1.2.2.1 hsi,hx1.2.2.1.some hsi,hsi,hs0,hs1,jW,implies_true,true_and,and_true,and_self]
  refine U_d ?_
  refine Wk ?_
  exact ⟨w,m,u,rfl,ow,om,ou,fun e=>by have:=hw e;rw [hR] at this;exact this⟩
theorem zZ9 (x:DHarbour) (a:DCall) (r:Sl Int) (h:Hp) (hx:Enc.ok h x) (ha:Enc.ok h a) (hr:r.Ok h) (hz:r.l.length≤1048576):Ct jV 94 [x.v,a.v,r.val] h fun v h'=>v=.bool (zyC (Con.con x) a r.l && decide (0 < r.l.length))∧h'=h:=by
 refine Ct.forget ?_
 refine zdn (fun A W=>by simp) Tryz.func94 rfl rfl (by simp) fun W0=>?_
 refine Wk ?_
 refine zkj (zZS x.chart a.src r _ hx.2.1 ha.2.1 hr hz) rfl ?_
 rintro v h1 le1 ⟨p,rfl,e1,pok⟩
 refine Wk ?_
 cases hR:zwV (Con.con x.chart) a.src r.l with
 | none =>
  have hno:zyC (Con.con x) a r.l=false:=by
   rw [zyC,show (Con.con x).chart=Con.con x.chart from rfl,hR]
  rw [hR] at e1
  have hpl0:p.l.length=0:=by rw [e1];rfl
  have he0:((p.l.length:Int) == 0)=true:=by rw [hpl0];rfl
  have hl1:((1:Int) < p.l.length)=False:=eq_false (by omega)
  rw [hno]
  refine znv rfl ?_
  refine U_t [0,1,2,3,4,5,10,6,11,7,8,9,12,13,14] rfl ?_
  simp only [go_sem,jq,jj,jy,jv,jk,jx,he0,hl1,reduceCtorEq,decide_true,decide_false,Bool.not_true,Bool.not_false,Bool.true_or,Bool.false_or,Bool.or_false,Bool.or_true,Bool.true_and,Bool.false_and,Bool.and_true,Bool.and_false,Bool.false_eq_true,false_implies,implies_true,true_and]
  refine U_d ?_
  exact Wk0
 | some pl =>
  have hRo:zxf (Con.con x.chart) a.src r.l=true:=by rw [zxf,hR];rfl
  obtain ⟨hC,hin,pl',hptl,hpk,hplen,hpx⟩:=zxi hRo
  rw [hR] at hptl
  obtain rfl:pl=pl':=Option.some.inj hptl
  rw [hR] at e1
  have e1:p.l=pl:=e1
  have hpn:p.l.length=r.l.length+1:=by rw [e1];exact hplen
  have hlt:r.l.length < p.l.length:=by omega
  have hlti:(r.l.length:Int) < p.l.length:=by omega
  have hpnw:IntKind.i64.wrap ((p.l.length:Int) - 1)=(r.l.length:Int):=by rw [zjz (by omega)];omega
  have hld:zyC (Con.con x) a r.l=decide (p.l[r.l.length]=a.dst):=by
   rw [zyC,show (Con.con x).chart=Con.con x.chart from rfl,hR]
   dsimp only
   rw [← e1,iget hlt]
  rw [hld]
  by_cases h1l:(1:Int) < p.l.length
  ·refine znv rfl ?_
   refine U_t [0,1,2,3,4,5,10,6,11,7,8,9,12,13,14] rfl ?_
   simp only [go_sem,jq,jj,jy,jv,jk,jx,hpnw,eq_true h1l,zkv pok hlt,pok.some hlt,hlt,hlti,jW,jY,implies_true,true_and,and_true,and_self,reduceCtorEq,decide_true,decide_false,Bool.not_true,Bool.not_false,Bool.true_or,Bool.false_or,Bool.or_false,Bool.or_true,Bool.true_and,Bool.false_and,Bool.and_true,Bool.and_false,Bool.false_eq_true,false_implies,implies_true,true_and]
   refine U_d ?_
   refine Wk ?_
   rw [decide_eq_true (show 0 < r.l.length by omega),Bool.and_true];rfl
  ·refine znv rfl ?_
   refine U_t [0,1,2,3,4,5,10,6,11,7,8,9,12,13,14] rfl ?_
   simp only [go_sem,jq,jj,jy,jv,jk,jx,hpnw,eq_false h1l,zkv pok hlt,pok.some hlt,hlt,hlti,jW,jY,implies_true,true_and,and_true,and_self,reduceCtorEq,decide_true,decide_false,Bool.not_true,Bool.not_false,Bool.true_or,Bool.false_or,Bool.or_false,Bool.or_true,Bool.true_and,Bool.false_and,Bool.and_true,Bool.and_false,Bool.false_eq_true,false_implies,implies_true,true_and]
   refine U_d ?_
   refine Wk ?_
   rw [decide_eq_false (show ¬ 0 < r.l.length by omega),Bool.and_false]
def zJX:POption:=⟨0,0,0,[]⟩
def zyH (ready arr:Int) (ms:List Int):Int:=ms.foldl (fun acc m=>IntKind.i64.wrap (acc - m)) (IntKind.i64.wrap (arr - ready))
def zyI (x:PHarbour) (a:DCall) (r st:List Int) (start:Int):POption × Bool :=
 (⟨start,zxJ x.chart (zyD x a) r st,zyH a.ready (zxJ x.chart (zyD x a) r st) (minL x.chart (zyD x a) r r.length),zxN x.chart a.ship (zyD x a) a.src r st⟩,decide (zxJ x.chart (zyD x a) r st≤2880))
def zyJ (x:PHarbour) (a:DCall) (r:List Int) (start:Int):POption × Bool:=match zyB x.forecast x.chart (zyD x a) a.src r start with
 | none=>(zJX,false)
 | some st=>zyI x a r st start
def zyK (h:Hp) (F:POption × Bool) (v:Value) (h':Hp):Prop:=∃ q:DOption,v=.tuple #[q.v,.bool F.2]∧Con.con q=F.1∧Enc.ok h' q∧Mine h h' q
theorem zyL {h h':Hp}:∃ q:DOption,q.v=.agg #[.int .i64 0,.int .i64 0,.int .i64 0,.slice none 0 0]∧Con.con q=zJX∧Enc.ok h' q∧Mine h h' q:=⟨⟨0,0,0,⟨none,0,[]⟩⟩,rfl,rfl,⟨i64z,i64z,i64z,zmo⟩,(Mine.nil:Mine h h' (⟨none,0,[]⟩:Sl DPassage))⟩
theorem zyM {a b:Int} {l:List Int}:I64 (zyH a b l):=by
 unfold zyH
 have key:∀ {l:List Int} {z:Int},I64 z→I64 (l.foldl (fun acc m=>IntKind.i64.wrap (acc - m)) z):=fun {l}=>by
  induction l with
  | nil=>exact fun h=>h
  | cons x l ih=>exact fun _=>ih (i64w _)
 exact key (i64w _)
theorem zyN {c:PChart} {s:DShip} {r st:List Int}:I64 (zxJ c s r st):=by
 have hm:I64 (-1):=by unfold I64;omega
 unfold zxJ
 split
 ·split
  ·exact i64w _
  ·exact hm
 ·exact hm
theorem zyO {ready arr:Int} {l:List Int} {k:Nat} (hk:k < l.length):zyH ready arr (l.take (k+1))=IntKind.i64.wrap (zyH ready arr (l.take k) - l[k]):=by
 unfold zyH
 rw [List.take_succ_eq_append_getElem hk,List.foldl_append];rfl
theorem zyP {h h':Hp} {x:PHarbour} {a:DCall} {r st:List Int} {start:Int} {q:Sl DPassage} (hs:I64 start) (e:q.l=zxN x.chart a.ship (zyD x a) a.src r st) (ok:q.Ok h') (m:Mine h h' q) :
  Con.con (DOption.mk start (zxJ x.chart (zyD x a) r st) (zyH a.ready (zxJ x.chart (zyD x a) r st) (minL x.chart (zyD x a) r r.length)) q)=(zyI x a r st start).1∧Enc.ok h' (DOption.mk start (zxJ x.chart (zyD x a) r st) (zyH a.ready (zxJ x.chart (zyD x a) r st) (minL x.chart (zyD x a) r r.length)) q)∧Mine h h' (DOption.mk start (zxJ x.chart (zyD x a) r st) (zyH a.ready (zxJ x.chart (zyD x a) r st) (minL x.chart (zyD x a) r r.length)) q):=by
 refine ⟨?_,⟨hs,zyN,zyM,ok⟩,m⟩
 rw [zkA,show Con.con q=q.l from zxH q,e];rfl
theorem zyQ (x:DHarbour) (a:DCall) (w:Sl Bool) (m:Sl Int) (u:Sl (Sl DWindow)) (r:Sl Int) (st:Int) (h:Hp) (hx:Enc.ok h x) (ha:Enc.ok h a) (hw:w.Ok h) (hm:m.Ok h) (hu:u.Ok h) (hr:r.Ok h) (hst:I64 st) (hz:r.l.length≤1048576) (hok:zvB (Con.con x) a=true) (hv:voOk (Con.con x.forecast) (Con.con x.chart) (zyD (Con.con x) a) a.src r.l=true)
  (hl:w.l=zyl (Con.con x.chart) ((zwV (Con.con x.chart) a.src r.l).getD []) r.l.length∧m.l=minL (Con.con x.chart) (zyD (Con.con x) a) r.l r.l.length∧u.l.map (·.l)=zym (Con.con x.forecast) (Con.con x.chart) (zyD (Con.con x) a) r.l r.l.length) :
  Ct jV 100 [x.v,a.v,.agg #[w.val,m.val,u.val],r.val,.int .i64 st] h (zyK h (zyJ (Con.con x) a r.l st)):=by
 obtain ⟨hfo,hch,⟨hsi,hsh,hso⟩,hs0,hs1,_⟩:=zyE hok
 obtain ⟨l1,l2,l3⟩:=hl
 have hwn:w.l.length=r.l.length:=by rw [l1];exact rmap_len
 have hmn:m.l.length=r.l.length:=by rw [l2];exact rmap_len
 have hun:u.l.length=r.l.length:=by have:=congrArg List.length l3;rwa [List.length_map,zym,rmap_len] at this
 have hr0:0 < r.l.length:=by
  rw [voOk,jJ,decide_eq_true_eq] at hv;exact hv.2
 have hS:zys w.l m.l (u.l.map (·.l)) st=zyB (Con.con x.forecast) (Con.con x.chart) (zyD (Con.con x) a) a.src r.l st:=by
  rw [zyB,if_pos hv,l1,l2,l3]
 refine zdn (fun A W=>by simp) Tryz.func100 rfl rfl (by simp) fun W0=>?_
 refine Wk ?_
 refine zkj (zyA w m u st _ hw hm hu hst (by omega) (by omega) (by omega) (by omega)) rfl ?_
 rintro v h1 le1 ⟨q,rfl,eq,okq⟩
 rw [hS] at eq
 rw [hS,zyJ,show (Con.con x).forecast=Con.con x.forecast from rfl,show (Con.con x).chart=Con.con x.chart from rfl]
 have hx1:Enc.ok h1 x:=Enc.mono le1 hx
 have hr1:=hr.mono le1
 have hm1:=hm.mono le1
 cases hsl:zyB (Con.con x.forecast) (Con.con x.chart) (zyD (Con.con x) a) a.src r.l st with
 | none =>
  refine Evs ?_
  refine Wk ?_
  refine zc9 rfl (fun hz=>?_) (fun hz=>?_)
  case refine_2=>cases hz
  refine Wk ?_
  obtain ⟨z,hz1,hz2⟩:=zyL (h:=h) (h':=h1)
  rw [← hz1]
  exact ⟨z,rfl,hz2⟩
 | some sl =>
  rw [hsl] at eq
  have eq:q.l=sl:=eq
  refine Evs ?_
  refine Wk ?_
  refine zc9 rfl (fun hzz=>?_) (fun hzz=>?_)
  ·cases hzz
  repeat' first|refine Wa ?_|(simp only [go_sem,jq,jj,jy,jv,jk,jx,zlT hx1.2.2.1 hsi,zk0 hx1.2.2.1 hsi,hx1.2.2.1.some hsi,hsi,hs0,hs1,jW,implies_true,true_and,and_true,and_self];try rfl)|refine Wb ?_|fail
  refine zkj (zxT x.chart a.ship x.fleet.l[a.ship.toNat] a.src r q _ hx1.2.1 ha.1 (hx1.2.2.1.el hsi) ha.2.1 hr1 okq hz) rfl ?_
  rintro v h2 le2 ⟨p,rfl,ep,okp,mp⟩
  have hx2:Enc.ok h2 x:=Enc.mono le2 hx1
  have hr2:=hr1.mono le2
  have hq2:=okq.mono le2
  have hm2:=hm1.mono le2
  have hle2:=Hp.le_trans le1 le2
  repeat' first|refine Wa ?_|refine zhF (fun _=>zxS x.chart x.fleet.l[a.ship.toNat] r q _ hx2.2.1 (hx2.2.2.1.el hsi) hr2 hq2) ?_|(simp only [go_sem,jq,jj,jy,jv,jk,jx];try rfl)|refine Wb ?_|fail
  have hml:=hm2.max
  refine zl0 (ι:=Nat) (fun i=>⟨[(10,true,.c (.p 3 0)),(11,true,.c (.v (.bool false))),(16,true,.c (.p 5 0)),(60,true,.c (.v m.val)),(61,true,.c (.v (.int .i64 m.l.length))),(62,true,.c (.v (.int .i64 i)))],[(0,.box 62 [.v (.int .i64 x.forecast.tide.mean),.v x.forecast.tide.parts.val,.v x.forecast.surges.val,.v x.chart.points.val,.v x.chart.segments.val,.v x.fleet.val,.v (.int .i64 x.regime.gap),.v (.bool x.regime.noMeet),.v (.int .i64 x.crew.tugs),.v (.int .i64 x.crew.pilots),.v (.int .i64 x.crew.rest),.v x.crew.moves.val]),(1,.box 79 [.v (.int .i64 a.ship),.v (.int .i64 a.src),.v (.int .i64 a.dst),.v (.int .i64 a.ready),.v (.int .i64 a.due)]),(2,.box 162 [.v w.val,.v m.val,.v u.val]),(3,.box 84 [.v (.int .i64 0),.v (.int .i64 0),.v (.int .i64 0),.v (.slice none 0 0)]),(4,.box 157 [.v (.string x.fleet.l[a.ship.toNat].name),.v (.int .i64 x.fleet.l[a.ship.toNat].length),.v (.int .i64 x.fleet.l[a.ship.toNat].draught),.v (.int .i64 x.fleet.l[a.ship.toNat].line),.v (.int .i64 x.fleet.l[a.ship.toNat].tugs),.v (.bool x.fleet.l[a.ship.toNat].slow)]),(5,.box 84 [.v (.int .i64 st),.v (.int .i64 (zxJ (Con.con x.chart) x.fleet.l[a.ship.toNat] r.l q.l)),.v (.int .i64 (zyH a.ready (zxJ (Con.con x.chart) x.fleet.l[a.ship.toNat] r.l q.l) (m.l.take i))),.v p.val])],h2,6⟩) (fun i=>i≤m.l.length) (fun i=>m.l.length - i) 0 (Nat.zero_le _) [0,1,2,3,4,5] ?_ ?_
  ·refine Evs ?_
   exact Gk
  intro k hk
  refine Wk ?_
  refine zc9 rfl (fun hd=>?_) (fun hd=>?_)
  ·have hlt:=zjH hd
   repeat' first|refine Wa ?_|(simp only [go_sem,jq,jj,jy,jv,jk,jx,zkv hm2 hlt,hm2.some hlt,hlt,jW];try rfl)|refine Wb ?_|fail
   refine ⟨k+1,[0,1,2,3,4,5],hlt,by omega,?_⟩
   refine Evs ?_
   rw [zyO hlt]
   exact Gi (zjA hlt (by omega))
  ·have hge:=zjI hd
   obtain rfl:k=m.l.length:=by omega
   rw [List.take_length,l2]
   refine Wk ?_
   refine znv rfl ?_
   refine U_t [0,1,2,3] rfl ?_
   refine Evs ?_
   refine U_1 4 0 [3,2,1] rfl rfl ?_
   refine Evs ?_
   refine ⟨rfl,?_⟩
   refine U_t [5] rfl ?_
   refine Evs ?_
   refine U_d ?_
   refine Wk ?_
   rw [← hsh,eq]
   obtain ⟨k1,k2,k3⟩:=zyP (h:=h) (x:=Con.con x) (a:=a) (r:=r.l) (st:=sl) (start:=st) (q:=p) hst (by rw [ep,hsh,eq];rfl) okp (mp.back le1)
   exact ⟨_,rfl,k1,k2,k3⟩
theorem at0 {s:Sl Int} {h h2:Hp} (H:s.Ok h) (hle:h.le h2) (h0:0 < s.l.length:=by assumption):h2.lds (Option.map (fun x=>x) s.a) 1=some [.int .i64 s.l[0]]:=by
 have:=zkv (H.mono hle) h0
 simp only [go_sem,Nat.zero_mul] at this
 exact this
theorem z0a (x:DHarbour) (a:DCall) (r q:Sl Int) (h:Hp) (hx:Enc.ok h x) (ha:Enc.ok h a) (hr:r.Ok h) (hq:q.Ok h) (hz:r.l.length≤1048576) (hok:zvB (Con.con x) a=true) (hR:zxf (Con.con x.chart) a.src r.l=true) (hq0:0 < q.l.length) :
  Ct jV 96 [x.v,a.v,r.val,q.val] h (zyK h (zyI (Con.con x) a r.l q.l q.l[0])):=by
 obtain ⟨hfo,hch,⟨hsi,hsh,hso⟩,hs0,hs1,_⟩:=zyE hok
 obtain ⟨hC,hin,pl,hptl,hpk,hplen,hpx⟩:=zxi hR
 have hgl:(Con.con x.chart).segments=x.chart.segments.l:=zvJ x.chart
 have hrl:=hr.max
 have hq0i:(0:Int) < q.l.length:=by omega
 have hat0:=zkv hq hq0
 simp only [go_sem,Nat.zero_mul] at hat0
 have hmlen:(minL (Con.con x.chart) x.fleet.l[a.ship.toNat] r.l r.l.length).length=r.l.length:=rmap_len
 refine zdn (fun A W=>by simp) Tryz.func96 rfl rfl (by simp) fun W0=>?_
 repeat' first|refine Wa ?_|(simp only [go_sem,jq,jj,jy,jv,jk,jx,zlT hx.2.2.1 hsi,zk0 hx.2.2.1 hsi,hx.2.2.1.some hsi,hsi,hs0,hs1,jW,implies_true,true_and,and_true,and_self];try rfl)|refine Wb ?_|fail
 refine zod (ι:=Hp × Sl DPassage) (fun i=>⟨[(2,true,.c (.v r.val)),(4,true,.c (.p 0 0)),(5,true,.c (.p 1 0)),(8,true,.c (.p 2 0)),(9,true,.c (.v (.bool false))),(10,true,.c (.p 3 0)),(11,true,.c (.p 4 0))],[(0,.box 62 [.v (.int .i64 x.forecast.tide.mean),.v x.forecast.tide.parts.val,.v x.forecast.surges.val,.v x.chart.points.val,.v x.chart.segments.val,.v x.fleet.val,.v (.int .i64 x.regime.gap),.v (.bool x.regime.noMeet),.v (.int .i64 x.crew.tugs),.v (.int .i64 x.crew.pilots),.v (.int .i64 x.crew.rest),.v x.crew.moves.val]),(1,.box 79 [.v (.int .i64 a.ship),.v (.int .i64 a.src),.v (.int .i64 a.dst),.v (.int .i64 a.ready),.v (.int .i64 a.due)]),(2,.box 84 [.v (.int .i64 0),.v (.int .i64 0),.v (.int .i64 0),.v (.slice none 0 0)]),(3,.box 157 [.v (.string x.fleet.l[a.ship.toNat].name),.v (.int .i64 x.fleet.l[a.ship.toNat].length),.v (.int .i64 x.fleet.l[a.ship.toNat].draught),.v (.int .i64 x.fleet.l[a.ship.toNat].line),.v (.int .i64 x.fleet.l[a.ship.toNat].tugs),.v (.bool x.fleet.l[a.ship.toNat].slow)]),(4,.box 84 [.v (.int .i64 q.l[0]),.v (.int .i64 (zxJ (Con.con x.chart) x.fleet.l[a.ship.toNat] r.l q.l)),.v (.int .i64 0),.v i.2.val])],i.1,5⟩) (fun i=>h.le i.1∧i.2.l=zxN (Con.con x.chart) a.ship x.fleet.l[a.ship.toNat] a.src r.l q.l∧i.2.Ok i.1∧Mine h i.1 i.2) (fun _=>rfl) ?_ ?_
 ·refine znv rfl ?_
  refine U_t [0,3,5,6,7,9,11,13,14,16,17,1,4,10,12,15,2] rfl ?_
  simp only [go_sem,jq,jj,jy,jv,jk,jx,hat0,hq.some hq0,hq0,hq0i,Int.toNat_zero,Nat.zero_mul,Int.le_refl,jW,implies_true,true_and,and_true,and_self]
  refine U_m 8 [20] ⟨?_,?_,trivial⟩
  ·refine U_b 8 0 [2,15,12,10,1,14,13,11,9] rfl rfl ?_
   simp only [go_sem,jq,jj,jy,jv,jk,jx,hat0,hq.some hq0,hq0,hq0i,Int.toNat_zero,Nat.zero_mul,Int.le_refl,jW,implies_true,true_and,and_true,and_self]
   refine zhF (fun _=>zZW x.chart x.fleet.l[a.ship.toNat] r q _ hx.2.1 (hx.2.2.1.el hsi) hr hq) ?_
   simp only [go_sem,jq,jj,jy,jv,jk,jx,hat0,hq.some hq0,hq0,hq0i,Int.toNat_zero,Nat.zero_mul,Int.le_refl,jW,implies_true,true_and,and_true,and_self]
   refine U_m 18 [20] ⟨?_,?_,trivial⟩
   ·refine U_b 18 0 [2,1] rfl rfl ?_
    simp only [go_sem,jq,jj,jy,jv,jk,jx,hat0,hq.some hq0,hq0,hq0i,Int.toNat_zero,Nat.zero_mul,Int.le_refl,jW,implies_true,true_and,and_true,and_self]
    refine zkj (zZX x.chart a.ship x.fleet.l[a.ship.toNat] a.src r q _ hx.2.1 ha.1 (hx.2.2.1.el hsi) ha.2.1 hr hq hz) rfl ?_
    rintro v h2 le2 ⟨p,rfl,ep,okp,mp⟩
    simp only [go_sem,jq,jj,jy,jv,jk,jx,hat0,hq0,hq0i,Int.toNat_zero,Nat.zero_mul,at0 hq le2,(hq.mono le2).some hq0,Int.le_refl,implies_true,true_and,and_true]
    refine U_m 19 [20] ⟨?_,?_,trivial⟩
    ·refine U_b 19 0 [] rfl rfl ?_
     simp only [go_sem,jq,jj,jy,jv,jk,jx,hat0,hq0,hq0i,Int.toNat_zero,Nat.zero_mul,at0 hq le2,(hq.mono le2).some hq0,Int.le_refl,implies_true,true_and,and_true]
     refine U_1 20 0 [] rfl rfl ?_
     simp only [go_sem,jq,jj,jy,jv,jk,jx,hat0,hq0,hq0i,Int.toNat_zero,Nat.zero_mul,at0 hq le2,(hq.mono le2).some hq0,Int.le_refl,implies_true,true_and,and_true]
     refine U_1 21 0 [] rfl rfl ?_
     simp only [go_sem,jq,jj,jy,jv,jk,jx,hat0,hq0,hq0i,Int.toNat_zero,Nat.zero_mul,at0 hq le2,(hq.mono le2).some hq0,Int.le_refl,implies_true,true_and,and_true]
     refine U_d ?_
     refine ⟨(h2,p),[0,1,2,3,4],⟨le2,ep,okp,mp⟩,?_⟩
     refine Evs ?_
     exact Gk
    ·refine U_b 20 0 [2,1] rfl rfl ?_
     simp only [go_sem,jq,jj,jy,jv,jk,jx,hat0,hq0,hq0i,Int.toNat_zero,Nat.zero_mul,at0 hq le2,(hq.mono le2).some hq0,Int.le_refl,implies_true,true_and,and_true]
     refine U_1 19 0 [] rfl rfl ?_
     simp only [go_sem,jq,jj,jy,jv,jk,jx,hat0,hq0,hq0i,Int.toNat_zero,Nat.zero_mul,at0 hq le2,(hq.mono le2).some hq0,Int.le_refl,implies_true,true_and,and_true]
     refine U_1 21 0 [] rfl rfl ?_
     simp only [go_sem,jq,jj,jy,jv,jk,jx,hat0,hq0,hq0i,Int.toNat_zero,Nat.zero_mul,at0 hq le2,(hq.mono le2).some hq0,Int.le_refl,implies_true,true_and,and_true]
     refine U_d ?_
     refine ⟨(h2,p),[0,1,2,3,4],⟨le2,ep,okp,mp⟩,?_⟩
     refine Evs ?_
     exact Gk
   ·refine U_b 20 0 [2,15,12,10,1,14,13,11,9] rfl rfl ?_
    simp only [go_sem,jq,jj,jy,jv,jk,jx,hat0,hq.some hq0,hq0,hq0i,Int.toNat_zero,Nat.zero_mul,Int.le_refl,jW,implies_true,true_and,and_true,and_self]
    refine U_1 18 0 [2,1] rfl rfl ?_
    simp only [go_sem,jq,jj,jy,jv,jk,jx,hat0,hq.some hq0,hq0,hq0i,Int.toNat_zero,Nat.zero_mul,Int.le_refl,jW,implies_true,true_and,and_true,and_self]
    refine zkj (zZX x.chart a.ship x.fleet.l[a.ship.toNat] a.src r q _ hx.2.1 ha.1 (hx.2.2.1.el hsi) ha.2.1 hr hq hz) rfl ?_
    rintro v h2 le2 ⟨p,rfl,ep,okp,mp⟩
    simp only [go_sem,jq,jj,jy,jv,jk,jx,hat0,hq0,hq0i,Int.toNat_zero,Nat.zero_mul,at0 hq le2,(hq.mono le2).some hq0,Int.le_refl,implies_true,true_and,and_true]
    refine U_1 19 0 [] rfl rfl ?_
    simp only [go_sem,jq,jj,jy,jv,jk,jx,hat0,hq0,hq0i,Int.toNat_zero,Nat.zero_mul,at0 hq le2,(hq.mono le2).some hq0,Int.le_refl,implies_true,true_and,and_true]
    refine U_1 21 0 [] rfl rfl ?_
    simp only [go_sem,jq,jj,jy,jv,jk,jx,hat0,hq0,hq0i,Int.toNat_zero,Nat.zero_mul,at0 hq le2,(hq.mono le2).some hq0,Int.le_refl,implies_true,true_and,and_true]
    refine U_d ?_
    refine ⟨(h2,p),[0,1,2,3,4],⟨le2,ep,okp,mp⟩,?_⟩
    refine Evs ?_
    exact Gk
  ·refine U_b 20 0 [2,15,12,10,4,1,14,13,11,9,5,3] rfl rfl ?_
   simp only [go_sem,jq,jj,jy,jv,jk,jx,hat0,hq.some hq0,hq0,hq0i,Int.toNat_zero,Nat.zero_mul,Int.le_refl,jW,implies_true,true_and,and_true,and_self]
   refine U_1 8 0 [2,15,12,10,1,14,13,11,9] rfl rfl ?_
   simp only [go_sem,jq,jj,jy,jv,jk,jx,hat0,hq.some hq0,hq0,hq0i,Int.toNat_zero,Nat.zero_mul,Int.le_refl,jW,implies_true,true_and,and_true,and_self]
   refine zhF (fun _=>zZW x.chart x.fleet.l[a.ship.toNat] r q _ hx.2.1 (hx.2.2.1.el hsi) hr hq) ?_
   simp only [go_sem,jq,jj,jy,jv,jk,jx,hat0,hq.some hq0,hq0,hq0i,Int.toNat_zero,Nat.zero_mul,Int.le_refl,jW,implies_true,true_and,and_true,and_self]
   refine U_1 18 0 [2,1] rfl rfl ?_
   simp only [go_sem,jq,jj,jy,jv,jk,jx,hat0,hq.some hq0,hq0,hq0i,Int.toNat_zero,Nat.zero_mul,Int.le_refl,jW,implies_true,true_and,and_true,and_self]
   refine zkj (zZX x.chart a.ship x.fleet.l[a.ship.toNat] a.src r q _ hx.2.1 ha.1 (hx.2.2.1.el hsi) ha.2.1 hr hq hz) rfl ?_
   rintro v h2 le2 ⟨p,rfl,ep,okp,mp⟩
   simp only [go_sem,jq,jj,jy,jv,jk,jx,hat0,hq0,hq0i,Int.toNat_zero,Nat.zero_mul,at0 hq le2,(hq.mono le2).some hq0,Int.le_refl,implies_true,true_and,and_true]
   refine U_1 19 0 [] rfl rfl ?_
   simp only [go_sem,jq,jj,jy,jv,jk,jx,hat0,hq0,hq0i,Int.toNat_zero,Nat.zero_mul,at0 hq le2,(hq.mono le2).some hq0,Int.le_refl,implies_true,true_and,and_true]
   refine U_1 21 0 [] rfl rfl ?_
   simp only [go_sem,jq,jj,jy,jv,jk,jx,hat0,hq0,hq0i,Int.toNat_zero,Nat.zero_mul,at0 hq le2,(hq.mono le2).some hq0,Int.le_refl,implies_true,true_and,and_true]
   refine U_d ?_
   refine ⟨(h2,p),[0,1,2,3,4],⟨le2,ep,okp,mp⟩,?_⟩
   refine Evs ?_
   exact Gk
 rintro ⟨h2,p⟩ ⟨le2,ep,okp,mp⟩
 simp only at le2 ep okp mp
 have hx2:Enc.ok h2 x:=Enc.mono le2 hx
 have hr2:=hr.mono le2
 refine Wk ?_
 refine zl0 (ι:=Nat) (fun i=>⟨[(4,true,.c (.p 0 0)),(8,true,.c (.p 2 0)),(9,true,.c (.v (.bool false))),(10,true,.c (.p 3 0)),(11,true,.c (.p 4 0)),(46,true,.c (.v r.val)),(47,true,.c (.v (.int .i64 r.l.length))),(48,true,.c (.v (.int .i64 i)))],[(0,.box 62 [.v (.int .i64 x.forecast.tide.mean),.v x.forecast.tide.parts.val,.v x.forecast.surges.val,.v x.chart.points.val,.v x.chart.segments.val,.v x.fleet.val,.v (.int .i64 x.regime.gap),.v (.bool x.regime.noMeet),.v (.int .i64 x.crew.tugs),.v (.int .i64 x.crew.pilots),.v (.int .i64 x.crew.rest),.v x.crew.moves.val]),(1,.box 79 [.v (.int .i64 a.ship),.v (.int .i64 a.src),.v (.int .i64 a.dst),.v (.int .i64 a.ready),.v (.int .i64 a.due)]),(2,.box 84 [.v (.int .i64 0),.v (.int .i64 0),.v (.int .i64 0),.v (.slice none 0 0)]),(3,.box 157 [.v (.string x.fleet.l[a.ship.toNat].name),.v (.int .i64 x.fleet.l[a.ship.toNat].length),.v (.int .i64 x.fleet.l[a.ship.toNat].draught),.v (.int .i64 x.fleet.l[a.ship.toNat].line),.v (.int .i64 x.fleet.l[a.ship.toNat].tugs),.v (.bool x.fleet.l[a.ship.toNat].slow)]),(4,.box 84 [.v (.int .i64 q.l[0]),.v (.int .i64 (zxJ (Con.con x.chart) x.fleet.l[a.ship.toNat] r.l q.l)),.v (.int .i64 (zyH a.ready (zxJ (Con.con x.chart) x.fleet.l[a.ship.toNat] r.l q.l) ((minL (Con.con x.chart) x.fleet.l[a.ship.toNat] r.l r.l.length).take i))),.v p.val])],h2,5⟩) (fun i=>i≤r.l.length) (fun i=>r.l.length - i) 0 (Nat.zero_le _) [0,1,2,3,4] ?_ ?_
 ·refine Evs ?_
  exact Gk
 intro k hk
 refine Wk ?_
 refine zc9 rfl (fun hd=>?_) (fun hd=>?_)
 ·have hlt:=zjH hd
  have hg:=zxj hpk (Nat.le_refl _) k hlt hlt
  rw [hgl] at hg
  obtain ⟨hg0,hg1⟩:=hg
  have hsg:r.l[k].toNat < x.chart.segments.l.length:=by omega
  have hmk:(minL (Con.con x.chart) x.fleet.l[a.ship.toNat] r.l r.l.length)[k]'(by omega)=zvG x.fleet.l[a.ship.toNat] x.chart.segments.l[r.l[k].toNat]:=by
   simp only [minL,List.getElem_map,List.getElem_range]
   rw [hgl,iget hlt,gget hsg]
  repeat' first|refine Wa ?_|(simp only [go_sem,jq,jj,jy,jv,jk,jx,zkv hr2 hlt,hr2.some hlt,hlt,jW];try rfl)|refine Wb ?_|fail
  refine znv rfl ?_
  refine U_t [0,2,5,8,1,3,4,6,7] rfl ?_
  simp only [go_sem,jq,jj,jy,jv,jk,jx,zlS hx2.2.1.2 hsg,zkU hx2.2.1.2 hsg,hx2.2.1.2.some hsg,hsg,hg0,hg1,jW,implies_true,true_and,and_true,and_self]
  refine U_1 9 0 [1,0] rfl rfl ?_
  simp only [go_sem,jq,jj,jy,jv,jk,jx,zlS hx2.2.1.2 hsg,zkU hx2.2.1.2 hsg,hx2.2.1.2.some hsg,hsg,hg0,hg1,jW,implies_true,true_and,and_true,and_self]
  refine zhF (fun _=>zZj x.chart.segments.l[r.l[k].toNat] x.fleet.l[a.ship.toNat] _) ?_
  simp only [go_sem,jq,jj,jy,jv,jk,jx,zlS hx2.2.1.2 hsg,zkU hx2.2.1.2 hsg,hx2.2.1.2.some hsg,hsg,hg0,hg1,jW,implies_true,true_and,and_true,and_self]
  refine U_t [10,11] rfl ?_
  simp only [go_sem,jq,jj,jy,jv,jk,jx,zlS hx2.2.1.2 hsg,zkU hx2.2.1.2 hsg,hx2.2.1.2.some hsg,hsg,hg0,hg1,jW,implies_true,true_and,and_true,and_self]
  refine U_1 12 0 [] rfl rfl ?_
  simp only [go_sem,jq,jj,jy,jv,jk,jx,zlS hx2.2.1.2 hsg,zkU hx2.2.1.2 hsg,hx2.2.1.2.some hsg,hsg,hg0,hg1,jW,implies_true,true_and,and_true,and_self]
  refine U_d ?_
  refine Wk ?_
  refine ⟨k+1,[0,1,2,3,4],hlt,by omega,?_⟩
  refine Evs ?_
  rw [zyO (by omega),hmk]
  exact Gi (zjA hlt (by omega))
 ·have hge:=zjI hd
  obtain rfl:k=r.l.length:=by omega
  rw [List.take_of_length_le (by omega)]
  refine Wk ?_
  refine znv rfl ?_
  refine U_t [0,1,2,3] rfl ?_
  refine Evs ?_
  refine U_1 4 0 [3,2,1] rfl rfl ?_
  refine Evs ?_
  try refine ⟨rfl,?_⟩
  refine U_t [5] rfl ?_
  refine Evs ?_
  refine U_d ?_
  refine Wk ?_
  rw [← hsh]
  obtain ⟨k1,k2,k3⟩:=zyP (h:=h) (x:=Con.con x) (a:=a) (r:=r.l) (st:=q.l) (start:=q.l[0]) (q:=p) (hq.el hq0) (by rw [ep,hsh];rfl) okp mp
  exact ⟨_,rfl,k1,k2,k3⟩
def zyR (x:PHarbour) (a:DCall) (r:List Int) (st:Int):POption × Bool:=if (zvB x a && In st a.ready a.due && cvOk x a r && (zyJ x a r st).2)=true then zyJ x a r st else (zJX,false)
theorem zyS {x:PHarbour} {a:DCall} {r:List Int} {st:Int} (h:(zvB x a && In st a.ready a.due && cvOk x a r && (zyJ x a r st).2)=false):zyR x a r st=(zJX,false):=by rw [zyR,if_neg (by rw [h];exact Bool.false_ne_true)]
theorem zyT {w:List Bool} {m:List Int} {u:List (List DWindow)} {st:Int}:∀ {k:Nat} {l:List Int},slK w m u st k=some l→l.getD 0 0=st
 | 0,l,h=>by rw [slK] at h;rw [← Option.some.inj h];rfl
 | k+1,l,h=>by
  rw [slK] at h
  cases hk:slK w m u st k with
  | none=>rw [hk] at h;cases h
  | some p =>
   rw [hk,Option.bind_some] at h
   unfold zyr at h
   dsimp only at h
   split at h
   ·cases h
   ·have h1:=zyT hk
    have h2:=zyw hk
    rw [← Option.some.inj h,List.getD_eq_getElem?_getD,List.getElem?_append_left (by omega),← List.getD_eq_getElem?_getD,h1]
theorem z0b {f:PForecast} {c:PChart} {s:DShip} {a:Int} {r:List Int} {st:Int} {l:List Int} (h:zyB f c s a r st=some l):l.length=r.length∧0 < l.length∧l.getD 0 0=st:=by
 rw [zyB] at h
 split at h
 ·rename_i hv
  rw [voOk,jJ,decide_eq_true_eq] at hv
  have hr:=hv.2
  rw [zys] at h
  split at h
  ·have h1:=zyw h
   have h2:=zyT h
   rw [zym,rmap_len] at h1
   exact ⟨by omega,by omega,h2⟩
  ·cases h
 ·cases h
theorem zyU {h h':Hp} {F:POption × Bool} (hF:F=(zJX,false)) {v:Value} (hv:v=.tuple #[.agg #[.int .i64 0,.int .i64 0,.int .i64 0,.slice none 0 0],.bool false]):zyK h F v h':=by
 subst hF hv
 obtain ⟨z,hz1,hz2⟩:=zyL (h:=h) (h':=h')
 exact ⟨z,by rw [hz1],hz2⟩
theorem zyV (x:DHarbour) (a:DCall) (r:Sl Int) (st:Int) (h:Hp) (hx:Enc.ok h x) (ha:Enc.ok h a) (hr:r.Ok h) (hst:I64 st) (hz:r.l.length≤1048576):Ct jV 33 [x.v,a.v,r.val,.int .i64 st] h (zyK h (zyR (Con.con x) a r.l st)):=by
 refine zdn (fun A W=>by simp) Tryz.func33 rfl rfl (by simp) fun W0=>?_
 repeat' first|refine Wa ?_|refine zhF (fun _=>zvE x a _ hx ha) ?_|refine zhF (fun _=>zum _ _ _ _) ?_|(simp only [go_sem,jq,jj,jy,jv,jk,jx];try rfl)|refine Wb ?_|fail
 refine zc9 rfl (fun hq=>?_) (fun hq=>?_)
 ·refine Wk ?_
  refine zyU (zyS ?_) rfl
  rw [jQ,Bool.not_eq_true',Bool.not_eq_true'] at hq
  rcases hq with hq|hq
  ·rw [show zvB (Con.con x) a=false from hq];rfl
  ·rw [show In st a.ready a.due=false from hq,Bool.and_false];rfl
 rw [jp,Bool.not_eq_false',Bool.not_eq_false'] at hq
 obtain ⟨hok,hin⟩:=hq
 have hok:zvB (Con.con x) a=true:=hok
 have hin:In st a.ready a.due=true:=hin
 refine Wk ?_
 refine zkj (zyG x a r _ hx ha hr hz hok) rfl ?_
 rintro v h1 le1 ⟨w,m,u,rfl,ow,om,ou,hl⟩
 cases hcv:cvOk (Con.con x) a r.l with
 | false =>
  refine Wk ?_
  refine zc9 rfl (fun hq=>?_) (fun hq=>?_)
  case refine_2=>cases hq
  refine Wk ?_
  exact zyU (zyS (by rw [hcv,Bool.and_false];rfl)) rfl
 | true =>
  have hl:=hl hcv
  have hv:voOk (Con.con x.forecast) (Con.con x.chart) (zyD (Con.con x) a) a.src r.l=true:=by
   rw [cvOk,jJ] at hcv;exact hcv.2
  have hx1:Enc.ok h1 x:=Enc.mono le1 hx
  have ha1:Enc.ok h1 a:=Enc.mono le1 ha
  refine Wk ?_
  refine zc9 rfl (fun hq=>?_) (fun hq=>?_)
  ·cases hq
  refine Wk ?_
  refine zkj (zyQ x a w m u r st _ hx1 ha1 ow om ou (hr.mono le1) hst hz hok hv hl) rfl ?_
  rintro v h2 le2 ⟨q,rfl,eq,okq,mq⟩
  cases hb:(zyJ (Con.con x) a r.l st).2 with
  | false =>
   refine Wk ?_
   refine zc9 rfl (fun hq=>?_) (fun hq=>?_)
   case refine_2=>cases hq
   refine Wk ?_
   exact zyU (zyS (by rw [hb,Bool.and_false])) rfl
  | true =>
   refine Wk ?_
   refine zc9 rfl (fun hq=>?_) (fun hq=>?_)
   ·cases hq
   refine Wk ?_
   have hF:zyR (Con.con x) a r.l st=zyJ (Con.con x) a r.l st:=by rw [zyR,hok,hin,hcv,hb];rfl
   rw [hF]
   exact ⟨q,by rw [hb],eq,okq,mq.back le1⟩
theorem z0c (x:DHarbour) (a:DCall) (r:Sl Int) (st:Int) (h:Hp) (hx:Enc.ok h x) (ha:Enc.ok h a) (hr:r.Ok h) (hst:I64 st) (hz:r.l.length≤1048576):Ct jV 32 [x.v,a.v,r.val,.int .i64 st] h (zyK h (zyR (Con.con x) a r.l st)):=by
 refine zdn (fun A W=>by simp) Tryz.func32 rfl rfl (by simp) fun W0=>?_
 repeat' first|refine Wa ?_|refine zhF (fun _=>zZg x a _ hx ha) ?_|refine zhF (fun _=>zYZ _ _ _ _) ?_|refine zhF (fun _=>zZ9 x a r _ hx ha hr hz) ?_|(simp only [go_sem,jq,jj,jy,jv,jk,jx];try rfl)|refine Wb ?_|fail
 refine zc9 rfl (fun hq=>?_) (fun hq=>?_)
 ·refine Wk ?_
  refine zyU (zyS ?_) rfl
  rw [jQ,jQ,Bool.not_eq_true',Bool.not_eq_true',Bool.not_eq_true'] at hq
  cases hok:zvB (Con.con x) a with
  | false=>rfl
  | true =>
   rcases hq with (hq|hq)|hq
   ·rw [show zvB (Con.con x) (Con.con a)=zvB (Con.con x) a from rfl,hok] at hq;cases hq
   ·rw [show In st a.ready a.due=false from hq,Bool.and_false];rfl
   ·have:cvOk (Con.con x) a r.l=false:=by
     rw [cvOk,show (Con.con x).forecast=Con.con x.forecast from rfl,show (Con.con x).chart=Con.con x.chart from rfl,zyF hok]
     rw [Bool.and_eq_false_iff] at hq
     rcases hq with hq|hq
     ·rw [hq];rfl
     ·rw [hq,Bool.and_false,Bool.and_false]
    rw [this,Bool.and_false];rfl
 rw [jp,jp,Bool.not_eq_false',Bool.not_eq_false',Bool.not_eq_false'] at hq
 obtain ⟨⟨hok,hin⟩,hlq⟩:=hq
 obtain ⟨hld,h0⟩:=Bool.and_eq_true_iff.1 hlq
 have hok:zvB (Con.con x) a=true:=hok
 have hin:In st a.ready a.due=true:=hin
 have hR:=zZ6 hld
 have hcv:cvOk (Con.con x) a r.l=true:=by
  rw [cvOk,show (Con.con x).forecast=Con.con x.forecast from rfl,show (Con.con x).chart=Con.con x.chart from rfl,zyF hok,hld,show zxf (Con.con x.chart) a.src r.l=true from hR,h0];rfl
 obtain ⟨hfo,hch,⟨hsi,hsh,hso⟩,hs0,hs1,_⟩:=zyE hok
 have hOpt:zyJ (Con.con x) a r.l st=match zyB (Con.con x.forecast) (Con.con x.chart) x.fleet.l[a.ship.toNat] a.src r.l st with|none=>(zJX,false)|some q=>zyI (Con.con x) a r.l q st:=by
  rw [zyJ,hsh];rfl
 repeat' first|refine Wa ?_|(simp only [go_sem,jq,jj,jy,jv,jk,jx,zlT hx.2.2.1 hsi,zk0 hx.2.2.1 hsi,hx.2.2.1.some hsi,hsi,hs0,hs1,jW,implies_true,true_and,and_true,and_self];try rfl)|refine Wb ?_|fail
 refine znv rfl ?_
 refine U_t [0,2,4,6,10,12,13,1,3,5,7,11,8,9] rfl ?_
 simp only [go_sem,jq,jj,jy,jv,jk,jx,zlT hx.2.2.1 hsi,zk0 hx.2.2.1 hsi,hx.2.2.1.some hsi,hsi,hs0,hs1,jW,implies_true,true_and,and_true,and_self]
 refine U_1 14 0 [] rfl rfl ?_
 simp only [go_sem,jq,jj,jy,jv,jk,jx,zlT hx.2.2.1 hsi,zk0 hx.2.2.1 hsi,hx.2.2.1.some hsi,hsi,hs0,hs1,jW,implies_true,true_and,and_true,and_self]
 refine zkj (zZ8 x.forecast x.chart x.fleet.l[a.ship.toNat] a.src r st _ hx.1 hx.2.1 (hx.2.2.1.el hsi) ha.2.1 hr hst hz) rfl ?_
 rintro v h1 le1 ⟨q,rfl,eq,okq⟩
 refine Evs ?_
 refine U_t [15,16,17,18,19] rfl ?_
 refine Evs ?_
 refine U_d ?_
 refine Wk ?_
 cases hsl:zyB (Con.con x.forecast) (Con.con x.chart) x.fleet.l[a.ship.toNat] a.src r.l st with
 | none =>
  rw [hsl] at hOpt
  refine zc9 rfl (fun hq=>?_) (fun hq=>?_)
  case refine_2=>cases hq
  refine Wk ?_
  exact zyU (zyS (by rw [hOpt,Bool.and_false])) rfl
 | some sl =>
  obtain ⟨hl1,hl2,hl3⟩:=z0b hsl
  rw [hsl] at hOpt eq
  have eq:q.l=sl:=eq
  have hOpt:zyJ (Con.con x) a r.l st=zyI (Con.con x) a r.l sl st:=hOpt
  have hq0:0 < q.l.length:=by rw [eq];exact hl2
  have hqst:q.l[0]=st:=by rw [← iget hq0,eq];exact hl3
  refine zc9 rfl (fun hq=>?_) (fun hq=>?_)
  ·cases hq
  refine Wk ?_
  refine zkj (z0a x a r q _ (Enc.mono le1 hx) (Enc.mono le1 ha) (hr.mono le1) okq hz hok hR hq0) rfl ?_
  rintro v h2 le2 ⟨p,rfl,ep,okp,mp⟩
  rw [hqst,eq,← hOpt] at ep ⊢
  cases hb:(zyJ (Con.con x) a r.l st).2 with
  | false =>
   refine Wk ?_
   refine zc9 rfl (fun hq=>?_) (fun hq=>?_)
   case refine_2=>cases hq
   refine Wk ?_
   exact zyU (zyS (by rw [hb,Bool.and_false])) rfl
  | true =>
   refine Wk ?_
   refine zc9 rfl (fun hq=>?_) (fun hq=>?_)
   ·cases hq
   refine Wk ?_
   have hF:zyR (Con.con x) a r.l st=zyJ (Con.con x) a r.l st:=by rw [zyR,hok,hin,hcv,hb];rfl
   rw [hF]
   exact ⟨p,by rw [hb],ep,okp,mp.back le1⟩
end Go.Proofs.YtbkaaakphpbmiaaGreat
