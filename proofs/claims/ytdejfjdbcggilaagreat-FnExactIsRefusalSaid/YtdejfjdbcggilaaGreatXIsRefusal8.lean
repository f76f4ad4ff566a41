/- What functions of the given program compute, as contracts. -/
import Derived.Test.YtdejfjdbcggilaaGreatSIsRefusalx7
set_option linter.unusedVariables false
set_option linter.unusedSimpArgs false
set_option maxRecDepth 4000
open Nat renaming reduceAdd → jq, reduceMul → jj, reduceBEq → jy, reduceLeDiff → jv, reduceLT → jk, reduceEqDiff → jx
open Bool renaming or_eq_false_iff → jp, or_eq_true → jQ, and_eq_true → jJ
open Int renaming toNat_natCast → jW, natCast_nonneg → jY
open Go.Proofs.Tryz renaming prog → jV
namespace Go.Proofs.YtdejfjdbcggilaaGreat
open Go Go.SL
set_option maxHeartbeats 1000000
def zBo (l:List DSurge) (m:Int):Nat→Nat
 | 0=>0
 | k+1=>if (l.getD k dS).src≤m then k else zBo l m k
def zBp (l:List DSurge) (m:Int):Nat:=zBo l m l.length
theorem zBq {l:List DSurge} {m:Int}:∀ {k:Nat},0 < k→zBo l m k < k
 | k+1,_=>by
  unfold zBo
  split
  ·omega
  ·rcases Nat.eq_zero_or_pos k with rfl|h
   ·exact Nat.zero_lt_one
   ·have:=zBq (l:=l) (m:=m) h;omega
theorem zBr {l:List DSurge} {m:Int} (h:0 < l.length):zBp l m < l.length:=zBq h
theorem zBs {l:List DSurge} {m:Int} {k:Nat} (hk:k < l.length) (h:l[k].src≤m):zBo l m (k+1)=k:=by rw [zBo,sget hk,if_pos h]
theorem zBt {l:List DSurge} {m:Int} {k:Nat} (hk:k < l.length) (h:¬ l[k].src≤m):zBo l m (k+1)=zBo l m k:=by rw [zBo,sget hk,if_neg h]
theorem zBu {f:PForecast} (h:zzV f=true):0 < f.surges.length:=by
 simp only [zzV,In,jJ,decide_eq_true_eq] at h
 omega
theorem zBv (f:DForecast):(Con.con f).surges=f.surges.l:=zzW _
def zBw (n p:Int):Int :=
 if zzz p=true then
  (if n % p < Int.tdiv p 2 then IntKind.i64.wrap (Int.tdiv (IntKind.i64.wrap (IntKind.i64.wrap (40000 * (n % p)) * IntKind.i64.wrap (Int.tdiv p 2 - n % p))) (IntKind.i64.wrap (Int.tdiv p 2 * Int.tdiv p 2)))
   else IntKind.i64.wrap (0 - IntKind.i64.wrap (Int.tdiv (IntKind.i64.wrap (IntKind.i64.wrap (40000 * IntKind.i64.wrap (n % p - Int.tdiv p 2)) * IntKind.i64.wrap (Int.tdiv p 2 - IntKind.i64.wrap (n % p - Int.tdiv p 2)))) (IntKind.i64.wrap (Int.tdiv p 2 * Int.tdiv p 2)))))
 else 0
def zBx (m:Int) (acc:Int) (p:DPart):Int:=IntKind.i64.wrap (acc+IntKind.i64.wrap (Int.tdiv (IntKind.i64.wrap (p.amp * zBw (IntKind.i64.wrap (m+p.phase)) p.period)) 10000))
def zBy (t:PTide) (m:Int):Int:=t.parts.foldl (zBx m) t.mean
def zBz (f:PForecast) (m:Int):Int:=IntKind.i64.wrap (zBy f.tide m+(f.surges.getD (zBp f.surges m) dS).low)
theorem zBA (f:DForecast) (m:Int) (h:Hp) (hf:Enc.ok h f):Ct jV 303 [f.v,.int .i64 m] h fun v h'=>v=.int .i64 (zBp f.surges.l m:Nat)∧h'=h:=by
 have hp:=hf.2
 have hl:=hp.max
 refine zdn (fun A W=>by simp) Tryz.func303 rfl rfl (by simp) fun W0=>?_
 refine Wk ?_
 refine zde (ι:=Nat) (fun k=>⟨[(1,true,.c (.v (.int .i64 m))),(5,true,.c (.v (.int .i64 (zBo f.surges.l m k:Nat)))),(9,true,.c (.v f.surges.val)),(10,true,.c (.v (.int .i64 f.surges.l.length))),(11,true,.c (.v (.int .i64 k)))],[],h,0⟩) (fun k=>k≤f.surges.l.length) (fun k=>f.surges.l.length - k) 0 (Nat.zero_le _) ?_ ?_
 ·refine Evs ?_
  exact Gk
 intro k hk
 refine Wk ?_
 refine zc9 rfl (fun hdk=>?_) (fun hdk=>?_)
 ·have hlt:=zjH hdk
  repeat' first|refine Wa ?_|(simp only [go_sem,jq,jj,jy,jv,jk,jx,zk9 hp hlt,hp.some hlt,hlt,jW];try rfl)|refine Wb ?_|fail
  refine zc9 rfl (fun hq=>?_) (fun hq=>?_)
  ·refine Wk ?_
   refine ⟨k+1,hlt,by omega,zjB ?_,zjB (zjA hlt (by omega))⟩
   rw [zBs hlt (of_decide_eq_true hq)]
  ·refine Wk ?_
   refine ⟨k+1,hlt,by omega,zjB ?_,zjB (zjA hlt (by omega))⟩
   rw [zBt hlt (of_decide_eq_false hq)]
 ·have hge:=zjI hdk
  refine Wk ?_
  rw [zBp,Nat.le_antisymm hge hk]
theorem zBB (f:DForecast) (m:Int) (h:Hp) (hf:Enc.ok h f) (h0:0 < f.surges.l.length):Ct jV 298 [f.v,.int .i64 m] h fun v h'=>v=(f.surges.l.getD (zBp f.surges.l m) dS).v∧h'=h:=by
 have hp:=hf.2
 have hl:=hp.max
 have h0i:(0:Int) < f.surges.l.length:=by omega
 have hp0:=hp.some h0
 have hs0:=zk9 hp h0
 simp only [go_sem,Nat.zero_mul] at hs0
 refine Ct.forget ?_
 refine zdn (fun A W=>by simp) Tryz.func298 rfl rfl (by simp) fun W0=>?_
 repeat' first|refine Wa ?_|(simp only [go_sem,jq,jj,jy,jv,jk,jx,hp0,hs0,h0i,Int.toNat_zero,Nat.zero_mul,Int.le_refl,implies_true,true_and,and_true];try rfl)|refine Wb ?_|fail
 refine zde (ι:=Nat) (fun k=>⟨[(1,true,.c (.v (.int .i64 m))),(4,true,.c (.p 1 0)),(5,true,.c (.p 2 0)),(13,true,.c (.v f.surges.val)),(14,true,.c (.v (.int .i64 f.surges.l.length))),(15,true,.c (.v (.int .i64 k)))],[(1,.box 225 [.v (.int .i64 0),.v (.int .i64 0),.v (.int .i64 0)]),(2,.box 225 [.v (.int .i64 (f.surges.l.getD (zBo f.surges.l m k) dS).src),.v (.int .i64 (f.surges.l.getD (zBo f.surges.l m k) dS).low),.v (.int .i64 (f.surges.l.getD (zBo f.surges.l m k) dS).high)])],h,3⟩) (fun k=>k≤f.surges.l.length) (fun k=>f.surges.l.length - k) 0 (Nat.zero_le _) ?_ ?_
 ·refine Evs ?_
  rw [zBo,sget h0]
  exact Gk
 intro k hk
 refine Wk ?_
 refine zc9 rfl (fun hdk=>?_) (fun hdk=>?_)
 ·have hlt:=zjH hdk
  repeat' first|refine Wa ?_|(simp only [go_sem,jq,jj,jy,jv,jk,jx,zk9 hp hlt,hp.some hlt,hlt,jW];try rfl)|refine Wb ?_|fail
  refine zc9 rfl (fun hq=>?_) (fun hq=>?_)
  ·refine Wk ?_
   refine ⟨k+1,hlt,by omega,?_⟩
   rw [zBs hlt (of_decide_eq_true hq),sget hlt]
   refine ⟨zjB (zjA hlt (by omega)),?_⟩
   exact Gk
  ·refine Wk ?_
   refine ⟨k+1,hlt,by omega,?_⟩
   rw [zBt hlt (of_decide_eq_false hq)]
   refine ⟨zjB (zjA hlt (by omega)),?_⟩
   exact Gk
 ·have hge:=zjI hdk
  refine Wk ?_
  rw [zBp,Nat.le_antisymm hge hk]
  try rfl
theorem zBC {p:Int} (h:zzz p=true):4≤p∧p≤2880∧Int.tmod p 4=0:=by
 simp only [zzz,In,jJ,decide_eq_true_eq,beq_iff_eq] at h
 exact ⟨h.1.1,h.1.2,h.2⟩
theorem zBD {n p:Int} (h:4≤p∧p≤2880):IntKind.i64.wrap (Int.tmod n p+p)=Int.tmod n p+p∧Int.tmod (Int.tmod n p+p) p=n % p∧(if Int.tmod n p < 0 then Int.tmod n p+p else Int.tmod n p)=n % p∧-p < Int.tmod n p∧Int.tmod n p < p:=by
 have e1:-p < Int.tmod n p∧Int.tmod n p < p:=by
  have:=Int.tmod_lt_of_pos n (show 0 < p by omega)
  have h2:=Int.lt_tmod_of_pos n (show 0 < p by omega)
  omega
 have e2:Int.tmod n p=n % p∨Int.tmod n p=n % p - p:=by
  rw [Int.tmod_eq_emod]
  split
  ·left;omega
  ·right;omega
 have e3:=Int.emod_nonneg n (show p ≠ 0 by omega)
 have e4:=Int.emod_lt_of_pos n (show 0 < p by omega)
 refine ⟨zjz (by omega),?_,?_,e1⟩
 ·rw [Int.tmod_eq_emod_of_nonneg (by omega),Int.add_emod_right]
  rcases e2 with e2|e2
  ·rw [e2,Int.emod_emod_of_dvd _ (Int.dvd_refl p)]
  ·rw [e2,Int.sub_emod_right];exact Int.emod_emod_of_dvd _ (Int.dvd_refl p)
 ·split <;> omega
theorem zBE (n p:Int) (h:Hp):Ct jV 312 [.int .i64 n,.int .i64 p] h fun v h'=>v=.int .i64 (zBw n p)∧h'=h:=by
 refine zdn (fun A W=>by simp) Tryz.func312 rfl rfl (by simp) fun W0=>?_
 repeat' first|refine Wa ?_|refine zhF (fun _=>zzA _ _) ?_|(simp only [go_sem,jq,jj,jy,jv,jk,jx];try rfl)|refine Wb ?_|fail
 refine zc9 rfl (fun hc=>?_) (fun hc=>?_)
 ·rw [Bool.not_eq_true'] at hc
  refine Wk ?_
  rw [zBw,if_neg (by rw [hc];exact Bool.false_ne_true)]
 rw [Bool.not_eq_false'] at hc
 obtain ⟨h1,h2,h3⟩:=zBC hc
 obtain ⟨w1,w2,w3,w4⟩:=zBD (n:=n) ⟨h1,h2⟩
 have hp0:¬ p=0:=by omega
 have hh:0 < Int.tdiv p 2∧Int.tdiv p 2≤1440:=by rw [Int.tdiv_eq_ediv_of_nonneg (by omega)];omega
 have hw:IntKind.i64.wrap (Int.tdiv p 2)=Int.tdiv p 2:=zjz (by omega)
 have hm:=Int.mul_le_mul hh.2 hh.2 (by omega) (by decide)
 have hm0:=Int.mul_pos hh.1 hh.1
 have hww:IntKind.i64.wrap (Int.tdiv p 2 * Int.tdiv p 2)=Int.tdiv p 2 * Int.tdiv p 2:=zjz (by omega)
 have hq0:¬ Int.tdiv p 2 * Int.tdiv p 2=0:=by omega
 have h20:¬ (2:Int)=0:=by decide
 repeat' first|refine Wa ?_|(simp only [go_sem,jq,jj,jy,jv,jk,jx,w1,w2,hp0,hw,h20,not_false_eq_true,implies_true,true_and];try rfl)|refine Wb ?_|fail
 refine zc9 rfl (fun hq=>?_) (fun hq=>?_)
 ·repeat' first|refine Wa ?_|(simp only [go_sem,jq,jj,jy,jv,jk,jx,hw,hww,hq0,not_false_eq_true,implies_true,true_and];try rfl)|refine Wb ?_|fail
  rw [zBw,if_pos hc,if_neg (by have:=of_decide_eq_true hq;omega),hww]
 ·repeat' first|refine Wa ?_|(simp only [go_sem,jq,jj,jy,jv,jk,jx,hw,hww,hq0,not_false_eq_true,implies_true,true_and];try rfl)|refine Wb ?_|fail
  rw [zBw,if_pos hc,if_pos (by have:=of_decide_eq_false hq;omega),hww]
theorem zBF (n p:Int) (h:Hp):Ct jV 310 [.int .i64 n,.int .i64 p] h fun v h'=>v=.int .i64 (zBw n p)∧h'=h:=by
 have h40:¬ (4:Int)=0:=by decide
 have h20:¬ (2:Int)=0:=by decide
 refine zdn (fun A W=>by simp) Tryz.func310 rfl rfl (by simp) fun W0=>?_
 repeat' first|refine Wa ?_|(simp only [go_sem,jq,jj,jy,jv,jk,jx,h40,not_false_eq_true,implies_true,true_and];try rfl)|refine Wb ?_|fail
 refine zc9 rfl (fun hc=>?_) (fun hc=>?_)
 ·refine Wk ?_
  rw [zBw,if_neg]
  intro e
  obtain ⟨h1,h2,h3⟩:=zBC e
  rw [jQ,jQ] at hc
  rcases hc with (hc|hc)|hc
  ·have:=of_decide_eq_true hc;omega
  ·have:=of_decide_eq_true hc;omega
  ·exact zjD hc h3
 have hp:zzz p=true:=by
  obtain ⟨hc,hc3⟩:=Bool.or_eq_false_iff.1 hc
  obtain ⟨hc1,hc2⟩:=Bool.or_eq_false_iff.1 hc
  have hc1:=of_decide_eq_false hc1
  have hc2:=of_decide_eq_false hc2
  simp only [zzz,In,jJ,decide_eq_true_eq,beq_iff_eq]
  exact ⟨⟨by omega,by omega⟩,zjE hc3⟩
 obtain ⟨h1,h2,h3⟩:=zBC hp
 obtain ⟨w1,w2,w3,w4⟩:=zBD (n:=n) ⟨h1,h2⟩
 have hp0:¬ p=0:=by omega
 have hh:0 < Int.tdiv p 2∧Int.tdiv p 2≤1440:=by rw [Int.tdiv_eq_ediv_of_nonneg (by omega)];omega
 have hw:IntKind.i64.wrap (Int.tdiv p 2)=Int.tdiv p 2:=zjz (by omega)
 have hm:=Int.mul_le_mul hh.2 hh.2 (by omega) (by decide)
 have hm0:=Int.mul_pos hh.1 hh.1
 have hww:IntKind.i64.wrap (Int.tdiv p 2 * Int.tdiv p 2)=Int.tdiv p 2 * Int.tdiv p 2:=zjz (by omega)
 have hq0:¬ Int.tdiv p 2 * Int.tdiv p 2=0:=by omega
 repeat' first|refine Wa ?_|(simp only [go_sem,jq,jj,jy,jv,jk,jx,hp0,not_false_eq_true,implies_true,true_and];try rfl)|refine Wb ?_|fail
 have fin:∀ x:Int,x=n % p→True:=fun _ _=>trivial
 refine zc9 rfl (fun hx=>?_) (fun hx=>?_)
 ·have hx:=of_decide_eq_true hx
  rw [if_pos hx] at w3
  have w5:IntKind.i64.wrap (n.tmod p+p)=n % p:=by rw [w1,w3]
  repeat' first|refine Wa ?_|(simp only [go_sem,jq,jj,jy,jv,jk,jx,hp0,hw,h20,w5,not_false_eq_true,implies_true,true_and];try rfl)|refine Wb ?_|fail
  refine zc9 rfl (fun hq=>?_) (fun hq=>?_)
  ·repeat' first|refine Wa ?_|(simp only [go_sem,jq,jj,jy,jv,jk,jx,hw,hww,hq0,not_false_eq_true,implies_true,true_and];try rfl)|refine Wb ?_|fail
   rw [zBw,if_pos hp,if_pos (of_decide_eq_true hq),hww]
  ·repeat' first|refine Wa ?_|(simp only [go_sem,jq,jj,jy,jv,jk,jx,hw,hww,hq0,not_false_eq_true,implies_true,true_and];try rfl)|refine Wb ?_|fail
   rw [zBw,if_pos hp,if_neg (of_decide_eq_false hq),hww]
 ·have hx:=of_decide_eq_false hx
  rw [if_neg hx] at w3
  repeat' first|refine Wa ?_|(simp only [go_sem,jq,jj,jy,jv,jk,jx,hp0,hw,h20,w3,not_false_eq_true,implies_true,true_and];try rfl)|refine Wb ?_|fail
  refine zc9 rfl (fun hq=>?_) (fun hq=>?_)
  ·repeat' first|refine Wa ?_|(simp only [go_sem,jq,jj,jy,jv,jk,jx,hw,hww,hq0,not_false_eq_true,implies_true,true_and];try rfl)|refine Wb ?_|fail
   rw [zBw,if_pos hp,if_pos (of_decide_eq_true hq),hww]
  ·repeat' first|refine Wa ?_|(simp only [go_sem,jq,jj,jy,jv,jk,jx,hw,hww,hq0,not_false_eq_true,implies_true,true_and];try rfl)|refine Wb ?_|fail
   rw [zBw,if_pos hp,if_neg (of_decide_eq_false hq),hww]
theorem zBG {α β:Type} {f:β→α→β} {b:β} {l:List α} {k:Nat} (hk:k < l.length):(l.take (k+1)).foldl f b=f ((l.take k).foldl f b) l[k]:=by rw [List.take_succ_eq_append_getElem hk,List.foldl_append];rfl
theorem zBH (t:DTide) (m:Int) (h:Hp) (ht:Enc.ok h t):Ct jV 302 [t.v,.int .i64 m] h fun v h'=>v=.int .i64 (zBy (Con.con t) m)∧h'=h:=by
 have hp:=ht.2
 have hl:=hp.max
 rw [zBy,show (Con.con t).mean=t.mean from rfl,show (Con.con t).parts=t.parts.l from zzP _]
 refine zdn (fun A W=>by simp) Tryz.func302 rfl rfl (by simp) fun W0=>?_
 refine Wk ?_
 refine zde (ι:=Nat) (fun k=>⟨[(1,true,.c (.v (.int .i64 m))),(5,true,.c (.v (.int .i64 ((t.parts.l.take k).foldl (zBx m) t.mean)))),(11,true,.c (.v t.parts.val)),(12,true,.c (.v (.int .i64 t.parts.l.length))),(13,true,.c (.v (.int .i64 k)))],[],h,0⟩) (fun k=>k≤t.parts.l.length) (fun k=>t.parts.l.length - k) 0 (Nat.zero_le _) ?_ ?_
 ·refine Evs ?_
  exact Gk
 intro k hk
 refine Wk ?_
 refine zc9 rfl (fun hdk=>?_) (fun hdk=>?_)
 ·have hlt:=zjH hdk
  have hp':=hp.el hlt
  repeat' first|refine Wa ?_|(simp only [go_sem,jq,jj,jy,jv,jk,jx,zk4 hp hlt,hp.some hlt,hlt,jW];try rfl)|refine Wb ?_|fail
  have h10:¬ (10000:Int)=0:=by decide
  refine zyW rfl ?_
  refine U_t [0,1,3,4,7,2,5,8,6] rfl ?_
  simp only [go_sem,jq,jj,jy,jv,jk,jx,h10,not_false_eq_true,implies_true]
  refine U_1 9 0 [2,1] rfl rfl ?_
  simp only [go_sem,jq,jj,jy,jv,jk,jx,h10,not_false_eq_true,implies_true]
  refine zhF (fun _=>zBE _ _ _) ?_
  simp only [go_sem,jq,jj,jy,jv,jk,jx,h10,not_false_eq_true,implies_true]
  refine U_t [10,11,12,13] rfl ?_
  simp only [go_sem,jq,jj,jy,jv,jk,jx,h10,not_false_eq_true,implies_true]
  refine U_d ?_
  refine Wk ?_
  refine ⟨k+1,hlt,by omega,zjB ?_,zjB (zjA hlt (by omega))⟩
  rw [zBG hlt]
  rfl
 ·have hge:=zjI hdk
  refine Wk ?_
  rw [List.take_of_length_le hge]
theorem zBI (t:DTide) (m:Int) (h:Hp) (ht:Enc.ok h t):Ct jV 299 [t.v,.int .i64 m] h fun v h'=>v=.int .i64 (zBy (Con.con t) m)∧h'=h:=by
 have hp:=ht.2
 have hl:=hp.max
 rw [zBy,show (Con.con t).mean=t.mean from rfl,show (Con.con t).parts=t.parts.l from zzP _]
 refine zdn (fun A W=>by simp) Tryz.func299 rfl rfl (by simp) fun W0=>?_
 refine Wk ?_
 refine zde (ι:=Nat) (fun k=>⟨[(1,true,.c (.v (.int .i64 m))),(5,true,.c (.v (.int .i64 ((t.parts.l.take k).foldl (zBx m) t.mean)))),(11,true,.c (.v t.parts.val)),(12,true,.c (.v (.int .i64 t.parts.l.length))),(13,true,.c (.v (.int .i64 k)))],[],h,0⟩) (fun k=>k≤t.parts.l.length) (fun k=>t.parts.l.length - k) 0 (Nat.zero_le _) ?_ ?_
 ·refine Evs ?_
  exact Gk
 intro k hk
 refine Wk ?_
 refine zc9 rfl (fun hdk=>?_) (fun hdk=>?_)
 ·have hlt:=zjH hdk
  have hp':=hp.el hlt
  repeat' first|refine Wa ?_|(simp only [go_sem,jq,jj,jy,jv,jk,jx,zk4 hp hlt,hp.some hlt,hlt,jW];try rfl)|refine Wb ?_|fail
  have h10:¬ (10000:Int)=0:=by decide
  refine zyW rfl ?_
  refine U_t [0,1,3,4,7,2,5,8,6] rfl ?_
  simp only [go_sem,jq,jj,jy,jv,jk,jx,h10,not_false_eq_true,implies_true]
  refine U_1 9 0 [2,1] rfl rfl ?_
  simp only [go_sem,jq,jj,jy,jv,jk,jx,h10,not_false_eq_true,implies_true]
  refine zhF (fun _=>zBF _ _ _) ?_
  simp only [go_sem,jq,jj,jy,jv,jk,jx,h10,not_false_eq_true,implies_true]
  refine U_t [10,11,12,13] rfl ?_
  simp only [go_sem,jq,jj,jy,jv,jk,jx,h10,not_false_eq_true,implies_true]
  refine U_d ?_
  refine Wk ?_
  refine ⟨k+1,hlt,by omega,zjB ?_,zjB (zjA hlt (by omega))⟩
  rw [zBG hlt]
  rfl
 ·have hge:=zjI hdk
  refine Wk ?_
  rw [List.take_of_length_le hge]
theorem zBJ (f:DForecast) (m:Int) (h:Hp) (hf:Enc.ok h f) (h0:0 < f.surges.l.length):Ct jV 287 [f.v,.int .i64 m] h fun v h'=>v=.int .i64 (zBz (Con.con f) m)∧h'=h:=by
 have hp:=hf.2
 have hs:=zBr (m:=m) h0
 have hsi:((zBp f.surges.l m:Nat):Int) < f.surges.l.length:=by omega
 rw [zBz,zBv,sget hs]
 refine zdn (fun A W=>by simp) Tryz.func287 rfl rfl (by simp) fun W0=>?_
 refine Wk ?_
 refine zyW rfl ?_
 refine U_t [0,2,4,6,7,1,5] rfl ?_
 simp only [go_sem,jq,jj,jy,jv,jk,jx,zmR hp hs,hp.some hs,hs,hsi,jW,jY]
 refine U_1 3 0 [5,6,4] rfl rfl ?_
 simp only [go_sem,jq,jj,jy,jv,jk,jx,zmR hp hs,hp.some hs,hs,hsi,jW,jY]
 refine zhF (fun _=>zBH _ _ _ hf.1) ?_
 simp only [go_sem,jq,jj,jy,jv,jk,jx,zmR hp hs,hp.some hs,hs,hsi,jW,jY]
 refine U_1 8 0 [5,4] rfl rfl ?_
 simp only [go_sem,jq,jj,jy,jv,jk,jx,zmR hp hs,hp.some hs,hs,hsi,jW,jY]
 refine zhF (fun _=>zBA f _ _ hf) ?_
 simp only [go_sem,jq,jj,jy,jv,jk,jx,zmR hp hs,hp.some hs,hs,hsi,jW,jY]
 refine U_t [9,10,11,12,13] rfl ?_
 simp only [go_sem,jq,jj,jy,jv,jk,jx,zmR hp hs,hp.some hs,hs,hsi,jW,jY]
 refine U_d ?_
 exact Wk0
end Go.Proofs.YtdejfjdbcggilaaGreat
