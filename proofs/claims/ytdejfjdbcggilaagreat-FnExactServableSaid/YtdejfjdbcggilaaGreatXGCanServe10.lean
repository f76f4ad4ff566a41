/- What functions of the given program compute, as contracts. -/
import Derived.Test.YtdejfjdbcggilaaGreatS9
set_option linter.unusedVariables false
set_option linter.unusedSimpArgs false
set_option maxRecDepth 4000
open Nat renaming reduceAdd → jq, reduceMul → jj, reduceBEq → jy, reduceLeDiff → jv, reduceLT → jk, reduceEqDiff → jx
open Bool renaming or_eq_false_iff → jp, or_eq_true → jQ, and_eq_true → jJ
open Int renaming toNat_natCast → jW, natCast_nonneg → jY
open Go.Proofs.Tryz renaming prog → jV
namespace Go.Proofs.YtdejfjdbcggilaaGreat
open Go Go.SL
set_option maxHeartbeats 1000000
theorem i64w (n:Int):I64 (IntKind.i64.wrap n):=by rw [w64];unfold I64;omega
def dW:DWindow:=⟨0,0⟩
theorem wget {l:List DWindow} {i:Nat} (hi:i < l.length):l.getD i dW=l[i]:=by simp [List.getD_eq_getElem?_getD,hi]
def zBs (l:List DWindow) (i:Nat):Bool:=decide ((0≤(l.getD i dW).src∧(l.getD i dW).src≤(l.getD i dW).dst∧(l.getD i dW).dst≤2880)∧(0 < i→IntKind.i64.wrap ((l.getD (i - 1) dW).dst+1) < (l.getD i dW).src))
def zBt (l:List DWindow):Bool:=decide (∀ i,i < l.length→zBs l i=true)
def zBu (l:List DWindow) (m:Int):Bool:=l.any fun w=>In m w.src w.dst
def zBv (l:List DWindow) (m:Int):Int:=if zBt l=true then (match l.find? (fun w=>decide (m≤w.dst)) with|some w=>max w.src m|none=>-1) else -1
def shr (n:Int) (w:DWindow):Bool:=decide (n≤IntKind.i64.wrap (w.dst - w.src))
def shw (n:Int) (w:DWindow):DWindow:=⟨w.src,IntKind.i64.wrap (w.dst - n)⟩
def zBw (l:List DWindow) (n:Int):List DWindow:=if zBt l=true∧0≤n∧n≤2880 then (l.filter (shr n)).map (shw n) else []
theorem zBx (a:Sl DWindow) (h:Hp) (ha:a.Ok h):Ct jV 257 [a.val] h fun v h'=>v=.bool (zBt a.l)∧h'=h:=by
 have hl:=ha.max
 rw [zBt]
 refine zdm (fun A W=>by simp) Tryz.func257 rfl rfl (by simp) fun W0=>?_
 refine Wk ?_
 refine zdd (ι:=Nat) (fun k=>⟨[(0,true,.c (.v a.val)),(5,true,.c (.v a.val)),(6,true,.c (.v (.int .i64 a.l.length))),(7,true,.c (.v (.int .i64 k)))],[],h,0⟩) (fun k=>k≤a.l.length∧∀ i,i < k→zBs a.l i=true) (fun k=>a.l.length - k) 0 ⟨Nat.zero_le _,zy7⟩ ?_ ?_
 ·refine Evs ?_
  exact Gk
 intro k hk
 refine Wk ?_
 refine zc9 rfl (fun hdk=>?_) (fun hdk=>?_)
 ·have hlt:=zjG hdk
  rcases Nat.eq_zero_or_pos k with h0|h0
  ·have hf:(0 < (k:Int))=False:=eq_false (by omega)
   repeat' first|refine Wa ?_|(simp (maxSteps:=2000000) only [go_sem,jq,jj,jy,jv,jk,jx,zlw ha hlt,ha.some hlt,hlt,jW];try rfl)|refine Wb ?_|fail
   refine zAZ rfl ?_
   refine U_t [0,1] rfl ?_
   simp (maxSteps:=2000000) only [go_sem,jq,jj,jy,jv,jk,jx,hf,decide_false,Bool.and_false,Bool.false_and,Bool.or_false,Bool.false_eq_true,false_implies,implies_true,true_and,and_true,reduceCtorEq]
   refine U_1 2 0 [] rfl rfl ?_
   simp (maxSteps:=2000000) only [go_sem,jq,jj,jy,jv,jk,jx,hf,decide_false,Bool.and_false,Bool.false_and,Bool.or_false,Bool.false_eq_true,false_implies,implies_true,true_and,and_true,reduceCtorEq]
   refine zhE (fun _=>zye _ _ _ _) ?_
   simp (maxSteps:=2000000) only [go_sem,jq,jj,jy,jv,jk,jx,hf,decide_false,Bool.and_false,Bool.false_and,Bool.or_false,Bool.false_eq_true,false_implies,implies_true,true_and,and_true,reduceCtorEq]
   refine U_t [3,4,5,7,6,8] rfl ?_
   simp (maxSteps:=2000000) only [go_sem,jq,jj,jy,jv,jk,jx,hf,decide_false,Bool.and_false,Bool.false_and,Bool.or_false,Bool.false_eq_true,false_implies,implies_true,true_and,and_true,reduceCtorEq]
   refine U_1 9 0 [] rfl rfl ?_
   simp (maxSteps:=2000000) only [go_sem,jq,jj,jy,jv,jk,jx,hf,decide_false,Bool.and_false,Bool.false_and,Bool.or_false,Bool.false_eq_true,false_implies,implies_true,true_and,and_true,reduceCtorEq]
   refine zhE (fun _=>zye _ _ _ _) ?_
   simp (maxSteps:=2000000) only [go_sem,jq,jj,jy,jv,jk,jx,hf,decide_false,Bool.and_false,Bool.false_and,Bool.or_false,Bool.false_eq_true,false_implies,implies_true,true_and,and_true,reduceCtorEq]
   refine U_t [10,11,12,13,14,15,16,18,19,17,20,21,22,23,24,25,26,27] rfl ?_
   simp (maxSteps:=2000000) only [go_sem,jq,jj,jy,jv,jk,jx,hf,decide_false,Bool.and_false,Bool.false_and,Bool.or_false,Bool.false_eq_true,false_implies,implies_true,true_and,and_true,reduceCtorEq]
   refine U_d ?_
   refine Wk ?_
   refine zc9 rfl (fun hq=>?_) (fun hq=>?_)
   ·refine Wk ?_
    rw [zy4 hlt (decide_eq_false (by rw [wget hlt];intro e;simp only [jQ,Bool.not_eq_true',Bool.and_eq_false_iff,decide_eq_true_eq,decide_eq_false_iff_not] at hq;omega))]
   ·refine Wk ?_
    refine ⟨k+1,⟨hlt,zy5 hk.2 (decide_eq_true (by rw [wget hlt];simp only [jp,Bool.not_eq_false',jJ,decide_eq_true_eq,decide_eq_false_iff_not] at hq;exact ⟨by omega,fun e=>by omega⟩))⟩,by omega,zjA (zjz hlt (by omega))⟩
  ·have hp:k - 1 < a.l.length:=by omega
   have hw:IntKind.i64.wrap ((k:Int) - 1)=((k - 1:Nat):Int):=by rw [zjy (by omega)];omega
   have hf:(0 < (k:Int))=True:=eq_true (by omega)
   repeat' first|refine Wa ?_|(simp (maxSteps:=2000000) only [go_sem,jq,jj,jy,jv,jk,jx,zlw ha hlt,ha.some hlt,hlt,jW];try rfl)|refine Wb ?_|fail
   refine zAZ rfl ?_
   refine U_t [0,1] rfl ?_
   simp (maxSteps:=2000000) only [go_sem,jq,jj,jy,jv,jk,jx,hf,decide_true,and_true,imp_self,true_implies,Bool.and_true,Bool.true_and,hw,zlw ha hp,zm0 ha hp,ha.some hp,hp,jW]
   refine U_1 2 0 [] rfl rfl ?_
   simp (maxSteps:=2000000) only [go_sem,jq,jj,jy,jv,jk,jx,hf,decide_true,and_true,imp_self,true_implies,Bool.and_true,Bool.true_and,hw,zlw ha hp,zm0 ha hp,ha.some hp,hp,jW]
   refine zhE (fun _=>zye _ _ _ _) ?_
   simp (maxSteps:=2000000) only [go_sem,jq,jj,jy,jv,jk,jx,hf,decide_true,and_true,imp_self,true_implies,Bool.and_true,Bool.true_and,hw,zlw ha hp,zm0 ha hp,ha.some hp,hp,jW]
   refine U_t [3,4,5,7,6,8] rfl ?_
   simp (maxSteps:=2000000) only [go_sem,jq,jj,jy,jv,jk,jx,hf,decide_true,and_true,imp_self,true_implies,Bool.and_true,Bool.true_and,hw,zlw ha hp,zm0 ha hp,ha.some hp,hp,jW]
   refine U_1 9 0 [] rfl rfl ?_
   simp (maxSteps:=2000000) only [go_sem,jq,jj,jy,jv,jk,jx,hf,decide_true,and_true,imp_self,true_implies,Bool.and_true,Bool.true_and,hw,zlw ha hp,zm0 ha hp,ha.some hp,hp,jW]
   refine zhE (fun _=>zye _ _ _ _) ?_
   simp (maxSteps:=2000000) only [go_sem,jq,jj,jy,jv,jk,jx,hf,decide_true,and_true,imp_self,true_implies,Bool.and_true,Bool.true_and,hw,zlw ha hp,zm0 ha hp,ha.some hp,hp,jW]
   refine U_t [10,11,12,13,14,15,16,18,19,17,20,21,22,23,24,25,26,27] rfl ?_
   simp (maxSteps:=2000000) only [go_sem,jq,jj,jy,jv,jk,jx,hf,decide_true,and_true,imp_self,true_implies,Bool.and_true,Bool.true_and,hw,zlw ha hp,zm0 ha hp,ha.some hp,hp,jW]
   refine U_d ?_
   refine Wk ?_
   refine zc9 rfl (fun hq=>?_) (fun hq=>?_)
   ·refine Wk ?_
    rw [zy4 hlt (decide_eq_false (by rw [wget hlt,wget hp];intro e;have e2:=e.2 h0;simp only [jQ,Bool.not_eq_true',Bool.and_eq_false_iff,decide_eq_true_eq,decide_eq_false_iff_not] at hq;omega))]
   ·refine Wk ?_
    refine ⟨k+1,⟨hlt,zy5 hk.2 (decide_eq_true (by rw [wget hlt,wget hp];simp only [jp,Bool.not_eq_false',jJ,decide_eq_true_eq,decide_eq_false_iff_not] at hq;exact ⟨by omega,fun e=>by omega⟩))⟩,by omega,zjA (zjz hlt (by omega))⟩
 ·have hge:=zjH hdk
  refine Wk ?_
  rw [zy6 hge hk.2]
theorem zBy (a:Sl DWindow) (h:Hp) (ha:a.Ok h):Ct jV 270 [a.val] h fun v h'=>v=.bool (zBt a.l)∧h'=h:=by
 have hl:=ha.max
 rw [zBt]
 refine zdm (fun A W=>by simp) Tryz.func270 rfl rfl (by simp) fun W0=>?_
 refine Wk ?_
 refine zdd (ι:=Nat) (fun k=>⟨[(0,true,.c (.v a.val)),(5,true,.c (.v a.val)),(6,true,.c (.v (.int .i64 a.l.length))),(7,true,.c (.v (.int .i64 k)))],[],h,0⟩) (fun k=>k≤a.l.length∧∀ i,i < k→zBs a.l i=true) (fun k=>a.l.length - k) 0 ⟨Nat.zero_le _,zy7⟩ ?_ ?_
 ·refine Evs ?_
  exact Gk
 intro k hk
 refine Wk ?_
 refine zc9 rfl (fun hdk=>?_) (fun hdk=>?_)
 ·have hlt:=zjG hdk
  rcases Nat.eq_zero_or_pos k with h0|h0
  ·have hf:(0 < (k:Int))=False:=eq_false (by omega)
   repeat' first|refine Wa ?_|(simp (maxSteps:=2000000) only [go_sem,jq,jj,jy,jv,jk,jx,zlw ha hlt,ha.some hlt,hlt,jW];try rfl)|refine Wb ?_|fail
   refine zAZ rfl ?_
   refine U_t [0,1,2,3,4,6,5,7,8,9,10,11,12,13,14,15,16,17,18,19,20,26,21,27,22,23,24,25,28,29,30] rfl ?_
   simp (maxSteps:=2000000) only [go_sem,jq,jj,jy,jv,jk,jx,hf,decide_false,Bool.and_false,Bool.false_and,Bool.or_false,Bool.false_eq_true,false_implies,implies_true,true_and,and_true,reduceCtorEq]
   refine U_d ?_
   refine Wk ?_
   refine zc9 rfl (fun hq=>?_) (fun hq=>?_)
   ·refine Wk ?_
    rw [zy4 hlt (decide_eq_false (by rw [wget hlt];intro e;simp only [jQ,Bool.not_eq_true',Bool.and_eq_false_iff,decide_eq_true_eq,decide_eq_false_iff_not] at hq;omega))]
   ·refine Wk ?_
    refine ⟨k+1,⟨hlt,zy5 hk.2 (decide_eq_true (by rw [wget hlt];simp only [jp,Bool.not_eq_false',jJ,decide_eq_true_eq,decide_eq_false_iff_not] at hq;exact ⟨by omega,fun e=>by omega⟩))⟩,by omega,zjA (zjz hlt (by omega))⟩
  ·have hp:k - 1 < a.l.length:=by omega
   have hw:IntKind.i64.wrap ((k:Int) - 1)=((k - 1:Nat):Int):=by rw [zjy (by omega)];omega
   have hf:(0 < (k:Int))=True:=eq_true (by omega)
   repeat' first|refine Wa ?_|(simp (maxSteps:=2000000) only [go_sem,jq,jj,jy,jv,jk,jx,zlw ha hlt,ha.some hlt,hlt,jW];try rfl)|refine Wb ?_|fail
   refine zAZ rfl ?_
   refine U_t [0,1,2,3,4,6,5,7,8,9,10,11,12,13,14,15,16,17,18,19,20,26,21,27,22,23,24,25,28,29,30] rfl ?_
   simp (maxSteps:=2000000) only [go_sem,jq,jj,jy,jv,jk,jx,hf,decide_true,and_true,imp_self,true_implies,Bool.and_true,Bool.true_and,hw,zlw ha hp,zm0 ha hp,ha.some hp,hp,jW]
   refine U_d ?_
   refine Wk ?_
   refine zc9 rfl (fun hq=>?_) (fun hq=>?_)
   ·refine Wk ?_
    rw [zy4 hlt (decide_eq_false (by rw [wget hlt,wget hp];intro e;have e2:=e.2 h0;simp only [jQ,Bool.not_eq_true',Bool.and_eq_false_iff,decide_eq_true_eq,decide_eq_false_iff_not] at hq;omega))]
   ·refine Wk ?_
    refine ⟨k+1,⟨hlt,zy5 hk.2 (decide_eq_true (by rw [wget hlt,wget hp];simp only [jp,Bool.not_eq_false',jJ,decide_eq_true_eq,decide_eq_false_iff_not] at hq;exact ⟨by omega,fun e=>by omega⟩))⟩,by omega,zjA (zjz hlt (by omega))⟩
 ·have hge:=zjH hdk
  refine Wk ?_
  rw [zy6 hge hk.2]
theorem zBz {α:Type} {p:α→Bool} {l:List α} {k:Nat} (hk:k < l.length) (h:p l[k]=true):l.any p=true:=List.any_eq_true.2 ⟨l[k],List.getElem_mem hk,h⟩
theorem zBA {α:Type} {p:α→Bool} {l:List α} (h:∀ i (hi:i < l.length),p l[i]=false):l.any p=false:=by
 rw [List.any_eq_false]
 intro x hx
 obtain ⟨i,hi,rfl⟩:=List.getElem_of_mem hx
 rw [h i hi];exact Bool.false_ne_true
theorem zBB {α:Type} {p:α→Bool} {l:List α} {k:Nat} (hk:k < l.length) (h:∀ i (hi:i < l.length),i < k→p l[i]=false) (hq:p l[k]=false):∀ i (hi:i < l.length),i < k+1→p l[i]=false:=fun i hi hik=>by
 rcases Nat.lt_succ_iff_lt_or_eq.1 hik with h1|rfl
 ·exact h i hi h1
 ·exact hq
theorem zBC {α:Type} {p:α→Bool} {l:List α} {k:Nat} (hk:k < l.length) (h:∀ i (hi:i < l.length),i < k→p l[i]=false) (hq:p l[k]=true):l.find? p=some l[k]:=by
 rw [List.find?_eq_some_iff_getElem]
 exact ⟨hq,k,hk,rfl,fun j hj=>by rw [h j (by omega) hj];rfl⟩
theorem zBD {α:Type} {p:α→Bool} {l:List α} (h:∀ i (hi:i < l.length),p l[i]=false):l.find? p=none:=by
 rw [List.find?_eq_none]
 intro x hx
 obtain ⟨i,hi,rfl⟩:=List.getElem_of_mem hx
 rw [h i hi];exact Bool.false_ne_true
theorem zBE (a:Sl DWindow) (m:Int) (h:Hp) (ha:a.Ok h):Ct jV 230 [a.val,.int .i64 m] h fun v h'=>v=.bool (zBu a.l m)∧h'=h:=by
 have hl:=ha.max
 refine zdm (fun A W=>by simp) Tryz.func230 rfl rfl (by simp) fun W0=>?_
 refine Wk ?_
 refine zdd (ι:=Nat) (fun k=>⟨[(1,true,.c (.v (.int .i64 m))),(7,true,.c (.v a.val)),(8,true,.c (.v (.int .i64 a.l.length))),(9,true,.c (.v (.int .i64 k)))],[],h,0⟩) (fun k=>k≤a.l.length∧∀ i (hi:i < a.l.length),i < k→(fun w:DWindow=>In m w.src w.dst) a.l[i]=false) (fun k=>a.l.length - k) 0 ⟨Nat.zero_le _,fun i _ h=>absurd h (Nat.not_lt_zero _)⟩ ?_ ?_
 ·refine Evs ?_
  exact Gk
 intro k hk
 refine Wk ?_
 refine zc9 rfl (fun hdk=>?_) (fun hdk=>?_)
 ·have hlt:=zjG hdk
  repeat' first|refine Wa ?_|refine zhE (fun _=>zye _ _ _ _) ?_|(simp (maxSteps:=2000000) only [go_sem,jq,jj,jy,jv,jk,jx,zlw ha hlt,ha.some hlt,hlt,jW];try rfl)|refine Wb ?_|fail
  refine zc9 rfl (fun hq=>?_) (fun hq=>?_)
  ·refine Wk ?_
   rw [zBu,zBz hlt hq]
  ·refine Wk ?_
   refine ⟨k+1,⟨hlt,zBB (p:=fun w:DWindow=>In m w.src w.dst) hlt hk.2 hq⟩,by omega,zjA (zjz hlt (by omega))⟩
 ·have hge:=zjH hdk
  refine Wk ?_
  rw [zBu,zBA (fun i hi=>hk.2 i hi (by omega))]
theorem zBF (a:Sl DWindow) (m:Int) (h:Hp) (ha:a.Ok h):Ct jV 232 [a.val,.int .i64 m] h fun v h'=>v=.int .i64 (zBv a.l m)∧h'=h:=by
 have hl:=ha.max
 rw [zBv]
 refine zdm (fun A W=>by simp) Tryz.func232 rfl rfl (by simp) fun W0=>?_
 repeat' first|refine Wa ?_|refine zhE (fun _=>zBx _ _ ha) ?_|(simp (maxSteps:=2000000) only [go_sem,jq,jj,jy,jv,jk,jx];try rfl)|refine Wb ?_|fail
 refine zc9 rfl (fun hc=>?_) (fun hc=>?_)
 ·rw [Bool.not_eq_true'] at hc
  refine Wk ?_
  rw [hc];rfl
 rw [Bool.not_eq_false'] at hc
 rw [if_pos hc]
 refine Wk ?_
 refine zdd (ι:=Nat) (fun k=>⟨[(1,true,.c (.v (.int .i64 m))),(10,true,.c (.v a.val)),(11,true,.c (.v (.int .i64 a.l.length))),(12,true,.c (.v (.int .i64 k)))],[],h,0⟩) (fun k=>k≤a.l.length∧∀ i (hi:i < a.l.length),i < k→(fun w:DWindow=>decide (m≤w.dst)) a.l[i]=false) (fun k=>a.l.length - k) 0 ⟨Nat.zero_le _,fun i _ h=>absurd h (Nat.not_lt_zero _)⟩ ?_ ?_
 ·refine Evs ?_
  exact Gk
 intro k hk
 refine Wk ?_
 refine zc9 rfl (fun hdk=>?_) (fun hdk=>?_)
 ·have hlt:=zjG hdk
  repeat' first|refine Wa ?_|(simp (maxSteps:=2000000) only [go_sem,jq,jj,jy,jv,jk,jx,zlw ha hlt,ha.some hlt,hlt,jW];try rfl)|refine Wb ?_|fail
  refine zc9 rfl (fun hq=>?_) (fun hq=>?_)
  ·refine Wk ?_
   rw [zBC hlt hk.2 hq]
  ·refine Wk ?_
   refine ⟨k+1,⟨hlt,zBB (p:=fun w:DWindow=>decide (m≤w.dst)) hlt hk.2 hq⟩,by omega,zjA (zjz hlt (by omega))⟩
 ·have hge:=zjH hdk
  refine Wk ?_
  rw [zBD (fun i hi=>hk.2 i hi (by omega))]
theorem zBG (a:Sl DWindow) (n:Int) (h:Hp) (ha:a.Ok h) (hz:a.l.length≤1048576):Ct jV 280 [a.val,.int .i64 n] h fun v h'=>∃ s:Sl DWindow,v=s.val∧s.l=zBw a.l n∧s.Ok h'∧Mine h h' s:=by
 rw [zBw]
 refine zdm (fun A W=>by simp) Tryz.func280 rfl rfl (by simp) fun W0=>?_
 repeat' first|refine Wa ?_|refine zhE (fun _=>zBx _ _ ha) ?_|refine zhE (fun _=>zye _ _ _ _) ?_|(simp (maxSteps:=2000000) only [go_sem,jq,jj,jy,jv,jk,jx];try rfl)|refine Wb ?_|fail
 refine zc9 rfl (fun hc=>?_) (fun hc=>?_)
 ·refine Wk ?_
  rw [if_neg (by intro e;rw [e.1,decide_eq_true e.2.1,decide_eq_true e.2.2] at hc;cases hc)]
  exact ⟨⟨none,0,[]⟩,rfl,rfl,znu,Mine.nil⟩
 simp only [jp,Bool.not_eq_false',jJ,decide_eq_true_eq] at hc
 rw [if_pos ⟨hc.1,hc.2.1,hc.2.2⟩]
 refine Wk ?_
 refine zm6 (ι:=Nat) (fun k=>⟨[(1,true,.c (.v (.int .i64 n))),(5,true,.c (.s 0)),(17,true,.c (.v a.val)),(18,true,.c (.v (.int .i64 a.l.length))),(19,true,.c (.v (.int .i64 k)))],[(0,.row 308 2 ((((a.l.take k).filter (shr n)).map (shw n))).length (((((a.l.take k).filter (shr n)).map (shw n))).flatMap Enc.enc))],h,1⟩) (fun k=>k≤a.l.length) (fun k=>a.l.length - k) 0 (Nat.zero_le _) [0] ?_ ?_
 ·refine Evs ?_
  exact Gk
 intro k hk
 refine Wk ?_
 refine zc9 rfl (fun hdk=>?_) (fun hdk=>?_)
 ·have hlt:=zjG hdk
  have hlf:(((a.l.take k).filter (shr n)).map (shw n)).length≤k:=by rw [List.length_map];exact Nat.le_trans (List.length_filter_le _ _) (by rw [List.length_take];omega)
  repeat' first|refine Wa ?_|(simp (maxSteps:=2000000) only [go_sem,jq,jj,jy,jv,jk,jx,zlw ha hlt,ha.some hlt,hlt,jW];try rfl)|refine Wb ?_|fail
  refine zc9 rfl (fun hq=>?_) (fun hq=>?_)
  ·refine Wk ?_
   refine ⟨by simp only [maxLen];omega,by omega,?_⟩
   refine Wk ?_
   refine ⟨k+1,[3],hlt,by omega,?_⟩
   refine Evs ?_
   rw [znv hlt hq,List.map_append,List.length_append,List.flatMap_append]
   refine ⟨zjA (zjz hlt (by omega)),?_⟩
   exact Gk
  ·refine Wk ?_
   refine ⟨k+1,[0],hlt,by omega,?_⟩
   refine Evs ?_
   rw [znw hlt hq]
   refine ⟨zjA (zjz hlt (by omega)),?_⟩
   exact Gk
 ·have hge:=zjH hdk
  refine zc6 ?_
  refine Evs ?_
  rw [List.take_of_length_le hge]
  refine zl1 0 ((a.l.filter (shr n)).map (shw n)) rfl rfl rfl rfl (by decide) (fun x hx=>?_) h (Hp.le_refl _) (Mines.flat (fun _=>rfl) (fun _=>trivial)) fun s h' e1 e2 e3 e4=>?_
  ·obtain ⟨y,hy,rfl⟩:=List.mem_map.1 hx
   exact ⟨(ha.2.2.2.1 y (List.mem_filter.1 hy).1).1,i64w _⟩
  refine Wk ?_
  exact ⟨s,rfl,e1,e2,e4⟩
theorem zBH (a:Sl DWindow) (m:Int) (h:Hp) (ha:a.Ok h):Ct jV 245 [a.val,.int .i64 m] h fun v h'=>v=.bool (zBu a.l m)∧h'=h:=by
 have hl:=ha.max
 refine zdm (fun A W=>by simp) Tryz.func245 rfl rfl (by simp) fun W0=>?_
 refine Wk ?_
 refine zdd (ι:=Nat) (fun k=>⟨[(1,true,.c (.v (.int .i64 m))),(7,true,.c (.v a.val)),(8,true,.c (.v (.int .i64 a.l.length))),(9,true,.c (.v (.int .i64 k)))],[],h,0⟩) (fun k=>k≤a.l.length∧∀ i (hi:i < a.l.length),i < k→(fun w:DWindow=>In m w.src w.dst) a.l[i]=false) (fun k=>a.l.length - k) 0 ⟨Nat.zero_le _,fun i _ h=>absurd h (Nat.not_lt_zero _)⟩ ?_ ?_
 ·refine Evs ?_
  exact Gk
 intro k hk
 refine Wk ?_
 refine zc9 rfl (fun hdk=>?_) (fun hdk=>?_)
 ·have hlt:=zjG hdk
  repeat' first|refine Wa ?_|refine zhE (fun _=>zyf _ _ _ _) ?_|(simp (maxSteps:=2000000) only [go_sem,jq,jj,jy,jv,jk,jx,zlw ha hlt,ha.some hlt,hlt,jW];try rfl)|refine Wb ?_|fail
  refine zc9 rfl (fun hq=>?_) (fun hq=>?_)
  ·refine Wk ?_
   rw [zBu,zBz hlt hq]
  ·refine Wk ?_
   refine ⟨k+1,⟨hlt,zBB (p:=fun w:DWindow=>In m w.src w.dst) hlt hk.2 hq⟩,by omega,zjA (zjz hlt (by omega))⟩
 ·have hge:=zjH hdk
  refine Wk ?_
  rw [zBu,zBA (fun i hi=>hk.2 i hi (by omega))]
theorem zBI (a:Sl DWindow) (m:Int) (h:Hp) (ha:a.Ok h):Ct jV 246 [a.val,.int .i64 m] h fun v h'=>v=.int .i64 (zBv a.l m)∧h'=h:=by
 have hl:=ha.max
 rw [zBv]
 refine zdm (fun A W=>by simp) Tryz.func246 rfl rfl (by simp) fun W0=>?_
 repeat' first|refine Wa ?_|refine zhE (fun _=>zBy _ _ ha) ?_|(simp (maxSteps:=2000000) only [go_sem,jq,jj,jy,jv,jk,jx];try rfl)|refine Wb ?_|fail
 refine zc9 rfl (fun hc=>?_) (fun hc=>?_)
 ·rw [Bool.not_eq_true'] at hc
  refine Wk ?_
  rw [hc];rfl
 rw [Bool.not_eq_false'] at hc
 rw [if_pos hc]
 refine Wk ?_
 refine zdd (ι:=Nat) (fun k=>⟨[(1,true,.c (.v (.int .i64 m))),(10,true,.c (.v a.val)),(11,true,.c (.v (.int .i64 a.l.length))),(12,true,.c (.v (.int .i64 k)))],[],h,0⟩) (fun k=>k≤a.l.length∧∀ i (hi:i < a.l.length),i < k→(fun w:DWindow=>decide (m≤w.dst)) a.l[i]=false) (fun k=>a.l.length - k) 0 ⟨Nat.zero_le _,fun i _ h=>absurd h (Nat.not_lt_zero _)⟩ ?_ ?_
 ·refine Evs ?_
  exact Gk
 intro k hk
 refine Wk ?_
 refine zc9 rfl (fun hdk=>?_) (fun hdk=>?_)
 ·have hlt:=zjG hdk
  repeat' first|refine Wa ?_|(simp (maxSteps:=2000000) only [go_sem,jq,jj,jy,jv,jk,jx,zlw ha hlt,ha.some hlt,hlt,jW];try rfl)|refine Wb ?_|fail
  refine zc9 rfl (fun hq=>?_) (fun hq=>?_)
  ·refine Wk ?_
   rw [zBC hlt hk.2 hq]
  ·refine Wk ?_
   refine ⟨k+1,⟨hlt,zBB (p:=fun w:DWindow=>decide (m≤w.dst)) hlt hk.2 hq⟩,by omega,zjA (zjz hlt (by omega))⟩
 ·have hge:=zjH hdk
  refine Wk ?_
  rw [zBD (fun i hi=>hk.2 i hi (by omega))]
theorem zBJ (a:Sl DWindow) (n:Int) (h:Hp) (ha:a.Ok h) (hz:a.l.length≤1048576):Ct jV 266 [a.val,.int .i64 n] h fun v h'=>∃ s:Sl DWindow,v=s.val∧s.l=zBw a.l n∧s.Ok h'∧Mine h h' s:=by
 rw [zBw]
 refine zdm (fun A W=>by simp) Tryz.func266 rfl rfl (by simp) fun W0=>?_
 repeat' first|refine Wa ?_|refine zhE (fun _=>zBy _ _ ha) ?_|refine zhE (fun _=>zyg _ _) ?_|(simp (maxSteps:=2000000) only [go_sem,jq,jj,jy,jv,jk,jx];try rfl)|refine Wb ?_|fail
 refine zc9 rfl (fun hc=>?_) (fun hc=>?_)
 ·refine Wk ?_
  rw [if_neg (by intro e;rw [e.1,decide_eq_true e.2.1,decide_eq_true e.2.2] at hc;cases hc)]
  exact ⟨⟨none,0,[]⟩,rfl,rfl,znu,Mine.nil⟩
 simp only [jp,Bool.not_eq_false',jJ,decide_eq_true_eq] at hc
 rw [if_pos ⟨hc.1,hc.2.1,hc.2.2⟩]
 refine Wk ?_
 refine zm6 (ι:=Nat) (fun k=>⟨[(1,true,.c (.v (.int .i64 n))),(5,true,.c (.s 0)),(17,true,.c (.v a.val)),(18,true,.c (.v (.int .i64 a.l.length))),(19,true,.c (.v (.int .i64 k)))],[(0,.row 308 2 ((((a.l.take k).filter (shr n)).map (shw n))).length (((((a.l.take k).filter (shr n)).map (shw n))).flatMap Enc.enc))],h,1⟩) (fun k=>k≤a.l.length) (fun k=>a.l.length - k) 0 (Nat.zero_le _) [0] ?_ ?_
 ·refine Evs ?_
  exact Gk
 intro k hk
 refine Wk ?_
 refine zc9 rfl (fun hdk=>?_) (fun hdk=>?_)
 ·have hlt:=zjG hdk
  have hlf:(((a.l.take k).filter (shr n)).map (shw n)).length≤k:=by rw [List.length_map];exact Nat.le_trans (List.length_filter_le _ _) (by rw [List.length_take];omega)
  repeat' first|refine Wa ?_|(simp (maxSteps:=2000000) only [go_sem,jq,jj,jy,jv,jk,jx,zlw ha hlt,ha.some hlt,hlt,jW];try rfl)|refine Wb ?_|fail
  refine zc9 rfl (fun hq=>?_) (fun hq=>?_)
  ·refine Wk ?_
   refine ⟨by simp only [maxLen];omega,by omega,?_⟩
   refine Wk ?_
   refine ⟨k+1,[3],hlt,by omega,?_⟩
   refine Evs ?_
   rw [znv hlt hq,List.map_append,List.length_append,List.flatMap_append]
   refine ⟨zjA (zjz hlt (by omega)),?_⟩
   exact Gk
  ·refine Wk ?_
   refine ⟨k+1,[0],hlt,by omega,?_⟩
   refine Evs ?_
   rw [znw hlt hq]
   refine ⟨zjA (zjz hlt (by omega)),?_⟩
   exact Gk
 ·have hge:=zjH hdk
  refine zc6 ?_
  refine Evs ?_
  rw [List.take_of_length_le hge]
  refine zl1 0 ((a.l.filter (shr n)).map (shw n)) rfl rfl rfl rfl (by decide) (fun x hx=>?_) h (Hp.le_refl _) (Mines.flat (fun _=>rfl) (fun _=>trivial)) fun s h' e1 e2 e3 e4=>?_
  ·obtain ⟨y,hy,rfl⟩:=List.mem_map.1 hx
   exact ⟨(ha.2.2.2.1 y (List.mem_filter.1 hy).1).1,i64w _⟩
  refine Wk ?_
  exact ⟨s,rfl,e1,e2,e4⟩
def zBK (l:List DWindow) (k:Nat):Bool:=match l.getLast? with|some w=>decide (w.dst=(k:Int) - 1)|none=>false
def zBL (l:List DWindow) (k:Nat):List DWindow:=if zBK l k=true then l.dropLast ++ [⟨(l.getLast?.getD dW).src,k⟩] else l ++ [⟨k,k⟩]
def zBM (p:Nat→Bool):Nat→List DWindow
 | 0=>[]
 | k+1=>if p k=true then zBL (zBM p k) k else zBM p k
theorem zBN {l:List DWindow} {k:Nat} (h:zBK l k=true):∃ l0 w,l=l0 ++ [w]∧w.dst=(k:Int) - 1∧zBL l k=l0 ++ [⟨w.src,k⟩]:=by
 unfold zBK at h
 split at h
 ·rename_i w hw
  have hd:=of_decide_eq_true h
  obtain ⟨l0,rfl⟩:∃ l0,l=l0 ++ [w]:=⟨l.dropLast,by
   have hne:l ≠ []:=by intro e;rw [e] at hw;cases hw
   rw [List.getLast?_eq_some_getLast hne,Option.some.injEq] at hw
   rw [← hw];exact (List.dropLast_concat_getLast hne).symm⟩
  refine ⟨l0,w,rfl,hd,?_⟩
  have:zBK (l0 ++ [w]) k=true:=by unfold zBK;simp [hd]
  rw [zBL,if_pos this];simp
 ·cases h
theorem zBO {l:List DWindow} {k:Nat} (h:zBK l k=false):zBL l k=l ++ [⟨k,k⟩]:=by rw [zBL,if_neg (by rw [h];exact Bool.false_ne_true)]
theorem zBP {p:Nat→Bool}:∀ {k:Nat},(zBM p k).length≤k
 | 0=>Nat.le_refl _
 | k+1=>by
  have ih:=zBP (p:=p) (k:=k)
  unfold zBM
  split
  ·cases h:zBK (zBM p k) k
   ·rw [zBO h,List.length_append];simp;omega
   ·obtain ⟨l0,w,e,_,e2⟩:=zBN h
    rw [e2];rw [e] at ih;simp at ih ⊢;omega
  ·omega
theorem zBQ {p:Nat→Bool}:∀ {k:Nat},∀ w ∈ zBM p k,0≤w.src∧w.src≤w.dst∧w.dst < k
 | 0,w,h=>by cases h
 | k+1,w,h=>by
  have ih:=zBQ (p:=p) (k:=k)
  unfold zBM at h
  split at h
  ·cases hh:zBK (zBM p k) k
   ·rw [zBO hh] at h
    rcases List.mem_append.1 h with h|h
    ·have:=ih w h;omega
    ·obtain rfl:=List.mem_singleton.1 h;simp only;omega
   ·obtain ⟨l0,w',e,h1,e2⟩:=zBN hh
    rw [e2] at h
    rcases List.mem_append.1 h with h|h
    ·have:=ih w (by rw [e];exact List.mem_append_left _ h);omega
    ·have:=ih w' (by rw [e];simp)
     obtain rfl:=List.mem_singleton.1 h;simp only;omega
  ·have:=ih w h;omega
theorem zBR {p:Nat→Bool} {k:Nat}:zBK (zBM p k) (k+1)=false:=by
 unfold zBK
 split
 ·rename_i w hw
  have hm:w ∈ zBM p k:=List.mem_of_getLast? hw
  have:=zBQ w hm
  exact decide_eq_false (by omega)
 ·rfl
theorem zBS {p:Nat→Bool} {k:Nat} (h:p k=true):zBM p (k+1)=zBL (zBM p k) k:=by rw [zBM,if_pos h]
theorem zBT {p:Nat→Bool} {k:Nat} (h:p k=false):zBM p (k+1)=zBM p k:=by rw [zBM,if_neg (by rw [h];exact Bool.false_ne_true)]
theorem zBU {p:Nat→Bool} {k:Nat} (hk:k≤2881) (h:Hp):∀ w ∈ zBM p k,Enc.ok h w:=fun w hw=>by
 have:=zBQ w hw
 show I64 _∧I64 _
 unfold I64;omega
theorem zBV {p q:Nat→Bool}:∀ {k:Nat},(∀ i,i < k→p i=q i)→zBM p k=zBM q k
 | 0,_=>rfl
 | k+1,h=>by unfold zBM;rw [h k (Nat.lt_succ_self k),zBV (fun i hi=>h i (by omega))]
theorem zBW {l:List DWindow} {a:Int} {k:Nat}:zBK (l ++ [⟨a,k⟩]) (k+1)=true:=by unfold zBK;simp
theorem zBX {l0:List DWindow} {w:DWindow} {k:Int}:List.take (l0.length * 2+1) ((l0 ++ [w]).flatMap Enc.enc) ++ Value.int .i64 k :: List.drop (l0.length * 2+1+1) ((l0 ++ [w]).flatMap Enc.enc)=(l0 ++ [(⟨w.src,k⟩:DWindow)]).flatMap Enc.enc :=
 zBr (α:=DWindow) (l0:=l0) (w:=w) (w':=⟨w.src,k⟩) (o:=1) (new:=[.int .i64 k]) rfl (Nat.le_refl 2)
theorem zBY {l0:List DWindow} {k:Int}:List.take (l0.length * 2+1) (l0.flatMap Enc.enc ++ [Value.int .i64 k,Value.int .i64 0]) ++ Value.int .i64 k :: List.drop (l0.length * 2+1+1) (l0.flatMap Enc.enc ++ [Value.int .i64 k,Value.int .i64 0])=(l0 ++ [(⟨k,k⟩:DWindow)]).flatMap Enc.enc:=by
 have:=zBX (l0:=l0) (w:=⟨k,0⟩) (k:=k)
 rw [List.flatMap_append] at this
 exact this
def zBZ (f:PForecast) (lv:Int):List DWindow:=zBM (fun m=>decide (lv≤zBe f m)) 2881
theorem zB0 (f:Nat) (cs:List Value) (p:Nat→Bool) (h:Hp) (hf:∀ k:Nat,k≤2880→Ct jV f ([.int .i64 k] ++ cs) h fun v h'=>v=.bool (p k)∧h'=h):Ct jV 285 [.func (.func f) #[] cs.toArray] h fun v h'=>∃ s:Sl DWindow,v=s.val∧s.l=zBM p 2881∧s.Ok h'∧Mine h h' s:=by
 refine zdm (fun A W=>by simp) Tryz.func285 rfl rfl (by simp) fun W0=>?_
 refine Wk ?_
 refine zm6 (ι:=Nat) (fun k=>⟨[(0,true,.c (.v (.func (.func f) #[] cs.toArray))),(3,true,.c (.s 0)),(4,true,.c (.v (.bool (zBK (zBM p k) k)))),(5,true,.c (.v (.int .i64 k)))],[(0,.row 308 2 (zBM p k).length ((zBM p k).flatMap Enc.enc))],h,1⟩) (fun k=>k≤2881) (fun k=>2881 - k) 0 (Nat.zero_le _) [0] ?_ ?_
 ·refine Evs ?_
  exact Gk
 intro k hk
 refine Wk ?_
 refine zc9 rfl (fun hd=>?_) (fun hd=>?_)
 ·have hd:=of_decide_eq_true hd
  refine Wk ?_
  refine zhE (fun _=>hf k (by omega)) ?_
  refine Wk ?_
  refine zc9 rfl (fun hq=>?_) (fun hq=>?_)
  ·rw [Bool.not_eq_true'] at hq
   refine Wk ?_
   refine ⟨k+1,[0],by omega,by omega,?_⟩
   refine Evs ?_
   rw [zBT hq,zBR]
   exact Gi (zjz (n:=2881) (k:=k) (by omega) (by omega))
  rw [Bool.not_eq_false'] at hq
  refine Wk ?_
  refine zc9 rfl (fun ho=>?_) (fun ho=>?_)
  ·rw [Bool.not_eq_true'] at ho
   have hs:=zBO ho
   have hle:=zBP (p:=p) (k:=k)
   have hgo:=zBS hq
   rw [hs] at hgo
   generalize zBM p k=L0 at *
   have hw:IntKind.i64.wrap (((L0.length+1:Nat):Int) - 1)=((L0.length:Nat):Int):=by rw [zjy (by omega)];omega
   refine Wk ?_
   refine ⟨by simp only [maxLen];omega,by omega,?_⟩
   have hfl:(L0.flatMap Enc.enc).length=L0.length * 2:=zio Enc.len _
   repeat' first|refine Wa ?_|(simp only [go_sem,jq,jj,jy,jv,jk,jx,hw];try rfl)|refine Wb ?_|fail
   refine ⟨by omega,by rw [List.length_append,hfl];simp,?_⟩
   rw [zBY]
   refine Wk ?_
   refine ⟨k+1,[2],by omega,by omega,?_⟩
   refine Evs ?_
   rw [hgo,zBW,List.length_append,List.length_singleton]
   exact Gi (zjz (n:=2881) (k:=k) (by omega) (by omega))
  ·rw [Bool.not_eq_false'] at ho
   obtain ⟨l0,w,e,hw0,hs⟩:=zBN ho
   have hgo:=zBS hq
   rw [hs] at hgo
   have hle:=zBP (p:=p) (k:=k)
   generalize zBM p k=L0 at *
   subst e
   have hw:IntKind.i64.wrap (((l0 ++ [w]).length:Int) - 1)=((l0.length:Nat):Int):=by rw [List.length_append] at *;rw [zjy (by simp at *;omega)];simp
   have hfl:((l0 ++ [w]).flatMap Enc.enc).length=(l0 ++ [w]).length * 2:=zio Enc.len _
   repeat' first|refine Wa ?_|(simp only [go_sem,jq,jj,jy,jv,jk,jx,hw];try rfl)|refine Wb ?_|fail
   refine ⟨by rw [List.length_append];simp,by rw [hfl,List.length_append];simp;omega,?_⟩
   rw [zBX]
   refine Wk ?_
   refine ⟨k+1,[0],by omega,by omega,?_⟩
   refine Evs ?_
   rw [hgo,zBW,List.length_append,List.length_append,List.length_singleton,List.length_singleton,ho]
   exact Gi (zjz (n:=2881) (k:=k) (by omega) (by omega))
 ·have hd:=of_decide_eq_false hd
  have hke:k=2881:=by omega
  subst hke
  refine zc6 ?_
  refine Evs ?_
  refine zl1 0 (zBM p 2881) rfl rfl rfl rfl (by decide) (zBU (Nat.le_refl _) h) h (Hp.le_refl _) (Mines.flat (fun _=>rfl) (fun _=>trivial)) fun s h' e1 e2 e3 e4=>?_
  refine Wk ?_
  exact ⟨s,rfl,e1,e2,e4⟩
def zB1 (s:DShip):Int:=if s.slow=true then Int.tdiv s.draught 50 else Int.tdiv s.draught 20
def zB2 (s:DShip):Int:=IntKind.i64.wrap (IntKind.i64.wrap (s.draught+IntKind.i64.wrap (zB1 s))+50)
def zB3 (c:PChart) (k:Int) (s:DShip):Bool:=zy2 c && zzd s && decide (0≤k∧k < c.segments.length)
def zB4 (c:PChart) (k:Int) (s:DShip):Int:=if zB3 c k s=true then IntKind.i64.wrap (zB2 s - (c.segments.getD k.toNat dG).depth) else 0
def zB5 (c:PChart) (k:Int) (s:DShip):Int:=if zB3 c k s=true then zzM s (c.segments.getD k.toNat dG) else 0
theorem zB6 {c:PChart} {k:Int} {s:DShip} (h:zB3 c k s=true):zy2 c=true∧zzd s=true∧0≤k∧k < c.segments.length:=by
 simp only [zB3,jJ,decide_eq_true_eq] at h
 exact ⟨h.1.1,h.1.2,h.2.1,h.2.2⟩
theorem zB7 (s:DShip) (h:Hp):Ct jV 304 [s.v] h fun v h'=>v=.int .i64 (IntKind.i64.wrap (zB1 s))∧h'=h:=by
 rw [zB1]
 refine zdm (fun A W=>by simp) Tryz.func304 rfl rfl (by simp) fun W0=>?_
 refine Wk ?_
 refine zc9 rfl (fun hq=>?_) (fun hq=>?_)
 ·refine Wk ?_
  refine ⟨by decide,?_⟩
  refine Wk ?_
  rw [if_pos hq]
 ·refine Wk ?_
  refine ⟨by decide,?_⟩
  refine Wk ?_
  rw [if_neg (by rw [hq];exact Bool.false_ne_true)]
theorem zB8 (s:DShip) (h:Hp):Ct jV 288 [s.v] h fun v h'=>v=.int .i64 (zB2 s)∧h'=h:=by
 rw [zB2]
 refine zdm (fun A W=>by simp) Tryz.func288 rfl rfl (by simp) fun W0=>?_
 refine Wk ?_
 refine zAZ rfl ?_
 refine U_t [0,2,1] rfl ?_
 refine Evs ?_
 refine U_1 3 0 [1,0] rfl rfl ?_
 refine Evs ?_
 refine zhE (fun _=>zB7 _ _) ?_
 refine Evs ?_
 refine U_t [4,5,6] rfl ?_
 refine Evs ?_
 refine U_d ?_
 exact Wk0
theorem zB9 (s:DShip) (h:Hp) (hs:Enc.ok h s) (hok:zzd s=true):Ct jV 311 [s.v] h fun v h'=>v=.int .i64 (IntKind.i64.wrap (zB1 s))∧h'=h:=by
 rw [zB1]
 refine zdm (fun A W=>by simp) Tryz.func311 rfl rfl (by simp) fun W0=>?_
 repeat' first|refine Wa ?_|refine zhE (fun _=>zzk _ _ hs) ?_|(simp only [go_sem,jq,jj,jy,jv,jk,jx];try rfl)|refine Wb ?_|fail
 refine zc9 rfl (fun hc=>?_) (fun hc=>?_)
 ·rw [hok] at hc;cases hc
 refine Wk ?_
 refine zc9 rfl (fun hq=>?_) (fun hq=>?_)
 ·refine Wk ?_
  refine ⟨by decide,?_⟩
  refine Wk ?_
  rw [if_pos hq]
 ·refine Wk ?_
  refine ⟨by decide,?_⟩
  refine Wk ?_
  rw [if_neg (by rw [hq];exact Bool.false_ne_true)]
theorem zCa (s:DShip) (h:Hp) (hs:Enc.ok h s) (hok:zzd s=true):Ct jV 301 [s.v] h fun v h'=>v=.int .i64 (zB2 s)∧h'=h:=by
 rw [zB2]
 refine zdm (fun A W=>by simp) Tryz.func301 rfl rfl (by simp) fun W0=>?_
 repeat' first|refine Wa ?_|refine zhE (fun _=>zzk _ _ hs) ?_|(simp only [go_sem,jq,jj,jy,jv,jk,jx];try rfl)|refine Wb ?_|fail
 refine zc9 rfl (fun hc=>?_) (fun hc=>?_)
 ·rw [hok] at hc;cases hc
 refine Wk ?_
 refine zAZ rfl ?_
 refine U_t [0,2,1] rfl ?_
 refine Evs ?_
 refine U_1 3 0 [1,0] rfl rfl ?_
 refine Evs ?_
 refine zhE (fun _=>zB9 _ _ hs hok) ?_
 refine Evs ?_
 refine U_t [4,5,6] rfl ?_
 refine Evs ?_
 refine U_d ?_
 exact Wk0
theorem zCb (c:DChart) (k:Int) (s:DShip) (h:Hp) (hc:Enc.ok h c) (hs:Enc.ok h s):Ct jV 279 [c.v,.int .i64 k,s.v] h fun v h'=>v=.bool (zB3 (Con.con c) k s)∧h'=h:=by
 have hl:=hc.2.max
 have hw:IntKind.i64.wrap ((c.segments.l.length:Int) - 1)=(c.segments.l.length:Int) - 1:=zjy (by omega)
 refine zdm (fun A W=>by simp) Tryz.func279 rfl rfl (by simp) fun W0=>?_
 repeat' first|refine Wa ?_|refine zhE (fun _=>zza _ _ hc) ?_|refine zhE (fun _=>zzk _ _ hs) ?_|refine zhE (fun _=>zye _ _ _ _) ?_|(simp only [go_sem,jq,jj,jy,jv,jk,jx,hw];try rfl)|refine Wb ?_|fail
 congr 1
 rw [zB3,zzN,Bool.eq_iff_iff]
 simp only [jJ,decide_eq_true_eq,and_assoc]
 constructor <;> (intro e;refine ⟨e.1,e.2.1,?_⟩;omega)
theorem zCc (c:DChart) (k:Int) (s:DShip) (h:Hp) (hc:Enc.ok h c) (hs:Enc.ok h s):Ct jV 282 [c.v,.int .i64 k,s.v] h fun v h'=>v=.int .i64 (zB4 (Con.con c) k s)∧h'=h:=by
 have hg:=hc.2
 rw [zB4]
 refine zdm (fun A W=>by simp) Tryz.func282 rfl rfl (by simp) fun W0=>?_
 repeat' first|refine Wa ?_|refine zhE (fun _=>zCb _ _ _ _ hc hs) ?_|(simp only [go_sem,jq,jj,jy,jv,jk,jx];try rfl)|refine Wb ?_|fail
 refine zc9 rfl (fun hq=>?_) (fun hq=>?_)
 ·rw [Bool.not_eq_true'] at hq
  rw [if_neg (by rw [hq];exact Bool.false_ne_true)]
  exact Wk0
 rw [Bool.not_eq_false'] at hq
 rw [if_pos hq]
 obtain ⟨h1,h2,h3,h4⟩:=zB6 hq
 rw [zzN] at h4 ⊢
 have hi:k.toNat < c.segments.l.length:=by omega
 rw [gget hi]
 refine Wk ?_
 refine zAZ rfl ?_
 refine U_t [0,2,4,3,5,6,7] rfl ?_
 simp only [go_sem,jq,jj,jy,jv,jk,jx,zle hg hi,zmY hg hi,hg.some hi,h3,h4]
 refine U_1 1 0 [7,6,5,3,2] rfl rfl ?_
 simp only [go_sem,jq,jj,jy,jv,jk,jx,zle hg hi,zmY hg hi,hg.some hi,h3,h4]
 refine zhE (fun _=>zCa _ _ hs h2) ?_
 simp only [go_sem,jq,jj,jy,jv,jk,jx,zle hg hi,zmY hg hi,hg.some hi,h3,h4]
 refine U_t [8,9] rfl ?_
 simp only [go_sem,jq,jj,jy,jv,jk,jx,zle hg hi,zmY hg hi,hg.some hi,h3,h4]
 refine U_d ?_
 exact Wk0
theorem zCd (c:DChart) (k:Int) (s:DShip) (h:Hp) (hc:Enc.ok h c) (hs:Enc.ok h s):Ct jV 265 [c.v,.int .i64 k,s.v] h fun v h'=>v=.bool (zB3 (Con.con c) k s)∧h'=h:=by
 have hl:=hc.2.max
 have hw:IntKind.i64.wrap ((c.segments.l.length:Int) - 1)=(c.segments.l.length:Int) - 1:=zjy (by omega)
 refine zdm (fun A W=>by simp) Tryz.func265 rfl rfl (by simp) fun W0=>?_
 repeat' first|refine Wa ?_|refine zhE (fun _=>zzb _ _ hc) ?_|refine zhE (fun _=>zzo _ _ hs) ?_|refine zhE (fun _=>zyh _ _ _) ?_|(simp only [go_sem,jq,jj,jy,jv,jk,jx];try rfl)|refine Wb ?_|fail
 congr 1
 rw [zB3,zzN,Bool.eq_iff_iff]
 simp only [jJ,decide_eq_true_eq,and_assoc]
theorem zCe (c:DChart) (k:Int) (s:DShip) (h:Hp) (hc:Enc.ok h c) (hs:Enc.ok h s):Ct jV 268 [c.v,.int .i64 k,s.v] h fun v h'=>v=.int .i64 (zB4 (Con.con c) k s)∧h'=h:=by
 have hg:=hc.2
 rw [zB4]
 refine zdm (fun A W=>by simp) Tryz.func268 rfl rfl (by simp) fun W0=>?_
 repeat' first|refine Wa ?_|refine zhE (fun _=>zCd _ _ _ _ hc hs) ?_|(simp only [go_sem,jq,jj,jy,jv,jk,jx];try rfl)|refine Wb ?_|fail
 refine zc9 rfl (fun hq=>?_) (fun hq=>?_)
 ·rw [Bool.not_eq_true'] at hq
  rw [if_neg (by rw [hq];exact Bool.false_ne_true)]
  exact Wk0
 rw [Bool.not_eq_false'] at hq
 rw [if_pos hq]
 obtain ⟨h1,h2,h3,h4⟩:=zB6 hq
 rw [zzN] at h4 ⊢
 have hi:k.toNat < c.segments.l.length:=by omega
 rw [gget hi]
 refine Wk ?_
 refine zAZ rfl ?_
 refine U_t [0,2,4,3,5,6,7] rfl ?_
 simp only [go_sem,jq,jj,jy,jv,jk,jx,zle hg hi,zmY hg hi,hg.some hi,h3,h4]
 refine U_1 1 0 [7,6,5,3,2] rfl rfl ?_
 simp only [go_sem,jq,jj,jy,jv,jk,jx,zle hg hi,zmY hg hi,hg.some hi,h3,h4]
 refine zhE (fun _=>zB8 _ _) ?_
 simp only [go_sem,jq,jj,jy,jv,jk,jx,zle hg hi,zmY hg hi,hg.some hi,h3,h4]
 refine U_t [8,9] rfl ?_
 simp only [go_sem,jq,jj,jy,jv,jk,jx,zle hg hi,zmY hg hi,hg.some hi,h3,h4]
 refine U_d ?_
 exact Wk0
theorem zCf (c:DChart) (k:Int) (s:DShip) (h:Hp) (hc:Enc.ok h c) (hs:Enc.ok h s):Ct jV 269 [c.v,.int .i64 k,s.v] h fun v h'=>v=.int .i64 (zB5 (Con.con c) k s)∧h'=h:=by
 have hg:=hc.2
 rw [zB5]
 refine zdm (fun A W=>by simp) Tryz.func269 rfl rfl (by simp) fun W0=>?_
 repeat' first|refine Wa ?_|refine zhE (fun _=>zzb _ _ hc) ?_|refine zhE (fun _=>zzo _ _ hs) ?_|refine zhE (fun _=>zyh _ _ _) ?_|(simp only [go_sem,jq,jj,jy,jv,jk,jx];try rfl)|refine Wb ?_|fail
 have e:zB3 (Con.con c) k s=(zy2 (Con.con c) && (zzd s && (decide (0≤k) && decide (k < (c.segments.l.length:Int))))):=by
  rw [zB3,zzN,Bool.eq_iff_iff]
  simp only [jJ,decide_eq_true_eq,and_assoc]
 refine zc9 rfl (fun hq=>?_) (fun hq=>?_)
 ·rw [if_neg (by rw [e];intro e';simp only [jJ] at e';rw [e'.1,e'.2.1,e'.2.2.1,e'.2.2.2] at hq;cases hq)]
  exact Wk0
 simp only [jp,Bool.not_eq_false',jJ,decide_eq_true_eq,and_assoc] at hq
 obtain ⟨h1,h2,h3,h4⟩:=hq
 rw [if_pos (by rw [e,h1,h2,decide_eq_true h3,decide_eq_true h4];rfl),zzN]
 have hi:k.toNat < c.segments.l.length:=by omega
 rw [gget hi]
 refine Wk ?_
 refine zAZ rfl ?_
 refine U_t [0,1,3,2,4,5] rfl ?_
 simp only [go_sem,jq,jj,jy,jv,jk,jx,zle hg hi,hg.some hi,h3,h4]
 refine U_1 6 0 [] rfl rfl ?_
 simp only [go_sem,jq,jj,jy,jv,jk,jx,zle hg hi,hg.some hi,h3,h4]
 refine zhE (fun _=>zzP _ _ _) ?_
 simp only [go_sem,jq,jj,jy,jv,jk,jx,zle hg hi,hg.some hi,h3,h4]
 refine U_t [7] rfl ?_
 simp only [go_sem,jq,jj,jy,jv,jk,jx,zle hg hi,hg.some hi,h3,h4]
 refine U_d ?_
 exact Wk0
theorem zCg (c:DChart) (k:Int) (s:DShip) (h:Hp) (hc:Enc.ok h c) (hs:Enc.ok h s):Ct jV 283 [c.v,.int .i64 k,s.v] h fun v h'=>v=.int .i64 (zB5 (Con.con c) k s)∧h'=h:=by
 have:=zzQ c k s h hc hs
 have e:zB5 (Con.con c) k s=(if zy2 (Con.con c)=true∧zzd s=true∧0≤k∧k < c.segments.l.length then zzM s (c.segments.l.getD k.toNat dG) else 0):=by
  rw [zB5,zB3,zzN]
  simp only [jJ,decide_eq_true_eq,and_assoc]
 rw [e];exact this
theorem zCh {l0:List DWindow} {w:DWindow}:((l0 ++ [w]).flatMap Enc.enc).getD (l0.length * 2+1) undef=Value.int .i64 w.dst:=by
 have e1:(l0.flatMap Enc.enc).length=l0.length * 2:=zio Enc.len _
 rw [List.flatMap_append,List.getD_eq_getElem?_getD,List.getElem?_append_right (by omega),e1,show l0.length * 2+1 - l0.length * 2=1 by omega]
 rfl
theorem bget {l:List Bool} {i:Nat} (hi:i < l.length):l.getD i false=l[i]:=by simp [List.getD_eq_getElem?_getD,hi]
theorem zCi (a:Sl Bool) (h:Hp) (ha:a.Ok h) (hz:a.l.length≤2881):Ct jV 300 [a.val] h fun v h'=>∃ s:Sl DWindow,v=s.val∧s.l=zBM (fun i=>a.l.getD i false) a.l.length∧s.Ok h'∧Mine h h' s:=by
 refine zdm (fun A W=>by simp) Tryz.func300 rfl rfl (by simp) fun W0=>?_
 refine Wk ?_
 refine zm6 (ι:=Nat) (fun k=>⟨[(3,true,.c (.s 0)),(7,true,.c (.v a.val)),(8,true,.c (.v (.int .i64 a.l.length))),(9,true,.c (.v (.int .i64 k)))],[(0,.row 308 2 (zBM (fun i=>a.l.getD i false) k).length ((zBM (fun i=>a.l.getD i false) k).flatMap Enc.enc))],h,1⟩) (fun k=>k≤a.l.length) (fun k=>a.l.length - k) 0 (Nat.zero_le _) [0] ?_ ?_
 ·refine Evs ?_
  exact Gk
 intro k hk
 refine Wk ?_
 refine zc9 rfl (fun hdk=>?_) (fun hdk=>?_)
 ·have hlt:=zjG hdk
  repeat' first|refine Wa ?_|(simp only [go_sem,jq,jj,jy,jv,jk,jx,zBq ha hlt,ha.some hlt,hlt,jW];try rfl)|refine Wb ?_|fail
  refine zc9 rfl (fun hq=>?_) (fun hq=>?_)
  ·rw [Bool.not_eq_true'] at hq
   refine Wk ?_
   refine ⟨k+1,[0],hlt,by omega,?_⟩
   refine Evs ?_
   rw [zBT (by rw [bget hlt];exact hq)]
   exact Gi (zjz hlt (by omega))
  rw [Bool.not_eq_false'] at hq
  have hgo:=zBS (p:=fun i=>a.l.getD i false) (k:=k) (by rw [bget hlt];exact hq)
  have hle:=zBP (p:=fun i=>a.l.getD i false) (k:=k)
  generalize zBM (fun i=>a.l.getD i false) k=L0 at *
  have hwk:IntKind.i64.wrap ((k:Int) - 1)=(k:Int) - 1:=zjy (by omega)
  rcases List.eq_nil_or_concat L0 with rfl|⟨l0,w,rfl⟩
  ·have ho:zBK [] k=false:=rfl
   rw [zBO ho] at hgo
   have h00:(0 < ((0:Nat):Int))=False:=eq_false (by decide)
   repeat' first|refine Wa ?_|(simp only [go_sem,jq,jj,jy,jv,jk,jx,h00,decide_false,Bool.false_and,Bool.false_eq_true,false_implies,implies_true,true_and];try rfl)|refine Wb ?_|fail
   refine zc9 rfl (fun hx=>?_) (fun hx=>?_)
   ·cases hx
   refine Wk ?_
   refine ⟨by simp only [maxLen];omega,?_⟩
   refine Wk ?_
   refine ⟨k+1,[2],hlt,by omega,?_⟩
   refine Evs ?_
   rw [hgo]
   exact Gi (zjz hlt (by omega))
  ·rw [List.concat_eq_append] at *
   have hw:IntKind.i64.wrap (((l0 ++ [w]).length:Int) - 1)=((l0.length:Nat):Int):=by rw [List.length_append] at *;rw [zjy (by simp at *;omega)];simp
   have hpos:(0 < ((l0 ++ [w]).length:Int))=True:=eq_true (by rw [List.length_append,List.length_singleton];omega)
   have hlt1:((l0.length:Nat):Int) < ((l0 ++ [w]).length:Int):=by rw [List.length_append,List.length_singleton];omega
   have hfl:((l0 ++ [w]).flatMap Enc.enc).length=(l0 ++ [w]).length * 2:=zio Enc.len _
   have hlt2:l0.length * 2+1 < ((l0 ++ [w]).flatMap Enc.enc).length:=by rw [hfl,List.length_append,List.length_singleton];omega
   have hgt:((l0 ++ [w]).flatMap Enc.enc).getD (l0.length * 2+1) undef=Value.int .i64 w.dst:=zCh
   have hlt3:l0.length < (l0 ++ [w]).length:=by rw [List.length_append];simp
   repeat' first|refine Wa ?_|(simp only [go_sem,jq,jj,jy,jv,jk,jx,hw,hpos,hlt1,hlt2,hlt3,hgt,hwk,decide_true,Bool.true_and,true_implies,jY,and_self,true_and,imp_self];try rfl)|refine Wb ?_|fail
   refine zc9 rfl (fun ho=>?_) (fun ho=>?_)
   ·have ho:zBK (l0 ++ [w]) k=true:=by unfold zBK;simpa using eq_of_beq ho
    obtain ⟨l1,w1,e1,_,hs⟩:=zBN ho
    obtain ⟨rfl,e2⟩:=List.append_inj' e1 rfl
    obtain rfl:w=w1:=by simpa using e2
    rw [hs] at hgo
    repeat' first|refine Wa ?_|(simp only [go_sem,jq,jj,jy,jv,jk,jx,hw,hlt1,hlt3];try rfl)|refine Wb ?_|fail
    refine ⟨by rw [hfl,List.length_append];simp;omega,?_⟩
    rw [zBX]
    refine Wk ?_
    refine ⟨k+1,[0],hlt,by omega,?_⟩
    refine Evs ?_
    rw [hgo,List.length_append,List.length_append,List.length_singleton,List.length_singleton]
    exact Gi (zjz hlt (by omega))
   ·have ho:zBK (l0 ++ [w]) k=false:=by
     unfold zBK
     simp only [List.getLast?_append,List.getLast?_singleton,Option.some_or,decide_eq_false_iff_not]
     exact ne_of_beq_false ho
    rw [zBO ho] at hgo
    refine Wk ?_
    refine ⟨by simp only [maxLen];omega,by omega,?_⟩
    refine Wk ?_
    refine ⟨k+1,[2],hlt,by omega,?_⟩
    refine Evs ?_
    rw [hgo]
    simp only [List.flatMap_append,List.length_append,List.length_singleton]
    exact Gi (zjz hlt (by omega))
 ·have hge:=zjH hdk
  have hke:k=a.l.length:=Nat.le_antisymm hk hge
  subst hke
  refine zc6 ?_
  refine Evs ?_
  refine zl1 0 (zBM (fun i=>a.l.getD i false) a.l.length) rfl rfl rfl rfl (by decide) (zBU hz h) h (Hp.le_refl _) (Mines.flat (fun _=>rfl) (fun _=>trivial)) fun s h' e1 e2 e3 e4=>?_
  refine Wk ?_
  exact ⟨s,rfl,e1,e2,e4⟩
def lowM (f:PForecast) (lv:Int) (k:Nat):List Bool:=(List.range k).map fun m:Nat=>decide (lv≤zBe f m)
theorem zCj {f:PForecast} {lv:Int} {k:Nat}:lowM f lv (k+1)=lowM f lv k ++ [decide (lv≤zBe f k)]:=by rw [lowM,List.range_succ,List.map_append];rfl
theorem zCk {f:PForecast} {lv:Int} {k:Nat}:(lowM f lv k).length=k:=by rw [lowM,List.length_map,List.length_range]
theorem zCl {f:PForecast} {lv:Int}:zBM (fun i=>(lowM f lv 2881).getD i false) 2881=zBZ f lv:=by
 refine zBV fun i hi=>?_
 simp [lowM,List.getD_eq_getElem?_getD,hi]
def zCm (f:PForecast) (c:PChart) (k:Int) (s:DShip):List DWindow:=if zyL f=true∧zB3 c k s=true then zBw (zBZ f (zB4 c k s)) (zB5 c k s) else []
set_option maxRecDepth 100000 in
theorem zCn (f:DForecast) (lv:Int) (h:Hp) (hf:Enc.ok h f) (h0:0 < f.surges.l.length):Ct jV 281 [f.v,.int .i64 lv,.bool false] h fun v h'=>∃ s:Sl DWindow,v=s.val∧s.l=zBZ (Con.con f) lv∧s.Ok h'∧Mine h h' s:=by
 refine zdm (fun A W=>by simp) Tryz.func281 rfl rfl (by simp) fun W0=>?_
 refine Wk ?_
 refine zm6 (ι:=Nat) (fun k=>⟨[(1,true,.c (.v (.int .i64 lv))),(2,true,.c (.v (.bool false))),(3,true,.c (.p 0 0)),(7,true,.c (.s 1)),(8,true,.c (.v (.int .i64 k)))],[(0,.box 49 [.v (.int .i64 f.tide.mean),.v f.tide.parts.val,.v f.surges.val]),(1,.row 4 1 (lowM (Con.con f) lv k).length ((lowM (Con.con f) lv k).flatMap Enc.enc))],h,2⟩) (fun k=>k≤2881) (fun k=>2881 - k) 0 (Nat.zero_le _) [0,1] ?_ ?_
 ·refine Evs ?_
  simp only [lowM,List.range_zero,List.map_nil,List.length_nil,List.flatMap_nil]
  exact Gk
 intro k hk
 have hkl:=zCk (f:=Con.con f) (lv:=lv) (k:=k)
 refine Wk ?_
 refine zc9 rfl (fun hd=>?_) (fun hd=>?_)
 ·have hd:=of_decide_eq_true hd
  have hs:=zA6 (m:=(k:Int)) h0
  repeat' first|refine Wa ?_|refine zhE (fun _=>zBg f _ _ hf h0) ?_|(simp only [go_sem,jq,jj,jy,jv,jk,jx];try rfl)|refine Wb ?_|fail
  refine zc9 rfl (fun hx=>?_) (fun hx=>?_)
  ·cases hx
  repeat' first|refine Wa ?_|refine zhE (fun _=>zBn _ _ _ hf.1) ?_|(simp only [go_sem,jq,jj,jy,jv,jk,jx];try rfl)|refine Wb ?_|fail
  refine ⟨by simp only [maxLen];omega,by omega,?_⟩
  refine Wk ?_
  refine ⟨k+1,[0,4],by omega,by omega,?_⟩
  refine Evs ?_
  rw [zCj,zBe,zBa,List.length_append,List.length_singleton,List.flatMap_append]
  exact Gi (zjz (n:=2881) (k:=k) (by omega) (by omega))
 ·have hd:=of_decide_eq_false hd
  have hke:k=2881:=by omega
  subst hke
  refine zc6 ?_
  refine Evs ?_
  refine zl1 1 (lowM (Con.con f) lv 2881) rfl rfl rfl rfl (by decide) (fun _ _=>trivial) h (Hp.le_refl _) (Mines.flat (fun _=>rfl) (fun _=>trivial)) fun s h1 e1 e2 e3 e4=>?_
  refine Wk ?_
  have hl1:s.l.length=2881:=by rw [e1];exact hkl
  refine zko (zCi s _ e2 (by omega)) rfl ?_
  rintro v h2 le2 ⟨s2,rfl,q1,q2,q3⟩
  refine Wk ?_
  refine ⟨s2,rfl,?_,q2,Mine.back e3 q3⟩
  rw [q1,hl1,e1,zCl]
theorem zCo (f:DForecast) (lv m:Int) (p q:Nat) (h:Hp) (hf:Enc.ok h f) (h0:0 < f.surges.l.length) (hp:h.lds (some ⟨p,0,none⟩) 3=some [.int .i64 f.tide.mean,f.tide.parts.val,f.surges.val]) (hq:h.lds (some ⟨q,0,none⟩) 1=some [.int .i64 lv]):Ct jV 286 [.int .i64 m,.pointer (some ⟨p,0,none⟩),.pointer (some ⟨q,0,none⟩)] h fun v h'=>v=.bool (decide (lv≤zBe (Con.con f) m))∧h'=h:=by
 refine zdm (fun A W=>by simp) Tryz.func286 rfl rfl (by simp) fun W0=>?_
 refine Wk ?_
 refine zAZ rfl ?_
 refine U_t [0,1,3] rfl ?_
 simp only [go_sem,jq,jj,jy,jv,jk,jx,hp,hq]
 refine U_1 2 0 [3] rfl rfl ?_
 simp only [go_sem,jq,jj,jy,jv,jk,jx,hp,hq]
 refine zhE (fun _=>zBo f _ _ hf h0) ?_
 simp only [go_sem,jq,jj,jy,jv,jk,jx,hp,hq]
 refine U_t [4,5] rfl ?_
 simp only [go_sem,jq,jj,jy,jv,jk,jx,hp,hq]
 refine U_d ?_
 exact Wk0
theorem zCp (f:DForecast) (lv:Int) (h:Hp) (hf:Enc.ok h f) (hok:zyL (Con.con f)=true):Ct jV 267 [f.v,.int .i64 lv] h fun v h'=>∃ s:Sl DWindow,v=s.val∧s.l=zBZ (Con.con f) lv∧s.Ok h'∧Mine h h' s:=by
 have h0:0 < f.surges.l.length:=by have:=zA9 hok;rwa [zBa] at this
 refine zdm (fun A W=>by simp) Tryz.func267 rfl rfl (by simp) fun W0=>?_
 repeat' first|refine Wa ?_|refine zhE (fun _=>zyO f _ hf) ?_|(simp only [go_sem,jq,jj,jy,jv,jk,jx];try rfl)|refine Wb ?_|fail
 refine zc9 rfl (fun hc=>?_) (fun hc=>?_)
 ·rw [hok] at hc;cases hc
 refine zc5 ?_
 refine Evs ?_
 refine zz8 1 rfl rfl fun q hq _=>?_
 refine Evs ?_
 refine zz8 0 rfl rfl fun p hp _=>?_
 refine Evs ?_
 have hq:h q=none:=hq
 have hp:(h.ins q (.cells #[.int .i64 lv] 3 (0,0))) p=none:=hp
 have lq:h.le (h.ins q (.cells #[.int .i64 lv] 3 (0,0))):=Hp.ins_le hq
 have lp:=Hp.ins_le (o:=.cells #[.int .i64 f.tide.mean,f.tide.parts.val,f.surges.val] 49 (0,0)) hp
 have hne:q ≠ p:=fun e=>by subst e;rw [Hp.ins_same] at hp;cases hp
 have hl:=Hp.le_trans lq lp
 refine zlO [1] rfl ?_
 refine Evs ?_
 refine zko (zB0 286 [.pointer (some ⟨p,0,none⟩),.pointer (some ⟨q,0,none⟩)] (fun m=>decide (lv≤zBe (Con.con f) m)) _ (fun k _=>zCo f lv k p q _ (Enc.mono hl hf) h0 (zAa (xs:=[.int .i64 f.tide.mean,f.tide.parts.val,f.surges.val]) Hp.ins_same rfl (Nat.le_refl 3)) (zAa (xs:=[.int .i64 lv]) (by rw [Hp.ins_ne hne,Hp.ins_same]) rfl (Nat.le_refl 1)))) rfl ?_
 rintro v h2 le2 ⟨s2,rfl,q1,q2,q3⟩
 refine Wk ?_
 exact ⟨s2,rfl,q1,q2,Mine.back hl q3⟩
theorem zCq (f:DForecast) (c:DChart) (k:Int) (s:DShip) (h:Hp) (hf:Enc.ok h f) (hc:Enc.ok h c) (hs:Enc.ok h s):Ct jV 244 [f.v,c.v,.int .i64 k,s.v] h fun v h'=>∃ r:Sl DWindow,v=r.val∧r.l=zCm (Con.con f) (Con.con c) k s∧r.Ok h'∧Mine h h' r:=by
 rw [zCm]
 refine zdm (fun A W=>by simp) Tryz.func244 rfl rfl (by simp) fun W0=>?_
 repeat' first|refine Wa ?_|refine zhE (fun _=>zyO f _ hf) ?_|refine zhE (fun _=>zCd c _ s _ hc hs) ?_|(simp only [go_sem,jq,jj,jy,jv,jk,jx];try rfl)|refine Wb ?_|fail
 refine zc9 rfl (fun hq=>?_) (fun hq=>?_)
 ·refine Wk ?_
  rw [if_neg (by intro e;rw [e.1,e.2] at hq;cases hq)]
  exact ⟨⟨none,0,[]⟩,rfl,rfl,znu,Mine.nil⟩
 simp only [jp,Bool.not_eq_false'] at hq
 rw [if_pos ⟨hq.1,hq.2⟩]
 have h0:0 < f.surges.l.length:=by have:=zA9 hq.1;rwa [zBa] at this
 refine Wk ?_
 refine zAZ rfl ?_
 refine U_t [0,1,2,3,6,7,8] rfl ?_
 refine Evs ?_
 refine U_1 4 0 [8,6,0] rfl rfl ?_
 refine Evs ?_
 refine zhE (fun _=>zCe c _ s _ hc hs) ?_
 refine Evs ?_
 refine U_1 5 0 [8,6] rfl rfl ?_
 refine Evs ?_
 refine zko (zCp f _ _ hf hq.1) rfl ?_
 rintro v h1 le1 ⟨s1,rfl,e1,o1,m1⟩
 refine Evs ?_
 refine U_1 9 0 [] rfl rfl ?_
 refine Evs ?_
 refine zhE (fun _=>zCf c _ s _ (Enc.mono (x:=c) le1 hc) (Enc.mono (x:=s) le1 hs)) ?_
 refine Evs ?_
 refine U_1 10 0 [] rfl rfl ?_
 refine Evs ?_
 refine zko (zBJ s1 _ _ o1 (by rw [e1];exact Nat.le_trans zBP (by decide))) rfl ?_
 rintro v h2 le2 ⟨s2,rfl,e2,o2,m2⟩
 refine Evs ?_
 refine U_t [11] rfl ?_
 refine Evs ?_
 refine U_d ?_
 refine Wk ?_
 exact ⟨s2,rfl,by rw [e2,e1],o2,Mine.back le1 m2⟩
theorem zCr (f:DForecast) (c:DChart) (k:Int) (s:DShip) (h:Hp) (hf:Enc.ok h f) (hc:Enc.ok h c) (hs:Enc.ok h s):Ct jV 254 [f.v,c.v,.int .i64 k,s.v,.bool false] h fun v h'=>∃ r:Sl DWindow,v=r.val∧r.l=zCm (Con.con f) (Con.con c) k s∧r.Ok h'∧Mine h h' r:=by
 rw [zCm]
 refine zdm (fun A W=>by simp) Tryz.func254 rfl rfl (by simp) fun W0=>?_
 repeat' first|refine Wa ?_|refine zhE (fun _=>zyN f _ hf) ?_|refine zhE (fun _=>zCb c _ s _ hc hs) ?_|(simp only [go_sem,jq,jj,jy,jv,jk,jx];try rfl)|refine Wb ?_|fail
 refine zc9 rfl (fun hq=>?_) (fun hq=>?_)
 ·refine Wk ?_
  rw [if_neg (by intro e;rw [e.1,e.2] at hq;cases hq)]
  exact ⟨⟨none,0,[]⟩,rfl,rfl,znu,Mine.nil⟩
 simp only [jp,Bool.not_eq_false'] at hq
 rw [if_pos ⟨hq.1,hq.2⟩]
 have h0:0 < f.surges.l.length:=by have:=zA9 hq.1;rwa [zBa] at this
 refine Wk ?_
 refine zAZ rfl ?_
 refine U_t [0,1,2,3,5,7,8,9] rfl ?_
 refine Evs ?_
 refine U_1 4 0 [9,7,0] rfl rfl ?_
 refine Evs ?_
 refine zhE (fun _=>zCc c _ s _ hc hs) ?_
 refine Evs ?_
 refine U_1 6 0 [9,7] rfl rfl ?_
 refine Evs ?_
 refine zko (zCn f _ _ hf h0) rfl ?_
 rintro v h1 le1 ⟨s1,rfl,e1,o1,m1⟩
 refine Evs ?_
 refine U_1 10 0 [] rfl rfl ?_
 refine Evs ?_
 refine zhE (fun _=>zCg c _ s _ (Enc.mono (x:=c) le1 hc) (Enc.mono (x:=s) le1 hs)) ?_
 refine Evs ?_
 refine U_1 11 0 [] rfl rfl ?_
 refine Evs ?_
 refine zko (zBG s1 _ _ o1 (by rw [e1];exact Nat.le_trans zBP (by decide))) rfl ?_
 rintro v h2 le2 ⟨s2,rfl,e2,o2,m2⟩
 refine Evs ?_
 refine U_t [12] rfl ?_
 refine Evs ?_
 refine U_d ?_
 refine Wk ?_
 exact ⟨s2,rfl,by rw [e2,e1],o2,Mine.back le1 m2⟩
theorem zCs (f:DForecast) (c:DChart) (k:Int) (s:DShip) (h:Hp) (hf:Enc.ok h f) (hc:Enc.ok h c) (hs:Enc.ok h s):Ct jV 227 [f.v,c.v,.int .i64 k,s.v] h fun v h'=>∃ r:Sl DWindow,v=r.val∧r.l=zCm (Con.con f) (Con.con c) k s∧r.Ok h'∧Mine h h' r:=by
 refine zdm (fun A W=>by simp) Tryz.func227 rfl rfl (by simp) fun W0=>?_
 refine Wk ?_
 refine zko (zCr f c k s _ hf hc hs) rfl ?_
 rintro v h1 le1 ⟨s1,rfl,e1,o1,m1⟩
 refine Wk ?_
 exact ⟨s1,rfl,e1,o1,m1⟩
end Go.Proofs.YtdejfjdbcggilaaGreat
