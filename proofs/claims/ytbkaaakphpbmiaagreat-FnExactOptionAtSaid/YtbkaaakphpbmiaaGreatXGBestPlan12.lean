/- What functions of the given program compute, as contracts. -/
import Derived.Test.YtbkaaakphpbmiaaGreatSGBestPlanx11
import Derived.Test.YtbkaaakphpbmiaaGreatXGBestPlan10
import Derived.Test.YtbkaaakphpbmiaaGreatXGBestPlan9
set_option linter.unusedVariables false
set_option linter.unusedSimpArgs false
set_option maxRecDepth 4000
open Nat renaming reduceAdd → jq, reduceMul → jj, reduceBEq → jy, reduceLeDiff → jv, reduceLT → jk, reduceEqDiff → jx
open Bool renaming or_eq_false_iff → jp, or_eq_true → jQ, and_eq_true → jJ
open Int renaming toNat_natCast → jW, natCast_nonneg → jY
open Go.Proofs.Tryz renaming prog → jV
namespace Go.Proofs.YtbkaaakphpbmiaaGreat
open Go Go.SL
set_option maxHeartbeats 1000000
theorem i64w (n:Int):I64 (IntKind.i64.wrap n):=by rw [w64];unfold I64;omega
def dW:DWindow:=⟨0,0⟩
theorem wget {l:List DWindow} {i:Nat} (hi:i < l.length):l.getD i dW=l[i]:=by simp [List.getD_eq_getElem?_getD,hi]
def zv9 (l:List DWindow) (i:Nat):Bool:=decide ((0≤(l.getD i dW).src∧(l.getD i dW).src≤(l.getD i dW).dst∧(l.getD i dW).dst≤2880)∧(0 < i→IntKind.i64.wrap ((l.getD (i - 1) dW).dst+1) < (l.getD i dW).src))
def zwa (l:List DWindow):Bool:=decide (∀ i,i < l.length→zv9 l i=true)
def zwb (l:List DWindow) (m:Int):Bool:=l.any fun w=>In m w.src w.dst
def zwc (l:List DWindow) (m:Int):Int:=if zwa l=true then (match l.find? (fun w=>decide (m≤w.dst)) with|some w=>max w.src m|none=>-1) else -1
def shr (n:Int) (w:DWindow):Bool:=decide (n≤IntKind.i64.wrap (w.dst - w.src))
def shw (n:Int) (w:DWindow):DWindow:=⟨w.src,IntKind.i64.wrap (w.dst - n)⟩
def zwd (l:List DWindow) (n:Int):List DWindow:=if zwa l=true∧0≤n∧n≤2880 then (l.filter (shr n)).map (shw n) else []
theorem zZu (a:Sl DWindow) (h:Hp) (ha:a.Ok h):Ct jV 274 [a.val] h fun v h'=>v=.bool (zwa a.l)∧h'=h:=by
 have hl:=ha.max
 rw [zwa]
 refine zdn (fun A W=>by simp) Tryz.func274 rfl rfl (by simp) fun W0=>?_
 refine Wk ?_
 refine zde (ι:=Nat) (fun k=>⟨[(0,true,.c (.v a.val)),(5,true,.c (.v a.val)),(6,true,.c (.v (.int .i64 a.l.length))),(7,true,.c (.v (.int .i64 k)))],[],h,0⟩) (fun k=>k≤a.l.length∧∀ i,i < k→zv9 a.l i=true) (fun k=>a.l.length - k) 0 ⟨Nat.zero_le _,zvf⟩ ?_ ?_
 ·refine Evs ?_
  exact Gk
 intro k hk
 refine Wk ?_
 refine zc9 rfl (fun hdk=>?_) (fun hdk=>?_)
 ·have hlt:=zjH hdk
  rcases Nat.eq_zero_or_pos k with h0|h0
  ·have hf:(0 < (k:Int))=False:=eq_false (by omega)
   repeat' first|refine Wa ?_|(simp (maxSteps:=2000000) only [go_sem,jq,jj,jy,jv,jk,jx,zlc ha hlt,ha.some hlt,hlt,jW];try rfl)|refine Wb ?_|fail
   refine znv rfl ?_
   refine U_t [0,1] rfl ?_
   simp (maxSteps:=2000000) only [go_sem,jq,jj,jy,jv,jk,jx,hf,decide_false,Bool.and_false,Bool.false_and,Bool.or_false,Bool.false_eq_true,false_implies,implies_true,true_and,and_true,reduceCtorEq]
   refine U_1 2 0 [] rfl rfl ?_
   simp (maxSteps:=2000000) only [go_sem,jq,jj,jy,jv,jk,jx,hf,decide_false,Bool.and_false,Bool.false_and,Bool.or_false,Bool.false_eq_true,false_implies,implies_true,true_and,and_true,reduceCtorEq]
   refine zhF (fun _=>zYZ _ _ _ _) ?_
   simp (maxSteps:=2000000) only [go_sem,jq,jj,jy,jv,jk,jx,hf,decide_false,Bool.and_false,Bool.false_and,Bool.or_false,Bool.false_eq_true,false_implies,implies_true,true_and,and_true,reduceCtorEq]
   refine U_t [3,4,5,7,6,8] rfl ?_
   simp (maxSteps:=2000000) only [go_sem,jq,jj,jy,jv,jk,jx,hf,decide_false,Bool.and_false,Bool.false_and,Bool.or_false,Bool.false_eq_true,false_implies,implies_true,true_and,and_true,reduceCtorEq]
   refine U_1 9 0 [] rfl rfl ?_
   simp (maxSteps:=2000000) only [go_sem,jq,jj,jy,jv,jk,jx,hf,decide_false,Bool.and_false,Bool.false_and,Bool.or_false,Bool.false_eq_true,false_implies,implies_true,true_and,and_true,reduceCtorEq]
   refine zhF (fun _=>zYZ _ _ _ _) ?_
   simp (maxSteps:=2000000) only [go_sem,jq,jj,jy,jv,jk,jx,hf,decide_false,Bool.and_false,Bool.false_and,Bool.or_false,Bool.false_eq_true,false_implies,implies_true,true_and,and_true,reduceCtorEq]
   refine U_t [10,11,12,13,14,15,16,18,19,17,20,21,22,23,24,25,26,27] rfl ?_
   simp (maxSteps:=2000000) only [go_sem,jq,jj,jy,jv,jk,jx,hf,decide_false,Bool.and_false,Bool.false_and,Bool.or_false,Bool.false_eq_true,false_implies,implies_true,true_and,and_true,reduceCtorEq]
   refine U_d ?_
   refine Wk ?_
   refine zc9 rfl (fun hq=>?_) (fun hq=>?_)
   ·refine Wk ?_
    rw [zvc hlt (decide_eq_false (by rw [wget hlt];intro e;simp only [jQ,Bool.not_eq_true',Bool.and_eq_false_iff,decide_eq_true_eq,decide_eq_false_iff_not] at hq;omega))]
   ·refine Wk ?_
    refine ⟨k+1,⟨hlt,zvd hk.2 (decide_eq_true (by rw [wget hlt];simp only [jp,Bool.not_eq_false',jJ,decide_eq_true_eq,decide_eq_false_iff_not] at hq;exact ⟨by omega,fun e=>by omega⟩))⟩,by omega,zjB (zjA hlt (by omega))⟩
  ·have hp:k - 1 < a.l.length:=by omega
   have hw:IntKind.i64.wrap ((k:Int) - 1)=((k - 1:Nat):Int):=by rw [zjz (by omega)];omega
   have hf:(0 < (k:Int))=True:=eq_true (by omega)
   repeat' first|refine Wa ?_|(simp (maxSteps:=2000000) only [go_sem,jq,jj,jy,jv,jk,jx,zlc ha hlt,ha.some hlt,hlt,jW];try rfl)|refine Wb ?_|fail
   refine znv rfl ?_
   refine U_t [0,1] rfl ?_
   simp (maxSteps:=2000000) only [go_sem,jq,jj,jy,jv,jk,jx,hf,decide_true,and_true,imp_self,true_implies,Bool.and_true,Bool.true_and,hw,zlc ha hp,zlU ha hp,ha.some hp,hp,jW]
   refine U_1 2 0 [] rfl rfl ?_
   simp (maxSteps:=2000000) only [go_sem,jq,jj,jy,jv,jk,jx,hf,decide_true,and_true,imp_self,true_implies,Bool.and_true,Bool.true_and,hw,zlc ha hp,zlU ha hp,ha.some hp,hp,jW]
   refine zhF (fun _=>zYZ _ _ _ _) ?_
   simp (maxSteps:=2000000) only [go_sem,jq,jj,jy,jv,jk,jx,hf,decide_true,and_true,imp_self,true_implies,Bool.and_true,Bool.true_and,hw,zlc ha hp,zlU ha hp,ha.some hp,hp,jW]
   refine U_t [3,4,5,7,6,8] rfl ?_
   simp (maxSteps:=2000000) only [go_sem,jq,jj,jy,jv,jk,jx,hf,decide_true,and_true,imp_self,true_implies,Bool.and_true,Bool.true_and,hw,zlc ha hp,zlU ha hp,ha.some hp,hp,jW]
   refine U_1 9 0 [] rfl rfl ?_
   simp (maxSteps:=2000000) only [go_sem,jq,jj,jy,jv,jk,jx,hf,decide_true,and_true,imp_self,true_implies,Bool.and_true,Bool.true_and,hw,zlc ha hp,zlU ha hp,ha.some hp,hp,jW]
   refine zhF (fun _=>zYZ _ _ _ _) ?_
   simp (maxSteps:=2000000) only [go_sem,jq,jj,jy,jv,jk,jx,hf,decide_true,and_true,imp_self,true_implies,Bool.and_true,Bool.true_and,hw,zlc ha hp,zlU ha hp,ha.some hp,hp,jW]
   refine U_t [10,11,12,13,14,15,16,18,19,17,20,21,22,23,24,25,26,27] rfl ?_
   simp (maxSteps:=2000000) only [go_sem,jq,jj,jy,jv,jk,jx,hf,decide_true,and_true,imp_self,true_implies,Bool.and_true,Bool.true_and,hw,zlc ha hp,zlU ha hp,ha.some hp,hp,jW]
   refine U_d ?_
   refine Wk ?_
   refine zc9 rfl (fun hq=>?_) (fun hq=>?_)
   ·refine Wk ?_
    rw [zvc hlt (decide_eq_false (by rw [wget hlt,wget hp];intro e;have e2:=e.2 h0;simp only [jQ,Bool.not_eq_true',Bool.and_eq_false_iff,decide_eq_true_eq,decide_eq_false_iff_not] at hq;omega))]
   ·refine Wk ?_
    refine ⟨k+1,⟨hlt,zvd hk.2 (decide_eq_true (by rw [wget hlt,wget hp];simp only [jp,Bool.not_eq_false',jJ,decide_eq_true_eq,decide_eq_false_iff_not] at hq;exact ⟨by omega,fun e=>by omega⟩))⟩,by omega,zjB (zjA hlt (by omega))⟩
 ·have hge:=zjI hdk
  refine Wk ?_
  rw [zve hge hk.2]
theorem zwe (a:Sl DWindow) (h:Hp) (ha:a.Ok h):Ct jV 283 [a.val] h fun v h'=>v=.bool (zwa a.l)∧h'=h:=by
 have hl:=ha.max
 rw [zwa]
 refine zdn (fun A W=>by simp) Tryz.func283 rfl rfl (by simp) fun W0=>?_
 refine Wk ?_
 refine zde (ι:=Nat) (fun k=>⟨[(0,true,.c (.v a.val)),(5,true,.c (.v a.val)),(6,true,.c (.v (.int .i64 a.l.length))),(7,true,.c (.v (.int .i64 k)))],[],h,0⟩) (fun k=>k≤a.l.length∧∀ i,i < k→zv9 a.l i=true) (fun k=>a.l.length - k) 0 ⟨Nat.zero_le _,zvf⟩ ?_ ?_
 ·refine Evs ?_
  exact Gk
 intro k hk
 refine Wk ?_
 refine zc9 rfl (fun hdk=>?_) (fun hdk=>?_)
 ·have hlt:=zjH hdk
  rcases Nat.eq_zero_or_pos k with h0|h0
  ·have hf:(0 < (k:Int))=False:=eq_false (by omega)
   repeat' first|refine Wa ?_|(simp (maxSteps:=2000000) only [go_sem,jq,jj,jy,jv,jk,jx,zlc ha hlt,ha.some hlt,hlt,jW];try rfl)|refine Wb ?_|fail
   refine znv rfl ?_
   refine U_t [0,1,2,3,4,6,5,7,8,9,10,11,12,13,14,15,16,17,18,19,20,26,21,27,22,23,24,25,28,29,30] rfl ?_
   simp (maxSteps:=2000000) only [go_sem,jq,jj,jy,jv,jk,jx,hf,decide_false,Bool.and_false,Bool.false_and,Bool.or_false,Bool.false_eq_true,false_implies,implies_true,true_and,and_true,reduceCtorEq]
   refine U_d ?_
   refine Wk ?_
   refine zc9 rfl (fun hq=>?_) (fun hq=>?_)
   ·refine Wk ?_
    rw [zvc hlt (decide_eq_false (by rw [wget hlt];intro e;simp only [jQ,Bool.not_eq_true',Bool.and_eq_false_iff,decide_eq_true_eq,decide_eq_false_iff_not] at hq;omega))]
   ·refine Wk ?_
    refine ⟨k+1,⟨hlt,zvd hk.2 (decide_eq_true (by rw [wget hlt];simp only [jp,Bool.not_eq_false',jJ,decide_eq_true_eq,decide_eq_false_iff_not] at hq;exact ⟨by omega,fun e=>by omega⟩))⟩,by omega,zjB (zjA hlt (by omega))⟩
  ·have hp:k - 1 < a.l.length:=by omega
   have hw:IntKind.i64.wrap ((k:Int) - 1)=((k - 1:Nat):Int):=by rw [zjz (by omega)];omega
   have hf:(0 < (k:Int))=True:=eq_true (by omega)
   repeat' first|refine Wa ?_|(simp (maxSteps:=2000000) only [go_sem,jq,jj,jy,jv,jk,jx,zlc ha hlt,ha.some hlt,hlt,jW];try rfl)|refine Wb ?_|fail
   refine znv rfl ?_
   refine U_t [0,1,2,3,4,6,5,7,8,9,10,11,12,13,14,15,16,17,18,19,20,26,21,27,22,23,24,25,28,29,30] rfl ?_
   simp (maxSteps:=2000000) only [go_sem,jq,jj,jy,jv,jk,jx,hf,decide_true,and_true,imp_self,true_implies,Bool.and_true,Bool.true_and,hw,zlc ha hp,zlU ha hp,ha.some hp,hp,jW]
   refine U_d ?_
   refine Wk ?_
   refine zc9 rfl (fun hq=>?_) (fun hq=>?_)
   ·refine Wk ?_
    rw [zvc hlt (decide_eq_false (by rw [wget hlt,wget hp];intro e;have e2:=e.2 h0;simp only [jQ,Bool.not_eq_true',Bool.and_eq_false_iff,decide_eq_true_eq,decide_eq_false_iff_not] at hq;omega))]
   ·refine Wk ?_
    refine ⟨k+1,⟨hlt,zvd hk.2 (decide_eq_true (by rw [wget hlt,wget hp];simp only [jp,Bool.not_eq_false',jJ,decide_eq_true_eq,decide_eq_false_iff_not] at hq;exact ⟨by omega,fun e=>by omega⟩))⟩,by omega,zjB (zjA hlt (by omega))⟩
 ·have hge:=zjI hdk
  refine Wk ?_
  rw [zve hge hk.2]
theorem zwf {α:Type} {p:α→Bool} {l:List α} {k:Nat} (hk:k < l.length) (h:p l[k]=true):l.any p=true:=List.any_eq_true.2 ⟨l[k],List.getElem_mem hk,h⟩
theorem zwg {α:Type} {p:α→Bool} {l:List α} (h:∀ i (hi:i < l.length),p l[i]=false):l.any p=false:=by
 rw [List.any_eq_false]
 intro x hx
 obtain ⟨i,hi,rfl⟩:=List.getElem_of_mem hx
 rw [h i hi];exact Bool.false_ne_true
theorem zwh {α:Type} {p:α→Bool} {l:List α} {k:Nat} (hk:k < l.length) (h:∀ i (hi:i < l.length),i < k→p l[i]=false) (hq:p l[k]=false):∀ i (hi:i < l.length),i < k+1→p l[i]=false:=fun i hi hik=>by
 rcases Nat.lt_succ_iff_lt_or_eq.1 hik with h1|rfl
 ·exact h i hi h1
 ·exact hq
theorem zwi {α:Type} {p:α→Bool} {l:List α} {k:Nat} (hk:k < l.length) (h:∀ i (hi:i < l.length),i < k→p l[i]=false) (hq:p l[k]=true):l.find? p=some l[k]:=by
 rw [List.find?_eq_some_iff_getElem]
 exact ⟨hq,k,hk,rfl,fun j hj=>by rw [h j (by omega) hj];rfl⟩
theorem zwj {α:Type} {p:α→Bool} {l:List α} (h:∀ i (hi:i < l.length),p l[i]=false):l.find? p=none:=by
 rw [List.find?_eq_none]
 intro x hx
 obtain ⟨i,hi,rfl⟩:=List.getElem_of_mem hx
 rw [h i hi];exact Bool.false_ne_true
theorem zZv (a:Sl DWindow) (m:Int) (h:Hp) (ha:a.Ok h):Ct jV 232 [a.val,.int .i64 m] h fun v h'=>v=.bool (zwb a.l m)∧h'=h:=by
 have hl:=ha.max
 refine zdn (fun A W=>by simp) Tryz.func232 rfl rfl (by simp) fun W0=>?_
 refine Wk ?_
 refine zde (ι:=Nat) (fun k=>⟨[(1,true,.c (.v (.int .i64 m))),(7,true,.c (.v a.val)),(8,true,.c (.v (.int .i64 a.l.length))),(9,true,.c (.v (.int .i64 k)))],[],h,0⟩) (fun k=>k≤a.l.length∧∀ i (hi:i < a.l.length),i < k→(fun w:DWindow=>In m w.src w.dst) a.l[i]=false) (fun k=>a.l.length - k) 0 ⟨Nat.zero_le _,fun i _ h=>absurd h (Nat.not_lt_zero _)⟩ ?_ ?_
 ·refine Evs ?_
  exact Gk
 intro k hk
 refine Wk ?_
 refine zc9 rfl (fun hdk=>?_) (fun hdk=>?_)
 ·have hlt:=zjH hdk
  repeat' first|refine Wa ?_|refine zhF (fun _=>zYZ _ _ _ _) ?_|(simp (maxSteps:=2000000) only [go_sem,jq,jj,jy,jv,jk,jx,zlc ha hlt,ha.some hlt,hlt,jW];try rfl)|refine Wb ?_|fail
  refine zc9 rfl (fun hq=>?_) (fun hq=>?_)
  ·refine Wk ?_
   rw [zwb,zwf hlt hq]
  ·refine Wk ?_
   refine ⟨k+1,⟨hlt,zwh (p:=fun w:DWindow=>In m w.src w.dst) hlt hk.2 hq⟩,by omega,zjB (zjA hlt (by omega))⟩
 ·have hge:=zjI hdk
  refine Wk ?_
  rw [zwb,zwg (fun i hi=>hk.2 i hi (by omega))]
theorem zZw (a:Sl DWindow) (m:Int) (h:Hp) (ha:a.Ok h):Ct jV 233 [a.val,.int .i64 m] h fun v h'=>v=.int .i64 (zwc a.l m)∧h'=h:=by
 have hl:=ha.max
 rw [zwc]
 refine zdn (fun A W=>by simp) Tryz.func233 rfl rfl (by simp) fun W0=>?_
 repeat' first|refine Wa ?_|refine zhF (fun _=>zZu _ _ ha) ?_|(simp (maxSteps:=2000000) only [go_sem,jq,jj,jy,jv,jk,jx];try rfl)|refine Wb ?_|fail
 refine zc9 rfl (fun hc=>?_) (fun hc=>?_)
 ·rw [Bool.not_eq_true'] at hc
  refine Wk ?_
  rw [hc];rfl
 rw [Bool.not_eq_false'] at hc
 rw [if_pos hc]
 refine Wk ?_
 refine zde (ι:=Nat) (fun k=>⟨[(1,true,.c (.v (.int .i64 m))),(10,true,.c (.v a.val)),(11,true,.c (.v (.int .i64 a.l.length))),(12,true,.c (.v (.int .i64 k)))],[],h,0⟩) (fun k=>k≤a.l.length∧∀ i (hi:i < a.l.length),i < k→(fun w:DWindow=>decide (m≤w.dst)) a.l[i]=false) (fun k=>a.l.length - k) 0 ⟨Nat.zero_le _,fun i _ h=>absurd h (Nat.not_lt_zero _)⟩ ?_ ?_
 ·refine Evs ?_
  exact Gk
 intro k hk
 refine Wk ?_
 refine zc9 rfl (fun hdk=>?_) (fun hdk=>?_)
 ·have hlt:=zjH hdk
  repeat' first|refine Wa ?_|(simp (maxSteps:=2000000) only [go_sem,jq,jj,jy,jv,jk,jx,zlc ha hlt,ha.some hlt,hlt,jW];try rfl)|refine Wb ?_|fail
  refine zc9 rfl (fun hq=>?_) (fun hq=>?_)
  ·refine Wk ?_
   rw [zwi hlt hk.2 hq]
  ·refine Wk ?_
   refine ⟨k+1,⟨hlt,zwh (p:=fun w:DWindow=>decide (m≤w.dst)) hlt hk.2 hq⟩,by omega,zjB (zjA hlt (by omega))⟩
 ·have hge:=zjI hdk
  refine Wk ?_
  rw [zwj (fun i hi=>hk.2 i hi (by omega))]
theorem zZx (a:Sl DWindow) (n:Int) (h:Hp) (ha:a.Ok h) (hz:a.l.length≤1048576):Ct jV 292 [a.val,.int .i64 n] h fun v h'=>∃ s:Sl DWindow,v=s.val∧s.l=zwd a.l n∧s.Ok h'∧Mine h h' s:=by
 rw [zwd]
 refine zdn (fun A W=>by simp) Tryz.func292 rfl rfl (by simp) fun W0=>?_
 repeat' first|refine Wa ?_|refine zhF (fun _=>zZu _ _ ha) ?_|refine zhF (fun _=>zYZ _ _ _ _) ?_|(simp (maxSteps:=2000000) only [go_sem,jq,jj,jy,jv,jk,jx];try rfl)|refine Wb ?_|fail
 refine zc9 rfl (fun hc=>?_) (fun hc=>?_)
 ·refine Wk ?_
  rw [if_neg (by intro e;rw [e.1,decide_eq_true e.2.1,decide_eq_true e.2.2] at hc;cases hc)]
  exact ⟨⟨none,0,[]⟩,rfl,rfl,zmo,Mine.nil⟩
 simp only [jp,Bool.not_eq_false',jJ,decide_eq_true_eq] at hc
 rw [if_pos ⟨hc.1,hc.2.1,hc.2.2⟩]
 refine Wk ?_
 refine zl0 (ι:=Nat) (fun k=>⟨[(1,true,.c (.v (.int .i64 n))),(5,true,.c (.s 0)),(17,true,.c (.v a.val)),(18,true,.c (.v (.int .i64 a.l.length))),(19,true,.c (.v (.int .i64 k)))],[(0,.row 320 2 ((((a.l.take k).filter (shr n)).map (shw n))).length (((((a.l.take k).filter (shr n)).map (shw n))).flatMap Enc.enc))],h,1⟩) (fun k=>k≤a.l.length) (fun k=>a.l.length - k) 0 (Nat.zero_le _) [0] ?_ ?_
 ·refine Evs ?_
  exact Gk
 intro k hk
 refine Wk ?_
 refine zc9 rfl (fun hdk=>?_) (fun hdk=>?_)
 ·have hlt:=zjH hdk
  have hlf:(((a.l.take k).filter (shr n)).map (shw n)).length≤k:=by rw [List.length_map];exact Nat.le_trans (List.length_filter_le _ _) (by rw [List.length_take];omega)
  repeat' first|refine Wa ?_|(simp (maxSteps:=2000000) only [go_sem,jq,jj,jy,jv,jk,jx,zlc ha hlt,ha.some hlt,hlt,jW];try rfl)|refine Wb ?_|fail
  refine zc9 rfl (fun hq=>?_) (fun hq=>?_)
  ·refine Wk ?_
   refine ⟨by simp only [maxLen];omega,by omega,?_⟩
   refine Wk ?_
   refine ⟨k+1,[3],hlt,by omega,?_⟩
   refine Evs ?_
   rw [zmp hlt hq,List.map_append,List.length_append,List.flatMap_append]
   refine ⟨zjB (zjA hlt (by omega)),?_⟩
   exact Gk
  ·refine Wk ?_
   refine ⟨k+1,[0],hlt,by omega,?_⟩
   refine Evs ?_
   rw [zmq hlt hq]
   refine ⟨zjB (zjA hlt (by omega)),?_⟩
   exact Gk
 ·have hge:=zjI hdk
  refine zc6 ?_
  refine Evs ?_
  rw [List.take_of_length_le hge]
  refine zlE 0 ((a.l.filter (shr n)).map (shw n)) rfl rfl rfl rfl (by decide) (fun x hx=>?_) h (Hp.le_refl _) (Mines.flat (fun _=>rfl) (fun _=>trivial)) fun s h' e1 e2 e3 e4=>?_
  ·obtain ⟨y,hy,rfl⟩:=List.mem_map.1 hx
   exact ⟨(ha.2.2.2.1 y (List.mem_filter.1 hy).1).1,i64w _⟩
  refine Wk ?_
  exact ⟨s,rfl,e1,e2,e4⟩
theorem zwk (a:Sl DWindow) (m:Int) (h:Hp) (ha:a.Ok h):Ct jV 246 [a.val,.int .i64 m] h fun v h'=>v=.bool (zwb a.l m)∧h'=h:=by
 have hl:=ha.max
 refine zdn (fun A W=>by simp) Tryz.func246 rfl rfl (by simp) fun W0=>?_
 refine Wk ?_
 refine zde (ι:=Nat) (fun k=>⟨[(1,true,.c (.v (.int .i64 m))),(7,true,.c (.v a.val)),(8,true,.c (.v (.int .i64 a.l.length))),(9,true,.c (.v (.int .i64 k)))],[],h,0⟩) (fun k=>k≤a.l.length∧∀ i (hi:i < a.l.length),i < k→(fun w:DWindow=>In m w.src w.dst) a.l[i]=false) (fun k=>a.l.length - k) 0 ⟨Nat.zero_le _,fun i _ h=>absurd h (Nat.not_lt_zero _)⟩ ?_ ?_
 ·refine Evs ?_
  exact Gk
 intro k hk
 refine Wk ?_
 refine zc9 rfl (fun hdk=>?_) (fun hdk=>?_)
 ·have hlt:=zjH hdk
  repeat' first|refine Wa ?_|refine zhF (fun _=>zum _ _ _ _) ?_|(simp (maxSteps:=2000000) only [go_sem,jq,jj,jy,jv,jk,jx,zlc ha hlt,ha.some hlt,hlt,jW];try rfl)|refine Wb ?_|fail
  refine zc9 rfl (fun hq=>?_) (fun hq=>?_)
  ·refine Wk ?_
   rw [zwb,zwf hlt hq]
  ·refine Wk ?_
   refine ⟨k+1,⟨hlt,zwh (p:=fun w:DWindow=>In m w.src w.dst) hlt hk.2 hq⟩,by omega,zjB (zjA hlt (by omega))⟩
 ·have hge:=zjI hdk
  refine Wk ?_
  rw [zwb,zwg (fun i hi=>hk.2 i hi (by omega))]
theorem zwl (a:Sl DWindow) (m:Int) (h:Hp) (ha:a.Ok h):Ct jV 247 [a.val,.int .i64 m] h fun v h'=>v=.int .i64 (zwc a.l m)∧h'=h:=by
 have hl:=ha.max
 rw [zwc]
 refine zdn (fun A W=>by simp) Tryz.func247 rfl rfl (by simp) fun W0=>?_
 repeat' first|refine Wa ?_|refine zhF (fun _=>zwe _ _ ha) ?_|(simp (maxSteps:=2000000) only [go_sem,jq,jj,jy,jv,jk,jx];try rfl)|refine Wb ?_|fail
 refine zc9 rfl (fun hc=>?_) (fun hc=>?_)
 ·rw [Bool.not_eq_true'] at hc
  refine Wk ?_
  rw [hc];rfl
 rw [Bool.not_eq_false'] at hc
 rw [if_pos hc]
 refine Wk ?_
 refine zde (ι:=Nat) (fun k=>⟨[(1,true,.c (.v (.int .i64 m))),(10,true,.c (.v a.val)),(11,true,.c (.v (.int .i64 a.l.length))),(12,true,.c (.v (.int .i64 k)))],[],h,0⟩) (fun k=>k≤a.l.length∧∀ i (hi:i < a.l.length),i < k→(fun w:DWindow=>decide (m≤w.dst)) a.l[i]=false) (fun k=>a.l.length - k) 0 ⟨Nat.zero_le _,fun i _ h=>absurd h (Nat.not_lt_zero _)⟩ ?_ ?_
 ·refine Evs ?_
  exact Gk
 intro k hk
 refine Wk ?_
 refine zc9 rfl (fun hdk=>?_) (fun hdk=>?_)
 ·have hlt:=zjH hdk
  repeat' first|refine Wa ?_|(simp (maxSteps:=2000000) only [go_sem,jq,jj,jy,jv,jk,jx,zlc ha hlt,ha.some hlt,hlt,jW];try rfl)|refine Wb ?_|fail
  refine zc9 rfl (fun hq=>?_) (fun hq=>?_)
  ·refine Wk ?_
   rw [zwi hlt hk.2 hq]
  ·refine Wk ?_
   refine ⟨k+1,⟨hlt,zwh (p:=fun w:DWindow=>decide (m≤w.dst)) hlt hk.2 hq⟩,by omega,zjB (zjA hlt (by omega))⟩
 ·have hge:=zjI hdk
  refine Wk ?_
  rw [zwj (fun i hi=>hk.2 i hi (by omega))]
theorem zwm (a:Sl DWindow) (n:Int) (h:Hp) (ha:a.Ok h) (hz:a.l.length≤1048576):Ct jV 279 [a.val,.int .i64 n] h fun v h'=>∃ s:Sl DWindow,v=s.val∧s.l=zwd a.l n∧s.Ok h'∧Mine h h' s:=by
 rw [zwd]
 refine zdn (fun A W=>by simp) Tryz.func279 rfl rfl (by simp) fun W0=>?_
 repeat' first|refine Wa ?_|refine zhF (fun _=>zwe _ _ ha) ?_|refine zhF (fun _=>zun _ _) ?_|(simp (maxSteps:=2000000) only [go_sem,jq,jj,jy,jv,jk,jx];try rfl)|refine Wb ?_|fail
 refine zc9 rfl (fun hc=>?_) (fun hc=>?_)
 ·refine Wk ?_
  rw [if_neg (by intro e;rw [e.1,decide_eq_true e.2.1,decide_eq_true e.2.2] at hc;cases hc)]
  exact ⟨⟨none,0,[]⟩,rfl,rfl,zmo,Mine.nil⟩
 simp only [jp,Bool.not_eq_false',jJ,decide_eq_true_eq] at hc
 rw [if_pos ⟨hc.1,hc.2.1,hc.2.2⟩]
 refine Wk ?_
 refine zl0 (ι:=Nat) (fun k=>⟨[(1,true,.c (.v (.int .i64 n))),(5,true,.c (.s 0)),(17,true,.c (.v a.val)),(18,true,.c (.v (.int .i64 a.l.length))),(19,true,.c (.v (.int .i64 k)))],[(0,.row 320 2 ((((a.l.take k).filter (shr n)).map (shw n))).length (((((a.l.take k).filter (shr n)).map (shw n))).flatMap Enc.enc))],h,1⟩) (fun k=>k≤a.l.length) (fun k=>a.l.length - k) 0 (Nat.zero_le _) [0] ?_ ?_
 ·refine Evs ?_
  exact Gk
 intro k hk
 refine Wk ?_
 refine zc9 rfl (fun hdk=>?_) (fun hdk=>?_)
 ·have hlt:=zjH hdk
  have hlf:(((a.l.take k).filter (shr n)).map (shw n)).length≤k:=by rw [List.length_map];exact Nat.le_trans (List.length_filter_le _ _) (by rw [List.length_take];omega)
  repeat' first|refine Wa ?_|(simp (maxSteps:=2000000) only [go_sem,jq,jj,jy,jv,jk,jx,zlc ha hlt,ha.some hlt,hlt,jW];try rfl)|refine Wb ?_|fail
  refine zc9 rfl (fun hq=>?_) (fun hq=>?_)
  ·refine Wk ?_
   refine ⟨by simp only [maxLen];omega,by omega,?_⟩
   refine Wk ?_
   refine ⟨k+1,[3],hlt,by omega,?_⟩
   refine Evs ?_
   rw [zmp hlt hq,List.map_append,List.length_append,List.flatMap_append]
   refine ⟨zjB (zjA hlt (by omega)),?_⟩
   exact Gk
  ·refine Wk ?_
   refine ⟨k+1,[0],hlt,by omega,?_⟩
   refine Evs ?_
   rw [zmq hlt hq]
   refine ⟨zjB (zjA hlt (by omega)),?_⟩
   exact Gk
 ·have hge:=zjI hdk
  refine zc6 ?_
  refine Evs ?_
  rw [List.take_of_length_le hge]
  refine zlE 0 ((a.l.filter (shr n)).map (shw n)) rfl rfl rfl rfl (by decide) (fun x hx=>?_) h (Hp.le_refl _) (Mines.flat (fun _=>rfl) (fun _=>trivial)) fun s h' e1 e2 e3 e4=>?_
  ·obtain ⟨y,hy,rfl⟩:=List.mem_map.1 hx
   exact ⟨(ha.2.2.2.1 y (List.mem_filter.1 hy).1).1,i64w _⟩
  refine Wk ?_
  exact ⟨s,rfl,e1,e2,e4⟩
def zwn (l:List DWindow) (k:Nat):Bool:=match l.getLast? with|some w=>decide (w.dst=(k:Int) - 1)|none=>false
def zwo (l:List DWindow) (k:Nat):List DWindow:=if zwn l k=true then l.dropLast ++ [⟨(l.getLast?.getD dW).src,k⟩] else l ++ [⟨k,k⟩]
def zwp (p:Nat→Bool):Nat→List DWindow
 | 0=>[]
 | k+1=>if p k=true then zwo (zwp p k) k else zwp p k
theorem zwq {l:List DWindow} {k:Nat} (h:zwn l k=true):∃ l0 w,l=l0 ++ [w]∧w.dst=(k:Int) - 1∧zwo l k=l0 ++ [⟨w.src,k⟩]:=by
 unfold zwn at h
 split at h
 ·rename_i w hw
  have hd:=of_decide_eq_true h
  obtain ⟨l0,rfl⟩:∃ l0,l=l0 ++ [w]:=⟨l.dropLast,by
   have hne:l ≠ []:=by intro e;rw [e] at hw;cases hw
   rw [List.getLast?_eq_some_getLast hne,Option.some.injEq] at hw
   rw [← hw];exact (List.dropLast_concat_getLast hne).symm⟩
  refine ⟨l0,w,rfl,hd,?_⟩
  have:zwn (l0 ++ [w]) k=true:=by unfold zwn;simp [hd]
  rw [zwo,if_pos this];simp
 ·cases h
theorem zwr {l:List DWindow} {k:Nat} (h:zwn l k=false):zwo l k=l ++ [⟨k,k⟩]:=by rw [zwo,if_neg (by rw [h];exact Bool.false_ne_true)]
theorem zws {p:Nat→Bool}:∀ {k:Nat},(zwp p k).length≤k
 | 0=>Nat.le_refl _
 | k+1=>by
  have ih:=zws (p:=p) (k:=k)
  unfold zwp
  split
  ·cases h:zwn (zwp p k) k
   ·rw [zwr h,List.length_append];simp;omega
   ·obtain ⟨l0,w,e,_,e2⟩:=zwq h
    rw [e2];rw [e] at ih;simp at ih ⊢;omega
  ·omega
theorem zwt {p:Nat→Bool}:∀ {k:Nat},∀ w ∈ zwp p k,0≤w.src∧w.src≤w.dst∧w.dst < k
 | 0,w,h=>by cases h
 | k+1,w,h=>by
  have ih:=zwt (p:=p) (k:=k)
  unfold zwp at h
  split at h
  ·cases hh:zwn (zwp p k) k
   ·rw [zwr hh] at h
    rcases List.mem_append.1 h with h|h
    ·have:=ih w h;omega
    ·obtain rfl:=List.mem_singleton.1 h;simp only;omega
   ·obtain ⟨l0,w',e,h1,e2⟩:=zwq hh
    rw [e2] at h
    rcases List.mem_append.1 h with h|h
    ·have:=ih w (by rw [e];exact List.mem_append_left _ h);omega
    ·have:=ih w' (by rw [e];simp)
     obtain rfl:=List.mem_singleton.1 h;simp only;omega
  ·have:=ih w h;omega
theorem zwu {p:Nat→Bool} {k:Nat}:zwn (zwp p k) (k+1)=false:=by
 unfold zwn
 split
 ·rename_i w hw
  have hm:w ∈ zwp p k:=List.mem_of_getLast? hw
  have:=zwt w hm
  exact decide_eq_false (by omega)
 ·rfl
theorem zwv {p:Nat→Bool} {k:Nat} (h:p k=true):zwp p (k+1)=zwo (zwp p k) k:=by rw [zwp,if_pos h]
theorem zww {p:Nat→Bool} {k:Nat} (h:p k=false):zwp p (k+1)=zwp p k:=by rw [zwp,if_neg (by rw [h];exact Bool.false_ne_true)]
theorem zwx {p:Nat→Bool} {k:Nat} (hk:k≤2881) (h:Hp):∀ w ∈ zwp p k,Enc.ok h w:=fun w hw=>by
 have:=zwt w hw
 show I64 _∧I64 _
 unfold I64;omega
theorem zZy {p q:Nat→Bool}:∀ {k:Nat},(∀ i,i < k→p i=q i)→zwp p k=zwp q k
 | 0,_=>rfl
 | k+1,h=>by unfold zwp;rw [h k (Nat.lt_succ_self k),zZy (fun i hi=>h i (by omega))]
theorem zwy {l:List DWindow} {a:Int} {k:Nat}:zwn (l ++ [⟨a,k⟩]) (k+1)=true:=by unfold zwn;simp
theorem zwz {l0:List DWindow} {w:DWindow} {k:Int}:List.take (l0.length * 2+1) ((l0 ++ [w]).flatMap Enc.enc) ++ Value.int .i64 k :: List.drop (l0.length * 2+1+1) ((l0 ++ [w]).flatMap Enc.enc)=(l0 ++ [(⟨w.src,k⟩:DWindow)]).flatMap Enc.enc :=
 znB (α:=DWindow) (l0:=l0) (w:=w) (w':=⟨w.src,k⟩) (o:=1) (new:=[.int .i64 k]) rfl (Nat.le_refl 2)
theorem zwA {l0:List DWindow} {k:Int}:List.take (l0.length * 2+1) (l0.flatMap Enc.enc ++ [Value.int .i64 k,Value.int .i64 0]) ++ Value.int .i64 k :: List.drop (l0.length * 2+1+1) (l0.flatMap Enc.enc ++ [Value.int .i64 k,Value.int .i64 0])=(l0 ++ [(⟨k,k⟩:DWindow)]).flatMap Enc.enc:=by
 have:=zwz (l0:=l0) (w:=⟨k,0⟩) (k:=k)
 rw [List.flatMap_append] at this
 exact this
def zwB (f:PForecast) (lv:Int):List DWindow:=zwp (fun m=>decide (lv≤zv1 f m)) 2881
theorem zwC (f:Nat) (cs:List Value) (p:Nat→Bool) (h:Hp) (hf:∀ k:Nat,k≤2880→Ct jV f ([.int .i64 k] ++ cs) h fun v h'=>v=.bool (p k)∧h'=h):Ct jV 296 [.func (.func f) #[] cs.toArray] h fun v h'=>∃ s:Sl DWindow,v=s.val∧s.l=zwp p 2881∧s.Ok h'∧Mine h h' s:=by
 refine zdn (fun A W=>by simp) Tryz.func296 rfl rfl (by simp) fun W0=>?_
 refine Wk ?_
 refine zl0 (ι:=Nat) (fun k=>⟨[(0,true,.c (.v (.func (.func f) #[] cs.toArray))),(3,true,.c (.s 0)),(4,true,.c (.v (.bool (zwn (zwp p k) k)))),(5,true,.c (.v (.int .i64 k)))],[(0,.row 320 2 (zwp p k).length ((zwp p k).flatMap Enc.enc))],h,1⟩) (fun k=>k≤2881) (fun k=>2881 - k) 0 (Nat.zero_le _) [0] ?_ ?_
 ·refine Evs ?_
  exact Gk
 intro k hk
 refine Wk ?_
 refine zc9 rfl (fun hd=>?_) (fun hd=>?_)
 ·have hd:=of_decide_eq_true hd
  refine Wk ?_
  refine zhF (fun _=>hf k (by omega)) ?_
  refine Wk ?_
  refine zc9 rfl (fun hq=>?_) (fun hq=>?_)
  ·rw [Bool.not_eq_true'] at hq
   refine Wk ?_
   refine ⟨k+1,[0],by omega,by omega,?_⟩
   refine Evs ?_
   rw [zww hq,zwu]
   exact Gi (zjA (n:=2881) (k:=k) (by omega) (by omega))
  rw [Bool.not_eq_false'] at hq
  refine Wk ?_
  refine zc9 rfl (fun ho=>?_) (fun ho=>?_)
  ·rw [Bool.not_eq_true'] at ho
   have hs:=zwr ho
   have hle:=zws (p:=p) (k:=k)
   have hgo:=zwv hq
   rw [hs] at hgo
   generalize zwp p k=L0 at *
   have hw:IntKind.i64.wrap (((L0.length+1:Nat):Int) - 1)=((L0.length:Nat):Int):=by rw [zjz (by omega)];omega
   refine Wk ?_
   refine ⟨by simp only [maxLen];omega,by omega,?_⟩
   have hfl:(L0.flatMap Enc.enc).length=L0.length * 2:=ziq Enc.len _
   repeat' first|refine Wa ?_|(simp only [go_sem,jq,jj,jy,jv,jk,jx,hw];try rfl)|refine Wb ?_|fail
   refine ⟨by omega,by rw [List.length_append,hfl];simp,?_⟩
   rw [zwA]
   refine Wk ?_
   refine ⟨k+1,[2],by omega,by omega,?_⟩
   refine Evs ?_
   rw [hgo,zwy,List.length_append,List.length_singleton]
   exact Gi (zjA (n:=2881) (k:=k) (by omega) (by omega))
  ·rw [Bool.not_eq_false'] at ho
   obtain ⟨l0,w,e,hw0,hs⟩:=zwq ho
   have hgo:=zwv hq
   rw [hs] at hgo
   have hle:=zws (p:=p) (k:=k)
   generalize zwp p k=L0 at *
   subst e
   have hw:IntKind.i64.wrap (((l0 ++ [w]).length:Int) - 1)=((l0.length:Nat):Int):=by rw [List.length_append] at *;rw [zjz (by simp at *;omega)];simp
   have hfl:((l0 ++ [w]).flatMap Enc.enc).length=(l0 ++ [w]).length * 2:=ziq Enc.len _
   repeat' first|refine Wa ?_|(simp only [go_sem,jq,jj,jy,jv,jk,jx,hw];try rfl)|refine Wb ?_|fail
   refine ⟨by rw [List.length_append];simp,by rw [hfl,List.length_append];simp;omega,?_⟩
   rw [zwz]
   refine Wk ?_
   refine ⟨k+1,[0],by omega,by omega,?_⟩
   refine Evs ?_
   rw [hgo,zwy,List.length_append,List.length_append,List.length_singleton,List.length_singleton,ho]
   exact Gi (zjA (n:=2881) (k:=k) (by omega) (by omega))
 ·have hd:=of_decide_eq_false hd
  have hke:k=2881:=by omega
  subst hke
  refine zc6 ?_
  refine Evs ?_
  refine zlE 0 (zwp p 2881) rfl rfl rfl rfl (by decide) (zwx (Nat.le_refl _) h) h (Hp.le_refl _) (Mines.flat (fun _=>rfl) (fun _=>trivial)) fun s h' e1 e2 e3 e4=>?_
  refine Wk ?_
  exact ⟨s,rfl,e1,e2,e4⟩
def zwD (s:DShip):Int:=if s.slow=true then Int.tdiv s.draught 50 else Int.tdiv s.draught 20
def zwE (s:DShip):Int:=IntKind.i64.wrap (IntKind.i64.wrap (s.draught+IntKind.i64.wrap (zwD s))+50)
def zwF (c:PChart) (k:Int) (s:DShip):Bool:=zva c && zvj s && decide (0≤k∧k < c.segments.length)
def zwG (c:PChart) (k:Int) (s:DShip):Int:=if zwF c k s=true then IntKind.i64.wrap (zwE s - (c.segments.getD k.toNat dG).depth) else 0
def zwH (c:PChart) (k:Int) (s:DShip):Int:=if zwF c k s=true then zvG s (c.segments.getD k.toNat dG) else 0
theorem zwI {c:PChart} {k:Int} {s:DShip} (h:zwF c k s=true):zva c=true∧zvj s=true∧0≤k∧k < c.segments.length:=by
 simp only [zwF,jJ,decide_eq_true_eq] at h
 exact ⟨h.1.1,h.1.2,h.2.1,h.2.2⟩
theorem zwJ (s:DShip) (h:Hp):Ct jV 315 [s.v] h fun v h'=>v=.int .i64 (IntKind.i64.wrap (zwD s))∧h'=h:=by
 rw [zwD]
 refine zdn (fun A W=>by simp) Tryz.func315 rfl rfl (by simp) fun W0=>?_
 refine Wk ?_
 refine zc9 rfl (fun hq=>?_) (fun hq=>?_)
 ·refine Wk ?_
  refine ⟨by decide,?_⟩
  refine Wk ?_
  rw [if_pos hq]
 ·refine Wk ?_
  refine ⟨by decide,?_⟩
  refine Wk ?_
  rw [if_neg (by rw [hq];exact Bool.false_ne_true)]
theorem zwK (s:DShip) (h:Hp):Ct jV 299 [s.v] h fun v h'=>v=.int .i64 (zwE s)∧h'=h:=by
 rw [zwE]
 refine zdn (fun A W=>by simp) Tryz.func299 rfl rfl (by simp) fun W0=>?_
 refine Wk ?_
 refine znv rfl ?_
 refine U_t [0,2,1] rfl ?_
 refine Evs ?_
 refine U_1 3 0 [1,0] rfl rfl ?_
 refine Evs ?_
 refine zhF (fun _=>zwJ _ _) ?_
 refine Evs ?_
 refine U_t [4,5,6] rfl ?_
 refine Evs ?_
 refine U_d ?_
 exact Wk0
theorem zZz (s:DShip) (h:Hp) (hs:Enc.ok h s) (hok:zvj s=true):Ct jV 322 [s.v] h fun v h'=>v=.int .i64 (IntKind.i64.wrap (zwD s))∧h'=h:=by
 rw [zwD]
 refine zdn (fun A W=>by simp) Tryz.func322 rfl rfl (by simp) fun W0=>?_
 repeat' first|refine Wa ?_|refine zhF (fun _=>zZa _ _ hs) ?_|(simp only [go_sem,jq,jj,jy,jv,jk,jx];try rfl)|refine Wb ?_|fail
 refine zc9 rfl (fun hc=>?_) (fun hc=>?_)
 ·rw [hok] at hc;cases hc
 refine Wk ?_
 refine zc9 rfl (fun hq=>?_) (fun hq=>?_)
 ·refine Wk ?_
  refine ⟨by decide,?_⟩
  refine Wk ?_
  rw [if_pos hq]
 ·refine Wk ?_
  refine ⟨by decide,?_⟩
  refine Wk ?_
  rw [if_neg (by rw [hq];exact Bool.false_ne_true)]
theorem zZA (s:DShip) (h:Hp) (hs:Enc.ok h s) (hok:zvj s=true):Ct jV 313 [s.v] h fun v h'=>v=.int .i64 (zwE s)∧h'=h:=by
 rw [zwE]
 refine zdn (fun A W=>by simp) Tryz.func313 rfl rfl (by simp) fun W0=>?_
 repeat' first|refine Wa ?_|refine zhF (fun _=>zZa _ _ hs) ?_|(simp only [go_sem,jq,jj,jy,jv,jk,jx];try rfl)|refine Wb ?_|fail
 refine zc9 rfl (fun hc=>?_) (fun hc=>?_)
 ·rw [hok] at hc;cases hc
 refine Wk ?_
 refine znv rfl ?_
 refine U_t [0,2,1] rfl ?_
 refine Evs ?_
 refine U_1 3 0 [1,0] rfl rfl ?_
 refine Evs ?_
 refine zhF (fun _=>zZz _ _ hs hok) ?_
 refine Evs ?_
 refine U_t [4,5,6] rfl ?_
 refine Evs ?_
 refine U_d ?_
 exact Wk0
theorem zZB (c:DChart) (k:Int) (s:DShip) (h:Hp) (hc:Enc.ok h c) (hs:Enc.ok h s):Ct jV 291 [c.v,.int .i64 k,s.v] h fun v h'=>v=.bool (zwF (Con.con c) k s)∧h'=h:=by
 have hl:=hc.2.max
 have hw:IntKind.i64.wrap ((c.segments.l.length:Int) - 1)=(c.segments.l.length:Int) - 1:=zjz (by omega)
 refine zdn (fun A W=>by simp) Tryz.func291 rfl rfl (by simp) fun W0=>?_
 repeat' first|refine Wa ?_|refine zhF (fun _=>zY8 _ _ hc) ?_|refine zhF (fun _=>zZa _ _ hs) ?_|refine zhF (fun _=>zYZ _ _ _ _) ?_|(simp only [go_sem,jq,jj,jy,jv,jk,jx,hw];try rfl)|refine Wb ?_|fail
 congr 1
 rw [zwF,zvJ,Bool.eq_iff_iff]
 simp only [jJ,decide_eq_true_eq,and_assoc]
 constructor <;> (intro e;refine ⟨e.1,e.2.1,?_⟩;omega)
theorem zZC (c:DChart) (k:Int) (s:DShip) (h:Hp) (hc:Enc.ok h c) (hs:Enc.ok h s):Ct jV 294 [c.v,.int .i64 k,s.v] h fun v h'=>v=.int .i64 (zwG (Con.con c) k s)∧h'=h:=by
 have hg:=hc.2
 rw [zwG]
 refine zdn (fun A W=>by simp) Tryz.func294 rfl rfl (by simp) fun W0=>?_
 repeat' first|refine Wa ?_|refine zhF (fun _=>zZB _ _ _ _ hc hs) ?_|(simp only [go_sem,jq,jj,jy,jv,jk,jx];try rfl)|refine Wb ?_|fail
 refine zc9 rfl (fun hq=>?_) (fun hq=>?_)
 ·rw [Bool.not_eq_true'] at hq
  rw [if_neg (by rw [hq];exact Bool.false_ne_true)]
  exact Wk0
 rw [Bool.not_eq_false'] at hq
 rw [if_pos hq]
 obtain ⟨h1,h2,h3,h4⟩:=zwI hq
 rw [zvJ] at h4 ⊢
 have hi:k.toNat < c.segments.l.length:=by omega
 rw [gget hi]
 refine Wk ?_
 refine znv rfl ?_
 refine U_t [0,2,4,3,5,6,7] rfl ?_
 simp only [go_sem,jq,jj,jy,jv,jk,jx,zkU hg hi,zlS hg hi,hg.some hi,h3,h4]
 refine U_1 1 0 [7,6,5,3,2] rfl rfl ?_
 simp only [go_sem,jq,jj,jy,jv,jk,jx,zkU hg hi,zlS hg hi,hg.some hi,h3,h4]
 refine zhF (fun _=>zZA _ _ hs h2) ?_
 simp only [go_sem,jq,jj,jy,jv,jk,jx,zkU hg hi,zlS hg hi,hg.some hi,h3,h4]
 refine U_t [8,9] rfl ?_
 simp only [go_sem,jq,jj,jy,jv,jk,jx,zkU hg hi,zlS hg hi,hg.some hi,h3,h4]
 refine U_d ?_
 exact Wk0
theorem zwL (c:DChart) (k:Int) (s:DShip) (h:Hp) (hc:Enc.ok h c) (hs:Enc.ok h s):Ct jV 278 [c.v,.int .i64 k,s.v] h fun v h'=>v=.bool (zwF (Con.con c) k s)∧h'=h:=by
 have hl:=hc.2.max
 have hw:IntKind.i64.wrap ((c.segments.l.length:Int) - 1)=(c.segments.l.length:Int) - 1:=zjz (by omega)
 refine zdn (fun A W=>by simp) Tryz.func278 rfl rfl (by simp) fun W0=>?_
 repeat' first|refine Wa ?_|refine zhF (fun _=>zvh _ _ hc) ?_|refine zhF (fun _=>zvq _ _ hs) ?_|refine zhF (fun _=>zuo _ _ _) ?_|(simp only [go_sem,jq,jj,jy,jv,jk,jx];try rfl)|refine Wb ?_|fail
 congr 1
 rw [zwF,zvJ,Bool.eq_iff_iff]
 simp only [jJ,decide_eq_true_eq,and_assoc]
theorem zwM (c:DChart) (k:Int) (s:DShip) (h:Hp) (hc:Enc.ok h c) (hs:Enc.ok h s):Ct jV 281 [c.v,.int .i64 k,s.v] h fun v h'=>v=.int .i64 (zwG (Con.con c) k s)∧h'=h:=by
 have hg:=hc.2
 rw [zwG]
 refine zdn (fun A W=>by simp) Tryz.func281 rfl rfl (by simp) fun W0=>?_
 repeat' first|refine Wa ?_|refine zhF (fun _=>zwL _ _ _ _ hc hs) ?_|(simp only [go_sem,jq,jj,jy,jv,jk,jx];try rfl)|refine Wb ?_|fail
 refine zc9 rfl (fun hq=>?_) (fun hq=>?_)
 ·rw [Bool.not_eq_true'] at hq
  rw [if_neg (by rw [hq];exact Bool.false_ne_true)]
  exact Wk0
 rw [Bool.not_eq_false'] at hq
 rw [if_pos hq]
 obtain ⟨h1,h2,h3,h4⟩:=zwI hq
 rw [zvJ] at h4 ⊢
 have hi:k.toNat < c.segments.l.length:=by omega
 rw [gget hi]
 refine Wk ?_
 refine znv rfl ?_
 refine U_t [0,2,4,3,5,6,7] rfl ?_
 simp only [go_sem,jq,jj,jy,jv,jk,jx,zkU hg hi,zlS hg hi,hg.some hi,h3,h4]
 refine U_1 1 0 [7,6,5,3,2] rfl rfl ?_
 simp only [go_sem,jq,jj,jy,jv,jk,jx,zkU hg hi,zlS hg hi,hg.some hi,h3,h4]
 refine zhF (fun _=>zwK _ _) ?_
 simp only [go_sem,jq,jj,jy,jv,jk,jx,zkU hg hi,zlS hg hi,hg.some hi,h3,h4]
 refine U_t [8,9] rfl ?_
 simp only [go_sem,jq,jj,jy,jv,jk,jx,zkU hg hi,zlS hg hi,hg.some hi,h3,h4]
 refine U_d ?_
 exact Wk0
theorem zwN (c:DChart) (k:Int) (s:DShip) (h:Hp) (hc:Enc.ok h c) (hs:Enc.ok h s):Ct jV 282 [c.v,.int .i64 k,s.v] h fun v h'=>v=.int .i64 (zwH (Con.con c) k s)∧h'=h:=by
 have hg:=hc.2
 rw [zwH]
 refine zdn (fun A W=>by simp) Tryz.func282 rfl rfl (by simp) fun W0=>?_
 repeat' first|refine Wa ?_|refine zhF (fun _=>zvh _ _ hc) ?_|refine zhF (fun _=>zvq _ _ hs) ?_|refine zhF (fun _=>zuo _ _ _) ?_|(simp only [go_sem,jq,jj,jy,jv,jk,jx];try rfl)|refine Wb ?_|fail
 have e:zwF (Con.con c) k s=(zva (Con.con c) && (zvj s && (decide (0≤k) && decide (k < (c.segments.l.length:Int))))):=by
  rw [zwF,zvJ,Bool.eq_iff_iff]
  simp only [jJ,decide_eq_true_eq,and_assoc]
 refine zc9 rfl (fun hq=>?_) (fun hq=>?_)
 ·rw [if_neg (by rw [e];intro e';simp only [jJ] at e';rw [e'.1,e'.2.1,e'.2.2.1,e'.2.2.2] at hq;cases hq)]
  exact Wk0
 simp only [jp,Bool.not_eq_false',jJ,decide_eq_true_eq,and_assoc] at hq
 obtain ⟨h1,h2,h3,h4⟩:=hq
 rw [if_pos (by rw [e,h1,h2,decide_eq_true h3,decide_eq_true h4];rfl),zvJ]
 have hi:k.toNat < c.segments.l.length:=by omega
 rw [gget hi]
 refine Wk ?_
 refine znv rfl ?_
 refine U_t [0,1,3,2,4,5] rfl ?_
 simp only [go_sem,jq,jj,jy,jv,jk,jx,zkU hg hi,hg.some hi,h3,h4]
 refine U_1 6 0 [] rfl rfl ?_
 simp only [go_sem,jq,jj,jy,jv,jk,jx,zkU hg hi,hg.some hi,h3,h4]
 refine zhF (fun _=>zvM _ _ _) ?_
 simp only [go_sem,jq,jj,jy,jv,jk,jx,zkU hg hi,hg.some hi,h3,h4]
 refine U_t [7] rfl ?_
 simp only [go_sem,jq,jj,jy,jv,jk,jx,zkU hg hi,hg.some hi,h3,h4]
 refine U_d ?_
 exact Wk0
theorem zZD (c:DChart) (k:Int) (s:DShip) (h:Hp) (hc:Enc.ok h c) (hs:Enc.ok h s):Ct jV 295 [c.v,.int .i64 k,s.v] h fun v h'=>v=.int .i64 (zwH (Con.con c) k s)∧h'=h:=by
 have:=zZk c k s h hc hs
 have e:zwH (Con.con c) k s=(if zva (Con.con c)=true∧zvj s=true∧0≤k∧k < c.segments.l.length then zvG s (c.segments.l.getD k.toNat dG) else 0):=by
  rw [zwH,zwF,zvJ]
  simp only [jJ,decide_eq_true_eq,and_assoc]
 rw [e];exact this
theorem zZE {l0:List DWindow} {w:DWindow}:((l0 ++ [w]).flatMap Enc.enc).getD (l0.length * 2+1) undef=Value.int .i64 w.dst:=by
 have e1:(l0.flatMap Enc.enc).length=l0.length * 2:=ziq Enc.len _
 rw [List.flatMap_append,List.getD_eq_getElem?_getD,List.getElem?_append_right (by omega),e1,show l0.length * 2+1 - l0.length * 2=1 by omega]
 rfl
theorem bget {l:List Bool} {i:Nat} (hi:i < l.length):l.getD i false=l[i]:=by simp [List.getD_eq_getElem?_getD,hi]
theorem zZF (a:Sl Bool) (h:Hp) (ha:a.Ok h) (hz:a.l.length≤2881):Ct jV 312 [a.val] h fun v h'=>∃ s:Sl DWindow,v=s.val∧s.l=zwp (fun i=>a.l.getD i false) a.l.length∧s.Ok h'∧Mine h h' s:=by
 refine zdn (fun A W=>by simp) Tryz.func312 rfl rfl (by simp) fun W0=>?_
 refine Wk ?_
 refine zl0 (ι:=Nat) (fun k=>⟨[(3,true,.c (.s 0)),(7,true,.c (.v a.val)),(8,true,.c (.v (.int .i64 a.l.length))),(9,true,.c (.v (.int .i64 k)))],[(0,.row 320 2 (zwp (fun i=>a.l.getD i false) k).length ((zwp (fun i=>a.l.getD i false) k).flatMap Enc.enc))],h,1⟩) (fun k=>k≤a.l.length) (fun k=>a.l.length - k) 0 (Nat.zero_le _) [0] ?_ ?_
 ·refine Evs ?_
  exact Gk
 intro k hk
 refine Wk ?_
 refine zc9 rfl (fun hdk=>?_) (fun hdk=>?_)
 ·have hlt:=zjH hdk
  repeat' first|refine Wa ?_|(simp only [go_sem,jq,jj,jy,jv,jk,jx,znA ha hlt,ha.some hlt,hlt,jW];try rfl)|refine Wb ?_|fail
  refine zc9 rfl (fun hq=>?_) (fun hq=>?_)
  ·rw [Bool.not_eq_true'] at hq
   refine Wk ?_
   refine ⟨k+1,[0],hlt,by omega,?_⟩
   refine Evs ?_
   rw [zww (by rw [bget hlt];exact hq)]
   exact Gi (zjA hlt (by omega))
  rw [Bool.not_eq_false'] at hq
  have hgo:=zwv (p:=fun i=>a.l.getD i false) (k:=k) (by rw [bget hlt];exact hq)
  have hle:=zws (p:=fun i=>a.l.getD i false) (k:=k)
  generalize zwp (fun i=>a.l.getD i false) k=L0 at *
  have hwk:IntKind.i64.wrap ((k:Int) - 1)=(k:Int) - 1:=zjz (by omega)
  rcases List.eq_nil_or_concat L0 with rfl|⟨l0,w,rfl⟩
  ·have ho:zwn [] k=false:=rfl
   rw [zwr ho] at hgo
   have h00:(0 < ((0:Nat):Int))=False:=eq_false (by decide)
   repeat' first|refine Wa ?_|(simp only [go_sem,jq,jj,jy,jv,jk,jx,h00,decide_false,Bool.false_and,Bool.false_eq_true,false_implies,implies_true,true_and];try rfl)|refine Wb ?_|fail
   refine zc9 rfl (fun hx=>?_) (fun hx=>?_)
   ·cases hx
   refine Wk ?_
   refine ⟨by simp only [maxLen];omega,?_⟩
   refine Wk ?_
   refine ⟨k+1,[2],hlt,by omega,?_⟩
   refine Evs ?_
   rw [hgo]
   exact Gi (zjA hlt (by omega))
  ·rw [List.concat_eq_append] at *
   have hw:IntKind.i64.wrap (((l0 ++ [w]).length:Int) - 1)=((l0.length:Nat):Int):=by rw [List.length_append] at *;rw [zjz (by simp at *;omega)];simp
   have hpos:(0 < ((l0 ++ [w]).length:Int))=True:=eq_true (by rw [List.length_append,List.length_singleton];omega)
   have hlt1:((l0.length:Nat):Int) < ((l0 ++ [w]).length:Int):=by rw [List.length_append,List.length_singleton];omega
   have hfl:((l0 ++ [w]).flatMap Enc.enc).length=(l0 ++ [w]).length * 2:=ziq Enc.len _
   have hlt2:l0.length * 2+1 < ((l0 ++ [w]).flatMap Enc.enc).length:=by rw [hfl,List.length_append,List.length_singleton];omega
   have hgt:((l0 ++ [w]).flatMap Enc.enc).getD (l0.length * 2+1) undef=Value.int .i64 w.dst:=zZE
   have hlt3:l0.length < (l0 ++ [w]).length:=by rw [List.length_append];simp
   repeat' first|refine Wa ?_|(simp only [go_sem,jq,jj,jy,jv,jk,jx,hw,hpos,hlt1,hlt2,hlt3,hgt,hwk,decide_true,Bool.true_and,true_implies,jY,and_self,true_and,imp_self];try rfl)|refine Wb ?_|fail
   refine zc9 rfl (fun ho=>?_) (fun ho=>?_)
   ·have ho:zwn (l0 ++ [w]) k=true:=by unfold zwn;simpa using eq_of_beq ho
    obtain ⟨l1,w1,e1,_,hs⟩:=zwq ho
    obtain ⟨rfl,e2⟩:=List.append_inj' e1 rfl
    obtain rfl:w=w1:=by simpa using e2
    rw [hs] at hgo
    repeat' first|refine Wa ?_|(simp only [go_sem,jq,jj,jy,jv,jk,jx,hw,hlt1,hlt3];try rfl)|refine Wb ?_|fail
    refine ⟨by rw [hfl,List.length_append];simp;omega,?_⟩
    rw [zwz]
    refine Wk ?_
    refine ⟨k+1,[0],hlt,by omega,?_⟩
    refine Evs ?_
    rw [hgo,List.length_append,List.length_append,List.length_singleton,List.length_singleton]
    exact Gi (zjA hlt (by omega))
   ·have ho:zwn (l0 ++ [w]) k=false:=by
     unfold zwn
     simp only [List.getLast?_append,List.getLast?_singleton,Option.some_or,decide_eq_false_iff_not]
     exact ne_of_beq_false ho
    rw [zwr ho] at hgo
    refine Wk ?_
    refine ⟨by simp only [maxLen];omega,by omega,?_⟩
    refine Wk ?_
    refine ⟨k+1,[2],hlt,by omega,?_⟩
    refine Evs ?_
    rw [hgo]
    simp only [List.flatMap_append,List.length_append,List.length_singleton]
    exact Gi (zjA hlt (by omega))
 ·have hge:=zjI hdk
  have hke:k=a.l.length:=Nat.le_antisymm hk hge
  subst hke
  refine zc6 ?_
  refine Evs ?_
  refine zlE 0 (zwp (fun i=>a.l.getD i false) a.l.length) rfl rfl rfl rfl (by decide) (zwx hz h) h (Hp.le_refl _) (Mines.flat (fun _=>rfl) (fun _=>trivial)) fun s h' e1 e2 e3 e4=>?_
  refine Wk ?_
  exact ⟨s,rfl,e1,e2,e4⟩
def lowM (f:PForecast) (lv:Int) (k:Nat):List Bool:=(List.range k).map fun m:Nat=>decide (lv≤zv1 f m)
theorem zZG {f:PForecast} {lv:Int} {k:Nat}:lowM f lv (k+1)=lowM f lv k ++ [decide (lv≤zv1 f k)]:=by rw [lowM,List.range_succ,List.map_append];rfl
theorem zZH {f:PForecast} {lv:Int} {k:Nat}:(lowM f lv k).length=k:=by rw [lowM,List.length_map,List.length_range]
theorem zZI {f:PForecast} {lv:Int}:zwp (fun i=>(lowM f lv 2881).getD i false) 2881=zwB f lv:=by
 refine zZy fun i hi=>?_
 simp [lowM,List.getD_eq_getElem?_getD,hi]
def zwO (f:PForecast) (c:PChart) (k:Int) (s:DShip):List DWindow:=if zuY f=true∧zwF c k s=true then zwd (zwB f (zwG c k s)) (zwH c k s) else []
set_option maxRecDepth 100000 in
theorem zZJ (f:DForecast) (lv:Int) (h:Hp) (hf:Enc.ok h f) (h0:0 < f.surges.l.length):Ct jV 293 [f.v,.int .i64 lv,.bool false] h fun v h'=>∃ s:Sl DWindow,v=s.val∧s.l=zwB (Con.con f) lv∧s.Ok h'∧Mine h h' s:=by
 refine zdn (fun A W=>by simp) Tryz.func293 rfl rfl (by simp) fun W0=>?_
 refine Wk ?_
 refine zl0 (ι:=Nat) (fun k=>⟨[(1,true,.c (.v (.int .i64 lv))),(2,true,.c (.v (.bool false))),(3,true,.c (.p 0 0)),(7,true,.c (.s 1)),(8,true,.c (.v (.int .i64 k)))],[(0,.box 53 [.v (.int .i64 f.tide.mean),.v f.tide.parts.val,.v f.surges.val]),(1,.row 4 1 (lowM (Con.con f) lv k).length ((lowM (Con.con f) lv k).flatMap Enc.enc))],h,2⟩) (fun k=>k≤2881) (fun k=>2881 - k) 0 (Nat.zero_le _) [0,1] ?_ ?_
 ·refine Evs ?_
  simp only [lowM,List.range_zero,List.map_nil,List.length_nil,List.flatMap_nil]
  exact Gk
 intro k hk
 have hkl:=zZH (f:=Con.con f) (lv:=lv) (k:=k)
 refine Wk ?_
 refine zc9 rfl (fun hd=>?_) (fun hd=>?_)
 ·have hd:=of_decide_eq_true hd
  have hs:=zvT (m:=(k:Int)) h0
  repeat' first|refine Wa ?_|refine zhF (fun _=>zZr f _ _ hf h0) ?_|(simp only [go_sem,jq,jj,jy,jv,jk,jx];try rfl)|refine Wb ?_|fail
  refine zc9 rfl (fun hx=>?_) (fun hx=>?_)
  ·cases hx
  repeat' first|refine Wa ?_|refine zhF (fun _=>zZt _ _ _ hf.1) ?_|(simp only [go_sem,jq,jj,jy,jv,jk,jx];try rfl)|refine Wb ?_|fail
  refine ⟨by simp only [maxLen];omega,by omega,?_⟩
  refine Wk ?_
  refine ⟨k+1,[0,4],by omega,by omega,?_⟩
  refine Evs ?_
  rw [zZG,zv1,zvX,List.length_append,List.length_singleton,List.flatMap_append]
  exact Gi (zjA (n:=2881) (k:=k) (by omega) (by omega))
 ·have hd:=of_decide_eq_false hd
  have hke:k=2881:=by omega
  subst hke
  refine zc6 ?_
  refine Evs ?_
  refine zlE 1 (lowM (Con.con f) lv 2881) rfl rfl rfl rfl (by decide) (fun _ _=>trivial) h (Hp.le_refl _) (Mines.flat (fun _=>rfl) (fun _=>trivial)) fun s h1 e1 e2 e3 e4=>?_
  refine Wk ?_
  have hl1:s.l.length=2881:=by rw [e1];exact hkl
  refine zkj (zZF s _ e2 (by omega)) rfl ?_
  rintro v h2 le2 ⟨s2,rfl,q1,q2,q3⟩
  refine Wk ?_
  refine ⟨s2,rfl,?_,q2,Mine.back e3 q3⟩
  rw [q1,hl1,e1,zZI]
theorem zwP (f:DForecast) (lv m:Int) (p q:Nat) (h:Hp) (hf:Enc.ok h f) (h0:0 < f.surges.l.length) (hp:h.lds (some ⟨p,0,none⟩) 3=some [.int .i64 f.tide.mean,f.tide.parts.val,f.surges.val]) (hq:h.lds (some ⟨q,0,none⟩) 1=some [.int .i64 lv]):Ct jV 297 [.int .i64 m,.pointer (some ⟨p,0,none⟩),.pointer (some ⟨q,0,none⟩)] h fun v h'=>v=.bool (decide (lv≤zv1 (Con.con f) m))∧h'=h:=by
 refine zdn (fun A W=>by simp) Tryz.func297 rfl rfl (by simp) fun W0=>?_
 refine Wk ?_
 refine znv rfl ?_
 refine U_t [0,1,3] rfl ?_
 simp only [go_sem,jq,jj,jy,jv,jk,jx,hp,hq]
 refine U_1 2 0 [3] rfl rfl ?_
 simp only [go_sem,jq,jj,jy,jv,jk,jx,hp,hq]
 refine zhF (fun _=>zv8 f _ _ hf h0) ?_
 simp only [go_sem,jq,jj,jy,jv,jk,jx,hp,hq]
 refine U_t [4,5] rfl ?_
 simp only [go_sem,jq,jj,jy,jv,jk,jx,hp,hq]
 refine U_d ?_
 exact Wk0
theorem zwQ (f:DForecast) (lv:Int) (h:Hp) (hf:Enc.ok h f) (hok:zuY (Con.con f)=true):Ct jV 280 [f.v,.int .i64 lv] h fun v h'=>∃ s:Sl DWindow,v=s.val∧s.l=zwB (Con.con f) lv∧s.Ok h'∧Mine h h' s:=by
 have h0:0 < f.surges.l.length:=by have:=zvW hok;rwa [zvX] at this
 refine zdn (fun A W=>by simp) Tryz.func280 rfl rfl (by simp) fun W0=>?_
 repeat' first|refine Wa ?_|refine zhF (fun _=>zu0 f _ hf) ?_|(simp only [go_sem,jq,jj,jy,jv,jk,jx];try rfl)|refine Wb ?_|fail
 refine zc9 rfl (fun hc=>?_) (fun hc=>?_)
 ·rw [hok] at hc;cases hc
 refine zc5 ?_
 refine Evs ?_
 refine zmE 1 rfl rfl fun q hq _=>?_
 refine Evs ?_
 refine zmE 0 rfl rfl fun p hp _=>?_
 refine Evs ?_
 have hq:h q=none:=hq
 have hp:(h.ins q (.cells #[.int .i64 lv] 3 (0,0))) p=none:=hp
 have lq:h.le (h.ins q (.cells #[.int .i64 lv] 3 (0,0))):=Hp.ins_le hq
 have lp:=Hp.ins_le (o:=.cells #[.int .i64 f.tide.mean,f.tide.parts.val,f.surges.val] 53 (0,0)) hp
 have hne:q ≠ p:=fun e=>by subst e;rw [Hp.ins_same] at hp;cases hp
 have hl:=Hp.le_trans lq lp
 refine zlr [1] rfl ?_
 refine Evs ?_
 refine zkj (zwC 297 [.pointer (some ⟨p,0,none⟩),.pointer (some ⟨q,0,none⟩)] (fun m=>decide (lv≤zv1 (Con.con f) m)) _ (fun k _=>zwP f lv k p q _ (Enc.mono hl hf) h0 (zmG (xs:=[.int .i64 f.tide.mean,f.tide.parts.val,f.surges.val]) Hp.ins_same rfl (Nat.le_refl 3)) (zmG (xs:=[.int .i64 lv]) (by rw [Hp.ins_ne hne,Hp.ins_same]) rfl (Nat.le_refl 1)))) rfl ?_
 rintro v h2 le2 ⟨s2,rfl,q1,q2,q3⟩
 refine Wk ?_
 exact ⟨s2,rfl,q1,q2,Mine.back hl q3⟩
theorem zwR (f:DForecast) (c:DChart) (k:Int) (s:DShip) (h:Hp) (hf:Enc.ok h f) (hc:Enc.ok h c) (hs:Enc.ok h s):Ct jV 245 [f.v,c.v,.int .i64 k,s.v] h fun v h'=>∃ r:Sl DWindow,v=r.val∧r.l=zwO (Con.con f) (Con.con c) k s∧r.Ok h'∧Mine h h' r:=by
 rw [zwO]
 refine zdn (fun A W=>by simp) Tryz.func245 rfl rfl (by simp) fun W0=>?_
 repeat' first|refine Wa ?_|refine zhF (fun _=>zu0 f _ hf) ?_|refine zhF (fun _=>zwL c _ s _ hc hs) ?_|(simp only [go_sem,jq,jj,jy,jv,jk,jx];try rfl)|refine Wb ?_|fail
 refine zc9 rfl (fun hq=>?_) (fun hq=>?_)
 ·refine Wk ?_
  rw [if_neg (by intro e;rw [e.1,e.2] at hq;cases hq)]
  exact ⟨⟨none,0,[]⟩,rfl,rfl,zmo,Mine.nil⟩
 simp only [jp,Bool.not_eq_false'] at hq
 rw [if_pos ⟨hq.1,hq.2⟩]
 have h0:0 < f.surges.l.length:=by have:=zvW hq.1;rwa [zvX] at this
 refine Wk ?_
 refine znv rfl ?_
 refine U_t [0,1,2,3,6,7,8] rfl ?_
 refine Evs ?_
 refine U_1 4 0 [8,6,0] rfl rfl ?_
 refine Evs ?_
 refine zhF (fun _=>zwM c _ s _ hc hs) ?_
 refine Evs ?_
 refine U_1 5 0 [8,6] rfl rfl ?_
 refine Evs ?_
 refine zkj (zwQ f _ _ hf hq.1) rfl ?_
 rintro v h1 le1 ⟨s1,rfl,e1,o1,m1⟩
 refine Evs ?_
 refine U_1 9 0 [] rfl rfl ?_
 refine Evs ?_
 refine zhF (fun _=>zwN c _ s _ (Enc.mono (x:=c) le1 hc) (Enc.mono (x:=s) le1 hs)) ?_
 refine Evs ?_
 refine U_1 10 0 [] rfl rfl ?_
 refine Evs ?_
 refine zkj (zwm s1 _ _ o1 (by rw [e1];exact Nat.le_trans zws (by decide))) rfl ?_
 rintro v h2 le2 ⟨s2,rfl,e2,o2,m2⟩
 refine Evs ?_
 refine U_t [11] rfl ?_
 refine Evs ?_
 refine U_d ?_
 refine Wk ?_
 exact ⟨s2,rfl,by rw [e2,e1],o2,Mine.back le1 m2⟩
theorem zZK (f:DForecast) (c:DChart) (k:Int) (s:DShip) (h:Hp) (hf:Enc.ok h f) (hc:Enc.ok h c) (hs:Enc.ok h s):Ct jV 271 [f.v,c.v,.int .i64 k,s.v,.bool false] h fun v h'=>∃ r:Sl DWindow,v=r.val∧r.l=zwO (Con.con f) (Con.con c) k s∧r.Ok h'∧Mine h h' r:=by
 rw [zwO]
 refine zdn (fun A W=>by simp) Tryz.func271 rfl rfl (by simp) fun W0=>?_
 repeat' first|refine Wa ?_|refine zhF (fun _=>zY5 f _ hf) ?_|refine zhF (fun _=>zZB c _ s _ hc hs) ?_|(simp only [go_sem,jq,jj,jy,jv,jk,jx];try rfl)|refine Wb ?_|fail
 refine zc9 rfl (fun hq=>?_) (fun hq=>?_)
 ·refine Wk ?_
  rw [if_neg (by intro e;rw [e.1,e.2] at hq;cases hq)]
  exact ⟨⟨none,0,[]⟩,rfl,rfl,zmo,Mine.nil⟩
 simp only [jp,Bool.not_eq_false'] at hq
 rw [if_pos ⟨hq.1,hq.2⟩]
 have h0:0 < f.surges.l.length:=by have:=zvW hq.1;rwa [zvX] at this
 refine Wk ?_
 refine znv rfl ?_
 refine U_t [0,1,2,3,5,7,8,9] rfl ?_
 refine Evs ?_
 refine U_1 4 0 [9,7,0] rfl rfl ?_
 refine Evs ?_
 refine zhF (fun _=>zZC c _ s _ hc hs) ?_
 refine Evs ?_
 refine U_1 6 0 [9,7] rfl rfl ?_
 refine Evs ?_
 refine zkj (zZJ f _ _ hf h0) rfl ?_
 rintro v h1 le1 ⟨s1,rfl,e1,o1,m1⟩
 refine Evs ?_
 refine U_1 10 0 [] rfl rfl ?_
 refine Evs ?_
 refine zhF (fun _=>zZD c _ s _ (Enc.mono (x:=c) le1 hc) (Enc.mono (x:=s) le1 hs)) ?_
 refine Evs ?_
 refine U_1 11 0 [] rfl rfl ?_
 refine Evs ?_
 refine zkj (zZx s1 _ _ o1 (by rw [e1];exact Nat.le_trans zws (by decide))) rfl ?_
 rintro v h2 le2 ⟨s2,rfl,e2,o2,m2⟩
 refine Evs ?_
 refine U_t [12] rfl ?_
 refine Evs ?_
 refine U_d ?_
 refine Wk ?_
 exact ⟨s2,rfl,by rw [e2,e1],o2,Mine.back le1 m2⟩
theorem zZL (f:DForecast) (c:DChart) (k:Int) (s:DShip) (h:Hp) (hf:Enc.ok h f) (hc:Enc.ok h c) (hs:Enc.ok h s):Ct jV 230 [f.v,c.v,.int .i64 k,s.v] h fun v h'=>∃ r:Sl DWindow,v=r.val∧r.l=zwO (Con.con f) (Con.con c) k s∧r.Ok h'∧Mine h h' r:=by
 refine zdn (fun A W=>by simp) Tryz.func230 rfl rfl (by simp) fun W0=>?_
 refine Wk ?_
 refine zkj (zZK f c k s _ hf hc hs) rfl ?_
 rintro v h1 le1 ⟨s1,rfl,e1,o1,m1⟩
 refine Wk ?_
 exact ⟨s1,rfl,e1,o1,m1⟩
end Go.Proofs.YtbkaaakphpbmiaaGreat
