/- What functions of the given program compute, each as a contract over what its arguments read as. No condition beside those that each theorem states. -/
import Derived.Test.YtjiggadgmmjnhaaGreatS8
set_option linter.unusedVariables false
set_option linter.unusedSimpArgs false
open Nat renaming reduceAdd → yqa, reduceMul → yqb, reduceBEq → yqc, reduceLeDiff → yqd, reduceLT → yqe, reduceEqDiff → yqf
open Bool renaming or_eq_false_iff → yqg, or_eq_true → yqh, and_eq_true → yqi
open Int renaming toNat_natCast → yqj, natCast_nonneg → yqk
namespace Go.Proofs.YtjiggadgmmjnhaaGreat
open Go Go.SL
set_option maxHeartbeats 1000000
theorem i64w (n:Int):I64 (IntKind.i64.wrap n):=by rw [w64];unfold I64;omega
def dW:DWindow:=⟨0,0⟩
theorem wget {l:List DWindow} {i:Nat} (hi:i < l.length):l.getD i dW=l[i]:=by simp [List.getD_eq_getElem?_getD,hi]
def zIC (l:List DWindow) (i:Nat):Bool:=decide ((0≤(l.getD i dW).src∧(l.getD i dW).src≤(l.getD i dW).dst∧(l.getD i dW).dst≤2880)∧(0 < i→IntKind.i64.wrap ((l.getD (i - 1) dW).dst+1) < (l.getD i dW).src))
def zID (l:List DWindow):Bool:=decide (∀ i,i < l.length→zIC l i=true)
def zIE (l:List DWindow) (m:Int):Bool:=l.any fun w=>In m w.src w.dst
def zIF (l:List DWindow) (m:Int):Int:=if zID l=true then (match l.find? (fun w=>decide (m≤w.dst)) with|some w=>max w.src m|none=>-1) else -1
def shr (n:Int) (w:DWindow):Bool:=decide (n≤IntKind.i64.wrap (w.dst - w.src))
def shw (n:Int) (w:DWindow):DWindow:=⟨w.src,IntKind.i64.wrap (w.dst - n)⟩
def zIG (l:List DWindow) (n:Int):List DWindow:=if zID l=true∧0≤n∧n≤2880 then (l.filter (shr n)).map (shw n) else []
theorem zIH (a:Sl DWindow) (h:Hp) (ha:a.Ok h):Ct Tryz.prog 223 [a.val] h fun v h'=>v=.bool (zID a.l)∧h'=h:=by
 have hl:=ha.max
 rw [zID]
 refine zdn (fun A W=>by simp) Tryz.func223 rfl rfl (by simp) fun W0=>?_
 repeat' first|refine zie rfl ?_|refine zc4 rfl ?_|refine zc7 ?_|refine zc8 ?_|refine zc5 ?_|refine zc6 ?_|(simp (maxSteps:=2000000) only [go_sem,yqa,yqb,yqc,yqd,yqe,yqf];try rfl)|refine zc3 ?_|(refine And.intro ?_ ?_;focus (intros;simp_all only [yqg,yqh,yqi,and_self,true_and,and_true];done))
 refine zde (ι:=Nat) (fun k=>⟨[(0,true,.c (.v a.val)),(5,true,.c (.v a.val)),(6,true,.c (.v (.int .i64 a.l.length))),(7,true,.c (.v (.int .i64 k)))],[],h,0⟩) (fun k=>k≤a.l.length∧∀ i,i < k→zIC a.l i=true) (fun k=>a.l.length - k) 0 ⟨Nat.zero_le _,zrH⟩ ?_ ?_
 ·simp (maxSteps:=2000000) only [go_sem,yqa,yqb,yqc,yqd,yqe,yqf]
  repeat' first|exact rfl|exact trivial|assumption|decide|refine And.intro ?_ ?_
 intro k hk
 repeat' first|refine zie rfl ?_|refine zc4 rfl ?_|refine zc7 ?_|refine zc8 ?_|refine zc5 ?_|refine zc6 ?_|(simp (maxSteps:=2000000) only [go_sem,yqa,yqb,yqc,yqd,yqe,yqf];try rfl)|refine zc3 ?_|(refine And.intro ?_ ?_;focus (intros;simp_all only [yqg,yqh,yqi,and_self,true_and,and_true];done))
 refine zc9 rfl (fun hdk=>?_) (fun hdk=>?_)
 ·have hlt:=zjH hdk
  rcases Nat.eq_zero_or_pos k with h0|h0
  ·have hf:(0 < (k:Int))=False:=eq_false (by omega)
   repeat' first|refine zie rfl ?_|refine zc4 rfl ?_|refine zc7 ?_|refine zc8 ?_|refine zc5 ?_|refine zc6 ?_|(simp (maxSteps:=2000000) only [go_sem,yqa,yqb,yqc,yqd,yqe,yqf,zx9 ha hlt,ha.some hlt,hlt,yqj];try rfl)|refine zc3 ?_|(refine And.intro ?_ ?_;focus (intros;simp_all only [yqg,yqh,yqi,and_self,true_and,and_true];done))
   refine zte rfl ?_
   refine zs7 [0,1] rfl (by kernel_rfl) ?_
   simp (maxSteps:=2000000) only [go_sem,yqa,yqb,yqc,yqd,yqe,yqf,hf,decide_false,Bool.and_false,Bool.false_and,Bool.or_false,Bool.false_eq_true,false_implies,implies_true,true_and,and_true,reduceCtorEq]
   refine ztc 2 0 [] rfl (by kernel_rfl) (by kernel_rfl) (by kernel_rfl) rfl ?_
   simp (maxSteps:=2000000) only [go_sem,yqa,yqb,yqc,yqd,yqe,yqf,hf,decide_false,Bool.and_false,Bool.false_and,Bool.or_false,Bool.false_eq_true,false_implies,implies_true,true_and,and_true,reduceCtorEq]
   refine zhF (fun _=>zrc _ _ _ _) ?_
   simp (maxSteps:=2000000) only [go_sem,yqa,yqb,yqc,yqd,yqe,yqf,hf,decide_false,Bool.and_false,Bool.false_and,Bool.or_false,Bool.false_eq_true,false_implies,implies_true,true_and,and_true,reduceCtorEq]
   refine zs7 [3,4,5,7,6,8] rfl (by kernel_rfl) ?_
   simp (maxSteps:=2000000) only [go_sem,yqa,yqb,yqc,yqd,yqe,yqf,hf,decide_false,Bool.and_false,Bool.false_and,Bool.or_false,Bool.false_eq_true,false_implies,implies_true,true_and,and_true,reduceCtorEq]
   refine ztc 9 0 [] rfl (by kernel_rfl) (by kernel_rfl) (by kernel_rfl) rfl ?_
   simp (maxSteps:=2000000) only [go_sem,yqa,yqb,yqc,yqd,yqe,yqf,hf,decide_false,Bool.and_false,Bool.false_and,Bool.or_false,Bool.false_eq_true,false_implies,implies_true,true_and,and_true,reduceCtorEq]
   refine zhF (fun _=>zrc _ _ _ _) ?_
   simp (maxSteps:=2000000) only [go_sem,yqa,yqb,yqc,yqd,yqe,yqf,hf,decide_false,Bool.and_false,Bool.false_and,Bool.or_false,Bool.false_eq_true,false_implies,implies_true,true_and,and_true,reduceCtorEq]
   refine zs7 [10,11,12,13,14,15,16,18,19,17,20,21,22,23,24,25,26,27] rfl (by kernel_rfl) ?_
   simp (maxSteps:=2000000) only [go_sem,yqa,yqb,yqc,yqd,yqe,yqf,hf,decide_false,Bool.and_false,Bool.false_and,Bool.or_false,Bool.false_eq_true,false_implies,implies_true,true_and,and_true,reduceCtorEq]
   refine ztd (by kernel_rfl) ?_
   repeat' first|refine zie rfl ?_|refine zc4 rfl ?_|refine zc7 ?_|refine zc8 ?_|refine zc5 ?_|refine zc6 ?_|(simp (maxSteps:=2000000) only [go_sem,yqa,yqb,yqc,yqd,yqe,yqf];try rfl)|refine zc3 ?_|(refine And.intro ?_ ?_;focus (intros;simp_all only [yqg,yqh,yqi,and_self,true_and,and_true];done))
   refine zc9 rfl (fun hq=>?_) (fun hq=>?_)
   ·repeat' first|refine zie rfl ?_|refine zc4 rfl ?_|refine zc7 ?_|refine zc8 ?_|refine zc5 ?_|refine zc6 ?_|(simp (maxSteps:=2000000) only [go_sem,yqa,yqb,yqc,yqd,yqe,yqf];try rfl)|refine zc3 ?_|(refine And.intro ?_ ?_;focus (intros;simp_all only [yqg,yqh,yqi,and_self,true_and,and_true];done))
    rw [zrE hlt (decide_eq_false (by rw [wget hlt];intro e;simp only [yqh,Bool.not_eq_true',Bool.and_eq_false_iff,decide_eq_true_eq,decide_eq_false_iff_not] at hq;omega))]
   ·repeat' first|refine zie rfl ?_|refine zc4 rfl ?_|refine zc7 ?_|refine zc8 ?_|refine zc5 ?_|refine zc6 ?_|(simp (maxSteps:=2000000) only [go_sem,yqa,yqb,yqc,yqd,yqe,yqf];try rfl)|refine zc3 ?_|(refine And.intro ?_ ?_;focus (intros;simp_all only [yqg,yqh,yqi,and_self,true_and,and_true];done))
    refine ⟨k+1,⟨hlt,zrF hk.2 (decide_eq_true (by rw [wget hlt];simp only [yqg,Bool.not_eq_false',yqi,decide_eq_true_eq,decide_eq_false_iff_not] at hq;exact ⟨by omega,fun e=>by omega⟩))⟩,by omega,zjB (zjA hlt (by omega))⟩
  ·have hp:k - 1 < a.l.length:=by omega
   have hw:IntKind.i64.wrap ((k:Int) - 1)=((k - 1:Nat):Int):=by rw [zjz (by omega)];omega
   have hf:(0 < (k:Int))=True:=eq_true (by omega)
   repeat' first|refine zie rfl ?_|refine zc4 rfl ?_|refine zc7 ?_|refine zc8 ?_|refine zc5 ?_|refine zc6 ?_|(simp (maxSteps:=2000000) only [go_sem,yqa,yqb,yqc,yqd,yqe,yqf,zx9 ha hlt,ha.some hlt,hlt,yqj];try rfl)|refine zc3 ?_|(refine And.intro ?_ ?_;focus (intros;simp_all only [yqg,yqh,yqi,and_self,true_and,and_true];done))
   refine zte rfl ?_
   refine zs7 [0,1] rfl (by kernel_rfl) ?_
   simp (maxSteps:=2000000) only [go_sem,yqa,yqb,yqc,yqd,yqe,yqf,hf,decide_true,and_true,imp_self,true_implies,Bool.and_true,Bool.true_and,hw,zx9 ha hp,zyC ha hp,ha.some hp,hp,yqj]
   refine ztc 2 0 [] rfl (by kernel_rfl) (by kernel_rfl) (by kernel_rfl) rfl ?_
   simp (maxSteps:=2000000) only [go_sem,yqa,yqb,yqc,yqd,yqe,yqf,hf,decide_true,and_true,imp_self,true_implies,Bool.and_true,Bool.true_and,hw,zx9 ha hp,zyC ha hp,ha.some hp,hp,yqj]
   refine zhF (fun _=>zrc _ _ _ _) ?_
   simp (maxSteps:=2000000) only [go_sem,yqa,yqb,yqc,yqd,yqe,yqf,hf,decide_true,and_true,imp_self,true_implies,Bool.and_true,Bool.true_and,hw,zx9 ha hp,zyC ha hp,ha.some hp,hp,yqj]
   refine zs7 [3,4,5,7,6,8] rfl (by kernel_rfl) ?_
   simp (maxSteps:=2000000) only [go_sem,yqa,yqb,yqc,yqd,yqe,yqf,hf,decide_true,and_true,imp_self,true_implies,Bool.and_true,Bool.true_and,hw,zx9 ha hp,zyC ha hp,ha.some hp,hp,yqj]
   refine ztc 9 0 [] rfl (by kernel_rfl) (by kernel_rfl) (by kernel_rfl) rfl ?_
   simp (maxSteps:=2000000) only [go_sem,yqa,yqb,yqc,yqd,yqe,yqf,hf,decide_true,and_true,imp_self,true_implies,Bool.and_true,Bool.true_and,hw,zx9 ha hp,zyC ha hp,ha.some hp,hp,yqj]
   refine zhF (fun _=>zrc _ _ _ _) ?_
   simp (maxSteps:=2000000) only [go_sem,yqa,yqb,yqc,yqd,yqe,yqf,hf,decide_true,and_true,imp_self,true_implies,Bool.and_true,Bool.true_and,hw,zx9 ha hp,zyC ha hp,ha.some hp,hp,yqj]
   refine zs7 [10,11,12,13,14,15,16,18,19,17,20,21,22,23,24,25,26,27] rfl (by kernel_rfl) ?_
   simp (maxSteps:=2000000) only [go_sem,yqa,yqb,yqc,yqd,yqe,yqf,hf,decide_true,and_true,imp_self,true_implies,Bool.and_true,Bool.true_and,hw,zx9 ha hp,zyC ha hp,ha.some hp,hp,yqj]
   refine ztd (by kernel_rfl) ?_
   repeat' first|refine zie rfl ?_|refine zc4 rfl ?_|refine zc7 ?_|refine zc8 ?_|refine zc5 ?_|refine zc6 ?_|(simp (maxSteps:=2000000) only [go_sem,yqa,yqb,yqc,yqd,yqe,yqf];try rfl)|refine zc3 ?_|(refine And.intro ?_ ?_;focus (intros;simp_all only [yqg,yqh,yqi,and_self,true_and,and_true];done))
   refine zc9 rfl (fun hq=>?_) (fun hq=>?_)
   ·repeat' first|refine zie rfl ?_|refine zc4 rfl ?_|refine zc7 ?_|refine zc8 ?_|refine zc5 ?_|refine zc6 ?_|(simp (maxSteps:=2000000) only [go_sem,yqa,yqb,yqc,yqd,yqe,yqf];try rfl)|refine zc3 ?_|(refine And.intro ?_ ?_;focus (intros;simp_all only [yqg,yqh,yqi,and_self,true_and,and_true];done))
    rw [zrE hlt (decide_eq_false (by rw [wget hlt,wget hp];intro e;have e2:=e.2 h0;simp only [yqh,Bool.not_eq_true',Bool.and_eq_false_iff,decide_eq_true_eq,decide_eq_false_iff_not] at hq;omega))]
   ·repeat' first|refine zie rfl ?_|refine zc4 rfl ?_|refine zc7 ?_|refine zc8 ?_|refine zc5 ?_|refine zc6 ?_|(simp (maxSteps:=2000000) only [go_sem,yqa,yqb,yqc,yqd,yqe,yqf];try rfl)|refine zc3 ?_|(refine And.intro ?_ ?_;focus (intros;simp_all only [yqg,yqh,yqi,and_self,true_and,and_true];done))
    refine ⟨k+1,⟨hlt,zrF hk.2 (decide_eq_true (by rw [wget hlt,wget hp];simp only [yqg,Bool.not_eq_false',yqi,decide_eq_true_eq,decide_eq_false_iff_not] at hq;exact ⟨by omega,fun e=>by omega⟩))⟩,by omega,zjB (zjA hlt (by omega))⟩
 ·have hge:=zjI hdk
  repeat' first|refine zie rfl ?_|refine zc4 rfl ?_|refine zc7 ?_|refine zc8 ?_|refine zc5 ?_|refine zc6 ?_|(simp (maxSteps:=2000000) only [go_sem,yqa,yqb,yqc,yqd,yqe,yqf];try rfl)|refine zc3 ?_|(refine And.intro ?_ ?_;focus (intros;simp_all only [yqg,yqh,yqi,and_self,true_and,and_true];done))
  rw [zrG hge hk.2]
theorem zII (a:Sl DWindow) (h:Hp) (ha:a.Ok h):Ct Tryz.prog 251 [a.val] h fun v h'=>v=.bool (zID a.l)∧h'=h:=by
 have hl:=ha.max
 rw [zID]
 refine zdn (fun A W=>by simp) Tryz.func251 rfl rfl (by simp) fun W0=>?_
 repeat' first|refine zie rfl ?_|refine zc4 rfl ?_|refine zc7 ?_|refine zc8 ?_|refine zc5 ?_|refine zc6 ?_|(simp (maxSteps:=2000000) only [go_sem,yqa,yqb,yqc,yqd,yqe,yqf];try rfl)|refine zc3 ?_|(refine And.intro ?_ ?_;focus (intros;simp_all only [yqg,yqh,yqi,and_self,true_and,and_true];done))
 refine zde (ι:=Nat) (fun k=>⟨[(0,true,.c (.v a.val)),(5,true,.c (.v a.val)),(6,true,.c (.v (.int .i64 a.l.length))),(7,true,.c (.v (.int .i64 k)))],[],h,0⟩) (fun k=>k≤a.l.length∧∀ i,i < k→zIC a.l i=true) (fun k=>a.l.length - k) 0 ⟨Nat.zero_le _,zrH⟩ ?_ ?_
 ·simp (maxSteps:=2000000) only [go_sem,yqa,yqb,yqc,yqd,yqe,yqf]
  repeat' first|exact rfl|exact trivial|assumption|decide|refine And.intro ?_ ?_
 intro k hk
 repeat' first|refine zie rfl ?_|refine zc4 rfl ?_|refine zc7 ?_|refine zc8 ?_|refine zc5 ?_|refine zc6 ?_|(simp (maxSteps:=2000000) only [go_sem,yqa,yqb,yqc,yqd,yqe,yqf];try rfl)|refine zc3 ?_|(refine And.intro ?_ ?_;focus (intros;simp_all only [yqg,yqh,yqi,and_self,true_and,and_true];done))
 refine zc9 rfl (fun hdk=>?_) (fun hdk=>?_)
 ·have hlt:=zjH hdk
  rcases Nat.eq_zero_or_pos k with h0|h0
  ·have hf:(0 < (k:Int))=False:=eq_false (by omega)
   repeat' first|refine zie rfl ?_|refine zc4 rfl ?_|refine zc7 ?_|refine zc8 ?_|refine zc5 ?_|refine zc6 ?_|(simp (maxSteps:=2000000) only [go_sem,yqa,yqb,yqc,yqd,yqe,yqf,zx9 ha hlt,ha.some hlt,hlt,yqj];try rfl)|refine zc3 ?_|(refine And.intro ?_ ?_;focus (intros;simp_all only [yqg,yqh,yqi,and_self,true_and,and_true];done))
   refine zte rfl ?_
   refine zs7 [0,1,2,3,4,6,5,7,8,9,10,11,12,13,14,15,16,17,18,19,20,26,21,27,22,23,24,25,28,29,30] rfl (by kernel_rfl) ?_
   simp (maxSteps:=2000000) only [go_sem,yqa,yqb,yqc,yqd,yqe,yqf,hf,decide_false,Bool.and_false,Bool.false_and,Bool.or_false,Bool.false_eq_true,false_implies,implies_true,true_and,and_true,reduceCtorEq]
   refine ztd (by kernel_rfl) ?_
   repeat' first|refine zie rfl ?_|refine zc4 rfl ?_|refine zc7 ?_|refine zc8 ?_|refine zc5 ?_|refine zc6 ?_|(simp (maxSteps:=2000000) only [go_sem,yqa,yqb,yqc,yqd,yqe,yqf];try rfl)|refine zc3 ?_|(refine And.intro ?_ ?_;focus (intros;simp_all only [yqg,yqh,yqi,and_self,true_and,and_true];done))
   refine zc9 rfl (fun hq=>?_) (fun hq=>?_)
   ·repeat' first|refine zie rfl ?_|refine zc4 rfl ?_|refine zc7 ?_|refine zc8 ?_|refine zc5 ?_|refine zc6 ?_|(simp (maxSteps:=2000000) only [go_sem,yqa,yqb,yqc,yqd,yqe,yqf];try rfl)|refine zc3 ?_|(refine And.intro ?_ ?_;focus (intros;simp_all only [yqg,yqh,yqi,and_self,true_and,and_true];done))
    rw [zrE hlt (decide_eq_false (by rw [wget hlt];intro e;simp only [yqh,Bool.not_eq_true',Bool.and_eq_false_iff,decide_eq_true_eq,decide_eq_false_iff_not] at hq;omega))]
   ·repeat' first|refine zie rfl ?_|refine zc4 rfl ?_|refine zc7 ?_|refine zc8 ?_|refine zc5 ?_|refine zc6 ?_|(simp (maxSteps:=2000000) only [go_sem,yqa,yqb,yqc,yqd,yqe,yqf];try rfl)|refine zc3 ?_|(refine And.intro ?_ ?_;focus (intros;simp_all only [yqg,yqh,yqi,and_self,true_and,and_true];done))
    refine ⟨k+1,⟨hlt,zrF hk.2 (decide_eq_true (by rw [wget hlt];simp only [yqg,Bool.not_eq_false',yqi,decide_eq_true_eq,decide_eq_false_iff_not] at hq;exact ⟨by omega,fun e=>by omega⟩))⟩,by omega,zjB (zjA hlt (by omega))⟩
  ·have hp:k - 1 < a.l.length:=by omega
   have hw:IntKind.i64.wrap ((k:Int) - 1)=((k - 1:Nat):Int):=by rw [zjz (by omega)];omega
   have hf:(0 < (k:Int))=True:=eq_true (by omega)
   repeat' first|refine zie rfl ?_|refine zc4 rfl ?_|refine zc7 ?_|refine zc8 ?_|refine zc5 ?_|refine zc6 ?_|(simp (maxSteps:=2000000) only [go_sem,yqa,yqb,yqc,yqd,yqe,yqf,zx9 ha hlt,ha.some hlt,hlt,yqj];try rfl)|refine zc3 ?_|(refine And.intro ?_ ?_;focus (intros;simp_all only [yqg,yqh,yqi,and_self,true_and,and_true];done))
   refine zte rfl ?_
   refine zs7 [0,1,2,3,4,6,5,7,8,9,10,11,12,13,14,15,16,17,18,19,20,26,21,27,22,23,24,25,28,29,30] rfl (by kernel_rfl) ?_
   simp (maxSteps:=2000000) only [go_sem,yqa,yqb,yqc,yqd,yqe,yqf,hf,decide_true,and_true,imp_self,true_implies,Bool.and_true,Bool.true_and,hw,zx9 ha hp,zyC ha hp,ha.some hp,hp,yqj]
   refine ztd (by kernel_rfl) ?_
   repeat' first|refine zie rfl ?_|refine zc4 rfl ?_|refine zc7 ?_|refine zc8 ?_|refine zc5 ?_|refine zc6 ?_|(simp (maxSteps:=2000000) only [go_sem,yqa,yqb,yqc,yqd,yqe,yqf];try rfl)|refine zc3 ?_|(refine And.intro ?_ ?_;focus (intros;simp_all only [yqg,yqh,yqi,and_self,true_and,and_true];done))
   refine zc9 rfl (fun hq=>?_) (fun hq=>?_)
   ·repeat' first|refine zie rfl ?_|refine zc4 rfl ?_|refine zc7 ?_|refine zc8 ?_|refine zc5 ?_|refine zc6 ?_|(simp (maxSteps:=2000000) only [go_sem,yqa,yqb,yqc,yqd,yqe,yqf];try rfl)|refine zc3 ?_|(refine And.intro ?_ ?_;focus (intros;simp_all only [yqg,yqh,yqi,and_self,true_and,and_true];done))
    rw [zrE hlt (decide_eq_false (by rw [wget hlt,wget hp];intro e;have e2:=e.2 h0;simp only [yqh,Bool.not_eq_true',Bool.and_eq_false_iff,decide_eq_true_eq,decide_eq_false_iff_not] at hq;omega))]
   ·repeat' first|refine zie rfl ?_|refine zc4 rfl ?_|refine zc7 ?_|refine zc8 ?_|refine zc5 ?_|refine zc6 ?_|(simp (maxSteps:=2000000) only [go_sem,yqa,yqb,yqc,yqd,yqe,yqf];try rfl)|refine zc3 ?_|(refine And.intro ?_ ?_;focus (intros;simp_all only [yqg,yqh,yqi,and_self,true_and,and_true];done))
    refine ⟨k+1,⟨hlt,zrF hk.2 (decide_eq_true (by rw [wget hlt,wget hp];simp only [yqg,Bool.not_eq_false',yqi,decide_eq_true_eq,decide_eq_false_iff_not] at hq;exact ⟨by omega,fun e=>by omega⟩))⟩,by omega,zjB (zjA hlt (by omega))⟩
 ·have hge:=zjI hdk
  repeat' first|refine zie rfl ?_|refine zc4 rfl ?_|refine zc7 ?_|refine zc8 ?_|refine zc5 ?_|refine zc6 ?_|(simp (maxSteps:=2000000) only [go_sem,yqa,yqb,yqc,yqd,yqe,yqf];try rfl)|refine zc3 ?_|(refine And.intro ?_ ?_;focus (intros;simp_all only [yqg,yqh,yqi,and_self,true_and,and_true];done))
  rw [zrG hge hk.2]
theorem zIJ {α:Type} {p:α→Bool} {l:List α} {k:Nat} (hk:k < l.length) (h:p l[k]=true):l.any p=true:=List.any_eq_true.2 ⟨l[k],List.getElem_mem hk,h⟩
theorem zIK {α:Type} {p:α→Bool} {l:List α} (h:∀ i (hi:i < l.length),p l[i]=false):l.any p=false:=by
 rw [List.any_eq_false]
 intro x hx
 obtain ⟨i,hi,rfl⟩:=List.getElem_of_mem hx
 rw [h i hi];exact Bool.false_ne_true
theorem zIL {α:Type} {p:α→Bool} {l:List α} {k:Nat} (hk:k < l.length) (h:∀ i (hi:i < l.length),i < k→p l[i]=false) (hq:p l[k]=false):∀ i (hi:i < l.length),i < k+1→p l[i]=false:=fun i hi hik=>by
 rcases Nat.lt_succ_iff_lt_or_eq.1 hik with h1|rfl
 ·exact h i hi h1
 ·exact hq
theorem zIM {α:Type} {p:α→Bool} {l:List α} {k:Nat} (hk:k < l.length) (h:∀ i (hi:i < l.length),i < k→p l[i]=false) (hq:p l[k]=true):l.find? p=some l[k]:=by
 rw [List.find?_eq_some_iff_getElem]
 exact ⟨hq,k,hk,rfl,fun j hj=>by rw [h j (by omega) hj];rfl⟩
theorem zIN {α:Type} {p:α→Bool} {l:List α} (h:∀ i (hi:i < l.length),p l[i]=false):l.find? p=none:=by
 rw [List.find?_eq_none]
 intro x hx
 obtain ⟨i,hi,rfl⟩:=List.getElem_of_mem hx
 rw [h i hi];exact Bool.false_ne_true
theorem zIO (a:Sl DWindow) (m:Int) (h:Hp) (ha:a.Ok h):Ct Tryz.prog 169 [a.val,.int .i64 m] h fun v h'=>v=.bool (zIE a.l m)∧h'=h:=by
 have hl:=ha.max
 refine zdn (fun A W=>by simp) Tryz.func169 rfl rfl (by simp) fun W0=>?_
 repeat' first|refine zie rfl ?_|refine zc4 rfl ?_|refine zc7 ?_|refine zc8 ?_|refine zc5 ?_|refine zc6 ?_|(simp (maxSteps:=2000000) only [go_sem,yqa,yqb,yqc,yqd,yqe,yqf];try rfl)|refine zc3 ?_|(refine And.intro ?_ ?_;focus (intros;simp_all only [yqg,yqh,yqi,and_self,true_and,and_true];done))
 refine zde (ι:=Nat) (fun k=>⟨[(1,true,.c (.v (.int .i64 m))),(7,true,.c (.v a.val)),(8,true,.c (.v (.int .i64 a.l.length))),(9,true,.c (.v (.int .i64 k)))],[],h,0⟩) (fun k=>k≤a.l.length∧∀ i (hi:i < a.l.length),i < k→(fun w:DWindow=>In m w.src w.dst) a.l[i]=false) (fun k=>a.l.length - k) 0 ⟨Nat.zero_le _,fun i _ h=>absurd h (Nat.not_lt_zero _)⟩ ?_ ?_
 ·simp (maxSteps:=2000000) only [go_sem,yqa,yqb,yqc,yqd,yqe,yqf]
  repeat' first|exact rfl|exact trivial|assumption|decide|refine And.intro ?_ ?_
 intro k hk
 repeat' first|refine zie rfl ?_|refine zc4 rfl ?_|refine zc7 ?_|refine zc8 ?_|refine zc5 ?_|refine zc6 ?_|(simp (maxSteps:=2000000) only [go_sem,yqa,yqb,yqc,yqd,yqe,yqf];try rfl)|refine zc3 ?_|(refine And.intro ?_ ?_;focus (intros;simp_all only [yqg,yqh,yqi,and_self,true_and,and_true];done))
 refine zc9 rfl (fun hdk=>?_) (fun hdk=>?_)
 ·have hlt:=zjH hdk
  repeat' first|refine zie rfl ?_|refine zc4 rfl ?_|refine zc7 ?_|refine zc8 ?_|refine zc5 ?_|refine zc6 ?_|refine zhF (fun _=>zrc _ _ _ _) ?_|(simp (maxSteps:=2000000) only [go_sem,yqa,yqb,yqc,yqd,yqe,yqf,zx9 ha hlt,ha.some hlt,hlt,yqj];try rfl)|refine zc3 ?_|(refine And.intro ?_ ?_;focus (intros;simp_all only [yqg,yqh,yqi,and_self,true_and,and_true];done))
  refine zc9 rfl (fun hq=>?_) (fun hq=>?_)
  ·repeat' first|refine zie rfl ?_|refine zc4 rfl ?_|refine zc7 ?_|refine zc8 ?_|refine zc5 ?_|refine zc6 ?_|(simp (maxSteps:=2000000) only [go_sem,yqa,yqb,yqc,yqd,yqe,yqf];try rfl)|refine zc3 ?_|(refine And.intro ?_ ?_;focus (intros;simp_all only [yqg,yqh,yqi,and_self,true_and,and_true];done))
   rw [zIE,zIJ hlt hq]
  ·repeat' first|refine zie rfl ?_|refine zc4 rfl ?_|refine zc7 ?_|refine zc8 ?_|refine zc5 ?_|refine zc6 ?_|(simp (maxSteps:=2000000) only [go_sem,yqa,yqb,yqc,yqd,yqe,yqf];try rfl)|refine zc3 ?_|(refine And.intro ?_ ?_;focus (intros;simp_all only [yqg,yqh,yqi,and_self,true_and,and_true];done))
   refine ⟨k+1,⟨hlt,zIL (p:=fun w:DWindow=>In m w.src w.dst) hlt hk.2 hq⟩,by omega,zjB (zjA hlt (by omega))⟩
 ·have hge:=zjI hdk
  repeat' first|refine zie rfl ?_|refine zc4 rfl ?_|refine zc7 ?_|refine zc8 ?_|refine zc5 ?_|refine zc6 ?_|(simp (maxSteps:=2000000) only [go_sem,yqa,yqb,yqc,yqd,yqe,yqf];try rfl)|refine zc3 ?_|(refine And.intro ?_ ?_;focus (intros;simp_all only [yqg,yqh,yqi,and_self,true_and,and_true];done))
  rw [zIE,zIK (fun i hi=>hk.2 i hi (by omega))]
theorem zIP (a:Sl DWindow) (m:Int) (h:Hp) (ha:a.Ok h):Ct Tryz.prog 170 [a.val,.int .i64 m] h fun v h'=>v=.int .i64 (zIF a.l m)∧h'=h:=by
 have hl:=ha.max
 rw [zIF]
 refine zdn (fun A W=>by simp) Tryz.func170 rfl rfl (by simp) fun W0=>?_
 repeat' first|refine zie rfl ?_|refine zc4 rfl ?_|refine zc7 ?_|refine zc8 ?_|refine zc5 ?_|refine zc6 ?_|refine zhF (fun _=>zIH _ _ ha) ?_|(simp (maxSteps:=2000000) only [go_sem,yqa,yqb,yqc,yqd,yqe,yqf];try rfl)|refine zc3 ?_|(refine And.intro ?_ ?_;focus (intros;simp_all only [yqg,yqh,yqi,and_self,true_and,and_true];done))
 refine zc9 rfl (fun hc=>?_) (fun hc=>?_)
 ·rw [Bool.not_eq_true'] at hc
  repeat' first|refine zie rfl ?_|refine zc4 rfl ?_|refine zc7 ?_|refine zc8 ?_|refine zc5 ?_|refine zc6 ?_|(simp (maxSteps:=2000000) only [go_sem,yqa,yqb,yqc,yqd,yqe,yqf];try rfl)|refine zc3 ?_|(refine And.intro ?_ ?_;focus (intros;simp_all only [yqg,yqh,yqi,and_self,true_and,and_true];done))
  rw [hc];rfl
 rw [Bool.not_eq_false'] at hc
 rw [if_pos hc]
 repeat' first|refine zie rfl ?_|refine zc4 rfl ?_|refine zc7 ?_|refine zc8 ?_|refine zc5 ?_|refine zc6 ?_|(simp (maxSteps:=2000000) only [go_sem,yqa,yqb,yqc,yqd,yqe,yqf];try rfl)|refine zc3 ?_|(refine And.intro ?_ ?_;focus (intros;simp_all only [yqg,yqh,yqi,and_self,true_and,and_true];done))
 refine zde (ι:=Nat) (fun k=>⟨[(1,true,.c (.v (.int .i64 m))),(10,true,.c (.v a.val)),(11,true,.c (.v (.int .i64 a.l.length))),(12,true,.c (.v (.int .i64 k)))],[],h,0⟩) (fun k=>k≤a.l.length∧∀ i (hi:i < a.l.length),i < k→(fun w:DWindow=>decide (m≤w.dst)) a.l[i]=false) (fun k=>a.l.length - k) 0 ⟨Nat.zero_le _,fun i _ h=>absurd h (Nat.not_lt_zero _)⟩ ?_ ?_
 ·simp (maxSteps:=2000000) only [go_sem,yqa,yqb,yqc,yqd,yqe,yqf]
  repeat' first|exact rfl|exact trivial|assumption|decide|refine And.intro ?_ ?_
 intro k hk
 repeat' first|refine zie rfl ?_|refine zc4 rfl ?_|refine zc7 ?_|refine zc8 ?_|refine zc5 ?_|refine zc6 ?_|(simp (maxSteps:=2000000) only [go_sem,yqa,yqb,yqc,yqd,yqe,yqf];try rfl)|refine zc3 ?_|(refine And.intro ?_ ?_;focus (intros;simp_all only [yqg,yqh,yqi,and_self,true_and,and_true];done))
 refine zc9 rfl (fun hdk=>?_) (fun hdk=>?_)
 ·have hlt:=zjH hdk
  repeat' first|refine zie rfl ?_|refine zc4 rfl ?_|refine zc7 ?_|refine zc8 ?_|refine zc5 ?_|refine zc6 ?_|(simp (maxSteps:=2000000) only [go_sem,yqa,yqb,yqc,yqd,yqe,yqf,zx9 ha hlt,ha.some hlt,hlt,yqj];try rfl)|refine zc3 ?_|(refine And.intro ?_ ?_;focus (intros;simp_all only [yqg,yqh,yqi,and_self,true_and,and_true];done))
  refine zc9 rfl (fun hq=>?_) (fun hq=>?_)
  ·repeat' first|refine zie rfl ?_|refine zc4 rfl ?_|refine zc7 ?_|refine zc8 ?_|refine zc5 ?_|refine zc6 ?_|(simp (maxSteps:=2000000) only [go_sem,yqa,yqb,yqc,yqd,yqe,yqf];try rfl)|refine zc3 ?_|(refine And.intro ?_ ?_;focus (intros;simp_all only [yqg,yqh,yqi,and_self,true_and,and_true];done))
   rw [zIM hlt hk.2 hq]
  ·repeat' first|refine zie rfl ?_|refine zc4 rfl ?_|refine zc7 ?_|refine zc8 ?_|refine zc5 ?_|refine zc6 ?_|(simp (maxSteps:=2000000) only [go_sem,yqa,yqb,yqc,yqd,yqe,yqf];try rfl)|refine zc3 ?_|(refine And.intro ?_ ?_;focus (intros;simp_all only [yqg,yqh,yqi,and_self,true_and,and_true];done))
   refine ⟨k+1,⟨hlt,zIL (p:=fun w:DWindow=>decide (m≤w.dst)) hlt hk.2 hq⟩,by omega,zjB (zjA hlt (by omega))⟩
 ·have hge:=zjI hdk
  repeat' first|refine zie rfl ?_|refine zc4 rfl ?_|refine zc7 ?_|refine zc8 ?_|refine zc5 ?_|refine zc6 ?_|(simp (maxSteps:=2000000) only [go_sem,yqa,yqb,yqc,yqd,yqe,yqf];try rfl)|refine zc3 ?_|(refine And.intro ?_ ?_;focus (intros;simp_all only [yqg,yqh,yqi,and_self,true_and,and_true];done))
  rw [zIN (fun i hi=>hk.2 i hi (by omega))]
theorem zIQ (a:Sl DWindow) (n:Int) (h:Hp) (ha:a.Ok h) (hz:a.l.length≤1048576):Ct Tryz.prog 253 [a.val,.int .i64 n] h fun v h'=>∃ s:Sl DWindow,v=s.val∧s.l=zIG a.l n∧s.Ok h'∧Mine h h' s:=by
 rw [zIG]
 refine zdn (fun A W=>by simp) Tryz.func253 rfl rfl (by simp) fun W0=>?_
 repeat' first|refine zie rfl ?_|refine zc4 rfl ?_|refine zc7 ?_|refine zc8 ?_|refine zc5 ?_|refine zc6 ?_|refine zhF (fun _=>zIH _ _ ha) ?_|refine zhF (fun _=>zrc _ _ _ _) ?_|(simp (maxSteps:=2000000) only [go_sem,yqa,yqb,yqc,yqd,yqe,yqf];try rfl)|refine zc3 ?_|(refine And.intro ?_ ?_;focus (intros;simp_all only [yqg,yqh,yqi,and_self,true_and,and_true];done))
 refine zc9 rfl (fun hc=>?_) (fun hc=>?_)
 ·repeat' first|refine zie rfl ?_|refine zc4 rfl ?_|refine zc7 ?_|refine zc8 ?_|refine zc5 ?_|refine zc6 ?_|(simp (maxSteps:=2000000) only [go_sem,yqa,yqb,yqc,yqd,yqe,yqf];try rfl)|refine zc3 ?_|(refine And.intro ?_ ?_;focus (intros;simp_all only [yqg,yqh,yqi,and_self,true_and,and_true];done))
  rw [if_neg (by intro e;rw [e.1,decide_eq_true e.2.1,decide_eq_true e.2.2] at hc;cases hc)]
  exact ⟨⟨none,0,[]⟩,rfl,rfl,zmy,Mine.nil⟩
 simp only [yqg,Bool.not_eq_false',yqi,decide_eq_true_eq] at hc
 rw [if_pos ⟨hc.1,hc.2.1,hc.2.2⟩]
 repeat' first|refine zie rfl ?_|refine zc4 rfl ?_|refine zc7 ?_|refine zc8 ?_|refine zc5 ?_|refine zc6 ?_|(simp (maxSteps:=2000000) only [go_sem,yqa,yqb,yqc,yqd,yqe,yqf];try rfl)|refine zc3 ?_|(refine And.intro ?_ ?_;focus (intros;simp_all only [yqg,yqh,yqi,and_self,true_and,and_true];done))
 refine zma (ι:=Nat) (fun k=>⟨[(1,true,.c (.v (.int .i64 n))),(5,true,.c (.s 0)),(17,true,.c (.v a.val)),(18,true,.c (.v (.int .i64 a.l.length))),(19,true,.c (.v (.int .i64 k)))],[(0,.row 279 2 ((((a.l.take k).filter (shr n)).map (shw n))).length (((((a.l.take k).filter (shr n)).map (shw n))).flatMap Enc.enc))],h,1⟩) (fun k=>k≤a.l.length) (fun k=>a.l.length - k) 0 (Nat.zero_le _) [0] ?_ ?_
 ·simp (maxSteps:=2000000) only [go_sem,yqa,yqb,yqc,yqd,yqe,yqf]
  repeat' first|exact rfl|exact trivial|assumption|decide|refine And.intro ?_ ?_
 intro k hk
 repeat' first|refine zie rfl ?_|refine zc4 rfl ?_|refine zc7 ?_|refine zc8 ?_|refine zc5 ?_|refine zc6 ?_|(simp (maxSteps:=2000000) only [go_sem,yqa,yqb,yqc,yqd,yqe,yqf];try rfl)|refine zc3 ?_|(refine And.intro ?_ ?_;focus (intros;simp_all only [yqg,yqh,yqi,and_self,true_and,and_true];done))
 refine zc9 rfl (fun hdk=>?_) (fun hdk=>?_)
 ·have hlt:=zjH hdk
  have hlf:(((a.l.take k).filter (shr n)).map (shw n)).length≤k:=by rw [List.length_map];exact Nat.le_trans (List.length_filter_le _ _) (by rw [List.length_take];omega)
  repeat' first|refine zie rfl ?_|refine zc4 rfl ?_|refine zc7 ?_|refine zc8 ?_|refine zc5 ?_|refine zc6 ?_|(simp (maxSteps:=2000000) only [go_sem,yqa,yqb,yqc,yqd,yqe,yqf,zx9 ha hlt,ha.some hlt,hlt,yqj];try rfl)|refine zc3 ?_|(refine And.intro ?_ ?_;focus (intros;simp_all only [yqg,yqh,yqi,and_self,true_and,and_true];done))
  refine zc9 rfl (fun hq=>?_) (fun hq=>?_)
  ·repeat' first|refine zie rfl ?_|refine zc4 rfl ?_|refine zc7 ?_|refine zc8 ?_|refine zc5 ?_|refine zc6 ?_|(simp (maxSteps:=2000000) only [go_sem,yqa,yqb,yqc,yqd,yqe,yqf];try rfl)|refine zc3 ?_|(refine And.intro ?_ ?_;focus (intros;simp_all only [yqg,yqh,yqi,and_self,true_and,and_true];done))
   refine ⟨by simp only [maxLen];omega,by omega,?_⟩
   repeat' first|refine zie rfl ?_|refine zc4 rfl ?_|refine zc7 ?_|refine zc8 ?_|refine zc5 ?_|refine zc6 ?_|(simp (maxSteps:=2000000) only [go_sem,yqa,yqb,yqc,yqd,yqe,yqf];try rfl)|refine zc3 ?_|(refine And.intro ?_ ?_;focus (intros;simp_all only [yqg,yqh,yqi,and_self,true_and,and_true];done))
   refine ⟨k+1,[3],hlt,by omega,?_⟩
   simp (maxSteps:=2000000) only [go_sem,yqa,yqb,yqc,yqd,yqe,yqf]
   rw [zyD hlt hq,List.map_append,List.length_append,List.flatMap_append]
   refine ⟨zjB (zjA hlt (by omega)),?_⟩
   repeat' first|exact rfl|exact trivial|assumption|decide|refine And.intro ?_ ?_
  ·repeat' first|refine zie rfl ?_|refine zc4 rfl ?_|refine zc7 ?_|refine zc8 ?_|refine zc5 ?_|refine zc6 ?_|(simp (maxSteps:=2000000) only [go_sem,yqa,yqb,yqc,yqd,yqe,yqf];try rfl)|refine zc3 ?_|(refine And.intro ?_ ?_;focus (intros;simp_all only [yqg,yqh,yqi,and_self,true_and,and_true];done))
   refine ⟨k+1,[0],hlt,by omega,?_⟩
   simp (maxSteps:=2000000) only [go_sem,yqa,yqb,yqc,yqd,yqe,yqf]
   rw [zyE hlt hq]
   refine ⟨zjB (zjA hlt (by omega)),?_⟩
   repeat' first|exact rfl|exact trivial|assumption|decide|refine And.intro ?_ ?_
 ·have hge:=zjI hdk
  refine zc6 ?_
  simp (maxSteps:=2000000) only [go_sem,yqa,yqb,yqc,yqd,yqe,yqf]
  rw [List.take_of_length_le hge]
  refine zlX 0 ((a.l.filter (shr n)).map (shw n)) rfl rfl rfl rfl (by decide) (fun x hx=>?_) h (Hp.le_refl _) (Mines.flat (fun _=>rfl) (fun _=>trivial)) fun s h' e1 e2 e3 e4=>?_
  ·obtain ⟨y,hy,rfl⟩:=List.mem_map.1 hx
   exact ⟨(ha.2.2.2.1 y (List.mem_filter.1 hy).1).1,i64w _⟩
  repeat' first|refine zie rfl ?_|refine zc4 rfl ?_|refine zc7 ?_|refine zc8 ?_|refine zc5 ?_|refine zc6 ?_|(simp (maxSteps:=2000000) only [go_sem,yqa,yqb,yqc,yqd,yqe,yqf];try rfl)|refine zc3 ?_|(refine And.intro ?_ ?_;focus (intros;simp_all only [yqg,yqh,yqi,and_self,true_and,and_true];done))
  exact ⟨s,rfl,e1,e2,e4⟩
theorem zIR (a:Sl DWindow) (m:Int) (h:Hp) (ha:a.Ok h):Ct Tryz.prog 217 [a.val,.int .i64 m] h fun v h'=>v=.bool (zIE a.l m)∧h'=h:=by
 have hl:=ha.max
 refine zdn (fun A W=>by simp) Tryz.func217 rfl rfl (by simp) fun W0=>?_
 repeat' first|refine zie rfl ?_|refine zc4 rfl ?_|refine zc7 ?_|refine zc8 ?_|refine zc5 ?_|refine zc6 ?_|(simp (maxSteps:=2000000) only [go_sem,yqa,yqb,yqc,yqd,yqe,yqf];try rfl)|refine zc3 ?_|(refine And.intro ?_ ?_;focus (intros;simp_all only [yqg,yqh,yqi,and_self,true_and,and_true];done))
 refine zde (ι:=Nat) (fun k=>⟨[(1,true,.c (.v (.int .i64 m))),(7,true,.c (.v a.val)),(8,true,.c (.v (.int .i64 a.l.length))),(9,true,.c (.v (.int .i64 k)))],[],h,0⟩) (fun k=>k≤a.l.length∧∀ i (hi:i < a.l.length),i < k→(fun w:DWindow=>In m w.src w.dst) a.l[i]=false) (fun k=>a.l.length - k) 0 ⟨Nat.zero_le _,fun i _ h=>absurd h (Nat.not_lt_zero _)⟩ ?_ ?_
 ·simp (maxSteps:=2000000) only [go_sem,yqa,yqb,yqc,yqd,yqe,yqf]
  repeat' first|exact rfl|exact trivial|assumption|decide|refine And.intro ?_ ?_
 intro k hk
 repeat' first|refine zie rfl ?_|refine zc4 rfl ?_|refine zc7 ?_|refine zc8 ?_|refine zc5 ?_|refine zc6 ?_|(simp (maxSteps:=2000000) only [go_sem,yqa,yqb,yqc,yqd,yqe,yqf];try rfl)|refine zc3 ?_|(refine And.intro ?_ ?_;focus (intros;simp_all only [yqg,yqh,yqi,and_self,true_and,and_true];done))
 refine zc9 rfl (fun hdk=>?_) (fun hdk=>?_)
 ·have hlt:=zjH hdk
  repeat' first|refine zie rfl ?_|refine zc4 rfl ?_|refine zc7 ?_|refine zc8 ?_|refine zc5 ?_|refine zc6 ?_|refine zhF (fun _=>zrd _ _ _ _) ?_|(simp (maxSteps:=2000000) only [go_sem,yqa,yqb,yqc,yqd,yqe,yqf,zx9 ha hlt,ha.some hlt,hlt,yqj];try rfl)|refine zc3 ?_|(refine And.intro ?_ ?_;focus (intros;simp_all only [yqg,yqh,yqi,and_self,true_and,and_true];done))
  refine zc9 rfl (fun hq=>?_) (fun hq=>?_)
  ·repeat' first|refine zie rfl ?_|refine zc4 rfl ?_|refine zc7 ?_|refine zc8 ?_|refine zc5 ?_|refine zc6 ?_|(simp (maxSteps:=2000000) only [go_sem,yqa,yqb,yqc,yqd,yqe,yqf];try rfl)|refine zc3 ?_|(refine And.intro ?_ ?_;focus (intros;simp_all only [yqg,yqh,yqi,and_self,true_and,and_true];done))
   rw [zIE,zIJ hlt hq]
  ·repeat' first|refine zie rfl ?_|refine zc4 rfl ?_|refine zc7 ?_|refine zc8 ?_|refine zc5 ?_|refine zc6 ?_|(simp (maxSteps:=2000000) only [go_sem,yqa,yqb,yqc,yqd,yqe,yqf];try rfl)|refine zc3 ?_|(refine And.intro ?_ ?_;focus (intros;simp_all only [yqg,yqh,yqi,and_self,true_and,and_true];done))
   refine ⟨k+1,⟨hlt,zIL (p:=fun w:DWindow=>In m w.src w.dst) hlt hk.2 hq⟩,by omega,zjB (zjA hlt (by omega))⟩
 ·have hge:=zjI hdk
  repeat' first|refine zie rfl ?_|refine zc4 rfl ?_|refine zc7 ?_|refine zc8 ?_|refine zc5 ?_|refine zc6 ?_|(simp (maxSteps:=2000000) only [go_sem,yqa,yqb,yqc,yqd,yqe,yqf];try rfl)|refine zc3 ?_|(refine And.intro ?_ ?_;focus (intros;simp_all only [yqg,yqh,yqi,and_self,true_and,and_true];done))
  rw [zIE,zIK (fun i hi=>hk.2 i hi (by omega))]
theorem zIS (a:Sl DWindow) (m:Int) (h:Hp) (ha:a.Ok h):Ct Tryz.prog 218 [a.val,.int .i64 m] h fun v h'=>v=.int .i64 (zIF a.l m)∧h'=h:=by
 have hl:=ha.max
 rw [zIF]
 refine zdn (fun A W=>by simp) Tryz.func218 rfl rfl (by simp) fun W0=>?_
 repeat' first|refine zie rfl ?_|refine zc4 rfl ?_|refine zc7 ?_|refine zc8 ?_|refine zc5 ?_|refine zc6 ?_|refine zhF (fun _=>zII _ _ ha) ?_|(simp (maxSteps:=2000000) only [go_sem,yqa,yqb,yqc,yqd,yqe,yqf];try rfl)|refine zc3 ?_|(refine And.intro ?_ ?_;focus (intros;simp_all only [yqg,yqh,yqi,and_self,true_and,and_true];done))
 refine zc9 rfl (fun hc=>?_) (fun hc=>?_)
 ·rw [Bool.not_eq_true'] at hc
  repeat' first|refine zie rfl ?_|refine zc4 rfl ?_|refine zc7 ?_|refine zc8 ?_|refine zc5 ?_|refine zc6 ?_|(simp (maxSteps:=2000000) only [go_sem,yqa,yqb,yqc,yqd,yqe,yqf];try rfl)|refine zc3 ?_|(refine And.intro ?_ ?_;focus (intros;simp_all only [yqg,yqh,yqi,and_self,true_and,and_true];done))
  rw [hc];rfl
 rw [Bool.not_eq_false'] at hc
 rw [if_pos hc]
 repeat' first|refine zie rfl ?_|refine zc4 rfl ?_|refine zc7 ?_|refine zc8 ?_|refine zc5 ?_|refine zc6 ?_|(simp (maxSteps:=2000000) only [go_sem,yqa,yqb,yqc,yqd,yqe,yqf];try rfl)|refine zc3 ?_|(refine And.intro ?_ ?_;focus (intros;simp_all only [yqg,yqh,yqi,and_self,true_and,and_true];done))
 refine zde (ι:=Nat) (fun k=>⟨[(1,true,.c (.v (.int .i64 m))),(10,true,.c (.v a.val)),(11,true,.c (.v (.int .i64 a.l.length))),(12,true,.c (.v (.int .i64 k)))],[],h,0⟩) (fun k=>k≤a.l.length∧∀ i (hi:i < a.l.length),i < k→(fun w:DWindow=>decide (m≤w.dst)) a.l[i]=false) (fun k=>a.l.length - k) 0 ⟨Nat.zero_le _,fun i _ h=>absurd h (Nat.not_lt_zero _)⟩ ?_ ?_
 ·simp (maxSteps:=2000000) only [go_sem,yqa,yqb,yqc,yqd,yqe,yqf]
  repeat' first|exact rfl|exact trivial|assumption|decide|refine And.intro ?_ ?_
 intro k hk
 repeat' first|refine zie rfl ?_|refine zc4 rfl ?_|refine zc7 ?_|refine zc8 ?_|refine zc5 ?_|refine zc6 ?_|(simp (maxSteps:=2000000) only [go_sem,yqa,yqb,yqc,yqd,yqe,yqf];try rfl)|refine zc3 ?_|(refine And.intro ?_ ?_;focus (intros;simp_all only [yqg,yqh,yqi,and_self,true_and,and_true];done))
 refine zc9 rfl (fun hdk=>?_) (fun hdk=>?_)
 ·have hlt:=zjH hdk
  repeat' first|refine zie rfl ?_|refine zc4 rfl ?_|refine zc7 ?_|refine zc8 ?_|refine zc5 ?_|refine zc6 ?_|(simp (maxSteps:=2000000) only [go_sem,yqa,yqb,yqc,yqd,yqe,yqf,zx9 ha hlt,ha.some hlt,hlt,yqj];try rfl)|refine zc3 ?_|(refine And.intro ?_ ?_;focus (intros;simp_all only [yqg,yqh,yqi,and_self,true_and,and_true];done))
  refine zc9 rfl (fun hq=>?_) (fun hq=>?_)
  ·repeat' first|refine zie rfl ?_|refine zc4 rfl ?_|refine zc7 ?_|refine zc8 ?_|refine zc5 ?_|refine zc6 ?_|(simp (maxSteps:=2000000) only [go_sem,yqa,yqb,yqc,yqd,yqe,yqf];try rfl)|refine zc3 ?_|(refine And.intro ?_ ?_;focus (intros;simp_all only [yqg,yqh,yqi,and_self,true_and,and_true];done))
   rw [zIM hlt hk.2 hq]
  ·repeat' first|refine zie rfl ?_|refine zc4 rfl ?_|refine zc7 ?_|refine zc8 ?_|refine zc5 ?_|refine zc6 ?_|(simp (maxSteps:=2000000) only [go_sem,yqa,yqb,yqc,yqd,yqe,yqf];try rfl)|refine zc3 ?_|(refine And.intro ?_ ?_;focus (intros;simp_all only [yqg,yqh,yqi,and_self,true_and,and_true];done))
   refine ⟨k+1,⟨hlt,zIL (p:=fun w:DWindow=>decide (m≤w.dst)) hlt hk.2 hq⟩,by omega,zjB (zjA hlt (by omega))⟩
 ·have hge:=zjI hdk
  repeat' first|refine zie rfl ?_|refine zc4 rfl ?_|refine zc7 ?_|refine zc8 ?_|refine zc5 ?_|refine zc6 ?_|(simp (maxSteps:=2000000) only [go_sem,yqa,yqb,yqc,yqd,yqe,yqf];try rfl)|refine zc3 ?_|(refine And.intro ?_ ?_;focus (intros;simp_all only [yqg,yqh,yqi,and_self,true_and,and_true];done))
  rw [zIN (fun i hi=>hk.2 i hi (by omega))]
theorem zIT (a:Sl DWindow) (n:Int) (h:Hp) (ha:a.Ok h) (hz:a.l.length≤1048576):Ct Tryz.prog 247 [a.val,.int .i64 n] h fun v h'=>∃ s:Sl DWindow,v=s.val∧s.l=zIG a.l n∧s.Ok h'∧Mine h h' s:=by
 rw [zIG]
 refine zdn (fun A W=>by simp) Tryz.func247 rfl rfl (by simp) fun W0=>?_
 repeat' first|refine zie rfl ?_|refine zc4 rfl ?_|refine zc7 ?_|refine zc8 ?_|refine zc5 ?_|refine zc6 ?_|refine zhF (fun _=>zII _ _ ha) ?_|refine zhF (fun _=>zre _ _) ?_|(simp (maxSteps:=2000000) only [go_sem,yqa,yqb,yqc,yqd,yqe,yqf];try rfl)|refine zc3 ?_|(refine And.intro ?_ ?_;focus (intros;simp_all only [yqg,yqh,yqi,and_self,true_and,and_true];done))
 refine zc9 rfl (fun hc=>?_) (fun hc=>?_)
 ·repeat' first|refine zie rfl ?_|refine zc4 rfl ?_|refine zc7 ?_|refine zc8 ?_|refine zc5 ?_|refine zc6 ?_|(simp (maxSteps:=2000000) only [go_sem,yqa,yqb,yqc,yqd,yqe,yqf];try rfl)|refine zc3 ?_|(refine And.intro ?_ ?_;focus (intros;simp_all only [yqg,yqh,yqi,and_self,true_and,and_true];done))
  rw [if_neg (by intro e;rw [e.1,decide_eq_true e.2.1,decide_eq_true e.2.2] at hc;cases hc)]
  exact ⟨⟨none,0,[]⟩,rfl,rfl,zmy,Mine.nil⟩
 simp only [yqg,Bool.not_eq_false',yqi,decide_eq_true_eq] at hc
 rw [if_pos ⟨hc.1,hc.2.1,hc.2.2⟩]
 repeat' first|refine zie rfl ?_|refine zc4 rfl ?_|refine zc7 ?_|refine zc8 ?_|refine zc5 ?_|refine zc6 ?_|(simp (maxSteps:=2000000) only [go_sem,yqa,yqb,yqc,yqd,yqe,yqf];try rfl)|refine zc3 ?_|(refine And.intro ?_ ?_;focus (intros;simp_all only [yqg,yqh,yqi,and_self,true_and,and_true];done))
 refine zma (ι:=Nat) (fun k=>⟨[(1,true,.c (.v (.int .i64 n))),(5,true,.c (.s 0)),(17,true,.c (.v a.val)),(18,true,.c (.v (.int .i64 a.l.length))),(19,true,.c (.v (.int .i64 k)))],[(0,.row 279 2 ((((a.l.take k).filter (shr n)).map (shw n))).length (((((a.l.take k).filter (shr n)).map (shw n))).flatMap Enc.enc))],h,1⟩) (fun k=>k≤a.l.length) (fun k=>a.l.length - k) 0 (Nat.zero_le _) [0] ?_ ?_
 ·simp (maxSteps:=2000000) only [go_sem,yqa,yqb,yqc,yqd,yqe,yqf]
  repeat' first|exact rfl|exact trivial|assumption|decide|refine And.intro ?_ ?_
 intro k hk
 repeat' first|refine zie rfl ?_|refine zc4 rfl ?_|refine zc7 ?_|refine zc8 ?_|refine zc5 ?_|refine zc6 ?_|(simp (maxSteps:=2000000) only [go_sem,yqa,yqb,yqc,yqd,yqe,yqf];try rfl)|refine zc3 ?_|(refine And.intro ?_ ?_;focus (intros;simp_all only [yqg,yqh,yqi,and_self,true_and,and_true];done))
 refine zc9 rfl (fun hdk=>?_) (fun hdk=>?_)
 ·have hlt:=zjH hdk
  have hlf:(((a.l.take k).filter (shr n)).map (shw n)).length≤k:=by rw [List.length_map];exact Nat.le_trans (List.length_filter_le _ _) (by rw [List.length_take];omega)
  repeat' first|refine zie rfl ?_|refine zc4 rfl ?_|refine zc7 ?_|refine zc8 ?_|refine zc5 ?_|refine zc6 ?_|(simp (maxSteps:=2000000) only [go_sem,yqa,yqb,yqc,yqd,yqe,yqf,zx9 ha hlt,ha.some hlt,hlt,yqj];try rfl)|refine zc3 ?_|(refine And.intro ?_ ?_;focus (intros;simp_all only [yqg,yqh,yqi,and_self,true_and,and_true];done))
  refine zc9 rfl (fun hq=>?_) (fun hq=>?_)
  ·repeat' first|refine zie rfl ?_|refine zc4 rfl ?_|refine zc7 ?_|refine zc8 ?_|refine zc5 ?_|refine zc6 ?_|(simp (maxSteps:=2000000) only [go_sem,yqa,yqb,yqc,yqd,yqe,yqf];try rfl)|refine zc3 ?_|(refine And.intro ?_ ?_;focus (intros;simp_all only [yqg,yqh,yqi,and_self,true_and,and_true];done))
   refine ⟨by simp only [maxLen];omega,by omega,?_⟩
   repeat' first|refine zie rfl ?_|refine zc4 rfl ?_|refine zc7 ?_|refine zc8 ?_|refine zc5 ?_|refine zc6 ?_|(simp (maxSteps:=2000000) only [go_sem,yqa,yqb,yqc,yqd,yqe,yqf];try rfl)|refine zc3 ?_|(refine And.intro ?_ ?_;focus (intros;simp_all only [yqg,yqh,yqi,and_self,true_and,and_true];done))
   refine ⟨k+1,[3],hlt,by omega,?_⟩
   simp (maxSteps:=2000000) only [go_sem,yqa,yqb,yqc,yqd,yqe,yqf]
   rw [zyD hlt hq,List.map_append,List.length_append,List.flatMap_append]
   refine ⟨zjB (zjA hlt (by omega)),?_⟩
   repeat' first|exact rfl|exact trivial|assumption|decide|refine And.intro ?_ ?_
  ·repeat' first|refine zie rfl ?_|refine zc4 rfl ?_|refine zc7 ?_|refine zc8 ?_|refine zc5 ?_|refine zc6 ?_|(simp (maxSteps:=2000000) only [go_sem,yqa,yqb,yqc,yqd,yqe,yqf];try rfl)|refine zc3 ?_|(refine And.intro ?_ ?_;focus (intros;simp_all only [yqg,yqh,yqi,and_self,true_and,and_true];done))
   refine ⟨k+1,[0],hlt,by omega,?_⟩
   simp (maxSteps:=2000000) only [go_sem,yqa,yqb,yqc,yqd,yqe,yqf]
   rw [zyE hlt hq]
   refine ⟨zjB (zjA hlt (by omega)),?_⟩
   repeat' first|exact rfl|exact trivial|assumption|decide|refine And.intro ?_ ?_
 ·have hge:=zjI hdk
  refine zc6 ?_
  simp (maxSteps:=2000000) only [go_sem,yqa,yqb,yqc,yqd,yqe,yqf]
  rw [List.take_of_length_le hge]
  refine zlX 0 ((a.l.filter (shr n)).map (shw n)) rfl rfl rfl rfl (by decide) (fun x hx=>?_) h (Hp.le_refl _) (Mines.flat (fun _=>rfl) (fun _=>trivial)) fun s h' e1 e2 e3 e4=>?_
  ·obtain ⟨y,hy,rfl⟩:=List.mem_map.1 hx
   exact ⟨(ha.2.2.2.1 y (List.mem_filter.1 hy).1).1,i64w _⟩
  repeat' first|refine zie rfl ?_|refine zc4 rfl ?_|refine zc7 ?_|refine zc8 ?_|refine zc5 ?_|refine zc6 ?_|(simp (maxSteps:=2000000) only [go_sem,yqa,yqb,yqc,yqd,yqe,yqf];try rfl)|refine zc3 ?_|(refine And.intro ?_ ?_;focus (intros;simp_all only [yqg,yqh,yqi,and_self,true_and,and_true];done))
  exact ⟨s,rfl,e1,e2,e4⟩
end Go.Proofs.YtjiggadgmmjnhaaGreat
namespace Go.Proofs.YtjiggadgmmjnhaaGreat
open Go Go.SL
set_option maxHeartbeats 1000000
def zIU (l:List DWindow) (k:Nat):Bool:=match l.getLast? with|some w=>decide (w.dst=(k:Int) - 1)|none=>false
def zIV (l:List DWindow) (k:Nat):List DWindow:=if zIU l k=true then l.dropLast ++ [⟨(l.getLast?.getD dW).src,k⟩] else l ++ [⟨k,k⟩]
def zIW (p:Nat→Bool):Nat→List DWindow
 | 0=>[]
 | k+1=>if p k=true then zIV (zIW p k) k else zIW p k
theorem zIX {l:List DWindow} {k:Nat} (h:zIU l k=true):∃ l0 w,l=l0 ++ [w]∧w.dst=(k:Int) - 1∧zIV l k=l0 ++ [⟨w.src,k⟩]:=by
 unfold zIU at h
 split at h
 ·rename_i w hw
  have hd:=of_decide_eq_true h
  obtain ⟨l0,rfl⟩:∃ l0,l=l0 ++ [w]:=⟨l.dropLast,by
   have hne:l ≠ []:=by intro e;rw [e] at hw;cases hw
   rw [List.getLast?_eq_some_getLast hne,Option.some.injEq] at hw
   rw [← hw];exact (List.dropLast_concat_getLast hne).symm⟩
  refine ⟨l0,w,rfl,hd,?_⟩
  have:zIU (l0 ++ [w]) k=true:=by unfold zIU;simp [hd]
  rw [zIV,if_pos this];simp
 ·cases h
theorem zIY {l:List DWindow} {k:Nat} (h:zIU l k=false):zIV l k=l ++ [⟨k,k⟩]:=by rw [zIV,if_neg (by rw [h];exact Bool.false_ne_true)]
theorem zIZ {p:Nat→Bool}:∀ {k:Nat},(zIW p k).length≤k
 | 0=>Nat.le_refl _
 | k+1=>by
  have ih:=zIZ (p:=p) (k:=k)
  unfold zIW
  split
  ·cases h:zIU (zIW p k) k
   ·rw [zIY h,List.length_append];simp;omega
   ·obtain ⟨l0,w,e,_,e2⟩:=zIX h
    rw [e2];rw [e] at ih;simp at ih ⊢;omega
  ·omega
theorem zI0 {p:Nat→Bool}:∀ {k:Nat},∀ w ∈ zIW p k,0≤w.src∧w.src≤w.dst∧w.dst < k
 | 0,w,h=>by cases h
 | k+1,w,h=>by
  have ih:=zI0 (p:=p) (k:=k)
  unfold zIW at h
  split at h
  ·cases hh:zIU (zIW p k) k
   ·rw [zIY hh] at h
    rcases List.mem_append.1 h with h|h
    ·have:=ih w h;omega
    ·obtain rfl:=List.mem_singleton.1 h;simp only;omega
   ·obtain ⟨l0,w',e,h1,e2⟩:=zIX hh
    rw [e2] at h
    rcases List.mem_append.1 h with h|h
    ·have:=ih w (by rw [e];exact List.mem_append_left _ h);omega
    ·have:=ih w' (by rw [e];simp)
     obtain rfl:=List.mem_singleton.1 h;simp only;omega
  ·have:=ih w h;omega
theorem zI1 {p:Nat→Bool} {k:Nat}:zIU (zIW p k) (k+1)=false:=by
 unfold zIU
 split
 ·rename_i w hw
  have hm:w ∈ zIW p k:=List.mem_of_getLast? hw
  have:=zI0 w hm
  exact decide_eq_false (by omega)
 ·rfl
theorem zI2 {p:Nat→Bool} {k:Nat} (h:p k=true):zIW p (k+1)=zIV (zIW p k) k:=by rw [zIW,if_pos h]
theorem zI3 {p:Nat→Bool} {k:Nat} (h:p k=false):zIW p (k+1)=zIW p k:=by rw [zIW,if_neg (by rw [h];exact Bool.false_ne_true)]
theorem zI4 {p:Nat→Bool} {k:Nat} (hk:k≤2881) (h:Hp):∀ w ∈ zIW p k,Enc.ok h w:=fun w hw=>by
 have:=zI0 w hw
 show I64 _∧I64 _
 unfold I64;omega
theorem zI5 {p q:Nat→Bool}:∀ {k:Nat},(∀ i,i < k→p i=q i)→zIW p k=zIW q k
 | 0,_=>rfl
 | k+1,h=>by unfold zIW;rw [h k (Nat.lt_succ_self k),zI5 (fun i hi=>h i (by omega))]
theorem zI6 {l:List DWindow} {a:Int} {k:Nat}:zIU (l ++ [⟨a,k⟩]) (k+1)=true:=by unfold zIU;simp
theorem zI7 {l0:List DWindow} {w:DWindow} {k:Int}:List.take (l0.length * 2+1) ((l0 ++ [w]).flatMap Enc.enc) ++ Value.int .i64 k :: List.drop (l0.length * 2+1+1) ((l0 ++ [w]).flatMap Enc.enc)=(l0 ++ [(⟨w.src,k⟩:DWindow)]).flatMap Enc.enc :=
 zIB (α:=DWindow) (l0:=l0) (w:=w) (w':=⟨w.src,k⟩) (o:=1) (new:=[.int .i64 k]) rfl (Nat.le_refl 2)
theorem zI8 {l0:List DWindow} {k:Int}:List.take (l0.length * 2+1) (l0.flatMap Enc.enc ++ [Value.int .i64 k,Value.int .i64 0]) ++ Value.int .i64 k :: List.drop (l0.length * 2+1+1) (l0.flatMap Enc.enc ++ [Value.int .i64 k,Value.int .i64 0])=(l0 ++ [(⟨k,k⟩:DWindow)]).flatMap Enc.enc:=by
 have:=zI7 (l0:=l0) (w:=⟨k,0⟩) (k:=k)
 rw [List.flatMap_append] at this
 exact this
def zI9 (f:PForecast) (lv:Int):List DWindow:=zIW (fun m=>decide (lv≤zIq f m)) 2881
theorem zJa (f:Nat) (cs:List Value) (p:Nat→Bool) (h:Hp) (hf:∀ k:Nat,k≤2880→Ct Tryz.prog f ([.int .i64 k] ++ cs) h fun v h'=>v=.bool (p k)∧h'=h):Ct Tryz.prog 262 [.func (.func f) #[] cs.toArray] h fun v h'=>∃ s:Sl DWindow,v=s.val∧s.l=zIW p 2881∧s.Ok h'∧Mine h h' s:=by
 refine zdn (fun A W=>by simp) Tryz.func262 rfl rfl (by simp) fun W0=>?_
 repeat' first|refine zie rfl ?_|refine zc4 rfl ?_|refine zc7 ?_|refine zc8 ?_|refine zc5 ?_|refine zc6 ?_|(simp (maxSteps:=2000000) only [go_sem,yqa,yqb,yqc,yqd,yqe,yqf];try rfl)|refine zc3 ?_|(refine And.intro ?_ ?_;focus (intros;simp_all only [yqg,yqh,yqi,and_self,true_and,and_true];done))
 refine zma (ι:=Nat) (fun k=>⟨[(0,true,.c (.v (.func (.func f) #[] cs.toArray))),(3,true,.c (.s 0)),(4,true,.c (.v (.bool (zIU (zIW p k) k)))),(5,true,.c (.v (.int .i64 k)))],[(0,.row 279 2 (zIW p k).length ((zIW p k).flatMap Enc.enc))],h,1⟩) (fun k=>k≤2881) (fun k=>2881 - k) 0 (Nat.zero_le _) [0] ?_ ?_
 ·simp (maxSteps:=2000000) only [go_sem,yqa,yqb,yqc,yqd,yqe,yqf]
  repeat' first|exact rfl|exact trivial|assumption|decide|refine And.intro ?_ ?_
 intro k hk
 repeat' first|refine zie rfl ?_|refine zc4 rfl ?_|refine zc7 ?_|refine zc8 ?_|refine zc5 ?_|refine zc6 ?_|(simp (maxSteps:=2000000) only [go_sem,yqa,yqb,yqc,yqd,yqe,yqf];try rfl)|refine zc3 ?_|(refine And.intro ?_ ?_;focus (intros;simp_all only [yqg,yqh,yqi,and_self,true_and,and_true];done))
 refine zc9 rfl (fun hd=>?_) (fun hd=>?_)
 ·have hd:=of_decide_eq_true hd
  repeat' first|refine zie rfl ?_|refine zc4 rfl ?_|refine zc7 ?_|refine zc8 ?_|refine zc5 ?_|refine zc6 ?_|(simp (maxSteps:=2000000) only [go_sem,yqa,yqb,yqc,yqd,yqe,yqf];try rfl)|refine zc3 ?_|(refine And.intro ?_ ?_;focus (intros;simp_all only [yqg,yqh,yqi,and_self,true_and,and_true];done))
  refine zhF (fun _=>hf k (by omega)) ?_
  repeat' first|refine zie rfl ?_|refine zc4 rfl ?_|refine zc7 ?_|refine zc8 ?_|refine zc5 ?_|refine zc6 ?_|(simp (maxSteps:=2000000) only [go_sem,yqa,yqb,yqc,yqd,yqe,yqf];try rfl)|refine zc3 ?_|(refine And.intro ?_ ?_;focus (intros;simp_all only [yqg,yqh,yqi,and_self,true_and,and_true];done))
  refine zc9 rfl (fun hq=>?_) (fun hq=>?_)
  ·rw [Bool.not_eq_true'] at hq
   repeat' first|refine zie rfl ?_|refine zc4 rfl ?_|refine zc7 ?_|refine zc8 ?_|refine zc5 ?_|refine zc6 ?_|(simp (maxSteps:=2000000) only [go_sem,yqa,yqb,yqc,yqd,yqe,yqf];try rfl)|refine zc3 ?_|(refine And.intro ?_ ?_;focus (intros;simp_all only [yqg,yqh,yqi,and_self,true_and,and_true];done))
   refine ⟨k+1,[0],by omega,by omega,?_⟩
   simp (maxSteps:=2000000) only [go_sem,yqa,yqb,yqc,yqd,yqe,yqf]
   rw [zI3 hq,zI1]
   repeat' first|exact zjB (zjA (n:=2881) (k:=k) (by omega) (by omega))|exact rfl|exact trivial|assumption|decide|refine And.intro ?_ ?_
  rw [Bool.not_eq_false'] at hq
  repeat' first|refine zie rfl ?_|refine zc4 rfl ?_|refine zc7 ?_|refine zc8 ?_|refine zc5 ?_|refine zc6 ?_|(simp (maxSteps:=2000000) only [go_sem,yqa,yqb,yqc,yqd,yqe,yqf];try rfl)|refine zc3 ?_|(refine And.intro ?_ ?_;focus (intros;simp_all only [yqg,yqh,yqi,and_self,true_and,and_true];done))
  refine zc9 rfl (fun ho=>?_) (fun ho=>?_)
  ·rw [Bool.not_eq_true'] at ho
   have hs:=zIY ho
   have hle:=zIZ (p:=p) (k:=k)
   have hgo:=zI2 hq
   rw [hs] at hgo
   generalize zIW p k=L0 at *
   have hw:IntKind.i64.wrap (((L0.length+1:Nat):Int) - 1)=((L0.length:Nat):Int):=by rw [zjz (by omega)];omega
   repeat' first|refine zie rfl ?_|refine zc4 rfl ?_|refine zc7 ?_|refine zc8 ?_|refine zc5 ?_|refine zc6 ?_|(simp (maxSteps:=2000000) only [go_sem,yqa,yqb,yqc,yqd,yqe,yqf];try rfl)|refine zc3 ?_|(refine And.intro ?_ ?_;focus (intros;simp_all only [yqg,yqh,yqi,and_self,true_and,and_true];done))
   refine ⟨by simp only [maxLen];omega,by omega,?_⟩
   have hfl:(L0.flatMap Enc.enc).length=L0.length * 2:=ziq Enc.len _
   repeat' first|refine zie rfl ?_|refine zc4 rfl ?_|refine zc7 ?_|refine zc8 ?_|refine zc5 ?_|refine zc6 ?_|(simp (maxSteps:=2000000) only [go_sem,yqa,yqb,yqc,yqd,yqe,yqf,hw];try rfl)|refine zc3 ?_|(refine And.intro ?_ ?_;focus (intros;simp_all only [yqg,yqh,yqi,and_self,true_and,and_true];done))
   refine ⟨by omega,by rw [List.length_append,hfl];simp,?_⟩
   rw [zI8]
   repeat' first|refine zie rfl ?_|refine zc4 rfl ?_|refine zc7 ?_|refine zc8 ?_|refine zc5 ?_|refine zc6 ?_|(simp (maxSteps:=2000000) only [go_sem,yqa,yqb,yqc,yqd,yqe,yqf];try rfl)|refine zc3 ?_|(refine And.intro ?_ ?_;focus (intros;simp_all only [yqg,yqh,yqi,and_self,true_and,and_true];done))
   refine ⟨k+1,[2],by omega,by omega,?_⟩
   simp (maxSteps:=2000000) only [go_sem,yqa,yqb,yqc,yqd,yqe,yqf]
   rw [hgo,zI6,List.length_append,List.length_singleton]
   repeat' first|exact zjB (zjA (n:=2881) (k:=k) (by omega) (by omega))|exact rfl|exact trivial|assumption|decide|refine And.intro ?_ ?_
  ·rw [Bool.not_eq_false'] at ho
   obtain ⟨l0,w,e,hw0,hs⟩:=zIX ho
   have hgo:=zI2 hq
   rw [hs] at hgo
   have hle:=zIZ (p:=p) (k:=k)
   generalize zIW p k=L0 at *
   subst e
   have hw:IntKind.i64.wrap (((l0 ++ [w]).length:Int) - 1)=((l0.length:Nat):Int):=by rw [List.length_append] at *;rw [zjz (by simp at *;omega)];simp
   have hfl:((l0 ++ [w]).flatMap Enc.enc).length=(l0 ++ [w]).length * 2:=ziq Enc.len _
   repeat' first|refine zie rfl ?_|refine zc4 rfl ?_|refine zc7 ?_|refine zc8 ?_|refine zc5 ?_|refine zc6 ?_|(simp (maxSteps:=2000000) only [go_sem,yqa,yqb,yqc,yqd,yqe,yqf,hw];try rfl)|refine zc3 ?_|(refine And.intro ?_ ?_;focus (intros;simp_all only [yqg,yqh,yqi,and_self,true_and,and_true];done))
   refine ⟨by rw [List.length_append];simp,by rw [hfl,List.length_append];simp;omega,?_⟩
   rw [zI7]
   repeat' first|refine zie rfl ?_|refine zc4 rfl ?_|refine zc7 ?_|refine zc8 ?_|refine zc5 ?_|refine zc6 ?_|(simp (maxSteps:=2000000) only [go_sem,yqa,yqb,yqc,yqd,yqe,yqf];try rfl)|refine zc3 ?_|(refine And.intro ?_ ?_;focus (intros;simp_all only [yqg,yqh,yqi,and_self,true_and,and_true];done))
   refine ⟨k+1,[0],by omega,by omega,?_⟩
   simp (maxSteps:=2000000) only [go_sem,yqa,yqb,yqc,yqd,yqe,yqf]
   rw [hgo,zI6,List.length_append,List.length_append,List.length_singleton,List.length_singleton,ho]
   repeat' first|exact zjB (zjA (n:=2881) (k:=k) (by omega) (by omega))|exact rfl|exact trivial|assumption|decide|refine And.intro ?_ ?_
 ·have hd:=of_decide_eq_false hd
  have hke:k=2881:=by omega
  subst hke
  refine zc6 ?_
  simp (maxSteps:=2000000) only [go_sem,yqa,yqb,yqc,yqd,yqe,yqf]
  refine zlX 0 (zIW p 2881) rfl rfl rfl rfl (by decide) (zI4 (Nat.le_refl _) h) h (Hp.le_refl _) (Mines.flat (fun _=>rfl) (fun _=>trivial)) fun s h' e1 e2 e3 e4=>?_
  repeat' first|refine zie rfl ?_|refine zc4 rfl ?_|refine zc7 ?_|refine zc8 ?_|refine zc5 ?_|refine zc6 ?_|(simp (maxSteps:=2000000) only [go_sem,yqa,yqb,yqc,yqd,yqe,yqf];try rfl)|refine zc3 ?_|(refine And.intro ?_ ?_;focus (intros;simp_all only [yqg,yqh,yqi,and_self,true_and,and_true];done))
  exact ⟨s,rfl,e1,e2,e4⟩
end Go.Proofs.YtjiggadgmmjnhaaGreat
namespace Go.Proofs.YtjiggadgmmjnhaaGreat
open Go Go.SL
set_option maxHeartbeats 1000000
def dH:DShip:=⟨ByteArray.empty,0,0,0,0,false⟩
theorem hget {l:List DShip} {i:Nat} (hi:i < l.length):l.getD i dH=l[i]:=by simp [List.getD_eq_getElem?_getD,hi]
def zrM (l:List DShip) (n:ByteArray):Int:=zrk (fun p=>decide (p.name=n)) l
def zrN (s:DShip):Bool:=zrh s.name && In s.length 10 400 && In s.draught 100 2000 && In s.line 0 3 && In s.tugs 0 4
def shOk (l:List DShip) (i:Nat):Bool:=zrN (l.getD i dH) && decide (zrM l (l.getD i dH).name=(i:Int))
def zrO (l:List DShip):Bool:=decide (l.length≤6) && decide (∀ i,i < l.length→shOk l i=true)
def zJb (r:DRegime):Bool:=In r.gap 0 60
def zrP (l:List Int):Bool:=decide (l.length=64) && l.all (fun n=>In n 0 240)
def zrQ (w:PCrew):Bool:=In w.tugs 0 12 && In w.pilots 0 12 && (In w.rest 0 2880 && zrP w.moves)
def zJc (x:PHarbour):Bool:=zIb x.forecast && zrC x.chart && zrO x.fleet && zJb x.regime && zrQ x.crew
theorem zrR (c:Sl DShip) (n:ByteArray) (h:Hp) (hp:c.Ok h):Ct Tryz.prog 227 [c.val,.string n] h fun v h'=>v=.int .i64 (zrM c.l n)∧h'=h:=by
 have hl:=hp.max
 refine zdn (fun A W=>by simp) Tryz.func227 rfl rfl (by simp) fun W0=>?_
 repeat' first|refine zie rfl ?_|refine zc4 rfl ?_|refine zc7 ?_|refine zc8 ?_|refine zc5 ?_|refine zc6 ?_|(simp (maxSteps:=2000000) only [go_sem,yqa,yqb,yqc,yqd,yqe,yqf];try rfl)|refine zc3 ?_|(refine And.intro ?_ ?_;focus (intros;simp_all only [yqg,yqh,yqi,and_self,true_and,and_true];done))
 refine zde (ι:=Nat) (fun k=>⟨[(1,true,.c (.v (.string n))),(7,true,.c (.v c.val)),(8,true,.c (.v (.int .i64 c.l.length))),(9,true,.c (.v (.int .i64 k)))],[],h,1⟩) (fun k=>k≤c.l.length∧∀ i (hi:i < c.l.length),i < k→(decide (c.l[i].name=n))=false) (fun k=>c.l.length - k) 0 ⟨Nat.zero_le _,fun i _ hi=>absurd hi (Nat.not_lt_zero _)⟩ ?_ ?_
 ·simp (maxSteps:=2000000) only [go_sem,yqa,yqb,yqc,yqd,yqe,yqf]
  first|exact rfl|exact ⟨rfl,rfl⟩|exact ⟨rfl,rfl,rfl⟩|exact ⟨rfl,rfl,rfl,rfl⟩|exact ⟨rfl,rfl,rfl,rfl,rfl⟩
 intro k hk
 repeat' first|refine zie rfl ?_|refine zc4 rfl ?_|refine zc7 ?_|refine zc8 ?_|refine zc5 ?_|refine zc6 ?_|(simp (maxSteps:=2000000) only [go_sem,yqa,yqb,yqc,yqd,yqe,yqf];try rfl)|refine zc3 ?_|(refine And.intro ?_ ?_;focus (intros;simp_all only [yqg,yqh,yqi,and_self,true_and,and_true];done))
 refine zc9 rfl (fun hd=>?_) (fun hd=>?_)
 ·have hlt:=zjH hd
  repeat' first|refine zie rfl ?_|refine zc4 rfl ?_|refine zc7 ?_|refine zc8 ?_|refine zc5 ?_|refine zc6 ?_|(simp (maxSteps:=2000000) only [go_sem,yqa,yqb,yqc,yqd,yqe,yqf,zlj hp hlt,hp.some hlt,hlt,yqj];try rfl)|refine zc3 ?_|(refine And.intro ?_ ?_;focus (intros;simp_all only [yqg,yqh,yqi,and_self,true_and,and_true];done))
  refine zc9 rfl (fun hq=>?_) (fun hq=>?_)
  ·repeat' first|refine zie rfl ?_|refine zc4 rfl ?_|refine zc7 ?_|refine zc8 ?_|refine zc5 ?_|refine zc6 ?_|(simp (maxSteps:=2000000) only [go_sem,yqa,yqb,yqc,yqd,yqe,yqf];try rfl)|refine zc3 ?_|(refine And.intro ?_ ?_;focus (intros;simp_all only [yqg,yqh,yqi,and_self,true_and,and_true];done))
   rw [zrM,zrl hlt hq hk.2]
  ·repeat' first|refine zie rfl ?_|refine zc4 rfl ?_|refine zc7 ?_|refine zc8 ?_|refine zc5 ?_|refine zc6 ?_|(simp (maxSteps:=2000000) only [go_sem,yqa,yqb,yqc,yqd,yqe,yqf];try rfl)|refine zc3 ?_|(refine And.intro ?_ ?_;focus (intros;simp_all only [yqg,yqh,yqi,and_self,true_and,and_true];done))
   refine ⟨k+1,⟨hlt,fun i hi hik=>?_⟩,by omega,zjB (zjA hlt (by omega))⟩
   rcases Nat.lt_succ_iff_lt_or_eq.1 hik with hik|rfl
   ·exact hk.2 i hi hik
   ·exact hq
 ·have hge:=zjI hd
  repeat' first|refine zie rfl ?_|refine zc4 rfl ?_|refine zc7 ?_|refine zc8 ?_|refine zc5 ?_|refine zc6 ?_|(simp (maxSteps:=2000000) only [go_sem,yqa,yqb,yqc,yqd,yqe,yqf];try rfl)|refine zc3 ?_|(refine And.intro ?_ ?_;focus (intros;simp_all only [yqg,yqh,yqi,and_self,true_and,and_true];done))
  rw [zrM,zrm (fun i hi=>hk.2 i hi (by omega))]
theorem zrS (s:DShip) (h:Hp) (hs:Enc.ok h s):Ct Tryz.prog 155 [s.v] h fun v h'=>v=.bool (zrN s)∧h'=h:=by
 refine zdn (fun A W=>by simp) Tryz.func155 rfl rfl (by simp) fun W0=>?_
 repeat' first|refine zie rfl ?_|refine zc4 rfl ?_|refine zc7 ?_|refine zc8 ?_|refine zc5 ?_|refine zc6 ?_|refine zhF (fun _=>zri _ _ hs.1) ?_|refine zhF (fun _=>zrc _ _ _ _) ?_|(simp (maxSteps:=2000000) only [go_sem,yqa,yqb,yqc,yqd,yqe,yqf];try rfl)|refine zc3 ?_|(refine And.intro ?_ ?_;focus (intros;simp_all only [yqg,yqh,yqi,and_self,true_and,and_true];done))
 skip
 skip
theorem zrT (c:Sl DShip) (h:Hp) (hp:c.Ok h):Ct Tryz.prog 176 [c.val] h fun v h'=>v=.bool (zrO c.l)∧h'=h:=by
 have hl:=hp.max
 rw [zrO]
 refine zdn (fun A W=>by simp) Tryz.func176 rfl rfl (by simp) fun W0=>?_
 repeat' first|refine zie rfl ?_|refine zc4 rfl ?_|refine zc7 ?_|refine zc8 ?_|refine zc5 ?_|refine zc6 ?_|(simp (maxSteps:=2000000) only [go_sem,yqa,yqb,yqc,yqd,yqe,yqf];try rfl)|refine zc3 ?_|(refine And.intro ?_ ?_;focus (intros;simp_all only [yqg,yqh,yqi,and_self,true_and,and_true];done))
 refine zc9 rfl (fun hc=>?_) (fun hc=>?_)
 ·repeat' first|refine zie rfl ?_|refine zc4 rfl ?_|refine zc7 ?_|refine zc8 ?_|refine zc5 ?_|refine zc6 ?_|(simp (maxSteps:=2000000) only [go_sem,yqa,yqb,yqc,yqd,yqe,yqf];try rfl)|refine zc3 ?_|(refine And.intro ?_ ?_;focus (intros;simp_all only [yqg,yqh,yqi,and_self,true_and,and_true];done))
  rw [decide_eq_false (by have:=of_decide_eq_true hc;omega)];rfl
 rw [decide_eq_true (show c.l.length≤6 by have:=of_decide_eq_false hc;omega),Bool.true_and]
 repeat' first|refine zie rfl ?_|refine zc4 rfl ?_|refine zc7 ?_|refine zc8 ?_|refine zc5 ?_|refine zc6 ?_|(simp (maxSteps:=2000000) only [go_sem,yqa,yqb,yqc,yqd,yqe,yqf];try rfl)|refine zc3 ?_|(refine And.intro ?_ ?_;focus (intros;simp_all only [yqg,yqh,yqi,and_self,true_and,and_true];done))
 refine zde (ι:=Nat) (fun k=>⟨[(0,true,.c (.v c.val)),(8,true,.c (.v c.val)),(9,true,.c (.v (.int .i64 c.l.length))),(10,true,.c (.v (.int .i64 k)))],[],h,0⟩) (fun k=>k≤c.l.length∧∀ i,i < k→shOk c.l i=true) (fun k=>c.l.length - k) 0 ⟨Nat.zero_le _,zrH⟩ ?_ ?_
 ·simp (maxSteps:=2000000) only [go_sem,yqa,yqb,yqc,yqd,yqe,yqf]
  first|exact rfl|exact ⟨rfl,rfl⟩|exact ⟨rfl,rfl,rfl⟩|exact ⟨rfl,rfl,rfl,rfl⟩|exact ⟨rfl,rfl,rfl,rfl,rfl⟩
 intro k hk
 repeat' first|refine zie rfl ?_|refine zc4 rfl ?_|refine zc7 ?_|refine zc8 ?_|refine zc5 ?_|refine zc6 ?_|(simp (maxSteps:=2000000) only [go_sem,yqa,yqb,yqc,yqd,yqe,yqf];try rfl)|refine zc3 ?_|(refine And.intro ?_ ?_;focus (intros;simp_all only [yqg,yqh,yqi,and_self,true_and,and_true];done))
 refine zc9 rfl (fun hd=>?_) (fun hd=>?_)
 ·have hlt:=zjH hd
  repeat' first|refine zie rfl ?_|refine zc4 rfl ?_|refine zc7 ?_|refine zc8 ?_|refine zc5 ?_|refine zc6 ?_|refine zhF (fun _=>zrS _ _ (hp.el hlt)) ?_|refine zhF (fun _=>zrR c _ _ hp) ?_|(simp (maxSteps:=2000000) only [go_sem,yqa,yqb,yqc,yqd,yqe,yqf,zlj hp hlt,hp.some hlt,hlt,yqj];try rfl)|refine zc3 ?_|(refine And.intro ?_ ?_;focus (intros;simp_all only [yqg,yqh,yqi,and_self,true_and,and_true];done))
  refine zc9 rfl (fun hq=>?_) (fun hq=>?_)
  ·repeat' first|refine zie rfl ?_|refine zc4 rfl ?_|refine zc7 ?_|refine zc8 ?_|refine zc5 ?_|refine zc6 ?_|(simp (maxSteps:=2000000) only [go_sem,yqa,yqb,yqc,yqd,yqe,yqf];try rfl)|refine zc3 ?_|(refine And.intro ?_ ?_;focus (intros;simp_all only [yqg,yqh,yqi,and_self,true_and,and_true];done))
   rw [zrE hlt ?_]
   rw [shOk,hget hlt]
   rcases (yqh _ _).mp hq with h1|h1
   ·rw [Bool.not_eq_true'] at h1;rw [h1];rfl
   ·rw [decide_eq_false (zjD h1),Bool.and_false]
  ·obtain ⟨h1,h2⟩:=Bool.or_eq_false_iff.1 hq
   rw [Bool.not_eq_false'] at h1
   repeat' first|refine zie rfl ?_|refine zc4 rfl ?_|refine zc7 ?_|refine zc8 ?_|refine zc5 ?_|refine zc6 ?_|(simp (maxSteps:=2000000) only [go_sem,yqa,yqb,yqc,yqd,yqe,yqf];try rfl)|refine zc3 ?_|(refine And.intro ?_ ?_;focus (intros;simp_all only [yqg,yqh,yqi,and_self,true_and,and_true];done))
   exact ⟨k+1,⟨hlt,zrF hk.2 (by rw [shOk,hget hlt,h1,decide_eq_true (zjE h2)];rfl)⟩,by omega,zjB (zjA hlt (by omega))⟩
 ·have hge:=zjI hd
  repeat' first|refine zie rfl ?_|refine zc4 rfl ?_|refine zc7 ?_|refine zc8 ?_|refine zc5 ?_|refine zc6 ?_|(simp (maxSteps:=2000000) only [go_sem,yqa,yqb,yqc,yqd,yqe,yqf];try rfl)|refine zc3 ?_|(refine And.intro ?_ ?_;focus (intros;simp_all only [yqg,yqh,yqi,and_self,true_and,and_true];done))
  rw [zrG hge hk.2]
theorem zJd (s:DRegime) (h:Hp):Ct Tryz.prog 177 [s.v] h fun v h'=>v=.bool (zJb s)∧h'=h:=by
 refine zdn (fun A W=>by simp) Tryz.func177 rfl rfl (by simp) fun W0=>?_
 repeat' first|refine zie rfl ?_|refine zc4 rfl ?_|refine zc7 ?_|refine zc8 ?_|refine zc5 ?_|refine zc6 ?_|refine zhF (fun _=>zrc _ _ _ _) ?_|(simp (maxSteps:=2000000) only [go_sem,yqa,yqb,yqc,yqd,yqe,yqf];try rfl)|refine zc3 ?_|(refine And.intro ?_ ?_;focus (intros;simp_all only [yqg,yqh,yqi,and_self,true_and,and_true];done))
theorem zrU (c:Sl DShip) (n:ByteArray) (h:Hp) (hp:c.Ok h):Ct Tryz.prog 236 [c.val,.string n] h fun v h'=>v=.int .i64 (zrM c.l n)∧h'=h:=by
 have hl:=hp.max
 refine zdn (fun A W=>by simp) Tryz.func236 rfl rfl (by simp) fun W0=>?_
 repeat' first|refine zie rfl ?_|refine zc4 rfl ?_|refine zc7 ?_|refine zc8 ?_|refine zc5 ?_|refine zc6 ?_|(simp (maxSteps:=2000000) only [go_sem,yqa,yqb,yqc,yqd,yqe,yqf];try rfl)|refine zc3 ?_|(refine And.intro ?_ ?_;focus (intros;simp_all only [yqg,yqh,yqi,and_self,true_and,and_true];done))
 refine zde (ι:=Nat) (fun k=>⟨[(1,true,.c (.v (.string n))),(7,true,.c (.v c.val)),(8,true,.c (.v (.int .i64 c.l.length))),(9,true,.c (.v (.int .i64 k)))],[],h,1⟩) (fun k=>k≤c.l.length∧∀ i (hi:i < c.l.length),i < k→(decide (c.l[i].name=n))=false) (fun k=>c.l.length - k) 0 ⟨Nat.zero_le _,fun i _ hi=>absurd hi (Nat.not_lt_zero _)⟩ ?_ ?_
 ·simp (maxSteps:=2000000) only [go_sem,yqa,yqb,yqc,yqd,yqe,yqf]
  first|exact rfl|exact ⟨rfl,rfl⟩|exact ⟨rfl,rfl,rfl⟩|exact ⟨rfl,rfl,rfl,rfl⟩|exact ⟨rfl,rfl,rfl,rfl,rfl⟩
 intro k hk
 repeat' first|refine zie rfl ?_|refine zc4 rfl ?_|refine zc7 ?_|refine zc8 ?_|refine zc5 ?_|refine zc6 ?_|(simp (maxSteps:=2000000) only [go_sem,yqa,yqb,yqc,yqd,yqe,yqf];try rfl)|refine zc3 ?_|(refine And.intro ?_ ?_;focus (intros;simp_all only [yqg,yqh,yqi,and_self,true_and,and_true];done))
 refine zc9 rfl (fun hd=>?_) (fun hd=>?_)
 ·have hlt:=zjH hd
  repeat' first|refine zie rfl ?_|refine zc4 rfl ?_|refine zc7 ?_|refine zc8 ?_|refine zc5 ?_|refine zc6 ?_|(simp (maxSteps:=2000000) only [go_sem,yqa,yqb,yqc,yqd,yqe,yqf,zlj hp hlt,hp.some hlt,hlt,yqj];try rfl)|refine zc3 ?_|(refine And.intro ?_ ?_;focus (intros;simp_all only [yqg,yqh,yqi,and_self,true_and,and_true];done))
  refine zc9 rfl (fun hq=>?_) (fun hq=>?_)
  ·repeat' first|refine zie rfl ?_|refine zc4 rfl ?_|refine zc7 ?_|refine zc8 ?_|refine zc5 ?_|refine zc6 ?_|(simp (maxSteps:=2000000) only [go_sem,yqa,yqb,yqc,yqd,yqe,yqf];try rfl)|refine zc3 ?_|(refine And.intro ?_ ?_;focus (intros;simp_all only [yqg,yqh,yqi,and_self,true_and,and_true];done))
   rw [zrM,zrl hlt hq hk.2]
  ·repeat' first|refine zie rfl ?_|refine zc4 rfl ?_|refine zc7 ?_|refine zc8 ?_|refine zc5 ?_|refine zc6 ?_|(simp (maxSteps:=2000000) only [go_sem,yqa,yqb,yqc,yqd,yqe,yqf];try rfl)|refine zc3 ?_|(refine And.intro ?_ ?_;focus (intros;simp_all only [yqg,yqh,yqi,and_self,true_and,and_true];done))
   refine ⟨k+1,⟨hlt,fun i hi hik=>?_⟩,by omega,zjB (zjA hlt (by omega))⟩
   rcases Nat.lt_succ_iff_lt_or_eq.1 hik with hik|rfl
   ·exact hk.2 i hi hik
   ·exact hq
 ·have hge:=zjI hd
  repeat' first|refine zie rfl ?_|refine zc4 rfl ?_|refine zc7 ?_|refine zc8 ?_|refine zc5 ?_|refine zc6 ?_|(simp (maxSteps:=2000000) only [go_sem,yqa,yqb,yqc,yqd,yqe,yqf];try rfl)|refine zc3 ?_|(refine And.intro ?_ ?_;focus (intros;simp_all only [yqg,yqh,yqi,and_self,true_and,and_true];done))
  rw [zrM,zrm (fun i hi=>hk.2 i hi (by omega))]
theorem zrV (s:DShip) (h:Hp) (hs:Enc.ok h s):Ct Tryz.prog 213 [s.v] h fun v h'=>v=.bool (zrN s)∧h'=h:=by
 refine zdn (fun A W=>by simp) Tryz.func213 rfl rfl (by simp) fun W0=>?_
 repeat' first|refine zie rfl ?_|refine zc4 rfl ?_|refine zc7 ?_|refine zc8 ?_|refine zc5 ?_|refine zc6 ?_|refine zhF (fun _=>zrj _ _ hs.1) ?_|refine zhF (fun _=>zrd _ _ _ _) ?_|refine zhF (fun _=>zrf _ _ _) ?_|(simp (maxSteps:=2000000) only [go_sem,yqa,yqb,yqc,yqd,yqe,yqf];try rfl)|refine zc3 ?_|(refine And.intro ?_ ?_;focus (intros;simp_all only [yqg,yqh,yqi,and_self,true_and,and_true];done))
 congr 1;rw [Bool.eq_iff_iff];simp only [zrN,In,yqi,yqh,Bool.not_eq_true',decide_eq_true_eq,decide_eq_false_iff_not,beq_iff_eq,and_assoc]
 constructor <;> intro hh <;> (refine ⟨hh.1,?_⟩;omega)
theorem zrW (c:Sl DShip) (h:Hp) (hp:c.Ok h):Ct Tryz.prog 190 [c.val] h fun v h'=>v=.bool (zrO c.l)∧h'=h:=by
 have hl:=hp.max
 rw [zrO]
 refine zdn (fun A W=>by simp) Tryz.func190 rfl rfl (by simp) fun W0=>?_
 repeat' first|refine zie rfl ?_|refine zc4 rfl ?_|refine zc7 ?_|refine zc8 ?_|refine zc5 ?_|refine zc6 ?_|(simp (maxSteps:=2000000) only [go_sem,yqa,yqb,yqc,yqd,yqe,yqf];try rfl)|refine zc3 ?_|(refine And.intro ?_ ?_;focus (intros;simp_all only [yqg,yqh,yqi,and_self,true_and,and_true];done))
 refine zc9 rfl (fun hc=>?_) (fun hc=>?_)
 ·repeat' first|refine zie rfl ?_|refine zc4 rfl ?_|refine zc7 ?_|refine zc8 ?_|refine zc5 ?_|refine zc6 ?_|(simp (maxSteps:=2000000) only [go_sem,yqa,yqb,yqc,yqd,yqe,yqf];try rfl)|refine zc3 ?_|(refine And.intro ?_ ?_;focus (intros;simp_all only [yqg,yqh,yqi,and_self,true_and,and_true];done))
  rw [decide_eq_false (by have:=of_decide_eq_true hc;omega)];rfl
 rw [decide_eq_true (show c.l.length≤6 by have:=of_decide_eq_false hc;omega),Bool.true_and]
 repeat' first|refine zie rfl ?_|refine zc4 rfl ?_|refine zc7 ?_|refine zc8 ?_|refine zc5 ?_|refine zc6 ?_|(simp (maxSteps:=2000000) only [go_sem,yqa,yqb,yqc,yqd,yqe,yqf];try rfl)|refine zc3 ?_|(refine And.intro ?_ ?_;focus (intros;simp_all only [yqg,yqh,yqi,and_self,true_and,and_true];done))
 refine zde (ι:=Nat) (fun k=>⟨[(0,true,.c (.v c.val)),(8,true,.c (.v c.val)),(9,true,.c (.v (.int .i64 c.l.length))),(10,true,.c (.v (.int .i64 k)))],[],h,0⟩) (fun k=>k≤c.l.length∧∀ i,i < k→shOk c.l i=true) (fun k=>c.l.length - k) 0 ⟨Nat.zero_le _,zrH⟩ ?_ ?_
 ·simp (maxSteps:=2000000) only [go_sem,yqa,yqb,yqc,yqd,yqe,yqf]
  first|exact rfl|exact ⟨rfl,rfl⟩|exact ⟨rfl,rfl,rfl⟩|exact ⟨rfl,rfl,rfl,rfl⟩|exact ⟨rfl,rfl,rfl,rfl,rfl⟩
 intro k hk
 repeat' first|refine zie rfl ?_|refine zc4 rfl ?_|refine zc7 ?_|refine zc8 ?_|refine zc5 ?_|refine zc6 ?_|(simp (maxSteps:=2000000) only [go_sem,yqa,yqb,yqc,yqd,yqe,yqf];try rfl)|refine zc3 ?_|(refine And.intro ?_ ?_;focus (intros;simp_all only [yqg,yqh,yqi,and_self,true_and,and_true];done))
 refine zc9 rfl (fun hd=>?_) (fun hd=>?_)
 ·have hlt:=zjH hd
  repeat' first|refine zie rfl ?_|refine zc4 rfl ?_|refine zc7 ?_|refine zc8 ?_|refine zc5 ?_|refine zc6 ?_|refine zhF (fun _=>zrV _ _ (hp.el hlt)) ?_|refine zhF (fun _=>zrU c _ _ hp) ?_|(simp (maxSteps:=2000000) only [go_sem,yqa,yqb,yqc,yqd,yqe,yqf,zlj hp hlt,hp.some hlt,hlt,yqj];try rfl)|refine zc3 ?_|(refine And.intro ?_ ?_;focus (intros;simp_all only [yqg,yqh,yqi,and_self,true_and,and_true];done))
  refine zc9 rfl (fun hq=>?_) (fun hq=>?_)
  ·repeat' first|refine zie rfl ?_|refine zc4 rfl ?_|refine zc7 ?_|refine zc8 ?_|refine zc5 ?_|refine zc6 ?_|(simp (maxSteps:=2000000) only [go_sem,yqa,yqb,yqc,yqd,yqe,yqf];try rfl)|refine zc3 ?_|(refine And.intro ?_ ?_;focus (intros;simp_all only [yqg,yqh,yqi,and_self,true_and,and_true];done))
   rw [zrE hlt ?_]
   rw [shOk,hget hlt]
   rcases (yqh _ _).mp hq with h1|h1
   ·rw [Bool.not_eq_true'] at h1;rw [h1];rfl
   ·rw [decide_eq_false (zjD h1),Bool.and_false]
  ·obtain ⟨h1,h2⟩:=Bool.or_eq_false_iff.1 hq
   rw [Bool.not_eq_false'] at h1
   repeat' first|refine zie rfl ?_|refine zc4 rfl ?_|refine zc7 ?_|refine zc8 ?_|refine zc5 ?_|refine zc6 ?_|(simp (maxSteps:=2000000) only [go_sem,yqa,yqb,yqc,yqd,yqe,yqf];try rfl)|refine zc3 ?_|(refine And.intro ?_ ?_;focus (intros;simp_all only [yqg,yqh,yqi,and_self,true_and,and_true];done))
   exact ⟨k+1,⟨hlt,zrF hk.2 (by rw [shOk,hget hlt,h1,decide_eq_true (zjE h2)];rfl)⟩,by omega,zjB (zjA hlt (by omega))⟩
 ·have hge:=zjI hd
  repeat' first|refine zie rfl ?_|refine zc4 rfl ?_|refine zc7 ?_|refine zc8 ?_|refine zc5 ?_|refine zc6 ?_|(simp (maxSteps:=2000000) only [go_sem,yqa,yqb,yqc,yqd,yqe,yqf];try rfl)|refine zc3 ?_|(refine And.intro ?_ ?_;focus (intros;simp_all only [yqg,yqh,yqi,and_self,true_and,and_true];done))
  rw [zrG hge hk.2]
theorem zJe (s:DRegime) (h:Hp):Ct Tryz.prog 191 [s.v] h fun v h'=>v=.bool (zJb s)∧h'=h:=by
 refine zdn (fun A W=>by simp) Tryz.func191 rfl rfl (by simp) fun W0=>?_
 repeat' first|refine zie rfl ?_|refine zc4 rfl ?_|refine zc7 ?_|refine zc8 ?_|refine zc5 ?_|refine zc6 ?_|refine zhF (fun _=>zrd _ _ _ _) ?_|(simp (maxSteps:=2000000) only [go_sem,yqa,yqb,yqc,yqd,yqe,yqf];try rfl)|refine zc3 ?_|(refine And.intro ?_ ?_;focus (intros;simp_all only [yqg,yqh,yqi,and_self,true_and,and_true];done))
theorem zrX {l:List Int} {k:Nat} (hk:k < l.length) (h:In l[k] 0 240=false):zrP l=false:=by rw [zrP,zrn (p:=fun n=>In n 0 240) hk h,Bool.and_false]
theorem zrY {l:List Int} {k:Nat} (h64:l.length=64) (hk:l.length≤k) (hp:(l.take k).all (fun n=>In n 0 240)=true):zrP l=true:=by
 rw [List.take_of_length_le hk] at hp
 rw [zrP,hp,decide_eq_true h64];rfl
theorem zrZ (n:Int) (a:Sl Int) (h:Hp) (ha:a.Ok h):Ct Tryz.prog 228 [.int .i64 n,a.val] h fun v h'=>v=.bool (In n 0 2880 && zrP a.l)∧h'=h:=by
 have hl:=ha.max
 refine zdn (fun A W=>by simp) Tryz.func228 rfl rfl (by simp) fun W0=>?_
 repeat' first|refine zie rfl ?_|refine zc4 rfl ?_|refine zc7 ?_|refine zc8 ?_|refine zc5 ?_|refine zc6 ?_|refine zhF (fun _=>zrc _ _ _ _) ?_|(simp (maxSteps:=2000000) only [go_sem,yqa,yqb,yqc,yqd,yqe,yqf];try rfl)|refine zc3 ?_|(refine And.intro ?_ ?_;focus (intros;simp_all only [yqg,yqh,yqi,and_self,true_and,and_true];done))
 refine zc9 rfl (fun hc=>?_) (fun hc=>?_)
 ·repeat' first|refine zie rfl ?_|refine zc4 rfl ?_|refine zc7 ?_|refine zc8 ?_|refine zc5 ?_|refine zc6 ?_|(simp (maxSteps:=2000000) only [go_sem,yqa,yqb,yqc,yqd,yqe,yqf];try rfl)|refine zc3 ?_|(refine And.intro ?_ ?_;focus (intros;simp_all only [yqg,yqh,yqi,and_self,true_and,and_true];done))
  congr 1
  rcases (yqh _ _).mp hc with h1|h1
  ·rw [Bool.not_eq_true'] at h1;rw [In,h1];rfl
  ·rw [zrP,decide_eq_false (by have:=zjD h1;omega),Bool.false_and,Bool.and_false]
 obtain ⟨h1,h2⟩:=Bool.or_eq_false_iff.1 hc
 rw [Bool.not_eq_false'] at h1
 have h64:a.l.length=64:=by have:=zjE h2;omega
 rw [In,h1,Bool.true_and]
 repeat' first|refine zie rfl ?_|refine zc4 rfl ?_|refine zc7 ?_|refine zc8 ?_|refine zc5 ?_|refine zc6 ?_|(simp (maxSteps:=2000000) only [go_sem,yqa,yqb,yqc,yqd,yqe,yqf];try rfl)|refine zc3 ?_|(refine And.intro ?_ ?_;focus (intros;simp_all only [yqg,yqh,yqi,and_self,true_and,and_true];done))
 refine zde (ι:=Nat) (fun k=>⟨[(15,true,.c (.v a.val)),(16,true,.c (.v (.int .i64 a.l.length))),(17,true,.c (.v (.int .i64 k)))],[],h,0⟩) (fun k=>k≤a.l.length∧(a.l.take k).all (fun n=>In n 0 240)=true) (fun k=>a.l.length - k) 0 ⟨Nat.zero_le _,rfl⟩ ?_ ?_
 ·simp (maxSteps:=2000000) only [go_sem,yqa,yqb,yqc,yqd,yqe,yqf]
  first|exact rfl|exact ⟨rfl,rfl⟩|exact ⟨rfl,rfl,rfl⟩|exact ⟨rfl,rfl,rfl,rfl⟩|exact ⟨rfl,rfl,rfl,rfl,rfl⟩
 intro k hk
 repeat' first|refine zie rfl ?_|refine zc4 rfl ?_|refine zc7 ?_|refine zc8 ?_|refine zc5 ?_|refine zc6 ?_|(simp (maxSteps:=2000000) only [go_sem,yqa,yqb,yqc,yqd,yqe,yqf];try rfl)|refine zc3 ?_|(refine And.intro ?_ ?_;focus (intros;simp_all only [yqg,yqh,yqi,and_self,true_and,and_true];done))
 refine zc9 rfl (fun hd=>?_) (fun hd=>?_)
 ·have hlt:=zjH hd
  repeat' first|refine zie rfl ?_|refine zc4 rfl ?_|refine zc7 ?_|refine zc8 ?_|refine zc5 ?_|refine zc6 ?_|refine zhF (fun _=>zrc _ _ _ _) ?_|(simp (maxSteps:=2000000) only [go_sem,yqa,yqb,yqc,yqd,yqe,yqf,zkR ha hlt,ha.some hlt,hlt,yqj];try rfl)|refine zc3 ?_|(refine And.intro ?_ ?_;focus (intros;simp_all only [yqg,yqh,yqi,and_self,true_and,and_true];done))
  refine zc9 rfl (fun hq=>?_) (fun hq=>?_)
  ·rw [Bool.not_eq_true'] at hq
   repeat' first|refine zie rfl ?_|refine zc4 rfl ?_|refine zc7 ?_|refine zc8 ?_|refine zc5 ?_|refine zc6 ?_|(simp (maxSteps:=2000000) only [go_sem,yqa,yqb,yqc,yqd,yqe,yqf];try rfl)|refine zc3 ?_|(refine And.intro ?_ ?_;focus (intros;simp_all only [yqg,yqh,yqi,and_self,true_and,and_true];done))
   rw [zrX hlt hq]
  ·rw [Bool.not_eq_false'] at hq
   repeat' first|refine zie rfl ?_|refine zc4 rfl ?_|refine zc7 ?_|refine zc8 ?_|refine zc5 ?_|refine zc6 ?_|(simp (maxSteps:=2000000) only [go_sem,yqa,yqb,yqc,yqd,yqe,yqf];try rfl)|refine zc3 ?_|(refine And.intro ?_ ?_;focus (intros;simp_all only [yqg,yqh,yqi,and_self,true_and,and_true];done))
   exact ⟨k+1,⟨hlt,zro hlt hk.2 hq⟩,by omega,zjB (zjA hlt (by omega))⟩
 ·have hge:=zjI hd
  repeat' first|refine zie rfl ?_|refine zc4 rfl ?_|refine zc7 ?_|refine zc8 ?_|refine zc5 ?_|refine zc6 ?_|(simp (maxSteps:=2000000) only [go_sem,yqa,yqb,yqc,yqd,yqe,yqf];try rfl)|refine zc3 ?_|(refine And.intro ?_ ?_;focus (intros;simp_all only [yqg,yqh,yqi,and_self,true_and,and_true];done))
  rw [zrY h64 hge hk.2]
theorem zr0 (a:Sl Int) (h:Hp) (ha:a.Ok h):Ct Tryz.prog 237 [a.val] h fun v h'=>v=.bool (zrP a.l)∧h'=h:=by
 have hl:=ha.max
 refine zdn (fun A W=>by simp) Tryz.func237 rfl rfl (by simp) fun W0=>?_
 repeat' first|refine zie rfl ?_|refine zc4 rfl ?_|refine zc7 ?_|refine zc8 ?_|refine zc5 ?_|refine zc6 ?_|(simp (maxSteps:=2000000) only [go_sem,yqa,yqb,yqc,yqd,yqe,yqf];try rfl)|refine zc3 ?_|(refine And.intro ?_ ?_;focus (intros;simp_all only [yqg,yqh,yqi,and_self,true_and,and_true];done))
 refine zc9 rfl (fun hc=>?_) (fun hc=>?_)
 ·repeat' first|refine zie rfl ?_|refine zc4 rfl ?_|refine zc7 ?_|refine zc8 ?_|refine zc5 ?_|refine zc6 ?_|(simp (maxSteps:=2000000) only [go_sem,yqa,yqb,yqc,yqd,yqe,yqf];try rfl)|refine zc3 ?_|(refine And.intro ?_ ?_;focus (intros;simp_all only [yqg,yqh,yqi,and_self,true_and,and_true];done))
  rw [zrP,decide_eq_false (by have:=zjD hc;omega)];rfl
 have h64:a.l.length=64:=by have:=zjE hc;omega
 repeat' first|refine zie rfl ?_|refine zc4 rfl ?_|refine zc7 ?_|refine zc8 ?_|refine zc5 ?_|refine zc6 ?_|(simp (maxSteps:=2000000) only [go_sem,yqa,yqb,yqc,yqd,yqe,yqf];try rfl)|refine zc3 ?_|(refine And.intro ?_ ?_;focus (intros;simp_all only [yqg,yqh,yqi,and_self,true_and,and_true];done))
 refine zde (ι:=Nat) (fun k=>⟨[(8,true,.c (.v a.val)),(9,true,.c (.v (.int .i64 a.l.length))),(10,true,.c (.v (.int .i64 k)))],[],h,0⟩) (fun k=>k≤a.l.length∧(a.l.take k).all (fun n=>In n 0 240)=true) (fun k=>a.l.length - k) 0 ⟨Nat.zero_le _,rfl⟩ ?_ ?_
 ·simp (maxSteps:=2000000) only [go_sem,yqa,yqb,yqc,yqd,yqe,yqf]
  first|exact rfl|exact ⟨rfl,rfl⟩|exact ⟨rfl,rfl,rfl⟩|exact ⟨rfl,rfl,rfl,rfl⟩|exact ⟨rfl,rfl,rfl,rfl,rfl⟩
 intro k hk
 repeat' first|refine zie rfl ?_|refine zc4 rfl ?_|refine zc7 ?_|refine zc8 ?_|refine zc5 ?_|refine zc6 ?_|(simp (maxSteps:=2000000) only [go_sem,yqa,yqb,yqc,yqd,yqe,yqf];try rfl)|refine zc3 ?_|(refine And.intro ?_ ?_;focus (intros;simp_all only [yqg,yqh,yqi,and_self,true_and,and_true];done))
 refine zc9 rfl (fun hd=>?_) (fun hd=>?_)
 ·have hlt:=zjH hd
  repeat' first|refine zie rfl ?_|refine zc4 rfl ?_|refine zc7 ?_|refine zc8 ?_|refine zc5 ?_|refine zc6 ?_|refine zhF (fun _=>zrd _ _ _ _) ?_|(simp (maxSteps:=2000000) only [go_sem,yqa,yqb,yqc,yqd,yqe,yqf,zkR ha hlt,ha.some hlt,hlt,yqj];try rfl)|refine zc3 ?_|(refine And.intro ?_ ?_;focus (intros;simp_all only [yqg,yqh,yqi,and_self,true_and,and_true];done))
  refine zc9 rfl (fun hq=>?_) (fun hq=>?_)
  ·rw [Bool.not_eq_true'] at hq
   repeat' first|refine zie rfl ?_|refine zc4 rfl ?_|refine zc7 ?_|refine zc8 ?_|refine zc5 ?_|refine zc6 ?_|(simp (maxSteps:=2000000) only [go_sem,yqa,yqb,yqc,yqd,yqe,yqf];try rfl)|refine zc3 ?_|(refine And.intro ?_ ?_;focus (intros;simp_all only [yqg,yqh,yqi,and_self,true_and,and_true];done))
   rw [zrX hlt hq]
  ·rw [Bool.not_eq_false'] at hq
   repeat' first|refine zie rfl ?_|refine zc4 rfl ?_|refine zc7 ?_|refine zc8 ?_|refine zc5 ?_|refine zc6 ?_|(simp (maxSteps:=2000000) only [go_sem,yqa,yqb,yqc,yqd,yqe,yqf];try rfl)|refine zc3 ?_|(refine And.intro ?_ ?_;focus (intros;simp_all only [yqg,yqh,yqi,and_self,true_and,and_true];done))
   exact ⟨k+1,⟨hlt,zro hlt hk.2 hq⟩,by omega,zjB (zjA hlt (by omega))⟩
 ·have hge:=zjI hd
  repeat' first|refine zie rfl ?_|refine zc4 rfl ?_|refine zc7 ?_|refine zc8 ?_|refine zc5 ?_|refine zc6 ?_|(simp (maxSteps:=2000000) only [go_sem,yqa,yqb,yqc,yqd,yqe,yqf];try rfl)|refine zc3 ?_|(refine And.intro ?_ ?_;focus (intros;simp_all only [yqg,yqh,yqi,and_self,true_and,and_true];done))
  rw [zrY h64 hge hk.2]
theorem zr1 (w:DCrew):zrQ (Con.con w)=(In w.tugs 0 12 && In w.pilots 0 12 && (In w.rest 0 2880 && zrP w.moves.l)):=by
 rw [zrQ,show (Con.con w).moves=w.moves.l from zkA];rfl
theorem zr2 (w:DCrew) (h:Hp) (hw:Enc.ok h w):Ct Tryz.prog 178 [w.v] h fun v h'=>v=.bool (zrQ (Con.con w))∧h'=h:=by
 rw [zr1]
 refine zdn (fun A W=>by simp) Tryz.func178 rfl rfl (by simp) fun W0=>?_
 repeat' first|refine zie rfl ?_|refine zc4 rfl ?_|refine zc7 ?_|refine zc8 ?_|refine zc5 ?_|refine zc6 ?_|refine zhF (fun _=>zrc _ _ _ _) ?_|refine zhF (fun _=>zrZ _ _ _ hw.2.2.2) ?_|(simp (maxSteps:=2000000) only [go_sem,yqa,yqb,yqc,yqd,yqe,yqf];try rfl)|refine zc3 ?_|(refine And.intro ?_ ?_;focus (intros;simp_all only [yqg,yqh,yqi,and_self,true_and,and_true];done))
theorem zr3 (w:DCrew) (h:Hp) (hw:Enc.ok h w):Ct Tryz.prog 192 [w.v] h fun v h'=>v=.bool (zrQ (Con.con w))∧h'=h:=by
 rw [zr1]
 refine zdn (fun A W=>by simp) Tryz.func192 rfl rfl (by simp) fun W0=>?_
 repeat' first|refine zie rfl ?_|refine zc4 rfl ?_|refine zc7 ?_|refine zc8 ?_|refine zc5 ?_|refine zc6 ?_|refine zhF (fun _=>zrd _ _ _ _) ?_|refine zhF (fun _=>zre _ _) ?_|refine zhF (fun _=>zr0 _ _ hw.2.2.2) ?_|(simp (maxSteps:=2000000) only [go_sem,yqa,yqb,yqc,yqd,yqe,yqf];try rfl)|refine zc3 ?_|(refine And.intro ?_ ?_;focus (intros;simp_all only [yqg,yqh,yqi,and_self,true_and,and_true];done))
 congr 1;rw [Bool.eq_iff_iff];simp only [In,yqi,yqh,Bool.not_eq_true',decide_eq_true_eq,decide_eq_false_iff_not,beq_iff_eq,and_assoc]
theorem zJf (x:DHarbour):zJc (Con.con x)=(zIb (Con.con x.forecast) && zrC (Con.con x.chart) && zrO x.fleet.l && zJb x.regime && zrQ (Con.con x.crew)):=by
 rw [zJc,show (Con.con x).fleet=x.fleet.l from zrv _];rfl
theorem zJg (x:DHarbour) (h:Hp) (hx:Enc.ok h x):Ct Tryz.prog 118 [x.v] h fun v h'=>v=.bool (zJc (Con.con x))∧h'=h:=by
 obtain ⟨o1,o2,o3,o4,o5⟩:=hx
 rw [zJf]
 refine zdn (fun A W=>by simp) Tryz.func118 rfl rfl (by simp) fun W0=>?_
 repeat' first|refine zie rfl ?_|refine zc4 rfl ?_|refine zc7 ?_|refine zc8 ?_|refine zc5 ?_|refine zc6 ?_|refine zhF (fun _=>zId x.forecast _ o1) ?_|refine zhF (fun _=>zrK x.chart _ o2) ?_|refine zhF (fun _=>zrT _ _ o3) ?_|refine zhF (fun _=>zJd x.regime _) ?_|refine zhF (fun _=>zr2 x.crew _ o5) ?_|(simp (maxSteps:=2000000) only [go_sem,yqa,yqb,yqc,yqd,yqe,yqf];try rfl)|refine zc3 ?_|(refine And.intro ?_ ?_;focus (intros;simp_all only [yqg,yqh,yqi,and_self,true_and,and_true];done))
theorem zJh (x:DHarbour) (h:Hp) (hx:Enc.ok h x):Ct Tryz.prog 131 [x.v] h fun v h'=>v=.bool (zJc (Con.con x))∧h'=h:=by
 obtain ⟨o1,o2,o3,o4,o5⟩:=hx
 rw [zJf]
 refine zdn (fun A W=>by simp) Tryz.func131 rfl rfl (by simp) fun W0=>?_
 repeat' first|refine zie rfl ?_|refine zc4 rfl ?_|refine zc7 ?_|refine zc8 ?_|refine zc5 ?_|refine zc6 ?_|refine zhF (fun _=>zIe x.forecast _ o1) ?_|refine zhF (fun _=>zrL x.chart _ o2) ?_|refine zhF (fun _=>zrW _ _ o3) ?_|refine zhF (fun _=>zJe x.regime _) ?_|refine zhF (fun _=>zr3 x.crew _ o5) ?_|(simp (maxSteps:=2000000) only [go_sem,yqa,yqb,yqc,yqd,yqe,yqf];try rfl)|refine zc3 ?_|(refine And.intro ?_ ?_;focus (intros;simp_all only [yqg,yqh,yqi,and_self,true_and,and_true];done))
end Go.Proofs.YtjiggadgmmjnhaaGreat
namespace Go.Proofs.YtjiggadgmmjnhaaGreat
open Go Go.SL
set_option maxHeartbeats 1000000
def zJi (x:PHarbour) (a:DCall):Bool:=decide (0≤a.ship∧a.ship < x.fleet.length∧0≤a.src∧a.src < x.chart.points.length∧0≤a.dst∧a.dst < x.chart.points.length∧a.src ≠ a.dst∧0≤a.ready∧a.ready≤2880∧a.ready≤a.due∧a.due≤2880)
def zJj (x:PHarbour) (a:DCall):Bool:=zJc x && zJi x a
theorem zJk (x:DHarbour) (a:DCall):zJi (Con.con x) a=decide (0≤a.ship∧a.ship < x.fleet.l.length∧0≤a.src∧a.src < x.chart.points.l.length∧0≤a.dst∧a.dst < x.chart.points.l.length∧a.src ≠ a.dst∧0≤a.ready∧a.ready≤2880∧a.ready≤a.due∧a.due≤2880):=by
 rw [zJi,show (Con.con x).fleet=x.fleet.l from zrv _,show (Con.con x).chart.points=x.chart.points.l from zrt _]
theorem zJl (x:DHarbour) (a:DCall) (h:Hp) (hx:Enc.ok h x):Ct Tryz.prog 132 [x.v,a.v] h fun v h'=>v=.bool (zJi (Con.con x) a)∧h'=h:=by
 rw [zJk]
 refine zdn (fun A W=>by simp) Tryz.func132 rfl rfl (by simp) fun W0=>?_
 repeat' first|refine zie rfl ?_|refine zc4 rfl ?_|refine zc7 ?_|refine zc8 ?_|refine zc5 ?_|refine zc6 ?_|refine zhF (fun _=>zrf _ _ _) ?_|refine zhF (fun _=>zre _ _) ?_|refine zhF (fun _=>zrd _ _ _ _) ?_|(simp (maxSteps:=2000000) only [go_sem,yqa,yqb,yqc,yqd,yqe,yqf];try rfl)|refine zc3 ?_|(refine And.intro ?_ ?_;focus (intros;simp_all only [yqg,yqh,yqi,and_self,true_and,and_true];done))
 congr 1
 rw [Bool.eq_iff_iff]
 simp only [yqi,decide_eq_true_eq,Bool.not_eq_true',beq_eq_false_iff_ne,bne_iff_ne,ne_eq,and_assoc]
 skip
theorem zJm (x:DHarbour) (a:DCall) (h:Hp) (hx:Enc.ok h x) (ha:Enc.ok h a):Ct Tryz.prog 96 [x.v,a.v] h fun v h'=>v=.bool (zJj (Con.con x) (Con.con a))∧h'=h:=by
 rw [zJj,show (Con.con a:DCall)=a from rfl]
 refine zdn (fun A W=>by simp) Tryz.func96 rfl rfl (by simp) fun W0=>?_
 repeat' first|refine zie rfl ?_|refine zc4 rfl ?_|refine zc7 ?_|refine zc8 ?_|refine zc5 ?_|refine zc6 ?_|refine zhF (fun _=>zJh x _ hx) ?_|refine zhF (fun _=>zJl x a _ hx) ?_|(simp (maxSteps:=2000000) only [go_sem,yqa,yqb,yqc,yqd,yqe,yqf];try rfl)|refine zc3 ?_|(refine And.intro ?_ ?_;focus (intros;simp_all only [yqg,yqh,yqi,and_self,true_and,and_true];done))
theorem zJn (x:DHarbour) (a:DCall) (h:Hp) (hx:Enc.ok h x) (ha:Enc.ok h a):Ct Tryz.prog 86 [x.v,a.v] h fun v h'=>v=.bool (zJj (Con.con x) (Con.con a))∧h'=h:=by
 have l1:=hx.2.1.1.max
 have l2:=hx.2.2.1.max
 have w1:IntKind.i64.wrap ((x.chart.points.l.length:Int) - 1)=(x.chart.points.l.length:Int) - 1:=zjz (by omega)
 have w2:IntKind.i64.wrap ((x.fleet.l.length:Int) - 1)=(x.fleet.l.length:Int) - 1:=zjz (by omega)
 rw [zJj,show (Con.con a:DCall)=a from rfl,zJk]
 refine zdn (fun A W=>by simp) Tryz.func86 rfl rfl (by simp) fun W0=>?_
 repeat' first|refine zie rfl ?_|refine zc4 rfl ?_|refine zc7 ?_|refine zc8 ?_|refine zc5 ?_|refine zc6 ?_|refine zhF (fun _=>zJg x _ hx) ?_|refine zhF (fun _=>zrc _ _ _ _) ?_|(simp (maxSteps:=2000000) only [go_sem,yqa,yqb,yqc,yqd,yqe,yqf,w1,w2];try rfl)|refine zc3 ?_|(refine And.intro ?_ ?_;focus (intros;simp_all only [yqg,yqh,yqi,and_self,true_and,and_true];done))
 congr 1
 rw [Bool.eq_iff_iff]
 simp only [yqi,decide_eq_true_eq,Bool.not_eq_true',beq_eq_false_iff_ne,bne_iff_ne,ne_eq,and_assoc]
 constructor <;> intro hh <;> refine ⟨hh.1,?_⟩ <;> omega
end Go.Proofs.YtjiggadgmmjnhaaGreat
namespace Go.Proofs.YtjiggadgmmjnhaaGreat
open Go Go.SL
set_option maxHeartbeats 1000000
def zr5 (s:DShip) (g:DSegment):Int:=if s.slow then IntKind.i64.wrap (2 * g.minutes) else g.minutes
theorem zr8 (c:DChart):(Con.con c).segments=c.segments.l:=zru _
theorem zsc (g:DSegment) (s:DShip) (h:Hp):Ct Tryz.prog 159 [g.v,s.v] h fun v h'=>v=.int .i64 (zr5 s g)∧h'=h:=by
 refine zdn (fun A W=>by simp) Tryz.func159 rfl rfl (by simp) fun W0=>?_
 repeat' first|refine zie rfl ?_|refine zc4 rfl ?_|refine zc7 ?_|refine zc8 ?_|refine zc5 ?_|refine zc6 ?_|(simp (maxSteps:=2000000) only [go_sem,yqa,yqb,yqc,yqd,yqe,yqf];try rfl)|refine zc3 ?_|(refine And.intro ?_ ?_;focus (intros;simp_all only [yqg,yqh,yqi,and_self,true_and,and_true];done))
 refine zc9 rfl (fun hq=>?_) (fun hq=>?_)
 ·repeat' first|refine zie rfl ?_|refine zc4 rfl ?_|refine zc7 ?_|refine zc8 ?_|refine zc5 ?_|refine zc6 ?_|(simp (maxSteps:=2000000) only [go_sem,yqa,yqb,yqc,yqd,yqe,yqf];try rfl)|refine zc3 ?_|(refine And.intro ?_ ?_;focus (intros;simp_all only [yqg,yqh,yqi,and_self,true_and,and_true];done))
  rw [zr5,if_pos hq]
 ·repeat' first|refine zie rfl ?_|refine zc4 rfl ?_|refine zc7 ?_|refine zc8 ?_|refine zc5 ?_|refine zc6 ?_|(simp (maxSteps:=2000000) only [go_sem,yqa,yqb,yqc,yqd,yqe,yqf];try rfl)|refine zc3 ?_|(refine And.intro ?_ ?_;focus (intros;simp_all only [yqg,yqh,yqi,and_self,true_and,and_true];done))
  rw [zr5,if_neg (by rw [hq];exact Bool.false_ne_true)]
theorem zsd (s:DShip) (g:DSegment) (h:Hp):Ct Tryz.prog 215 [s.v,g.v] h fun v h'=>v=.int .i64 (zr5 s g)∧h'=h:=by
 refine zdn (fun A W=>by simp) Tryz.func215 rfl rfl (by simp) fun W0=>?_
 repeat' first|refine zie rfl ?_|refine zc4 rfl ?_|refine zc7 ?_|refine zc8 ?_|refine zc5 ?_|refine zc6 ?_|(simp (maxSteps:=2000000) only [go_sem,yqa,yqb,yqc,yqd,yqe,yqf];try rfl)|refine zc3 ?_|(refine And.intro ?_ ?_;focus (intros;simp_all only [yqg,yqh,yqi,and_self,true_and,and_true];done))
 refine zc9 rfl (fun hq=>?_) (fun hq=>?_)
 ·repeat' first|refine zie rfl ?_|refine zc4 rfl ?_|refine zc7 ?_|refine zc8 ?_|refine zc5 ?_|refine zc6 ?_|(simp (maxSteps:=2000000) only [go_sem,yqa,yqb,yqc,yqd,yqe,yqf];try rfl)|refine zc3 ?_|(refine And.intro ?_ ?_;focus (intros;simp_all only [yqg,yqh,yqi,and_self,true_and,and_true];done))
  rw [zr5,if_pos hq]
 ·repeat' first|refine zie rfl ?_|refine zc4 rfl ?_|refine zc7 ?_|refine zc8 ?_|refine zc5 ?_|refine zc6 ?_|(simp (maxSteps:=2000000) only [go_sem,yqa,yqb,yqc,yqd,yqe,yqf];try rfl)|refine zc3 ?_|(refine And.intro ?_ ?_;focus (intros;simp_all only [yqg,yqh,yqi,and_self,true_and,and_true];done))
  rw [zr5,if_neg (by rw [hq];exact Bool.false_ne_true)]
theorem zse (c:DChart) (k:Int) (s:DShip) (h:Hp) (hc:Enc.ok h c) (hs:Enc.ok h s):Ct Tryz.prog 256 [c.v,.int .i64 k,s.v] h fun v h'=>v=.int .i64 (if zrC (Con.con c)=true∧zrN s=true∧0≤k∧k < c.segments.l.length then zr5 s (c.segments.l.getD k.toNat dG) else 0)∧h'=h:=by
 have hg:=hc.2
 have hl:=hg.max
 have hw:IntKind.i64.wrap ((c.segments.l.length:Int) - 1)=(c.segments.l.length:Int) - 1:=zjz (by omega)
 refine zdn (fun A W=>by simp) Tryz.func256 rfl rfl (by simp) fun W0=>?_
 repeat' first|refine zie rfl ?_|refine zc4 rfl ?_|refine zc7 ?_|refine zc8 ?_|refine zc5 ?_|refine zc6 ?_|refine zhF (fun _=>zrK c _ hc) ?_|refine zhF (fun _=>zrS s _ hs) ?_|refine zhF (fun _=>zrc _ _ _ _) ?_|(simp (maxSteps:=2000000) only [go_sem,yqa,yqb,yqc,yqd,yqe,yqf,hw];try rfl)|refine zc3 ?_|(refine And.intro ?_ ?_;focus (intros;simp_all only [yqg,yqh,yqi,and_self,true_and,and_true];done))
 refine zc9 rfl (fun hq=>?_) (fun hq=>?_)
 ·repeat' first|refine zie rfl ?_|refine zc4 rfl ?_|refine zc7 ?_|refine zc8 ?_|refine zc5 ?_|refine zc6 ?_|(simp (maxSteps:=2000000) only [go_sem,yqa,yqb,yqc,yqd,yqe,yqf];try rfl)|refine zc3 ?_|(refine And.intro ?_ ?_;focus (intros;simp_all only [yqg,yqh,yqi,and_self,true_and,and_true];done))
  simp only [yqh,Bool.not_eq_true',Bool.and_eq_false_iff,decide_eq_false_iff_not] at hq
  rw [if_neg]
  rintro ⟨h1,h2,h3,h4⟩
  rw [h1,h2] at hq
  rcases hq with (hq|hq)|hq
  ·cases hq
  ·cases hq
  ·omega
 ·simp only [yqg,Bool.not_eq_false',yqi,decide_eq_true_eq] at hq
  obtain ⟨⟨h1,h2⟩,h3,h4⟩:=hq
  have hs':k.toNat < c.segments.l.length:=by omega
  have h4':k < (c.segments.l.length:Int):=by omega
  rw [if_pos ⟨h1,h2,h3,h4'⟩,gget hs']
  repeat' first|refine zie rfl ?_|refine zc4 rfl ?_|refine zc7 ?_|refine zc8 ?_|refine zc5 ?_|refine zc6 ?_|(simp (maxSteps:=2000000) only [go_sem,yqa,yqb,yqc,yqd,yqe,yqf];try rfl)|refine zc3 ?_|(refine And.intro ?_ ?_;focus (intros;simp_all only [yqg,yqh,yqi,and_self,true_and,and_true];done))
  refine ziV rfl ?_
  refine zi3 [0,1,2,3,4,5] rfl (by kernel_rfl) ?_
  simp (maxSteps:=2000000) only [go_sem,yqa,yqb,yqc,yqd,yqe,yqf,zld hg hs',hg.some hs',hs',h3,h4']
  refine ziT [6] (by kernel_rfl) (by kernel_rfl) ?_
  simp (maxSteps:=2000000) only [go_sem,yqa,yqb,yqc,yqd,yqe,yqf,zld hg hs',hg.some hs',hs',h3,h4']
  refine zhF (fun _=>zsc _ _ _) ?_
  simp (maxSteps:=2000000) only [go_sem,yqa,yqb,yqc,yqd,yqe,yqf,zld hg hs',hg.some hs',hs',h3,h4']
  refine zi3 [7] rfl (by kernel_rfl) ?_
  simp (maxSteps:=2000000) only [go_sem,yqa,yqb,yqc,yqd,yqe,yqf]
  refine ziU (by kernel_rfl) ?_
  repeat' first|refine zie rfl ?_|refine zc4 rfl ?_|refine zc7 ?_|refine zc8 ?_|refine zc5 ?_|refine zc6 ?_|(simp (maxSteps:=2000000) only [go_sem,yqa,yqb,yqc,yqd,yqe,yqf];try rfl)|refine zc3 ?_|(refine And.intro ?_ ?_;focus (intros;simp_all only [yqg,yqh,yqi,and_self,true_and,and_true];done))
end Go.Proofs.YtjiggadgmmjnhaaGreat
namespace Go.Proofs.YtjiggadgmmjnhaaGreat
open Go Go.SL
set_option maxHeartbeats 1000000
def zJo (s:DShip):Int:=if s.slow=true then Int.tdiv s.draught 50 else Int.tdiv s.draught 20
def zJp (s:DShip):Int:=IntKind.i64.wrap (IntKind.i64.wrap (s.draught+IntKind.i64.wrap (zJo s))+50)
def zJq (c:PChart) (k:Int) (s:DShip):Bool:=zrC c && zrN s && decide (0≤k∧k < c.segments.length)
def zJr (c:PChart) (k:Int) (s:DShip):Int:=if zJq c k s=true then IntKind.i64.wrap (zJp s - (c.segments.getD k.toNat dG).depth) else 0
def zJs (c:PChart) (k:Int) (s:DShip):Int:=if zJq c k s=true then zr5 s (c.segments.getD k.toNat dG) else 0
theorem zJt {c:PChart} {k:Int} {s:DShip} (h:zJq c k s=true):zrC c=true∧zrN s=true∧0≤k∧k < c.segments.length:=by
 simp only [zJq,yqi,decide_eq_true_eq] at h
 exact ⟨h.1.1,h.1.2,h.2.1,h.2.2⟩
theorem zJu (s:DShip) (h:Hp):Ct Tryz.prog 276 [s.v] h fun v h'=>v=.int .i64 (IntKind.i64.wrap (zJo s))∧h'=h:=by
 rw [zJo]
 refine zdn (fun A W=>by simp) Tryz.func276 rfl rfl (by simp) fun W0=>?_
 repeat' first|refine zie rfl ?_|refine zc4 rfl ?_|refine zc7 ?_|refine zc8 ?_|refine zc5 ?_|refine zc6 ?_|(simp (maxSteps:=2000000) only [go_sem,yqa,yqb,yqc,yqd,yqe,yqf];try rfl)|refine zc3 ?_|(refine And.intro ?_ ?_;focus (intros;simp_all only [yqg,yqh,yqi,and_self,true_and,and_true];done))
 refine zc9 rfl (fun hq=>?_) (fun hq=>?_)
 ·repeat' first|refine zie rfl ?_|refine zc4 rfl ?_|refine zc7 ?_|refine zc8 ?_|refine zc5 ?_|refine zc6 ?_|(simp (maxSteps:=2000000) only [go_sem,yqa,yqb,yqc,yqd,yqe,yqf];try rfl)|refine zc3 ?_|(refine And.intro ?_ ?_;focus (intros;simp_all only [yqg,yqh,yqi,and_self,true_and,and_true];done))
  refine ⟨by decide,?_⟩
  repeat' first|refine zie rfl ?_|refine zc4 rfl ?_|refine zc7 ?_|refine zc8 ?_|refine zc5 ?_|refine zc6 ?_|(simp (maxSteps:=2000000) only [go_sem,yqa,yqb,yqc,yqd,yqe,yqf];try rfl)|refine zc3 ?_|(refine And.intro ?_ ?_;focus (intros;simp_all only [yqg,yqh,yqi,and_self,true_and,and_true];done))
  rw [if_pos hq]
 ·repeat' first|refine zie rfl ?_|refine zc4 rfl ?_|refine zc7 ?_|refine zc8 ?_|refine zc5 ?_|refine zc6 ?_|(simp (maxSteps:=2000000) only [go_sem,yqa,yqb,yqc,yqd,yqe,yqf];try rfl)|refine zc3 ?_|(refine And.intro ?_ ?_;focus (intros;simp_all only [yqg,yqh,yqi,and_self,true_and,and_true];done))
  refine ⟨by decide,?_⟩
  repeat' first|refine zie rfl ?_|refine zc4 rfl ?_|refine zc7 ?_|refine zc8 ?_|refine zc5 ?_|refine zc6 ?_|(simp (maxSteps:=2000000) only [go_sem,yqa,yqb,yqc,yqd,yqe,yqf];try rfl)|refine zc3 ?_|(refine And.intro ?_ ?_;focus (intros;simp_all only [yqg,yqh,yqi,and_self,true_and,and_true];done))
  rw [if_neg (by rw [hq];exact Bool.false_ne_true)]
theorem zJv (s:DShip) (h:Hp):Ct Tryz.prog 265 [s.v] h fun v h'=>v=.int .i64 (zJp s)∧h'=h:=by
 rw [zJp]
 refine zdn (fun A W=>by simp) Tryz.func265 rfl rfl (by simp) fun W0=>?_
 repeat' first|refine zie rfl ?_|refine zc4 rfl ?_|refine zc7 ?_|refine zc8 ?_|refine zc5 ?_|refine zc6 ?_|(simp (maxSteps:=2000000) only [go_sem,yqa,yqb,yqc,yqd,yqe,yqf];try rfl)|refine zc3 ?_|(refine And.intro ?_ ?_;focus (intros;simp_all only [yqg,yqh,yqi,and_self,true_and,and_true];done))
 refine zte rfl ?_
 refine zs7 [0,2,1] rfl (by kernel_rfl) ?_
 simp (maxSteps:=2000000) only [go_sem,yqa,yqb,yqc,yqd,yqe,yqf]
 refine ztc 3 0 [1,0] rfl (by kernel_rfl) (by kernel_rfl) (by kernel_rfl) rfl ?_
 simp (maxSteps:=2000000) only [go_sem,yqa,yqb,yqc,yqd,yqe,yqf]
 refine zhF (fun _=>zJu _ _) ?_
 simp (maxSteps:=2000000) only [go_sem,yqa,yqb,yqc,yqd,yqe,yqf]
 refine zs7 [4,5,6] rfl (by kernel_rfl) ?_
 simp (maxSteps:=2000000) only [go_sem,yqa,yqb,yqc,yqd,yqe,yqf]
 refine ztd (by kernel_rfl) ?_
 repeat' first|refine zie rfl ?_|refine zc4 rfl ?_|refine zc7 ?_|refine zc8 ?_|refine zc5 ?_|refine zc6 ?_|(simp (maxSteps:=2000000) only [go_sem,yqa,yqb,yqc,yqd,yqe,yqf];try rfl)|refine zc3 ?_|(refine And.intro ?_ ?_;focus (intros;simp_all only [yqg,yqh,yqi,and_self,true_and,and_true];done))
theorem zJw (s:DShip) (h:Hp) (hs:Enc.ok h s) (hok:zrN s=true):Ct Tryz.prog 278 [s.v] h fun v h'=>v=.int .i64 (IntKind.i64.wrap (zJo s))∧h'=h:=by
 rw [zJo]
 refine zdn (fun A W=>by simp) Tryz.func278 rfl rfl (by simp) fun W0=>?_
 repeat' first|refine zie rfl ?_|refine zc4 rfl ?_|refine zc7 ?_|refine zc8 ?_|refine zc5 ?_|refine zc6 ?_|refine zhF (fun _=>zrS _ _ hs) ?_|(simp (maxSteps:=2000000) only [go_sem,yqa,yqb,yqc,yqd,yqe,yqf];try rfl)|refine zc3 ?_|(refine And.intro ?_ ?_;focus (intros;simp_all only [yqg,yqh,yqi,and_self,true_and,and_true];done))
 refine zc9 rfl (fun hc=>?_) (fun hc=>?_)
 ·rw [hok] at hc;cases hc
 repeat' first|refine zie rfl ?_|refine zc4 rfl ?_|refine zc7 ?_|refine zc8 ?_|refine zc5 ?_|refine zc6 ?_|(simp (maxSteps:=2000000) only [go_sem,yqa,yqb,yqc,yqd,yqe,yqf];try rfl)|refine zc3 ?_|(refine And.intro ?_ ?_;focus (intros;simp_all only [yqg,yqh,yqi,and_self,true_and,and_true];done))
 refine zc9 rfl (fun hq=>?_) (fun hq=>?_)
 ·repeat' first|refine zie rfl ?_|refine zc4 rfl ?_|refine zc7 ?_|refine zc8 ?_|refine zc5 ?_|refine zc6 ?_|(simp (maxSteps:=2000000) only [go_sem,yqa,yqb,yqc,yqd,yqe,yqf];try rfl)|refine zc3 ?_|(refine And.intro ?_ ?_;focus (intros;simp_all only [yqg,yqh,yqi,and_self,true_and,and_true];done))
  refine ⟨by decide,?_⟩
  repeat' first|refine zie rfl ?_|refine zc4 rfl ?_|refine zc7 ?_|refine zc8 ?_|refine zc5 ?_|refine zc6 ?_|(simp (maxSteps:=2000000) only [go_sem,yqa,yqb,yqc,yqd,yqe,yqf];try rfl)|refine zc3 ?_|(refine And.intro ?_ ?_;focus (intros;simp_all only [yqg,yqh,yqi,and_self,true_and,and_true];done))
  rw [if_pos hq]
 ·repeat' first|refine zie rfl ?_|refine zc4 rfl ?_|refine zc7 ?_|refine zc8 ?_|refine zc5 ?_|refine zc6 ?_|(simp (maxSteps:=2000000) only [go_sem,yqa,yqb,yqc,yqd,yqe,yqf];try rfl)|refine zc3 ?_|(refine And.intro ?_ ?_;focus (intros;simp_all only [yqg,yqh,yqi,and_self,true_and,and_true];done))
  refine ⟨by decide,?_⟩
  repeat' first|refine zie rfl ?_|refine zc4 rfl ?_|refine zc7 ?_|refine zc8 ?_|refine zc5 ?_|refine zc6 ?_|(simp (maxSteps:=2000000) only [go_sem,yqa,yqb,yqc,yqd,yqe,yqf];try rfl)|refine zc3 ?_|(refine And.intro ?_ ?_;focus (intros;simp_all only [yqg,yqh,yqi,and_self,true_and,and_true];done))
  rw [if_neg (by rw [hq];exact Bool.false_ne_true)]
theorem zJx (s:DShip) (h:Hp) (hs:Enc.ok h s) (hok:zrN s=true):Ct Tryz.prog 268 [s.v] h fun v h'=>v=.int .i64 (zJp s)∧h'=h:=by
 rw [zJp]
 refine zdn (fun A W=>by simp) Tryz.func268 rfl rfl (by simp) fun W0=>?_
 repeat' first|refine zie rfl ?_|refine zc4 rfl ?_|refine zc7 ?_|refine zc8 ?_|refine zc5 ?_|refine zc6 ?_|refine zhF (fun _=>zrS _ _ hs) ?_|(simp (maxSteps:=2000000) only [go_sem,yqa,yqb,yqc,yqd,yqe,yqf];try rfl)|refine zc3 ?_|(refine And.intro ?_ ?_;focus (intros;simp_all only [yqg,yqh,yqi,and_self,true_and,and_true];done))
 refine zc9 rfl (fun hc=>?_) (fun hc=>?_)
 ·rw [hok] at hc;cases hc
 repeat' first|refine zie rfl ?_|refine zc4 rfl ?_|refine zc7 ?_|refine zc8 ?_|refine zc5 ?_|refine zc6 ?_|(simp (maxSteps:=2000000) only [go_sem,yqa,yqb,yqc,yqd,yqe,yqf];try rfl)|refine zc3 ?_|(refine And.intro ?_ ?_;focus (intros;simp_all only [yqg,yqh,yqi,and_self,true_and,and_true];done))
 refine zte rfl ?_
 refine zs7 [0,2,1] rfl (by kernel_rfl) ?_
 simp (maxSteps:=2000000) only [go_sem,yqa,yqb,yqc,yqd,yqe,yqf]
 refine ztc 3 0 [1,0] rfl (by kernel_rfl) (by kernel_rfl) (by kernel_rfl) rfl ?_
 simp (maxSteps:=2000000) only [go_sem,yqa,yqb,yqc,yqd,yqe,yqf]
 refine zhF (fun _=>zJw _ _ hs hok) ?_
 simp (maxSteps:=2000000) only [go_sem,yqa,yqb,yqc,yqd,yqe,yqf]
 refine zs7 [4,5,6] rfl (by kernel_rfl) ?_
 simp (maxSteps:=2000000) only [go_sem,yqa,yqb,yqc,yqd,yqe,yqf]
 refine ztd (by kernel_rfl) ?_
 repeat' first|refine zie rfl ?_|refine zc4 rfl ?_|refine zc7 ?_|refine zc8 ?_|refine zc5 ?_|refine zc6 ?_|(simp (maxSteps:=2000000) only [go_sem,yqa,yqb,yqc,yqd,yqe,yqf];try rfl)|refine zc3 ?_|(refine And.intro ?_ ?_;focus (intros;simp_all only [yqg,yqh,yqi,and_self,true_and,and_true];done))
theorem zJy (c:DChart) (k:Int) (s:DShip) (h:Hp) (hc:Enc.ok h c) (hs:Enc.ok h s):Ct Tryz.prog 252 [c.v,.int .i64 k,s.v] h fun v h'=>v=.bool (zJq (Con.con c) k s)∧h'=h:=by
 have hl:=hc.2.max
 have hw:IntKind.i64.wrap ((c.segments.l.length:Int) - 1)=(c.segments.l.length:Int) - 1:=zjz (by omega)
 refine zdn (fun A W=>by simp) Tryz.func252 rfl rfl (by simp) fun W0=>?_
 repeat' first|refine zie rfl ?_|refine zc4 rfl ?_|refine zc7 ?_|refine zc8 ?_|refine zc5 ?_|refine zc6 ?_|refine zhF (fun _=>zrK _ _ hc) ?_|refine zhF (fun _=>zrS _ _ hs) ?_|refine zhF (fun _=>zrc _ _ _ _) ?_|(simp (maxSteps:=2000000) only [go_sem,yqa,yqb,yqc,yqd,yqe,yqf,hw];try rfl)|refine zc3 ?_|(refine And.intro ?_ ?_;focus (intros;simp_all only [yqg,yqh,yqi,and_self,true_and,and_true];done))
 congr 1
 rw [zJq,zr8,Bool.eq_iff_iff]
 simp only [yqi,decide_eq_true_eq,and_assoc]
 constructor <;> (intro e;refine ⟨e.1,e.2.1,?_⟩;omega)
theorem zJz (c:DChart) (k:Int) (s:DShip) (h:Hp) (hc:Enc.ok h c) (hs:Enc.ok h s):Ct Tryz.prog 255 [c.v,.int .i64 k,s.v] h fun v h'=>v=.int .i64 (zJr (Con.con c) k s)∧h'=h:=by
 have hg:=hc.2
 rw [zJr]
 refine zdn (fun A W=>by simp) Tryz.func255 rfl rfl (by simp) fun W0=>?_
 repeat' first|refine zie rfl ?_|refine zc4 rfl ?_|refine zc7 ?_|refine zc8 ?_|refine zc5 ?_|refine zc6 ?_|refine zhF (fun _=>zJy _ _ _ _ hc hs) ?_|(simp (maxSteps:=2000000) only [go_sem,yqa,yqb,yqc,yqd,yqe,yqf];try rfl)|refine zc3 ?_|(refine And.intro ?_ ?_;focus (intros;simp_all only [yqg,yqh,yqi,and_self,true_and,and_true];done))
 refine zc9 rfl (fun hq=>?_) (fun hq=>?_)
 ·rw [Bool.not_eq_true'] at hq
  rw [if_neg (by rw [hq];exact Bool.false_ne_true)]
  repeat' first|refine zie rfl ?_|refine zc4 rfl ?_|refine zc7 ?_|refine zc8 ?_|refine zc5 ?_|refine zc6 ?_|(simp (maxSteps:=2000000) only [go_sem,yqa,yqb,yqc,yqd,yqe,yqf];try rfl)|refine zc3 ?_|(refine And.intro ?_ ?_;focus (intros;simp_all only [yqg,yqh,yqi,and_self,true_and,and_true];done))
 rw [Bool.not_eq_false'] at hq
 rw [if_pos hq]
 obtain ⟨h1,h2,h3,h4⟩:=zJt hq
 rw [zr8] at h4 ⊢
 have hi:k.toNat < c.segments.l.length:=by omega
 rw [gget hi]
 repeat' first|refine zie rfl ?_|refine zc4 rfl ?_|refine zc7 ?_|refine zc8 ?_|refine zc5 ?_|refine zc6 ?_|(simp (maxSteps:=2000000) only [go_sem,yqa,yqb,yqc,yqd,yqe,yqf];try rfl)|refine zc3 ?_|(refine And.intro ?_ ?_;focus (intros;simp_all only [yqg,yqh,yqi,and_self,true_and,and_true];done))
 refine zte rfl ?_
 refine zs7 [0,2,4,3,5,6,7] rfl (by kernel_rfl) ?_
 simp (maxSteps:=2000000) only [go_sem,yqa,yqb,yqc,yqd,yqe,yqf,zld hg hi,zyB hg hi,hg.some hi,h3,h4]
 refine ztc 1 0 [7,6,5,3,2] rfl (by kernel_rfl) (by kernel_rfl) (by kernel_rfl) rfl ?_
 simp (maxSteps:=2000000) only [go_sem,yqa,yqb,yqc,yqd,yqe,yqf,zld hg hi,zyB hg hi,hg.some hi,h3,h4]
 refine zhF (fun _=>zJx _ _ hs h2) ?_
 simp (maxSteps:=2000000) only [go_sem,yqa,yqb,yqc,yqd,yqe,yqf,zld hg hi,zyB hg hi,hg.some hi,h3,h4]
 refine zs7 [8,9] rfl (by kernel_rfl) ?_
 simp (maxSteps:=2000000) only [go_sem,yqa,yqb,yqc,yqd,yqe,yqf,zld hg hi,zyB hg hi,hg.some hi,h3,h4]
 refine ztd (by kernel_rfl) ?_
 repeat' first|refine zie rfl ?_|refine zc4 rfl ?_|refine zc7 ?_|refine zc8 ?_|refine zc5 ?_|refine zc6 ?_|(simp (maxSteps:=2000000) only [go_sem,yqa,yqb,yqc,yqd,yqe,yqf];try rfl)|refine zc3 ?_|(refine And.intro ?_ ?_;focus (intros;simp_all only [yqg,yqh,yqi,and_self,true_and,and_true];done))
theorem zJA (c:DChart) (k:Int) (s:DShip) (h:Hp) (hc:Enc.ok h c) (hs:Enc.ok h s):Ct Tryz.prog 246 [c.v,.int .i64 k,s.v] h fun v h'=>v=.bool (zJq (Con.con c) k s)∧h'=h:=by
 have hl:=hc.2.max
 have hw:IntKind.i64.wrap ((c.segments.l.length:Int) - 1)=(c.segments.l.length:Int) - 1:=zjz (by omega)
 refine zdn (fun A W=>by simp) Tryz.func246 rfl rfl (by simp) fun W0=>?_
 repeat' first|refine zie rfl ?_|refine zc4 rfl ?_|refine zc7 ?_|refine zc8 ?_|refine zc5 ?_|refine zc6 ?_|refine zhF (fun _=>zrL _ _ hc) ?_|refine zhF (fun _=>zrV _ _ hs) ?_|refine zhF (fun _=>zrf _ _ _) ?_|(simp (maxSteps:=2000000) only [go_sem,yqa,yqb,yqc,yqd,yqe,yqf];try rfl)|refine zc3 ?_|(refine And.intro ?_ ?_;focus (intros;simp_all only [yqg,yqh,yqi,and_self,true_and,and_true];done))
 congr 1
 rw [zJq,zr8,Bool.eq_iff_iff]
 simp only [yqi,decide_eq_true_eq,and_assoc]
theorem zJB (c:DChart) (k:Int) (s:DShip) (h:Hp) (hc:Enc.ok h c) (hs:Enc.ok h s):Ct Tryz.prog 249 [c.v,.int .i64 k,s.v] h fun v h'=>v=.int .i64 (zJr (Con.con c) k s)∧h'=h:=by
 have hg:=hc.2
 rw [zJr]
 refine zdn (fun A W=>by simp) Tryz.func249 rfl rfl (by simp) fun W0=>?_
 repeat' first|refine zie rfl ?_|refine zc4 rfl ?_|refine zc7 ?_|refine zc8 ?_|refine zc5 ?_|refine zc6 ?_|refine zhF (fun _=>zJA _ _ _ _ hc hs) ?_|(simp (maxSteps:=2000000) only [go_sem,yqa,yqb,yqc,yqd,yqe,yqf];try rfl)|refine zc3 ?_|(refine And.intro ?_ ?_;focus (intros;simp_all only [yqg,yqh,yqi,and_self,true_and,and_true];done))
 refine zc9 rfl (fun hq=>?_) (fun hq=>?_)
 ·rw [Bool.not_eq_true'] at hq
  rw [if_neg (by rw [hq];exact Bool.false_ne_true)]
  repeat' first|refine zie rfl ?_|refine zc4 rfl ?_|refine zc7 ?_|refine zc8 ?_|refine zc5 ?_|refine zc6 ?_|(simp (maxSteps:=2000000) only [go_sem,yqa,yqb,yqc,yqd,yqe,yqf];try rfl)|refine zc3 ?_|(refine And.intro ?_ ?_;focus (intros;simp_all only [yqg,yqh,yqi,and_self,true_and,and_true];done))
 rw [Bool.not_eq_false'] at hq
 rw [if_pos hq]
 obtain ⟨h1,h2,h3,h4⟩:=zJt hq
 rw [zr8] at h4 ⊢
 have hi:k.toNat < c.segments.l.length:=by omega
 rw [gget hi]
 repeat' first|refine zie rfl ?_|refine zc4 rfl ?_|refine zc7 ?_|refine zc8 ?_|refine zc5 ?_|refine zc6 ?_|(simp (maxSteps:=2000000) only [go_sem,yqa,yqb,yqc,yqd,yqe,yqf];try rfl)|refine zc3 ?_|(refine And.intro ?_ ?_;focus (intros;simp_all only [yqg,yqh,yqi,and_self,true_and,and_true];done))
 refine zte rfl ?_
 refine zs7 [0,2,4,3,5,6,7] rfl (by kernel_rfl) ?_
 simp (maxSteps:=2000000) only [go_sem,yqa,yqb,yqc,yqd,yqe,yqf,zld hg hi,zyB hg hi,hg.some hi,h3,h4]
 refine ztc 1 0 [7,6,5,3,2] rfl (by kernel_rfl) (by kernel_rfl) (by kernel_rfl) rfl ?_
 simp (maxSteps:=2000000) only [go_sem,yqa,yqb,yqc,yqd,yqe,yqf,zld hg hi,zyB hg hi,hg.some hi,h3,h4]
 refine zhF (fun _=>zJv _ _) ?_
 simp (maxSteps:=2000000) only [go_sem,yqa,yqb,yqc,yqd,yqe,yqf,zld hg hi,zyB hg hi,hg.some hi,h3,h4]
 refine zs7 [8,9] rfl (by kernel_rfl) ?_
 simp (maxSteps:=2000000) only [go_sem,yqa,yqb,yqc,yqd,yqe,yqf,zld hg hi,zyB hg hi,hg.some hi,h3,h4]
 refine ztd (by kernel_rfl) ?_
 repeat' first|refine zie rfl ?_|refine zc4 rfl ?_|refine zc7 ?_|refine zc8 ?_|refine zc5 ?_|refine zc6 ?_|(simp (maxSteps:=2000000) only [go_sem,yqa,yqb,yqc,yqd,yqe,yqf];try rfl)|refine zc3 ?_|(refine And.intro ?_ ?_;focus (intros;simp_all only [yqg,yqh,yqi,and_self,true_and,and_true];done))
theorem zJC (c:DChart) (k:Int) (s:DShip) (h:Hp) (hc:Enc.ok h c) (hs:Enc.ok h s):Ct Tryz.prog 250 [c.v,.int .i64 k,s.v] h fun v h'=>v=.int .i64 (zJs (Con.con c) k s)∧h'=h:=by
 have hg:=hc.2
 rw [zJs]
 refine zdn (fun A W=>by simp) Tryz.func250 rfl rfl (by simp) fun W0=>?_
 repeat' first|refine zie rfl ?_|refine zc4 rfl ?_|refine zc7 ?_|refine zc8 ?_|refine zc5 ?_|refine zc6 ?_|refine zhF (fun _=>zrL _ _ hc) ?_|refine zhF (fun _=>zrV _ _ hs) ?_|refine zhF (fun _=>zrf _ _ _) ?_|(simp (maxSteps:=2000000) only [go_sem,yqa,yqb,yqc,yqd,yqe,yqf];try rfl)|refine zc3 ?_|(refine And.intro ?_ ?_;focus (intros;simp_all only [yqg,yqh,yqi,and_self,true_and,and_true];done))
 have e:zJq (Con.con c) k s=(zrC (Con.con c) && (zrN s && (decide (0≤k) && decide (k < (c.segments.l.length:Int))))):=by
  rw [zJq,zr8,Bool.eq_iff_iff]
  simp only [yqi,decide_eq_true_eq,and_assoc]
 refine zc9 rfl (fun hq=>?_) (fun hq=>?_)
 ·rw [if_neg (by rw [e];intro e';simp only [yqi] at e';rw [e'.1,e'.2.1,e'.2.2.1,e'.2.2.2] at hq;cases hq)]
  repeat' first|refine zie rfl ?_|refine zc4 rfl ?_|refine zc7 ?_|refine zc8 ?_|refine zc5 ?_|refine zc6 ?_|(simp (maxSteps:=2000000) only [go_sem,yqa,yqb,yqc,yqd,yqe,yqf];try rfl)|refine zc3 ?_|(refine And.intro ?_ ?_;focus (intros;simp_all only [yqg,yqh,yqi,and_self,true_and,and_true];done))
 simp only [yqg,Bool.not_eq_false',yqi,decide_eq_true_eq,and_assoc] at hq
 obtain ⟨h1,h2,h3,h4⟩:=hq
 rw [if_pos (by rw [e,h1,h2,decide_eq_true h3,decide_eq_true h4];rfl),zr8]
 have hi:k.toNat < c.segments.l.length:=by omega
 rw [gget hi]
 repeat' first|refine zie rfl ?_|refine zc4 rfl ?_|refine zc7 ?_|refine zc8 ?_|refine zc5 ?_|refine zc6 ?_|(simp (maxSteps:=2000000) only [go_sem,yqa,yqb,yqc,yqd,yqe,yqf];try rfl)|refine zc3 ?_|(refine And.intro ?_ ?_;focus (intros;simp_all only [yqg,yqh,yqi,and_self,true_and,and_true];done))
 refine zte rfl ?_
 refine zs7 [0,1,3,2,4,5] rfl (by kernel_rfl) ?_
 simp (maxSteps:=2000000) only [go_sem,yqa,yqb,yqc,yqd,yqe,yqf,zld hg hi,hg.some hi,h3,h4]
 refine ztc 6 0 [] rfl (by kernel_rfl) (by kernel_rfl) (by kernel_rfl) rfl ?_
 simp (maxSteps:=2000000) only [go_sem,yqa,yqb,yqc,yqd,yqe,yqf,zld hg hi,hg.some hi,h3,h4]
 refine zhF (fun _=>zsd _ _ _) ?_
 simp (maxSteps:=2000000) only [go_sem,yqa,yqb,yqc,yqd,yqe,yqf,zld hg hi,hg.some hi,h3,h4]
 refine zs7 [7] rfl (by kernel_rfl) ?_
 simp (maxSteps:=2000000) only [go_sem,yqa,yqb,yqc,yqd,yqe,yqf,zld hg hi,hg.some hi,h3,h4]
 refine ztd (by kernel_rfl) ?_
 repeat' first|refine zie rfl ?_|refine zc4 rfl ?_|refine zc7 ?_|refine zc8 ?_|refine zc5 ?_|refine zc6 ?_|(simp (maxSteps:=2000000) only [go_sem,yqa,yqb,yqc,yqd,yqe,yqf];try rfl)|refine zc3 ?_|(refine And.intro ?_ ?_;focus (intros;simp_all only [yqg,yqh,yqi,and_self,true_and,and_true];done))
theorem zJD (c:DChart) (k:Int) (s:DShip) (h:Hp) (hc:Enc.ok h c) (hs:Enc.ok h s):Ct Tryz.prog 256 [c.v,.int .i64 k,s.v] h fun v h'=>v=.int .i64 (zJs (Con.con c) k s)∧h'=h:=by
 have:=zse c k s h hc hs
 have e:zJs (Con.con c) k s=(if zrC (Con.con c)=true∧zrN s=true∧0≤k∧k < c.segments.l.length then zr5 s (c.segments.l.getD k.toNat dG) else 0):=by
  rw [zJs,zJq,zr8]
  simp only [yqi,decide_eq_true_eq,and_assoc]
 rw [e];exact this
end Go.Proofs.YtjiggadgmmjnhaaGreat
namespace Go.Proofs.YtjiggadgmmjnhaaGreat
open Go Go.SL
set_option maxHeartbeats 1000000
theorem zJE {l0:List DWindow} {w:DWindow}:((l0 ++ [w]).flatMap Enc.enc).getD (l0.length * 2+1) undef=Value.int .i64 w.dst:=by
 have e1:(l0.flatMap Enc.enc).length=l0.length * 2:=ziq Enc.len _
 rw [List.flatMap_append,List.getD_eq_getElem?_getD,List.getElem?_append_right (by omega),e1,show l0.length * 2+1 - l0.length * 2=1 by omega]
 rfl
theorem bget {l:List Bool} {i:Nat} (hi:i < l.length):l.getD i false=l[i]:=by simp [List.getD_eq_getElem?_getD,hi]
theorem zJF (a:Sl Bool) (h:Hp) (ha:a.Ok h) (hz:a.l.length≤2881):Ct Tryz.prog 267 [a.val] h fun v h'=>∃ s:Sl DWindow,v=s.val∧s.l=zIW (fun i=>a.l.getD i false) a.l.length∧s.Ok h'∧Mine h h' s:=by
 refine zdn (fun A W=>by simp) Tryz.func267 rfl rfl (by simp) fun W0=>?_
 repeat' first|refine zie rfl ?_|refine zc4 rfl ?_|refine zc7 ?_|refine zc8 ?_|refine zc5 ?_|refine zc6 ?_|(simp (maxSteps:=2000000) only [go_sem,yqa,yqb,yqc,yqd,yqe,yqf];try rfl)|refine zc3 ?_|(refine And.intro ?_ ?_;focus (intros;simp_all only [yqg,yqh,yqi,and_self,true_and,and_true];done))
 refine zma (ι:=Nat) (fun k=>⟨[(3,true,.c (.s 0)),(7,true,.c (.v a.val)),(8,true,.c (.v (.int .i64 a.l.length))),(9,true,.c (.v (.int .i64 k)))],[(0,.row 279 2 (zIW (fun i=>a.l.getD i false) k).length ((zIW (fun i=>a.l.getD i false) k).flatMap Enc.enc))],h,1⟩) (fun k=>k≤a.l.length) (fun k=>a.l.length - k) 0 (Nat.zero_le _) [0] ?_ ?_
 ·simp (maxSteps:=2000000) only [go_sem,yqa,yqb,yqc,yqd,yqe,yqf]
  repeat' first|exact rfl|exact trivial|assumption|decide|refine And.intro ?_ ?_
 intro k hk
 repeat' first|refine zie rfl ?_|refine zc4 rfl ?_|refine zc7 ?_|refine zc8 ?_|refine zc5 ?_|refine zc6 ?_|(simp (maxSteps:=2000000) only [go_sem,yqa,yqb,yqc,yqd,yqe,yqf];try rfl)|refine zc3 ?_|(refine And.intro ?_ ?_;focus (intros;simp_all only [yqg,yqh,yqi,and_self,true_and,and_true];done))
 refine zc9 rfl (fun hdk=>?_) (fun hdk=>?_)
 ·have hlt:=zjH hdk
  repeat' first|refine zie rfl ?_|refine zc4 rfl ?_|refine zc7 ?_|refine zc8 ?_|refine zc5 ?_|refine zc6 ?_|(simp (maxSteps:=2000000) only [go_sem,yqa,yqb,yqc,yqd,yqe,yqf,ztv ha hlt,ha.some hlt,hlt,yqj];try rfl)|refine zc3 ?_|(refine And.intro ?_ ?_;focus (intros;simp_all only [yqg,yqh,yqi,and_self,true_and,and_true];done))
  refine zc9 rfl (fun hq=>?_) (fun hq=>?_)
  ·rw [Bool.not_eq_true'] at hq
   repeat' first|refine zie rfl ?_|refine zc4 rfl ?_|refine zc7 ?_|refine zc8 ?_|refine zc5 ?_|refine zc6 ?_|(simp (maxSteps:=2000000) only [go_sem,yqa,yqb,yqc,yqd,yqe,yqf];try rfl)|refine zc3 ?_|(refine And.intro ?_ ?_;focus (intros;simp_all only [yqg,yqh,yqi,and_self,true_and,and_true];done))
   refine ⟨k+1,[0],hlt,by omega,?_⟩
   simp (maxSteps:=2000000) only [go_sem,yqa,yqb,yqc,yqd,yqe,yqf]
   rw [zI3 (by rw [bget hlt];exact hq)]
   repeat' first|exact zjB (zjA hlt (by omega))|exact rfl|exact trivial|assumption|decide|refine And.intro ?_ ?_
  rw [Bool.not_eq_false'] at hq
  have hgo:=zI2 (p:=fun i=>a.l.getD i false) (k:=k) (by rw [bget hlt];exact hq)
  have hle:=zIZ (p:=fun i=>a.l.getD i false) (k:=k)
  generalize zIW (fun i=>a.l.getD i false) k=L0 at *
  have hwk:IntKind.i64.wrap ((k:Int) - 1)=(k:Int) - 1:=zjz (by omega)
  rcases List.eq_nil_or_concat L0 with rfl|⟨l0,w,rfl⟩
  ·have ho:zIU [] k=false:=rfl
   rw [zIY ho] at hgo
   have h00:(0 < ((0:Nat):Int))=False:=eq_false (by decide)
   repeat' first|refine zie rfl ?_|refine zc4 rfl ?_|refine zc7 ?_|refine zc8 ?_|refine zc5 ?_|refine zc6 ?_|(simp (maxSteps:=2000000) only [go_sem,yqa,yqb,yqc,yqd,yqe,yqf,h00,decide_false,Bool.false_and,Bool.false_eq_true,false_implies,implies_true,true_and];try rfl)|refine zc3 ?_|(refine And.intro ?_ ?_;focus (intros;simp_all only [yqg,yqh,yqi,and_self,true_and,and_true];done))
   refine zc9 rfl (fun hx=>?_) (fun hx=>?_)
   ·cases hx
   repeat' first|refine zie rfl ?_|refine zc4 rfl ?_|refine zc7 ?_|refine zc8 ?_|refine zc5 ?_|refine zc6 ?_|(simp (maxSteps:=2000000) only [go_sem,yqa,yqb,yqc,yqd,yqe,yqf];try rfl)|refine zc3 ?_|(refine And.intro ?_ ?_;focus (intros;simp_all only [yqg,yqh,yqi,and_self,true_and,and_true];done))
   refine ⟨by simp only [maxLen];omega,?_⟩
   repeat' first|refine zie rfl ?_|refine zc4 rfl ?_|refine zc7 ?_|refine zc8 ?_|refine zc5 ?_|refine zc6 ?_|(simp (maxSteps:=2000000) only [go_sem,yqa,yqb,yqc,yqd,yqe,yqf];try rfl)|refine zc3 ?_|(refine And.intro ?_ ?_;focus (intros;simp_all only [yqg,yqh,yqi,and_self,true_and,and_true];done))
   refine ⟨k+1,[2],hlt,by omega,?_⟩
   simp (maxSteps:=2000000) only [go_sem,yqa,yqb,yqc,yqd,yqe,yqf]
   rw [hgo]
   repeat' first|exact zjB (zjA hlt (by omega))|exact rfl|exact trivial|assumption|decide|refine And.intro ?_ ?_
  ·rw [List.concat_eq_append] at *
   have hw:IntKind.i64.wrap (((l0 ++ [w]).length:Int) - 1)=((l0.length:Nat):Int):=by rw [List.length_append] at *;rw [zjz (by simp at *;omega)];simp
   have hpos:(0 < ((l0 ++ [w]).length:Int))=True:=eq_true (by rw [List.length_append,List.length_singleton];omega)
   have hlt1:((l0.length:Nat):Int) < ((l0 ++ [w]).length:Int):=by rw [List.length_append,List.length_singleton];omega
   have hfl:((l0 ++ [w]).flatMap Enc.enc).length=(l0 ++ [w]).length * 2:=ziq Enc.len _
   have hlt2:l0.length * 2+1 < ((l0 ++ [w]).flatMap Enc.enc).length:=by rw [hfl,List.length_append,List.length_singleton];omega
   have hgt:((l0 ++ [w]).flatMap Enc.enc).getD (l0.length * 2+1) undef=Value.int .i64 w.dst:=zJE
   have hlt3:l0.length < (l0 ++ [w]).length:=by rw [List.length_append];simp
   repeat' first|refine zie rfl ?_|refine zc4 rfl ?_|refine zc7 ?_|refine zc8 ?_|refine zc5 ?_|refine zc6 ?_|(simp (maxSteps:=2000000) only [go_sem,yqa,yqb,yqc,yqd,yqe,yqf,hw,hpos,hlt1,hlt2,hlt3,hgt,hwk,decide_true,Bool.true_and,true_implies,yqk,and_self,true_and,imp_self];try rfl)|refine zc3 ?_|(refine And.intro ?_ ?_;focus (intros;simp_all only [yqg,yqh,yqi,and_self,true_and,and_true];done))
   refine zc9 rfl (fun ho=>?_) (fun ho=>?_)
   ·have ho:zIU (l0 ++ [w]) k=true:=by unfold zIU;simpa using eq_of_beq ho
    obtain ⟨l1,w1,e1,_,hs⟩:=zIX ho
    obtain ⟨rfl,e2⟩:=List.append_inj' e1 rfl
    obtain rfl:w=w1:=by simpa using e2
    rw [hs] at hgo
    repeat' first|refine zie rfl ?_|refine zc4 rfl ?_|refine zc7 ?_|refine zc8 ?_|refine zc5 ?_|refine zc6 ?_|(simp (maxSteps:=2000000) only [go_sem,yqa,yqb,yqc,yqd,yqe,yqf,hw,hlt1,hlt3];try rfl)|refine zc3 ?_|(refine And.intro ?_ ?_;focus (intros;simp_all only [yqg,yqh,yqi,and_self,true_and,and_true];done))
    refine ⟨by rw [hfl,List.length_append];simp;omega,?_⟩
    rw [zI7]
    repeat' first|refine zie rfl ?_|refine zc4 rfl ?_|refine zc7 ?_|refine zc8 ?_|refine zc5 ?_|refine zc6 ?_|(simp (maxSteps:=2000000) only [go_sem,yqa,yqb,yqc,yqd,yqe,yqf];try rfl)|refine zc3 ?_|(refine And.intro ?_ ?_;focus (intros;simp_all only [yqg,yqh,yqi,and_self,true_and,and_true];done))
    refine ⟨k+1,[0],hlt,by omega,?_⟩
    simp (maxSteps:=2000000) only [go_sem,yqa,yqb,yqc,yqd,yqe,yqf]
    rw [hgo,List.length_append,List.length_append,List.length_singleton,List.length_singleton]
    repeat' first|exact zjB (zjA hlt (by omega))|exact rfl|exact trivial|assumption|decide|refine And.intro ?_ ?_
   ·have ho:zIU (l0 ++ [w]) k=false:=by
     unfold zIU
     simp only [List.getLast?_append,List.getLast?_singleton,Option.some_or,decide_eq_false_iff_not]
     exact ne_of_beq_false ho
    rw [zIY ho] at hgo
    repeat' first|refine zie rfl ?_|refine zc4 rfl ?_|refine zc7 ?_|refine zc8 ?_|refine zc5 ?_|refine zc6 ?_|(simp (maxSteps:=2000000) only [go_sem,yqa,yqb,yqc,yqd,yqe,yqf];try rfl)|refine zc3 ?_|(refine And.intro ?_ ?_;focus (intros;simp_all only [yqg,yqh,yqi,and_self,true_and,and_true];done))
    refine ⟨by simp only [maxLen];omega,by omega,?_⟩
    repeat' first|refine zie rfl ?_|refine zc4 rfl ?_|refine zc7 ?_|refine zc8 ?_|refine zc5 ?_|refine zc6 ?_|(simp (maxSteps:=2000000) only [go_sem,yqa,yqb,yqc,yqd,yqe,yqf];try rfl)|refine zc3 ?_|(refine And.intro ?_ ?_;focus (intros;simp_all only [yqg,yqh,yqi,and_self,true_and,and_true];done))
    refine ⟨k+1,[2],hlt,by omega,?_⟩
    simp (maxSteps:=2000000) only [go_sem,yqa,yqb,yqc,yqd,yqe,yqf]
    rw [hgo]
    simp only [List.flatMap_append,List.length_append,List.length_singleton]
    repeat' first|exact zjB (zjA hlt (by omega))|exact rfl|exact trivial|assumption|decide|refine And.intro ?_ ?_
 ·have hge:=zjI hdk
  have hke:k=a.l.length:=Nat.le_antisymm hk hge
  subst hke
  refine zc6 ?_
  simp (maxSteps:=2000000) only [go_sem,yqa,yqb,yqc,yqd,yqe,yqf]
  refine zlX 0 (zIW (fun i=>a.l.getD i false) a.l.length) rfl rfl rfl rfl (by decide) (zI4 hz h) h (Hp.le_refl _) (Mines.flat (fun _=>rfl) (fun _=>trivial)) fun s h' e1 e2 e3 e4=>?_
  repeat' first|refine zie rfl ?_|refine zc4 rfl ?_|refine zc7 ?_|refine zc8 ?_|refine zc5 ?_|refine zc6 ?_|(simp (maxSteps:=2000000) only [go_sem,yqa,yqb,yqc,yqd,yqe,yqf];try rfl)|refine zc3 ?_|(refine And.intro ?_ ?_;focus (intros;simp_all only [yqg,yqh,yqi,and_self,true_and,and_true];done))
  exact ⟨s,rfl,e1,e2,e4⟩
end Go.Proofs.YtjiggadgmmjnhaaGreat
namespace Go.Proofs.YtjiggadgmmjnhaaGreat
open Go Go.SL
set_option maxHeartbeats 1000000
def lowM (f:PForecast) (lv:Int) (k:Nat):List Bool:=(List.range k).map fun m:Nat=>decide (lv≤zIq f m)
theorem zJG {f:PForecast} {lv:Int} {k:Nat}:lowM f lv (k+1)=lowM f lv k ++ [decide (lv≤zIq f k)]:=by rw [lowM,List.range_succ,List.map_append];rfl
theorem zJH {f:PForecast} {lv:Int} {k:Nat}:(lowM f lv k).length=k:=by rw [lowM,List.length_map,List.length_range]
theorem zJI {f:PForecast} {lv:Int}:zIW (fun i=>(lowM f lv 2881).getD i false) 2881=zI9 f lv:=by
 refine zI5 fun i hi=>?_
 simp [lowM,List.getD_eq_getElem?_getD,hi]
def zJJ (f:PForecast) (c:PChart) (k:Int) (s:DShip):List DWindow:=if zIb f=true∧zJq c k s=true then zIG (zI9 f (zJr c k s)) (zJs c k s) else []
set_option maxRecDepth 100000 in
theorem zJK (f:DForecast) (lv:Int) (h:Hp) (hf:Enc.ok h f) (h0:0 < f.surges.l.length):Ct Tryz.prog 254 [f.v,.int .i64 lv,.bool false] h fun v h'=>∃ s:Sl DWindow,v=s.val∧s.l=zI9 (Con.con f) lv∧s.Ok h'∧Mine h h' s:=by
 refine zdn (fun A W=>by simp) Tryz.func254 rfl rfl (by simp) fun W0=>?_
 repeat' first|refine zie rfl ?_|refine zc4 rfl ?_|refine zc7 ?_|refine zc8 ?_|refine zc5 ?_|refine zc6 ?_|(simp (maxSteps:=2000000) only [go_sem,yqa,yqb,yqc,yqd,yqe,yqf];try rfl)|refine zc3 ?_|(refine And.intro ?_ ?_;focus (intros;simp_all only [yqg,yqh,yqi,and_self,true_and,and_true];done))
 refine zma (ι:=Nat) (fun k=>⟨[(1,true,.c (.v (.int .i64 lv))),(2,true,.c (.v (.bool false))),(3,true,.c (.p 0 0)),(7,true,.c (.s 1)),(8,true,.c (.v (.int .i64 k)))],[(0,.box 53 [.v (.int .i64 f.tide.mean),.v f.tide.parts.val,.v f.surges.val]),(1,.row 4 1 (lowM (Con.con f) lv k).length ((lowM (Con.con f) lv k).flatMap Enc.enc))],h,2⟩) (fun k=>k≤2881) (fun k=>2881 - k) 0 (Nat.zero_le _) [0,1] ?_ ?_
 ·simp (maxSteps:=2000000) only [go_sem,yqa,yqb,yqc,yqd,yqe,yqf]
  simp only [lowM,List.range_zero,List.map_nil,List.length_nil,List.flatMap_nil]
  repeat' first|exact rfl|exact trivial|assumption|decide|refine And.intro ?_ ?_
 intro k hk
 have hkl:=zJH (f:=Con.con f) (lv:=lv) (k:=k)
 repeat' first|refine zie rfl ?_|refine zc4 rfl ?_|refine zc7 ?_|refine zc8 ?_|refine zc5 ?_|refine zc6 ?_|(simp (maxSteps:=2000000) only [go_sem,yqa,yqb,yqc,yqd,yqe,yqf];try rfl)|refine zc3 ?_|(refine And.intro ?_ ?_;focus (intros;simp_all only [yqg,yqh,yqi,and_self,true_and,and_true];done))
 refine zc9 rfl (fun hd=>?_) (fun hd=>?_)
 ·have hd:=of_decide_eq_true hd
  have hs:=zIi (m:=(k:Int)) h0
  repeat' first|refine zie rfl ?_|refine zc4 rfl ?_|refine zc7 ?_|refine zc8 ?_|refine zc5 ?_|refine zc6 ?_|refine zhF (fun _=>zIs f _ _ hf h0) ?_|(simp (maxSteps:=2000000) only [go_sem,yqa,yqb,yqc,yqd,yqe,yqf];try rfl)|refine zc3 ?_|(refine And.intro ?_ ?_;focus (intros;simp_all only [yqg,yqh,yqi,and_self,true_and,and_true];done))
  refine zc9 rfl (fun hx=>?_) (fun hx=>?_)
  ·cases hx
  repeat' first|refine zie rfl ?_|refine zc4 rfl ?_|refine zc7 ?_|refine zc8 ?_|refine zc5 ?_|refine zc6 ?_|refine zhF (fun _=>zIz _ _ _ hf.1) ?_|(simp (maxSteps:=2000000) only [go_sem,yqa,yqb,yqc,yqd,yqe,yqf];try rfl)|refine zc3 ?_|(refine And.intro ?_ ?_;focus (intros;simp_all only [yqg,yqh,yqi,and_self,true_and,and_true];done))
  refine ⟨by simp only [maxLen];omega,by omega,?_⟩
  repeat' first|refine zie rfl ?_|refine zc4 rfl ?_|refine zc7 ?_|refine zc8 ?_|refine zc5 ?_|refine zc6 ?_|(simp (maxSteps:=2000000) only [go_sem,yqa,yqb,yqc,yqd,yqe,yqf];try rfl)|refine zc3 ?_|(refine And.intro ?_ ?_;focus (intros;simp_all only [yqg,yqh,yqi,and_self,true_and,and_true];done))
  refine ⟨k+1,[0,4],by omega,by omega,?_⟩
  simp (maxSteps:=2000000) only [go_sem,yqa,yqb,yqc,yqd,yqe,yqf]
  rw [zJG,zIq,zIm,List.length_append,List.length_singleton,List.flatMap_append]
  repeat' first|exact zjB (zjA (n:=2881) (k:=k) (by omega) (by omega))|exact rfl|exact trivial|assumption|decide|refine And.intro ?_ ?_
 ·have hd:=of_decide_eq_false hd
  have hke:k=2881:=by omega
  subst hke
  refine zc6 ?_
  simp (maxSteps:=2000000) only [go_sem,yqa,yqb,yqc,yqd,yqe,yqf]
  refine zlX 1 (lowM (Con.con f) lv 2881) rfl rfl rfl rfl (by decide) (fun _ _=>trivial) h (Hp.le_refl _) (Mines.flat (fun _=>rfl) (fun _=>trivial)) fun s h1 e1 e2 e3 e4=>?_
  repeat' first|refine zie rfl ?_|refine zc4 rfl ?_|refine zc7 ?_|refine zc8 ?_|refine zc5 ?_|refine zc6 ?_|(simp (maxSteps:=2000000) only [go_sem,yqa,yqb,yqc,yqd,yqe,yqf];try rfl)|refine zc3 ?_|(refine And.intro ?_ ?_;focus (intros;simp_all only [yqg,yqh,yqi,and_self,true_and,and_true];done))
  have hl1:s.l.length=2881:=by rw [e1];exact hkl
  refine zkr (zJF s _ e2 (by omega)) rfl ?_
  rintro v h2 le2 ⟨s2,rfl,q1,q2,q3⟩
  repeat' first|refine zie rfl ?_|refine zc4 rfl ?_|refine zc7 ?_|refine zc8 ?_|refine zc5 ?_|refine zc6 ?_|(simp (maxSteps:=2000000) only [go_sem,yqa,yqb,yqc,yqd,yqe,yqf];try rfl)|refine zc3 ?_|(refine And.intro ?_ ?_;focus (intros;simp_all only [yqg,yqh,yqi,and_self,true_and,and_true];done))
  refine ⟨s2,rfl,?_,q2,Mine.back e3 q3⟩
  rw [q1,hl1,e1,zJI]
theorem zJL (f:DForecast) (lv m:Int) (p q:Nat) (h:Hp) (hf:Enc.ok h f) (h0:0 < f.surges.l.length) (hp:h.lds (some ⟨p,0,none⟩) 3=some [.int .i64 f.tide.mean,f.tide.parts.val,f.surges.val]) (hq:h.lds (some ⟨q,0,none⟩) 1=some [.int .i64 lv]):Ct Tryz.prog 263 [.int .i64 m,.pointer (some ⟨p,0,none⟩),.pointer (some ⟨q,0,none⟩)] h fun v h'=>v=.bool (decide (lv≤zIq (Con.con f) m))∧h'=h:=by
 refine zdn (fun A W=>by simp) Tryz.func263 rfl rfl (by simp) fun W0=>?_
 repeat' first|refine zie rfl ?_|refine zc4 rfl ?_|refine zc7 ?_|refine zc8 ?_|refine zc5 ?_|refine zc6 ?_|(simp (maxSteps:=2000000) only [go_sem,yqa,yqb,yqc,yqd,yqe,yqf];try rfl)|refine zc3 ?_|(refine And.intro ?_ ?_;focus (intros;simp_all only [yqg,yqh,yqi,and_self,true_and,and_true];done))
 refine zte rfl ?_
 refine zs7 [0,1,3] rfl (by kernel_rfl) ?_
 simp (maxSteps:=2000000) only [go_sem,yqa,yqb,yqc,yqd,yqe,yqf,hp,hq]
 refine ztc 2 0 [3] rfl (by kernel_rfl) (by kernel_rfl) (by kernel_rfl) rfl ?_
 simp (maxSteps:=2000000) only [go_sem,yqa,yqb,yqc,yqd,yqe,yqf,hp,hq]
 refine zhF (fun _=>zIA f _ _ hf h0) ?_
 simp (maxSteps:=2000000) only [go_sem,yqa,yqb,yqc,yqd,yqe,yqf,hp,hq]
 refine zs7 [4,5] rfl (by kernel_rfl) ?_
 simp (maxSteps:=2000000) only [go_sem,yqa,yqb,yqc,yqd,yqe,yqf,hp,hq]
 refine ztd (by kernel_rfl) ?_
 repeat' first|refine zie rfl ?_|refine zc4 rfl ?_|refine zc7 ?_|refine zc8 ?_|refine zc5 ?_|refine zc6 ?_|(simp (maxSteps:=2000000) only [go_sem,yqa,yqb,yqc,yqd,yqe,yqf];try rfl)|refine zc3 ?_|(refine And.intro ?_ ?_;focus (intros;simp_all only [yqg,yqh,yqi,and_self,true_and,and_true];done))
theorem zJM (f:DForecast) (lv:Int) (h:Hp) (hf:Enc.ok h f) (hok:zIb (Con.con f)=true):Ct Tryz.prog 248 [f.v,.int .i64 lv] h fun v h'=>∃ s:Sl DWindow,v=s.val∧s.l=zI9 (Con.con f) lv∧s.Ok h'∧Mine h h' s:=by
 have h0:0 < f.surges.l.length:=by have:=zIl hok;rwa [zIm] at this
 refine zdn (fun A W=>by simp) Tryz.func248 rfl rfl (by simp) fun W0=>?_
 repeat' first|refine zie rfl ?_|refine zc4 rfl ?_|refine zc7 ?_|refine zc8 ?_|refine zc5 ?_|refine zc6 ?_|refine zhF (fun _=>zIe f _ hf) ?_|(simp (maxSteps:=2000000) only [go_sem,yqa,yqb,yqc,yqd,yqe,yqf];try rfl)|refine zc3 ?_|(refine And.intro ?_ ?_;focus (intros;simp_all only [yqg,yqh,yqi,and_self,true_and,and_true];done))
 refine zc9 rfl (fun hc=>?_) (fun hc=>?_)
 ·rw [hok] at hc;cases hc
 refine zc5 ?_
 simp (maxSteps:=2000000) only [go_sem,yqa,yqb,yqc,yqd,yqe,yqf]
 refine zso 1 rfl rfl fun q hq _=>?_
 simp (maxSteps:=2000000) only [go_sem,yqa,yqb,yqc,yqd,yqe,yqf]
 refine zso 0 rfl rfl fun p hp _=>?_
 simp (maxSteps:=2000000) only [go_sem,yqa,yqb,yqc,yqd,yqe,yqf]
 have hq:h q=none:=hq
 have hp:(h.ins q (.cells #[.int .i64 lv] 3 (0,0))) p=none:=hp
 have lq:h.le (h.ins q (.cells #[.int .i64 lv] 3 (0,0))):=Hp.ins_le hq
 have lp:=Hp.ins_le (o:=.cells #[.int .i64 f.tide.mean,f.tide.parts.val,f.surges.val] 53 (0,0)) hp
 have hne:q ≠ p:=fun e=>by subst e;rw [Hp.ins_same] at hp;cases hp
 have hl:=Hp.le_trans lq lp
 refine zwx [1] rfl ?_
 simp (maxSteps:=2000000) only [go_sem,yqa,yqb,yqc,yqd,yqe,yqf]
 refine zkr (zJa 263 [.pointer (some ⟨p,0,none⟩),.pointer (some ⟨q,0,none⟩)] (fun m=>decide (lv≤zIq (Con.con f) m)) _ (fun k _=>zJL f lv k p q _ (Enc.mono hl hf) h0 (zsq (xs:=[.int .i64 f.tide.mean,f.tide.parts.val,f.surges.val]) Hp.ins_same rfl (Nat.le_refl 3)) (zsq (xs:=[.int .i64 lv]) (by rw [Hp.ins_ne hne,Hp.ins_same]) rfl (Nat.le_refl 1)))) rfl ?_
 rintro v h2 le2 ⟨s2,rfl,q1,q2,q3⟩
 repeat' first|refine zie rfl ?_|refine zc4 rfl ?_|refine zc7 ?_|refine zc8 ?_|refine zc5 ?_|refine zc6 ?_|(simp (maxSteps:=2000000) only [go_sem,yqa,yqb,yqc,yqd,yqe,yqf];try rfl)|refine zc3 ?_|(refine And.intro ?_ ?_;focus (intros;simp_all only [yqg,yqh,yqi,and_self,true_and,and_true];done))
 exact ⟨s2,rfl,q1,q2,Mine.back hl q3⟩
theorem zJN (f:DForecast) (c:DChart) (k:Int) (s:DShip) (h:Hp) (hf:Enc.ok h f) (hc:Enc.ok h c) (hs:Enc.ok h s):Ct Tryz.prog 216 [f.v,c.v,.int .i64 k,s.v] h fun v h'=>∃ r:Sl DWindow,v=r.val∧r.l=zJJ (Con.con f) (Con.con c) k s∧r.Ok h'∧Mine h h' r:=by
 rw [zJJ]
 refine zdn (fun A W=>by simp) Tryz.func216 rfl rfl (by simp) fun W0=>?_
 repeat' first|refine zie rfl ?_|refine zc4 rfl ?_|refine zc7 ?_|refine zc8 ?_|refine zc5 ?_|refine zc6 ?_|refine zhF (fun _=>zIe f _ hf) ?_|refine zhF (fun _=>zJA c _ s _ hc hs) ?_|(simp (maxSteps:=2000000) only [go_sem,yqa,yqb,yqc,yqd,yqe,yqf];try rfl)|refine zc3 ?_|(refine And.intro ?_ ?_;focus (intros;simp_all only [yqg,yqh,yqi,and_self,true_and,and_true];done))
 refine zc9 rfl (fun hq=>?_) (fun hq=>?_)
 ·repeat' first|refine zie rfl ?_|refine zc4 rfl ?_|refine zc7 ?_|refine zc8 ?_|refine zc5 ?_|refine zc6 ?_|(simp (maxSteps:=2000000) only [go_sem,yqa,yqb,yqc,yqd,yqe,yqf];try rfl)|refine zc3 ?_|(refine And.intro ?_ ?_;focus (intros;simp_all only [yqg,yqh,yqi,and_self,true_and,and_true];done))
  rw [if_neg (by intro e;rw [e.1,e.2] at hq;cases hq)]
  exact ⟨⟨none,0,[]⟩,rfl,rfl,zmy,Mine.nil⟩
 simp only [yqg,Bool.not_eq_false'] at hq
 rw [if_pos ⟨hq.1,hq.2⟩]
 have h0:0 < f.surges.l.length:=by have:=zIl hq.1;rwa [zIm] at this
 repeat' first|refine zie rfl ?_|refine zc4 rfl ?_|refine zc7 ?_|refine zc8 ?_|refine zc5 ?_|refine zc6 ?_|(simp (maxSteps:=2000000) only [go_sem,yqa,yqb,yqc,yqd,yqe,yqf];try rfl)|refine zc3 ?_|(refine And.intro ?_ ?_;focus (intros;simp_all only [yqg,yqh,yqi,and_self,true_and,and_true];done))
 refine zte rfl ?_
 refine zs7 [0,1,2,3,6,7,8] rfl (by kernel_rfl) ?_
 simp (maxSteps:=2000000) only [go_sem,yqa,yqb,yqc,yqd,yqe,yqf]
 refine ztc 4 0 [8,6,0] rfl (by kernel_rfl) (by kernel_rfl) (by kernel_rfl) rfl ?_
 simp (maxSteps:=2000000) only [go_sem,yqa,yqb,yqc,yqd,yqe,yqf]
 refine zhF (fun _=>zJB c _ s _ hc hs) ?_
 simp (maxSteps:=2000000) only [go_sem,yqa,yqb,yqc,yqd,yqe,yqf]
 refine ztc 5 0 [8,6] rfl (by kernel_rfl) (by kernel_rfl) (by kernel_rfl) rfl ?_
 simp (maxSteps:=2000000) only [go_sem,yqa,yqb,yqc,yqd,yqe,yqf]
 refine zkr (zJM f _ _ hf hq.1) rfl ?_
 rintro v h1 le1 ⟨s1,rfl,e1,o1,m1⟩
 simp (maxSteps:=2000000) only [go_sem,yqa,yqb,yqc,yqd,yqe,yqf]
 refine ztc 9 0 [] rfl (by kernel_rfl) (by kernel_rfl) (by kernel_rfl) rfl ?_
 simp (maxSteps:=2000000) only [go_sem,yqa,yqb,yqc,yqd,yqe,yqf]
 refine zhF (fun _=>zJC c _ s _ (Enc.mono (x:=c) le1 hc) (Enc.mono (x:=s) le1 hs)) ?_
 simp (maxSteps:=2000000) only [go_sem,yqa,yqb,yqc,yqd,yqe,yqf]
 refine ztc 10 0 [] rfl (by kernel_rfl) (by kernel_rfl) (by kernel_rfl) rfl ?_
 simp (maxSteps:=2000000) only [go_sem,yqa,yqb,yqc,yqd,yqe,yqf]
 refine zkr (zIT s1 _ _ o1 (by rw [e1];exact Nat.le_trans zIZ (by decide))) rfl ?_
 rintro v h2 le2 ⟨s2,rfl,e2,o2,m2⟩
 simp (maxSteps:=2000000) only [go_sem,yqa,yqb,yqc,yqd,yqe,yqf]
 refine zs7 [11] rfl (by kernel_rfl) ?_
 simp (maxSteps:=2000000) only [go_sem,yqa,yqb,yqc,yqd,yqe,yqf]
 refine ztd (by kernel_rfl) ?_
 repeat' first|refine zie rfl ?_|refine zc4 rfl ?_|refine zc7 ?_|refine zc8 ?_|refine zc5 ?_|refine zc6 ?_|(simp (maxSteps:=2000000) only [go_sem,yqa,yqb,yqc,yqd,yqe,yqf];try rfl)|refine zc3 ?_|(refine And.intro ?_ ?_;focus (intros;simp_all only [yqg,yqh,yqi,and_self,true_and,and_true];done))
 exact ⟨s2,rfl,by rw [e2,e1],o2,Mine.back le1 m2⟩
theorem zJO (f:DForecast) (c:DChart) (k:Int) (s:DShip) (h:Hp) (hf:Enc.ok h f) (hc:Enc.ok h c) (hs:Enc.ok h s):Ct Tryz.prog 220 [f.v,c.v,.int .i64 k,s.v,.bool false] h fun v h'=>∃ r:Sl DWindow,v=r.val∧r.l=zJJ (Con.con f) (Con.con c) k s∧r.Ok h'∧Mine h h' r:=by
 rw [zJJ]
 refine zdn (fun A W=>by simp) Tryz.func220 rfl rfl (by simp) fun W0=>?_
 repeat' first|refine zie rfl ?_|refine zc4 rfl ?_|refine zc7 ?_|refine zc8 ?_|refine zc5 ?_|refine zc6 ?_|refine zhF (fun _=>zId f _ hf) ?_|refine zhF (fun _=>zJy c _ s _ hc hs) ?_|(simp (maxSteps:=2000000) only [go_sem,yqa,yqb,yqc,yqd,yqe,yqf];try rfl)|refine zc3 ?_|(refine And.intro ?_ ?_;focus (intros;simp_all only [yqg,yqh,yqi,and_self,true_and,and_true];done))
 refine zc9 rfl (fun hq=>?_) (fun hq=>?_)
 ·repeat' first|refine zie rfl ?_|refine zc4 rfl ?_|refine zc7 ?_|refine zc8 ?_|refine zc5 ?_|refine zc6 ?_|(simp (maxSteps:=2000000) only [go_sem,yqa,yqb,yqc,yqd,yqe,yqf];try rfl)|refine zc3 ?_|(refine And.intro ?_ ?_;focus (intros;simp_all only [yqg,yqh,yqi,and_self,true_and,and_true];done))
  rw [if_neg (by intro e;rw [e.1,e.2] at hq;cases hq)]
  exact ⟨⟨none,0,[]⟩,rfl,rfl,zmy,Mine.nil⟩
 simp only [yqg,Bool.not_eq_false'] at hq
 rw [if_pos ⟨hq.1,hq.2⟩]
 have h0:0 < f.surges.l.length:=by have:=zIl hq.1;rwa [zIm] at this
 repeat' first|refine zie rfl ?_|refine zc4 rfl ?_|refine zc7 ?_|refine zc8 ?_|refine zc5 ?_|refine zc6 ?_|(simp (maxSteps:=2000000) only [go_sem,yqa,yqb,yqc,yqd,yqe,yqf];try rfl)|refine zc3 ?_|(refine And.intro ?_ ?_;focus (intros;simp_all only [yqg,yqh,yqi,and_self,true_and,and_true];done))
 refine zte rfl ?_
 refine zs7 [0,1,2,3,5,7,8,9] rfl (by kernel_rfl) ?_
 simp (maxSteps:=2000000) only [go_sem,yqa,yqb,yqc,yqd,yqe,yqf]
 refine ztc 4 0 [9,7,0] rfl (by kernel_rfl) (by kernel_rfl) (by kernel_rfl) rfl ?_
 simp (maxSteps:=2000000) only [go_sem,yqa,yqb,yqc,yqd,yqe,yqf]
 refine zhF (fun _=>zJz c _ s _ hc hs) ?_
 simp (maxSteps:=2000000) only [go_sem,yqa,yqb,yqc,yqd,yqe,yqf]
 refine ztc 6 0 [9,7] rfl (by kernel_rfl) (by kernel_rfl) (by kernel_rfl) rfl ?_
 simp (maxSteps:=2000000) only [go_sem,yqa,yqb,yqc,yqd,yqe,yqf]
 refine zkr (zJK f _ _ hf h0) rfl ?_
 rintro v h1 le1 ⟨s1,rfl,e1,o1,m1⟩
 simp (maxSteps:=2000000) only [go_sem,yqa,yqb,yqc,yqd,yqe,yqf]
 refine ztc 10 0 [] rfl (by kernel_rfl) (by kernel_rfl) (by kernel_rfl) rfl ?_
 simp (maxSteps:=2000000) only [go_sem,yqa,yqb,yqc,yqd,yqe,yqf]
 refine zhF (fun _=>zJD c _ s _ (Enc.mono (x:=c) le1 hc) (Enc.mono (x:=s) le1 hs)) ?_
 simp (maxSteps:=2000000) only [go_sem,yqa,yqb,yqc,yqd,yqe,yqf]
 refine ztc 11 0 [] rfl (by kernel_rfl) (by kernel_rfl) (by kernel_rfl) rfl ?_
 simp (maxSteps:=2000000) only [go_sem,yqa,yqb,yqc,yqd,yqe,yqf]
 refine zkr (zIQ s1 _ _ o1 (by rw [e1];exact Nat.le_trans zIZ (by decide))) rfl ?_
 rintro v h2 le2 ⟨s2,rfl,e2,o2,m2⟩
 simp (maxSteps:=2000000) only [go_sem,yqa,yqb,yqc,yqd,yqe,yqf]
 refine zs7 [12] rfl (by kernel_rfl) ?_
 simp (maxSteps:=2000000) only [go_sem,yqa,yqb,yqc,yqd,yqe,yqf]
 refine ztd (by kernel_rfl) ?_
 repeat' first|refine zie rfl ?_|refine zc4 rfl ?_|refine zc7 ?_|refine zc8 ?_|refine zc5 ?_|refine zc6 ?_|(simp (maxSteps:=2000000) only [go_sem,yqa,yqb,yqc,yqd,yqe,yqf];try rfl)|refine zc3 ?_|(refine And.intro ?_ ?_;focus (intros;simp_all only [yqg,yqh,yqi,and_self,true_and,and_true];done))
 exact ⟨s2,rfl,by rw [e2,e1],o2,Mine.back le1 m2⟩
theorem zJP (f:DForecast) (c:DChart) (k:Int) (s:DShip) (h:Hp) (hf:Enc.ok h f) (hc:Enc.ok h c) (hs:Enc.ok h s):Ct Tryz.prog 167 [f.v,c.v,.int .i64 k,s.v] h fun v h'=>∃ r:Sl DWindow,v=r.val∧r.l=zJJ (Con.con f) (Con.con c) k s∧r.Ok h'∧Mine h h' r:=by
 refine zdn (fun A W=>by simp) Tryz.func167 rfl rfl (by simp) fun W0=>?_
 repeat' first|refine zie rfl ?_|refine zc4 rfl ?_|refine zc7 ?_|refine zc8 ?_|refine zc5 ?_|refine zc6 ?_|(simp (maxSteps:=2000000) only [go_sem,yqa,yqb,yqc,yqd,yqe,yqf];try rfl)|refine zc3 ?_|(refine And.intro ?_ ?_;focus (intros;simp_all only [yqg,yqh,yqi,and_self,true_and,and_true];done))
 refine zkr (zJO f c k s _ hf hc hs) rfl ?_
 rintro v h1 le1 ⟨s1,rfl,e1,o1,m1⟩
 repeat' first|refine zie rfl ?_|refine zc4 rfl ?_|refine zc7 ?_|refine zc8 ?_|refine zc5 ?_|refine zc6 ?_|(simp (maxSteps:=2000000) only [go_sem,yqa,yqb,yqc,yqd,yqe,yqf];try rfl)|refine zc3 ?_|(refine And.intro ?_ ?_;focus (intros;simp_all only [yqg,yqh,yqi,and_self,true_and,and_true];done))
 exact ⟨s1,rfl,e1,o1,m1⟩
end Go.Proofs.YtjiggadgmmjnhaaGreat
