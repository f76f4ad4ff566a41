/- What functions of the given program compute, each as a contract over what its arguments read as. No condition beside those that each theorem states. -/
import Derived.Test.YtjiggadgmmjnhaaGreatS6
set_option linter.unusedVariables false
set_option linter.unusedSimpArgs false
open Nat renaming reduceAdd → yqa, reduceMul → yqb, reduceBEq → yqc, reduceLeDiff → yqd, reduceLT → yqe, reduceEqDiff → yqf
open Bool renaming or_eq_false_iff → yqg, or_eq_true → yqh, and_eq_true → yqi
open Int renaming toNat_natCast → yqj, natCast_nonneg → yqk
namespace Go.Proofs.YtjiggadgmmjnhaaGreat
open Go Go.SL
set_option maxHeartbeats 1000000
def zIf (l:List DSurge) (m:Int):Nat→Nat
 | 0=>0
 | k+1=>if (l.getD k dS).src≤m then k else zIf l m k
def zIg (l:List DSurge) (m:Int):Nat:=zIf l m l.length
theorem zIh {l:List DSurge} {m:Int}:∀ {k:Nat},0 < k→zIf l m k < k
 | k+1,_=>by
  unfold zIf
  split
  ·omega
  ·rcases Nat.eq_zero_or_pos k with rfl|h
   ·exact Nat.zero_lt_one
   ·have:=zIh (l:=l) (m:=m) h;omega
theorem zIi {l:List DSurge} {m:Int} (h:0 < l.length):zIg l m < l.length:=zIh h
theorem zIj {l:List DSurge} {m:Int} {k:Nat} (hk:k < l.length) (h:l[k].src≤m):zIf l m (k+1)=k:=by rw [zIf,sget hk,if_pos h]
theorem zIk {l:List DSurge} {m:Int} {k:Nat} (hk:k < l.length) (h:¬ l[k].src≤m):zIf l m (k+1)=zIf l m k:=by rw [zIf,sget hk,if_neg h]
theorem zIl {f:PForecast} (h:zIb f=true):0 < f.surges.length:=by
 simp only [zIb,In,yqi,decide_eq_true_eq] at h
 omega
theorem zIm (f:DForecast):(Con.con f).surges=f.surges.l:=zIc _
def zIn (n p:Int):Int :=
 if zHY p=true then
  (if n % p < Int.tdiv p 2 then IntKind.i64.wrap (Int.tdiv (IntKind.i64.wrap (IntKind.i64.wrap (40000 * (n % p)) * IntKind.i64.wrap (Int.tdiv p 2 - n % p))) (IntKind.i64.wrap (Int.tdiv p 2 * Int.tdiv p 2)))
   else IntKind.i64.wrap (0 - IntKind.i64.wrap (Int.tdiv (IntKind.i64.wrap (IntKind.i64.wrap (40000 * IntKind.i64.wrap (n % p - Int.tdiv p 2)) * IntKind.i64.wrap (Int.tdiv p 2 - IntKind.i64.wrap (n % p - Int.tdiv p 2)))) (IntKind.i64.wrap (Int.tdiv p 2 * Int.tdiv p 2)))))
 else 0
def zIo (m:Int) (acc:Int) (p:DPart):Int:=IntKind.i64.wrap (acc+IntKind.i64.wrap (Int.tdiv (IntKind.i64.wrap (p.amp * zIn (IntKind.i64.wrap (m+p.phase)) p.period)) 10000))
def zIp (t:PTide) (m:Int):Int:=t.parts.foldl (zIo m) t.mean
def zIq (f:PForecast) (m:Int):Int:=IntKind.i64.wrap (zIp f.tide m+(f.surges.getD (zIg f.surges m) dS).low)
theorem zIr (f:DForecast) (m:Int) (h:Hp) (hf:Enc.ok h f):Ct Tryz.prog 130 [f.v,.int .i64 m] h fun v h'=>v=.int .i64 (zIg f.surges.l m:Nat)∧h'=h:=by
 have hp:=hf.2
 have hl:=hp.max
 refine zdn (fun A W=>by simp) Tryz.func130 rfl rfl (by simp) fun W0=>?_
 repeat' first|refine zie rfl ?_|refine zc4 rfl ?_|refine zc7 ?_|refine zc8 ?_|refine zc5 ?_|refine zc6 ?_|(simp (maxSteps:=2000000) only [go_sem,yqa,yqb,yqc,yqd,yqe,yqf];try rfl)|refine zc3 ?_|(refine And.intro ?_ ?_;focus (intros;simp_all only [yqg,yqh,yqi,and_self,true_and,and_true];done))
 refine zde (ι:=Nat) (fun k=>⟨[(1,true,.c (.v (.int .i64 m))),(5,true,.c (.v (.int .i64 (zIf f.surges.l m k:Nat)))),(9,true,.c (.v f.surges.val)),(10,true,.c (.v (.int .i64 f.surges.l.length))),(11,true,.c (.v (.int .i64 k)))],[],h,0⟩) (fun k=>k≤f.surges.l.length) (fun k=>f.surges.l.length - k) 0 (Nat.zero_le _) ?_ ?_
 ·simp (maxSteps:=2000000) only [go_sem,yqa,yqb,yqc,yqd,yqe,yqf]
  repeat' first|exact rfl|exact trivial|assumption|decide|refine And.intro ?_ ?_
 intro k hk
 repeat' first|refine zie rfl ?_|refine zc4 rfl ?_|refine zc7 ?_|refine zc8 ?_|refine zc5 ?_|refine zc6 ?_|(simp (maxSteps:=2000000) only [go_sem,yqa,yqb,yqc,yqd,yqe,yqf];try rfl)|refine zc3 ?_|(refine And.intro ?_ ?_;focus (intros;simp_all only [yqg,yqh,yqi,and_self,true_and,and_true];done))
 refine zc9 rfl (fun hdk=>?_) (fun hdk=>?_)
 ·have hlt:=zjH hdk
  repeat' first|refine zie rfl ?_|refine zc4 rfl ?_|refine zc7 ?_|refine zc8 ?_|refine zc5 ?_|refine zc6 ?_|(simp (maxSteps:=2000000) only [go_sem,yqa,yqb,yqc,yqd,yqe,yqf,zx6 hp hlt,hp.some hlt,hlt,yqj];try rfl)|refine zc3 ?_|(refine And.intro ?_ ?_;focus (intros;simp_all only [yqg,yqh,yqi,and_self,true_and,and_true];done))
  refine zc9 rfl (fun hq=>?_) (fun hq=>?_)
  ·repeat' first|refine zie rfl ?_|refine zc4 rfl ?_|refine zc7 ?_|refine zc8 ?_|refine zc5 ?_|refine zc6 ?_|(simp (maxSteps:=2000000) only [go_sem,yqa,yqb,yqc,yqd,yqe,yqf];try rfl)|refine zc3 ?_|(refine And.intro ?_ ?_;focus (intros;simp_all only [yqg,yqh,yqi,and_self,true_and,and_true];done))
   refine ⟨k+1,hlt,by omega,zjB ?_,zjB (zjA hlt (by omega))⟩
   rw [zIj hlt (of_decide_eq_true hq)]
  ·repeat' first|refine zie rfl ?_|refine zc4 rfl ?_|refine zc7 ?_|refine zc8 ?_|refine zc5 ?_|refine zc6 ?_|(simp (maxSteps:=2000000) only [go_sem,yqa,yqb,yqc,yqd,yqe,yqf];try rfl)|refine zc3 ?_|(refine And.intro ?_ ?_;focus (intros;simp_all only [yqg,yqh,yqi,and_self,true_and,and_true];done))
   refine ⟨k+1,hlt,by omega,zjB ?_,zjB (zjA hlt (by omega))⟩
   rw [zIk hlt (of_decide_eq_false hq)]
 ·have hge:=zjI hdk
  repeat' first|refine zie rfl ?_|refine zc4 rfl ?_|refine zc7 ?_|refine zc8 ?_|refine zc5 ?_|refine zc6 ?_|(simp (maxSteps:=2000000) only [go_sem,yqa,yqb,yqc,yqd,yqe,yqf];try rfl)|refine zc3 ?_|(refine And.intro ?_ ?_;focus (intros;simp_all only [yqg,yqh,yqi,and_self,true_and,and_true];done))
  rw [zIg,Nat.le_antisymm hge hk]
theorem zIs (f:DForecast) (m:Int) (h:Hp) (hf:Enc.ok h f) (h0:0 < f.surges.l.length):Ct Tryz.prog 56 [f.v,.int .i64 m] h fun v h'=>v=(f.surges.l.getD (zIg f.surges.l m) dS).v∧h'=h:=by
 have hp:=hf.2
 have hl:=hp.max
 have h0i:(0:Int) < f.surges.l.length:=by omega
 have hp0:=hp.some h0
 have hs0:=zx6 hp h0
 simp only [go_sem,Nat.zero_mul] at hs0
 refine Ct.forget ?_
 refine zdn (fun A W=>by simp) Tryz.func56 rfl rfl (by simp) fun W0=>?_
 repeat' first|refine zie rfl ?_|refine zc4 rfl ?_|refine zc7 ?_|refine zc8 ?_|refine zc5 ?_|refine zc6 ?_|(simp (maxSteps:=2000000) only [go_sem,yqa,yqb,yqc,yqd,yqe,yqf,hp0,hs0,h0i,Int.toNat_zero,Nat.zero_mul,Int.le_refl,implies_true,true_and,and_true];try rfl)|refine zc3 ?_|(refine And.intro ?_ ?_;focus (intros;simp_all only [yqg,yqh,yqi,and_self,true_and,and_true];done))
 refine zde (ι:=Nat) (fun k=>⟨[(1,true,.c (.v (.int .i64 m))),(4,true,.c (.p 1 0)),(5,true,.c (.p 2 0)),(13,true,.c (.v f.surges.val)),(14,true,.c (.v (.int .i64 f.surges.l.length))),(15,true,.c (.v (.int .i64 k)))],[(1,.box 115 [.v (.int .i64 0),.v (.int .i64 0),.v (.int .i64 0)]),(2,.box 115 [.v (.int .i64 (f.surges.l.getD (zIf f.surges.l m k) dS).src),.v (.int .i64 (f.surges.l.getD (zIf f.surges.l m k) dS).low),.v (.int .i64 (f.surges.l.getD (zIf f.surges.l m k) dS).high)])],h,3⟩) (fun k=>k≤f.surges.l.length) (fun k=>f.surges.l.length - k) 0 (Nat.zero_le _) ?_ ?_
 ·simp (maxSteps:=2000000) only [go_sem,yqa,yqb,yqc,yqd,yqe,yqf]
  rw [zIf,sget h0]
  repeat' first|exact rfl|exact trivial|assumption|decide|refine And.intro ?_ ?_
 intro k hk
 repeat' first|refine zie rfl ?_|refine zc4 rfl ?_|refine zc7 ?_|refine zc8 ?_|refine zc5 ?_|refine zc6 ?_|(simp (maxSteps:=2000000) only [go_sem,yqa,yqb,yqc,yqd,yqe,yqf];try rfl)|refine zc3 ?_|(refine And.intro ?_ ?_;focus (intros;simp_all only [yqg,yqh,yqi,and_self,true_and,and_true];done))
 refine zc9 rfl (fun hdk=>?_) (fun hdk=>?_)
 ·have hlt:=zjH hdk
  repeat' first|refine zie rfl ?_|refine zc4 rfl ?_|refine zc7 ?_|refine zc8 ?_|refine zc5 ?_|refine zc6 ?_|(simp (maxSteps:=2000000) only [go_sem,yqa,yqb,yqc,yqd,yqe,yqf,zx6 hp hlt,hp.some hlt,hlt,yqj];try rfl)|refine zc3 ?_|(refine And.intro ?_ ?_;focus (intros;simp_all only [yqg,yqh,yqi,and_self,true_and,and_true];done))
  refine zc9 rfl (fun hq=>?_) (fun hq=>?_)
  ·repeat' first|refine zie rfl ?_|refine zc4 rfl ?_|refine zc7 ?_|refine zc8 ?_|refine zc5 ?_|refine zc6 ?_|(simp (maxSteps:=2000000) only [go_sem,yqa,yqb,yqc,yqd,yqe,yqf];try rfl)|refine zc3 ?_|(refine And.intro ?_ ?_;focus (intros;simp_all only [yqg,yqh,yqi,and_self,true_and,and_true];done))
   refine ⟨k+1,hlt,by omega,?_⟩
   rw [zIj hlt (of_decide_eq_true hq),sget hlt]
   refine ⟨zjB (zjA hlt (by omega)),?_⟩
   repeat' first|exact rfl|exact trivial|assumption|decide|refine And.intro ?_ ?_
  ·repeat' first|refine zie rfl ?_|refine zc4 rfl ?_|refine zc7 ?_|refine zc8 ?_|refine zc5 ?_|refine zc6 ?_|(simp (maxSteps:=2000000) only [go_sem,yqa,yqb,yqc,yqd,yqe,yqf];try rfl)|refine zc3 ?_|(refine And.intro ?_ ?_;focus (intros;simp_all only [yqg,yqh,yqi,and_self,true_and,and_true];done))
   refine ⟨k+1,hlt,by omega,?_⟩
   rw [zIk hlt (of_decide_eq_false hq)]
   refine ⟨zjB (zjA hlt (by omega)),?_⟩
   repeat' first|exact rfl|exact trivial|assumption|decide|refine And.intro ?_ ?_
 ·have hge:=zjI hdk
  repeat' first|refine zie rfl ?_|refine zc4 rfl ?_|refine zc7 ?_|refine zc8 ?_|refine zc5 ?_|refine zc6 ?_|(simp (maxSteps:=2000000) only [go_sem,yqa,yqb,yqc,yqd,yqe,yqf];try rfl)|refine zc3 ?_|(refine And.intro ?_ ?_;focus (intros;simp_all only [yqg,yqh,yqi,and_self,true_and,and_true];done))
  rw [zIg,Nat.le_antisymm hge hk]
  try rfl
theorem zIt {p:Int} (h:zHY p=true):4≤p∧p≤2880∧Int.tmod p 4=0:=by
 simp only [zHY,In,yqi,decide_eq_true_eq,beq_iff_eq] at h
 exact ⟨h.1.1,h.1.2,h.2⟩
theorem zIu {n p:Int} (h:4≤p∧p≤2880):IntKind.i64.wrap (Int.tmod n p+p)=Int.tmod n p+p∧Int.tmod (Int.tmod n p+p) p=n % p∧(if Int.tmod n p < 0 then Int.tmod n p+p else Int.tmod n p)=n % p∧-p < Int.tmod n p∧Int.tmod n p < p:=by
 have e1:-p < Int.tmod n p∧Int.tmod n p < p:=by
  have:=Int.tmod_lt_of_pos n (show 0 < p by omega)
  have h2:=Int.lt_tmod_of_pos n (show 0 < p by omega)
  omega
 have e2:Int.tmod n p=n % p∨Int.tmod n p=n % p - p:=by
  rw [Int.tmod_eq_emod]
  split
  ·left;omega
  ·right;omega
 have e3:=Int.emod_nonneg n (show p ≠ 0 by omega)
 have e4:=Int.emod_lt_of_pos n (show 0 < p by omega)
 refine ⟨zjz (by omega),?_,?_,e1⟩
 ·rw [Int.tmod_eq_emod_of_nonneg (by omega),Int.add_emod_right]
  rcases e2 with e2|e2
  ·rw [e2,Int.emod_emod_of_dvd _ (Int.dvd_refl p)]
  ·rw [e2,Int.sub_emod_right];exact Int.emod_emod_of_dvd _ (Int.dvd_refl p)
 ·split <;> omega
theorem zIv (n p:Int) (h:Hp):Ct Tryz.prog 288 [.int .i64 n,.int .i64 p] h fun v h'=>v=.int .i64 (zIn n p)∧h'=h:=by
 refine zdn (fun A W=>by simp) Tryz.func288 rfl rfl (by simp) fun W0=>?_
 repeat' first|refine zie rfl ?_|refine zc4 rfl ?_|refine zc7 ?_|refine zc8 ?_|refine zc5 ?_|refine zc6 ?_|refine zhF (fun _=>zHZ _ _) ?_|(simp (maxSteps:=2000000) only [go_sem,yqa,yqb,yqc,yqd,yqe,yqf];try rfl)|refine zc3 ?_|(refine And.intro ?_ ?_;focus (intros;simp_all only [yqg,yqh,yqi,and_self,true_and,and_true];done))
 refine zc9 rfl (fun hc=>?_) (fun hc=>?_)
 ·rw [Bool.not_eq_true'] at hc
  repeat' first|refine zie rfl ?_|refine zc4 rfl ?_|refine zc7 ?_|refine zc8 ?_|refine zc5 ?_|refine zc6 ?_|(simp (maxSteps:=2000000) only [go_sem,yqa,yqb,yqc,yqd,yqe,yqf];try rfl)|refine zc3 ?_|(refine And.intro ?_ ?_;focus (intros;simp_all only [yqg,yqh,yqi,and_self,true_and,and_true];done))
  rw [zIn,if_neg (by rw [hc];exact Bool.false_ne_true)]
 rw [Bool.not_eq_false'] at hc
 obtain ⟨h1,h2,h3⟩:=zIt hc
 obtain ⟨w1,w2,w3,w4⟩:=zIu (n:=n) ⟨h1,h2⟩
 have hp0:¬ p=0:=by omega
 have hh:0 < Int.tdiv p 2∧Int.tdiv p 2≤1440:=by rw [Int.tdiv_eq_ediv_of_nonneg (by omega)];omega
 have hw:IntKind.i64.wrap (Int.tdiv p 2)=Int.tdiv p 2:=zjz (by omega)
 have hm:=Int.mul_le_mul hh.2 hh.2 (by omega) (by decide)
 have hm0:=Int.mul_pos hh.1 hh.1
 have hww:IntKind.i64.wrap (Int.tdiv p 2 * Int.tdiv p 2)=Int.tdiv p 2 * Int.tdiv p 2:=zjz (by omega)
 have hq0:¬ Int.tdiv p 2 * Int.tdiv p 2=0:=by omega
 have h20:¬ (2:Int)=0:=by decide
 repeat' first|refine zie rfl ?_|refine zc4 rfl ?_|refine zc7 ?_|refine zc8 ?_|refine zc5 ?_|refine zc6 ?_|(simp (maxSteps:=2000000) only [go_sem,yqa,yqb,yqc,yqd,yqe,yqf,w1,w2,hp0,hw,h20,not_false_eq_true,implies_true,true_and];try rfl)|refine zc3 ?_|(refine And.intro ?_ ?_;focus (intros;simp_all only [yqg,yqh,yqi,and_self,true_and,and_true];done))
 refine zc9 rfl (fun hq=>?_) (fun hq=>?_)
 ·repeat' first|refine zie rfl ?_|refine zc4 rfl ?_|refine zc7 ?_|refine zc8 ?_|refine zc5 ?_|refine zc6 ?_|(simp (maxSteps:=2000000) only [go_sem,yqa,yqb,yqc,yqd,yqe,yqf,hw,hww,hq0,not_false_eq_true,implies_true,true_and];try rfl)|refine zc3 ?_|(refine And.intro ?_ ?_;focus (intros;simp_all only [yqg,yqh,yqi,and_self,true_and,and_true];done))
  rw [zIn,if_pos hc,if_neg (by have:=of_decide_eq_true hq;omega),hww]
 ·repeat' first|refine zie rfl ?_|refine zc4 rfl ?_|refine zc7 ?_|refine zc8 ?_|refine zc5 ?_|refine zc6 ?_|(simp (maxSteps:=2000000) only [go_sem,yqa,yqb,yqc,yqd,yqe,yqf,hw,hww,hq0,not_false_eq_true,implies_true,true_and];try rfl)|refine zc3 ?_|(refine And.intro ?_ ?_;focus (intros;simp_all only [yqg,yqh,yqi,and_self,true_and,and_true];done))
  rw [zIn,if_pos hc,if_pos (by have:=of_decide_eq_false hq;omega),hww]
theorem zIw (n p:Int) (h:Hp):Ct Tryz.prog 277 [.int .i64 n,.int .i64 p] h fun v h'=>v=.int .i64 (zIn n p)∧h'=h:=by
 have h40:¬ (4:Int)=0:=by decide
 have h20:¬ (2:Int)=0:=by decide
 refine zdn (fun A W=>by simp) Tryz.func277 rfl rfl (by simp) fun W0=>?_
 repeat' first|refine zie rfl ?_|refine zc4 rfl ?_|refine zc7 ?_|refine zc8 ?_|refine zc5 ?_|refine zc6 ?_|(simp (maxSteps:=2000000) only [go_sem,yqa,yqb,yqc,yqd,yqe,yqf,h40,not_false_eq_true,implies_true,true_and];try rfl)|refine zc3 ?_|(refine And.intro ?_ ?_;focus (intros;simp_all only [yqg,yqh,yqi,and_self,true_and,and_true];done))
 refine zc9 rfl (fun hc=>?_) (fun hc=>?_)
 ·repeat' first|refine zie rfl ?_|refine zc4 rfl ?_|refine zc7 ?_|refine zc8 ?_|refine zc5 ?_|refine zc6 ?_|(simp (maxSteps:=2000000) only [go_sem,yqa,yqb,yqc,yqd,yqe,yqf];try rfl)|refine zc3 ?_|(refine And.intro ?_ ?_;focus (intros;simp_all only [yqg,yqh,yqi,and_self,true_and,and_true];done))
  rw [zIn,if_neg]
  intro e
  obtain ⟨h1,h2,h3⟩:=zIt e
  rw [yqh,yqh] at hc
  rcases hc with (hc|hc)|hc
  ·have:=of_decide_eq_true hc;omega
  ·have:=of_decide_eq_true hc;omega
  ·exact zjD hc h3
 have hp:zHY p=true:=by
  obtain ⟨hc,hc3⟩:=Bool.or_eq_false_iff.1 hc
  obtain ⟨hc1,hc2⟩:=Bool.or_eq_false_iff.1 hc
  have hc1:=of_decide_eq_false hc1
  have hc2:=of_decide_eq_false hc2
  simp only [zHY,In,yqi,decide_eq_true_eq,beq_iff_eq]
  exact ⟨⟨by omega,by omega⟩,zjE hc3⟩
 obtain ⟨h1,h2,h3⟩:=zIt hp
 obtain ⟨w1,w2,w3,w4⟩:=zIu (n:=n) ⟨h1,h2⟩
 have hp0:¬ p=0:=by omega
 have hh:0 < Int.tdiv p 2∧Int.tdiv p 2≤1440:=by rw [Int.tdiv_eq_ediv_of_nonneg (by omega)];omega
 have hw:IntKind.i64.wrap (Int.tdiv p 2)=Int.tdiv p 2:=zjz (by omega)
 have hm:=Int.mul_le_mul hh.2 hh.2 (by omega) (by decide)
 have hm0:=Int.mul_pos hh.1 hh.1
 have hww:IntKind.i64.wrap (Int.tdiv p 2 * Int.tdiv p 2)=Int.tdiv p 2 * Int.tdiv p 2:=zjz (by omega)
 have hq0:¬ Int.tdiv p 2 * Int.tdiv p 2=0:=by omega
 repeat' first|refine zie rfl ?_|refine zc4 rfl ?_|refine zc7 ?_|refine zc8 ?_|refine zc5 ?_|refine zc6 ?_|(simp (maxSteps:=2000000) only [go_sem,yqa,yqb,yqc,yqd,yqe,yqf,hp0,not_false_eq_true,implies_true,true_and];try rfl)|refine zc3 ?_|(refine And.intro ?_ ?_;focus (intros;simp_all only [yqg,yqh,yqi,and_self,true_and,and_true];done))
 have fin:∀ x:Int,x=n % p→True:=fun _ _=>trivial
 refine zc9 rfl (fun hx=>?_) (fun hx=>?_)
 ·have hx:=of_decide_eq_true hx
  rw [if_pos hx] at w3
  have w5:IntKind.i64.wrap (n.tmod p+p)=n % p:=by rw [w1,w3]
  repeat' first|refine zie rfl ?_|refine zc4 rfl ?_|refine zc7 ?_|refine zc8 ?_|refine zc5 ?_|refine zc6 ?_|(simp (maxSteps:=2000000) only [go_sem,yqa,yqb,yqc,yqd,yqe,yqf,hp0,hw,h20,w5,not_false_eq_true,implies_true,true_and];try rfl)|refine zc3 ?_|(refine And.intro ?_ ?_;focus (intros;simp_all only [yqg,yqh,yqi,and_self,true_and,and_true];done))
  refine zc9 rfl (fun hq=>?_) (fun hq=>?_)
  ·repeat' first|refine zie rfl ?_|refine zc4 rfl ?_|refine zc7 ?_|refine zc8 ?_|refine zc5 ?_|refine zc6 ?_|(simp (maxSteps:=2000000) only [go_sem,yqa,yqb,yqc,yqd,yqe,yqf,hw,hww,hq0,not_false_eq_true,implies_true,true_and];try rfl)|refine zc3 ?_|(refine And.intro ?_ ?_;focus (intros;simp_all only [yqg,yqh,yqi,and_self,true_and,and_true];done))
   rw [zIn,if_pos hp,if_pos (of_decide_eq_true hq),hww]
  ·repeat' first|refine zie rfl ?_|refine zc4 rfl ?_|refine zc7 ?_|refine zc8 ?_|refine zc5 ?_|refine zc6 ?_|(simp (maxSteps:=2000000) only [go_sem,yqa,yqb,yqc,yqd,yqe,yqf,hw,hww,hq0,not_false_eq_true,implies_true,true_and];try rfl)|refine zc3 ?_|(refine And.intro ?_ ?_;focus (intros;simp_all only [yqg,yqh,yqi,and_self,true_and,and_true];done))
   rw [zIn,if_pos hp,if_neg (of_decide_eq_false hq),hww]
 ·have hx:=of_decide_eq_false hx
  rw [if_neg hx] at w3
  repeat' first|refine zie rfl ?_|refine zc4 rfl ?_|refine zc7 ?_|refine zc8 ?_|refine zc5 ?_|refine zc6 ?_|(simp (maxSteps:=2000000) only [go_sem,yqa,yqb,yqc,yqd,yqe,yqf,hp0,hw,h20,w3,not_false_eq_true,implies_true,true_and];try rfl)|refine zc3 ?_|(refine And.intro ?_ ?_;focus (intros;simp_all only [yqg,yqh,yqi,and_self,true_and,and_true];done))
  refine zc9 rfl (fun hq=>?_) (fun hq=>?_)
  ·repeat' first|refine zie rfl ?_|refine zc4 rfl ?_|refine zc7 ?_|refine zc8 ?_|refine zc5 ?_|refine zc6 ?_|(simp (maxSteps:=2000000) only [go_sem,yqa,yqb,yqc,yqd,yqe,yqf,hw,hww,hq0,not_false_eq_true,implies_true,true_and];try rfl)|refine zc3 ?_|(refine And.intro ?_ ?_;focus (intros;simp_all only [yqg,yqh,yqi,and_self,true_and,and_true];done))
   rw [zIn,if_pos hp,if_pos (of_decide_eq_true hq),hww]
  ·repeat' first|refine zie rfl ?_|refine zc4 rfl ?_|refine zc7 ?_|refine zc8 ?_|refine zc5 ?_|refine zc6 ?_|(simp (maxSteps:=2000000) only [go_sem,yqa,yqb,yqc,yqd,yqe,yqf,hw,hww,hq0,not_false_eq_true,implies_true,true_and];try rfl)|refine zc3 ?_|(refine And.intro ?_ ?_;focus (intros;simp_all only [yqg,yqh,yqi,and_self,true_and,and_true];done))
   rw [zIn,if_pos hp,if_neg (of_decide_eq_false hq),hww]
theorem zIx {α β:Type} {f:β→α→β} {b:β} {l:List α} {k:Nat} (hk:k < l.length):(l.take (k+1)).foldl f b=f ((l.take k).foldl f b) l[k]:=by rw [List.take_succ_eq_append_getElem hk,List.foldl_append];rfl
theorem zIy (t:DTide) (m:Int) (h:Hp) (ht:Enc.ok h t):Ct Tryz.prog 275 [t.v,.int .i64 m] h fun v h'=>v=.int .i64 (zIp (Con.con t) m)∧h'=h:=by
 have hp:=ht.2
 have hl:=hp.max
 rw [zIp,show (Con.con t).mean=t.mean from rfl,show (Con.con t).parts=t.parts.l from zH7 _]
 refine zdn (fun A W=>by simp) Tryz.func275 rfl rfl (by simp) fun W0=>?_
 repeat' first|refine zie rfl ?_|refine zc4 rfl ?_|refine zc7 ?_|refine zc8 ?_|refine zc5 ?_|refine zc6 ?_|(simp (maxSteps:=2000000) only [go_sem,yqa,yqb,yqc,yqd,yqe,yqf];try rfl)|refine zc3 ?_|(refine And.intro ?_ ?_;focus (intros;simp_all only [yqg,yqh,yqi,and_self,true_and,and_true];done))
 refine zde (ι:=Nat) (fun k=>⟨[(1,true,.c (.v (.int .i64 m))),(5,true,.c (.v (.int .i64 ((t.parts.l.take k).foldl (zIo m) t.mean)))),(11,true,.c (.v t.parts.val)),(12,true,.c (.v (.int .i64 t.parts.l.length))),(13,true,.c (.v (.int .i64 k)))],[],h,0⟩) (fun k=>k≤t.parts.l.length) (fun k=>t.parts.l.length - k) 0 (Nat.zero_le _) ?_ ?_
 ·simp (maxSteps:=2000000) only [go_sem,yqa,yqb,yqc,yqd,yqe,yqf]
  repeat' first|exact rfl|exact trivial|assumption|decide|refine And.intro ?_ ?_
 intro k hk
 repeat' first|refine zie rfl ?_|refine zc4 rfl ?_|refine zc7 ?_|refine zc8 ?_|refine zc5 ?_|refine zc6 ?_|(simp (maxSteps:=2000000) only [go_sem,yqa,yqb,yqc,yqd,yqe,yqf];try rfl)|refine zc3 ?_|(refine And.intro ?_ ?_;focus (intros;simp_all only [yqg,yqh,yqi,and_self,true_and,and_true];done))
 refine zc9 rfl (fun hdk=>?_) (fun hdk=>?_)
 ·have hlt:=zjH hdk
  have hp':=hp.el hlt
  repeat' first|refine zie rfl ?_|refine zc4 rfl ?_|refine zc7 ?_|refine zc8 ?_|refine zc5 ?_|refine zc6 ?_|(simp (maxSteps:=2000000) only [go_sem,yqa,yqb,yqc,yqd,yqe,yqf,zx4 hp hlt,hp.some hlt,hlt,yqj];try rfl)|refine zc3 ?_|(refine And.intro ?_ ?_;focus (intros;simp_all only [yqg,yqh,yqi,and_self,true_and,and_true];done))
  have h10:¬ (10000:Int)=0:=by decide
  refine zte rfl ?_
  refine zs7 [0,1,3,4,7,2,5,8,6] rfl (by kernel_rfl) ?_
  simp (maxSteps:=2000000) only [go_sem,yqa,yqb,yqc,yqd,yqe,yqf,h10,not_false_eq_true,implies_true]
  refine ztc 9 0 [2,1] rfl (by kernel_rfl) (by kernel_rfl) (by kernel_rfl) rfl ?_
  simp (maxSteps:=2000000) only [go_sem,yqa,yqb,yqc,yqd,yqe,yqf,h10,not_false_eq_true,implies_true]
  refine zhF (fun _=>zIv _ _ _) ?_
  simp (maxSteps:=2000000) only [go_sem,yqa,yqb,yqc,yqd,yqe,yqf,h10,not_false_eq_true,implies_true]
  refine zs7 [10,11,12,13] rfl (by kernel_rfl) ?_
  simp (maxSteps:=2000000) only [go_sem,yqa,yqb,yqc,yqd,yqe,yqf,h10,not_false_eq_true,implies_true]
  refine ztd (by kernel_rfl) ?_
  repeat' first|refine zie rfl ?_|refine zc4 rfl ?_|refine zc7 ?_|refine zc8 ?_|refine zc5 ?_|refine zc6 ?_|(simp (maxSteps:=2000000) only [go_sem,yqa,yqb,yqc,yqd,yqe,yqf];try rfl)|refine zc3 ?_|(refine And.intro ?_ ?_;focus (intros;simp_all only [yqg,yqh,yqi,and_self,true_and,and_true];done))
  refine ⟨k+1,hlt,by omega,zjB ?_,zjB (zjA hlt (by omega))⟩
  rw [zIx hlt]
  rfl
 ·have hge:=zjI hdk
  repeat' first|refine zie rfl ?_|refine zc4 rfl ?_|refine zc7 ?_|refine zc8 ?_|refine zc5 ?_|refine zc6 ?_|(simp (maxSteps:=2000000) only [go_sem,yqa,yqb,yqc,yqd,yqe,yqf];try rfl)|refine zc3 ?_|(refine And.intro ?_ ?_;focus (intros;simp_all only [yqg,yqh,yqi,and_self,true_and,and_true];done))
  rw [List.take_of_length_le hge]
theorem zIz (t:DTide) (m:Int) (h:Hp) (ht:Enc.ok h t):Ct Tryz.prog 266 [t.v,.int .i64 m] h fun v h'=>v=.int .i64 (zIp (Con.con t) m)∧h'=h:=by
 have hp:=ht.2
 have hl:=hp.max
 rw [zIp,show (Con.con t).mean=t.mean from rfl,show (Con.con t).parts=t.parts.l from zH7 _]
 refine zdn (fun A W=>by simp) Tryz.func266 rfl rfl (by simp) fun W0=>?_
 repeat' first|refine zie rfl ?_|refine zc4 rfl ?_|refine zc7 ?_|refine zc8 ?_|refine zc5 ?_|refine zc6 ?_|(simp (maxSteps:=2000000) only [go_sem,yqa,yqb,yqc,yqd,yqe,yqf];try rfl)|refine zc3 ?_|(refine And.intro ?_ ?_;focus (intros;simp_all only [yqg,yqh,yqi,and_self,true_and,and_true];done))
 refine zde (ι:=Nat) (fun k=>⟨[(1,true,.c (.v (.int .i64 m))),(5,true,.c (.v (.int .i64 ((t.parts.l.take k).foldl (zIo m) t.mean)))),(11,true,.c (.v t.parts.val)),(12,true,.c (.v (.int .i64 t.parts.l.length))),(13,true,.c (.v (.int .i64 k)))],[],h,0⟩) (fun k=>k≤t.parts.l.length) (fun k=>t.parts.l.length - k) 0 (Nat.zero_le _) ?_ ?_
 ·simp (maxSteps:=2000000) only [go_sem,yqa,yqb,yqc,yqd,yqe,yqf]
  repeat' first|exact rfl|exact trivial|assumption|decide|refine And.intro ?_ ?_
 intro k hk
 repeat' first|refine zie rfl ?_|refine zc4 rfl ?_|refine zc7 ?_|refine zc8 ?_|refine zc5 ?_|refine zc6 ?_|(simp (maxSteps:=2000000) only [go_sem,yqa,yqb,yqc,yqd,yqe,yqf];try rfl)|refine zc3 ?_|(refine And.intro ?_ ?_;focus (intros;simp_all only [yqg,yqh,yqi,and_self,true_and,and_true];done))
 refine zc9 rfl (fun hdk=>?_) (fun hdk=>?_)
 ·have hlt:=zjH hdk
  have hp':=hp.el hlt
  repeat' first|refine zie rfl ?_|refine zc4 rfl ?_|refine zc7 ?_|refine zc8 ?_|refine zc5 ?_|refine zc6 ?_|(simp (maxSteps:=2000000) only [go_sem,yqa,yqb,yqc,yqd,yqe,yqf,zx4 hp hlt,hp.some hlt,hlt,yqj];try rfl)|refine zc3 ?_|(refine And.intro ?_ ?_;focus (intros;simp_all only [yqg,yqh,yqi,and_self,true_and,and_true];done))
  have h10:¬ (10000:Int)=0:=by decide
  refine zte rfl ?_
  refine zs7 [0,1,3,4,7,2,5,8,6] rfl (by kernel_rfl) ?_
  simp (maxSteps:=2000000) only [go_sem,yqa,yqb,yqc,yqd,yqe,yqf,h10,not_false_eq_true,implies_true]
  refine ztc 9 0 [2,1] rfl (by kernel_rfl) (by kernel_rfl) (by kernel_rfl) rfl ?_
  simp (maxSteps:=2000000) only [go_sem,yqa,yqb,yqc,yqd,yqe,yqf,h10,not_false_eq_true,implies_true]
  refine zhF (fun _=>zIw _ _ _) ?_
  simp (maxSteps:=2000000) only [go_sem,yqa,yqb,yqc,yqd,yqe,yqf,h10,not_false_eq_true,implies_true]
  refine zs7 [10,11,12,13] rfl (by kernel_rfl) ?_
  simp (maxSteps:=2000000) only [go_sem,yqa,yqb,yqc,yqd,yqe,yqf,h10,not_false_eq_true,implies_true]
  refine ztd (by kernel_rfl) ?_
  repeat' first|refine zie rfl ?_|refine zc4 rfl ?_|refine zc7 ?_|refine zc8 ?_|refine zc5 ?_|refine zc6 ?_|(simp (maxSteps:=2000000) only [go_sem,yqa,yqb,yqc,yqd,yqe,yqf];try rfl)|refine zc3 ?_|(refine And.intro ?_ ?_;focus (intros;simp_all only [yqg,yqh,yqi,and_self,true_and,and_true];done))
  refine ⟨k+1,hlt,by omega,zjB ?_,zjB (zjA hlt (by omega))⟩
  rw [zIx hlt]
  rfl
 ·have hge:=zjI hdk
  repeat' first|refine zie rfl ?_|refine zc4 rfl ?_|refine zc7 ?_|refine zc8 ?_|refine zc5 ?_|refine zc6 ?_|(simp (maxSteps:=2000000) only [go_sem,yqa,yqb,yqc,yqd,yqe,yqf];try rfl)|refine zc3 ?_|(refine And.intro ?_ ?_;focus (intros;simp_all only [yqg,yqh,yqi,and_self,true_and,and_true];done))
  rw [List.take_of_length_le hge]
theorem zIA (f:DForecast) (m:Int) (h:Hp) (hf:Enc.ok h f) (h0:0 < f.surges.l.length):Ct Tryz.prog 264 [f.v,.int .i64 m] h fun v h'=>v=.int .i64 (zIq (Con.con f) m)∧h'=h:=by
 have hp:=hf.2
 have hs:=zIi (m:=m) h0
 have hsi:((zIg f.surges.l m:Nat):Int) < f.surges.l.length:=by omega
 rw [zIq,zIm,sget hs]
 refine zdn (fun A W=>by simp) Tryz.func264 rfl rfl (by simp) fun W0=>?_
 repeat' first|refine zie rfl ?_|refine zc4 rfl ?_|refine zc7 ?_|refine zc8 ?_|refine zc5 ?_|refine zc6 ?_|(simp (maxSteps:=2000000) only [go_sem,yqa,yqb,yqc,yqd,yqe,yqf];try rfl)|refine zc3 ?_|(refine And.intro ?_ ?_;focus (intros;simp_all only [yqg,yqh,yqi,and_self,true_and,and_true];done))
 refine zte rfl ?_
 refine zs7 [0,2,4,6,7,1,5] rfl (by kernel_rfl) ?_
 simp (maxSteps:=2000000) only [go_sem,yqa,yqb,yqc,yqd,yqe,yqf,zyz hp hs,hp.some hs,hs,hsi,yqj,yqk]
 refine ztc 3 0 [5,6,4] rfl (by kernel_rfl) (by kernel_rfl) (by kernel_rfl) rfl ?_
 simp (maxSteps:=2000000) only [go_sem,yqa,yqb,yqc,yqd,yqe,yqf,zyz hp hs,hp.some hs,hs,hsi,yqj,yqk]
 refine zhF (fun _=>zIy _ _ _ hf.1) ?_
 simp (maxSteps:=2000000) only [go_sem,yqa,yqb,yqc,yqd,yqe,yqf,zyz hp hs,hp.some hs,hs,hsi,yqj,yqk]
 refine ztc 8 0 [5,4] rfl (by kernel_rfl) (by kernel_rfl) (by kernel_rfl) rfl ?_
 simp (maxSteps:=2000000) only [go_sem,yqa,yqb,yqc,yqd,yqe,yqf,zyz hp hs,hp.some hs,hs,hsi,yqj,yqk]
 refine zhF (fun _=>zIr f _ _ hf) ?_
 simp (maxSteps:=2000000) only [go_sem,yqa,yqb,yqc,yqd,yqe,yqf,zyz hp hs,hp.some hs,hs,hsi,yqj,yqk]
 refine zs7 [9,10,11,12,13] rfl (by kernel_rfl) ?_
 simp (maxSteps:=2000000) only [go_sem,yqa,yqb,yqc,yqd,yqe,yqf,zyz hp hs,hp.some hs,hs,hsi,yqj,yqk]
 refine ztd (by kernel_rfl) ?_
 repeat' first|refine zie rfl ?_|refine zc4 rfl ?_|refine zc7 ?_|refine zc8 ?_|refine zc5 ?_|refine zc6 ?_|(simp (maxSteps:=2000000) only [go_sem,yqa,yqb,yqc,yqd,yqe,yqf];try rfl)|refine zc3 ?_|(refine And.intro ?_ ?_;focus (intros;simp_all only [yqg,yqh,yqi,and_self,true_and,and_true];done))
end Go.Proofs.YtjiggadgmmjnhaaGreat
namespace Go.Proofs.YtjiggadgmmjnhaaGreat
open Go Go.SL
set_option maxHeartbeats 1000000
def dP:DPoint:=⟨ByteArray.empty,false⟩
def dG:DSegment:=⟨0,0,0,0,false⟩
theorem pget {l:List DPoint} {i:Nat} (hi:i < l.length):l.getD i dP=l[i]:=by simp [List.getD_eq_getElem?_getD,hi]
theorem gget {l:List DSegment} {i:Nat} (hi:i < l.length):l.getD i dG=l[i]:=by simp [List.getD_eq_getElem?_getD,hi]
def zrs (l:List DPoint) (n:ByteArray):Int:=zrk (fun p=>decide (p.name=n)) l
theorem zrt (s:Sl DPoint):Con.con s=s.l:=List.map_id _
theorem zru (s:Sl DSegment):Con.con s=s.l:=List.map_id _
theorem zrv (s:Sl DShip):Con.con s=s.l:=List.map_id _
def zrw (s:DSegment) (a b:Int):Bool:=decide (s.a=a) && decide (s.b=b) || decide (s.a=b) && decide (s.b=a)
theorem zrx (s:DSegment) (a b:Int) (h:Hp):Ct Tryz.prog 226 [s.v,.int .i64 a,.int .i64 b] h fun v h'=>v=.bool (zrw s a b)∧h'=h:=by
 refine zdn (fun A W=>by simp) Tryz.func226 rfl rfl (by simp) fun W0=>?_
 repeat' first|refine zie rfl ?_|refine zc4 rfl ?_|refine zc7 ?_|refine zc8 ?_|refine zc5 ?_|refine zc6 ?_|(simp (maxSteps:=2000000) only [go_sem,yqa,yqb,yqc,yqd,yqe,yqf];try rfl)|refine zc3 ?_|(refine And.intro ?_ ?_;focus (intros;simp_all only [yqg,yqh,yqi,and_self,true_and,and_true];done))
theorem zry (s:DSegment) (a b:Int) (h:Hp):Ct Tryz.prog 235 [s.v,.int .i64 a,.int .i64 b] h fun v h'=>v=.bool (zrw s a b)∧h'=h:=by
 refine zdn (fun A W=>by simp) Tryz.func235 rfl rfl (by simp) fun W0=>?_
 repeat' first|refine zie rfl ?_|refine zc4 rfl ?_|refine zc7 ?_|refine zc8 ?_|refine zc5 ?_|refine zc6 ?_|(simp (maxSteps:=2000000) only [go_sem,yqa,yqb,yqc,yqd,yqe,yqf];try rfl)|refine zc3 ?_|(refine And.intro ?_ ?_;focus (intros;simp_all only [yqg,yqh,yqi,and_self,true_and,and_true];done))
def ptOk (l:List DPoint) (i:Nat):Bool:=zrh (l.getD i dP).name && decide (zrs l (l.getD i dP).name=(i:Int))
def zrz (n:Nat) (s:DSegment):Bool:=decide (0≤s.a∧s.a < n∧0≤s.b∧s.b < n∧s.a ≠ s.b∧0≤s.depth∧s.depth≤3000∧1≤s.minutes∧s.minutes≤240)
def zrA (l:List DSegment) (i:Nat):Bool:=decide (∀ j,j < i→zrw (l.getD j dG) (l.getD i dG).a (l.getD i dG).b=false)
def zrB (n:Nat) (l:List DSegment) (i:Nat):Bool:=zrz n (l.getD i dG) && zrA l i
def zrC (c:PChart):Bool:=decide (c.points.length≤8) && decide (c.segments.length≤10) && decide (∀ i,i < c.points.length→ptOk c.points i=true) && decide (∀ i,i < c.segments.length→zrB c.points.length c.segments i=true)
theorem zrD (c:DChart):zrC (Con.con c)=(decide (c.points.l.length≤8) && decide (c.segments.l.length≤10) && decide (∀ i,i < c.points.l.length→ptOk c.points.l i=true) && decide (∀ i,i < c.segments.l.length→zrB c.points.l.length c.segments.l i=true)):=by
 rw [zrC,show (Con.con c).points=c.points.l from zrt _,show (Con.con c).segments=c.segments.l from zru _]
theorem zrE {p:Nat→Bool} {n k:Nat} (hk:k < n) (h:p k=false):decide (∀ i,i < n→p i=true)=false:=decide_eq_false fun hh=>by rw [hh k hk] at h;cases h
theorem zrF {p:Nat→Bool} {k:Nat} (hp:∀ i,i < k→p i=true) (h:p k=true):∀ i,i < k+1→p i=true:=fun i hi=>by
 rcases Nat.lt_succ_iff_lt_or_eq.1 hi with hi|rfl
 ·exact hp i hi
 ·exact h
theorem zrG {p:Nat→Bool} {n k:Nat} (hk:n≤k) (hp:∀ i,i < k→p i=true):decide (∀ i,i < n→p i=true)=true:=decide_eq_true fun i hi=>hp i (by omega)
theorem zrH {p:Nat→Bool}:∀ i,i < 0→p i=true:=fun i hi=>absurd hi (Nat.not_lt_zero _)
theorem zrI (c:DChart) (n:ByteArray) (h:Hp) (hc:Enc.ok h c):Ct Tryz.prog 225 [c.v,.string n] h fun v h'=>v=.int .i64 (zrs c.points.l n)∧h'=h:=by
 have hp:=hc.1
 have hl:=hp.max
 refine zdn (fun A W=>by simp) Tryz.func225 rfl rfl (by simp) fun W0=>?_
 repeat' first|refine zie rfl ?_|refine zc4 rfl ?_|refine zc7 ?_|refine zc8 ?_|refine zc5 ?_|refine zc6 ?_|(simp (maxSteps:=2000000) only [go_sem,yqa,yqb,yqc,yqd,yqe,yqf];try rfl)|refine zc3 ?_|(refine And.intro ?_ ?_;focus (intros;simp_all only [yqg,yqh,yqi,and_self,true_and,and_true];done))
 refine zde (ι:=Nat) (fun k=>⟨[(1,true,.c (.v (.string n))),(8,true,.c (.v c.points.val)),(9,true,.c (.v (.int .i64 c.points.l.length))),(10,true,.c (.v (.int .i64 k)))],[],h,1⟩) (fun k=>k≤c.points.l.length∧∀ i (hi:i < c.points.l.length),i < k→(decide (c.points.l[i].name=n))=false) (fun k=>c.points.l.length - k) 0 ⟨Nat.zero_le _,fun i _ hi=>absurd hi (Nat.not_lt_zero _)⟩ ?_ ?_
 ·simp (maxSteps:=2000000) only [go_sem,yqa,yqb,yqc,yqd,yqe,yqf]
  first|exact rfl|exact ⟨rfl,rfl⟩|exact ⟨rfl,rfl,rfl⟩|exact ⟨rfl,rfl,rfl,rfl⟩|exact ⟨rfl,rfl,rfl,rfl,rfl⟩
 intro k hk
 repeat' first|refine zie rfl ?_|refine zc4 rfl ?_|refine zc7 ?_|refine zc8 ?_|refine zc5 ?_|refine zc6 ?_|(simp (maxSteps:=2000000) only [go_sem,yqa,yqb,yqc,yqd,yqe,yqf];try rfl)|refine zc3 ?_|(refine And.intro ?_ ?_;focus (intros;simp_all only [yqg,yqh,yqi,and_self,true_and,and_true];done))
 refine zc9 rfl (fun hd=>?_) (fun hd=>?_)
 ·have hlt:=zjH hd
  repeat' first|refine zie rfl ?_|refine zc4 rfl ?_|refine zc7 ?_|refine zc8 ?_|refine zc5 ?_|refine zc6 ?_|(simp (maxSteps:=2000000) only [go_sem,yqa,yqb,yqc,yqd,yqe,yqf,zlb hp hlt,hp.some hlt,hlt,yqj];try rfl)|refine zc3 ?_|(refine And.intro ?_ ?_;focus (intros;simp_all only [yqg,yqh,yqi,and_self,true_and,and_true];done))
  refine zc9 rfl (fun hq=>?_) (fun hq=>?_)
  ·repeat' first|refine zie rfl ?_|refine zc4 rfl ?_|refine zc7 ?_|refine zc8 ?_|refine zc5 ?_|refine zc6 ?_|(simp (maxSteps:=2000000) only [go_sem,yqa,yqb,yqc,yqd,yqe,yqf];try rfl)|refine zc3 ?_|(refine And.intro ?_ ?_;focus (intros;simp_all only [yqg,yqh,yqi,and_self,true_and,and_true];done))
   rw [zrs,zrl hlt hq hk.2]
  ·repeat' first|refine zie rfl ?_|refine zc4 rfl ?_|refine zc7 ?_|refine zc8 ?_|refine zc5 ?_|refine zc6 ?_|(simp (maxSteps:=2000000) only [go_sem,yqa,yqb,yqc,yqd,yqe,yqf];try rfl)|refine zc3 ?_|(refine And.intro ?_ ?_;focus (intros;simp_all only [yqg,yqh,yqi,and_self,true_and,and_true];done))
   refine ⟨k+1,⟨hlt,fun i hi hik=>?_⟩,by omega,zjB (zjA hlt (by omega))⟩
   rcases Nat.lt_succ_iff_lt_or_eq.1 hik with hik|rfl
   ·exact hk.2 i hi hik
   ·exact hq
 ·have hge:=zjI hd
  repeat' first|refine zie rfl ?_|refine zc4 rfl ?_|refine zc7 ?_|refine zc8 ?_|refine zc5 ?_|refine zc6 ?_|(simp (maxSteps:=2000000) only [go_sem,yqa,yqb,yqc,yqd,yqe,yqf];try rfl)|refine zc3 ?_|(refine And.intro ?_ ?_;focus (intros;simp_all only [yqg,yqh,yqi,and_self,true_and,and_true];done))
  rw [zrs,zrm (fun i hi=>hk.2 i hi (by omega))]
theorem zrJ (c:DChart) (n:ByteArray) (h:Hp) (hc:Enc.ok h c):Ct Tryz.prog 234 [c.v,.string n] h fun v h'=>v=.int .i64 (zrs c.points.l n)∧h'=h:=by
 have hp:=hc.1
 have hl:=hp.max
 refine zdn (fun A W=>by simp) Tryz.func234 rfl rfl (by simp) fun W0=>?_
 repeat' first|refine zie rfl ?_|refine zc4 rfl ?_|refine zc7 ?_|refine zc8 ?_|refine zc5 ?_|refine zc6 ?_|(simp (maxSteps:=2000000) only [go_sem,yqa,yqb,yqc,yqd,yqe,yqf];try rfl)|refine zc3 ?_|(refine And.intro ?_ ?_;focus (intros;simp_all only [yqg,yqh,yqi,and_self,true_and,and_true];done))
 refine zde (ι:=Nat) (fun k=>⟨[(1,true,.c (.v (.string n))),(8,true,.c (.v c.points.val)),(9,true,.c (.v (.int .i64 c.points.l.length))),(10,true,.c (.v (.int .i64 k)))],[],h,1⟩) (fun k=>k≤c.points.l.length∧∀ i (hi:i < c.points.l.length),i < k→(decide (c.points.l[i].name=n))=false) (fun k=>c.points.l.length - k) 0 ⟨Nat.zero_le _,fun i _ hi=>absurd hi (Nat.not_lt_zero _)⟩ ?_ ?_
 ·simp (maxSteps:=2000000) only [go_sem,yqa,yqb,yqc,yqd,yqe,yqf]
  first|exact rfl|exact ⟨rfl,rfl⟩|exact ⟨rfl,rfl,rfl⟩|exact ⟨rfl,rfl,rfl,rfl⟩|exact ⟨rfl,rfl,rfl,rfl,rfl⟩
 intro k hk
 repeat' first|refine zie rfl ?_|refine zc4 rfl ?_|refine zc7 ?_|refine zc8 ?_|refine zc5 ?_|refine zc6 ?_|(simp (maxSteps:=2000000) only [go_sem,yqa,yqb,yqc,yqd,yqe,yqf];try rfl)|refine zc3 ?_|(refine And.intro ?_ ?_;focus (intros;simp_all only [yqg,yqh,yqi,and_self,true_and,and_true];done))
 refine zc9 rfl (fun hd=>?_) (fun hd=>?_)
 ·have hlt:=zjH hd
  repeat' first|refine zie rfl ?_|refine zc4 rfl ?_|refine zc7 ?_|refine zc8 ?_|refine zc5 ?_|refine zc6 ?_|(simp (maxSteps:=2000000) only [go_sem,yqa,yqb,yqc,yqd,yqe,yqf,zlb hp hlt,hp.some hlt,hlt,yqj];try rfl)|refine zc3 ?_|(refine And.intro ?_ ?_;focus (intros;simp_all only [yqg,yqh,yqi,and_self,true_and,and_true];done))
  refine zc9 rfl (fun hq=>?_) (fun hq=>?_)
  ·repeat' first|refine zie rfl ?_|refine zc4 rfl ?_|refine zc7 ?_|refine zc8 ?_|refine zc5 ?_|refine zc6 ?_|(simp (maxSteps:=2000000) only [go_sem,yqa,yqb,yqc,yqd,yqe,yqf];try rfl)|refine zc3 ?_|(refine And.intro ?_ ?_;focus (intros;simp_all only [yqg,yqh,yqi,and_self,true_and,and_true];done))
   rw [zrs,zrl hlt hq hk.2]
  ·repeat' first|refine zie rfl ?_|refine zc4 rfl ?_|refine zc7 ?_|refine zc8 ?_|refine zc5 ?_|refine zc6 ?_|(simp (maxSteps:=2000000) only [go_sem,yqa,yqb,yqc,yqd,yqe,yqf];try rfl)|refine zc3 ?_|(refine And.intro ?_ ?_;focus (intros;simp_all only [yqg,yqh,yqi,and_self,true_and,and_true];done))
   refine ⟨k+1,⟨hlt,fun i hi hik=>?_⟩,by omega,zjB (zjA hlt (by omega))⟩
   rcases Nat.lt_succ_iff_lt_or_eq.1 hik with hik|rfl
   ·exact hk.2 i hi hik
   ·exact hq
 ·have hge:=zjI hd
  repeat' first|refine zie rfl ?_|refine zc4 rfl ?_|refine zc7 ?_|refine zc8 ?_|refine zc5 ?_|refine zc6 ?_|(simp (maxSteps:=2000000) only [go_sem,yqa,yqb,yqc,yqd,yqe,yqf];try rfl)|refine zc3 ?_|(refine And.intro ?_ ?_;focus (intros;simp_all only [yqg,yqh,yqi,and_self,true_and,and_true];done))
  rw [zrs,zrm (fun i hi=>hk.2 i hi (by omega))]
theorem zrK (c:DChart) (h:Hp) (hc:Enc.ok h c):Ct Tryz.prog 175 [c.v] h fun v h'=>v=.bool (zrC (Con.con c))∧h'=h:=by
 have hp:=hc.1
 have hg:=hc.2
 have hl:=hp.max
 have hl2:=hg.max
 have hw:IntKind.i64.wrap ((c.points.l.length:Int) - 1)=(c.points.l.length:Int) - 1:=zjz (by omega)
 rw [zrD]
 refine zdn (fun A W=>by simp) Tryz.func175 rfl rfl (by simp) fun W0=>?_
 repeat' first|refine zie rfl ?_|refine zc4 rfl ?_|refine zc7 ?_|refine zc8 ?_|refine zc5 ?_|refine zc6 ?_|(simp (maxSteps:=2000000) only [go_sem,yqa,yqb,yqc,yqd,yqe,yqf];try rfl)|refine zc3 ?_|(refine And.intro ?_ ?_;focus (intros;simp_all only [yqg,yqh,yqi,and_self,true_and,and_true];done))
 refine zc9 rfl (fun hc1=>?_) (fun hc1=>?_)
 ·repeat' first|refine zie rfl ?_|refine zc4 rfl ?_|refine zc7 ?_|refine zc8 ?_|refine zc5 ?_|refine zc6 ?_|(simp (maxSteps:=2000000) only [go_sem,yqa,yqb,yqc,yqd,yqe,yqf];try rfl)|refine zc3 ?_|(refine And.intro ?_ ?_;focus (intros;simp_all only [yqg,yqh,yqi,and_self,true_and,and_true];done))
  congr 1
  rcases (yqh _ _).mp hc1 with h1|h1
  ·rw [decide_eq_false (by have:=of_decide_eq_true h1;omega)];rfl
  ·rw [decide_eq_false (p:=c.segments.l.length≤10) (by have:=of_decide_eq_true h1;omega),Bool.and_false];rfl
 obtain ⟨hc2,hc3⟩:=Bool.or_eq_false_iff.1 hc1
 have hc2:=of_decide_eq_false hc2
 have hc3:=of_decide_eq_false hc3
 rw [decide_eq_true (show c.points.l.length≤8 by omega),decide_eq_true (show c.segments.l.length≤10 by omega),Bool.and_self,Bool.true_and]
 repeat' first|refine zie rfl ?_|refine zc4 rfl ?_|refine zc7 ?_|refine zc8 ?_|refine zc5 ?_|refine zc6 ?_|(simp (maxSteps:=2000000) only [go_sem,yqa,yqb,yqc,yqd,yqe,yqf];try rfl)|refine zc3 ?_|(refine And.intro ?_ ?_;focus (intros;simp_all only [yqg,yqh,yqi,and_self,true_and,and_true];done))
 refine zde (ι:=Nat) (fun k=>⟨[(1,true,.c (.p 0 0)),(20,true,.c (.v c.points.val)),(21,true,.c (.v (.int .i64 c.points.l.length))),(22,true,.c (.v (.int .i64 k)))],[(0,.box 57 [.v c.points.val,.v c.segments.val])],h,1⟩) (fun k=>k≤c.points.l.length∧∀ i,i < k→ptOk c.points.l i=true) (fun k=>c.points.l.length - k) 0 ⟨Nat.zero_le _,zrH⟩ ?_ ?_
 ·simp (maxSteps:=2000000) only [go_sem,yqa,yqb,yqc,yqd,yqe,yqf]
  first|exact rfl|exact ⟨rfl,rfl⟩|exact ⟨rfl,rfl,rfl⟩|exact ⟨rfl,rfl,rfl,rfl⟩|exact ⟨rfl,rfl,rfl,rfl,rfl⟩
 ·intro k hk
  repeat' first|refine zie rfl ?_|refine zc4 rfl ?_|refine zc7 ?_|refine zc8 ?_|refine zc5 ?_|refine zc6 ?_|(simp (maxSteps:=2000000) only [go_sem,yqa,yqb,yqc,yqd,yqe,yqf];try rfl)|refine zc3 ?_|(refine And.intro ?_ ?_;focus (intros;simp_all only [yqg,yqh,yqi,and_self,true_and,and_true];done))
  refine zc9 rfl (fun hd=>?_) (fun hd=>?_)
  ·have hlt:=zjH hd
   repeat' first|refine zie rfl ?_|refine zc4 rfl ?_|refine zc7 ?_|refine zc8 ?_|refine zc5 ?_|refine zc6 ?_|refine zhF (fun _=>zri _ _ (hp.el hlt)) ?_|refine zhF (fun _=>zrI c _ _ hc) ?_|(simp (maxSteps:=2000000) only [go_sem,yqa,yqb,yqc,yqd,yqe,yqf,zlb hp hlt,hp.some hlt,hlt,yqj];try rfl)|refine zc3 ?_|(refine And.intro ?_ ?_;focus (intros;simp_all only [yqg,yqh,yqi,and_self,true_and,and_true];done))
   refine zc9 rfl (fun hq=>?_) (fun hq=>?_)
   ·repeat' first|refine zie rfl ?_|refine zc4 rfl ?_|refine zc7 ?_|refine zc8 ?_|refine zc5 ?_|refine zc6 ?_|(simp (maxSteps:=2000000) only [go_sem,yqa,yqb,yqc,yqd,yqe,yqf];try rfl)|refine zc3 ?_|(refine And.intro ?_ ?_;focus (intros;simp_all only [yqg,yqh,yqi,and_self,true_and,and_true];done))
    rw [zrE hlt ?_];rfl
    rw [ptOk,pget hlt]
    rcases (yqh _ _).mp hq with h1|h1
    ·rw [Bool.not_eq_true'] at h1;rw [h1];rfl
    ·rw [decide_eq_false (zjD h1),Bool.and_false]
   ·obtain ⟨h1,h2⟩:=Bool.or_eq_false_iff.1 hq
    rw [Bool.not_eq_false'] at h1
    repeat' first|refine zie rfl ?_|refine zc4 rfl ?_|refine zc7 ?_|refine zc8 ?_|refine zc5 ?_|refine zc6 ?_|(simp (maxSteps:=2000000) only [go_sem,yqa,yqb,yqc,yqd,yqe,yqf];try rfl)|refine zc3 ?_|(refine And.intro ?_ ?_;focus (intros;simp_all only [yqg,yqh,yqi,and_self,true_and,and_true];done))
    exact ⟨k+1,⟨hlt,zrF hk.2 (by rw [ptOk,pget hlt,h1,decide_eq_true (zjE h2)];rfl)⟩,by omega,zjB (zjA hlt (by omega))⟩
  ·have hge:=zjI hd
   rw [zrG hge hk.2,Bool.true_and]
   repeat' first|refine zie rfl ?_|refine zc4 rfl ?_|refine zc7 ?_|refine zc8 ?_|refine zc5 ?_|refine zc6 ?_|(simp (maxSteps:=2000000) only [go_sem,yqa,yqb,yqc,yqd,yqe,yqf];try rfl)|refine zc3 ?_|(refine And.intro ?_ ?_;focus (intros;simp_all only [yqg,yqh,yqi,and_self,true_and,and_true];done))
   refine zde (ι:=Nat) (fun k=>⟨[(1,true,.c (.p 0 0)),(41,true,.c (.v c.segments.val)),(42,true,.c (.v (.int .i64 c.segments.l.length))),(43,true,.c (.v (.int .i64 k)))],[(0,.box 57 [.v c.points.val,.v c.segments.val])],h,1⟩) (fun k=>k≤c.segments.l.length∧∀ i,i < k→zrB c.points.l.length c.segments.l i=true) (fun k=>c.segments.l.length - k) 0 ⟨Nat.zero_le _,zrH⟩ ?_ ?_
   ·simp (maxSteps:=2000000) only [go_sem,yqa,yqb,yqc,yqd,yqe,yqf]
    first|exact rfl|exact ⟨rfl,rfl⟩|exact ⟨rfl,rfl,rfl⟩|exact ⟨rfl,rfl,rfl,rfl⟩|exact ⟨rfl,rfl,rfl,rfl,rfl⟩
   intro k hk
   repeat' first|refine zie rfl ?_|refine zc4 rfl ?_|refine zc7 ?_|refine zc8 ?_|refine zc5 ?_|refine zc6 ?_|(simp (maxSteps:=2000000) only [go_sem,yqa,yqb,yqc,yqd,yqe,yqf];try rfl)|refine zc3 ?_|(refine And.intro ?_ ?_;focus (intros;simp_all only [yqg,yqh,yqi,and_self,true_and,and_true];done))
   refine zc9 rfl (fun hd=>?_) (fun hd=>?_)
   ·have hlt:=zjH hd
    repeat' first|refine zie rfl ?_|refine zc4 rfl ?_|refine zc7 ?_|refine zc8 ?_|refine zc5 ?_|refine zc6 ?_|refine zhF (fun _=>zrc _ _ _ _) ?_|refine zhF (fun _=>zrc _ _ _ _) ?_|(simp (maxSteps:=2000000) only [go_sem,yqa,yqb,yqc,yqd,yqe,yqf,zld hg hlt,hg.some hlt,hlt,yqj,hw];try rfl)|refine zc3 ?_|(refine And.intro ?_ ?_;focus (intros;simp_all only [yqg,yqh,yqi,and_self,true_and,and_true];done))
    refine zc9 rfl (fun hq=>?_) (fun hq=>?_)
    ·repeat' first|refine zie rfl ?_|refine zc4 rfl ?_|refine zc7 ?_|refine zc8 ?_|refine zc5 ?_|refine zc6 ?_|(simp (maxSteps:=2000000) only [go_sem,yqa,yqb,yqc,yqd,yqe,yqf];try rfl)|refine zc3 ?_|(refine And.intro ?_ ?_;focus (intros;simp_all only [yqg,yqh,yqi,and_self,true_and,and_true];done))
     rw [zrE hlt ?_]
     rw [zrB,gget hlt,zrz,decide_eq_false ?_,Bool.false_and]
     simp only [yqh,Bool.not_eq_true',Bool.and_eq_false_iff,decide_eq_false_iff_not,beq_iff_eq] at hq
     omega
    ·have hin:zrz c.points.l.length c.segments.l[k]=true:=by
      simp only [yqg,Bool.not_eq_false',yqi,decide_eq_true_eq,beq_eq_false_iff_ne] at hq
      rw [zrz]
      refine decide_eq_true ?_
      omega
     have hgo:=Sl.to_ok hg k
     have hlt0:=Sl.to_len hk.1
     have hcap:=hg.1
     repeat' first|refine zie rfl ?_|refine zc4 rfl ?_|refine zc7 ?_|refine zc8 ?_|refine zc5 ?_|refine zc6 ?_|(simp (maxSteps:=2000000) only [go_sem,yqa,yqb,yqc,yqd,yqe,yqf];try rfl)|refine zc3 ?_|(refine And.intro ?_ ?_;focus (intros;simp_all only [yqg,yqh,yqi,and_self,true_and,and_true];done))
     refine ⟨by omega,?_⟩
     simp only [Int.toNat_zero,Nat.sub_zero,Nat.zero_mul,zrp,zrq,ite_self]
     rw [zrr hk.1]
     repeat' first|refine zie rfl ?_|refine zc4 rfl ?_|refine zc7 ?_|refine zc8 ?_|refine zc5 ?_|refine zc6 ?_|(simp (maxSteps:=2000000) only [go_sem,yqa,yqb,yqc,yqd,yqe,yqf];try rfl)|refine zc3 ?_|(refine And.intro ?_ ?_;focus (intros;simp_all only [yqg,yqh,yqi,and_self,true_and,and_true];done))
     refine zde (ι:=Nat) (fun j=>⟨[(1,true,.c (.p 0 0)),(6,true,.c (.p 1 0)),(41,true,.c (.v c.segments.val)),(42,true,.c (.v (.int .i64 c.segments.l.length))),(43,true,.c (.v (.int .i64 k))),(88,true,.c (.v (c.segments.to k).val)),(89,true,.c (.v (.int .i64 k))),(90,true,.c (.v (.int .i64 j)))],[(0,.box 57 [.v c.points.val,.v c.segments.val]),(1,.box 221 [.v (.int .i64 c.segments.l[k].a),.v (.int .i64 c.segments.l[k].b),.v (.int .i64 c.segments.l[k].depth),.v (.int .i64 c.segments.l[k].minutes),.v (.bool c.segments.l[k].meet)])],h,2⟩) (fun j=>j≤k∧∀ i,i < j→zrw (c.segments.l.getD i dG) c.segments.l[k].a c.segments.l[k].b=false) (fun j=>k - j) 0 ⟨Nat.zero_le _,fun i hi=>absurd hi (Nat.not_lt_zero _)⟩ ?_ ?_
     ·simp (maxSteps:=2000000) only [go_sem,yqa,yqb,yqc,yqd,yqe,yqf]
      first|exact rfl|exact ⟨rfl,rfl⟩|exact ⟨rfl,rfl,rfl⟩|exact ⟨rfl,rfl,rfl,rfl⟩|exact ⟨rfl,rfl,rfl,rfl,rfl⟩
     intro j hj
     repeat' first|refine zie rfl ?_|refine zc4 rfl ?_|refine zc7 ?_|refine zc8 ?_|refine zc5 ?_|refine zc6 ?_|(simp (maxSteps:=2000000) only [go_sem,yqa,yqb,yqc,yqd,yqe,yqf];try rfl)|refine zc3 ?_|(refine And.intro ?_ ?_;focus (intros;simp_all only [yqg,yqh,yqi,and_self,true_and,and_true];done))
     refine zc9 rfl (fun hq2=>?_) (fun hq2=>?_)
     ·have hltj:=zjH hq2
      have hltj':j < (c.segments.to k).l.length:=by omega
      have hltj2:j < c.segments.l.length:=by omega
      have hje:=Sl.to_get hltj' hltj2
      repeat' first|refine zie rfl ?_|refine zc4 rfl ?_|refine zc7 ?_|refine zc8 ?_|refine zc5 ?_|refine zc6 ?_|refine zhF (fun _=>zrx _ _ _ _) ?_|(simp (maxSteps:=2000000) only [go_sem,yqa,yqb,yqc,yqd,yqe,yqf,zld hgo hltj',hgo.some hltj',hltj',hltj,yqj,hje];try rfl)|refine zc3 ?_|(refine And.intro ?_ ?_;focus (intros;simp_all only [yqg,yqh,yqi,and_self,true_and,and_true];done))
      refine zc9 rfl (fun hq3=>?_) (fun hq3=>?_)
      ·repeat' first|refine zie rfl ?_|refine zc4 rfl ?_|refine zc7 ?_|refine zc8 ?_|refine zc5 ?_|refine zc6 ?_|(simp (maxSteps:=2000000) only [go_sem,yqa,yqb,yqc,yqd,yqe,yqf];try rfl)|refine zc3 ?_|(refine And.intro ?_ ?_;focus (intros;simp_all only [yqg,yqh,yqi,and_self,true_and,and_true];done))
       rw [zrE hlt ?_]
       rw [zrB,gget hlt,hin,Bool.true_and,zrA]
       refine decide_eq_false fun hh=>?_
       have:=hh j hltj
       rw [gget hltj2,gget hlt,hq3] at this
       cases this
      ·repeat' first|refine zie rfl ?_|refine zc4 rfl ?_|refine zc7 ?_|refine zc8 ?_|refine zc5 ?_|refine zc6 ?_|(simp (maxSteps:=2000000) only [go_sem,yqa,yqb,yqc,yqd,yqe,yqf];try rfl)|refine zc3 ?_|(refine And.intro ?_ ?_;focus (intros;simp_all only [yqg,yqh,yqi,and_self,true_and,and_true];done))
       exact ⟨j+1,⟨hltj,fun i hi=>by
        rcases Nat.lt_succ_iff_lt_or_eq.1 hi with hi|rfl
        ·exact hj.2 i hi
        ·rw [gget hltj2];exact hq3⟩,by omega,zjB (zjA hltj (by omega))⟩
     ·have hgej:=zjI hq2
      repeat' first|refine zie rfl ?_|refine zc4 rfl ?_|refine zc7 ?_|refine zc8 ?_|refine zc5 ?_|refine zc6 ?_|(simp (maxSteps:=2000000) only [go_sem,yqa,yqb,yqc,yqd,yqe,yqf];try rfl)|refine zc3 ?_|(refine And.intro ?_ ?_;focus (intros;simp_all only [yqg,yqh,yqi,and_self,true_and,and_true];done))
      refine ⟨k+1,⟨hlt,zrF hk.2 ?_⟩,by omega,zjB (zjA hlt (by omega))⟩
      rw [zrB,gget hlt,hin,Bool.true_and,zrA]
      refine decide_eq_true fun i hi=>?_
      rw [gget hlt];exact hj.2 i (by omega)
   ·have hge:=zjI hd
    repeat' first|refine zie rfl ?_|refine zc4 rfl ?_|refine zc7 ?_|refine zc8 ?_|refine zc5 ?_|refine zc6 ?_|(simp (maxSteps:=2000000) only [go_sem,yqa,yqb,yqc,yqd,yqe,yqf];try rfl)|refine zc3 ?_|(refine And.intro ?_ ?_;focus (intros;simp_all only [yqg,yqh,yqi,and_self,true_and,and_true];done))
    rw [zrG hge hk.2]
theorem zrL (c:DChart) (h:Hp) (hc:Enc.ok h c):Ct Tryz.prog 189 [c.v] h fun v h'=>v=.bool (zrC (Con.con c))∧h'=h:=by
 have hp:=hc.1
 have hg:=hc.2
 have hl:=hp.max
 have hl2:=hg.max
 have hw:IntKind.i64.wrap ((c.points.l.length:Int) - 1)=(c.points.l.length:Int) - 1:=zjz (by omega)
 rw [zrD]
 refine zdn (fun A W=>by simp) Tryz.func189 rfl rfl (by simp) fun W0=>?_
 repeat' first|refine zie rfl ?_|refine zc4 rfl ?_|refine zc7 ?_|refine zc8 ?_|refine zc5 ?_|refine zc6 ?_|(simp (maxSteps:=2000000) only [go_sem,yqa,yqb,yqc,yqd,yqe,yqf];try rfl)|refine zc3 ?_|(refine And.intro ?_ ?_;focus (intros;simp_all only [yqg,yqh,yqi,and_self,true_and,and_true];done))
 refine zc9 rfl (fun hc1=>?_) (fun hc1=>?_)
 ·repeat' first|refine zie rfl ?_|refine zc4 rfl ?_|refine zc7 ?_|refine zc8 ?_|refine zc5 ?_|refine zc6 ?_|(simp (maxSteps:=2000000) only [go_sem,yqa,yqb,yqc,yqd,yqe,yqf];try rfl)|refine zc3 ?_|(refine And.intro ?_ ?_;focus (intros;simp_all only [yqg,yqh,yqi,and_self,true_and,and_true];done))
  congr 1
  rcases (yqh _ _).mp hc1 with h1|h1
  ·rw [decide_eq_false (by have:=of_decide_eq_true h1;omega)];rfl
  ·rw [decide_eq_false (p:=c.segments.l.length≤10) (by have:=of_decide_eq_true h1;omega),Bool.and_false];rfl
 obtain ⟨hc2,hc3⟩:=Bool.or_eq_false_iff.1 hc1
 have hc2:=of_decide_eq_false hc2
 have hc3:=of_decide_eq_false hc3
 rw [decide_eq_true (show c.points.l.length≤8 by omega),decide_eq_true (show c.segments.l.length≤10 by omega),Bool.and_self,Bool.true_and]
 repeat' first|refine zie rfl ?_|refine zc4 rfl ?_|refine zc7 ?_|refine zc8 ?_|refine zc5 ?_|refine zc6 ?_|(simp (maxSteps:=2000000) only [go_sem,yqa,yqb,yqc,yqd,yqe,yqf];try rfl)|refine zc3 ?_|(refine And.intro ?_ ?_;focus (intros;simp_all only [yqg,yqh,yqi,and_self,true_and,and_true];done))
 refine zde (ι:=Nat) (fun k=>⟨[(1,true,.c (.p 0 0)),(20,true,.c (.v c.points.val)),(21,true,.c (.v (.int .i64 c.points.l.length))),(22,true,.c (.v (.int .i64 k)))],[(0,.box 57 [.v c.points.val,.v c.segments.val])],h,1⟩) (fun k=>k≤c.points.l.length∧∀ i,i < k→ptOk c.points.l i=true) (fun k=>c.points.l.length - k) 0 ⟨Nat.zero_le _,zrH⟩ ?_ ?_
 ·simp (maxSteps:=2000000) only [go_sem,yqa,yqb,yqc,yqd,yqe,yqf]
  first|exact rfl|exact ⟨rfl,rfl⟩|exact ⟨rfl,rfl,rfl⟩|exact ⟨rfl,rfl,rfl,rfl⟩|exact ⟨rfl,rfl,rfl,rfl,rfl⟩
 ·intro k hk
  repeat' first|refine zie rfl ?_|refine zc4 rfl ?_|refine zc7 ?_|refine zc8 ?_|refine zc5 ?_|refine zc6 ?_|(simp (maxSteps:=2000000) only [go_sem,yqa,yqb,yqc,yqd,yqe,yqf];try rfl)|refine zc3 ?_|(refine And.intro ?_ ?_;focus (intros;simp_all only [yqg,yqh,yqi,and_self,true_and,and_true];done))
  refine zc9 rfl (fun hd=>?_) (fun hd=>?_)
  ·have hlt:=zjH hd
   repeat' first|refine zie rfl ?_|refine zc4 rfl ?_|refine zc7 ?_|refine zc8 ?_|refine zc5 ?_|refine zc6 ?_|refine zhF (fun _=>zrj _ _ (hp.el hlt)) ?_|refine zhF (fun _=>zrJ c _ _ hc) ?_|(simp (maxSteps:=2000000) only [go_sem,yqa,yqb,yqc,yqd,yqe,yqf,zlb hp hlt,hp.some hlt,hlt,yqj];try rfl)|refine zc3 ?_|(refine And.intro ?_ ?_;focus (intros;simp_all only [yqg,yqh,yqi,and_self,true_and,and_true];done))
   refine zc9 rfl (fun hq=>?_) (fun hq=>?_)
   ·repeat' first|refine zie rfl ?_|refine zc4 rfl ?_|refine zc7 ?_|refine zc8 ?_|refine zc5 ?_|refine zc6 ?_|(simp (maxSteps:=2000000) only [go_sem,yqa,yqb,yqc,yqd,yqe,yqf];try rfl)|refine zc3 ?_|(refine And.intro ?_ ?_;focus (intros;simp_all only [yqg,yqh,yqi,and_self,true_and,and_true];done))
    rw [zrE hlt ?_];rfl
    rw [ptOk,pget hlt]
    rcases (yqh _ _).mp hq with h1|h1
    ·rw [Bool.not_eq_true'] at h1;rw [h1];rfl
    ·rw [decide_eq_false (zjD h1),Bool.and_false]
   ·obtain ⟨h1,h2⟩:=Bool.or_eq_false_iff.1 hq
    rw [Bool.not_eq_false'] at h1
    repeat' first|refine zie rfl ?_|refine zc4 rfl ?_|refine zc7 ?_|refine zc8 ?_|refine zc5 ?_|refine zc6 ?_|(simp (maxSteps:=2000000) only [go_sem,yqa,yqb,yqc,yqd,yqe,yqf];try rfl)|refine zc3 ?_|(refine And.intro ?_ ?_;focus (intros;simp_all only [yqg,yqh,yqi,and_self,true_and,and_true];done))
    exact ⟨k+1,⟨hlt,zrF hk.2 (by rw [ptOk,pget hlt,h1,decide_eq_true (zjE h2)];rfl)⟩,by omega,zjB (zjA hlt (by omega))⟩
  ·have hge:=zjI hd
   rw [zrG hge hk.2,Bool.true_and]
   repeat' first|refine zie rfl ?_|refine zc4 rfl ?_|refine zc7 ?_|refine zc8 ?_|refine zc5 ?_|refine zc6 ?_|(simp (maxSteps:=2000000) only [go_sem,yqa,yqb,yqc,yqd,yqe,yqf];try rfl)|refine zc3 ?_|(refine And.intro ?_ ?_;focus (intros;simp_all only [yqg,yqh,yqi,and_self,true_and,and_true];done))
   refine zde (ι:=Nat) (fun k=>⟨[(1,true,.c (.p 0 0)),(41,true,.c (.v c.segments.val)),(42,true,.c (.v (.int .i64 c.segments.l.length))),(43,true,.c (.v (.int .i64 k)))],[(0,.box 57 [.v c.points.val,.v c.segments.val])],h,1⟩) (fun k=>k≤c.segments.l.length∧∀ i,i < k→zrB c.points.l.length c.segments.l i=true) (fun k=>c.segments.l.length - k) 0 ⟨Nat.zero_le _,zrH⟩ ?_ ?_
   ·simp (maxSteps:=2000000) only [go_sem,yqa,yqb,yqc,yqd,yqe,yqf]
    first|exact rfl|exact ⟨rfl,rfl⟩|exact ⟨rfl,rfl,rfl⟩|exact ⟨rfl,rfl,rfl,rfl⟩|exact ⟨rfl,rfl,rfl,rfl,rfl⟩
   intro k hk
   repeat' first|refine zie rfl ?_|refine zc4 rfl ?_|refine zc7 ?_|refine zc8 ?_|refine zc5 ?_|refine zc6 ?_|(simp (maxSteps:=2000000) only [go_sem,yqa,yqb,yqc,yqd,yqe,yqf];try rfl)|refine zc3 ?_|(refine And.intro ?_ ?_;focus (intros;simp_all only [yqg,yqh,yqi,and_self,true_and,and_true];done))
   refine zc9 rfl (fun hd=>?_) (fun hd=>?_)
   ·have hlt:=zjH hd
    repeat' first|refine zie rfl ?_|refine zc4 rfl ?_|refine zc7 ?_|refine zc8 ?_|refine zc5 ?_|refine zc6 ?_|refine zhF (fun _=>zrf _ _ _) ?_|refine zhF (fun _=>zrd _ _ _ _) ?_|(simp (maxSteps:=2000000) only [go_sem,yqa,yqb,yqc,yqd,yqe,yqf,zld hg hlt,hg.some hlt,hlt,yqj];try rfl)|refine zc3 ?_|(refine And.intro ?_ ?_;focus (intros;simp_all only [yqg,yqh,yqi,and_self,true_and,and_true];done))
    refine zc9 rfl (fun hq=>?_) (fun hq=>?_)
    ·repeat' first|refine zie rfl ?_|refine zc4 rfl ?_|refine zc7 ?_|refine zc8 ?_|refine zc5 ?_|refine zc6 ?_|(simp (maxSteps:=2000000) only [go_sem,yqa,yqb,yqc,yqd,yqe,yqf];try rfl)|refine zc3 ?_|(refine And.intro ?_ ?_;focus (intros;simp_all only [yqg,yqh,yqi,and_self,true_and,and_true];done))
     rw [zrE hlt ?_]
     rw [zrB,gget hlt,zrz,decide_eq_false ?_,Bool.false_and]
     simp only [yqh,Bool.not_eq_true',Bool.and_eq_false_iff,decide_eq_false_iff_not,beq_iff_eq] at hq
     omega
    ·have hin:zrz c.points.l.length c.segments.l[k]=true:=by
      simp only [yqg,Bool.not_eq_false',yqi,decide_eq_true_eq,beq_eq_false_iff_ne] at hq
      rw [zrz]
      refine decide_eq_true ?_
      omega
     have hgo:=Sl.to_ok hg k
     have hlt0:=Sl.to_len hk.1
     have hcap:=hg.1
     repeat' first|refine zie rfl ?_|refine zc4 rfl ?_|refine zc7 ?_|refine zc8 ?_|refine zc5 ?_|refine zc6 ?_|(simp (maxSteps:=2000000) only [go_sem,yqa,yqb,yqc,yqd,yqe,yqf];try rfl)|refine zc3 ?_|(refine And.intro ?_ ?_;focus (intros;simp_all only [yqg,yqh,yqi,and_self,true_and,and_true];done))
     refine ⟨by omega,?_⟩
     simp only [Int.toNat_zero,Nat.sub_zero,Nat.zero_mul,zrp,zrq,ite_self]
     rw [zrr hk.1]
     repeat' first|refine zie rfl ?_|refine zc4 rfl ?_|refine zc7 ?_|refine zc8 ?_|refine zc5 ?_|refine zc6 ?_|(simp (maxSteps:=2000000) only [go_sem,yqa,yqb,yqc,yqd,yqe,yqf];try rfl)|refine zc3 ?_|(refine And.intro ?_ ?_;focus (intros;simp_all only [yqg,yqh,yqi,and_self,true_and,and_true];done))
     refine zde (ι:=Nat) (fun j=>⟨[(1,true,.c (.p 0 0)),(6,true,.c (.p 1 0)),(41,true,.c (.v c.segments.val)),(42,true,.c (.v (.int .i64 c.segments.l.length))),(43,true,.c (.v (.int .i64 k))),(86,true,.c (.v (c.segments.to k).val)),(87,true,.c (.v (.int .i64 k))),(88,true,.c (.v (.int .i64 j)))],[(0,.box 57 [.v c.points.val,.v c.segments.val]),(1,.box 221 [.v (.int .i64 c.segments.l[k].a),.v (.int .i64 c.segments.l[k].b),.v (.int .i64 c.segments.l[k].depth),.v (.int .i64 c.segments.l[k].minutes),.v (.bool c.segments.l[k].meet)])],h,2⟩) (fun j=>j≤k∧∀ i,i < j→zrw (c.segments.l.getD i dG) c.segments.l[k].a c.segments.l[k].b=false) (fun j=>k - j) 0 ⟨Nat.zero_le _,fun i hi=>absurd hi (Nat.not_lt_zero _)⟩ ?_ ?_
     ·simp (maxSteps:=2000000) only [go_sem,yqa,yqb,yqc,yqd,yqe,yqf]
      first|exact rfl|exact ⟨rfl,rfl⟩|exact ⟨rfl,rfl,rfl⟩|exact ⟨rfl,rfl,rfl,rfl⟩|exact ⟨rfl,rfl,rfl,rfl,rfl⟩
     intro j hj
     repeat' first|refine zie rfl ?_|refine zc4 rfl ?_|refine zc7 ?_|refine zc8 ?_|refine zc5 ?_|refine zc6 ?_|(simp (maxSteps:=2000000) only [go_sem,yqa,yqb,yqc,yqd,yqe,yqf];try rfl)|refine zc3 ?_|(refine And.intro ?_ ?_;focus (intros;simp_all only [yqg,yqh,yqi,and_self,true_and,and_true];done))
     refine zc9 rfl (fun hq2=>?_) (fun hq2=>?_)
     ·have hltj:=zjH hq2
      have hltj':j < (c.segments.to k).l.length:=by omega
      have hltj2:j < c.segments.l.length:=by omega
      have hje:=Sl.to_get hltj' hltj2
      repeat' first|refine zie rfl ?_|refine zc4 rfl ?_|refine zc7 ?_|refine zc8 ?_|refine zc5 ?_|refine zc6 ?_|refine zhF (fun _=>zry _ _ _ _) ?_|(simp (maxSteps:=2000000) only [go_sem,yqa,yqb,yqc,yqd,yqe,yqf,zld hgo hltj',hgo.some hltj',hltj',hltj,yqj,hje];try rfl)|refine zc3 ?_|(refine And.intro ?_ ?_;focus (intros;simp_all only [yqg,yqh,yqi,and_self,true_and,and_true];done))
      refine zc9 rfl (fun hq3=>?_) (fun hq3=>?_)
      ·repeat' first|refine zie rfl ?_|refine zc4 rfl ?_|refine zc7 ?_|refine zc8 ?_|refine zc5 ?_|refine zc6 ?_|(simp (maxSteps:=2000000) only [go_sem,yqa,yqb,yqc,yqd,yqe,yqf];try rfl)|refine zc3 ?_|(refine And.intro ?_ ?_;focus (intros;simp_all only [yqg,yqh,yqi,and_self,true_and,and_true];done))
       rw [zrE hlt ?_]
       rw [zrB,gget hlt,hin,Bool.true_and,zrA]
       refine decide_eq_false fun hh=>?_
       have:=hh j hltj
       rw [gget hltj2,gget hlt,hq3] at this
       cases this
      ·repeat' first|refine zie rfl ?_|refine zc4 rfl ?_|refine zc7 ?_|refine zc8 ?_|refine zc5 ?_|refine zc6 ?_|(simp (maxSteps:=2000000) only [go_sem,yqa,yqb,yqc,yqd,yqe,yqf];try rfl)|refine zc3 ?_|(refine And.intro ?_ ?_;focus (intros;simp_all only [yqg,yqh,yqi,and_self,true_and,and_true];done))
       exact ⟨j+1,⟨hltj,fun i hi=>by
        rcases Nat.lt_succ_iff_lt_or_eq.1 hi with hi|rfl
        ·exact hj.2 i hi
        ·rw [gget hltj2];exact hq3⟩,by omega,zjB (zjA hltj (by omega))⟩
     ·have hgej:=zjI hq2
      repeat' first|refine zie rfl ?_|refine zc4 rfl ?_|refine zc7 ?_|refine zc8 ?_|refine zc5 ?_|refine zc6 ?_|(simp (maxSteps:=2000000) only [go_sem,yqa,yqb,yqc,yqd,yqe,yqf];try rfl)|refine zc3 ?_|(refine And.intro ?_ ?_;focus (intros;simp_all only [yqg,yqh,yqi,and_self,true_and,and_true];done))
      refine ⟨k+1,⟨hlt,zrF hk.2 ?_⟩,by omega,zjB (zjA hlt (by omega))⟩
      rw [zrB,gget hlt,hin,Bool.true_and,zrA]
      refine decide_eq_true fun i hi=>?_
      rw [gget hlt];exact hj.2 i (by omega)
   ·have hge:=zjI hd
    repeat' first|refine zie rfl ?_|refine zc4 rfl ?_|refine zc7 ?_|refine zc8 ?_|refine zc5 ?_|refine zc6 ?_|(simp (maxSteps:=2000000) only [go_sem,yqa,yqb,yqc,yqd,yqe,yqf];try rfl)|refine zc3 ?_|(refine And.intro ?_ ?_;focus (intros;simp_all only [yqg,yqh,yqi,and_self,true_and,and_true];done))
    rw [zrG hge hk.2]
end Go.Proofs.YtjiggadgmmjnhaaGreat
