/- What functions of the given program compute, as contracts. -/
import Derived.Test.YtdejfjdbcggilaaGreatSIsRefusalx5
set_option linter.unusedVariables false
set_option linter.unusedSimpArgs false
set_option maxRecDepth 4000
open Nat renaming reduceAdd → jq, reduceMul → jj, reduceBEq → jy, reduceLeDiff → jv, reduceLT → jk, reduceEqDiff → jx
open Bool renaming or_eq_false_iff → jp, or_eq_true → jQ, and_eq_true → jJ
open Int renaming toNat_natCast → jW, natCast_nonneg → jY
open Go.Proofs.Tryz renaming prog → jV
namespace Go.Proofs.YtdejfjdbcggilaaGreat
open Go Go.SL
set_option maxHeartbeats 1000000
def dP:DPoint:=⟨ByteArray.empty,false⟩
def dG:DSegment:=⟨0,0,0,0,false⟩
theorem pget {l:List DPoint} {i:Nat} (hi:i < l.length):l.getD i dP=l[i]:=by simp [List.getD_eq_getElem?_getD,hi]
theorem gget {l:List DSegment} {i:Nat} (hi:i < l.length):l.getD i dG=l[i]:=by simp [List.getD_eq_getElem?_getD,hi]
def zzZ (l:List DPoint) (n:ByteArray):Int:=zzL (fun p=>decide (p.name=n)) l
theorem zz0 (s:Sl DPoint):Con.con s=s.l:=List.map_id _
theorem zz1 (s:Sl DSegment):Con.con s=s.l:=List.map_id _
theorem zz2 (s:Sl DShip):Con.con s=s.l:=List.map_id _
def zz3 (s:DSegment) (a b:Int):Bool:=decide (s.a=a) && decide (s.b=b) || decide (s.a=b) && decide (s.b=a)
theorem zz4 (s:DSegment) (a b:Int) (h:Hp):Ct jV 221 [s.v,.int .i64 a,.int .i64 b] h fun v h'=>v=.bool (zz3 s a b)∧h'=h:=by
 refine zdn (fun A W=>by simp) Tryz.func221 rfl rfl (by simp) fun W0=>?_
 exact Wk0
theorem zz5 (s:DSegment) (a b:Int) (h:Hp):Ct jV 196 [s.v,.int .i64 a,.int .i64 b] h fun v h'=>v=.bool (zz3 s a b)∧h'=h:=by
 refine zdn (fun A W=>by simp) Tryz.func196 rfl rfl (by simp) fun W0=>?_
 exact Wk0
def ptOk (l:List DPoint) (i:Nat):Bool:=zzI (l.getD i dP).name && decide (zzZ l (l.getD i dP).name=(i:Int))
def zz6 (n:Nat) (s:DSegment):Bool:=decide (0≤s.a∧s.a < n∧0≤s.b∧s.b < n∧s.a ≠ s.b∧0≤s.depth∧s.depth≤3000∧1≤s.minutes∧s.minutes≤240)
def zz7 (l:List DSegment) (i:Nat):Bool:=decide (∀ j,j < i→zz3 (l.getD j dG) (l.getD i dG).a (l.getD i dG).b=false)
def zz8 (n:Nat) (l:List DSegment) (i:Nat):Bool:=zz6 n (l.getD i dG) && zz7 l i
def zz9 (c:PChart):Bool:=decide (c.points.length≤8) && decide (c.segments.length≤10) && decide (∀ i,i < c.points.length→ptOk c.points i=true) && decide (∀ i,i < c.segments.length→zz8 c.points.length c.segments i=true)
theorem zAa (c:DChart):zz9 (Con.con c)=(decide (c.points.l.length≤8) && decide (c.segments.l.length≤10) && decide (∀ i,i < c.points.l.length→ptOk c.points.l i=true) && decide (∀ i,i < c.segments.l.length→zz8 c.points.l.length c.segments.l i=true)):=by
 rw [zz9,show (Con.con c).points=c.points.l from zz0 _,show (Con.con c).segments=c.segments.l from zz1 _]
theorem zAb {p:Nat→Bool} {n k:Nat} (hk:k < n) (h:p k=false):decide (∀ i,i < n→p i=true)=false:=decide_eq_false fun hh=>by rw [hh k hk] at h;cases h
theorem zAc {p:Nat→Bool} {k:Nat} (hp:∀ i,i < k→p i=true) (h:p k=true):∀ i,i < k+1→p i=true:=fun i hi=>by
 rcases Nat.lt_succ_iff_lt_or_eq.1 hi with hi|rfl
 ·exact hp i hi
 ·exact h
theorem zAd {p:Nat→Bool} {n k:Nat} (hk:n≤k) (hp:∀ i,i < k→p i=true):decide (∀ i,i < n→p i=true)=true:=decide_eq_true fun i hi=>hp i (by omega)
theorem zAe {p:Nat→Bool}:∀ i,i < 0→p i=true:=fun i hi=>absurd hi (Nat.not_lt_zero _)
theorem zAf (c:DChart) (n:ByteArray) (h:Hp) (hc:Enc.ok h c):Ct jV 220 [c.v,.string n] h fun v h'=>v=.int .i64 (zzZ c.points.l n)∧h'=h:=by
 have hp:=hc.1
 have hl:=hp.max
 refine zdn (fun A W=>by simp) Tryz.func220 rfl rfl (by simp) fun W0=>?_
 refine Wk ?_
 refine zde (ι:=Nat) (fun k=>⟨[(1,true,.c (.v (.string n))),(8,true,.c (.v c.points.val)),(9,true,.c (.v (.int .i64 c.points.l.length))),(10,true,.c (.v (.int .i64 k)))],[],h,1⟩) (fun k=>k≤c.points.l.length∧∀ i (hi:i < c.points.l.length),i < k→(decide (c.points.l[i].name=n))=false) (fun k=>c.points.l.length - k) 0 ⟨Nat.zero_le _,fun i _ hi=>absurd hi (Nat.not_lt_zero _)⟩ ?_ ?_
 ·refine Evs ?_
  exact Gk
 intro k hk
 refine Wk ?_
 refine zc9 rfl (fun hd=>?_) (fun hd=>?_)
 ·have hlt:=zjH hd
  repeat' first|refine Wa ?_|(simp (maxSteps:=2000000) only [go_sem,jq,jj,jy,jv,jk,jx,zlf hp hlt,hp.some hlt,hlt,jW];try rfl)|refine Wb ?_|fail
  refine zc9 rfl (fun hq=>?_) (fun hq=>?_)
  ·refine Wk ?_
   rw [zzZ,zzM hlt hq hk.2]
  ·refine Wk ?_
   refine ⟨k+1,⟨hlt,fun i hi hik=>?_⟩,by omega,zjB (zjA hlt (by omega))⟩
   rcases Nat.lt_succ_iff_lt_or_eq.1 hik with hik|rfl
   ·exact hk.2 i hi hik
   ·exact hq
 ·have hge:=zjI hd
  refine Wk ?_
  rw [zzZ,zzN (fun i hi=>hk.2 i hi (by omega))]
theorem zAg (c:DChart) (n:ByteArray) (h:Hp) (hc:Enc.ok h c):Ct jV 195 [c.v,.string n] h fun v h'=>v=.int .i64 (zzZ c.points.l n)∧h'=h:=by
 have hp:=hc.1
 have hl:=hp.max
 refine zdn (fun A W=>by simp) Tryz.func195 rfl rfl (by simp) fun W0=>?_
 refine Wk ?_
 refine zde (ι:=Nat) (fun k=>⟨[(1,true,.c (.v (.string n))),(8,true,.c (.v c.points.val)),(9,true,.c (.v (.int .i64 c.points.l.length))),(10,true,.c (.v (.int .i64 k)))],[],h,1⟩) (fun k=>k≤c.points.l.length∧∀ i (hi:i < c.points.l.length),i < k→(decide (c.points.l[i].name=n))=false) (fun k=>c.points.l.length - k) 0 ⟨Nat.zero_le _,fun i _ hi=>absurd hi (Nat.not_lt_zero _)⟩ ?_ ?_
 ·refine Evs ?_
  exact Gk
 intro k hk
 refine Wk ?_
 refine zc9 rfl (fun hd=>?_) (fun hd=>?_)
 ·have hlt:=zjH hd
  repeat' first|refine Wa ?_|(simp (maxSteps:=2000000) only [go_sem,jq,jj,jy,jv,jk,jx,zlf hp hlt,hp.some hlt,hlt,jW];try rfl)|refine Wb ?_|fail
  refine zc9 rfl (fun hq=>?_) (fun hq=>?_)
  ·refine Wk ?_
   rw [zzZ,zzM hlt hq hk.2]
  ·refine Wk ?_
   refine ⟨k+1,⟨hlt,fun i hi hik=>?_⟩,by omega,zjB (zjA hlt (by omega))⟩
   rcases Nat.lt_succ_iff_lt_or_eq.1 hik with hik|rfl
   ·exact hk.2 i hi hik
   ·exact hq
 ·have hge:=zjI hd
  refine Wk ?_
  rw [zzZ,zzN (fun i hi=>hk.2 i hi (by omega))]
theorem zAh (c:DChart) (h:Hp) (hc:Enc.ok h c):Ct jV 174 [c.v] h fun v h'=>v=.bool (zz9 (Con.con c))∧h'=h:=by
 have hp:=hc.1
 have hg:=hc.2
 have hl:=hp.max
 have hl2:=hg.max
 have hw:IntKind.i64.wrap ((c.points.l.length:Int) - 1)=(c.points.l.length:Int) - 1:=zjz (by omega)
 rw [zAa]
 refine zdn (fun A W=>by simp) Tryz.func174 rfl rfl (by simp) fun W0=>?_
 refine Wk ?_
 refine zc9 rfl (fun hc1=>?_) (fun hc1=>?_)
 ·refine Wk ?_
  congr 1
  rcases (jQ _ _).mp hc1 with h1|h1
  ·rw [decide_eq_false (by have:=of_decide_eq_true h1;omega)];rfl
  ·rw [decide_eq_false (p:=c.segments.l.length≤10) (by have:=of_decide_eq_true h1;omega),Bool.and_false];rfl
 obtain ⟨hc2,hc3⟩:=Bool.or_eq_false_iff.1 hc1
 have hc2:=of_decide_eq_false hc2
 have hc3:=of_decide_eq_false hc3
 rw [decide_eq_true (show c.points.l.length≤8 by omega),decide_eq_true (show c.segments.l.length≤10 by omega),Bool.and_self,Bool.true_and]
 refine Wk ?_
 refine zde (ι:=Nat) (fun k=>⟨[(1,true,.c (.p 0 0)),(20,true,.c (.v c.points.val)),(21,true,.c (.v (.int .i64 c.points.l.length))),(22,true,.c (.v (.int .i64 k)))],[(0,.box 53 [.v c.points.val,.v c.segments.val])],h,1⟩) (fun k=>k≤c.points.l.length∧∀ i,i < k→ptOk c.points.l i=true) (fun k=>c.points.l.length - k) 0 ⟨Nat.zero_le _,zAe⟩ ?_ ?_
 ·refine Evs ?_
  exact Gk
 ·intro k hk
  refine Wk ?_
  refine zc9 rfl (fun hd=>?_) (fun hd=>?_)
  ·have hlt:=zjH hd
   repeat' first|refine Wa ?_|refine zhF (fun _=>zzJ _ _ (hp.el hlt)) ?_|refine zhF (fun _=>zAf c _ _ hc) ?_|(simp (maxSteps:=2000000) only [go_sem,jq,jj,jy,jv,jk,jx,zlf hp hlt,hp.some hlt,hlt,jW];try rfl)|refine Wb ?_|fail
   refine zc9 rfl (fun hq=>?_) (fun hq=>?_)
   ·refine Wk ?_
    rw [zAb hlt ?_];rfl
    rw [ptOk,pget hlt]
    rcases (jQ _ _).mp hq with h1|h1
    ·rw [Bool.not_eq_true'] at h1;rw [h1];rfl
    ·rw [decide_eq_false (zjD h1),Bool.and_false]
   ·obtain ⟨h1,h2⟩:=Bool.or_eq_false_iff.1 hq
    rw [Bool.not_eq_false'] at h1
    refine Wk ?_
    exact ⟨k+1,⟨hlt,zAc hk.2 (by rw [ptOk,pget hlt,h1,decide_eq_true (zjE h2)];rfl)⟩,by omega,zjB (zjA hlt (by omega))⟩
  ·have hge:=zjI hd
   rw [zAd hge hk.2,Bool.true_and]
   refine Wk ?_
   refine zde (ι:=Nat) (fun k=>⟨[(1,true,.c (.p 0 0)),(41,true,.c (.v c.segments.val)),(42,true,.c (.v (.int .i64 c.segments.l.length))),(43,true,.c (.v (.int .i64 k)))],[(0,.box 53 [.v c.points.val,.v c.segments.val])],h,1⟩) (fun k=>k≤c.segments.l.length∧∀ i,i < k→zz8 c.points.l.length c.segments.l i=true) (fun k=>c.segments.l.length - k) 0 ⟨Nat.zero_le _,zAe⟩ ?_ ?_
   ·refine Evs ?_
    exact Gk
   intro k hk
   refine Wk ?_
   refine zc9 rfl (fun hd=>?_) (fun hd=>?_)
   ·have hlt:=zjH hd
    repeat' first|refine Wa ?_|refine zhF (fun _=>zzk _ _ _ _) ?_|refine zhF (fun _=>zzk _ _ _ _) ?_|(simp (maxSteps:=2000000) only [go_sem,jq,jj,jy,jv,jk,jx,zlh hg hlt,hg.some hlt,hlt,jW,hw];try rfl)|refine Wb ?_|fail
    refine zc9 rfl (fun hq=>?_) (fun hq=>?_)
    ·refine Wk ?_
     rw [zAb hlt ?_]
     rw [zz8,gget hlt,zz6,decide_eq_false ?_,Bool.false_and]
     simp only [jQ,Bool.not_eq_true',Bool.and_eq_false_iff,decide_eq_false_iff_not,beq_iff_eq] at hq
     omega
    ·have hin:zz6 c.points.l.length c.segments.l[k]=true:=by
      simp only [jp,Bool.not_eq_false',jJ,decide_eq_true_eq,beq_eq_false_iff_ne] at hq
      rw [zz6]
      refine decide_eq_true ?_
      omega
     have hgo:=Sl.to_ok hg k
     have hlt0:=Sl.to_len hk.1
     have hcap:=hg.1
     refine Wk ?_
     refine ⟨by omega,?_⟩
     simp only [Int.toNat_zero,Nat.sub_zero,Nat.zero_mul,zx1,zx2,ite_self]
     rw [zx3 hk.1]
     refine Wk ?_
     refine zde (ι:=Nat) (fun j=>⟨[(1,true,.c (.p 0 0)),(6,true,.c (.p 1 0)),(41,true,.c (.v c.segments.val)),(42,true,.c (.v (.int .i64 c.segments.l.length))),(43,true,.c (.v (.int .i64 k))),(88,true,.c (.v (c.segments.to k).val)),(89,true,.c (.v (.int .i64 k))),(90,true,.c (.v (.int .i64 j)))],[(0,.box 53 [.v c.points.val,.v c.segments.val]),(1,.box 231 [.v (.int .i64 c.segments.l[k].a),.v (.int .i64 c.segments.l[k].b),.v (.int .i64 c.segments.l[k].depth),.v (.int .i64 c.segments.l[k].minutes),.v (.bool c.segments.l[k].meet)])],h,2⟩) (fun j=>j≤k∧∀ i,i < j→zz3 (c.segments.l.getD i dG) c.segments.l[k].a c.segments.l[k].b=false) (fun j=>k - j) 0 ⟨Nat.zero_le _,fun i hi=>absurd hi (Nat.not_lt_zero _)⟩ ?_ ?_
     ·refine Evs ?_
      exact Gk
     intro j hj
     refine Wk ?_
     refine zc9 rfl (fun hq2=>?_) (fun hq2=>?_)
     ·have hltj:=zjH hq2
      have hltj':j < (c.segments.to k).l.length:=by omega
      have hltj2:j < c.segments.l.length:=by omega
      have hje:=Sl.to_get hltj' hltj2
      repeat' first|refine Wa ?_|refine zhF (fun _=>zz4 _ _ _ _) ?_|(simp (maxSteps:=2000000) only [go_sem,jq,jj,jy,jv,jk,jx,zlh hgo hltj',hgo.some hltj',hltj',hltj,jW,hje];try rfl)|refine Wb ?_|fail
      refine zc9 rfl (fun hq3=>?_) (fun hq3=>?_)
      ·refine Wk ?_
       rw [zAb hlt ?_]
       rw [zz8,gget hlt,hin,Bool.true_and,zz7]
       refine decide_eq_false fun hh=>?_
       have:=hh j hltj
       rw [gget hltj2,gget hlt,hq3] at this
       cases this
      ·refine Wk ?_
       exact ⟨j+1,⟨hltj,fun i hi=>by
        rcases Nat.lt_succ_iff_lt_or_eq.1 hi with hi|rfl
        ·exact hj.2 i hi
        ·rw [gget hltj2];exact hq3⟩,by omega,zjB (zjA hltj (by omega))⟩
     ·have hgej:=zjI hq2
      refine Wk ?_
      refine ⟨k+1,⟨hlt,zAc hk.2 ?_⟩,by omega,zjB (zjA hlt (by omega))⟩
      rw [zz8,gget hlt,hin,Bool.true_and,zz7]
      refine decide_eq_true fun i hi=>?_
      rw [gget hlt];exact hj.2 i (by omega)
   ·have hge:=zjI hd
    refine Wk ?_
    rw [zAd hge hk.2]
theorem zAi (c:DChart) (h:Hp) (hc:Enc.ok h c):Ct jV 146 [c.v] h fun v h'=>v=.bool (zz9 (Con.con c))∧h'=h:=by
 have hp:=hc.1
 have hg:=hc.2
 have hl:=hp.max
 have hl2:=hg.max
 have hw:IntKind.i64.wrap ((c.points.l.length:Int) - 1)=(c.points.l.length:Int) - 1:=zjz (by omega)
 rw [zAa]
 refine zdn (fun A W=>by simp) Tryz.func146 rfl rfl (by simp) fun W0=>?_
 refine Wk ?_
 refine zc9 rfl (fun hc1=>?_) (fun hc1=>?_)
 ·refine Wk ?_
  congr 1
  rcases (jQ _ _).mp hc1 with h1|h1
  ·rw [decide_eq_false (by have:=of_decide_eq_true h1;omega)];rfl
  ·rw [decide_eq_false (p:=c.segments.l.length≤10) (by have:=of_decide_eq_true h1;omega),Bool.and_false];rfl
 obtain ⟨hc2,hc3⟩:=Bool.or_eq_false_iff.1 hc1
 have hc2:=of_decide_eq_false hc2
 have hc3:=of_decide_eq_false hc3
 rw [decide_eq_true (show c.points.l.length≤8 by omega),decide_eq_true (show c.segments.l.length≤10 by omega),Bool.and_self,Bool.true_and]
 refine Wk ?_
 refine zde (ι:=Nat) (fun k=>⟨[(1,true,.c (.p 0 0)),(20,true,.c (.v c.points.val)),(21,true,.c (.v (.int .i64 c.points.l.length))),(22,true,.c (.v (.int .i64 k)))],[(0,.box 53 [.v c.points.val,.v c.segments.val])],h,1⟩) (fun k=>k≤c.points.l.length∧∀ i,i < k→ptOk c.points.l i=true) (fun k=>c.points.l.length - k) 0 ⟨Nat.zero_le _,zAe⟩ ?_ ?_
 ·refine Evs ?_
  exact Gk
 ·intro k hk
  refine Wk ?_
  refine zc9 rfl (fun hd=>?_) (fun hd=>?_)
  ·have hlt:=zjH hd
   repeat' first|refine Wa ?_|refine zhF (fun _=>zzK _ _ (hp.el hlt)) ?_|refine zhF (fun _=>zAg c _ _ hc) ?_|(simp (maxSteps:=2000000) only [go_sem,jq,jj,jy,jv,jk,jx,zlf hp hlt,hp.some hlt,hlt,jW];try rfl)|refine Wb ?_|fail
   refine zc9 rfl (fun hq=>?_) (fun hq=>?_)
   ·refine Wk ?_
    rw [zAb hlt ?_];rfl
    rw [ptOk,pget hlt]
    rcases (jQ _ _).mp hq with h1|h1
    ·rw [Bool.not_eq_true'] at h1;rw [h1];rfl
    ·rw [decide_eq_false (zjD h1),Bool.and_false]
   ·obtain ⟨h1,h2⟩:=Bool.or_eq_false_iff.1 hq
    rw [Bool.not_eq_false'] at h1
    refine Wk ?_
    exact ⟨k+1,⟨hlt,zAc hk.2 (by rw [ptOk,pget hlt,h1,decide_eq_true (zjE h2)];rfl)⟩,by omega,zjB (zjA hlt (by omega))⟩
  ·have hge:=zjI hd
   rw [zAd hge hk.2,Bool.true_and]
   refine Wk ?_
   refine zde (ι:=Nat) (fun k=>⟨[(1,true,.c (.p 0 0)),(41,true,.c (.v c.segments.val)),(42,true,.c (.v (.int .i64 c.segments.l.length))),(43,true,.c (.v (.int .i64 k)))],[(0,.box 53 [.v c.points.val,.v c.segments.val])],h,1⟩) (fun k=>k≤c.segments.l.length∧∀ i,i < k→zz8 c.points.l.length c.segments.l i=true) (fun k=>c.segments.l.length - k) 0 ⟨Nat.zero_le _,zAe⟩ ?_ ?_
   ·refine Evs ?_
    exact Gk
   intro k hk
   refine Wk ?_
   refine zc9 rfl (fun hd=>?_) (fun hd=>?_)
   ·have hlt:=zjH hd
    repeat' first|refine Wa ?_|refine zhF (fun _=>zzn _ _ _) ?_|refine zhF (fun _=>zzl _ _ _ _) ?_|(simp (maxSteps:=2000000) only [go_sem,jq,jj,jy,jv,jk,jx,zlh hg hlt,hg.some hlt,hlt,jW];try rfl)|refine Wb ?_|fail
    refine zc9 rfl (fun hq=>?_) (fun hq=>?_)
    ·refine Wk ?_
     rw [zAb hlt ?_]
     rw [zz8,gget hlt,zz6,decide_eq_false ?_,Bool.false_and]
     simp only [jQ,Bool.not_eq_true',Bool.and_eq_false_iff,decide_eq_false_iff_not,beq_iff_eq] at hq
     omega
    ·have hin:zz6 c.points.l.length c.segments.l[k]=true:=by
      simp only [jp,Bool.not_eq_false',jJ,decide_eq_true_eq,beq_eq_false_iff_ne] at hq
      rw [zz6]
      refine decide_eq_true ?_
      omega
     have hgo:=Sl.to_ok hg k
     have hlt0:=Sl.to_len hk.1
     have hcap:=hg.1
     refine Wk ?_
     refine ⟨by omega,?_⟩
     simp only [Int.toNat_zero,Nat.sub_zero,Nat.zero_mul,zx1,zx2,ite_self]
     rw [zx3 hk.1]
     refine Wk ?_
     refine zde (ι:=Nat) (fun j=>⟨[(1,true,.c (.p 0 0)),(6,true,.c (.p 1 0)),(41,true,.c (.v c.segments.val)),(42,true,.c (.v (.int .i64 c.segments.l.length))),(43,true,.c (.v (.int .i64 k))),(86,true,.c (.v (c.segments.to k).val)),(87,true,.c (.v (.int .i64 k))),(88,true,.c (.v (.int .i64 j)))],[(0,.box 53 [.v c.points.val,.v c.segments.val]),(1,.box 231 [.v (.int .i64 c.segments.l[k].a),.v (.int .i64 c.segments.l[k].b),.v (.int .i64 c.segments.l[k].depth),.v (.int .i64 c.segments.l[k].minutes),.v (.bool c.segments.l[k].meet)])],h,2⟩) (fun j=>j≤k∧∀ i,i < j→zz3 (c.segments.l.getD i dG) c.segments.l[k].a c.segments.l[k].b=false) (fun j=>k - j) 0 ⟨Nat.zero_le _,fun i hi=>absurd hi (Nat.not_lt_zero _)⟩ ?_ ?_
     ·refine Evs ?_
      exact Gk
     intro j hj
     refine Wk ?_
     refine zc9 rfl (fun hq2=>?_) (fun hq2=>?_)
     ·have hltj:=zjH hq2
      have hltj':j < (c.segments.to k).l.length:=by omega
      have hltj2:j < c.segments.l.length:=by omega
      have hje:=Sl.to_get hltj' hltj2
      repeat' first|refine Wa ?_|refine zhF (fun _=>zz5 _ _ _ _) ?_|(simp (maxSteps:=2000000) only [go_sem,jq,jj,jy,jv,jk,jx,zlh hgo hltj',hgo.some hltj',hltj',hltj,jW,hje];try rfl)|refine Wb ?_|fail
      refine zc9 rfl (fun hq3=>?_) (fun hq3=>?_)
      ·refine Wk ?_
       rw [zAb hlt ?_]
       rw [zz8,gget hlt,hin,Bool.true_and,zz7]
       refine decide_eq_false fun hh=>?_
       have:=hh j hltj
       rw [gget hltj2,gget hlt,hq3] at this
       cases this
      ·refine Wk ?_
       exact ⟨j+1,⟨hltj,fun i hi=>by
        rcases Nat.lt_succ_iff_lt_or_eq.1 hi with hi|rfl
        ·exact hj.2 i hi
        ·rw [gget hltj2];exact hq3⟩,by omega,zjB (zjA hltj (by omega))⟩
     ·have hgej:=zjI hq2
      refine Wk ?_
      refine ⟨k+1,⟨hlt,zAc hk.2 ?_⟩,by omega,zjB (zjA hlt (by omega))⟩
      rw [zz8,gget hlt,hin,Bool.true_and,zz7]
      refine decide_eq_true fun i hi=>?_
      rw [gget hlt];exact hj.2 i (by omega)
   ·have hge:=zjI hd
    refine Wk ?_
    rw [zAd hge hk.2]
def dH:DShip:=⟨ByteArray.empty,0,0,0,0,false⟩
theorem hget {l:List DShip} {i:Nat} (hi:i < l.length):l.getD i dH=l[i]:=by simp [List.getD_eq_getElem?_getD,hi]
def zAj (l:List DShip) (n:ByteArray):Int:=zzL (fun p=>decide (p.name=n)) l
def zAk (s:DShip):Bool:=zzI s.name && In s.length 10 400 && In s.draught 100 2000 && In s.line 0 3 && In s.tugs 0 4
def shOk (l:List DShip) (i:Nat):Bool:=zAk (l.getD i dH) && decide (zAj l (l.getD i dH).name=(i:Int))
def zAl (l:List DShip):Bool:=decide (l.length≤6) && decide (∀ i,i < l.length→shOk l i=true)
def zAm (r:DRegime):Bool:=In r.gap 0 60
def zAn (l:List Int):Bool:=decide (l.length=64) && l.all (fun n=>In n 0 240)
def zAo (w:PCrew):Bool:=In w.tugs 0 12 && In w.pilots 0 12 && (In w.rest 0 2880 && zAn w.moves)
def zAp (x:PHarbour):Bool:=zzV x.forecast && zz9 x.chart && zAl x.fleet && zAm x.regime && zAo x.crew
theorem zAq (c:Sl DShip) (n:ByteArray) (h:Hp) (hp:c.Ok h):Ct jV 223 [c.val,.string n] h fun v h'=>v=.int .i64 (zAj c.l n)∧h'=h:=by
 have hl:=hp.max
 refine zdn (fun A W=>by simp) Tryz.func223 rfl rfl (by simp) fun W0=>?_
 refine Wk ?_
 refine zde (ι:=Nat) (fun k=>⟨[(1,true,.c (.v (.string n))),(7,true,.c (.v c.val)),(8,true,.c (.v (.int .i64 c.l.length))),(9,true,.c (.v (.int .i64 k)))],[],h,1⟩) (fun k=>k≤c.l.length∧∀ i (hi:i < c.l.length),i < k→(decide (c.l[i].name=n))=false) (fun k=>c.l.length - k) 0 ⟨Nat.zero_le _,fun i _ hi=>absurd hi (Nat.not_lt_zero _)⟩ ?_ ?_
 ·refine Evs ?_
  exact Gk
 intro k hk
 refine Wk ?_
 refine zc9 rfl (fun hd=>?_) (fun hd=>?_)
 ·have hlt:=zjH hd
  repeat' first|refine Wa ?_|(simp only [go_sem,jq,jj,jy,jv,jk,jx,zln hp hlt,hp.some hlt,hlt,jW];try rfl)|refine Wb ?_|fail
  refine zc9 rfl (fun hq=>?_) (fun hq=>?_)
  ·refine Wk ?_
   rw [zAj,zzM hlt hq hk.2]
  ·refine Wk ?_
   refine ⟨k+1,⟨hlt,fun i hi hik=>?_⟩,by omega,zjB (zjA hlt (by omega))⟩
   rcases Nat.lt_succ_iff_lt_or_eq.1 hik with hik|rfl
   ·exact hk.2 i hi hik
   ·exact hq
 ·have hge:=zjI hd
  refine Wk ?_
  rw [zAj,zzN (fun i hi=>hk.2 i hi (by omega))]
theorem zAr (s:DShip) (h:Hp) (hs:Enc.ok h s):Ct jV 222 [s.v] h fun v h'=>v=.bool (zAk s)∧h'=h:=by
 refine zdn (fun A W=>by simp) Tryz.func222 rfl rfl (by simp) fun W0=>?_
 repeat' first|refine Wa ?_|refine zhF (fun _=>zzJ _ _ hs.1) ?_|refine zhF (fun _=>zzk _ _ _ _) ?_|(simp only [go_sem,jq,jj,jy,jv,jk,jx];try rfl)|refine Wb ?_|fail
 skip
 skip
theorem zAs (c:Sl DShip) (h:Hp) (hp:c.Ok h):Ct jV 175 [c.val] h fun v h'=>v=.bool (zAl c.l)∧h'=h:=by
 have hl:=hp.max
 rw [zAl]
 refine zdn (fun A W=>by simp) Tryz.func175 rfl rfl (by simp) fun W0=>?_
 refine Wk ?_
 refine zc9 rfl (fun hc=>?_) (fun hc=>?_)
 ·refine Wk ?_
  rw [decide_eq_false (by have:=of_decide_eq_true hc;omega)];rfl
 rw [decide_eq_true (show c.l.length≤6 by have:=of_decide_eq_false hc;omega),Bool.true_and]
 refine Wk ?_
 refine zde (ι:=Nat) (fun k=>⟨[(0,true,.c (.v c.val)),(8,true,.c (.v c.val)),(9,true,.c (.v (.int .i64 c.l.length))),(10,true,.c (.v (.int .i64 k)))],[],h,0⟩) (fun k=>k≤c.l.length∧∀ i,i < k→shOk c.l i=true) (fun k=>c.l.length - k) 0 ⟨Nat.zero_le _,zAe⟩ ?_ ?_
 ·refine Evs ?_
  exact Gk
 intro k hk
 refine Wk ?_
 refine zc9 rfl (fun hd=>?_) (fun hd=>?_)
 ·have hlt:=zjH hd
  repeat' first|refine Wa ?_|refine zhF (fun _=>zAr _ _ (hp.el hlt)) ?_|refine zhF (fun _=>zAq c _ _ hp) ?_|(simp only [go_sem,jq,jj,jy,jv,jk,jx,zln hp hlt,hp.some hlt,hlt,jW];try rfl)|refine Wb ?_|fail
  refine zc9 rfl (fun hq=>?_) (fun hq=>?_)
  ·refine Wk ?_
   rw [zAb hlt ?_]
   rw [shOk,hget hlt]
   rcases (jQ _ _).mp hq with h1|h1
   ·rw [Bool.not_eq_true'] at h1;rw [h1];rfl
   ·rw [decide_eq_false (zjD h1),Bool.and_false]
  ·obtain ⟨h1,h2⟩:=Bool.or_eq_false_iff.1 hq
   rw [Bool.not_eq_false'] at h1
   refine Wk ?_
   exact ⟨k+1,⟨hlt,zAc hk.2 (by rw [shOk,hget hlt,h1,decide_eq_true (zjE h2)];rfl)⟩,by omega,zjB (zjA hlt (by omega))⟩
 ·have hge:=zjI hd
  refine Wk ?_
  rw [zAd hge hk.2]
theorem zAt (s:DRegime) (h:Hp):Ct jV 176 [s.v] h fun v h'=>v=.bool (zAm s)∧h'=h:=by
 refine zdn (fun A W=>by simp) Tryz.func176 rfl rfl (by simp) fun W0=>?_
 repeat' first|refine Wa ?_|refine zhF (fun _=>zzk _ _ _ _) ?_|(simp only [go_sem,jq,jj,jy,jv,jk,jx];try rfl)|refine Wb ?_|fail
theorem zAu (c:Sl DShip) (n:ByteArray) (h:Hp) (hp:c.Ok h):Ct jV 198 [c.val,.string n] h fun v h'=>v=.int .i64 (zAj c.l n)∧h'=h:=by
 have hl:=hp.max
 refine zdn (fun A W=>by simp) Tryz.func198 rfl rfl (by simp) fun W0=>?_
 refine Wk ?_
 refine zde (ι:=Nat) (fun k=>⟨[(1,true,.c (.v (.string n))),(7,true,.c (.v c.val)),(8,true,.c (.v (.int .i64 c.l.length))),(9,true,.c (.v (.int .i64 k)))],[],h,1⟩) (fun k=>k≤c.l.length∧∀ i (hi:i < c.l.length),i < k→(decide (c.l[i].name=n))=false) (fun k=>c.l.length - k) 0 ⟨Nat.zero_le _,fun i _ hi=>absurd hi (Nat.not_lt_zero _)⟩ ?_ ?_
 ·refine Evs ?_
  exact Gk
 intro k hk
 refine Wk ?_
 refine zc9 rfl (fun hd=>?_) (fun hd=>?_)
 ·have hlt:=zjH hd
  repeat' first|refine Wa ?_|(simp only [go_sem,jq,jj,jy,jv,jk,jx,zln hp hlt,hp.some hlt,hlt,jW];try rfl)|refine Wb ?_|fail
  refine zc9 rfl (fun hq=>?_) (fun hq=>?_)
  ·refine Wk ?_
   rw [zAj,zzM hlt hq hk.2]
  ·refine Wk ?_
   refine ⟨k+1,⟨hlt,fun i hi hik=>?_⟩,by omega,zjB (zjA hlt (by omega))⟩
   rcases Nat.lt_succ_iff_lt_or_eq.1 hik with hik|rfl
   ·exact hk.2 i hi hik
   ·exact hq
 ·have hge:=zjI hd
  refine Wk ?_
  rw [zAj,zzN (fun i hi=>hk.2 i hi (by omega))]
theorem zAv (s:DShip) (h:Hp) (hs:Enc.ok h s):Ct jV 197 [s.v] h fun v h'=>v=.bool (zAk s)∧h'=h:=by
 refine zdn (fun A W=>by simp) Tryz.func197 rfl rfl (by simp) fun W0=>?_
 repeat' first|refine Wa ?_|refine zhF (fun _=>zzK _ _ hs.1) ?_|refine zhF (fun _=>zzl _ _ _ _) ?_|refine zhF (fun _=>zzn _ _ _) ?_|(simp only [go_sem,jq,jj,jy,jv,jk,jx];try rfl)|refine Wb ?_|fail
 congr 1;rw [Bool.eq_iff_iff];simp only [zAk,In,jJ,jQ,Bool.not_eq_true',decide_eq_true_eq,decide_eq_false_iff_not,beq_iff_eq,and_assoc]
 constructor <;> intro hh <;> (refine ⟨hh.1,?_⟩;omega)
theorem zAw (c:Sl DShip) (h:Hp) (hp:c.Ok h):Ct jV 147 [c.val] h fun v h'=>v=.bool (zAl c.l)∧h'=h:=by
 have hl:=hp.max
 rw [zAl]
 refine zdn (fun A W=>by simp) Tryz.func147 rfl rfl (by simp) fun W0=>?_
 refine Wk ?_
 refine zc9 rfl (fun hc=>?_) (fun hc=>?_)
 ·refine Wk ?_
  rw [decide_eq_false (by have:=of_decide_eq_true hc;omega)];rfl
 rw [decide_eq_true (show c.l.length≤6 by have:=of_decide_eq_false hc;omega),Bool.true_and]
 refine Wk ?_
 refine zde (ι:=Nat) (fun k=>⟨[(0,true,.c (.v c.val)),(8,true,.c (.v c.val)),(9,true,.c (.v (.int .i64 c.l.length))),(10,true,.c (.v (.int .i64 k)))],[],h,0⟩) (fun k=>k≤c.l.length∧∀ i,i < k→shOk c.l i=true) (fun k=>c.l.length - k) 0 ⟨Nat.zero_le _,zAe⟩ ?_ ?_
 ·refine Evs ?_
  exact Gk
 intro k hk
 refine Wk ?_
 refine zc9 rfl (fun hd=>?_) (fun hd=>?_)
 ·have hlt:=zjH hd
  repeat' first|refine Wa ?_|refine zhF (fun _=>zAv _ _ (hp.el hlt)) ?_|refine zhF (fun _=>zAu c _ _ hp) ?_|(simp only [go_sem,jq,jj,jy,jv,jk,jx,zln hp hlt,hp.some hlt,hlt,jW];try rfl)|refine Wb ?_|fail
  refine zc9 rfl (fun hq=>?_) (fun hq=>?_)
  ·refine Wk ?_
   rw [zAb hlt ?_]
   rw [shOk,hget hlt]
   rcases (jQ _ _).mp hq with h1|h1
   ·rw [Bool.not_eq_true'] at h1;rw [h1];rfl
   ·rw [decide_eq_false (zjD h1),Bool.and_false]
  ·obtain ⟨h1,h2⟩:=Bool.or_eq_false_iff.1 hq
   rw [Bool.not_eq_false'] at h1
   refine Wk ?_
   exact ⟨k+1,⟨hlt,zAc hk.2 (by rw [shOk,hget hlt,h1,decide_eq_true (zjE h2)];rfl)⟩,by omega,zjB (zjA hlt (by omega))⟩
 ·have hge:=zjI hd
  refine Wk ?_
  rw [zAd hge hk.2]
theorem zAx (s:DRegime) (h:Hp):Ct jV 148 [s.v] h fun v h'=>v=.bool (zAm s)∧h'=h:=by
 refine zdn (fun A W=>by simp) Tryz.func148 rfl rfl (by simp) fun W0=>?_
 repeat' first|refine Wa ?_|refine zhF (fun _=>zzl _ _ _ _) ?_|(simp only [go_sem,jq,jj,jy,jv,jk,jx];try rfl)|refine Wb ?_|fail
theorem zAy {l:List Int} {k:Nat} (hk:k < l.length) (h:In l[k] 0 240=false):zAn l=false:=by rw [zAn,zzQ (p:=fun n=>In n 0 240) hk h,Bool.and_false]
theorem zAz {l:List Int} {k:Nat} (h64:l.length=64) (hk:l.length≤k) (hp:(l.take k).all (fun n=>In n 0 240)=true):zAn l=true:=by
 rw [List.take_of_length_le hk] at hp
 rw [zAn,hp,decide_eq_true h64];rfl
theorem zAA (n:Int) (a:Sl Int) (h:Hp) (ha:a.Ok h):Ct jV 224 [.int .i64 n,a.val] h fun v h'=>v=.bool (In n 0 2880 && zAn a.l)∧h'=h:=by
 have hl:=ha.max
 refine zdn (fun A W=>by simp) Tryz.func224 rfl rfl (by simp) fun W0=>?_
 repeat' first|refine Wa ?_|refine zhF (fun _=>zzk _ _ _ _) ?_|(simp only [go_sem,jq,jj,jy,jv,jk,jx];try rfl)|refine Wb ?_|fail
 refine zc9 rfl (fun hc=>?_) (fun hc=>?_)
 ·refine Wk ?_
  congr 1
  rcases (jQ _ _).mp hc with h1|h1
  ·rw [Bool.not_eq_true'] at h1;rw [In,h1];rfl
  ·rw [zAn,decide_eq_false (by have:=zjD h1;omega),Bool.false_and,Bool.and_false]
 obtain ⟨h1,h2⟩:=Bool.or_eq_false_iff.1 hc
 rw [Bool.not_eq_false'] at h1
 have h64:a.l.length=64:=by have:=zjE h2;omega
 rw [In,h1,Bool.true_and]
 refine Wk ?_
 refine zde (ι:=Nat) (fun k=>⟨[(15,true,.c (.v a.val)),(16,true,.c (.v (.int .i64 a.l.length))),(17,true,.c (.v (.int .i64 k)))],[],h,0⟩) (fun k=>k≤a.l.length∧(a.l.take k).all (fun n=>In n 0 240)=true) (fun k=>a.l.length - k) 0 ⟨Nat.zero_le _,rfl⟩ ?_ ?_
 ·refine Evs ?_
  exact Gk
 intro k hk
 refine Wk ?_
 refine zc9 rfl (fun hd=>?_) (fun hd=>?_)
 ·have hlt:=zjH hd
  repeat' first|refine Wa ?_|refine zhF (fun _=>zzk _ _ _ _) ?_|(simp only [go_sem,jq,jj,jy,jv,jk,jx,zkR ha hlt,ha.some hlt,hlt,jW];try rfl)|refine Wb ?_|fail
  refine zc9 rfl (fun hq=>?_) (fun hq=>?_)
  ·rw [Bool.not_eq_true'] at hq
   refine Wk ?_
   rw [zAy hlt hq]
  ·rw [Bool.not_eq_false'] at hq
   refine Wk ?_
   exact ⟨k+1,⟨hlt,zzR hlt hk.2 hq⟩,by omega,zjB (zjA hlt (by omega))⟩
 ·have hge:=zjI hd
  refine Wk ?_
  rw [zAz h64 hge hk.2]
theorem zAB (a:Sl Int) (h:Hp) (ha:a.Ok h):Ct jV 199 [a.val] h fun v h'=>v=.bool (zAn a.l)∧h'=h:=by
 have hl:=ha.max
 refine zdn (fun A W=>by simp) Tryz.func199 rfl rfl (by simp) fun W0=>?_
 refine Wk ?_
 refine zc9 rfl (fun hc=>?_) (fun hc=>?_)
 ·refine Wk ?_
  rw [zAn,decide_eq_false (by have:=zjD hc;omega)];rfl
 have h64:a.l.length=64:=by have:=zjE hc;omega
 refine Wk ?_
 refine zde (ι:=Nat) (fun k=>⟨[(8,true,.c (.v a.val)),(9,true,.c (.v (.int .i64 a.l.length))),(10,true,.c (.v (.int .i64 k)))],[],h,0⟩) (fun k=>k≤a.l.length∧(a.l.take k).all (fun n=>In n 0 240)=true) (fun k=>a.l.length - k) 0 ⟨Nat.zero_le _,rfl⟩ ?_ ?_
 ·refine Evs ?_
  exact Gk
 intro k hk
 refine Wk ?_
 refine zc9 rfl (fun hd=>?_) (fun hd=>?_)
 ·have hlt:=zjH hd
  repeat' first|refine Wa ?_|refine zhF (fun _=>zzl _ _ _ _) ?_|(simp only [go_sem,jq,jj,jy,jv,jk,jx,zkR ha hlt,ha.some hlt,hlt,jW];try rfl)|refine Wb ?_|fail
  refine zc9 rfl (fun hq=>?_) (fun hq=>?_)
  ·rw [Bool.not_eq_true'] at hq
   refine Wk ?_
   rw [zAy hlt hq]
  ·rw [Bool.not_eq_false'] at hq
   refine Wk ?_
   exact ⟨k+1,⟨hlt,zzR hlt hk.2 hq⟩,by omega,zjB (zjA hlt (by omega))⟩
 ·have hge:=zjI hd
  refine Wk ?_
  rw [zAz h64 hge hk.2]
theorem zAC (w:DCrew):zAo (Con.con w)=(In w.tugs 0 12 && In w.pilots 0 12 && (In w.rest 0 2880 && zAn w.moves.l)):=by
 rw [zAo,show (Con.con w).moves=w.moves.l from con_ints];rfl
theorem zAD (w:DCrew) (h:Hp) (hw:Enc.ok h w):Ct jV 177 [w.v] h fun v h'=>v=.bool (zAo (Con.con w))∧h'=h:=by
 rw [zAC]
 refine zdn (fun A W=>by simp) Tryz.func177 rfl rfl (by simp) fun W0=>?_
 repeat' first|refine Wa ?_|refine zhF (fun _=>zzk _ _ _ _) ?_|refine zhF (fun _=>zAA _ _ _ hw.2.2.2) ?_|(simp only [go_sem,jq,jj,jy,jv,jk,jx];try rfl)|refine Wb ?_|fail
theorem zAE (w:DCrew) (h:Hp) (hw:Enc.ok h w):Ct jV 149 [w.v] h fun v h'=>v=.bool (zAo (Con.con w))∧h'=h:=by
 rw [zAC]
 refine zdn (fun A W=>by simp) Tryz.func149 rfl rfl (by simp) fun W0=>?_
 repeat' first|refine Wa ?_|refine zhF (fun _=>zzl _ _ _ _) ?_|refine zhF (fun _=>zzm _ _) ?_|refine zhF (fun _=>zAB _ _ hw.2.2.2) ?_|(simp only [go_sem,jq,jj,jy,jv,jk,jx];try rfl)|refine Wb ?_|fail
 congr 1;rw [Bool.eq_iff_iff];simp only [In,jJ,jQ,Bool.not_eq_true',decide_eq_true_eq,decide_eq_false_iff_not,beq_iff_eq,and_assoc]
theorem zAF (x:DHarbour):zAp (Con.con x)=(zzV (Con.con x.forecast) && zz9 (Con.con x.chart) && zAl x.fleet.l && zAm x.regime && zAo (Con.con x.crew)):=by
 rw [zAp,show (Con.con x).fleet=x.fleet.l from zz2 _];rfl
theorem zAG (x:DHarbour) (h:Hp) (hx:Enc.ok h x):Ct jV 127 [x.v] h fun v h'=>v=.bool (zAp (Con.con x))∧h'=h:=by
 obtain ⟨o1,o2,o3,o4,o5⟩:=hx
 rw [zAF]
 refine zdn (fun A W=>by simp) Tryz.func127 rfl rfl (by simp) fun W0=>?_
 repeat' first|refine Wa ?_|refine zhF (fun _=>zzX x.forecast _ o1) ?_|refine zhF (fun _=>zAh x.chart _ o2) ?_|refine zhF (fun _=>zAs _ _ o3) ?_|refine zhF (fun _=>zAt x.regime _) ?_|refine zhF (fun _=>zAD x.crew _ o5) ?_|(simp only [go_sem,jq,jj,jy,jv,jk,jx];try rfl)|refine Wb ?_|fail
theorem zAH (x:DHarbour) (h:Hp) (hx:Enc.ok h x):Ct jV 99 [x.v] h fun v h'=>v=.bool (zAp (Con.con x))∧h'=h:=by
 obtain ⟨o1,o2,o3,o4,o5⟩:=hx
 rw [zAF]
 refine zdn (fun A W=>by simp) Tryz.func99 rfl rfl (by simp) fun W0=>?_
 repeat' first|refine Wa ?_|refine zhF (fun _=>zzY x.forecast _ o1) ?_|refine zhF (fun _=>zAi x.chart _ o2) ?_|refine zhF (fun _=>zAw _ _ o3) ?_|refine zhF (fun _=>zAx x.regime _) ?_|refine zhF (fun _=>zAE x.crew _ o5) ?_|(simp only [go_sem,jq,jj,jy,jv,jk,jx];try rfl)|refine Wb ?_|fail
def zAI (x:PHarbour) (a:DCall):Bool:=decide (0≤a.ship∧a.ship < x.fleet.length∧0≤a.src∧a.src < x.chart.points.length∧0≤a.dst∧a.dst < x.chart.points.length∧a.src ≠ a.dst∧0≤a.ready∧a.ready≤2880∧a.ready≤a.due∧a.due≤2880)
def zAJ (x:PHarbour) (a:DCall):Bool:=zAp x && zAI x a
theorem zAK (x:DHarbour) (a:DCall):zAI (Con.con x) a=decide (0≤a.ship∧a.ship < x.fleet.l.length∧0≤a.src∧a.src < x.chart.points.l.length∧0≤a.dst∧a.dst < x.chart.points.l.length∧a.src ≠ a.dst∧0≤a.ready∧a.ready≤2880∧a.ready≤a.due∧a.due≤2880):=by
 rw [zAI,show (Con.con x).fleet=x.fleet.l from zz2 _,show (Con.con x).chart.points=x.chart.points.l from zz0 _]
theorem zAL (x:DHarbour) (a:DCall) (h:Hp) (hx:Enc.ok h x):Ct jV 100 [x.v,a.v] h fun v h'=>v=.bool (zAI (Con.con x) a)∧h'=h:=by
 rw [zAK]
 refine zdn (fun A W=>by simp) Tryz.func100 rfl rfl (by simp) fun W0=>?_
 repeat' first|refine Wa ?_|refine zhF (fun _=>zzn _ _ _) ?_|refine zhF (fun _=>zzm _ _) ?_|refine zhF (fun _=>zzl _ _ _ _) ?_|(simp (maxSteps:=2000000) only [go_sem,jq,jj,jy,jv,jk,jx];try rfl)|refine Wb ?_|fail
 congr 1
 rw [Bool.eq_iff_iff]
 simp only [jJ,decide_eq_true_eq,Bool.not_eq_true',beq_eq_false_iff_ne,bne_iff_ne,ne_eq,and_assoc]
 skip
theorem zAM (x:DHarbour) (a:DCall) (h:Hp) (hx:Enc.ok h x) (ha:Enc.ok h a):Ct jV 152 [x.v,a.v] h fun v h'=>v=.bool (zAJ (Con.con x) (Con.con a))∧h'=h:=by
 rw [zAJ,show (Con.con a:DCall)=a from rfl]
 refine zdn (fun A W=>by simp) Tryz.func152 rfl rfl (by simp) fun W0=>?_
 repeat' first|refine Wa ?_|refine zhF (fun _=>zAH x _ hx) ?_|refine zhF (fun _=>zAL x a _ hx) ?_|(simp (maxSteps:=2000000) only [go_sem,jq,jj,jy,jv,jk,jx];try rfl)|refine Wb ?_|fail
theorem zAN (x:DHarbour) (a:DCall) (h:Hp) (hx:Enc.ok h x) (ha:Enc.ok h a):Ct jV 128 [x.v,a.v] h fun v h'=>v=.bool (zAJ (Con.con x) (Con.con a))∧h'=h:=by
 have l1:=hx.2.1.1.max
 have l2:=hx.2.2.1.max
 have w1:IntKind.i64.wrap ((x.chart.points.l.length:Int) - 1)=(x.chart.points.l.length:Int) - 1:=zjz (by omega)
 have w2:IntKind.i64.wrap ((x.fleet.l.length:Int) - 1)=(x.fleet.l.length:Int) - 1:=zjz (by omega)
 rw [zAJ,show (Con.con a:DCall)=a from rfl,zAK]
 refine zdn (fun A W=>by simp) Tryz.func128 rfl rfl (by simp) fun W0=>?_
 repeat' first|refine Wa ?_|refine zhF (fun _=>zAG x _ hx) ?_|refine zhF (fun _=>zzk _ _ _ _) ?_|(simp (maxSteps:=2000000) only [go_sem,jq,jj,jy,jv,jk,jx,w1,w2];try rfl)|refine Wb ?_|fail
 congr 1
 rw [Bool.eq_iff_iff]
 simp only [jJ,decide_eq_true_eq,Bool.not_eq_true',beq_eq_false_iff_ne,bne_iff_ne,ne_eq,and_assoc]
 constructor <;> intro hh <;> refine ⟨hh.1,?_⟩ <;> omega
def dC:DCall:=⟨0,0,0,0,0⟩
theorem cget {l:List DCall} {i:Nat} (hi:i < l.length):l.getD i dC=l[i]:=by simp [List.getD_eq_getElem?_getD,hi]
def zAO (l:List DCall) (i:Nat):Bool:=decide (∀ j,j < i→(l.getD j dC).ship ≠ (l.getD i dC).ship)
def clOk (x:PHarbour) (l:List DCall) (i:Nat):Bool:=zAI x (l.getD i dC) && zAO l i
def zAP (x:PHarbour) (l:List DCall):Bool:=zAp x && decide (l.length≤6) && decide (∀ i,i < l.length→clOk x l i=true)
theorem zAQ (s:Sl DCall):Con.con s=s.l:=List.map_id _
theorem zAR (x:DHarbour) (a:Sl DCall) (h:Hp) (hx:Enc.ok h x) (ha:Enc.ok h a):Ct jV 74 [x.v,a.val] h fun v h'=>v=.bool (zAP (Con.con x) (Con.con a))∧h'=h:=by
 have ha:a.Ok h:=ha
 have hl:=ha.max
 rw [zAP,zAQ]
 refine zdn (fun A W=>by simp) Tryz.func74 rfl rfl (by simp) fun W0=>?_
 repeat' first|refine Wa ?_|refine zhF (fun _=>zAG x _ hx) ?_|(simp only [go_sem,jq,jj,jy,jv,jk,jx];try rfl)|refine Wb ?_|fail
 refine zc9 rfl (fun hc=>?_) (fun hc=>?_)
 ·refine Wk ?_
  congr 1
  rcases (jQ _ _).mp hc with h1|h1
  ·rw [Bool.not_eq_true'] at h1;rw [h1];rfl
  ·rw [decide_eq_false (p:=a.l.length≤6) (by have:=of_decide_eq_true h1;omega),Bool.and_false];rfl
 obtain ⟨hH,h6⟩:=Bool.or_eq_false_iff.1 hc
 rw [Bool.not_eq_false'] at hH
 rw [hH,decide_eq_true (show a.l.length≤6 by have:=of_decide_eq_false h6;omega),Bool.and_self,Bool.true_and]
 refine Wk ?_
 refine zde (ι:=Nat) (fun k=>⟨[(1,true,.c (.v a.val)),(2,true,.c (.p 0 0)),(17,true,.c (.v a.val)),(18,true,.c (.v (.int .i64 a.l.length))),(19,true,.c (.v (.int .i64 k)))],[(0,.box 58 [.v (.int .i64 x.forecast.tide.mean),.v x.forecast.tide.parts.val,.v x.forecast.surges.val,.v x.chart.points.val,.v x.chart.segments.val,.v x.fleet.val,.v (.int .i64 x.regime.gap),.v (.bool x.regime.noMeet),.v (.int .i64 x.crew.tugs),.v (.int .i64 x.crew.pilots),.v (.int .i64 x.crew.rest),.v x.crew.moves.val])],h,1⟩) (fun k=>k≤a.l.length∧∀ i,i < k→clOk (Con.con x) a.l i=true) (fun k=>a.l.length - k) 0 ⟨Nat.zero_le _,zAe ⟩ ?_ ?_
 ·refine Evs ?_
  exact Gk
 intro k hk
 refine Wk ?_
 refine zc9 rfl (fun hd=>?_) (fun hd=>?_)
 ·have hlt:=zjH hd
  have hge:=cget hlt
  repeat' first|refine Wa ?_|refine zhF (fun _=>zAN x _ _ hx (ha.el hlt)) ?_|(simp only [go_sem,jq,jj,jy,jv,jk,jx,zkT ha hlt,ha.some hlt,hlt,jW];try rfl)|refine Wb ?_|fail
  refine zc9 rfl (fun hq=>?_) (fun hq=>?_)
  ·rw [Bool.not_eq_true'] at hq
   rw [zAJ,show (Con.con a.l[k]:DCall)=a.l[k] from rfl,hH,Bool.true_and] at hq
   refine Wk ?_
   rw [zAb  hlt (by rw [clOk,hge,hq,Bool.false_and])]
  ·rw [Bool.not_eq_false'] at hq
   rw [zAJ,show (Con.con a.l[k]:DCall)=a.l[k] from rfl,hH,Bool.true_and] at hq
   have hgo:=Sl.to_ok ha k
   have hlt0:=Sl.to_len hk.1
   have hcap:=ha.1
   refine Wk ?_
   refine ⟨by omega,?_⟩
   simp only [Int.toNat_zero,Nat.sub_zero,Nat.zero_mul,zx1,zx2,ite_self]
   rw [zx3 hk.1]
   refine Wk ?_
   refine zde (ι:=Nat) (fun j=>⟨[(1,true,.c (.v a.val)),(2,true,.c (.p 0 0)),(6,true,.c (.p 1 0)),(17,true,.c (.v a.val)),(18,true,.c (.v (.int .i64 a.l.length))),(19,true,.c (.v (.int .i64 k))),(30,true,.c (.v (a.to k).val)),(31,true,.c (.v (.int .i64 k))),(32,true,.c (.v (.int .i64 j)))],[(0,.box 58 [.v (.int .i64 x.forecast.tide.mean),.v x.forecast.tide.parts.val,.v x.forecast.surges.val,.v x.chart.points.val,.v x.chart.segments.val,.v x.fleet.val,.v (.int .i64 x.regime.gap),.v (.bool x.regime.noMeet),.v (.int .i64 x.crew.tugs),.v (.int .i64 x.crew.pilots),.v (.int .i64 x.crew.rest),.v x.crew.moves.val]),(1,.box 90 [.v (.int .i64 a.l[k].ship),.v (.int .i64 a.l[k].src),.v (.int .i64 a.l[k].dst),.v (.int .i64 a.l[k].ready),.v (.int .i64 a.l[k].due)])],h,2⟩) (fun j=>j≤k∧∀ i,i < j→(a.l.getD i dC).ship ≠ a.l[k].ship) (fun j=>k - j) 0 ⟨Nat.zero_le _,fun i hi=>absurd hi (Nat.not_lt_zero _)⟩ ?_ ?_
   ·refine Evs ?_
    exact Gk
   intro j hj
   refine Wk ?_
   refine zc9 rfl (fun hq2=>?_) (fun hq2=>?_)
   ·have hltj:=zjH hq2
    have hltj':j < (a.to k).l.length:=by omega
    have hltj2:j < a.l.length:=by omega
    have hje:=Sl.to_get hltj' hltj2
    repeat' first|refine Wa ?_|(simp only [go_sem,jq,jj,jy,jv,jk,jx,zkT hgo hltj',hgo.some hltj',hltj',hltj,jW,hje];try rfl)|refine Wb ?_|fail
    refine zc9 rfl (fun hq3=>?_) (fun hq3=>?_)
    ·have hq3:=eq_of_beq hq3
     refine Wk ?_
     rw [zAb  hlt ?_]
     rw [clOk,hge,hq,Bool.true_and,zAO]
     refine decide_eq_false fun hh=>hh j hltj ?_
     rw [cget hltj2,hge];omega
    ·have hq3:=beq_eq_false_iff_ne.1 hq3
     refine Wk ?_
     refine ⟨j+1,⟨hltj,fun i hi=>?_⟩,by omega,zjB (zjA hltj (by omega))⟩
     rcases Nat.lt_succ_iff_lt_or_eq.1 hi with hi|rfl
     ·exact hj.2 i hi
     ·rw [cget hltj2];omega
   ·have hgej:=zjI hq2
    refine Wk ?_
    refine ⟨k+1,⟨hlt,zAc  hk.2 ?_⟩,by omega,zjB (zjA hlt (by omega))⟩
    rw [clOk,hge,hq,Bool.true_and,zAO]
    refine decide_eq_true fun i hi=>?_
    rw [hge];exact hj.2 i (by omega)
 ·have hge:=zjI hd
  refine Wk ?_
  rw [zAd  hge hk.2]
theorem zAS (x:DHarbour) (a:Sl DCall) (h:Hp) (hx:Enc.ok h x) (ha:Enc.ok h a):Ct jV 45 [x.v,a.val] h fun v h'=>v=.bool (zAP (Con.con x) (Con.con a))∧h'=h:=by
 have ha:a.Ok h:=ha
 have hl:=ha.max
 rw [zAP,zAQ]
 refine zdn (fun A W=>by simp) Tryz.func45 rfl rfl (by simp) fun W0=>?_
 repeat' first|refine Wa ?_|refine zhF (fun _=>zAH x _ hx) ?_|(simp only [go_sem,jq,jj,jy,jv,jk,jx];try rfl)|refine Wb ?_|fail
 refine zc9 rfl (fun hc=>?_) (fun hc=>?_)
 ·refine Wk ?_
  congr 1
  rcases (jQ _ _).mp hc with h1|h1
  ·rw [Bool.not_eq_true'] at h1;rw [h1];rfl
  ·rw [decide_eq_false (p:=a.l.length≤6) (by have:=of_decide_eq_true h1;omega),Bool.and_false];rfl
 obtain ⟨hH,h6⟩:=Bool.or_eq_false_iff.1 hc
 rw [Bool.not_eq_false'] at hH
 rw [hH,decide_eq_true (show a.l.length≤6 by have:=of_decide_eq_false h6;omega),Bool.and_self,Bool.true_and]
 refine Wk ?_
 refine zde (ι:=Nat) (fun k=>⟨[(1,true,.c (.v a.val)),(2,true,.c (.p 0 0)),(17,true,.c (.v a.val)),(18,true,.c (.v (.int .i64 a.l.length))),(19,true,.c (.v (.int .i64 k)))],[(0,.box 58 [.v (.int .i64 x.forecast.tide.mean),.v x.forecast.tide.parts.val,.v x.forecast.surges.val,.v x.chart.points.val,.v x.chart.segments.val,.v x.fleet.val,.v (.int .i64 x.regime.gap),.v (.bool x.regime.noMeet),.v (.int .i64 x.crew.tugs),.v (.int .i64 x.crew.pilots),.v (.int .i64 x.crew.rest),.v x.crew.moves.val])],h,1⟩) (fun k=>k≤a.l.length∧∀ i,i < k→clOk (Con.con x) a.l i=true) (fun k=>a.l.length - k) 0 ⟨Nat.zero_le _,zAe ⟩ ?_ ?_
 ·refine Evs ?_
  exact Gk
 intro k hk
 refine Wk ?_
 refine zc9 rfl (fun hd=>?_) (fun hd=>?_)
 ·have hlt:=zjH hd
  have hge:=cget hlt
  repeat' first|refine Wa ?_|refine zhF (fun _=>zAL x _ _ hx) ?_|(simp only [go_sem,jq,jj,jy,jv,jk,jx,zkT ha hlt,ha.some hlt,hlt,jW];try rfl)|refine Wb ?_|fail
  refine zc9 rfl (fun hq=>?_) (fun hq=>?_)
  ·rw [Bool.not_eq_true'] at hq
   skip
   refine Wk ?_
   rw [zAb  hlt (by rw [clOk,hge,hq,Bool.false_and])]
  ·rw [Bool.not_eq_false'] at hq
   skip
   have hgo:=Sl.to_ok ha k
   have hlt0:=Sl.to_len hk.1
   have hcap:=ha.1
   refine Wk ?_
   refine ⟨by omega,?_⟩
   simp only [Int.toNat_zero,Nat.sub_zero,Nat.zero_mul,zx1,zx2,ite_self]
   rw [zx3 hk.1]
   refine Wk ?_
   refine zde (ι:=Nat) (fun j=>⟨[(1,true,.c (.v a.val)),(2,true,.c (.p 0 0)),(6,true,.c (.p 1 0)),(17,true,.c (.v a.val)),(18,true,.c (.v (.int .i64 a.l.length))),(19,true,.c (.v (.int .i64 k))),(30,true,.c (.v (a.to k).val)),(31,true,.c (.v (.int .i64 k))),(32,true,.c (.v (.int .i64 j)))],[(0,.box 58 [.v (.int .i64 x.forecast.tide.mean),.v x.forecast.tide.parts.val,.v x.forecast.surges.val,.v x.chart.points.val,.v x.chart.segments.val,.v x.fleet.val,.v (.int .i64 x.regime.gap),.v (.bool x.regime.noMeet),.v (.int .i64 x.crew.tugs),.v (.int .i64 x.crew.pilots),.v (.int .i64 x.crew.rest),.v x.crew.moves.val]),(1,.box 90 [.v (.int .i64 a.l[k].ship),.v (.int .i64 a.l[k].src),.v (.int .i64 a.l[k].dst),.v (.int .i64 a.l[k].ready),.v (.int .i64 a.l[k].due)])],h,2⟩) (fun j=>j≤k∧∀ i,i < j→(a.l.getD i dC).ship ≠ a.l[k].ship) (fun j=>k - j) 0 ⟨Nat.zero_le _,fun i hi=>absurd hi (Nat.not_lt_zero _)⟩ ?_ ?_
   ·refine Evs ?_
    exact Gk
   intro j hj
   refine Wk ?_
   refine zc9 rfl (fun hq2=>?_) (fun hq2=>?_)
   ·have hltj:=zjH hq2
    have hltj':j < (a.to k).l.length:=by omega
    have hltj2:j < a.l.length:=by omega
    have hje:=Sl.to_get hltj' hltj2
    repeat' first|refine Wa ?_|(simp only [go_sem,jq,jj,jy,jv,jk,jx,zkT hgo hltj',hgo.some hltj',hltj',hltj,jW,hje];try rfl)|refine Wb ?_|fail
    refine zc9 rfl (fun hq3=>?_) (fun hq3=>?_)
    ·have hq3:=eq_of_beq hq3
     refine Wk ?_
     rw [zAb  hlt ?_]
     rw [clOk,hge,hq,Bool.true_and,zAO]
     refine decide_eq_false fun hh=>hh j hltj ?_
     rw [cget hltj2,hge];omega
    ·have hq3:=beq_eq_false_iff_ne.1 hq3
     refine Wk ?_
     refine ⟨j+1,⟨hltj,fun i hi=>?_⟩,by omega,zjB (zjA hltj (by omega))⟩
     rcases Nat.lt_succ_iff_lt_or_eq.1 hi with hi|rfl
     ·exact hj.2 i hi
     ·rw [cget hltj2];omega
   ·have hgej:=zjI hq2
    refine Wk ?_
    refine ⟨k+1,⟨hlt,zAc  hk.2 ?_⟩,by omega,zjB (zjA hlt (by omega))⟩
    rw [clOk,hge,hq,Bool.true_and,zAO]
    refine decide_eq_true fun i hi=>?_
    rw [hge];exact hj.2 i (by omega)
 ·have hge:=zjI hd
  refine Wk ?_
  rw [zAd  hge hk.2]
def zAT (c:PChart) (p:DPassage):Int × Int:=if p.toward then ((c.segments.getD p.seg.toNat dG).a,(c.segments.getD p.seg.toNat dG).b) else ((c.segments.getD p.seg.toNat dG).b,(c.segments.getD p.seg.toNat dG).a)
def zAU (s:DShip) (g:DSegment):Int:=if s.slow then IntKind.i64.wrap (2 * g.minutes) else g.minutes
def zAV (c:PChart) (l:List DShip) (p:DPassage):Bool:=decide (0≤p.ship∧p.ship < l.length∧0≤p.seg∧p.seg < c.segments.length∧0≤p.start∧p.start≤2880∧p.fin≤2880) && decide (p.fin=IntKind.i64.wrap (p.start+zAU (l.getD p.ship.toNat dH) (c.segments.getD p.seg.toNat dG)))
def zAW (c:PChart) (l:List DShip) (p:DPassage):Bool:=zz9 c && zAl l && zAV c l p
theorem zAX (c:DChart):(Con.con c).segments=c.segments.l:=zz1 _
theorem zAY (c:DChart) (p:DPassage) (hs:p.seg.toNat < c.segments.l.length):zAT (Con.con c) p=if p.toward then (c.segments.l[p.seg.toNat].a,c.segments.l[p.seg.toNat].b) else (c.segments.l[p.seg.toNat].b,c.segments.l[p.seg.toNat].a):=by
 rw [zAT,zAX,gget hs]
theorem zAZ (c:DChart) (p:DPassage) (h:Hp) (hc:Enc.ok h c) (h0:0≤p.seg) (h1:p.seg < c.segments.l.length):Ct jV 293 [c.v,p.v] h fun v h'=>v=.tuple #[.int .i64 (zAT (Con.con c) p).1,.int .i64 (zAT (Con.con c) p).2]∧h'=h:=by
 have hg:=hc.2
 have hs:p.seg.toNat < c.segments.l.length:=by omega
 rw [zAY c p hs]
 refine zdn (fun A W=>by simp) Tryz.func293 rfl rfl (by simp) fun W0=>?_
 repeat' first|refine Wa ?_|(simp (maxSteps:=2000000) only [go_sem,jq,jj,jy,jv,jk,jx,zlh hg hs,hg.some hs,hs,h0,h1];try rfl)|refine Wb ?_|fail
 refine zc9 rfl (fun hq=>?_) (fun hq=>?_)
 ·refine Wk ?_
  refine zi8 rfl (by kernel_rfl) ?_
  refine Evs ?_
  refine Wk ?_
  rw [hq];rfl
 ·refine Wk ?_
  refine zi8 rfl (by kernel_rfl) ?_
  refine Evs ?_
  refine Wk ?_
  rw [hq];rfl
theorem zA0 (c:DChart) (p:DPassage) (h:Hp) (hc:Enc.ok h c) (h0:0≤p.seg) (h1:p.seg < c.segments.l.length):Ct jV 247 [p.v,c.v] h fun v h'=>v=.tuple #[.int .i64 (zAT (Con.con c) p).1,.int .i64 (zAT (Con.con c) p).2]∧h'=h:=by
 have hg:=hc.2
 have hs:p.seg.toNat < c.segments.l.length:=by omega
 rw [zAY c p hs]
 refine zdn (fun A W=>by simp) Tryz.func247 rfl rfl (by simp) fun W0=>?_
 repeat' first|refine Wa ?_|(simp (maxSteps:=2000000) only [go_sem,jq,jj,jy,jv,jk,jx,zlh hg hs,hg.some hs,hs,h0,h1];try rfl)|refine Wb ?_|fail
 refine zc9 rfl (fun hq=>?_) (fun hq=>?_)
 ·refine Wk ?_
  refine zi8 rfl (by kernel_rfl) ?_
  refine Evs ?_
  refine Wk ?_
  rw [hq];rfl
 ·refine Wk ?_
  refine zi8 rfl (by kernel_rfl) ?_
  refine Evs ?_
  refine Wk ?_
  rw [hq];rfl
theorem zA1 (g:DSegment) (s:DShip) (h:Hp):Ct jV 231 [g.v,s.v] h fun v h'=>v=.int .i64 (zAU s g)∧h'=h:=by
 refine zdn (fun A W=>by simp) Tryz.func231 rfl rfl (by simp) fun W0=>?_
 refine Wk ?_
 refine zc9 rfl (fun hq=>?_) (fun hq=>?_)
 ·refine Wk ?_
  rw [zAU,if_pos hq]
 ·refine Wk ?_
  rw [zAU,if_neg (by rw [hq];exact Bool.false_ne_true)]
theorem zA2 (s:DShip) (g:DSegment) (h:Hp):Ct jV 243 [s.v,g.v] h fun v h'=>v=.int .i64 (zAU s g)∧h'=h:=by
 refine zdn (fun A W=>by simp) Tryz.func243 rfl rfl (by simp) fun W0=>?_
 refine Wk ?_
 refine zc9 rfl (fun hq=>?_) (fun hq=>?_)
 ·refine Wk ?_
  rw [zAU,if_pos hq]
 ·refine Wk ?_
  rw [zAU,if_neg (by rw [hq];exact Bool.false_ne_true)]
theorem zA3 (c:DChart) (k:Int) (s:DShip) (h:Hp) (hc:Enc.ok h c) (hs:Enc.ok h s):Ct jV 283 [c.v,.int .i64 k,s.v] h fun v h'=>v=.int .i64 (if zz9 (Con.con c)=true∧zAk s=true∧0≤k∧k < c.segments.l.length then zAU s (c.segments.l.getD k.toNat dG) else 0)∧h'=h:=by
 have hg:=hc.2
 have hl:=hg.max
 have hw:IntKind.i64.wrap ((c.segments.l.length:Int) - 1)=(c.segments.l.length:Int) - 1:=zjz (by omega)
 refine zdn (fun A W=>by simp) Tryz.func283 rfl rfl (by simp) fun W0=>?_
 repeat' first|refine Wa ?_|refine zhF (fun _=>zAh c _ hc) ?_|refine zhF (fun _=>zAr s _ hs) ?_|refine zhF (fun _=>zzk _ _ _ _) ?_|(simp (maxSteps:=2000000) only [go_sem,jq,jj,jy,jv,jk,jx,hw];try rfl)|refine Wb ?_|fail
 refine zc9 rfl (fun hq=>?_) (fun hq=>?_)
 ·refine Wk ?_
  simp only [jQ,Bool.not_eq_true',Bool.and_eq_false_iff,decide_eq_false_iff_not] at hq
  rw [if_neg]
  rintro ⟨h1,h2,h3,h4⟩
  rw [h1,h2] at hq
  rcases hq with (hq|hq)|hq
  ·cases hq
  ·cases hq
  ·omega
 ·simp only [jp,Bool.not_eq_false',jJ,decide_eq_true_eq] at hq
  obtain ⟨⟨h1,h2⟩,h3,h4⟩:=hq
  have hs':k.toNat < c.segments.l.length:=by omega
  have h4':k < (c.segments.l.length:Int):=by omega
  rw [if_pos ⟨h1,h2,h3,h4'⟩,gget hs']
  refine Wk ?_
  refine ziV rfl ?_
  refine zi3 [0,1,2,3,4,5] rfl (by kernel_rfl) ?_
  simp (maxSteps:=2000000) only [go_sem,jq,jj,jy,jv,jk,jx,zlh hg hs',hg.some hs',hs',h3,h4']
  refine ziT [6] (by kernel_rfl) (by kernel_rfl) ?_
  simp (maxSteps:=2000000) only [go_sem,jq,jj,jy,jv,jk,jx,zlh hg hs',hg.some hs',hs',h3,h4']
  refine zhF (fun _=>zA1 _ _ _) ?_
  simp (maxSteps:=2000000) only [go_sem,jq,jj,jy,jv,jk,jx,zlh hg hs',hg.some hs',hs',h3,h4']
  refine zi3 [7] rfl (by kernel_rfl) ?_
  refine Evs ?_
  refine ziU (by kernel_rfl) ?_
  exact Wk0
theorem zA4 (c:DChart) (l:List DShip) (p:DPassage):zAV (Con.con c) l p=(decide (0≤p.ship∧p.ship < l.length∧0≤p.seg∧p.seg < c.segments.l.length∧0≤p.start∧p.start≤2880∧p.fin≤2880) && decide (p.fin=IntKind.i64.wrap (p.start+zAU (l.getD p.ship.toNat dH) (c.segments.l.getD p.seg.toNat dG)))):=by
 rw [zAV,zAX]
theorem zA5 (c:DChart) (a:Sl DShip) (p:DPassage) (h:Hp) (hc:Enc.ok h c) (ha:a.Ok h):Ct jV 271 [c.v,a.val,p.v] h fun v h'=>v=.bool (zAV (Con.con c) a.l p)∧h'=h:=by
 have hg:=hc.2
 rw [zA4]
 refine zdn (fun A W=>by simp) Tryz.func271 rfl rfl (by simp) fun W0=>?_
 repeat' first|refine Wa ?_|refine zhF (fun _=>zzn _ _ _) ?_|refine zhF (fun _=>zzm _ _) ?_|(simp (maxSteps:=2000000) only [go_sem,jq,jj,jy,jv,jk,jx];try rfl)|refine Wb ?_|fail
 refine zc9 rfl (fun hq=>?_) (fun hq=>?_)
 ·refine Wk ?_
  simp only [jQ,Bool.not_eq_true',Bool.and_eq_false_iff,decide_eq_false_iff_not,decide_eq_true_eq] at hq
  rw [decide_eq_false (by omega),Bool.false_and]
 ·simp only [jp,Bool.not_eq_false',jJ,decide_eq_true_eq,decide_eq_false_iff_not] at hq
  have h1:0≤p.ship∧p.ship < (a.l.length:Int)∧0≤p.seg∧p.seg < (c.segments.l.length:Int)∧0≤p.start∧p.start≤2880∧p.fin≤2880:=by omega
  have hs':p.seg.toNat < c.segments.l.length:=by omega
  have hp':p.ship.toNat < a.l.length:=by omega
  rw [decide_eq_true h1,Bool.true_and,gget hs',hget hp']
  refine Wk ?_
  refine ziV rfl ?_
  refine zi3 [0,1,2,3,4,5,6,7,8,9,10,11,12,13,14] rfl (by kernel_rfl) ?_
  simp (maxSteps:=2000000) only [go_sem,jq,jj,jy,jv,jk,jx,zlh hg hs',hg.some hs',hs',h1.2.2.1,h1.2.2.2.1,zln ha hp',ha.some hp',hp',h1.1,h1.2.1]
  refine ziT [15] (by kernel_rfl) (by kernel_rfl) ?_
  simp (maxSteps:=2000000) only [go_sem,jq,jj,jy,jv,jk,jx,zlh hg hs',hg.some hs',hs',h1.2.2.1,h1.2.2.2.1,zln ha hp',ha.some hp',hp',h1.1,h1.2.1]
  refine zhF (fun _=>zA2 _ _ _) ?_
  simp (maxSteps:=2000000) only [go_sem,jq,jj,jy,jv,jk,jx,zlh hg hs',hg.some hs',hs',h1.2.2.1,h1.2.2.2.1,zln ha hp',ha.some hp',hp',h1.1,h1.2.1]
  refine zi3 [16,17,18] rfl (by kernel_rfl) ?_
  refine Evs ?_
  refine ziU (by kernel_rfl) ?_
  exact Wk0
theorem zA6 (c:DChart) (a:Sl DShip) (p:DPassage) (h:Hp) (hc:Enc.ok h c) (ha:a.Ok h):Ct jV 248 [c.v,a.val,p.v] h fun v h'=>v=.bool (zAW (Con.con c) a.l p)∧h'=h:=by
 rw [zAW]
 refine zdn (fun A W=>by simp) Tryz.func248 rfl rfl (by simp) fun W0=>?_
 repeat' first|refine Wa ?_|refine zhF (fun _=>zAi c _ hc) ?_|refine zhF (fun _=>zAw _ _ ha) ?_|refine zhF (fun _=>zA5 c a p _ hc ha) ?_|(simp (maxSteps:=2000000) only [go_sem,jq,jj,jy,jv,jk,jx];try rfl)|refine Wb ?_|fail
theorem zA7 (c:DChart) (a:Sl DShip) (p:DPassage) (h:Hp) (hc:Enc.ok h c) (ha:a.Ok h):Ct jV 292 [c.v,a.val,p.v] h fun v h'=>v=.bool (zAW (Con.con c) a.l p)∧h'=h:=by
 have hg:=hc.2
 have hl:=hg.max
 have hl2:=ha.max
 have hw:IntKind.i64.wrap ((c.segments.l.length:Int) - 1)=(c.segments.l.length:Int) - 1:=zjz (by omega)
 have hw2:IntKind.i64.wrap ((a.l.length:Int) - 1)=(a.l.length:Int) - 1:=zjz (by omega)
 rw [zAW,zA4]
 refine zdn (fun A W=>by simp) Tryz.func292 rfl rfl (by simp) fun W0=>?_
 repeat' first|refine Wa ?_|refine zhF (fun _=>zAh c _ hc) ?_|refine zhF (fun _=>zAs _ _ ha) ?_|refine zhF (fun _=>zzk _ _ _ _) ?_|(simp (maxSteps:=2000000) only [go_sem,jq,jj,jy,jv,jk,jx,hw,hw2];try rfl)|refine Wb ?_|fail
 refine zc9 rfl (fun hq=>?_) (fun hq=>?_)
 ·refine Wk ?_
  congr 1
  simp only [jQ,Bool.not_eq_true',Bool.and_eq_false_iff,decide_eq_false_iff_not] at hq
  rcases hq with (((hq|hq)|hq)|hq)|hq
  ·rw [hq];rfl
  ·rw [hq,Bool.and_false];rfl
  ·rw [decide_eq_false (p:=0≤p.ship∧_) (by omega),Bool.false_and,Bool.and_false]
  ·rw [decide_eq_false (p:=0≤p.ship∧_) (by omega),Bool.false_and,Bool.and_false]
  ·rw [decide_eq_false (p:=0≤p.ship∧_) (by omega),Bool.false_and,Bool.and_false]
 ·simp only [jp,Bool.not_eq_false',jJ,decide_eq_true_eq] at hq
  obtain ⟨⟨⟨⟨hC,hF⟩,h1,h2⟩,h3,h4⟩,h5,h6⟩:=hq
  have h2':p.ship < (a.l.length:Int):=by omega
  have h4':p.seg < (c.segments.l.length:Int):=by omega
  have hs':p.seg.toNat < c.segments.l.length:=by omega
  have hp':p.ship.toNat < a.l.length:=by omega
  have hsh:zAk a.l[p.ship.toNat]=true:=by
   have h9:=of_decide_eq_true (Bool.and_eq_true_iff.1 hF).2 p.ship.toNat hp'
   rw [shOk,hget hp'] at h9
   exact (Bool.and_eq_true_iff.1 h9).1
  rw [hC,hF,Bool.and_self,Bool.true_and,gget hs',hget hp']
  refine Wk ?_
  refine ziV rfl ?_
  refine zi3 [0,1,2,3,4,5,6,7,8,9,10,11] rfl (by kernel_rfl) ?_
  simp (maxSteps:=2000000) only [go_sem,jq,jj,jy,jv,jk,jx,zln ha hp',ha.some hp',hp',h1,h2']
  refine ziT [12] (by kernel_rfl) (by kernel_rfl) ?_
  simp (maxSteps:=2000000) only [go_sem,jq,jj,jy,jv,jk,jx,zln ha hp',ha.some hp',hp',h1,h2']
  refine zhF (fun _=>zA3 c _ _ _ hc (ha.el hp')) ?_
  simp (maxSteps:=2000000) only [go_sem,jq,jj,jy,jv,jk,jx,zln ha hp',ha.some hp',hp',h1,h2']
  refine zi3 [13,14,15,16,17,18,19,20] rfl (by kernel_rfl) ?_
  refine Evs ?_
  refine ziU (by kernel_rfl) ?_
  refine Wk ?_
  rw [if_pos ⟨hC,hsh,h3,h4'⟩,gget hs']
  congr 1
  rw [Bool.eq_iff_iff]
  simp only [jJ,decide_eq_true_eq,beq_iff_eq]
  constructor <;> intro hh <;> omega
def Ov (p q:DPassage):Bool:=decide (max p.start q.start < min p.fin q.fin)
def zA8 (a b g:Int):Bool:=decide (max a b - min a b < g)
def zA9 (c:PChart) (r:DRegime) (p q:DPassage):Int :=
 if ¬ (p.seg=q.seg∧0≤p.seg∧p.seg < c.segments.length) then 0
 else if p.ship=q.ship then (if Ov p q=true then 1 else 0)
 else if p.toward ≠ q.toward then (if (Ov p q && (r.noMeet || !(c.segments.getD p.seg.toNat dG).meet))=true then 2 else 0)
 else if (zA8 p.start q.start r.gap || zA8 p.fin q.fin r.gap)=true then 3
 else if (p.start < q.start∧q.fin < p.fin)∨(q.start < p.start∧p.fin < q.fin) then 4 else 0
def zBa (c:PChart) (r:DRegime) (a b:List DPassage):Bool:=a.any fun p=>b.any fun q=>decide (zA9 c r p q ≠ 0)
theorem zBb {α:Type} {f:α→Bool} {l:List α} {k:Nat} (hk:k < l.length):(l.take (k+1)).any f=((l.take k).any f || f l[k]):=by
 rw [List.take_succ_eq_append_getElem hk,List.any_append,List.any_cons,List.any_nil,Bool.or_false]
theorem zBc {α:Type} {f:α→Bool} {l:List α} {k:Nat} (hk:k < l.length) (h:f l[k]=true):l.any f=true:=List.any_eq_true.2 ⟨_,List.getElem_mem hk,h⟩
theorem zBd {a b g:Int} (ha:I64 a) (hb:I64 b) (hg:0≤g∧g≤60):decide (IntKind.u64.wrap (IntKind.u64.wrap (max a b) - IntKind.u64.wrap (min a b)) < IntKind.u64.wrap g)=zA8 a b g:=by
 unfold I64 at ha hb
 rw [zA8,decide_eq_decide]
 show ((max a b % (2 ^ 64:Int) - min a b % (2 ^ 64:Int)) % (2 ^ 64:Int) < g % (2 ^ 64:Int)) ↔ _
 omega
theorem zBe (p q:DPassage) (h:Hp):Ct jV 211 [p.v,q.v] h fun v h'=>v=.bool (Ov p q)∧h'=h:=by
 refine zdn (fun A W=>by simp) Tryz.func211 rfl rfl (by simp) fun W0=>?_
 exact Wk0
 try rfl
theorem zBf (p q:DPassage) (h:Hp):Ct jV 258 [p.v,q.v] h fun v h'=>v=.bool (Ov p q)∧h'=h:=by
 refine zdn (fun A W=>by simp) Tryz.func258 rfl rfl (by simp) fun W0=>?_
 exact Wk0
 try rfl
theorem zBg (a b g:Int) (h:Hp) (ha:I64 a) (hb:I64 b) (hg:0≤g∧g≤60):Ct jV 212 [.int .i64 a,.int .i64 b,.int .i64 g] h fun v h'=>v=.bool (zA8 a b g)∧h'=h:=by
 rw [← zBd ha hb hg]
 refine zdn (fun A W=>by simp) Tryz.func212 rfl rfl (by simp) fun W0=>?_
 exact Wk0
theorem zBh (a b g:Int) (h:Hp) (ha:I64 a) (hb:I64 b) (hg:0≤g∧g≤60):Ct jV 259 [.int .i64 a,.int .i64 b,.int .i64 g] h fun v h'=>v=.bool (zA8 a b g)∧h'=h:=by
 have ha1:=ha
 have hb1:=hb
 unfold I64 at ha1 hb1
 refine zdn (fun A W=>by simp) Tryz.func259 rfl rfl (by simp) fun W0=>?_
 refine Wk ?_
 refine zc9 rfl (fun hq=>?_) (fun hq=>?_)
 ·refine Wk ?_
  obtain ⟨h1,h2⟩:=Bool.and_eq_true_iff.1 hq
  have h1:min a b < 0:=of_decide_eq_true h1
  have h2:IntKind.i64.wrap (min a b+9223372036854775807) < max a b:=of_decide_eq_true h2
  rw [zjz (by omega)] at h2
  rw [zA8,decide_eq_false (by omega)]
 ·refine Wk ?_
  have hk:max a b - min a b≤9223372036854775807:=by
   rcases Bool.and_eq_false_iff.1 hq with h1|h2
   ·have h1:¬ min a b < 0:=of_decide_eq_false h1
    omega
   ·have h2:¬ IntKind.i64.wrap (min a b+9223372036854775807) < max a b:=of_decide_eq_false h2
    by_cases h0:min a b < 0
    ·rw [zjz (by omega)] at h2;omega
    ·omega
  refine congrArg Value.bool (decide_eq_decide.2 ?_)
  rw [zjz (by omega)]
theorem cf_t {a b c d:Int} (h:((decide (a < b) && decide (d < c)) || (decide (b < a) && decide (c < d)))=true):(a < b∧d < c)∨(b < a∧c < d):=by simpa using h
theorem cf_f {a b c d:Int} (h:((decide (a < b) && decide (d < c)) || (decide (b < a) && decide (c < d)))=false):¬ ((a < b∧d < c)∨(b < a∧c < d)):=by
 intro H
 have:((decide (a < b) && decide (d < c)) || (decide (b < a) && decide (c < d)))=true:=by simpa using H
 rw [this] at h;cases h
theorem zBi {a b n:Int} (h:(a != b || !(decide (0≤a) && decide (a < n)))=true):¬ (a=b∧0≤a∧a < n):=by
 intro ⟨h1,h2,h3⟩
 rw [decide_eq_true h2,decide_eq_true h3,h1] at h
 simp at h
theorem zBj {a b n:Int} (h:(a != b || !(decide (0≤a) && decide (a < n)))=false):a=b∧0≤a∧a < n:=by
 simpa using h
theorem zBk {a b n:Int} (h:(!(decide (0≤a) && decide (a≤n - 1)) || a != b)=true):¬ (a=b∧0≤a∧a < n):=by
 intro ⟨h1,h2,h3⟩
 rw [decide_eq_true h2,decide_eq_true (show a≤n - 1 by omega),h1] at h
 simp at h
theorem zBl {a b n:Int} (h:(!(decide (0≤a) && decide (a≤n - 1)) || a != b)=false):a=b∧0≤a∧a < n:=by
 have:a=b∧0≤a∧a≤n - 1:=by
  rcases Bool.or_eq_false_iff.1 h with ⟨h1,h2⟩
  refine ⟨by simpa using h2,?_⟩
  simpa using h1
 omega
theorem zBm (x:DChart) (r:DRegime) (p q:DPassage) (h:Hp) (hx:Enc.ok h x) (hr:zAm r=true) (hp:Enc.ok h p) (hq:Enc.ok h q):Ct jV 160 [x.v,r.v,p.v,q.v] h fun v h'=>v=.int .i64 (zA9 (Con.con x) r p q)∧h'=h:=by
 have hl:=hx.2.max
 have hcs:(Con.con x).segments=x.segments.l:=zAX x
 have hg:0≤r.gap∧r.gap≤60:=by rw [zAm,In,jJ,decide_eq_true_eq,decide_eq_true_eq] at hr;exact hr
 refine zdn (fun A W=>by simp) Tryz.func160 rfl rfl (by simp) fun W0=>?_
 repeat' first|refine Wa ?_|refine zhF (fun _=>zzn _ _ _) ?_|refine zhF (fun _=>zBe p q _) ?_|(simp only [go_sem,jq,jj,jy,jv,jk,jx];try rfl)|refine Wb ?_|fail
 refine zc9 rfl (fun hc=>?_) (fun hc=>?_)
 ·have hc:=zBi hc
  refine Wk ?_
  rw [zA9,hcs,if_pos hc]
 obtain ⟨hs,hs0,hs1⟩:=zBj hc
 have hF:zA9 (Con.con x) r p q=if p.ship=q.ship then (if Ov p q=true then 1 else 0)
  else if p.toward ≠ q.toward then (if (Ov p q && (r.noMeet || !(x.segments.l.getD p.seg.toNat dG).meet))=true then 2 else 0)
  else if (zA8 p.start q.start r.gap || zA8 p.fin q.fin r.gap)=true then 3
  else if (p.start < q.start∧q.fin < p.fin)∨(q.start < p.start∧p.fin < q.fin) then 4 else 0:=by
  rw [zA9,hcs,if_neg (fun H=>H ⟨hs,hs0,hs1⟩)]
 have hsi:p.seg.toNat < x.segments.l.length:=by omega
 have hge:x.segments.l.getD p.seg.toNat dG=x.segments.l[p.seg.toNat]:=by rw [List.getD_eq_getElem?_getD,List.getElem?_eq_getElem hsi];rfl
 rw [hge] at hF
 by_cases hsh:p.ship=q.ship
 ·rw [if_pos hsh] at hF
  have hb:(p.ship == q.ship)=true:=beq_iff_eq.2 hsh
  cases ho:Ov p q with
  | true =>
   rw [ho] at hF
   repeat' first|refine Wa ?_|refine zhF (fun _=>zBe p q _) ?_|(simp only [go_sem,jq,jj,jy,jv,jk,jx,hb,ho,Bool.and_self];try rfl)|refine Wb ?_|fail
   refine zc9 rfl (fun hd=>?_) (fun hd=>?_)
   case refine_2=>cases hd
   refine Wk ?_
   rw [hF];rfl
  | false =>
   rw [ho] at hF
   repeat' first|refine Wa ?_|refine zhF (fun _=>zBe p q _) ?_|(simp only [go_sem,jq,jj,jy,jv,jk,jx,hb,ho,Bool.and_false];try rfl)|refine Wb ?_|fail
   refine zc9 rfl (fun hd=>?_) (fun hd=>?_)
   ·cases hd
   repeat' first|refine Wa ?_|(simp only [go_sem,jq,jj,jy,jv,jk,jx,hb];try rfl)|refine Wb ?_|fail
   refine zc9 rfl (fun hd=>?_) (fun hd=>?_)
   case refine_2=>cases hd
   refine Wk ?_
   rw [hF];rfl
 rw [if_neg hsh] at hF
 have hb:(p.ship == q.ship)=false:=beq_eq_false_iff_ne.2 hsh
 repeat' first|refine Wa ?_|refine zhF (fun _=>zBe p q _) ?_|(simp only [go_sem,jq,jj,jy,jv,jk,jx,hb,Bool.false_and];try rfl)|refine Wb ?_|fail
 have htq:(p.toward ≠ q.toward) ↔ (p.toward == q.toward)=false:=by cases p.toward <;> cases q.toward <;> simp
 refine zc9 rfl (fun hd=>?_) (fun hd=>?_)
 ·cases hd
 repeat' first|refine Wa ?_|(simp only [go_sem,jq,jj,jy,jv,jk,jx,hb];try rfl)|refine Wb ?_|fail
 refine zc9 rfl (fun hd=>?_) (fun hd=>?_)
 ·cases hd
 cases htw:(p.toward == q.toward) with
 | false =>
  rw [if_pos (htq.2 htw)] at hF
  cases ho:Ov p q with
  | false =>
   rw [ho] at hF
   repeat' first|refine Wa ?_|refine zhF (fun _=>zBe p q _) ?_|(simp only [go_sem,jq,jj,jy,jv,jk,jx,htw,Bool.false_eq_true,Bool.true_eq_false,false_implies,implies_true,true_and,and_true,and_self,Bool.not_false,Bool.not_true,ho,Bool.and_false,Bool.false_and];try rfl)|refine Wb ?_|fail
   refine zc9 rfl (fun hd=>?_) (fun hd=>?_)
   ·cases hd
   repeat' first|refine Wa ?_|(simp only [go_sem,jq,jj,jy,jv,jk,jx,htw,Bool.not_false,Bool.not_true];try rfl)|refine Wb ?_|fail
   refine zc9 rfl (fun hd=>?_) (fun hd=>?_)
   case refine_2=>cases hd
   refine Wk ?_
   rw [hF];rfl
  | true =>
   rw [ho] at hF
   cases hn:r.noMeet with
   | true =>
    rw [hn] at hF
    repeat' first|refine Wa ?_|refine zhF (fun _=>zBe p q _) ?_|(simp only [go_sem,jq,jj,jy,jv,jk,jx,htw,Bool.false_eq_true,Bool.true_eq_false,false_implies,implies_true,true_and,and_true,and_self,Bool.not_false,Bool.not_true,ho,hn,Bool.and_true,Bool.true_and,Bool.true_or,Bool.and_self];try rfl)|refine Wb ?_|fail
    refine zc9 rfl (fun hd=>?_) (fun hd=>?_)
    case refine_2=>cases hd
    refine Wk ?_
    rw [hF];rfl
   | false =>
    rw [hn] at hF
    cases hm:x.segments.l[p.seg.toNat].meet with
    | true =>
     rw [hm] at hF
     repeat' first|refine Wa ?_|refine zhF (fun _=>zBe p q _) ?_|(simp only [go_sem,jq,jj,jy,jv,jk,jx,htw,Bool.false_eq_true,Bool.true_eq_false,false_implies,implies_true,true_and,and_true,and_self,Bool.not_false,Bool.not_true,ho,hn,hm,Bool.and_true,Bool.true_and,Bool.true_or,Bool.and_self,zmT hx.2 hsi,zlh hx.2 hsi,hx.2.some hsi,hsi,hs0,hs1,jW];try rfl)|refine Wb ?_|fail
     refine zc9 rfl (fun hd=>?_) (fun hd=>?_)
     ·cases hd
     repeat' first|refine Wa ?_|(simp only [go_sem,jq,jj,jy,jv,jk,jx,htw,Bool.not_false,Bool.not_true];try rfl)|refine Wb ?_|fail
     refine zc9 rfl (fun hd=>?_) (fun hd=>?_)
     case refine_2=>cases hd
     refine Wk ?_
     rw [hF];rfl
    | false =>
     rw [hm] at hF
     repeat' first|refine Wa ?_|refine zhF (fun _=>zBe p q _) ?_|(simp only [go_sem,jq,jj,jy,jv,jk,jx,htw,Bool.false_eq_true,Bool.true_eq_false,false_implies,implies_true,true_and,and_true,and_self,Bool.not_false,Bool.not_true,ho,hn,hm,Bool.and_true,Bool.true_and,Bool.true_or,Bool.and_self,zmT hx.2 hsi,zlh hx.2 hsi,hx.2.some hsi,hsi,hs0,hs1,jW];try rfl)|refine Wb ?_|fail
     refine zc9 rfl (fun hd=>?_) (fun hd=>?_)
     case refine_2=>cases hd
     refine Wk ?_
     rw [hF];rfl
 | true =>
  rw [if_neg (fun H=>by rw [htq.1 H] at htw;cases htw)] at hF
  repeat' first|refine Wa ?_|refine zhF (fun _=>zBe p q _) ?_|(simp only [go_sem,jq,jj,jy,jv,jk,jx,htw,Bool.false_eq_true,Bool.true_eq_false,false_implies,implies_true,true_and,and_true,and_self,Bool.not_false,Bool.not_true,Bool.and_false,Bool.false_and];try rfl)|refine Wb ?_|fail
  refine zc9 rfl (fun hd=>?_) (fun hd=>?_)
  ·cases hd
  repeat' first|refine Wa ?_|(simp only [go_sem,jq,jj,jy,jv,jk,jx,htw,Bool.not_false,Bool.not_true];try rfl)|refine Wb ?_|fail
  refine zc9 rfl (fun hd=>?_) (fun hd=>?_)
  ·cases hd
  repeat' first|refine Wa ?_|refine zhF (fun _=>zBg _ _ _ _ hp.2.2.1 hq.2.2.1 hg) ?_|refine zhF (fun _=>zBg _ _ _ _ hp.2.2.2 hq.2.2.2 hg) ?_|(simp only [go_sem,jq,jj,jy,jv,jk,jx];try rfl)|refine Wb ?_|fail
  refine zc9 rfl (fun hd=>?_) (fun hd=>?_)
  ·rw [if_pos hd] at hF
   refine Wk ?_
   rw [hF]
  rw [if_neg (by rw [hd];exact Bool.false_ne_true)] at hF
  refine Wk ?_
  refine zc9 rfl (fun hd=>?_) (fun hd=>?_)
  ·refine Wk ?_
   rw [hF,if_pos (cf_t hd)]
  ·refine Wk ?_
   rw [hF,if_neg (cf_f hd)]
theorem zBn (x:DChart) (r:DRegime) (p q:DPassage) (h:Hp) (hx:Enc.ok h x) (hr:zAm r=true) (hC:zz9 (Con.con x)=true) (hp:Enc.ok h p) (hq:Enc.ok h q):Ct jV 235 [x.v,r.v,p.v,q.v] h fun v h'=>v=.int .i64 (zA9 (Con.con x) r p q)∧h'=h:=by
 have hl:=hx.2.max
 have hcs:(Con.con x).segments=x.segments.l:=zAX x
 have hg:0≤r.gap∧r.gap≤60:=by rw [zAm,In,jJ,decide_eq_true_eq,decide_eq_true_eq] at hr;exact hr
 refine zdn (fun A W=>by simp) Tryz.func235 rfl rfl (by simp) fun W0=>?_
 have hsub:IntKind.i64.wrap (↑x.segments.l.length - 1)=(x.segments.l.length:Int) - 1:=zjz (by omega)
 repeat' first|refine Wa ?_|refine zhF (fun _=>zzk _ _ _ _) ?_|refine zhF (fun _=>zAh x _ hx) ?_|refine zhF (fun _=>zAt r _) ?_|(simp only [go_sem,jq,jj,jy,jv,jk,jx,hC,hr,Bool.not_true,Bool.not_false,Bool.false_or,Bool.false_eq_true,Bool.true_eq_false,false_implies,implies_true,true_and,and_true,and_self];try rfl)|refine Wb ?_|fail
 rw [hsub]
 refine zc9 rfl (fun hc=>?_) (fun hc=>?_)
 ·have hc:=zBk hc
  refine Wk ?_
  rw [zA9,hcs,if_pos hc]
 obtain ⟨hs,hs0,hs1⟩:=zBl hc
 have hF:zA9 (Con.con x) r p q=if p.ship=q.ship then (if Ov p q=true then 1 else 0)
  else if p.toward ≠ q.toward then (if (Ov p q && (r.noMeet || !(x.segments.l.getD p.seg.toNat dG).meet))=true then 2 else 0)
  else if (zA8 p.start q.start r.gap || zA8 p.fin q.fin r.gap)=true then 3
  else if (p.start < q.start∧q.fin < p.fin)∨(q.start < p.start∧p.fin < q.fin) then 4 else 0:=by
  rw [zA9,hcs,if_neg (fun H=>H ⟨hs,hs0,hs1⟩)]
 have hsi:p.seg.toNat < x.segments.l.length:=by omega
 have hge:x.segments.l.getD p.seg.toNat dG=x.segments.l[p.seg.toNat]:=by rw [List.getD_eq_getElem?_getD,List.getElem?_eq_getElem hsi];rfl
 rw [hge] at hF
 have htq:(p.toward ≠ q.toward) ↔ (p.toward == q.toward)=false:=by cases p.toward <;> cases q.toward <;> simp
 refine Wk ?_
 refine zc9 rfl (fun hd=>?_) (fun hd=>?_)
 ·rw [if_pos (eq_of_beq hd)] at hF
  repeat' first|refine Wa ?_|refine zhF (fun _=>zBf p q _) ?_|(simp only [go_sem,jq,jj,jy,jv,jk,jx];try rfl)|refine Wb ?_|fail
  refine zc9 rfl (fun hd=>?_) (fun hd=>?_)
  ·refine Wk ?_
   rw [hF,if_pos hd]
  ·refine Wk ?_
   rw [hF,if_neg (by rw [hd];exact Bool.false_ne_true)]
 rw [if_neg (fun H=>by rw [beq_iff_eq.2 H] at hd;cases hd)] at hF
 refine Wk ?_
 cases htw:(p.toward == q.toward) with
 | false =>
  rw [if_pos (htq.2 htw)] at hF
  refine zc9 rfl (fun hd=>?_) (fun hd=>?_)
  case refine_2=>cases hd
  cases ho:Ov p q with
  | false =>
   rw [ho] at hF
   repeat' first|refine Wa ?_|refine zhF (fun _=>zBf p q _) ?_|(simp only [go_sem,jq,jj,jy,jv,jk,jx,Bool.not_true,Bool.not_false,Bool.false_eq_true,Bool.true_eq_false,false_implies,implies_true,true_and,and_true,and_self,ho,Bool.and_false,Bool.false_and];try rfl)|refine Wb ?_|fail
   refine zc9 rfl (fun hd=>?_) (fun hd=>?_)
   ·cases hd
   refine Wk ?_
   rw [hF];rfl
  | true =>
   rw [ho] at hF
   cases hn:r.noMeet with
   | true =>
    rw [hn] at hF
    repeat' first|refine Wa ?_|refine zhF (fun _=>zBf p q _) ?_|(simp only [go_sem,jq,jj,jy,jv,jk,jx,Bool.not_true,Bool.not_false,Bool.false_eq_true,Bool.true_eq_false,false_implies,implies_true,true_and,and_true,and_self,ho,hn,Bool.and_true,Bool.true_and,Bool.true_or,Bool.and_self];try rfl)|refine Wb ?_|fail
    refine zc9 rfl (fun hd=>?_) (fun hd=>?_)
    case refine_2=>cases hd
    refine Wk ?_
    rw [hF];rfl
   | false =>
    rw [hn] at hF
    cases hm:x.segments.l[p.seg.toNat].meet with
    | true =>
     rw [hm] at hF
     repeat' first|refine Wa ?_|refine zhF (fun _=>zBf p q _) ?_|(simp only [go_sem,jq,jj,jy,jv,jk,jx,Bool.not_true,Bool.not_false,Bool.false_eq_true,Bool.true_eq_false,false_implies,implies_true,true_and,and_true,and_self,ho,hn,hm,Bool.and_true,Bool.true_and,Bool.true_or,Bool.and_self,zmT hx.2 hsi,zlh hx.2 hsi,hx.2.some hsi,hsi,hs0,hs1,jW];try rfl)|refine Wb ?_|fail
     refine zc9 rfl (fun hd=>?_) (fun hd=>?_)
     ·cases hd
     refine Wk ?_
     rw [hF];rfl
    | false =>
     rw [hm] at hF
     repeat' first|refine Wa ?_|refine zhF (fun _=>zBf p q _) ?_|(simp only [go_sem,jq,jj,jy,jv,jk,jx,Bool.not_true,Bool.not_false,Bool.false_eq_true,Bool.true_eq_false,false_implies,implies_true,true_and,and_true,and_self,ho,hn,hm,Bool.and_true,Bool.true_and,Bool.true_or,Bool.and_self,zmT hx.2 hsi,zlh hx.2 hsi,hx.2.some hsi,hsi,hs0,hs1,jW];try rfl)|refine Wb ?_|fail
     refine zc9 rfl (fun hd=>?_) (fun hd=>?_)
     case refine_2=>cases hd
     refine Wk ?_
     rw [hF];rfl
 | true =>
  rw [if_neg (fun H=>by rw [htq.1 H] at htw;cases htw)] at hF
  refine zc9 rfl (fun hd=>?_) (fun hd=>?_)
  ·cases hd
  repeat' first|refine Wa ?_|refine zhF (fun _=>zBh _ _ _ _ hp.2.2.1 hq.2.2.1 hg) ?_|refine zhF (fun _=>zBh _ _ _ _ hp.2.2.2 hq.2.2.2 hg) ?_|(simp only [go_sem,jq,jj,jy,jv,jk,jx];try rfl)|refine Wb ?_|fail
  refine zc9 rfl (fun hd=>?_) (fun hd=>?_)
  ·rw [if_pos hd] at hF
   refine Wk ?_
   rw [hF]
  rw [if_neg (by rw [hd];exact Bool.false_ne_true)] at hF
  refine Wk ?_
  refine zc9 rfl (fun hd=>?_) (fun hd=>?_)
  ·refine Wk ?_
   rw [hF,if_pos (cf_t hd)]
  ·refine Wk ?_
   rw [hF,if_neg (cf_f hd)]
end Go.Proofs.YtdejfjdbcggilaaGreat
