/- What functions of the given program compute, as contracts. -/
import Derived.Test.YtdejfjdbcggilaaGreatSGFnRefusalsx4
import Derived.Test.YtdejfjdbcggilaaGreatXGFnRefusals6
set_option linter.unusedVariables false
set_option linter.unusedSimpArgs false
set_option maxRecDepth 4000
open Nat renaming reduceAdd → jq, reduceMul → jj, reduceBEq → jy, reduceLeDiff → jv, reduceLT → jk, reduceEqDiff → jx
open Bool renaming or_eq_false_iff → jp, or_eq_true → jQ, and_eq_true → jJ
open Int renaming toNat_natCast → jW, natCast_nonneg → jY
open Go.Proofs.Tryz renaming prog → jV
namespace Go.Proofs.YtdejfjdbcggilaaGreat
open Go Go.SL
set_option maxHeartbeats 1000000
def zzO (t:zOt):Bool:=In t.mean (-1000) 1000 && decide (t.parts.length≤4) && t.parts.all zzB
theorem zzP (s:Sl DPart):Con.con s=s.l:=List.map_id _
theorem zzQ {α:Type} {p:α→Bool} {l:List α} {k:Nat} (hk:k < l.length) (h:p l[k]=false):l.all p=false:=List.all_eq_false.2 ⟨l[k],List.getElem_mem hk,by rw [h];exact Bool.false_ne_true⟩
theorem zzR {α:Type} {p:α→Bool} {l:List α} {k:Nat} (hk:k < l.length) (hp:(l.take k).all p=true) (h:p l[k]=true):(l.take (k+1)).all p=true:=by
 rw [List.take_succ_eq_append_getElem hk,List.all_append,hp];simp [h]
theorem zzT (t:DTide) (h:Hp) (ht:Enc.ok h t):Ct jV 192 [t.v] h fun v h'=>v=.bool (zzO (Con.con t))∧h'=h:=by
 have hp:=ht.2
 have hl:=hp.max
 rw [zzO,show (Con.con t).mean=t.mean from rfl,show (Con.con t).parts=t.parts.l from zzP _]
 refine zdn (fun A W=>by simp) Tryz.func192 rfl rfl (by simp) fun W0=>?_
 repeat' first|refine Wa ?_|refine zhF (fun _=>zzl _ _ _ _) ?_|(simp only [go_sem,jq,jj,jy,jv,jk,jx];try rfl)|refine Wb ?_|fail
 refine zc9 rfl (fun hc=>?_) (fun hc=>?_)
 ·refine Wk ?_
  congr 1
  rw [jQ] at hc
  rcases hc with hc|hc
  ·rw [Bool.not_eq_true'] at hc
   rw [In,hc];rfl
  ·rw [decide_eq_false (by have:=of_decide_eq_true hc;omega),Bool.and_false,Bool.false_and]
 obtain ⟨hc1,hc2⟩:=Bool.or_eq_false_iff.1 hc
 rw [Bool.not_eq_false'] at hc1
 have hc2:=of_decide_eq_false hc2
 refine Wk ?_
 refine zde (ι:=Nat) (fun k=>⟨[(16,true,.c (.v t.parts.val)),(17,true,.c (.v (.int .i64 t.parts.l.length))),(18,true,.c (.v (.int .i64 k)))],[],h,0⟩) (fun k=>k≤t.parts.l.length∧(t.parts.l.take k).all zzB=true) (fun k=>t.parts.l.length - k) 0 ⟨Nat.zero_le _,rfl⟩ ?_ ?_
 ·refine Evs ?_
  exact Gk
 intro k hk
 refine Wk ?_
 refine zc9 rfl (fun hd=>?_) (fun hd=>?_)
 ·have hlt:=zjH hd
  repeat' first|refine Wa ?_|refine zhF (fun _=>zzD _ _ (hp.el hlt)) ?_|(simp only [go_sem,jq,jj,jy,jv,jk,jx,zk4 hp hlt,hp.some hlt,hlt,jW];try rfl)|refine Wb ?_|fail
  refine zc9 rfl (fun hq=>?_) (fun hq=>?_)
  ·rw [Bool.not_eq_true'] at hq
   refine Wk ?_
   rw [zzQ hlt hq,Bool.and_false]
  ·rw [Bool.not_eq_false'] at hq
   refine Wk ?_
   exact ⟨k+1,⟨hlt,zzR hlt hk.2 hq⟩,by omega,zjB (zjA hlt (by omega))⟩
 ·have hge:=zjI hd
  refine Wk ?_
  have:=hk.2
  rw [List.take_of_length_le hge] at this
  rw [this,In,hc1,decide_eq_true (show t.parts.l.length≤4 by omega)];rfl
def dS:DSurge:=⟨0,0,0⟩
def zzU (l:List DSurge) (i:Nat):Bool:=zzE (l.getD i dS) && !(decide (0 < (i:Int)) && decide ((l.getD i dS).src≤(l.getD (i - 1) dS).src))
def zzV (f:zOu):Bool:=zzO f.tide && In (f.surges.length:Int) 1 6 && decide ((f.surges.getD 0 dS).src=0) && decide (∀ i,i < f.surges.length→zzU f.surges i=true)
theorem zzW (s:Sl DSurge):Con.con s=s.l:=List.map_id _
theorem sget {l:List DSurge} {i:Nat} (hi:i < l.length):l.getD i dS=l[i]:=by simp [List.getD_eq_getElem?_getD,hi]
theorem zzY (f:DForecast) (h:Hp) (hf:Enc.ok h f):Ct jV 145 [f.v] h fun v h'=>v=.bool (zzV (Con.con f))∧h'=h:=by
 have hp:=hf.2
 have hl:=hp.max
 rw [zzV,show (Con.con f).tide=Con.con f.tide from rfl,show (Con.con f).surges=f.surges.l from zzW _]
 refine zdn (fun A W=>by simp) Tryz.func145 rfl rfl (by simp) fun W0=>?_
 by_cases h0:0 < f.surges.l.length
 ·have hs0:=hp.some h0
  have hf0:(0 < (f.surges.l.length:Int))=True:=eq_true (by omega)
  have hs1:=(zmR hp h0).1
  simp only [go_sem,Nat.zero_mul] at hs1
  repeat' first|refine Wa ?_|refine zhF (fun _=>zzT _ _ hf.1) ?_|refine zhF (fun _=>zzl _ _ _ _) ?_|(simp only [go_sem,jq,jj,jy,jv,jk,jx,hf0,hs0,hs1,Int.toNat_zero,Nat.zero_mul,Int.le_refl,implies_true,true_and,and_true];try rfl)|refine Wb ?_|fail
  refine zc9 rfl (fun hc=>?_) (fun hc=>?_)
  ·refine Wk ?_
   congr 1
   simp only [jQ,Bool.not_eq_true'] at hc
   rcases hc with (hc|hc)|hc
   ·rw [hc];rfl
   ·rw [In,hc,Bool.and_false];rfl
   ·rw [sget h0,decide_eq_false (by simpa using hc),Bool.and_false,Bool.false_and]
  simp only [jp,Bool.not_eq_false'] at hc
  obtain ⟨⟨hc1,hc2⟩,hc3⟩:=hc
  have hc3:=zjE hc3
  have hpre:(zzO (Con.con f.tide) && In (f.surges.l.length:Int) 1 6 && decide ((f.surges.l.getD 0 dS).src=0))=true:=by rw [hc1,In,hc2,sget h0,decide_eq_true hc3];rfl
  rw [hpre,Bool.true_and]
  refine Wk ?_
  refine zde (ι:=Nat) (fun k=>⟨[(1,true,.c (.p 0 0)),(25,true,.c (.v f.surges.val)),(26,true,.c (.v (.int .i64 f.surges.l.length))),(27,true,.c (.v (.int .i64 k)))],[(0,.box 49 [.v (.int .i64 f.tide.mean),.v f.tide.parts.val,.v f.surges.val])],h,1⟩) (fun k=>k≤f.surges.l.length∧∀ i,i < k→zzU f.surges.l i=true) (fun k=>f.surges.l.length - k) 0 ⟨Nat.zero_le _,fun i hi=>absurd hi (Nat.not_lt_zero _)⟩ ?_ ?_
  ·refine Evs ?_
   exact Gk
  intro k hk
  refine Wk ?_
  refine zc9 rfl (fun hd=>?_) (fun hd=>?_)
  ·have hlt:=zjH hd
   have fin:∀ b:Bool,b=zzU f.surges.l k→(b=false→decide (∀ i,i < f.surges.l.length→zzU f.surges.l i=true)=false)∧(b=true→∀ i,i < k+1→zzU f.surges.l i=true):=by
    rintro b rfl
    refine ⟨fun e=>decide_eq_false fun hh=>(by rw [hh k hlt] at e;cases e),fun e i hi=>?_⟩
    rcases Nat.lt_succ_iff_lt_or_eq.1 hi with hi|rfl
    ·exact hk.2 i hi
    ·exact e
   have hsg:=sget hlt
   rcases Nat.eq_zero_or_pos k with hz|hz
   ·have hfk:(0 < (k:Int))=False:=eq_false (by omega)
    repeat' first|refine Wa ?_|(simp only [go_sem,jq,jj,jy,jv,jk,jx,zk9 hp hlt,hp.some hlt,hlt,jW];try rfl)|refine Wb ?_|fail
    refine ziV rfl ?_
    refine zi3 [0] rfl (by kernel_rfl) ?_
    refine Evs ?_
    refine ziT [1] (by kernel_rfl) (by kernel_rfl) ?_
    refine Evs ?_
    refine zhF (fun _=>zzG _ _) ?_
    refine Evs ?_
    refine zi3 [2,3,4,5,6,7,8,9,10,11,12,13,14,15,16,17,18] rfl (by kernel_rfl) ?_
    simp only [go_sem,jq,jj,jy,jv,jk,jx,hfk,decide_false,Bool.and_false,Bool.false_and,Bool.or_false,Bool.false_eq_true,false_implies,implies_true,true_and,reduceCtorEq]
    refine ziU (by kernel_rfl) ?_
    refine Wk ?_
    refine zc9 rfl (fun hq=>?_) (fun hq=>?_)
    ·refine Wk ?_
     rw [(fin (zzE f.surges.l[k]) (by rw [zzU,hsg];simp only [hfk,decide_false,Bool.false_and,Bool.not_false,Bool.and_true])).1 (by simpa using hq)]
    ·refine Wk ?_
     exact ⟨k+1,⟨hlt,(fin (zzE f.surges.l[k]) (by rw [zzU,hsg];simp only [hfk,decide_false,Bool.false_and,Bool.not_false,Bool.and_true])).2 (by simpa using hq)⟩,by omega,zjB (zjA hlt (by omega))⟩
   ·have hfk:(0 < (k:Int))=True:=eq_true (by omega)
    have hk1:k - 1 < f.surges.l.length:=by omega
    have hw:IntKind.i64.wrap ((k:Int) - 1)=((k - 1:Nat):Int):=by rw [zjz (by omega)];omega
    repeat' first|refine Wa ?_|(simp only [go_sem,jq,jj,jy,jv,jk,jx,zk9 hp hlt,hp.some hlt,hlt,jW];try rfl)|refine Wb ?_|fail
    refine ziV rfl ?_
    refine zi3 [0] rfl (by kernel_rfl) ?_
    refine Evs ?_
    refine ziT [1] (by kernel_rfl) (by kernel_rfl) ?_
    refine Evs ?_
    refine zhF (fun _=>zzG _ _) ?_
    refine Evs ?_
    refine zi3 [2,3,4,5,6,7,8,9,10,11,12,13,14,15,16,17,18] rfl (by kernel_rfl) ?_
    simp only [go_sem,jq,jj,jy,jv,jk,jx,hfk,hw,zmR hp hk1,hp.some hk1,hk1,jW,decide_true,and_true,imp_self,implies_true,true_and,Bool.true_and,Bool.and_true]
    refine ziU (by kernel_rfl) ?_
    refine Wk ?_
    refine zc9 rfl (fun hq=>?_) (fun hq=>?_)
    ·refine Wk ?_
     rw [(fin _ rfl).1 ?_]
     rw [zzU,sget hlt,sget hk1]
     rcases (jQ _ _).mp hq with h1|h1
     ·rw [Bool.not_eq_true'] at h1
      rw [h1];rfl
     ·rw [decide_eq_true (show 0 < (k:Int) by omega),decide_eq_true (of_decide_eq_true h1),Bool.and_self,Bool.not_true,Bool.and_false]
    ·refine Wk ?_
     refine ⟨k+1,⟨hlt,(fin _ rfl).2 ?_⟩,by omega,zjB (zjA hlt (by omega))⟩
     rw [zzU,sget hlt,sget hk1]
     obtain ⟨h1,h2⟩:=Bool.or_eq_false_iff.1 hq
     rw [Bool.not_eq_false'] at h1
     rw [h1,decide_eq_false (of_decide_eq_false h2),Bool.and_false];rfl
  ·have hge:=zjI hd
   refine Wk ?_
   exact zjG (fun i hi=>hk.2 i (by omega))
 ·have h1f:(1≤(f.surges.l.length:Int))=False:=eq_false (by omega)
  repeat' first|refine Wa ?_|refine zhF (fun _=>zzT _ _ hf.1) ?_|refine zhF (fun _=>zzl _ _ _ _) ?_|(simp only [go_sem,jq,jj,jy,jv,jk,jx,h1f,decide_false,Bool.false_and,Bool.not_false,Bool.or_true,reduceCtorEq,false_implies,true_and];try rfl)|refine Wb ?_|fail
  refine zc9 rfl (fun hc=>?_) (fun hc=>?_)
  ·refine Wk ?_
   congr 1
   simp only [In,h1f,decide_false,Bool.false_and,Bool.and_false]
  ·simp at hc
def dP:DPoint:=⟨ByteArray.empty,false⟩
def dG:DSegment:=⟨0,0,0,0,false⟩
theorem pget {l:List DPoint} {i:Nat} (hi:i < l.length):l.getD i dP=l[i]:=by simp [List.getD_eq_getElem?_getD,hi]
theorem gget {l:List DSegment} {i:Nat} (hi:i < l.length):l.getD i dG=l[i]:=by simp [List.getD_eq_getElem?_getD,hi]
def zzZ (l:List DPoint) (n:ByteArray):Int:=zzL (fun p=>decide (p.name=n)) l
theorem zz0 (s:Sl DPoint):Con.con s=s.l:=List.map_id _
theorem zz1 (s:Sl DSegment):Con.con s=s.l:=List.map_id _
theorem zz2 (s:Sl DShip):Con.con s=s.l:=List.map_id _
def zz3 (s:DSegment) (a b:Int):Bool:=decide (s.a=a) && decide (s.b=b) || decide (s.a=b) && decide (s.b=a)
theorem zz5 (s:DSegment) (a b:Int) (h:Hp):Ct jV 196 [s.v,.int .i64 a,.int .i64 b] h fun v h'=>v=.bool (zz3 s a b)∧h'=h:=by
 refine zdn (fun A W=>by simp) Tryz.func196 rfl rfl (by simp) fun W0=>?_
 exact Wk0
def ptOk (l:List DPoint) (i:Nat):Bool:=zzI (l.getD i dP).name && decide (zzZ l (l.getD i dP).name=(i:Int))
def zz6 (n:Nat) (s:DSegment):Bool:=decide (0≤s.a∧s.a < n∧0≤s.b∧s.b < n∧s.a ≠ s.b∧0≤s.depth∧s.depth≤3000∧1≤s.minutes∧s.minutes≤240)
def zz7 (l:List DSegment) (i:Nat):Bool:=decide (∀ j,j < i→zz3 (l.getD j dG) (l.getD i dG).a (l.getD i dG).b=false)
def zz8 (n:Nat) (l:List DSegment) (i:Nat):Bool:=zz6 n (l.getD i dG) && zz7 l i
def zz9 (c:zOv):Bool:=decide (c.points.length≤8) && decide (c.segments.length≤10) && decide (∀ i,i < c.points.length→ptOk c.points i=true) && decide (∀ i,i < c.segments.length→zz8 c.points.length c.segments i=true)
theorem zAa (c:DChart):zz9 (Con.con c)=(decide (c.points.l.length≤8) && decide (c.segments.l.length≤10) && decide (∀ i,i < c.points.l.length→ptOk c.points.l i=true) && decide (∀ i,i < c.segments.l.length→zz8 c.points.l.length c.segments.l i=true)):=by
 rw [zz9,show (Con.con c).points=c.points.l from zz0 _,show (Con.con c).segments=c.segments.l from zz1 _]
theorem zAb {p:Nat→Bool} {n k:Nat} (hk:k < n) (h:p k=false):decide (∀ i,i < n→p i=true)=false:=decide_eq_false fun hh=>by rw [hh k hk] at h;cases h
theorem zAc {p:Nat→Bool} {k:Nat} (hp:∀ i,i < k→p i=true) (h:p k=true):∀ i,i < k+1→p i=true:=fun i hi=>by
 rcases Nat.lt_succ_iff_lt_or_eq.1 hi with hi|rfl
 ·exact hp i hi
 ·exact h
theorem zAd {p:Nat→Bool} {n k:Nat} (hk:n≤k) (hp:∀ i,i < k→p i=true):decide (∀ i,i < n→p i=true)=true:=decide_eq_true fun i hi=>hp i (by omega)
theorem zAe {p:Nat→Bool}:∀ i,i < 0→p i=true:=fun i hi=>absurd hi (Nat.not_lt_zero _)
theorem zAg (c:DChart) (n:ByteArray) (h:Hp) (hc:Enc.ok h c):Ct jV 195 [c.v,.string n] h fun v h'=>v=.int .i64 (zzZ c.points.l n)∧h'=h:=by
 have hp:=hc.1
 have hl:=hp.max
 refine zdn (fun A W=>by simp) Tryz.func195 rfl rfl (by simp) fun W0=>?_
 refine Wk ?_
 refine zde (ι:=Nat) (fun k=>⟨[(1,true,.c (.v (.string n))),(8,true,.c (.v c.points.val)),(9,true,.c (.v (.int .i64 c.points.l.length))),(10,true,.c (.v (.int .i64 k)))],[],h,1⟩) (fun k=>k≤c.points.l.length∧∀ i (hi:i < c.points.l.length),i < k→(decide (c.points.l[i].name=n))=false) (fun k=>c.points.l.length - k) 0 ⟨Nat.zero_le _,fun i _ hi=>absurd hi (Nat.not_lt_zero _)⟩ ?_ ?_
 ·refine Evs ?_
  exact Gk
 intro k hk
 refine Wk ?_
 refine zc9 rfl (fun hd=>?_) (fun hd=>?_)
 ·have hlt:=zjH hd
  repeat' first|refine Wa ?_|(simp (maxSteps:=2000000) only [go_sem,jq,jj,jy,jv,jk,jx,zlf hp hlt,hp.some hlt,hlt,jW];try rfl)|refine Wb ?_|fail
  refine zc9 rfl (fun hq=>?_) (fun hq=>?_)
  ·refine Wk ?_
   rw [zzZ,zzM hlt hq hk.2]
  ·refine Wk ?_
   refine ⟨k+1,⟨hlt,fun i hi hik=>?_⟩,by omega,zjB (zjA hlt (by omega))⟩
   rcases Nat.lt_succ_iff_lt_or_eq.1 hik with hik|rfl
   ·exact hk.2 i hi hik
   ·exact hq
 ·have hge:=zjI hd
  refine Wk ?_
  rw [zzZ,zzN (fun i hi=>hk.2 i hi (by omega))]
theorem zAi (c:DChart) (h:Hp) (hc:Enc.ok h c):Ct jV 146 [c.v] h fun v h'=>v=.bool (zz9 (Con.con c))∧h'=h:=by
 have hp:=hc.1
 have hg:=hc.2
 have hl:=hp.max
 have hl2:=hg.max
 have hw:IntKind.i64.wrap ((c.points.l.length:Int) - 1)=(c.points.l.length:Int) - 1:=zjz (by omega)
 rw [zAa]
 refine zdn (fun A W=>by simp) Tryz.func146 rfl rfl (by simp) fun W0=>?_
 refine Wk ?_
 refine zc9 rfl (fun hc1=>?_) (fun hc1=>?_)
 ·refine Wk ?_
  congr 1
  rcases (jQ _ _).mp hc1 with h1|h1
  ·rw [decide_eq_false (by have:=of_decide_eq_true h1;omega)];rfl
  ·rw [decide_eq_false (p:=c.segments.l.length≤10) (by have:=of_decide_eq_true h1;omega),Bool.and_false];rfl
 obtain ⟨hc2,hc3⟩:=Bool.or_eq_false_iff.1 hc1
 have hc2:=of_decide_eq_false hc2
 have hc3:=of_decide_eq_false hc3
 rw [decide_eq_true (show c.points.l.length≤8 by omega),decide_eq_true (show c.segments.l.length≤10 by omega),Bool.and_self,Bool.true_and]
 refine Wk ?_
 refine zde (ι:=Nat) (fun k=>⟨[(1,true,.c (.p 0 0)),(20,true,.c (.v c.points.val)),(21,true,.c (.v (.int .i64 c.points.l.length))),(22,true,.c (.v (.int .i64 k)))],[(0,.box 53 [.v c.points.val,.v c.segments.val])],h,1⟩) (fun k=>k≤c.points.l.length∧∀ i,i < k→ptOk c.points.l i=true) (fun k=>c.points.l.length - k) 0 ⟨Nat.zero_le _,zAe⟩ ?_ ?_
 ·refine Evs ?_
  exact Gk
 ·intro k hk
  refine Wk ?_
  refine zc9 rfl (fun hd=>?_) (fun hd=>?_)
  ·have hlt:=zjH hd
   repeat' first|refine Wa ?_|refine zhF (fun _=>zzK _ _ (hp.el hlt)) ?_|refine zhF (fun _=>zAg c _ _ hc) ?_|(simp (maxSteps:=2000000) only [go_sem,jq,jj,jy,jv,jk,jx,zlf hp hlt,hp.some hlt,hlt,jW];try rfl)|refine Wb ?_|fail
   refine zc9 rfl (fun hq=>?_) (fun hq=>?_)
   ·refine Wk ?_
    rw [zAb hlt ?_];rfl
    rw [ptOk,pget hlt]
    rcases (jQ _ _).mp hq with h1|h1
    ·rw [Bool.not_eq_true'] at h1;rw [h1];rfl
    ·rw [decide_eq_false (zjD h1),Bool.and_false]
   ·obtain ⟨h1,h2⟩:=Bool.or_eq_false_iff.1 hq
    rw [Bool.not_eq_false'] at h1
    refine Wk ?_
    exact ⟨k+1,⟨hlt,zAc hk.2 (by rw [ptOk,pget hlt,h1,decide_eq_true (zjE h2)];rfl)⟩,by omega,zjB (zjA hlt (by omega))⟩
  ·have hge:=zjI hd
   rw [zAd hge hk.2,Bool.true_and]
   refine Wk ?_
   refine zde (ι:=Nat) (fun k=>⟨[(1,true,.c (.p 0 0)),(41,true,.c (.v c.segments.val)),(42,true,.c (.v (.int .i64 c.segments.l.length))),(43,true,.c (.v (.int .i64 k)))],[(0,.box 53 [.v c.points.val,.v c.segments.val])],h,1⟩) (fun k=>k≤c.segments.l.length∧∀ i,i < k→zz8 c.points.l.length c.segments.l i=true) (fun k=>c.segments.l.length - k) 0 ⟨Nat.zero_le _,zAe⟩ ?_ ?_
   ·refine Evs ?_
    exact Gk
   intro k hk
   refine Wk ?_
   refine zc9 rfl (fun hd=>?_) (fun hd=>?_)
   ·have hlt:=zjH hd
    repeat' first|refine Wa ?_|refine zhF (fun _=>zzn _ _ _) ?_|refine zhF (fun _=>zzl _ _ _ _) ?_|(simp (maxSteps:=2000000) only [go_sem,jq,jj,jy,jv,jk,jx,zlh hg hlt,hg.some hlt,hlt,jW];try rfl)|refine Wb ?_|fail
    refine zc9 rfl (fun hq=>?_) (fun hq=>?_)
    ·refine Wk ?_
     rw [zAb hlt ?_]
     rw [zz8,gget hlt,zz6,decide_eq_false ?_,Bool.false_and]
     simp only [jQ,Bool.not_eq_true',Bool.and_eq_false_iff,decide_eq_false_iff_not,beq_iff_eq] at hq
     omega
    ·have hin:zz6 c.points.l.length c.segments.l[k]=true:=by
      simp only [jp,Bool.not_eq_false',jJ,decide_eq_true_eq,beq_eq_false_iff_ne] at hq
      rw [zz6]
      refine decide_eq_true ?_
      omega
     have hgo:=Sl.to_ok hg k
     have hlt0:=Sl.to_len hk.1
     have hcap:=hg.1
     refine Wk ?_
     refine ⟨by omega,?_⟩
     simp only [Int.toNat_zero,Nat.sub_zero,Nat.zero_mul,zx1,zx2,ite_self]
     rw [zx3 hk.1]
     refine Wk ?_
     refine zde (ι:=Nat) (fun j=>⟨[(1,true,.c (.p 0 0)),(6,true,.c (.p 1 0)),(41,true,.c (.v c.segments.val)),(42,true,.c (.v (.int .i64 c.segments.l.length))),(43,true,.c (.v (.int .i64 k))),(86,true,.c (.v (c.segments.to k).val)),(87,true,.c (.v (.int .i64 k))),(88,true,.c (.v (.int .i64 j)))],[(0,.box 53 [.v c.points.val,.v c.segments.val]),(1,.box 231 [.v (.int .i64 c.segments.l[k].a),.v (.int .i64 c.segments.l[k].b),.v (.int .i64 c.segments.l[k].depth),.v (.int .i64 c.segments.l[k].minutes),.v (.bool c.segments.l[k].meet)])],h,2⟩) (fun j=>j≤k∧∀ i,i < j→zz3 (c.segments.l.getD i dG) c.segments.l[k].a c.segments.l[k].b=false) (fun j=>k - j) 0 ⟨Nat.zero_le _,fun i hi=>absurd hi (Nat.not_lt_zero _)⟩ ?_ ?_
     ·refine Evs ?_
      exact Gk
     intro j hj
     refine Wk ?_
     refine zc9 rfl (fun hq2=>?_) (fun hq2=>?_)
     ·have hltj:=zjH hq2
      have hltj':j < (c.segments.to k).l.length:=by omega
      have hltj2:j < c.segments.l.length:=by omega
      have hje:=Sl.to_get hltj' hltj2
      repeat' first|refine Wa ?_|refine zhF (fun _=>zz5 _ _ _ _) ?_|(simp (maxSteps:=2000000) only [go_sem,jq,jj,jy,jv,jk,jx,zlh hgo hltj',hgo.some hltj',hltj',hltj,jW,hje];try rfl)|refine Wb ?_|fail
      refine zc9 rfl (fun hq3=>?_) (fun hq3=>?_)
      ·refine Wk ?_
       rw [zAb hlt ?_]
       rw [zz8,gget hlt,hin,Bool.true_and,zz7]
       refine decide_eq_false fun hh=>?_
       have:=hh j hltj
       rw [gget hltj2,gget hlt,hq3] at this
       cases this
      ·refine Wk ?_
       exact ⟨j+1,⟨hltj,fun i hi=>by
        rcases Nat.lt_succ_iff_lt_or_eq.1 hi with hi|rfl
        ·exact hj.2 i hi
        ·rw [gget hltj2];exact hq3⟩,by omega,zjB (zjA hltj (by omega))⟩
     ·have hgej:=zjI hq2
      refine Wk ?_
      refine ⟨k+1,⟨hlt,zAc hk.2 ?_⟩,by omega,zjB (zjA hlt (by omega))⟩
      rw [zz8,gget hlt,hin,Bool.true_and,zz7]
      refine decide_eq_true fun i hi=>?_
      rw [gget hlt];exact hj.2 i (by omega)
   ·have hge:=zjI hd
    refine Wk ?_
    rw [zAd hge hk.2]
def dH:DShip:=⟨ByteArray.empty,0,0,0,0,false⟩
theorem hget {l:List DShip} {i:Nat} (hi:i < l.length):l.getD i dH=l[i]:=by simp [List.getD_eq_getElem?_getD,hi]
def zAj (l:List DShip) (n:ByteArray):Int:=zzL (fun p=>decide (p.name=n)) l
def zAk (s:DShip):Bool:=zzI s.name && In s.length 10 400 && In s.draught 100 2000 && In s.line 0 3 && In s.tugs 0 4
def shOk (l:List DShip) (i:Nat):Bool:=zAk (l.getD i dH) && decide (zAj l (l.getD i dH).name=(i:Int))
def zAl (l:List DShip):Bool:=decide (l.length≤6) && decide (∀ i,i < l.length→shOk l i=true)
def zAm (r:DRegime):Bool:=In r.gap 0 60
def zAn (l:List Int):Bool:=decide (l.length=64) && l.all (fun n=>In n 0 240)
def zAo (w:zOs):Bool:=In w.tugs 0 12 && In w.pilots 0 12 && (In w.rest 0 2880 && zAn w.moves)
def zAp (x:zOw):Bool:=zzV x.forecast && zz9 x.chart && zAl x.fleet && zAm x.regime && zAo x.crew
theorem zAu (c:Sl DShip) (n:ByteArray) (h:Hp) (hp:c.Ok h):Ct jV 198 [c.val,.string n] h fun v h'=>v=.int .i64 (zAj c.l n)∧h'=h:=by
 have hl:=hp.max
 refine zdn (fun A W=>by simp) Tryz.func198 rfl rfl (by simp) fun W0=>?_
 refine Wk ?_
 refine zde (ι:=Nat) (fun k=>⟨[(1,true,.c (.v (.string n))),(7,true,.c (.v c.val)),(8,true,.c (.v (.int .i64 c.l.length))),(9,true,.c (.v (.int .i64 k)))],[],h,1⟩) (fun k=>k≤c.l.length∧∀ i (hi:i < c.l.length),i < k→(decide (c.l[i].name=n))=false) (fun k=>c.l.length - k) 0 ⟨Nat.zero_le _,fun i _ hi=>absurd hi (Nat.not_lt_zero _)⟩ ?_ ?_
 ·refine Evs ?_
  exact Gk
 intro k hk
 refine Wk ?_
 refine zc9 rfl (fun hd=>?_) (fun hd=>?_)
 ·have hlt:=zjH hd
  repeat' first|refine Wa ?_|(simp only [go_sem,jq,jj,jy,jv,jk,jx,zln hp hlt,hp.some hlt,hlt,jW];try rfl)|refine Wb ?_|fail
  refine zc9 rfl (fun hq=>?_) (fun hq=>?_)
  ·refine Wk ?_
   rw [zAj,zzM hlt hq hk.2]
  ·refine Wk ?_
   refine ⟨k+1,⟨hlt,fun i hi hik=>?_⟩,by omega,zjB (zjA hlt (by omega))⟩
   rcases Nat.lt_succ_iff_lt_or_eq.1 hik with hik|rfl
   ·exact hk.2 i hi hik
   ·exact hq
 ·have hge:=zjI hd
  refine Wk ?_
  rw [zAj,zzN (fun i hi=>hk.2 i hi (by omega))]
theorem zAv (s:DShip) (h:Hp) (hs:Enc.ok h s):Ct jV 197 [s.v] h fun v h'=>v=.bool (zAk s)∧h'=h:=by
 refine zdn (fun A W=>by simp) Tryz.func197 rfl rfl (by simp) fun W0=>?_
 repeat' first|refine Wa ?_|refine zhF (fun _=>zzK _ _ hs.1) ?_|refine zhF (fun _=>zzl _ _ _ _) ?_|refine zhF (fun _=>zzn _ _ _) ?_|(simp only [go_sem,jq,jj,jy,jv,jk,jx];try rfl)|refine Wb ?_|fail
 congr 1;rw [Bool.eq_iff_iff];simp only [zAk,In,jJ,jQ,Bool.not_eq_true',decide_eq_true_eq,decide_eq_false_iff_not,beq_iff_eq,and_assoc]
 constructor <;> intro hh <;> (refine ⟨hh.1,?_⟩;omega)
theorem zAw (c:Sl DShip) (h:Hp) (hp:c.Ok h):Ct jV 147 [c.val] h fun v h'=>v=.bool (zAl c.l)∧h'=h:=by
 have hl:=hp.max
 rw [zAl]
 refine zdn (fun A W=>by simp) Tryz.func147 rfl rfl (by simp) fun W0=>?_
 refine Wk ?_
 refine zc9 rfl (fun hc=>?_) (fun hc=>?_)
 ·refine Wk ?_
  rw [decide_eq_false (by have:=of_decide_eq_true hc;omega)];rfl
 rw [decide_eq_true (show c.l.length≤6 by have:=of_decide_eq_false hc;omega),Bool.true_and]
 refine Wk ?_
 refine zde (ι:=Nat) (fun k=>⟨[(0,true,.c (.v c.val)),(8,true,.c (.v c.val)),(9,true,.c (.v (.int .i64 c.l.length))),(10,true,.c (.v (.int .i64 k)))],[],h,0⟩) (fun k=>k≤c.l.length∧∀ i,i < k→shOk c.l i=true) (fun k=>c.l.length - k) 0 ⟨Nat.zero_le _,zAe⟩ ?_ ?_
 ·refine Evs ?_
  exact Gk
 intro k hk
 refine Wk ?_
 refine zc9 rfl (fun hd=>?_) (fun hd=>?_)
 ·have hlt:=zjH hd
  repeat' first|refine Wa ?_|refine zhF (fun _=>zAv _ _ (hp.el hlt)) ?_|refine zhF (fun _=>zAu c _ _ hp) ?_|(simp only [go_sem,jq,jj,jy,jv,jk,jx,zln hp hlt,hp.some hlt,hlt,jW];try rfl)|refine Wb ?_|fail
  refine zc9 rfl (fun hq=>?_) (fun hq=>?_)
  ·refine Wk ?_
   rw [zAb hlt ?_]
   rw [shOk,hget hlt]
   rcases (jQ _ _).mp hq with h1|h1
   ·rw [Bool.not_eq_true'] at h1;rw [h1];rfl
   ·rw [decide_eq_false (zjD h1),Bool.and_false]
  ·obtain ⟨h1,h2⟩:=Bool.or_eq_false_iff.1 hq
   rw [Bool.not_eq_false'] at h1
   refine Wk ?_
   exact ⟨k+1,⟨hlt,zAc hk.2 (by rw [shOk,hget hlt,h1,decide_eq_true (zjE h2)];rfl)⟩,by omega,zjB (zjA hlt (by omega))⟩
 ·have hge:=zjI hd
  refine Wk ?_
  rw [zAd hge hk.2]
theorem zAx (s:DRegime) (h:Hp):Ct jV 148 [s.v] h fun v h'=>v=.bool (zAm s)∧h'=h:=by
 refine zdn (fun A W=>by simp) Tryz.func148 rfl rfl (by simp) fun W0=>?_
 repeat' first|refine Wa ?_|refine zhF (fun _=>zzl _ _ _ _) ?_|(simp only [go_sem,jq,jj,jy,jv,jk,jx];try rfl)|refine Wb ?_|fail
theorem zAy {l:List Int} {k:Nat} (hk:k < l.length) (h:In l[k] 0 240=false):zAn l=false:=by rw [zAn,zzQ (p:=fun n=>In n 0 240) hk h,Bool.and_false]
theorem zAz {l:List Int} {k:Nat} (h64:l.length=64) (hk:l.length≤k) (hp:(l.take k).all (fun n=>In n 0 240)=true):zAn l=true:=by
 rw [List.take_of_length_le hk] at hp
 rw [zAn,hp,decide_eq_true h64];rfl
theorem zAB (a:Sl Int) (h:Hp) (ha:a.Ok h):Ct jV 199 [a.val] h fun v h'=>v=.bool (zAn a.l)∧h'=h:=by
 have hl:=ha.max
 refine zdn (fun A W=>by simp) Tryz.func199 rfl rfl (by simp) fun W0=>?_
 refine Wk ?_
 refine zc9 rfl (fun hc=>?_) (fun hc=>?_)
 ·refine Wk ?_
  rw [zAn,decide_eq_false (by have:=zjD hc;omega)];rfl
 have h64:a.l.length=64:=by have:=zjE hc;omega
 refine Wk ?_
 refine zde (ι:=Nat) (fun k=>⟨[(8,true,.c (.v a.val)),(9,true,.c (.v (.int .i64 a.l.length))),(10,true,.c (.v (.int .i64 k)))],[],h,0⟩) (fun k=>k≤a.l.length∧(a.l.take k).all (fun n=>In n 0 240)=true) (fun k=>a.l.length - k) 0 ⟨Nat.zero_le _,rfl⟩ ?_ ?_
 ·refine Evs ?_
  exact Gk
 intro k hk
 refine Wk ?_
 refine zc9 rfl (fun hd=>?_) (fun hd=>?_)
 ·have hlt:=zjH hd
  repeat' first|refine Wa ?_|refine zhF (fun _=>zzl _ _ _ _) ?_|(simp only [go_sem,jq,jj,jy,jv,jk,jx,zkR ha hlt,ha.some hlt,hlt,jW];try rfl)|refine Wb ?_|fail
  refine zc9 rfl (fun hq=>?_) (fun hq=>?_)
  ·rw [Bool.not_eq_true'] at hq
   refine Wk ?_
   rw [zAy hlt hq]
  ·rw [Bool.not_eq_false'] at hq
   refine Wk ?_
   exact ⟨k+1,⟨hlt,zzR hlt hk.2 hq⟩,by omega,zjB (zjA hlt (by omega))⟩
 ·have hge:=zjI hd
  refine Wk ?_
  rw [zAz h64 hge hk.2]
theorem zAC (w:DCrew):zAo (Con.con w)=(In w.tugs 0 12 && In w.pilots 0 12 && (In w.rest 0 2880 && zAn w.moves.l)):=by
 rw [zAo,show (Con.con w).moves=w.moves.l from con_ints];rfl
theorem zAE (w:DCrew) (h:Hp) (hw:Enc.ok h w):Ct jV 149 [w.v] h fun v h'=>v=.bool (zAo (Con.con w))∧h'=h:=by
 rw [zAC]
 refine zdn (fun A W=>by simp) Tryz.func149 rfl rfl (by simp) fun W0=>?_
 repeat' first|refine Wa ?_|refine zhF (fun _=>zzl _ _ _ _) ?_|refine zhF (fun _=>zzm _ _) ?_|refine zhF (fun _=>zAB _ _ hw.2.2.2) ?_|(simp only [go_sem,jq,jj,jy,jv,jk,jx];try rfl)|refine Wb ?_|fail
 congr 1;rw [Bool.eq_iff_iff];simp only [In,jJ,jQ,Bool.not_eq_true',decide_eq_true_eq,decide_eq_false_iff_not,beq_iff_eq,and_assoc]
theorem zAF (x:DHarbour):zAp (Con.con x)=(zzV (Con.con x.forecast) && zz9 (Con.con x.chart) && zAl x.fleet.l && zAm x.regime && zAo (Con.con x.crew)):=by
 rw [zAp,show (Con.con x).fleet=x.fleet.l from zz2 _];rfl
theorem zAH (x:DHarbour) (h:Hp) (hx:Enc.ok h x):Ct jV 99 [x.v] h fun v h'=>v=.bool (zAp (Con.con x))∧h'=h:=by
 obtain ⟨o1,o2,o3,o4,o5⟩:=hx
 rw [zAF]
 refine zdn (fun A W=>by simp) Tryz.func99 rfl rfl (by simp) fun W0=>?_
 repeat' first|refine Wa ?_|refine zhF (fun _=>zzY x.forecast _ o1) ?_|refine zhF (fun _=>zAi x.chart _ o2) ?_|refine zhF (fun _=>zAw _ _ o3) ?_|refine zhF (fun _=>zAx x.regime _) ?_|refine zhF (fun _=>zAE x.crew _ o5) ?_|(simp only [go_sem,jq,jj,jy,jv,jk,jx];try rfl)|refine Wb ?_|fail
def zAI (x:zOw) (a:DCall):Bool:=decide (0≤a.ship∧a.ship < x.fleet.length∧0≤a.src∧a.src < x.chart.points.length∧0≤a.dst∧a.dst < x.chart.points.length∧a.src ≠ a.dst∧0≤a.ready∧a.ready≤2880∧a.ready≤a.due∧a.due≤2880)
def zAJ (x:zOw) (a:DCall):Bool:=zAp x && zAI x a
theorem zAK (x:DHarbour) (a:DCall):zAI (Con.con x) a=decide (0≤a.ship∧a.ship < x.fleet.l.length∧0≤a.src∧a.src < x.chart.points.l.length∧0≤a.dst∧a.dst < x.chart.points.l.length∧a.src ≠ a.dst∧0≤a.ready∧a.ready≤2880∧a.ready≤a.due∧a.due≤2880):=by
 rw [zAI,show (Con.con x).fleet=x.fleet.l from zz2 _,show (Con.con x).chart.points=x.chart.points.l from zz0 _]
theorem zAL (x:DHarbour) (a:DCall) (h:Hp) (hx:Enc.ok h x):Ct jV 100 [x.v,a.v] h fun v h'=>v=.bool (zAI (Con.con x) a)∧h'=h:=by
 rw [zAK]
 refine zdn (fun A W=>by simp) Tryz.func100 rfl rfl (by simp) fun W0=>?_
 repeat' first|refine Wa ?_|refine zhF (fun _=>zzn _ _ _) ?_|refine zhF (fun _=>zzm _ _) ?_|refine zhF (fun _=>zzl _ _ _ _) ?_|(simp (maxSteps:=2000000) only [go_sem,jq,jj,jy,jv,jk,jx];try rfl)|refine Wb ?_|fail
 congr 1
 rw [Bool.eq_iff_iff]
 simp only [jJ,decide_eq_true_eq,Bool.not_eq_true',beq_eq_false_iff_ne,bne_iff_ne,ne_eq,and_assoc]
 skip
theorem zAM (x:DHarbour) (a:DCall) (h:Hp) (hx:Enc.ok h x) (ha:Enc.ok h a):Ct jV 152 [x.v,a.v] h fun v h'=>v=.bool (zAJ (Con.con x) (Con.con a))∧h'=h:=by
 rw [zAJ,show (Con.con a:DCall)=a from rfl]
 refine zdn (fun A W=>by simp) Tryz.func152 rfl rfl (by simp) fun W0=>?_
 repeat' first|refine Wa ?_|refine zhF (fun _=>zAH x _ hx) ?_|refine zhF (fun _=>zAL x a _ hx) ?_|(simp (maxSteps:=2000000) only [go_sem,jq,jj,jy,jv,jk,jx];try rfl)|refine Wb ?_|fail
def dC:DCall:=⟨0,0,0,0,0⟩
theorem cget {l:List DCall} {i:Nat} (hi:i < l.length):l.getD i dC=l[i]:=by simp [List.getD_eq_getElem?_getD,hi]
def zAO (l:List DCall) (i:Nat):Bool:=decide (∀ j,j < i→(l.getD j dC).ship ≠ (l.getD i dC).ship)
def clOk (x:zOw) (l:List DCall) (i:Nat):Bool:=zAI x (l.getD i dC) && zAO l i
def zAP (x:zOw) (l:List DCall):Bool:=zAp x && decide (l.length≤6) && decide (∀ i,i < l.length→clOk x l i=true)
theorem zAQ (s:Sl DCall):Con.con s=s.l:=List.map_id _
theorem zAS (x:DHarbour) (a:Sl DCall) (h:Hp) (hx:Enc.ok h x) (ha:Enc.ok h a):Ct jV 45 [x.v,a.val] h fun v h'=>v=.bool (zAP (Con.con x) (Con.con a))∧h'=h:=by
 have ha:a.Ok h:=ha
 have hl:=ha.max
 rw [zAP,zAQ]
 refine zdn (fun A W=>by simp) Tryz.func45 rfl rfl (by simp) fun W0=>?_
 repeat' first|refine Wa ?_|refine zhF (fun _=>zAH x _ hx) ?_|(simp only [go_sem,jq,jj,jy,jv,jk,jx];try rfl)|refine Wb ?_|fail
 refine zc9 rfl (fun hc=>?_) (fun hc=>?_)
 ·refine Wk ?_
  congr 1
  rcases (jQ _ _).mp hc with h1|h1
  ·rw [Bool.not_eq_true'] at h1;rw [h1];rfl
  ·rw [decide_eq_false (p:=a.l.length≤6) (by have:=of_decide_eq_true h1;omega),Bool.and_false];rfl
 obtain ⟨hH,h6⟩:=Bool.or_eq_false_iff.1 hc
 rw [Bool.not_eq_false'] at hH
 rw [hH,decide_eq_true (show a.l.length≤6 by have:=of_decide_eq_false h6;omega),Bool.and_self,Bool.true_and]
 refine Wk ?_
 refine zde (ι:=Nat) (fun k=>⟨[(1,true,.c (.v a.val)),(2,true,.c (.p 0 0)),(17,true,.c (.v a.val)),(18,true,.c (.v (.int .i64 a.l.length))),(19,true,.c (.v (.int .i64 k)))],[(0,.box 58 [.v (.int .i64 x.forecast.tide.mean),.v x.forecast.tide.parts.val,.v x.forecast.surges.val,.v x.chart.points.val,.v x.chart.segments.val,.v x.fleet.val,.v (.int .i64 x.regime.gap),.v (.bool x.regime.noMeet),.v (.int .i64 x.crew.tugs),.v (.int .i64 x.crew.pilots),.v (.int .i64 x.crew.rest),.v x.crew.moves.val])],h,1⟩) (fun k=>k≤a.l.length∧∀ i,i < k→clOk (Con.con x) a.l i=true) (fun k=>a.l.length - k) 0 ⟨Nat.zero_le _,zAe ⟩ ?_ ?_
 ·refine Evs ?_
  exact Gk
 intro k hk
 refine Wk ?_
 refine zc9 rfl (fun hd=>?_) (fun hd=>?_)
 ·have hlt:=zjH hd
  have hge:=cget hlt
  repeat' first|refine Wa ?_|refine zhF (fun _=>zAL x _ _ hx) ?_|(simp only [go_sem,jq,jj,jy,jv,jk,jx,zkT ha hlt,ha.some hlt,hlt,jW];try rfl)|refine Wb ?_|fail
  refine zc9 rfl (fun hq=>?_) (fun hq=>?_)
  ·rw [Bool.not_eq_true'] at hq
   skip
   refine Wk ?_
   rw [zAb  hlt (by rw [clOk,hge,hq,Bool.false_and])]
  ·rw [Bool.not_eq_false'] at hq
   skip
   have hgo:=Sl.to_ok ha k
   have hlt0:=Sl.to_len hk.1
   have hcap:=ha.1
   refine Wk ?_
   refine ⟨by omega,?_⟩
   simp only [Int.toNat_zero,Nat.sub_zero,Nat.zero_mul,zx1,zx2,ite_self]
   rw [zx3 hk.1]
   refine Wk ?_
   refine zde (ι:=Nat) (fun j=>⟨[(1,true,.c (.v a.val)),(2,true,.c (.p 0 0)),(6,true,.c (.p 1 0)),(17,true,.c (.v a.val)),(18,true,.c (.v (.int .i64 a.l.length))),(19,true,.c (.v (.int .i64 k))),(30,true,.c (.v (a.to k).val)),(31,true,.c (.v (.int .i64 k))),(32,true,.c (.v (.int .i64 j)))],[(0,.box 58 [.v (.int .i64 x.forecast.tide.mean),.v x.forecast.tide.parts.val,.v x.forecast.surges.val,.v x.chart.points.val,.v x.chart.segments.val,.v x.fleet.val,.v (.int .i64 x.regime.gap),.v (.bool x.regime.noMeet),.v (.int .i64 x.crew.tugs),.v (.int .i64 x.crew.pilots),.v (.int .i64 x.crew.rest),.v x.crew.moves.val]),(1,.box 90 [.v (.int .i64 a.l[k].ship),.v (.int .i64 a.l[k].src),.v (.int .i64 a.l[k].dst),.v (.int .i64 a.l[k].ready),.v (.int .i64 a.l[k].due)])],h,2⟩) (fun j=>j≤k∧∀ i,i < j→(a.l.getD i dC).ship ≠ a.l[k].ship) (fun j=>k - j) 0 ⟨Nat.zero_le _,fun i hi=>absurd hi (Nat.not_lt_zero _)⟩ ?_ ?_
   ·refine Evs ?_
    exact Gk
   intro j hj
   refine Wk ?_
   refine zc9 rfl (fun hq2=>?_) (fun hq2=>?_)
   ·have hltj:=zjH hq2
    have hltj':j < (a.to k).l.length:=by omega
    have hltj2:j < a.l.length:=by omega
    have hje:=Sl.to_get hltj' hltj2
    repeat' first|refine Wa ?_|(simp only [go_sem,jq,jj,jy,jv,jk,jx,zkT hgo hltj',hgo.some hltj',hltj',hltj,jW,hje];try rfl)|refine Wb ?_|fail
    refine zc9 rfl (fun hq3=>?_) (fun hq3=>?_)
    ·have hq3:=eq_of_beq hq3
     refine Wk ?_
     rw [zAb  hlt ?_]
     rw [clOk,hge,hq,Bool.true_and,zAO]
     refine decide_eq_false fun hh=>hh j hltj ?_
     rw [cget hltj2,hge];omega
    ·have hq3:=beq_eq_false_iff_ne.1 hq3
     refine Wk ?_
     refine ⟨j+1,⟨hltj,fun i hi=>?_⟩,by omega,zjB (zjA hltj (by omega))⟩
     rcases Nat.lt_succ_iff_lt_or_eq.1 hi with hi|rfl
     ·exact hj.2 i hi
     ·rw [cget hltj2];omega
   ·have hgej:=zjI hq2
    refine Wk ?_
    refine ⟨k+1,⟨hlt,zAc  hk.2 ?_⟩,by omega,zjB (zjA hlt (by omega))⟩
    rw [clOk,hge,hq,Bool.true_and,zAO]
    refine decide_eq_true fun i hi=>?_
    rw [hge];exact hj.2 i (by omega)
 ·have hge:=zjI hd
  refine Wk ?_
  rw [zAd  hge hk.2]
def zAT (c:zOv) (p:DPassage):Int × Int:=if p.toward then ((c.segments.getD p.seg.toNat dG).a,(c.segments.getD p.seg.toNat dG).b) else ((c.segments.getD p.seg.toNat dG).b,(c.segments.getD p.seg.toNat dG).a)
def zAU (s:DShip) (g:DSegment):Int:=if s.slow then IntKind.i64.wrap (2 * g.minutes) else g.minutes
def zAV (c:zOv) (l:List DShip) (p:DPassage):Bool:=decide (0≤p.ship∧p.ship < l.length∧0≤p.seg∧p.seg < c.segments.length∧0≤p.start∧p.start≤2880∧p.fin≤2880) && decide (p.fin=IntKind.i64.wrap (p.start+zAU (l.getD p.ship.toNat dH) (c.segments.getD p.seg.toNat dG)))
def zAW (c:zOv) (l:List DShip) (p:DPassage):Bool:=zz9 c && zAl l && zAV c l p
theorem zAX (c:DChart):(Con.con c).segments=c.segments.l:=zz1 _
theorem zAY (c:DChart) (p:DPassage) (hs:p.seg.toNat < c.segments.l.length):zAT (Con.con c) p=if p.toward then (c.segments.l[p.seg.toNat].a,c.segments.l[p.seg.toNat].b) else (c.segments.l[p.seg.toNat].b,c.segments.l[p.seg.toNat].a):=by
 rw [zAT,zAX,gget hs]
theorem zA0 (c:DChart) (p:DPassage) (h:Hp) (hc:Enc.ok h c) (h0:0≤p.seg) (h1:p.seg < c.segments.l.length):Ct jV 247 [p.v,c.v] h fun v h'=>v=.tuple #[.int .i64 (zAT (Con.con c) p).1,.int .i64 (zAT (Con.con c) p).2]∧h'=h:=by
 have hg:=hc.2
 have hs:p.seg.toNat < c.segments.l.length:=by omega
 rw [zAY c p hs]
 refine zdn (fun A W=>by simp) Tryz.func247 rfl rfl (by simp) fun W0=>?_
 repeat' first|refine Wa ?_|(simp (maxSteps:=2000000) only [go_sem,jq,jj,jy,jv,jk,jx,zlh hg hs,hg.some hs,hs,h0,h1];try rfl)|refine Wb ?_|fail
 refine zc9 rfl (fun hq=>?_) (fun hq=>?_)
 ·refine Wk ?_
  refine zi8 rfl (by kernel_rfl) ?_
  refine Evs ?_
  refine Wk ?_
  rw [hq];rfl
 ·refine Wk ?_
  refine zi8 rfl (by kernel_rfl) ?_
  refine Evs ?_
  refine Wk ?_
  rw [hq];rfl
theorem zA2 (s:DShip) (g:DSegment) (h:Hp):Ct jV 243 [s.v,g.v] h fun v h'=>v=.int .i64 (zAU s g)∧h'=h:=by
 refine zdn (fun A W=>by simp) Tryz.func243 rfl rfl (by simp) fun W0=>?_
 refine Wk ?_
 refine zc9 rfl (fun hq=>?_) (fun hq=>?_)
 ·refine Wk ?_
  rw [zAU,if_pos hq]
 ·refine Wk ?_
  rw [zAU,if_neg (by rw [hq];exact Bool.false_ne_true)]
theorem zA4 (c:DChart) (l:List DShip) (p:DPassage):zAV (Con.con c) l p=(decide (0≤p.ship∧p.ship < l.length∧0≤p.seg∧p.seg < c.segments.l.length∧0≤p.start∧p.start≤2880∧p.fin≤2880) && decide (p.fin=IntKind.i64.wrap (p.start+zAU (l.getD p.ship.toNat dH) (c.segments.l.getD p.seg.toNat dG)))):=by
 rw [zAV,zAX]
theorem zA5 (c:DChart) (a:Sl DShip) (p:DPassage) (h:Hp) (hc:Enc.ok h c) (ha:a.Ok h):Ct jV 271 [c.v,a.val,p.v] h fun v h'=>v=.bool (zAV (Con.con c) a.l p)∧h'=h:=by
 have hg:=hc.2
 rw [zA4]
 refine zdn (fun A W=>by simp) Tryz.func271 rfl rfl (by simp) fun W0=>?_
 repeat' first|refine Wa ?_|refine zhF (fun _=>zzn _ _ _) ?_|refine zhF (fun _=>zzm _ _) ?_|(simp (maxSteps:=2000000) only [go_sem,jq,jj,jy,jv,jk,jx];try rfl)|refine Wb ?_|fail
 refine zc9 rfl (fun hq=>?_) (fun hq=>?_)
 ·refine Wk ?_
  simp only [jQ,Bool.not_eq_true',Bool.and_eq_false_iff,decide_eq_false_iff_not,decide_eq_true_eq] at hq
  rw [decide_eq_false (by omega),Bool.false_and]
 ·simp only [jp,Bool.not_eq_false',jJ,decide_eq_true_eq,decide_eq_false_iff_not] at hq
  have h1:0≤p.ship∧p.ship < (a.l.length:Int)∧0≤p.seg∧p.seg < (c.segments.l.length:Int)∧0≤p.start∧p.start≤2880∧p.fin≤2880:=by omega
  have hs':p.seg.toNat < c.segments.l.length:=by omega
  have hp':p.ship.toNat < a.l.length:=by omega
  rw [decide_eq_true h1,Bool.true_and,gget hs',hget hp']
  refine Wk ?_
  refine ziV rfl ?_
  refine zi3 [0,1,2,3,4,5,6,7,8,9,10,11,12,13,14] rfl (by kernel_rfl) ?_
  simp (maxSteps:=2000000) only [go_sem,jq,jj,jy,jv,jk,jx,zlh hg hs',hg.some hs',hs',h1.2.2.1,h1.2.2.2.1,zln ha hp',ha.some hp',hp',h1.1,h1.2.1]
  refine ziT [15] (by kernel_rfl) (by kernel_rfl) ?_
  simp (maxSteps:=2000000) only [go_sem,jq,jj,jy,jv,jk,jx,zlh hg hs',hg.some hs',hs',h1.2.2.1,h1.2.2.2.1,zln ha hp',ha.some hp',hp',h1.1,h1.2.1]
  refine zhF (fun _=>zA2 _ _ _) ?_
  simp (maxSteps:=2000000) only [go_sem,jq,jj,jy,jv,jk,jx,zlh hg hs',hg.some hs',hs',h1.2.2.1,h1.2.2.2.1,zln ha hp',ha.some hp',hp',h1.1,h1.2.1]
  refine zi3 [16,17,18] rfl (by kernel_rfl) ?_
  refine Evs ?_
  refine ziU (by kernel_rfl) ?_
  exact Wk0
theorem zA6 (c:DChart) (a:Sl DShip) (p:DPassage) (h:Hp) (hc:Enc.ok h c) (ha:a.Ok h):Ct jV 248 [c.v,a.val,p.v] h fun v h'=>v=.bool (zAW (Con.con c) a.l p)∧h'=h:=by
 rw [zAW]
 refine zdn (fun A W=>by simp) Tryz.func248 rfl rfl (by simp) fun W0=>?_
 repeat' first|refine Wa ?_|refine zhF (fun _=>zAi c _ hc) ?_|refine zhF (fun _=>zAw _ _ ha) ?_|refine zhF (fun _=>zA5 c a p _ hc ha) ?_|(simp (maxSteps:=2000000) only [go_sem,jq,jj,jy,jv,jk,jx];try rfl)|refine Wb ?_|fail
def Ov (p q:DPassage):Bool:=decide (max p.start q.start < min p.fin q.fin)
def zA8 (a b g:Int):Bool:=decide (max a b - min a b < g)
def zA9 (c:zOv) (r:DRegime) (p q:DPassage):Int :=
 if ¬ (p.seg=q.seg∧0≤p.seg∧p.seg < c.segments.length) then 0
 else if p.ship=q.ship then (if Ov p q=true then 1 else 0)
 else if p.toward ≠ q.toward then (if (Ov p q && (r.noMeet || !(c.segments.getD p.seg.toNat dG).meet))=true then 2 else 0)
 else if (zA8 p.start q.start r.gap || zA8 p.fin q.fin r.gap)=true then 3
 else if (p.start < q.start∧q.fin < p.fin)∨(q.start < p.start∧p.fin < q.fin) then 4 else 0
def zBa (c:zOv) (r:DRegime) (a b:List DPassage):Bool:=a.any fun p=>b.any fun q=>decide (zA9 c r p q ≠ 0)
theorem zBb {α:Type} {f:α→Bool} {l:List α} {k:Nat} (hk:k < l.length):(l.take (k+1)).any f=((l.take k).any f || f l[k]):=by
 rw [List.take_succ_eq_append_getElem hk,List.any_append,List.any_cons,List.any_nil,Bool.or_false]
theorem zBc {α:Type} {f:α→Bool} {l:List α} {k:Nat} (hk:k < l.length) (h:f l[k]=true):l.any f=true:=List.any_eq_true.2 ⟨_,List.getElem_mem hk,h⟩
theorem zBd {a b g:Int} (ha:I64 a) (hb:I64 b) (hg:0≤g∧g≤60):decide (IntKind.u64.wrap (IntKind.u64.wrap (max a b) - IntKind.u64.wrap (min a b)) < IntKind.u64.wrap g)=zA8 a b g:=by
 unfold I64 at ha hb
 rw [zA8,decide_eq_decide]
 show ((max a b % (2 ^ 64:Int) - min a b % (2 ^ 64:Int)) % (2 ^ 64:Int) < g % (2 ^ 64:Int)) ↔ _
 omega
theorem zBe (p q:DPassage) (h:Hp):Ct jV 211 [p.v,q.v] h fun v h'=>v=.bool (Ov p q)∧h'=h:=by
 refine zdn (fun A W=>by simp) Tryz.func211 rfl rfl (by simp) fun W0=>?_
 exact Wk0
 try rfl
theorem zBg (a b g:Int) (h:Hp) (ha:I64 a) (hb:I64 b) (hg:0≤g∧g≤60):Ct jV 212 [.int .i64 a,.int .i64 b,.int .i64 g] h fun v h'=>v=.bool (zA8 a b g)∧h'=h:=by
 rw [← zBd ha hb hg]
 refine zdn (fun A W=>by simp) Tryz.func212 rfl rfl (by simp) fun W0=>?_
 exact Wk0
theorem cf_t {a b c d:Int} (h:((decide (a < b) && decide (d < c)) || (decide (b < a) && decide (c < d)))=true):(a < b∧d < c)∨(b < a∧c < d):=by simpa using h
theorem cf_f {a b c d:Int} (h:((decide (a < b) && decide (d < c)) || (decide (b < a) && decide (c < d)))=false):¬ ((a < b∧d < c)∨(b < a∧c < d)):=by
 intro H
 have:((decide (a < b) && decide (d < c)) || (decide (b < a) && decide (c < d)))=true:=by simpa using H
 rw [this] at h;cases h
theorem zBi {a b n:Int} (h:(a != b || !(decide (0≤a) && decide (a < n)))=true):¬ (a=b∧0≤a∧a < n):=by
 intro ⟨h1,h2,h3⟩
 rw [decide_eq_true h2,decide_eq_true h3,h1] at h
 simp at h
theorem zBj {a b n:Int} (h:(a != b || !(decide (0≤a) && decide (a < n)))=false):a=b∧0≤a∧a < n:=by
 simpa using h
theorem zBm (x:DChart) (r:DRegime) (p q:DPassage) (h:Hp) (hx:Enc.ok h x) (hr:zAm r=true) (hp:Enc.ok h p) (hq:Enc.ok h q):Ct jV 160 [x.v,r.v,p.v,q.v] h fun v h'=>v=.int .i64 (zA9 (Con.con x) r p q)∧h'=h:=by
 have hl:=hx.2.max
 have hcs:(Con.con x).segments=x.segments.l:=zAX x
 have hg:0≤r.gap∧r.gap≤60:=by rw [zAm,In,jJ,decide_eq_true_eq,decide_eq_true_eq] at hr;exact hr
 refine zdn (fun A W=>by simp) Tryz.func160 rfl rfl (by simp) fun W0=>?_
 repeat' first|refine Wa ?_|refine zhF (fun _=>zzn _ _ _) ?_|refine zhF (fun _=>zBe p q _) ?_|(simp only [go_sem,jq,jj,jy,jv,jk,jx];try rfl)|refine Wb ?_|fail
 refine zc9 rfl (fun hc=>?_) (fun hc=>?_)
 ·have hc:=zBi hc
  refine Wk ?_
  rw [zA9,hcs,if_pos hc]
 obtain ⟨hs,hs0,hs1⟩:=zBj hc
 have hF:zA9 (Con.con x) r p q=if p.ship=q.ship then (if Ov p q=true then 1 else 0)
  else if p.toward ≠ q.toward then (if (Ov p q && (r.noMeet || !(x.segments.l.getD p.seg.toNat dG).meet))=true then 2 else 0)
  else if (zA8 p.start q.start r.gap || zA8 p.fin q.fin r.gap)=true then 3
  else if (p.start < q.start∧q.fin < p.fin)∨(q.start < p.start∧p.fin < q.fin) then 4 else 0:=by
  rw [zA9,hcs,if_neg (fun H=>H ⟨hs,hs0,hs1⟩)]
 have hsi:p.seg.toNat < x.segments.l.length:=by omega
 have hge:x.segments.l.getD p.seg.toNat dG=x.segments.l[p.seg.toNat]:=by rw [List.getD_eq_getElem?_getD,List.getElem?_eq_getElem hsi];rfl
 rw [hge] at hF
 by_cases hsh:p.ship=q.ship
 ·rw [if_pos hsh] at hF
  have hb:(p.ship == q.ship)=true:=beq_iff_eq.2 hsh
  cases ho:Ov p q with
  | true =>
   rw [ho] at hF
   repeat' first|refine Wa ?_|refine zhF (fun _=>zBe p q _) ?_|(simp only [go_sem,jq,jj,jy,jv,jk,jx,hb,ho,Bool.and_self];try rfl)|refine Wb ?_|fail
   refine zc9 rfl (fun hd=>?_) (fun hd=>?_)
   case refine_2=>cases hd
   refine Wk ?_
   rw [hF];rfl
  | false =>
   rw [ho] at hF
   repeat' first|refine Wa ?_|refine zhF (fun _=>zBe p q _) ?_|(simp only [go_sem,jq,jj,jy,jv,jk,jx,hb,ho,Bool.and_false];try rfl)|refine Wb ?_|fail
   refine zc9 rfl (fun hd=>?_) (fun hd=>?_)
   ·cases hd
   repeat' first|refine Wa ?_|(simp only [go_sem,jq,jj,jy,jv,jk,jx,hb];try rfl)|refine Wb ?_|fail
   refine zc9 rfl (fun hd=>?_) (fun hd=>?_)
   case refine_2=>cases hd
   refine Wk ?_
   rw [hF];rfl
 rw [if_neg hsh] at hF
 have hb:(p.ship == q.ship)=false:=beq_eq_false_iff_ne.2 hsh
 repeat' first|refine Wa ?_|refine zhF (fun _=>zBe p q _) ?_|(simp only [go_sem,jq,jj,jy,jv,jk,jx,hb,Bool.false_and];try rfl)|refine Wb ?_|fail
 have htq:(p.toward ≠ q.toward) ↔ (p.toward == q.toward)=false:=by cases p.toward <;> cases q.toward <;> simp
 refine zc9 rfl (fun hd=>?_) (fun hd=>?_)
 ·cases hd
 repeat' first|refine Wa ?_|(simp only [go_sem,jq,jj,jy,jv,jk,jx,hb];try rfl)|refine Wb ?_|fail
 refine zc9 rfl (fun hd=>?_) (fun hd=>?_)
 ·cases hd
 cases htw:(p.toward == q.toward) with
 | false =>
  rw [if_pos (htq.2 htw)] at hF
  cases ho:Ov p q with
  | false =>
   rw [ho] at hF
   repeat' first|refine Wa ?_|refine zhF (fun _=>zBe p q _) ?_|(simp only [go_sem,jq,jj,jy,jv,jk,jx,htw,Bool.false_eq_true,Bool.true_eq_false,false_implies,implies_true,true_and,and_true,and_self,Bool.not_false,Bool.not_true,ho,Bool.and_false,Bool.false_and];try rfl)|refine Wb ?_|fail
   refine zc9 rfl (fun hd=>?_) (fun hd=>?_)
   ·cases hd
   repeat' first|refine Wa ?_|(simp only [go_sem,jq,jj,jy,jv,jk,jx,htw,Bool.not_false,Bool.not_true];try rfl)|refine Wb ?_|fail
   refine zc9 rfl (fun hd=>?_) (fun hd=>?_)
   case refine_2=>cases hd
   refine Wk ?_
   rw [hF];rfl
  | true =>
   rw [ho] at hF
   cases hn:r.noMeet with
   | true =>
    rw [hn] at hF
    repeat' first|refine Wa ?_|refine zhF (fun _=>zBe p q _) ?_|(simp only [go_sem,jq,jj,jy,jv,jk,jx,htw,Bool.false_eq_true,Bool.true_eq_false,false_implies,implies_true,true_and,and_true,and_self,Bool.not_false,Bool.not_true,ho,hn,Bool.and_true,Bool.true_and,Bool.true_or,Bool.and_self];try rfl)|refine Wb ?_|fail
    refine zc9 rfl (fun hd=>?_) (fun hd=>?_)
    case refine_2=>cases hd
    refine Wk ?_
    rw [hF];rfl
   | false =>
    rw [hn] at hF
    cases hm:x.segments.l[p.seg.toNat].meet with
    | true =>
     rw [hm] at hF
     repeat' first|refine Wa ?_|refine zhF (fun _=>zBe p q _) ?_|(simp only [go_sem,jq,jj,jy,jv,jk,jx,htw,Bool.false_eq_true,Bool.true_eq_false,false_implies,implies_true,true_and,and_true,and_self,Bool.not_false,Bool.not_true,ho,hn,hm,Bool.and_true,Bool.true_and,Bool.true_or,Bool.and_self,zmT hx.2 hsi,zlh hx.2 hsi,hx.2.some hsi,hsi,hs0,hs1,jW];try rfl)|refine Wb ?_|fail
     refine zc9 rfl (fun hd=>?_) (fun hd=>?_)
     ·cases hd
     repeat' first|refine Wa ?_|(simp only [go_sem,jq,jj,jy,jv,jk,jx,htw,Bool.not_false,Bool.not_true];try rfl)|refine Wb ?_|fail
     refine zc9 rfl (fun hd=>?_) (fun hd=>?_)
     case refine_2=>cases hd
     refine Wk ?_
     rw [hF];rfl
    | false =>
     rw [hm] at hF
     repeat' first|refine Wa ?_|refine zhF (fun _=>zBe p q _) ?_|(simp only [go_sem,jq,jj,jy,jv,jk,jx,htw,Bool.false_eq_true,Bool.true_eq_false,false_implies,implies_true,true_and,and_true,and_self,Bool.not_false,Bool.not_true,ho,hn,hm,Bool.and_true,Bool.true_and,Bool.true_or,Bool.and_self,zmT hx.2 hsi,zlh hx.2 hsi,hx.2.some hsi,hsi,hs0,hs1,jW];try rfl)|refine Wb ?_|fail
     refine zc9 rfl (fun hd=>?_) (fun hd=>?_)
     case refine_2=>cases hd
     refine Wk ?_
     rw [hF];rfl
 | true =>
  rw [if_neg (fun H=>by rw [htq.1 H] at htw;cases htw)] at hF
  repeat' first|refine Wa ?_|refine zhF (fun _=>zBe p q _) ?_|(simp only [go_sem,jq,jj,jy,jv,jk,jx,htw,Bool.false_eq_true,Bool.true_eq_false,false_implies,implies_true,true_and,and_true,and_self,Bool.not_false,Bool.not_true,Bool.and_false,Bool.false_and];try rfl)|refine Wb ?_|fail
  refine zc9 rfl (fun hd=>?_) (fun hd=>?_)
  ·cases hd
  repeat' first|refine Wa ?_|(simp only [go_sem,jq,jj,jy,jv,jk,jx,htw,Bool.not_false,Bool.not_true];try rfl)|refine Wb ?_|fail
  refine zc9 rfl (fun hd=>?_) (fun hd=>?_)
  ·cases hd
  repeat' first|refine Wa ?_|refine zhF (fun _=>zBg _ _ _ _ hp.2.2.1 hq.2.2.1 hg) ?_|refine zhF (fun _=>zBg _ _ _ _ hp.2.2.2 hq.2.2.2 hg) ?_|(simp only [go_sem,jq,jj,jy,jv,jk,jx];try rfl)|refine Wb ?_|fail
  refine zc9 rfl (fun hd=>?_) (fun hd=>?_)
  ·rw [if_pos hd] at hF
   refine Wk ?_
   rw [hF]
  rw [if_neg (by rw [hd];exact Bool.false_ne_true)] at hF
  refine Wk ?_
  refine zc9 rfl (fun hd=>?_) (fun hd=>?_)
  ·refine Wk ?_
   rw [hF,if_pos (cf_t hd)]
  ·refine Wk ?_
   rw [hF,if_neg (cf_f hd)]
def zBo (l:List DSurge) (m:Int):Nat→Nat
 | 0=>0
 | k+1=>if (l.getD k dS).src≤m then k else zBo l m k
def zBp (l:List DSurge) (m:Int):Nat:=zBo l m l.length
theorem zBq {l:List DSurge} {m:Int}:∀ {k:Nat},0 < k→zBo l m k < k
 | k+1,_=>by
  unfold zBo
  split
  ·omega
  ·rcases Nat.eq_zero_or_pos k with rfl|h
   ·exact Nat.zero_lt_one
   ·have:=zBq (l:=l) (m:=m) h;omega
theorem zBr {l:List DSurge} {m:Int} (h:0 < l.length):zBp l m < l.length:=zBq h
theorem zBs {l:List DSurge} {m:Int} {k:Nat} (hk:k < l.length) (h:l[k].src≤m):zBo l m (k+1)=k:=by rw [zBo,sget hk,if_pos h]
theorem zBt {l:List DSurge} {m:Int} {k:Nat} (hk:k < l.length) (h:¬ l[k].src≤m):zBo l m (k+1)=zBo l m k:=by rw [zBo,sget hk,if_neg h]
theorem zBu {f:zOu} (h:zzV f=true):0 < f.surges.length:=by
 simp only [zzV,In,jJ,decide_eq_true_eq] at h
 omega
theorem zBv (f:DForecast):(Con.con f).surges=f.surges.l:=zzW _
def zBw (n p:Int):Int :=
 if zzz p=true then
  (if n % p < Int.tdiv p 2 then IntKind.i64.wrap (Int.tdiv (IntKind.i64.wrap (IntKind.i64.wrap (40000 * (n % p)) * IntKind.i64.wrap (Int.tdiv p 2 - n % p))) (IntKind.i64.wrap (Int.tdiv p 2 * Int.tdiv p 2)))
   else IntKind.i64.wrap (0 - IntKind.i64.wrap (Int.tdiv (IntKind.i64.wrap (IntKind.i64.wrap (40000 * IntKind.i64.wrap (n % p - Int.tdiv p 2)) * IntKind.i64.wrap (Int.tdiv p 2 - IntKind.i64.wrap (n % p - Int.tdiv p 2)))) (IntKind.i64.wrap (Int.tdiv p 2 * Int.tdiv p 2)))))
 else 0
def zBx (m:Int) (acc:Int) (p:DPart):Int:=IntKind.i64.wrap (acc+IntKind.i64.wrap (Int.tdiv (IntKind.i64.wrap (p.amp * zBw (IntKind.i64.wrap (m+p.phase)) p.period)) 10000))
def zBy (t:zOt) (m:Int):Int:=t.parts.foldl (zBx m) t.mean
def zBz (f:zOu) (m:Int):Int:=IntKind.i64.wrap (zBy f.tide m+(f.surges.getD (zBp f.surges m) dS).low)
theorem zBA (f:DForecast) (m:Int) (h:Hp) (hf:Enc.ok h f):Ct jV 303 [f.v,.int .i64 m] h fun v h'=>v=.int .i64 (zBp f.surges.l m:Nat)∧h'=h:=by
 have hp:=hf.2
 have hl:=hp.max
 refine zdn (fun A W=>by simp) Tryz.func303 rfl rfl (by simp) fun W0=>?_
 refine Wk ?_
 refine zde (ι:=Nat) (fun k=>⟨[(1,true,.c (.v (.int .i64 m))),(5,true,.c (.v (.int .i64 (zBo f.surges.l m k:Nat)))),(9,true,.c (.v f.surges.val)),(10,true,.c (.v (.int .i64 f.surges.l.length))),(11,true,.c (.v (.int .i64 k)))],[],h,0⟩) (fun k=>k≤f.surges.l.length) (fun k=>f.surges.l.length - k) 0 (Nat.zero_le _) ?_ ?_
 ·refine Evs ?_
  exact Gk
 intro k hk
 refine Wk ?_
 refine zc9 rfl (fun hdk=>?_) (fun hdk=>?_)
 ·have hlt:=zjH hdk
  repeat' first|refine Wa ?_|(simp only [go_sem,jq,jj,jy,jv,jk,jx,zk9 hp hlt,hp.some hlt,hlt,jW];try rfl)|refine Wb ?_|fail
  refine zc9 rfl (fun hq=>?_) (fun hq=>?_)
  ·refine Wk ?_
   refine ⟨k+1,hlt,by omega,zjB ?_,zjB (zjA hlt (by omega))⟩
   rw [zBs hlt (of_decide_eq_true hq)]
  ·refine Wk ?_
   refine ⟨k+1,hlt,by omega,zjB ?_,zjB (zjA hlt (by omega))⟩
   rw [zBt hlt (of_decide_eq_false hq)]
 ·have hge:=zjI hdk
  refine Wk ?_
  rw [zBp,Nat.le_antisymm hge hk]
theorem zBC {p:Int} (h:zzz p=true):4≤p∧p≤2880∧Int.tmod p 4=0:=by
 simp only [zzz,In,jJ,decide_eq_true_eq,beq_iff_eq] at h
 exact ⟨h.1.1,h.1.2,h.2⟩
theorem zBD {n p:Int} (h:4≤p∧p≤2880):IntKind.i64.wrap (Int.tmod n p+p)=Int.tmod n p+p∧Int.tmod (Int.tmod n p+p) p=n % p∧(if Int.tmod n p < 0 then Int.tmod n p+p else Int.tmod n p)=n % p∧-p < Int.tmod n p∧Int.tmod n p < p:=by
 have e1:-p < Int.tmod n p∧Int.tmod n p < p:=by
  have:=Int.tmod_lt_of_pos n (show 0 < p by omega)
  have h2:=Int.lt_tmod_of_pos n (show 0 < p by omega)
  omega
 have e2:Int.tmod n p=n % p∨Int.tmod n p=n % p - p:=by
  rw [Int.tmod_eq_emod]
  split
  ·left;omega
  ·right;omega
 have e3:=Int.emod_nonneg n (show p ≠ 0 by omega)
 have e4:=Int.emod_lt_of_pos n (show 0 < p by omega)
 refine ⟨zjz (by omega),?_,?_,e1⟩
 ·rw [Int.tmod_eq_emod_of_nonneg (by omega),Int.add_emod_right]
  rcases e2 with e2|e2
  ·rw [e2,Int.emod_emod_of_dvd _ (Int.dvd_refl p)]
  ·rw [e2,Int.sub_emod_right];exact Int.emod_emod_of_dvd _ (Int.dvd_refl p)
 ·split <;> omega
theorem zBE (n p:Int) (h:Hp):Ct jV 312 [.int .i64 n,.int .i64 p] h fun v h'=>v=.int .i64 (zBw n p)∧h'=h:=by
 refine zdn (fun A W=>by simp) Tryz.func312 rfl rfl (by simp) fun W0=>?_
 repeat' first|refine Wa ?_|refine zhF (fun _=>zzA _ _) ?_|(simp only [go_sem,jq,jj,jy,jv,jk,jx];try rfl)|refine Wb ?_|fail
 refine zc9 rfl (fun hc=>?_) (fun hc=>?_)
 ·rw [Bool.not_eq_true'] at hc
  refine Wk ?_
  rw [zBw,if_neg (by rw [hc];exact Bool.false_ne_true)]
 rw [Bool.not_eq_false'] at hc
 obtain ⟨h1,h2,h3⟩:=zBC hc
 obtain ⟨w1,w2,w3,w4⟩:=zBD (n:=n) ⟨h1,h2⟩
 have hp0:¬ p=0:=by omega
 have hh:0 < Int.tdiv p 2∧Int.tdiv p 2≤1440:=by rw [Int.tdiv_eq_ediv_of_nonneg (by omega)];omega
 have hw:IntKind.i64.wrap (Int.tdiv p 2)=Int.tdiv p 2:=zjz (by omega)
 have hm:=Int.mul_le_mul hh.2 hh.2 (by omega) (by decide)
 have hm0:=Int.mul_pos hh.1 hh.1
 have hww:IntKind.i64.wrap (Int.tdiv p 2 * Int.tdiv p 2)=Int.tdiv p 2 * Int.tdiv p 2:=zjz (by omega)
 have hq0:¬ Int.tdiv p 2 * Int.tdiv p 2=0:=by omega
 have h20:¬ (2:Int)=0:=by decide
 repeat' first|refine Wa ?_|(simp only [go_sem,jq,jj,jy,jv,jk,jx,w1,w2,hp0,hw,h20,not_false_eq_true,implies_true,true_and];try rfl)|refine Wb ?_|fail
 refine zc9 rfl (fun hq=>?_) (fun hq=>?_)
 ·repeat' first|refine Wa ?_|(simp only [go_sem,jq,jj,jy,jv,jk,jx,hw,hww,hq0,not_false_eq_true,implies_true,true_and];try rfl)|refine Wb ?_|fail
  rw [zBw,if_pos hc,if_neg (by have:=of_decide_eq_true hq;omega),hww]
 ·repeat' first|refine Wa ?_|(simp only [go_sem,jq,jj,jy,jv,jk,jx,hw,hww,hq0,not_false_eq_true,implies_true,true_and];try rfl)|refine Wb ?_|fail
  rw [zBw,if_pos hc,if_pos (by have:=of_decide_eq_false hq;omega),hww]
theorem zBG {α β:Type} {f:β→α→β} {b:β} {l:List α} {k:Nat} (hk:k < l.length):(l.take (k+1)).foldl f b=f ((l.take k).foldl f b) l[k]:=by rw [List.take_succ_eq_append_getElem hk,List.foldl_append];rfl
theorem zBH (t:DTide) (m:Int) (h:Hp) (ht:Enc.ok h t):Ct jV 302 [t.v,.int .i64 m] h fun v h'=>v=.int .i64 (zBy (Con.con t) m)∧h'=h:=by
 have hp:=ht.2
 have hl:=hp.max
 rw [zBy,show (Con.con t).mean=t.mean from rfl,show (Con.con t).parts=t.parts.l from zzP _]
 refine zdn (fun A W=>by simp) Tryz.func302 rfl rfl (by simp) fun W0=>?_
 refine Wk ?_
 refine zde (ι:=Nat) (fun k=>⟨[(1,true,.c (.v (.int .i64 m))),(5,true,.c (.v (.int .i64 ((t.parts.l.take k).foldl (zBx m) t.mean)))),(11,true,.c (.v t.parts.val)),(12,true,.c (.v (.int .i64 t.parts.l.length))),(13,true,.c (.v (.int .i64 k)))],[],h,0⟩) (fun k=>k≤t.parts.l.length) (fun k=>t.parts.l.length - k) 0 (Nat.zero_le _) ?_ ?_
 ·refine Evs ?_
  exact Gk
 intro k hk
 refine Wk ?_
 refine zc9 rfl (fun hdk=>?_) (fun hdk=>?_)
 ·have hlt:=zjH hdk
  have hp':=hp.el hlt
  repeat' first|refine Wa ?_|(simp only [go_sem,jq,jj,jy,jv,jk,jx,zk4 hp hlt,hp.some hlt,hlt,jW];try rfl)|refine Wb ?_|fail
  have h10:¬ (10000:Int)=0:=by decide
  refine zyW rfl ?_
  refine U_t [0,1,3,4,7,2,5,8,6] rfl ?_
  simp only [go_sem,jq,jj,jy,jv,jk,jx,h10,not_false_eq_true,implies_true]
  refine U_1 9 0 [2,1] rfl rfl ?_
  simp only [go_sem,jq,jj,jy,jv,jk,jx,h10,not_false_eq_true,implies_true]
  refine zhF (fun _=>zBE _ _ _) ?_
  simp only [go_sem,jq,jj,jy,jv,jk,jx,h10,not_false_eq_true,implies_true]
  refine U_t [10,11,12,13] rfl ?_
  simp only [go_sem,jq,jj,jy,jv,jk,jx,h10,not_false_eq_true,implies_true]
  refine U_d ?_
  refine Wk ?_
  refine ⟨k+1,hlt,by omega,zjB ?_,zjB (zjA hlt (by omega))⟩
  rw [zBG hlt]
  rfl
 ·have hge:=zjI hdk
  refine Wk ?_
  rw [List.take_of_length_le hge]
theorem zBJ (f:DForecast) (m:Int) (h:Hp) (hf:Enc.ok h f) (h0:0 < f.surges.l.length):Ct jV 287 [f.v,.int .i64 m] h fun v h'=>v=.int .i64 (zBz (Con.con f) m)∧h'=h:=by
 have hp:=hf.2
 have hs:=zBr (m:=m) h0
 have hsi:((zBp f.surges.l m:Nat):Int) < f.surges.l.length:=by omega
 rw [zBz,zBv,sget hs]
 refine zdn (fun A W=>by simp) Tryz.func287 rfl rfl (by simp) fun W0=>?_
 refine Wk ?_
 refine zyW rfl ?_
 refine U_t [0,2,4,6,7,1,5] rfl ?_
 simp only [go_sem,jq,jj,jy,jv,jk,jx,zmR hp hs,hp.some hs,hs,hsi,jW,jY]
 refine U_1 3 0 [5,6,4] rfl rfl ?_
 simp only [go_sem,jq,jj,jy,jv,jk,jx,zmR hp hs,hp.some hs,hs,hsi,jW,jY]
 refine zhF (fun _=>zBH _ _ _ hf.1) ?_
 simp only [go_sem,jq,jj,jy,jv,jk,jx,zmR hp hs,hp.some hs,hs,hsi,jW,jY]
 refine U_1 8 0 [5,4] rfl rfl ?_
 simp only [go_sem,jq,jj,jy,jv,jk,jx,zmR hp hs,hp.some hs,hs,hsi,jW,jY]
 refine zhF (fun _=>zBA f _ _ hf) ?_
 simp only [go_sem,jq,jj,jy,jv,jk,jx,zmR hp hs,hp.some hs,hs,hsi,jW,jY]
 refine U_t [9,10,11,12,13] rfl ?_
 simp only [go_sem,jq,jj,jy,jv,jk,jx,zmR hp hs,hp.some hs,hs,hsi,jW,jY]
 refine U_d ?_
 exact Wk0
theorem i64w (n:Int):I64 (IntKind.i64.wrap n):=by rw [w64];unfold I64;omega
def dW:DWindow:=⟨0,0⟩
theorem wget {l:List DWindow} {i:Nat} (hi:i < l.length):l.getD i dW=l[i]:=by simp [List.getD_eq_getElem?_getD,hi]
def zBN (l:List DWindow) (i:Nat):Bool:=decide ((0≤(l.getD i dW).src∧(l.getD i dW).src≤(l.getD i dW).dst∧(l.getD i dW).dst≤2880)∧(0 < i→IntKind.i64.wrap ((l.getD (i - 1) dW).dst+1) < (l.getD i dW).src))
def zBO (l:List DWindow):Bool:=decide (∀ i,i < l.length→zBN l i=true)
def zBP (l:List DWindow) (m:Int):Bool:=l.any fun w=>In m w.src w.dst
def zBQ (l:List DWindow) (m:Int):Int:=if zBO l=true then (match l.find? (fun w=>decide (m≤w.dst)) with|some w=>max w.src m|none=>-1) else -1
def shr (n:Int) (w:DWindow):Bool:=decide (n≤IntKind.i64.wrap (w.dst - w.src))
def shw (n:Int) (w:DWindow):DWindow:=⟨w.src,IntKind.i64.wrap (w.dst - n)⟩
def zBR (l:List DWindow) (n:Int):List DWindow:=if zBO l=true∧0≤n∧n≤2880 then (l.filter (shr n)).map (shw n) else []
theorem zBT (a:Sl DWindow) (h:Hp) (ha:a.Ok h):Ct jV 270 [a.val] h fun v h'=>v=.bool (zBO a.l)∧h'=h:=by
 have hl:=ha.max
 rw [zBO]
 refine zdn (fun A W=>by simp) Tryz.func270 rfl rfl (by simp) fun W0=>?_
 refine Wk ?_
 refine zde (ι:=Nat) (fun k=>⟨[(0,true,.c (.v a.val)),(5,true,.c (.v a.val)),(6,true,.c (.v (.int .i64 a.l.length))),(7,true,.c (.v (.int .i64 k)))],[],h,0⟩) (fun k=>k≤a.l.length∧∀ i,i < k→zBN a.l i=true) (fun k=>a.l.length - k) 0 ⟨Nat.zero_le _,zAe⟩ ?_ ?_
 ·refine Evs ?_
  exact Gk
 intro k hk
 refine Wk ?_
 refine zc9 rfl (fun hdk=>?_) (fun hdk=>?_)
 ·have hlt:=zjH hdk
  rcases Nat.eq_zero_or_pos k with h0|h0
  ·have hf:(0 < (k:Int))=False:=eq_false (by omega)
   repeat' first|refine Wa ?_|(simp (maxSteps:=2000000) only [go_sem,jq,jj,jy,jv,jk,jx,zlz ha hlt,ha.some hlt,hlt,jW];try rfl)|refine Wb ?_|fail
   refine zyW rfl ?_
   refine U_t [0,1,2,3,4,6,5,7,8,9,10,11,12,13,14,15,16,17,18,19,20,26,21,27,22,23,24,25,28,29,30] rfl ?_
   simp (maxSteps:=2000000) only [go_sem,jq,jj,jy,jv,jk,jx,hf,decide_false,Bool.and_false,Bool.false_and,Bool.or_false,Bool.false_eq_true,false_implies,implies_true,true_and,and_true,reduceCtorEq]
   refine U_d ?_
   refine Wk ?_
   refine zc9 rfl (fun hq=>?_) (fun hq=>?_)
   ·refine Wk ?_
    rw [zAb hlt (decide_eq_false (by rw [wget hlt];intro e;simp only [jQ,Bool.not_eq_true',Bool.and_eq_false_iff,decide_eq_true_eq,decide_eq_false_iff_not] at hq;omega))]
   ·refine Wk ?_
    refine ⟨k+1,⟨hlt,zAc hk.2 (decide_eq_true (by rw [wget hlt];simp only [jp,Bool.not_eq_false',jJ,decide_eq_true_eq,decide_eq_false_iff_not] at hq;exact ⟨by omega,fun e=>by omega⟩))⟩,by omega,zjB (zjA hlt (by omega))⟩
  ·have hp:k - 1 < a.l.length:=by omega
   have hw:IntKind.i64.wrap ((k:Int) - 1)=((k - 1:Nat):Int):=by rw [zjz (by omega)];omega
   have hf:(0 < (k:Int))=True:=eq_true (by omega)
   repeat' first|refine Wa ?_|(simp (maxSteps:=2000000) only [go_sem,jq,jj,jy,jv,jk,jx,zlz ha hlt,ha.some hlt,hlt,jW];try rfl)|refine Wb ?_|fail
   refine zyW rfl ?_
   refine U_t [0,1,2,3,4,6,5,7,8,9,10,11,12,13,14,15,16,17,18,19,20,26,21,27,22,23,24,25,28,29,30] rfl ?_
   simp (maxSteps:=2000000) only [go_sem,jq,jj,jy,jv,jk,jx,hf,decide_true,and_true,imp_self,true_implies,Bool.and_true,Bool.true_and,hw,zlz ha hp,zmV ha hp,ha.some hp,hp,jW]
   refine U_d ?_
   refine Wk ?_
   refine zc9 rfl (fun hq=>?_) (fun hq=>?_)
   ·refine Wk ?_
    rw [zAb hlt (decide_eq_false (by rw [wget hlt,wget hp];intro e;have e2:=e.2 h0;simp only [jQ,Bool.not_eq_true',Bool.and_eq_false_iff,decide_eq_true_eq,decide_eq_false_iff_not] at hq;omega))]
   ·refine Wk ?_
    refine ⟨k+1,⟨hlt,zAc hk.2 (decide_eq_true (by rw [wget hlt,wget hp];simp only [jp,Bool.not_eq_false',jJ,decide_eq_true_eq,decide_eq_false_iff_not] at hq;exact ⟨by omega,fun e=>by omega⟩))⟩,by omega,zjB (zjA hlt (by omega))⟩
 ·have hge:=zjI hdk
  refine Wk ?_
  rw [zAd hge hk.2]
theorem zBU {α:Type} {p:α→Bool} {l:List α} {k:Nat} (hk:k < l.length) (h:p l[k]=true):l.any p=true:=List.any_eq_true.2 ⟨l[k],List.getElem_mem hk,h⟩
theorem zBV {α:Type} {p:α→Bool} {l:List α} (h:∀ i (hi:i < l.length),p l[i]=false):l.any p=false:=by
 rw [List.any_eq_false]
 intro x hx
 obtain ⟨i,hi,rfl⟩:=List.getElem_of_mem hx
 rw [h i hi];exact Bool.false_ne_true
theorem zBW {α:Type} {p:α→Bool} {l:List α} {k:Nat} (hk:k < l.length) (h:∀ i (hi:i < l.length),i < k→p l[i]=false) (hq:p l[k]=false):∀ i (hi:i < l.length),i < k+1→p l[i]=false:=fun i hi hik=>by
 rcases Nat.lt_succ_iff_lt_or_eq.1 hik with h1|rfl
 ·exact h i hi h1
 ·exact hq
theorem zBX {α:Type} {p:α→Bool} {l:List α} {k:Nat} (hk:k < l.length) (h:∀ i (hi:i < l.length),i < k→p l[i]=false) (hq:p l[k]=true):l.find? p=some l[k]:=by
 rw [List.find?_eq_some_iff_getElem]
 exact ⟨hq,k,hk,rfl,fun j hj=>by rw [h j (by omega) hj];rfl⟩
theorem zBY {α:Type} {p:α→Bool} {l:List α} (h:∀ i (hi:i < l.length),p l[i]=false):l.find? p=none:=by
 rw [List.find?_eq_none]
 intro x hx
 obtain ⟨i,hi,rfl⟩:=List.getElem_of_mem hx
 rw [h i hi];exact Bool.false_ne_true
theorem zB2 (a:Sl DWindow) (m:Int) (h:Hp) (ha:a.Ok h):Ct jV 245 [a.val,.int .i64 m] h fun v h'=>v=.bool (zBP a.l m)∧h'=h:=by
 have hl:=ha.max
 refine zdn (fun A W=>by simp) Tryz.func245 rfl rfl (by simp) fun W0=>?_
 refine Wk ?_
 refine zde (ι:=Nat) (fun k=>⟨[(1,true,.c (.v (.int .i64 m))),(7,true,.c (.v a.val)),(8,true,.c (.v (.int .i64 a.l.length))),(9,true,.c (.v (.int .i64 k)))],[],h,0⟩) (fun k=>k≤a.l.length∧∀ i (hi:i < a.l.length),i < k→(fun w:DWindow=>In m w.src w.dst) a.l[i]=false) (fun k=>a.l.length - k) 0 ⟨Nat.zero_le _,fun i _ h=>absurd h (Nat.not_lt_zero _)⟩ ?_ ?_
 ·refine Evs ?_
  exact Gk
 intro k hk
 refine Wk ?_
 refine zc9 rfl (fun hdk=>?_) (fun hdk=>?_)
 ·have hlt:=zjH hdk
  repeat' first|refine Wa ?_|refine zhF (fun _=>zzl _ _ _ _) ?_|(simp (maxSteps:=2000000) only [go_sem,jq,jj,jy,jv,jk,jx,zlz ha hlt,ha.some hlt,hlt,jW];try rfl)|refine Wb ?_|fail
  refine zc9 rfl (fun hq=>?_) (fun hq=>?_)
  ·refine Wk ?_
   rw [zBP,zBU hlt hq]
  ·refine Wk ?_
   refine ⟨k+1,⟨hlt,zBW (p:=fun w:DWindow=>In m w.src w.dst) hlt hk.2 hq⟩,by omega,zjB (zjA hlt (by omega))⟩
 ·have hge:=zjI hdk
  refine Wk ?_
  rw [zBP,zBV (fun i hi=>hk.2 i hi (by omega))]
theorem zB3 (a:Sl DWindow) (m:Int) (h:Hp) (ha:a.Ok h):Ct jV 246 [a.val,.int .i64 m] h fun v h'=>v=.int .i64 (zBQ a.l m)∧h'=h:=by
 have hl:=ha.max
 rw [zBQ]
 refine zdn (fun A W=>by simp) Tryz.func246 rfl rfl (by simp) fun W0=>?_
 repeat' first|refine Wa ?_|refine zhF (fun _=>zBT _ _ ha) ?_|(simp (maxSteps:=2000000) only [go_sem,jq,jj,jy,jv,jk,jx];try rfl)|refine Wb ?_|fail
 refine zc9 rfl (fun hc=>?_) (fun hc=>?_)
 ·rw [Bool.not_eq_true'] at hc
  refine Wk ?_
  rw [hc];rfl
 rw [Bool.not_eq_false'] at hc
 rw [if_pos hc]
 refine Wk ?_
 refine zde (ι:=Nat) (fun k=>⟨[(1,true,.c (.v (.int .i64 m))),(10,true,.c (.v a.val)),(11,true,.c (.v (.int .i64 a.l.length))),(12,true,.c (.v (.int .i64 k)))],[],h,0⟩) (fun k=>k≤a.l.length∧∀ i (hi:i < a.l.length),i < k→(fun w:DWindow=>decide (m≤w.dst)) a.l[i]=false) (fun k=>a.l.length - k) 0 ⟨Nat.zero_le _,fun i _ h=>absurd h (Nat.not_lt_zero _)⟩ ?_ ?_
 ·refine Evs ?_
  exact Gk
 intro k hk
 refine Wk ?_
 refine zc9 rfl (fun hdk=>?_) (fun hdk=>?_)
 ·have hlt:=zjH hdk
  repeat' first|refine Wa ?_|(simp (maxSteps:=2000000) only [go_sem,jq,jj,jy,jv,jk,jx,zlz ha hlt,ha.some hlt,hlt,jW];try rfl)|refine Wb ?_|fail
  refine zc9 rfl (fun hq=>?_) (fun hq=>?_)
  ·refine Wk ?_
   rw [zBX hlt hk.2 hq]
  ·refine Wk ?_
   refine ⟨k+1,⟨hlt,zBW (p:=fun w:DWindow=>decide (m≤w.dst)) hlt hk.2 hq⟩,by omega,zjB (zjA hlt (by omega))⟩
 ·have hge:=zjI hdk
  refine Wk ?_
  rw [zBY (fun i hi=>hk.2 i hi (by omega))]
theorem zB4 (a:Sl DWindow) (n:Int) (h:Hp) (ha:a.Ok h) (hz:a.l.length≤1048576):Ct jV 266 [a.val,.int .i64 n] h fun v h'=>∃ s:Sl DWindow,v=s.val∧s.l=zBR a.l n∧s.Ok h'∧Mine h h' s:=by
 rw [zBR]
 refine zdn (fun A W=>by simp) Tryz.func266 rfl rfl (by simp) fun W0=>?_
 repeat' first|refine Wa ?_|refine zhF (fun _=>zBT _ _ ha) ?_|refine zhF (fun _=>zzm _ _) ?_|(simp (maxSteps:=2000000) only [go_sem,jq,jj,jy,jv,jk,jx];try rfl)|refine Wb ?_|fail
 refine zc9 rfl (fun hc=>?_) (fun hc=>?_)
 ·refine Wk ?_
  rw [if_neg (by intro e;rw [e.1,decide_eq_true e.2.1,decide_eq_true e.2.2] at hc;cases hc)]
  exact ⟨⟨none,0,[]⟩,rfl,rfl,znp,Mine.nil⟩
 simp only [jp,Bool.not_eq_false',jJ,decide_eq_true_eq] at hc
 rw [if_pos ⟨hc.1,hc.2.1,hc.2.2⟩]
 refine Wk ?_
 refine zm1 (ι:=Nat) (fun k=>⟨[(1,true,.c (.v (.int .i64 n))),(5,true,.c (.s 0)),(17,true,.c (.v a.val)),(18,true,.c (.v (.int .i64 a.l.length))),(19,true,.c (.v (.int .i64 k)))],[(0,.row 308 2 ((((a.l.take k).filter (shr n)).map (shw n))).length (((((a.l.take k).filter (shr n)).map (shw n))).flatMap Enc.enc))],h,1⟩) (fun k=>k≤a.l.length) (fun k=>a.l.length - k) 0 (Nat.zero_le _) [0] ?_ ?_
 ·refine Evs ?_
  exact Gk
 intro k hk
 refine Wk ?_
 refine zc9 rfl (fun hdk=>?_) (fun hdk=>?_)
 ·have hlt:=zjH hdk
  have hlf:(((a.l.take k).filter (shr n)).map (shw n)).length≤k:=by rw [List.length_map];exact Nat.le_trans (List.length_filter_le _ _) (by rw [List.length_take];omega)
  repeat' first|refine Wa ?_|(simp (maxSteps:=2000000) only [go_sem,jq,jj,jy,jv,jk,jx,zlz ha hlt,ha.some hlt,hlt,jW];try rfl)|refine Wb ?_|fail
  refine zc9 rfl (fun hq=>?_) (fun hq=>?_)
  ·refine Wk ?_
   refine ⟨by simp only [maxLen];omega,by omega,?_⟩
   refine Wk ?_
   refine ⟨k+1,[3],hlt,by omega,?_⟩
   refine Evs ?_
   rw [znq hlt hq,List.map_append,List.length_append,List.flatMap_append]
   refine ⟨zjB (zjA hlt (by omega)),?_⟩
   exact Gk
  ·refine Wk ?_
   refine ⟨k+1,[0],hlt,by omega,?_⟩
   refine Evs ?_
   rw [znr hlt hq]
   refine ⟨zjB (zjA hlt (by omega)),?_⟩
   exact Gk
 ·have hge:=zjI hdk
  refine zc6 ?_
  refine Evs ?_
  rw [List.take_of_length_le hge]
  refine zl5 0 ((a.l.filter (shr n)).map (shw n)) rfl rfl rfl rfl (by decide) (fun x hx=>?_) h (Hp.le_refl _) (Mines.flat (fun _=>rfl) (fun _=>trivial)) fun s h' e1 e2 e3 e4=>?_
  ·obtain ⟨y,hy,rfl⟩:=List.mem_map.1 hx
   exact ⟨(ha.2.2.2.1 y (List.mem_filter.1 hy).1).1,i64w _⟩
  refine Wk ?_
  exact ⟨s,rfl,e1,e2,e4⟩
def zB5 (l:List DWindow) (k:Nat):Bool:=match l.getLast? with|some w=>decide (w.dst=(k:Int) - 1)|none=>false
def zB6 (l:List DWindow) (k:Nat):List DWindow:=if zB5 l k=true then l.dropLast ++ [⟨(l.getLast?.getD dW).src,k⟩] else l ++ [⟨k,k⟩]
def zB7 (p:Nat→Bool):Nat→List DWindow
 | 0=>[]
 | k+1=>if p k=true then zB6 (zB7 p k) k else zB7 p k
theorem zB8 {l:List DWindow} {k:Nat} (h:zB5 l k=true):∃ l0 w,l=l0 ++ [w]∧w.dst=(k:Int) - 1∧zB6 l k=l0 ++ [⟨w.src,k⟩]:=by
 unfold zB5 at h
 split at h
 ·rename_i w hw
  have hd:=of_decide_eq_true h
  obtain ⟨l0,rfl⟩:∃ l0,l=l0 ++ [w]:=⟨l.dropLast,by
   have hne:l ≠ []:=by intro e;rw [e] at hw;cases hw
   rw [List.getLast?_eq_some_getLast hne,Option.some.injEq] at hw
   rw [← hw];exact (List.dropLast_concat_getLast hne).symm⟩
  refine ⟨l0,w,rfl,hd,?_⟩
  have:zB5 (l0 ++ [w]) k=true:=by unfold zB5;simp [hd]
  rw [zB6,if_pos this];simp
 ·cases h
theorem zB9 {l:List DWindow} {k:Nat} (h:zB5 l k=false):zB6 l k=l ++ [⟨k,k⟩]:=by rw [zB6,if_neg (by rw [h];exact Bool.false_ne_true)]
theorem zCa {p:Nat→Bool}:∀ {k:Nat},(zB7 p k).length≤k
 | 0=>Nat.le_refl _
 | k+1=>by
  have ih:=zCa (p:=p) (k:=k)
  unfold zB7
  split
  ·cases h:zB5 (zB7 p k) k
   ·rw [zB9 h,List.length_append];simp;omega
   ·obtain ⟨l0,w,e,_,e2⟩:=zB8 h
    rw [e2];rw [e] at ih;simp at ih ⊢;omega
  ·omega
theorem zCb {p:Nat→Bool}:∀ {k:Nat},∀ w ∈ zB7 p k,0≤w.src∧w.src≤w.dst∧w.dst < k
 | 0,w,h=>by cases h
 | k+1,w,h=>by
  have ih:=zCb (p:=p) (k:=k)
  unfold zB7 at h
  split at h
  ·cases hh:zB5 (zB7 p k) k
   ·rw [zB9 hh] at h
    rcases List.mem_append.1 h with h|h
    ·have:=ih w h;omega
    ·obtain rfl:=List.mem_singleton.1 h;simp only;omega
   ·obtain ⟨l0,w',e,h1,e2⟩:=zB8 hh
    rw [e2] at h
    rcases List.mem_append.1 h with h|h
    ·have:=ih w (by rw [e];exact List.mem_append_left _ h);omega
    ·have:=ih w' (by rw [e];simp)
     obtain rfl:=List.mem_singleton.1 h;simp only;omega
  ·have:=ih w h;omega
theorem zCc {p:Nat→Bool} {k:Nat}:zB5 (zB7 p k) (k+1)=false:=by
 unfold zB5
 split
 ·rename_i w hw
  have hm:w ∈ zB7 p k:=List.mem_of_getLast? hw
  have:=zCb w hm
  exact decide_eq_false (by omega)
 ·rfl
theorem zCd {p:Nat→Bool} {k:Nat} (h:p k=true):zB7 p (k+1)=zB6 (zB7 p k) k:=by rw [zB7,if_pos h]
theorem zCe {p:Nat→Bool} {k:Nat} (h:p k=false):zB7 p (k+1)=zB7 p k:=by rw [zB7,if_neg (by rw [h];exact Bool.false_ne_true)]
theorem zCf {p:Nat→Bool} {k:Nat} (hk:k≤2881) (h:Hp):∀ w ∈ zB7 p k,Enc.ok h w:=fun w hw=>by
 have:=zCb w hw
 show I64 _∧I64 _
 unfold I64;omega
theorem zCh {l:List DWindow} {a:Int} {k:Nat}:zB5 (l ++ [⟨a,k⟩]) (k+1)=true:=by unfold zB5;simp
theorem zCi {l0:List DWindow} {w:DWindow} {k:Int}:List.take (l0.length * 2+1) ((l0 ++ [w]).flatMap Enc.enc) ++ Value.int .i64 k :: List.drop (l0.length * 2+1+1) ((l0 ++ [w]).flatMap Enc.enc)=(l0 ++ [(⟨w.src,k⟩:DWindow)]).flatMap Enc.enc :=
 zBM (α:=DWindow) (l0:=l0) (w:=w) (w':=⟨w.src,k⟩) (o:=1) (new:=[.int .i64 k]) rfl (Nat.le_refl 2)
theorem zCj {l0:List DWindow} {k:Int}:List.take (l0.length * 2+1) (l0.flatMap Enc.enc ++ [Value.int .i64 k,Value.int .i64 0]) ++ Value.int .i64 k :: List.drop (l0.length * 2+1+1) (l0.flatMap Enc.enc ++ [Value.int .i64 k,Value.int .i64 0])=(l0 ++ [(⟨k,k⟩:DWindow)]).flatMap Enc.enc:=by
 have:=zCi (l0:=l0) (w:=⟨k,0⟩) (k:=k)
 rw [List.flatMap_append] at this
 exact this
def zCk (f:zOu) (lv:Int):List DWindow:=zB7 (fun m=>decide (lv≤zBz f m)) 2881
theorem zCl (f:Nat) (cs:List Value) (p:Nat→Bool) (h:Hp) (hf:∀ k:Nat,k≤2880→Ct jV f ([.int .i64 k] ++ cs) h fun v h'=>v=.bool (p k)∧h'=h):Ct jV 285 [.func (.func f) #[] cs.toArray] h fun v h'=>∃ s:Sl DWindow,v=s.val∧s.l=zB7 p 2881∧s.Ok h'∧Mine h h' s:=by
 refine zdn (fun A W=>by simp) Tryz.func285 rfl rfl (by simp) fun W0=>?_
 refine Wk ?_
 refine zm1 (ι:=Nat) (fun k=>⟨[(0,true,.c (.v (.func (.func f) #[] cs.toArray))),(3,true,.c (.s 0)),(4,true,.c (.v (.bool (zB5 (zB7 p k) k)))),(5,true,.c (.v (.int .i64 k)))],[(0,.row 308 2 (zB7 p k).length ((zB7 p k).flatMap Enc.enc))],h,1⟩) (fun k=>k≤2881) (fun k=>2881 - k) 0 (Nat.zero_le _) [0] ?_ ?_
 ·refine Evs ?_
  exact Gk
 intro k hk
 refine Wk ?_
 refine zc9 rfl (fun hd=>?_) (fun hd=>?_)
 ·have hd:=of_decide_eq_true hd
  refine Wk ?_
  refine zhF (fun _=>hf k (by omega)) ?_
  refine Wk ?_
  refine zc9 rfl (fun hq=>?_) (fun hq=>?_)
  ·rw [Bool.not_eq_true'] at hq
   refine Wk ?_
   refine ⟨k+1,[0],by omega,by omega,?_⟩
   refine Evs ?_
   rw [zCe hq,zCc]
   exact Gi (zjA (n:=2881) (k:=k) (by omega) (by omega))
  rw [Bool.not_eq_false'] at hq
  refine Wk ?_
  refine zc9 rfl (fun ho=>?_) (fun ho=>?_)
  ·rw [Bool.not_eq_true'] at ho
   have hs:=zB9 ho
   have hle:=zCa (p:=p) (k:=k)
   have hgo:=zCd hq
   rw [hs] at hgo
   generalize zB7 p k=L0 at *
   have hw:IntKind.i64.wrap (((L0.length+1:Nat):Int) - 1)=((L0.length:Nat):Int):=by rw [zjz (by omega)];omega
   refine Wk ?_
   refine ⟨by simp only [maxLen];omega,by omega,?_⟩
   have hfl:(L0.flatMap Enc.enc).length=L0.length * 2:=ziq Enc.len _
   repeat' first|refine Wa ?_|(simp only [go_sem,jq,jj,jy,jv,jk,jx,hw];try rfl)|refine Wb ?_|fail
   refine ⟨by omega,by rw [List.length_append,hfl];simp,?_⟩
   rw [zCj]
   refine Wk ?_
   refine ⟨k+1,[2],by omega,by omega,?_⟩
   refine Evs ?_
   rw [hgo,zCh,List.length_append,List.length_singleton]
   exact Gi (zjA (n:=2881) (k:=k) (by omega) (by omega))
  ·rw [Bool.not_eq_false'] at ho
   obtain ⟨l0,w,e,hw0,hs⟩:=zB8 ho
   have hgo:=zCd hq
   rw [hs] at hgo
   have hle:=zCa (p:=p) (k:=k)
   generalize zB7 p k=L0 at *
   subst e
   have hw:IntKind.i64.wrap (((l0 ++ [w]).length:Int) - 1)=((l0.length:Nat):Int):=by rw [List.length_append] at *;rw [zjz (by simp at *;omega)];simp
   have hfl:((l0 ++ [w]).flatMap Enc.enc).length=(l0 ++ [w]).length * 2:=ziq Enc.len _
   repeat' first|refine Wa ?_|(simp only [go_sem,jq,jj,jy,jv,jk,jx,hw];try rfl)|refine Wb ?_|fail
   refine ⟨by rw [List.length_append];simp,by rw [hfl,List.length_append];simp;omega,?_⟩
   rw [zCi]
   refine Wk ?_
   refine ⟨k+1,[0],by omega,by omega,?_⟩
   refine Evs ?_
   rw [hgo,zCh,List.length_append,List.length_append,List.length_singleton,List.length_singleton,ho]
   exact Gi (zjA (n:=2881) (k:=k) (by omega) (by omega))
 ·have hd:=of_decide_eq_false hd
  have hke:k=2881:=by omega
  subst hke
  refine zc6 ?_
  refine Evs ?_
  refine zl5 0 (zB7 p 2881) rfl rfl rfl rfl (by decide) (zCf (Nat.le_refl _) h) h (Hp.le_refl _) (Mines.flat (fun _=>rfl) (fun _=>trivial)) fun s h' e1 e2 e3 e4=>?_
  refine Wk ?_
  exact ⟨s,rfl,e1,e2,e4⟩
def zCm (s:DShip):Int:=if s.slow=true then Int.tdiv s.draught 50 else Int.tdiv s.draught 20
def zCn (s:DShip):Int:=IntKind.i64.wrap (IntKind.i64.wrap (s.draught+IntKind.i64.wrap (zCm s))+50)
def zCo (c:zOv) (k:Int) (s:DShip):Bool:=zz9 c && zAk s && decide (0≤k∧k < c.segments.length)
def zCp (c:zOv) (k:Int) (s:DShip):Int:=if zCo c k s=true then IntKind.i64.wrap (zCn s - (c.segments.getD k.toNat dG).depth) else 0
def zCq (c:zOv) (k:Int) (s:DShip):Int:=if zCo c k s=true then zAU s (c.segments.getD k.toNat dG) else 0
theorem zCr {c:zOv} {k:Int} {s:DShip} (h:zCo c k s=true):zz9 c=true∧zAk s=true∧0≤k∧k < c.segments.length:=by
 simp only [zCo,jJ,decide_eq_true_eq] at h
 exact ⟨h.1.1,h.1.2,h.2.1,h.2.2⟩
theorem zCs (s:DShip) (h:Hp):Ct jV 304 [s.v] h fun v h'=>v=.int .i64 (IntKind.i64.wrap (zCm s))∧h'=h:=by
 rw [zCm]
 refine zdn (fun A W=>by simp) Tryz.func304 rfl rfl (by simp) fun W0=>?_
 refine Wk ?_
 refine zc9 rfl (fun hq=>?_) (fun hq=>?_)
 ·refine Wk ?_
  refine ⟨by decide,?_⟩
  refine Wk ?_
  rw [if_pos hq]
 ·refine Wk ?_
  refine ⟨by decide,?_⟩
  refine Wk ?_
  rw [if_neg (by rw [hq];exact Bool.false_ne_true)]
theorem zCt (s:DShip) (h:Hp):Ct jV 288 [s.v] h fun v h'=>v=.int .i64 (zCn s)∧h'=h:=by
 rw [zCn]
 refine zdn (fun A W=>by simp) Tryz.func288 rfl rfl (by simp) fun W0=>?_
 refine Wk ?_
 refine zyW rfl ?_
 refine U_t [0,2,1] rfl ?_
 refine Evs ?_
 refine U_1 3 0 [1,0] rfl rfl ?_
 refine Evs ?_
 refine zhF (fun _=>zCs _ _) ?_
 refine Evs ?_
 refine U_t [4,5,6] rfl ?_
 refine Evs ?_
 refine U_d ?_
 exact Wk0
theorem zCy (c:DChart) (k:Int) (s:DShip) (h:Hp) (hc:Enc.ok h c) (hs:Enc.ok h s):Ct jV 265 [c.v,.int .i64 k,s.v] h fun v h'=>v=.bool (zCo (Con.con c) k s)∧h'=h:=by
 have hl:=hc.2.max
 have hw:IntKind.i64.wrap ((c.segments.l.length:Int) - 1)=(c.segments.l.length:Int) - 1:=zjz (by omega)
 refine zdn (fun A W=>by simp) Tryz.func265 rfl rfl (by simp) fun W0=>?_
 repeat' first|refine Wa ?_|refine zhF (fun _=>zAi _ _ hc) ?_|refine zhF (fun _=>zAv _ _ hs) ?_|refine zhF (fun _=>zzn _ _ _) ?_|(simp only [go_sem,jq,jj,jy,jv,jk,jx];try rfl)|refine Wb ?_|fail
 congr 1
 rw [zCo,zAX,Bool.eq_iff_iff]
 simp only [jJ,decide_eq_true_eq,and_assoc]
theorem zCz (c:DChart) (k:Int) (s:DShip) (h:Hp) (hc:Enc.ok h c) (hs:Enc.ok h s):Ct jV 268 [c.v,.int .i64 k,s.v] h fun v h'=>v=.int .i64 (zCp (Con.con c) k s)∧h'=h:=by
 have hg:=hc.2
 rw [zCp]
 refine zdn (fun A W=>by simp) Tryz.func268 rfl rfl (by simp) fun W0=>?_
 repeat' first|refine Wa ?_|refine zhF (fun _=>zCy _ _ _ _ hc hs) ?_|(simp only [go_sem,jq,jj,jy,jv,jk,jx];try rfl)|refine Wb ?_|fail
 refine zc9 rfl (fun hq=>?_) (fun hq=>?_)
 ·rw [Bool.not_eq_true'] at hq
  rw [if_neg (by rw [hq];exact Bool.false_ne_true)]
  exact Wk0
 rw [Bool.not_eq_false'] at hq
 rw [if_pos hq]
 obtain ⟨h1,h2,h3,h4⟩:=zCr hq
 rw [zAX] at h4 ⊢
 have hi:k.toNat < c.segments.l.length:=by omega
 rw [gget hi]
 refine Wk ?_
 refine zyW rfl ?_
 refine U_t [0,2,4,3,5,6,7] rfl ?_
 simp only [go_sem,jq,jj,jy,jv,jk,jx,zlh hg hi,zmT hg hi,hg.some hi,h3,h4]
 refine U_1 1 0 [7,6,5,3,2] rfl rfl ?_
 simp only [go_sem,jq,jj,jy,jv,jk,jx,zlh hg hi,zmT hg hi,hg.some hi,h3,h4]
 refine zhF (fun _=>zCt _ _) ?_
 simp only [go_sem,jq,jj,jy,jv,jk,jx,zlh hg hi,zmT hg hi,hg.some hi,h3,h4]
 refine U_t [8,9] rfl ?_
 simp only [go_sem,jq,jj,jy,jv,jk,jx,zlh hg hi,zmT hg hi,hg.some hi,h3,h4]
 refine U_d ?_
 exact Wk0
theorem zCA (c:DChart) (k:Int) (s:DShip) (h:Hp) (hc:Enc.ok h c) (hs:Enc.ok h s):Ct jV 269 [c.v,.int .i64 k,s.v] h fun v h'=>v=.int .i64 (zCq (Con.con c) k s)∧h'=h:=by
 have hg:=hc.2
 rw [zCq]
 refine zdn (fun A W=>by simp) Tryz.func269 rfl rfl (by simp) fun W0=>?_
 repeat' first|refine Wa ?_|refine zhF (fun _=>zAi _ _ hc) ?_|refine zhF (fun _=>zAv _ _ hs) ?_|refine zhF (fun _=>zzn _ _ _) ?_|(simp only [go_sem,jq,jj,jy,jv,jk,jx];try rfl)|refine Wb ?_|fail
 have e:zCo (Con.con c) k s=(zz9 (Con.con c) && (zAk s && (decide (0≤k) && decide (k < (c.segments.l.length:Int))))):=by
  rw [zCo,zAX,Bool.eq_iff_iff]
  simp only [jJ,decide_eq_true_eq,and_assoc]
 refine zc9 rfl (fun hq=>?_) (fun hq=>?_)
 ·rw [if_neg (by rw [e];intro e';simp only [jJ] at e';rw [e'.1,e'.2.1,e'.2.2.1,e'.2.2.2] at hq;cases hq)]
  exact Wk0
 simp only [jp,Bool.not_eq_false',jJ,decide_eq_true_eq,and_assoc] at hq
 obtain ⟨h1,h2,h3,h4⟩:=hq
 rw [if_pos (by rw [e,h1,h2,decide_eq_true h3,decide_eq_true h4];rfl),zAX]
 have hi:k.toNat < c.segments.l.length:=by omega
 rw [gget hi]
 refine Wk ?_
 refine zyW rfl ?_
 refine U_t [0,1,3,2,4,5] rfl ?_
 simp only [go_sem,jq,jj,jy,jv,jk,jx,zlh hg hi,hg.some hi,h3,h4]
 refine U_1 6 0 [] rfl rfl ?_
 simp only [go_sem,jq,jj,jy,jv,jk,jx,zlh hg hi,hg.some hi,h3,h4]
 refine zhF (fun _=>zA2 _ _ _) ?_
 simp only [go_sem,jq,jj,jy,jv,jk,jx,zlh hg hi,hg.some hi,h3,h4]
 refine U_t [7] rfl ?_
 simp only [go_sem,jq,jj,jy,jv,jk,jx,zlh hg hi,hg.some hi,h3,h4]
 refine U_d ?_
 exact Wk0
end Go.Proofs.YtdejfjdbcggilaaGreat
