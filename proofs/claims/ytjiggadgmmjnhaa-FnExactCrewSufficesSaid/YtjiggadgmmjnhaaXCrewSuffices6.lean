/- What functions of the given program compute, each as a contract over what its arguments read as. No condition beside those that each theorem states. -/
import Derived.Test.YtjiggadgmmjnhaaS5
set_option linter.unusedVariables false
set_option linter.unusedSimpArgs false
namespace Go.Proofs.Ytjiggadgmmjnhaa
open Go Go.SL
set_option maxHeartbeats 1000000
def dP:DPoint:=⟨ByteArray.empty,false⟩
def dG:DSegment:=⟨0,0,0,0,false⟩
theorem pget {l:List DPoint} {i:Nat} (hi:i < l.length):l.getD i dP=l[i]:=by simp [List.getD_eq_getElem?_getD,hi]
theorem gget {l:List DSegment} {i:Nat} (hi:i < l.length):l.getD i dG=l[i]:=by simp [List.getD_eq_getElem?_getD,hi]
def zrs (l:List DPoint) (n:ByteArray):Int:=zrk (fun p=>decide (p.name=n)) l
theorem zrt (s:Sl DPoint):Con.con s=s.l:=List.map_id _
theorem zru (s:Sl DSegment):Con.con s=s.l:=List.map_id _
theorem zrv (s:Sl DShip):Con.con s=s.l:=List.map_id _
def zrw (s:DSegment) (a b:Int):Bool:=decide (s.a=a) && decide (s.b=b) || decide (s.a=b) && decide (s.b=a)
theorem zrx (s:DSegment) (a b:Int) (h:Hp):Ct Try.prog 100 [s.v,.int .i64 a,.int .i64 b] h fun v h'=>v=.bool (zrw s a b)∧h'=h:=by
  refine zdn (fun A W=>by simp) Try.func100 rfl rfl (by simp) fun W0=>?_
  repeat' first|refine zie rfl ?_|refine zc4 rfl ?_|refine zc7 ?_|refine zc8 ?_|refine zc5 ?_|refine zc6 ?_|(simp (maxSteps:=2000000) only [go_sem,Nat.reduceAdd,Nat.reduceMul,Nat.reduceBEq,Nat.reduceLeDiff,Nat.reduceLT,Nat.reduceEqDiff];try rfl)|refine zc3 ?_|(refine And.intro ?_ ?_;focus (intros;simp_all only [Bool.or_eq_false_iff,Bool.or_eq_true,Bool.and_eq_true,and_self,true_and,and_true];done))
theorem zry (s:DSegment) (a b:Int) (h:Hp):Ct Try.prog 106 [s.v,.int .i64 a,.int .i64 b] h fun v h'=>v=.bool (zrw s a b)∧h'=h:=by
  refine zdn (fun A W=>by simp) Try.func106 rfl rfl (by simp) fun W0=>?_
  repeat' first|refine zie rfl ?_|refine zc4 rfl ?_|refine zc7 ?_|refine zc8 ?_|refine zc5 ?_|refine zc6 ?_|(simp (maxSteps:=2000000) only [go_sem,Nat.reduceAdd,Nat.reduceMul,Nat.reduceBEq,Nat.reduceLeDiff,Nat.reduceLT,Nat.reduceEqDiff];try rfl)|refine zc3 ?_|(refine And.intro ?_ ?_;focus (intros;simp_all only [Bool.or_eq_false_iff,Bool.or_eq_true,Bool.and_eq_true,and_self,true_and,and_true];done))
def ptOk (l:List DPoint) (i:Nat):Bool:=zrh (l.getD i dP).name && decide (zrs l (l.getD i dP).name=(i:Int))
def zrz (n:Nat) (s:DSegment):Bool:=decide (0≤s.a∧s.a < n∧0≤s.b∧s.b < n∧s.a ≠ s.b∧0≤s.depth∧s.depth≤3000∧1≤s.minutes∧s.minutes≤240)
def zrA (l:List DSegment) (i:Nat):Bool:=decide (∀ j,j < i→zrw (l.getD j dG) (l.getD i dG).a (l.getD i dG).b=false)
def zrB (n:Nat) (l:List DSegment) (i:Nat):Bool:=zrz n (l.getD i dG) && zrA l i
def zrC (c:PChart):Bool:=decide (c.points.length≤8) && decide (c.segments.length≤10) && decide (∀ i,i < c.points.length→ptOk c.points i=true) && decide (∀ i,i < c.segments.length→zrB c.points.length c.segments i=true)
theorem zrD (c:DChart):zrC (Con.con c)=(decide (c.points.l.length≤8) && decide (c.segments.l.length≤10) && decide (∀ i,i < c.points.l.length→ptOk c.points.l i=true) && decide (∀ i,i < c.segments.l.length→zrB c.points.l.length c.segments.l i=true)):=by
  rw [zrC,show (Con.con c).points=c.points.l from zrt _,show (Con.con c).segments=c.segments.l from zru _]
theorem zrE {p:Nat→Bool} {n k:Nat} (hk:k < n) (h:p k=false):decide (∀ i,i < n→p i=true)=false:=decide_eq_false fun hh=>by rw [hh k hk] at h;cases h
theorem zrF {p:Nat→Bool} {k:Nat} (hp:∀ i,i < k→p i=true) (h:p k=true):∀ i,i < k+1→p i=true:=fun i hi=>by
  rcases Nat.lt_succ_iff_lt_or_eq.1 hi with hi|rfl
  · exact hp i hi
  · exact h
theorem zrG {p:Nat→Bool} {n k:Nat} (hk:n≤k) (hp:∀ i,i < k→p i=true):decide (∀ i,i < n→p i=true)=true:=decide_eq_true fun i hi=>hp i (by omega)
theorem zrH {p:Nat→Bool}:∀ i,i < 0→p i=true:=fun i hi=>absurd hi (Nat.not_lt_zero _)
theorem zrI (c:DChart) (n:ByteArray) (h:Hp) (hc:Enc.ok h c):Ct Try.prog 99 [c.v,.string n] h fun v h'=>v=.int .i64 (zrs c.points.l n)∧h'=h:=by
  have hp:=hc.1
  have hl:=hp.max
  refine zdn (fun A W=>by simp) Try.func99 rfl rfl (by simp) fun W0=>?_
  repeat' first|refine zie rfl ?_|refine zc4 rfl ?_|refine zc7 ?_|refine zc8 ?_|refine zc5 ?_|refine zc6 ?_|(simp (maxSteps:=2000000) only [go_sem,Nat.reduceAdd,Nat.reduceMul,Nat.reduceBEq,Nat.reduceLeDiff,Nat.reduceLT,Nat.reduceEqDiff];try rfl)|refine zc3 ?_|(refine And.intro ?_ ?_;focus (intros;simp_all only [Bool.or_eq_false_iff,Bool.or_eq_true,Bool.and_eq_true,and_self,true_and,and_true];done))
  refine zde (ι:=Nat) (fun k=>⟨[(1,true,.c (.v (.string n))),(8,true,.c (.v c.points.val)),(9,true,.c (.v (.int .i64 c.points.l.length))),(10,true,.c (.v (.int .i64 k)))],[],h,1⟩) (fun k=>k≤c.points.l.length∧∀ i (hi:i < c.points.l.length),i < k→(decide (c.points.l[i].name=n))=false) (fun k=>c.points.l.length - k) 0 ⟨Nat.zero_le _,fun i _ hi=>absurd hi (Nat.not_lt_zero _)⟩ ?_ ?_
  · simp (maxSteps:=2000000) only [go_sem,Nat.reduceAdd,Nat.reduceMul,Nat.reduceBEq,Nat.reduceLeDiff,Nat.reduceLT,Nat.reduceEqDiff]
    first|exact rfl|exact ⟨rfl,rfl⟩|exact ⟨rfl,rfl,rfl⟩|exact ⟨rfl,rfl,rfl,rfl⟩|exact ⟨rfl,rfl,rfl,rfl,rfl⟩
  intro k hk
  repeat' first|refine zie rfl ?_|refine zc4 rfl ?_|refine zc7 ?_|refine zc8 ?_|refine zc5 ?_|refine zc6 ?_|(simp (maxSteps:=2000000) only [go_sem,Nat.reduceAdd,Nat.reduceMul,Nat.reduceBEq,Nat.reduceLeDiff,Nat.reduceLT,Nat.reduceEqDiff];try rfl)|refine zc3 ?_|(refine And.intro ?_ ?_;focus (intros;simp_all only [Bool.or_eq_false_iff,Bool.or_eq_true,Bool.and_eq_true,and_self,true_and,and_true];done))
  refine zc9 rfl (fun hd=>?_) (fun hd=>?_)
  · have hlt:=zjH hd
    repeat' first|refine zie rfl ?_|refine zc4 rfl ?_|refine zc7 ?_|refine zc8 ?_|refine zc5 ?_|refine zc6 ?_|(simp (maxSteps:=2000000) only [go_sem,Nat.reduceAdd,Nat.reduceMul,Nat.reduceBEq,Nat.reduceLeDiff,Nat.reduceLT,Nat.reduceEqDiff,zlb hp hlt,hp.some hlt,hlt,Int.toNat_natCast];try rfl)|refine zc3 ?_|(refine And.intro ?_ ?_;focus (intros;simp_all only [Bool.or_eq_false_iff,Bool.or_eq_true,Bool.and_eq_true,and_self,true_and,and_true];done))
    refine zc9 rfl (fun hq=>?_) (fun hq=>?_)
    · repeat' first|refine zie rfl ?_|refine zc4 rfl ?_|refine zc7 ?_|refine zc8 ?_|refine zc5 ?_|refine zc6 ?_|(simp (maxSteps:=2000000) only [go_sem,Nat.reduceAdd,Nat.reduceMul,Nat.reduceBEq,Nat.reduceLeDiff,Nat.reduceLT,Nat.reduceEqDiff];try rfl)|refine zc3 ?_|(refine And.intro ?_ ?_;focus (intros;simp_all only [Bool.or_eq_false_iff,Bool.or_eq_true,Bool.and_eq_true,and_self,true_and,and_true];done))
      rw [zrs,zrl hlt hq hk.2]
    · repeat' first|refine zie rfl ?_|refine zc4 rfl ?_|refine zc7 ?_|refine zc8 ?_|refine zc5 ?_|refine zc6 ?_|(simp (maxSteps:=2000000) only [go_sem,Nat.reduceAdd,Nat.reduceMul,Nat.reduceBEq,Nat.reduceLeDiff,Nat.reduceLT,Nat.reduceEqDiff];try rfl)|refine zc3 ?_|(refine And.intro ?_ ?_;focus (intros;simp_all only [Bool.or_eq_false_iff,Bool.or_eq_true,Bool.and_eq_true,and_self,true_and,and_true];done))
      refine ⟨k+1,⟨hlt,fun i hi hik=>?_⟩,by omega,zjB (zjA hlt (by omega))⟩
      rcases Nat.lt_succ_iff_lt_or_eq.1 hik with hik|rfl
      · exact hk.2 i hi hik
      · exact hq
  · have hge:=zjI hd
    repeat' first|refine zie rfl ?_|refine zc4 rfl ?_|refine zc7 ?_|refine zc8 ?_|refine zc5 ?_|refine zc6 ?_|(simp (maxSteps:=2000000) only [go_sem,Nat.reduceAdd,Nat.reduceMul,Nat.reduceBEq,Nat.reduceLeDiff,Nat.reduceLT,Nat.reduceEqDiff];try rfl)|refine zc3 ?_|(refine And.intro ?_ ?_;focus (intros;simp_all only [Bool.or_eq_false_iff,Bool.or_eq_true,Bool.and_eq_true,and_self,true_and,and_true];done))
    rw [zrs,zrm (fun i hi=>hk.2 i hi (by omega))]
theorem zrJ (c:DChart) (n:ByteArray) (h:Hp) (hc:Enc.ok h c):Ct Try.prog 105 [c.v,.string n] h fun v h'=>v=.int .i64 (zrs c.points.l n)∧h'=h:=by
  have hp:=hc.1
  have hl:=hp.max
  refine zdn (fun A W=>by simp) Try.func105 rfl rfl (by simp) fun W0=>?_
  repeat' first|refine zie rfl ?_|refine zc4 rfl ?_|refine zc7 ?_|refine zc8 ?_|refine zc5 ?_|refine zc6 ?_|(simp (maxSteps:=2000000) only [go_sem,Nat.reduceAdd,Nat.reduceMul,Nat.reduceBEq,Nat.reduceLeDiff,Nat.reduceLT,Nat.reduceEqDiff];try rfl)|refine zc3 ?_|(refine And.intro ?_ ?_;focus (intros;simp_all only [Bool.or_eq_false_iff,Bool.or_eq_true,Bool.and_eq_true,and_self,true_and,and_true];done))
  refine zde (ι:=Nat) (fun k=>⟨[(1,true,.c (.v (.string n))),(8,true,.c (.v c.points.val)),(9,true,.c (.v (.int .i64 c.points.l.length))),(10,true,.c (.v (.int .i64 k)))],[],h,1⟩) (fun k=>k≤c.points.l.length∧∀ i (hi:i < c.points.l.length),i < k→(decide (c.points.l[i].name=n))=false) (fun k=>c.points.l.length - k) 0 ⟨Nat.zero_le _,fun i _ hi=>absurd hi (Nat.not_lt_zero _)⟩ ?_ ?_
  · simp (maxSteps:=2000000) only [go_sem,Nat.reduceAdd,Nat.reduceMul,Nat.reduceBEq,Nat.reduceLeDiff,Nat.reduceLT,Nat.reduceEqDiff]
    first|exact rfl|exact ⟨rfl,rfl⟩|exact ⟨rfl,rfl,rfl⟩|exact ⟨rfl,rfl,rfl,rfl⟩|exact ⟨rfl,rfl,rfl,rfl,rfl⟩
  intro k hk
  repeat' first|refine zie rfl ?_|refine zc4 rfl ?_|refine zc7 ?_|refine zc8 ?_|refine zc5 ?_|refine zc6 ?_|(simp (maxSteps:=2000000) only [go_sem,Nat.reduceAdd,Nat.reduceMul,Nat.reduceBEq,Nat.reduceLeDiff,Nat.reduceLT,Nat.reduceEqDiff];try rfl)|refine zc3 ?_|(refine And.intro ?_ ?_;focus (intros;simp_all only [Bool.or_eq_false_iff,Bool.or_eq_true,Bool.and_eq_true,and_self,true_and,and_true];done))
  refine zc9 rfl (fun hd=>?_) (fun hd=>?_)
  · have hlt:=zjH hd
    repeat' first|refine zie rfl ?_|refine zc4 rfl ?_|refine zc7 ?_|refine zc8 ?_|refine zc5 ?_|refine zc6 ?_|(simp (maxSteps:=2000000) only [go_sem,Nat.reduceAdd,Nat.reduceMul,Nat.reduceBEq,Nat.reduceLeDiff,Nat.reduceLT,Nat.reduceEqDiff,zlb hp hlt,hp.some hlt,hlt,Int.toNat_natCast];try rfl)|refine zc3 ?_|(refine And.intro ?_ ?_;focus (intros;simp_all only [Bool.or_eq_false_iff,Bool.or_eq_true,Bool.and_eq_true,and_self,true_and,and_true];done))
    refine zc9 rfl (fun hq=>?_) (fun hq=>?_)
    · repeat' first|refine zie rfl ?_|refine zc4 rfl ?_|refine zc7 ?_|refine zc8 ?_|refine zc5 ?_|refine zc6 ?_|(simp (maxSteps:=2000000) only [go_sem,Nat.reduceAdd,Nat.reduceMul,Nat.reduceBEq,Nat.reduceLeDiff,Nat.reduceLT,Nat.reduceEqDiff];try rfl)|refine zc3 ?_|(refine And.intro ?_ ?_;focus (intros;simp_all only [Bool.or_eq_false_iff,Bool.or_eq_true,Bool.and_eq_true,and_self,true_and,and_true];done))
      rw [zrs,zrl hlt hq hk.2]
    · repeat' first|refine zie rfl ?_|refine zc4 rfl ?_|refine zc7 ?_|refine zc8 ?_|refine zc5 ?_|refine zc6 ?_|(simp (maxSteps:=2000000) only [go_sem,Nat.reduceAdd,Nat.reduceMul,Nat.reduceBEq,Nat.reduceLeDiff,Nat.reduceLT,Nat.reduceEqDiff];try rfl)|refine zc3 ?_|(refine And.intro ?_ ?_;focus (intros;simp_all only [Bool.or_eq_false_iff,Bool.or_eq_true,Bool.and_eq_true,and_self,true_and,and_true];done))
      refine ⟨k+1,⟨hlt,fun i hi hik=>?_⟩,by omega,zjB (zjA hlt (by omega))⟩
      rcases Nat.lt_succ_iff_lt_or_eq.1 hik with hik|rfl
      · exact hk.2 i hi hik
      · exact hq
  · have hge:=zjI hd
    repeat' first|refine zie rfl ?_|refine zc4 rfl ?_|refine zc7 ?_|refine zc8 ?_|refine zc5 ?_|refine zc6 ?_|(simp (maxSteps:=2000000) only [go_sem,Nat.reduceAdd,Nat.reduceMul,Nat.reduceBEq,Nat.reduceLeDiff,Nat.reduceLT,Nat.reduceEqDiff];try rfl)|refine zc3 ?_|(refine And.intro ?_ ?_;focus (intros;simp_all only [Bool.or_eq_false_iff,Bool.or_eq_true,Bool.and_eq_true,and_self,true_and,and_true];done))
    rw [zrs,zrm (fun i hi=>hk.2 i hi (by omega))]
theorem zrK (c:DChart) (h:Hp) (hc:Enc.ok h c):Ct Try.prog 91 [c.v] h fun v h'=>v=.bool (zrC (Con.con c))∧h'=h:=by
  have hp:=hc.1
  have hg:=hc.2
  have hl:=hp.max
  have hl2:=hg.max
  have hw:IntKind.i64.wrap ((c.points.l.length:Int) - 1)=(c.points.l.length:Int) - 1:=zjz (by omega)
  rw [zrD]
  refine zdn (fun A W=>by simp) Try.func91 rfl rfl (by simp) fun W0=>?_
  repeat' first|refine zie rfl ?_|refine zc4 rfl ?_|refine zc7 ?_|refine zc8 ?_|refine zc5 ?_|refine zc6 ?_|(simp (maxSteps:=2000000) only [go_sem,Nat.reduceAdd,Nat.reduceMul,Nat.reduceBEq,Nat.reduceLeDiff,Nat.reduceLT,Nat.reduceEqDiff];try rfl)|refine zc3 ?_|(refine And.intro ?_ ?_;focus (intros;simp_all only [Bool.or_eq_false_iff,Bool.or_eq_true,Bool.and_eq_true,and_self,true_and,and_true];done))
  refine zc9 rfl (fun hc1=>?_) (fun hc1=>?_)
  · repeat' first|refine zie rfl ?_|refine zc4 rfl ?_|refine zc7 ?_|refine zc8 ?_|refine zc5 ?_|refine zc6 ?_|(simp (maxSteps:=2000000) only [go_sem,Nat.reduceAdd,Nat.reduceMul,Nat.reduceBEq,Nat.reduceLeDiff,Nat.reduceLT,Nat.reduceEqDiff];try rfl)|refine zc3 ?_|(refine And.intro ?_ ?_;focus (intros;simp_all only [Bool.or_eq_false_iff,Bool.or_eq_true,Bool.and_eq_true,and_self,true_and,and_true];done))
    congr 1
    rcases (Bool.or_eq_true _ _).mp hc1 with h1|h1
    · rw [decide_eq_false (by have:=of_decide_eq_true h1;omega)];rfl
    · rw [decide_eq_false (p:=c.segments.l.length≤10) (by have:=of_decide_eq_true h1;omega),Bool.and_false];rfl
  obtain ⟨hc2,hc3⟩:=Bool.or_eq_false_iff.1 hc1
  have hc2:=of_decide_eq_false hc2
  have hc3:=of_decide_eq_false hc3
  rw [decide_eq_true (show c.points.l.length≤8 by omega),decide_eq_true (show c.segments.l.length≤10 by omega),Bool.and_self,Bool.true_and]
  repeat' first|refine zie rfl ?_|refine zc4 rfl ?_|refine zc7 ?_|refine zc8 ?_|refine zc5 ?_|refine zc6 ?_|(simp (maxSteps:=2000000) only [go_sem,Nat.reduceAdd,Nat.reduceMul,Nat.reduceBEq,Nat.reduceLeDiff,Nat.reduceLT,Nat.reduceEqDiff];try rfl)|refine zc3 ?_|(refine And.intro ?_ ?_;focus (intros;simp_all only [Bool.or_eq_false_iff,Bool.or_eq_true,Bool.and_eq_true,and_self,true_and,and_true];done))
  refine zde (ι:=Nat) (fun k=>⟨[(1,true,.c (.p 0 0)),(20,true,.c (.v c.points.val)),(21,true,.c (.v (.int .i64 c.points.l.length))),(22,true,.c (.v (.int .i64 k)))],[(0,.box 53 [.v c.points.val,.v c.segments.val])],h,1⟩) (fun k=>k≤c.points.l.length∧∀ i,i < k→ptOk c.points.l i=true) (fun k=>c.points.l.length - k) 0 ⟨Nat.zero_le _,zrH⟩ ?_ ?_
  · simp (maxSteps:=2000000) only [go_sem,Nat.reduceAdd,Nat.reduceMul,Nat.reduceBEq,Nat.reduceLeDiff,Nat.reduceLT,Nat.reduceEqDiff]
    first|exact rfl|exact ⟨rfl,rfl⟩|exact ⟨rfl,rfl,rfl⟩|exact ⟨rfl,rfl,rfl,rfl⟩|exact ⟨rfl,rfl,rfl,rfl,rfl⟩
  · intro k hk
    repeat' first|refine zie rfl ?_|refine zc4 rfl ?_|refine zc7 ?_|refine zc8 ?_|refine zc5 ?_|refine zc6 ?_|(simp (maxSteps:=2000000) only [go_sem,Nat.reduceAdd,Nat.reduceMul,Nat.reduceBEq,Nat.reduceLeDiff,Nat.reduceLT,Nat.reduceEqDiff];try rfl)|refine zc3 ?_|(refine And.intro ?_ ?_;focus (intros;simp_all only [Bool.or_eq_false_iff,Bool.or_eq_true,Bool.and_eq_true,and_self,true_and,and_true];done))
    refine zc9 rfl (fun hd=>?_) (fun hd=>?_)
    · have hlt:=zjH hd
      repeat' first|refine zie rfl ?_|refine zc4 rfl ?_|refine zc7 ?_|refine zc8 ?_|refine zc5 ?_|refine zc6 ?_|refine zhF (fun _=>zri _ _ (hp.el hlt)) ?_|refine zhF (fun _=>zrI c _ _ hc) ?_|(simp (maxSteps:=2000000) only [go_sem,Nat.reduceAdd,Nat.reduceMul,Nat.reduceBEq,Nat.reduceLeDiff,Nat.reduceLT,Nat.reduceEqDiff,zlb hp hlt,hp.some hlt,hlt,Int.toNat_natCast];try rfl)|refine zc3 ?_|(refine And.intro ?_ ?_;focus (intros;simp_all only [Bool.or_eq_false_iff,Bool.or_eq_true,Bool.and_eq_true,and_self,true_and,and_true];done))
      refine zc9 rfl (fun hq=>?_) (fun hq=>?_)
      · repeat' first|refine zie rfl ?_|refine zc4 rfl ?_|refine zc7 ?_|refine zc8 ?_|refine zc5 ?_|refine zc6 ?_|(simp (maxSteps:=2000000) only [go_sem,Nat.reduceAdd,Nat.reduceMul,Nat.reduceBEq,Nat.reduceLeDiff,Nat.reduceLT,Nat.reduceEqDiff];try rfl)|refine zc3 ?_|(refine And.intro ?_ ?_;focus (intros;simp_all only [Bool.or_eq_false_iff,Bool.or_eq_true,Bool.and_eq_true,and_self,true_and,and_true];done))
        rw [zrE hlt ?_];rfl
        rw [ptOk,pget hlt]
        rcases (Bool.or_eq_true _ _).mp hq with h1|h1
        · rw [Bool.not_eq_true'] at h1;rw [h1];rfl
        · rw [decide_eq_false (zjD h1),Bool.and_false]
      · obtain ⟨h1,h2⟩:=Bool.or_eq_false_iff.1 hq
        rw [Bool.not_eq_false'] at h1
        repeat' first|refine zie rfl ?_|refine zc4 rfl ?_|refine zc7 ?_|refine zc8 ?_|refine zc5 ?_|refine zc6 ?_|(simp (maxSteps:=2000000) only [go_sem,Nat.reduceAdd,Nat.reduceMul,Nat.reduceBEq,Nat.reduceLeDiff,Nat.reduceLT,Nat.reduceEqDiff];try rfl)|refine zc3 ?_|(refine And.intro ?_ ?_;focus (intros;simp_all only [Bool.or_eq_false_iff,Bool.or_eq_true,Bool.and_eq_true,and_self,true_and,and_true];done))
        exact ⟨k+1,⟨hlt,zrF hk.2 (by rw [ptOk,pget hlt,h1,decide_eq_true (zjE h2)];rfl)⟩,by omega,zjB (zjA hlt (by omega))⟩
    · have hge:=zjI hd
      rw [zrG hge hk.2,Bool.true_and]
      repeat' first|refine zie rfl ?_|refine zc4 rfl ?_|refine zc7 ?_|refine zc8 ?_|refine zc5 ?_|refine zc6 ?_|(simp (maxSteps:=2000000) only [go_sem,Nat.reduceAdd,Nat.reduceMul,Nat.reduceBEq,Nat.reduceLeDiff,Nat.reduceLT,Nat.reduceEqDiff];try rfl)|refine zc3 ?_|(refine And.intro ?_ ?_;focus (intros;simp_all only [Bool.or_eq_false_iff,Bool.or_eq_true,Bool.and_eq_true,and_self,true_and,and_true];done))
      refine zde (ι:=Nat) (fun k=>⟨[(1,true,.c (.p 0 0)),(41,true,.c (.v c.segments.val)),(42,true,.c (.v (.int .i64 c.segments.l.length))),(43,true,.c (.v (.int .i64 k)))],[(0,.box 53 [.v c.points.val,.v c.segments.val])],h,1⟩) (fun k=>k≤c.segments.l.length∧∀ i,i < k→zrB c.points.l.length c.segments.l i=true) (fun k=>c.segments.l.length - k) 0 ⟨Nat.zero_le _,zrH⟩ ?_ ?_
      · simp (maxSteps:=2000000) only [go_sem,Nat.reduceAdd,Nat.reduceMul,Nat.reduceBEq,Nat.reduceLeDiff,Nat.reduceLT,Nat.reduceEqDiff]
        first|exact rfl|exact ⟨rfl,rfl⟩|exact ⟨rfl,rfl,rfl⟩|exact ⟨rfl,rfl,rfl,rfl⟩|exact ⟨rfl,rfl,rfl,rfl,rfl⟩
      intro k hk
      repeat' first|refine zie rfl ?_|refine zc4 rfl ?_|refine zc7 ?_|refine zc8 ?_|refine zc5 ?_|refine zc6 ?_|(simp (maxSteps:=2000000) only [go_sem,Nat.reduceAdd,Nat.reduceMul,Nat.reduceBEq,Nat.reduceLeDiff,Nat.reduceLT,Nat.reduceEqDiff];try rfl)|refine zc3 ?_|(refine And.intro ?_ ?_;focus (intros;simp_all only [Bool.or_eq_false_iff,Bool.or_eq_true,Bool.and_eq_true,and_self,true_and,and_true];done))
      refine zc9 rfl (fun hd=>?_) (fun hd=>?_)
      · have hlt:=zjH hd
        repeat' first|refine zie rfl ?_|refine zc4 rfl ?_|refine zc7 ?_|refine zc8 ?_|refine zc5 ?_|refine zc6 ?_|refine zhF (fun _=>zrc _ _ _ _) ?_|refine zhF (fun _=>zrc _ _ _ _) ?_|(simp (maxSteps:=2000000) only [go_sem,Nat.reduceAdd,Nat.reduceMul,Nat.reduceBEq,Nat.reduceLeDiff,Nat.reduceLT,Nat.reduceEqDiff,zld hg hlt,hg.some hlt,hlt,Int.toNat_natCast,hw];try rfl)|refine zc3 ?_|(refine And.intro ?_ ?_;focus (intros;simp_all only [Bool.or_eq_false_iff,Bool.or_eq_true,Bool.and_eq_true,and_self,true_and,and_true];done))
        refine zc9 rfl (fun hq=>?_) (fun hq=>?_)
        · repeat' first|refine zie rfl ?_|refine zc4 rfl ?_|refine zc7 ?_|refine zc8 ?_|refine zc5 ?_|refine zc6 ?_|(simp (maxSteps:=2000000) only [go_sem,Nat.reduceAdd,Nat.reduceMul,Nat.reduceBEq,Nat.reduceLeDiff,Nat.reduceLT,Nat.reduceEqDiff];try rfl)|refine zc3 ?_|(refine And.intro ?_ ?_;focus (intros;simp_all only [Bool.or_eq_false_iff,Bool.or_eq_true,Bool.and_eq_true,and_self,true_and,and_true];done))
          rw [zrE hlt ?_]
          rw [zrB,gget hlt,zrz,decide_eq_false ?_,Bool.false_and]
          simp only [Bool.or_eq_true,Bool.not_eq_true',Bool.and_eq_false_iff,decide_eq_false_iff_not,beq_iff_eq] at hq
          omega
        · have hin:zrz c.points.l.length c.segments.l[k]=true:=by
            simp only [Bool.or_eq_false_iff,Bool.not_eq_false',Bool.and_eq_true,decide_eq_true_eq,beq_eq_false_iff_ne] at hq
            rw [zrz]
            refine decide_eq_true ?_
            omega
          have hgo:=Sl.to_ok hg k
          have hlt0:=Sl.to_len hk.1
          have hcap:=hg.1
          repeat' first|refine zie rfl ?_|refine zc4 rfl ?_|refine zc7 ?_|refine zc8 ?_|refine zc5 ?_|refine zc6 ?_|(simp (maxSteps:=2000000) only [go_sem,Nat.reduceAdd,Nat.reduceMul,Nat.reduceBEq,Nat.reduceLeDiff,Nat.reduceLT,Nat.reduceEqDiff];try rfl)|refine zc3 ?_|(refine And.intro ?_ ?_;focus (intros;simp_all only [Bool.or_eq_false_iff,Bool.or_eq_true,Bool.and_eq_true,and_self,true_and,and_true];done))
          refine ⟨by omega,?_⟩
          simp only [Int.toNat_zero,Nat.sub_zero,Nat.zero_mul,zrp,zrq,ite_self]
          rw [zrr hk.1]
          repeat' first|refine zie rfl ?_|refine zc4 rfl ?_|refine zc7 ?_|refine zc8 ?_|refine zc5 ?_|refine zc6 ?_|(simp (maxSteps:=2000000) only [go_sem,Nat.reduceAdd,Nat.reduceMul,Nat.reduceBEq,Nat.reduceLeDiff,Nat.reduceLT,Nat.reduceEqDiff];try rfl)|refine zc3 ?_|(refine And.intro ?_ ?_;focus (intros;simp_all only [Bool.or_eq_false_iff,Bool.or_eq_true,Bool.and_eq_true,and_self,true_and,and_true];done))
          refine zde (ι:=Nat) (fun j=>⟨[(1,true,.c (.p 0 0)),(6,true,.c (.p 1 0)),(41,true,.c (.v c.segments.val)),(42,true,.c (.v (.int .i64 c.segments.l.length))),(43,true,.c (.v (.int .i64 k))),(88,true,.c (.v (c.segments.to k).val)),(89,true,.c (.v (.int .i64 k))),(90,true,.c (.v (.int .i64 j)))],[(0,.box 53 [.v c.points.val,.v c.segments.val]),(1,.box 130 [.v (.int .i64 c.segments.l[k].a),.v (.int .i64 c.segments.l[k].b),.v (.int .i64 c.segments.l[k].depth),.v (.int .i64 c.segments.l[k].minutes),.v (.bool c.segments.l[k].meet)])],h,2⟩) (fun j=>j≤k∧∀ i,i < j→zrw (c.segments.l.getD i dG) c.segments.l[k].a c.segments.l[k].b=false) (fun j=>k - j) 0 ⟨Nat.zero_le _,fun i hi=>absurd hi (Nat.not_lt_zero _)⟩ ?_ ?_
          · simp (maxSteps:=2000000) only [go_sem,Nat.reduceAdd,Nat.reduceMul,Nat.reduceBEq,Nat.reduceLeDiff,Nat.reduceLT,Nat.reduceEqDiff]
            first|exact rfl|exact ⟨rfl,rfl⟩|exact ⟨rfl,rfl,rfl⟩|exact ⟨rfl,rfl,rfl,rfl⟩|exact ⟨rfl,rfl,rfl,rfl,rfl⟩
          intro j hj
          repeat' first|refine zie rfl ?_|refine zc4 rfl ?_|refine zc7 ?_|refine zc8 ?_|refine zc5 ?_|refine zc6 ?_|(simp (maxSteps:=2000000) only [go_sem,Nat.reduceAdd,Nat.reduceMul,Nat.reduceBEq,Nat.reduceLeDiff,Nat.reduceLT,Nat.reduceEqDiff];try rfl)|refine zc3 ?_|(refine And.intro ?_ ?_;focus (intros;simp_all only [Bool.or_eq_false_iff,Bool.or_eq_true,Bool.and_eq_true,and_self,true_and,and_true];done))
          refine zc9 rfl (fun hq2=>?_) (fun hq2=>?_)
          · have hltj:=zjH hq2
            have hltj':j < (c.segments.to k).l.length:=by omega
            have hltj2:j < c.segments.l.length:=by omega
            have hje:=Sl.to_get hltj' hltj2
            repeat' first|refine zie rfl ?_|refine zc4 rfl ?_|refine zc7 ?_|refine zc8 ?_|refine zc5 ?_|refine zc6 ?_|refine zhF (fun _=>zrx _ _ _ _) ?_|(simp (maxSteps:=2000000) only [go_sem,Nat.reduceAdd,Nat.reduceMul,Nat.reduceBEq,Nat.reduceLeDiff,Nat.reduceLT,Nat.reduceEqDiff,zld hgo hltj',hgo.some hltj',hltj',hltj,Int.toNat_natCast,hje];try rfl)|refine zc3 ?_|(refine And.intro ?_ ?_;focus (intros;simp_all only [Bool.or_eq_false_iff,Bool.or_eq_true,Bool.and_eq_true,and_self,true_and,and_true];done))
            refine zc9 rfl (fun hq3=>?_) (fun hq3=>?_)
            · repeat' first|refine zie rfl ?_|refine zc4 rfl ?_|refine zc7 ?_|refine zc8 ?_|refine zc5 ?_|refine zc6 ?_|(simp (maxSteps:=2000000) only [go_sem,Nat.reduceAdd,Nat.reduceMul,Nat.reduceBEq,Nat.reduceLeDiff,Nat.reduceLT,Nat.reduceEqDiff];try rfl)|refine zc3 ?_|(refine And.intro ?_ ?_;focus (intros;simp_all only [Bool.or_eq_false_iff,Bool.or_eq_true,Bool.and_eq_true,and_self,true_and,and_true];done))
              rw [zrE hlt ?_]
              rw [zrB,gget hlt,hin,Bool.true_and,zrA]
              refine decide_eq_false fun hh=>?_
              have:=hh j hltj
              rw [gget hltj2,gget hlt,hq3] at this
              cases this
            · repeat' first|refine zie rfl ?_|refine zc4 rfl ?_|refine zc7 ?_|refine zc8 ?_|refine zc5 ?_|refine zc6 ?_|(simp (maxSteps:=2000000) only [go_sem,Nat.reduceAdd,Nat.reduceMul,Nat.reduceBEq,Nat.reduceLeDiff,Nat.reduceLT,Nat.reduceEqDiff];try rfl)|refine zc3 ?_|(refine And.intro ?_ ?_;focus (intros;simp_all only [Bool.or_eq_false_iff,Bool.or_eq_true,Bool.and_eq_true,and_self,true_and,and_true];done))
              exact ⟨j+1,⟨hltj,fun i hi=>by
                rcases Nat.lt_succ_iff_lt_or_eq.1 hi with hi|rfl
                · exact hj.2 i hi
                · rw [gget hltj2];exact hq3⟩,by omega,zjB (zjA hltj (by omega))⟩
          · have hgej:=zjI hq2
            repeat' first|refine zie rfl ?_|refine zc4 rfl ?_|refine zc7 ?_|refine zc8 ?_|refine zc5 ?_|refine zc6 ?_|(simp (maxSteps:=2000000) only [go_sem,Nat.reduceAdd,Nat.reduceMul,Nat.reduceBEq,Nat.reduceLeDiff,Nat.reduceLT,Nat.reduceEqDiff];try rfl)|refine zc3 ?_|(refine And.intro ?_ ?_;focus (intros;simp_all only [Bool.or_eq_false_iff,Bool.or_eq_true,Bool.and_eq_true,and_self,true_and,and_true];done))
            refine ⟨k+1,⟨hlt,zrF hk.2 ?_⟩,by omega,zjB (zjA hlt (by omega))⟩
            rw [zrB,gget hlt,hin,Bool.true_and,zrA]
            refine decide_eq_true fun i hi=>?_
            rw [gget hlt];exact hj.2 i (by omega)
      · have hge:=zjI hd
        repeat' first|refine zie rfl ?_|refine zc4 rfl ?_|refine zc7 ?_|refine zc8 ?_|refine zc5 ?_|refine zc6 ?_|(simp (maxSteps:=2000000) only [go_sem,Nat.reduceAdd,Nat.reduceMul,Nat.reduceBEq,Nat.reduceLeDiff,Nat.reduceLT,Nat.reduceEqDiff];try rfl)|refine zc3 ?_|(refine And.intro ?_ ?_;focus (intros;simp_all only [Bool.or_eq_false_iff,Bool.or_eq_true,Bool.and_eq_true,and_self,true_and,and_true];done))
        rw [zrG hge hk.2]
theorem zrL (c:DChart) (h:Hp) (hc:Enc.ok h c):Ct Try.prog 94 [c.v] h fun v h'=>v=.bool (zrC (Con.con c))∧h'=h:=by
  have hp:=hc.1
  have hg:=hc.2
  have hl:=hp.max
  have hl2:=hg.max
  have hw:IntKind.i64.wrap ((c.points.l.length:Int) - 1)=(c.points.l.length:Int) - 1:=zjz (by omega)
  rw [zrD]
  refine zdn (fun A W=>by simp) Try.func94 rfl rfl (by simp) fun W0=>?_
  repeat' first|refine zie rfl ?_|refine zc4 rfl ?_|refine zc7 ?_|refine zc8 ?_|refine zc5 ?_|refine zc6 ?_|(simp (maxSteps:=2000000) only [go_sem,Nat.reduceAdd,Nat.reduceMul,Nat.reduceBEq,Nat.reduceLeDiff,Nat.reduceLT,Nat.reduceEqDiff];try rfl)|refine zc3 ?_|(refine And.intro ?_ ?_;focus (intros;simp_all only [Bool.or_eq_false_iff,Bool.or_eq_true,Bool.and_eq_true,and_self,true_and,and_true];done))
  refine zc9 rfl (fun hc1=>?_) (fun hc1=>?_)
  · repeat' first|refine zie rfl ?_|refine zc4 rfl ?_|refine zc7 ?_|refine zc8 ?_|refine zc5 ?_|refine zc6 ?_|(simp (maxSteps:=2000000) only [go_sem,Nat.reduceAdd,Nat.reduceMul,Nat.reduceBEq,Nat.reduceLeDiff,Nat.reduceLT,Nat.reduceEqDiff];try rfl)|refine zc3 ?_|(refine And.intro ?_ ?_;focus (intros;simp_all only [Bool.or_eq_false_iff,Bool.or_eq_true,Bool.and_eq_true,and_self,true_and,and_true];done))
    congr 1
    rcases (Bool.or_eq_true _ _).mp hc1 with h1|h1
    · rw [decide_eq_false (by have:=of_decide_eq_true h1;omega)];rfl
    · rw [decide_eq_false (p:=c.segments.l.length≤10) (by have:=of_decide_eq_true h1;omega),Bool.and_false];rfl
  obtain ⟨hc2,hc3⟩:=Bool.or_eq_false_iff.1 hc1
  have hc2:=of_decide_eq_false hc2
  have hc3:=of_decide_eq_false hc3
  rw [decide_eq_true (show c.points.l.length≤8 by omega),decide_eq_true (show c.segments.l.length≤10 by omega),Bool.and_self,Bool.true_and]
  repeat' first|refine zie rfl ?_|refine zc4 rfl ?_|refine zc7 ?_|refine zc8 ?_|refine zc5 ?_|refine zc6 ?_|(simp (maxSteps:=2000000) only [go_sem,Nat.reduceAdd,Nat.reduceMul,Nat.reduceBEq,Nat.reduceLeDiff,Nat.reduceLT,Nat.reduceEqDiff];try rfl)|refine zc3 ?_|(refine And.intro ?_ ?_;focus (intros;simp_all only [Bool.or_eq_false_iff,Bool.or_eq_true,Bool.and_eq_true,and_self,true_and,and_true];done))
  refine zde (ι:=Nat) (fun k=>⟨[(1,true,.c (.p 0 0)),(20,true,.c (.v c.points.val)),(21,true,.c (.v (.int .i64 c.points.l.length))),(22,true,.c (.v (.int .i64 k)))],[(0,.box 53 [.v c.points.val,.v c.segments.val])],h,1⟩) (fun k=>k≤c.points.l.length∧∀ i,i < k→ptOk c.points.l i=true) (fun k=>c.points.l.length - k) 0 ⟨Nat.zero_le _,zrH⟩ ?_ ?_
  · simp (maxSteps:=2000000) only [go_sem,Nat.reduceAdd,Nat.reduceMul,Nat.reduceBEq,Nat.reduceLeDiff,Nat.reduceLT,Nat.reduceEqDiff]
    first|exact rfl|exact ⟨rfl,rfl⟩|exact ⟨rfl,rfl,rfl⟩|exact ⟨rfl,rfl,rfl,rfl⟩|exact ⟨rfl,rfl,rfl,rfl,rfl⟩
  · intro k hk
    repeat' first|refine zie rfl ?_|refine zc4 rfl ?_|refine zc7 ?_|refine zc8 ?_|refine zc5 ?_|refine zc6 ?_|(simp (maxSteps:=2000000) only [go_sem,Nat.reduceAdd,Nat.reduceMul,Nat.reduceBEq,Nat.reduceLeDiff,Nat.reduceLT,Nat.reduceEqDiff];try rfl)|refine zc3 ?_|(refine And.intro ?_ ?_;focus (intros;simp_all only [Bool.or_eq_false_iff,Bool.or_eq_true,Bool.and_eq_true,and_self,true_and,and_true];done))
    refine zc9 rfl (fun hd=>?_) (fun hd=>?_)
    · have hlt:=zjH hd
      repeat' first|refine zie rfl ?_|refine zc4 rfl ?_|refine zc7 ?_|refine zc8 ?_|refine zc5 ?_|refine zc6 ?_|refine zhF (fun _=>zrj _ _ (hp.el hlt)) ?_|refine zhF (fun _=>zrJ c _ _ hc) ?_|(simp (maxSteps:=2000000) only [go_sem,Nat.reduceAdd,Nat.reduceMul,Nat.reduceBEq,Nat.reduceLeDiff,Nat.reduceLT,Nat.reduceEqDiff,zlb hp hlt,hp.some hlt,hlt,Int.toNat_natCast];try rfl)|refine zc3 ?_|(refine And.intro ?_ ?_;focus (intros;simp_all only [Bool.or_eq_false_iff,Bool.or_eq_true,Bool.and_eq_true,and_self,true_and,and_true];done))
      refine zc9 rfl (fun hq=>?_) (fun hq=>?_)
      · repeat' first|refine zie rfl ?_|refine zc4 rfl ?_|refine zc7 ?_|refine zc8 ?_|refine zc5 ?_|refine zc6 ?_|(simp (maxSteps:=2000000) only [go_sem,Nat.reduceAdd,Nat.reduceMul,Nat.reduceBEq,Nat.reduceLeDiff,Nat.reduceLT,Nat.reduceEqDiff];try rfl)|refine zc3 ?_|(refine And.intro ?_ ?_;focus (intros;simp_all only [Bool.or_eq_false_iff,Bool.or_eq_true,Bool.and_eq_true,and_self,true_and,and_true];done))
        rw [zrE hlt ?_];rfl
        rw [ptOk,pget hlt]
        rcases (Bool.or_eq_true _ _).mp hq with h1|h1
        · rw [Bool.not_eq_true'] at h1;rw [h1];rfl
        · rw [decide_eq_false (zjD h1),Bool.and_false]
      · obtain ⟨h1,h2⟩:=Bool.or_eq_false_iff.1 hq
        rw [Bool.not_eq_false'] at h1
        repeat' first|refine zie rfl ?_|refine zc4 rfl ?_|refine zc7 ?_|refine zc8 ?_|refine zc5 ?_|refine zc6 ?_|(simp (maxSteps:=2000000) only [go_sem,Nat.reduceAdd,Nat.reduceMul,Nat.reduceBEq,Nat.reduceLeDiff,Nat.reduceLT,Nat.reduceEqDiff];try rfl)|refine zc3 ?_|(refine And.intro ?_ ?_;focus (intros;simp_all only [Bool.or_eq_false_iff,Bool.or_eq_true,Bool.and_eq_true,and_self,true_and,and_true];done))
        exact ⟨k+1,⟨hlt,zrF hk.2 (by rw [ptOk,pget hlt,h1,decide_eq_true (zjE h2)];rfl)⟩,by omega,zjB (zjA hlt (by omega))⟩
    · have hge:=zjI hd
      rw [zrG hge hk.2,Bool.true_and]
      repeat' first|refine zie rfl ?_|refine zc4 rfl ?_|refine zc7 ?_|refine zc8 ?_|refine zc5 ?_|refine zc6 ?_|(simp (maxSteps:=2000000) only [go_sem,Nat.reduceAdd,Nat.reduceMul,Nat.reduceBEq,Nat.reduceLeDiff,Nat.reduceLT,Nat.reduceEqDiff];try rfl)|refine zc3 ?_|(refine And.intro ?_ ?_;focus (intros;simp_all only [Bool.or_eq_false_iff,Bool.or_eq_true,Bool.and_eq_true,and_self,true_and,and_true];done))
      refine zde (ι:=Nat) (fun k=>⟨[(1,true,.c (.p 0 0)),(41,true,.c (.v c.segments.val)),(42,true,.c (.v (.int .i64 c.segments.l.length))),(43,true,.c (.v (.int .i64 k)))],[(0,.box 53 [.v c.points.val,.v c.segments.val])],h,1⟩) (fun k=>k≤c.segments.l.length∧∀ i,i < k→zrB c.points.l.length c.segments.l i=true) (fun k=>c.segments.l.length - k) 0 ⟨Nat.zero_le _,zrH⟩ ?_ ?_
      · simp (maxSteps:=2000000) only [go_sem,Nat.reduceAdd,Nat.reduceMul,Nat.reduceBEq,Nat.reduceLeDiff,Nat.reduceLT,Nat.reduceEqDiff]
        first|exact rfl|exact ⟨rfl,rfl⟩|exact ⟨rfl,rfl,rfl⟩|exact ⟨rfl,rfl,rfl,rfl⟩|exact ⟨rfl,rfl,rfl,rfl,rfl⟩
      intro k hk
      repeat' first|refine zie rfl ?_|refine zc4 rfl ?_|refine zc7 ?_|refine zc8 ?_|refine zc5 ?_|refine zc6 ?_|(simp (maxSteps:=2000000) only [go_sem,Nat.reduceAdd,Nat.reduceMul,Nat.reduceBEq,Nat.reduceLeDiff,Nat.reduceLT,Nat.reduceEqDiff];try rfl)|refine zc3 ?_|(refine And.intro ?_ ?_;focus (intros;simp_all only [Bool.or_eq_false_iff,Bool.or_eq_true,Bool.and_eq_true,and_self,true_and,and_true];done))
      refine zc9 rfl (fun hd=>?_) (fun hd=>?_)
      · have hlt:=zjH hd
        repeat' first|refine zie rfl ?_|refine zc4 rfl ?_|refine zc7 ?_|refine zc8 ?_|refine zc5 ?_|refine zc6 ?_|refine zhF (fun _=>zrf _ _ _) ?_|refine zhF (fun _=>zrd _ _ _ _) ?_|(simp (maxSteps:=2000000) only [go_sem,Nat.reduceAdd,Nat.reduceMul,Nat.reduceBEq,Nat.reduceLeDiff,Nat.reduceLT,Nat.reduceEqDiff,zld hg hlt,hg.some hlt,hlt,Int.toNat_natCast];try rfl)|refine zc3 ?_|(refine And.intro ?_ ?_;focus (intros;simp_all only [Bool.or_eq_false_iff,Bool.or_eq_true,Bool.and_eq_true,and_self,true_and,and_true];done))
        refine zc9 rfl (fun hq=>?_) (fun hq=>?_)
        · repeat' first|refine zie rfl ?_|refine zc4 rfl ?_|refine zc7 ?_|refine zc8 ?_|refine zc5 ?_|refine zc6 ?_|(simp (maxSteps:=2000000) only [go_sem,Nat.reduceAdd,Nat.reduceMul,Nat.reduceBEq,Nat.reduceLeDiff,Nat.reduceLT,Nat.reduceEqDiff];try rfl)|refine zc3 ?_|(refine And.intro ?_ ?_;focus (intros;simp_all only [Bool.or_eq_false_iff,Bool.or_eq_true,Bool.and_eq_true,and_self,true_and,and_true];done))
          rw [zrE hlt ?_]
          rw [zrB,gget hlt,zrz,decide_eq_false ?_,Bool.false_and]
          simp only [Bool.or_eq_true,Bool.not_eq_true',Bool.and_eq_false_iff,decide_eq_false_iff_not,beq_iff_eq] at hq
          omega
        · have hin:zrz c.points.l.length c.segments.l[k]=true:=by
            simp only [Bool.or_eq_false_iff,Bool.not_eq_false',Bool.and_eq_true,decide_eq_true_eq,beq_eq_false_iff_ne] at hq
            rw [zrz]
            refine decide_eq_true ?_
            omega
          have hgo:=Sl.to_ok hg k
          have hlt0:=Sl.to_len hk.1
          have hcap:=hg.1
          repeat' first|refine zie rfl ?_|refine zc4 rfl ?_|refine zc7 ?_|refine zc8 ?_|refine zc5 ?_|refine zc6 ?_|(simp (maxSteps:=2000000) only [go_sem,Nat.reduceAdd,Nat.reduceMul,Nat.reduceBEq,Nat.reduceLeDiff,Nat.reduceLT,Nat.reduceEqDiff];try rfl)|refine zc3 ?_|(refine And.intro ?_ ?_;focus (intros;simp_all only [Bool.or_eq_false_iff,Bool.or_eq_true,Bool.and_eq_true,and_self,true_and,and_true];done))
          refine ⟨by omega,?_⟩
          simp only [Int.toNat_zero,Nat.sub_zero,Nat.zero_mul,zrp,zrq,ite_self]
          rw [zrr hk.1]
          repeat' first|refine zie rfl ?_|refine zc4 rfl ?_|refine zc7 ?_|refine zc8 ?_|refine zc5 ?_|refine zc6 ?_|(simp (maxSteps:=2000000) only [go_sem,Nat.reduceAdd,Nat.reduceMul,Nat.reduceBEq,Nat.reduceLeDiff,Nat.reduceLT,Nat.reduceEqDiff];try rfl)|refine zc3 ?_|(refine And.intro ?_ ?_;focus (intros;simp_all only [Bool.or_eq_false_iff,Bool.or_eq_true,Bool.and_eq_true,and_self,true_and,and_true];done))
          refine zde (ι:=Nat) (fun j=>⟨[(1,true,.c (.p 0 0)),(6,true,.c (.p 1 0)),(41,true,.c (.v c.segments.val)),(42,true,.c (.v (.int .i64 c.segments.l.length))),(43,true,.c (.v (.int .i64 k))),(86,true,.c (.v (c.segments.to k).val)),(87,true,.c (.v (.int .i64 k))),(88,true,.c (.v (.int .i64 j)))],[(0,.box 53 [.v c.points.val,.v c.segments.val]),(1,.box 130 [.v (.int .i64 c.segments.l[k].a),.v (.int .i64 c.segments.l[k].b),.v (.int .i64 c.segments.l[k].depth),.v (.int .i64 c.segments.l[k].minutes),.v (.bool c.segments.l[k].meet)])],h,2⟩) (fun j=>j≤k∧∀ i,i < j→zrw (c.segments.l.getD i dG) c.segments.l[k].a c.segments.l[k].b=false) (fun j=>k - j) 0 ⟨Nat.zero_le _,fun i hi=>absurd hi (Nat.not_lt_zero _)⟩ ?_ ?_
          · simp (maxSteps:=2000000) only [go_sem,Nat.reduceAdd,Nat.reduceMul,Nat.reduceBEq,Nat.reduceLeDiff,Nat.reduceLT,Nat.reduceEqDiff]
            first|exact rfl|exact ⟨rfl,rfl⟩|exact ⟨rfl,rfl,rfl⟩|exact ⟨rfl,rfl,rfl,rfl⟩|exact ⟨rfl,rfl,rfl,rfl,rfl⟩
          intro j hj
          repeat' first|refine zie rfl ?_|refine zc4 rfl ?_|refine zc7 ?_|refine zc8 ?_|refine zc5 ?_|refine zc6 ?_|(simp (maxSteps:=2000000) only [go_sem,Nat.reduceAdd,Nat.reduceMul,Nat.reduceBEq,Nat.reduceLeDiff,Nat.reduceLT,Nat.reduceEqDiff];try rfl)|refine zc3 ?_|(refine And.intro ?_ ?_;focus (intros;simp_all only [Bool.or_eq_false_iff,Bool.or_eq_true,Bool.and_eq_true,and_self,true_and,and_true];done))
          refine zc9 rfl (fun hq2=>?_) (fun hq2=>?_)
          · have hltj:=zjH hq2
            have hltj':j < (c.segments.to k).l.length:=by omega
            have hltj2:j < c.segments.l.length:=by omega
            have hje:=Sl.to_get hltj' hltj2
            repeat' first|refine zie rfl ?_|refine zc4 rfl ?_|refine zc7 ?_|refine zc8 ?_|refine zc5 ?_|refine zc6 ?_|refine zhF (fun _=>zry _ _ _ _) ?_|(simp (maxSteps:=2000000) only [go_sem,Nat.reduceAdd,Nat.reduceMul,Nat.reduceBEq,Nat.reduceLeDiff,Nat.reduceLT,Nat.reduceEqDiff,zld hgo hltj',hgo.some hltj',hltj',hltj,Int.toNat_natCast,hje];try rfl)|refine zc3 ?_|(refine And.intro ?_ ?_;focus (intros;simp_all only [Bool.or_eq_false_iff,Bool.or_eq_true,Bool.and_eq_true,and_self,true_and,and_true];done))
            refine zc9 rfl (fun hq3=>?_) (fun hq3=>?_)
            · repeat' first|refine zie rfl ?_|refine zc4 rfl ?_|refine zc7 ?_|refine zc8 ?_|refine zc5 ?_|refine zc6 ?_|(simp (maxSteps:=2000000) only [go_sem,Nat.reduceAdd,Nat.reduceMul,Nat.reduceBEq,Nat.reduceLeDiff,Nat.reduceLT,Nat.reduceEqDiff];try rfl)|refine zc3 ?_|(refine And.intro ?_ ?_;focus (intros;simp_all only [Bool.or_eq_false_iff,Bool.or_eq_true,Bool.and_eq_true,and_self,true_and,and_true];done))
              rw [zrE hlt ?_]
              rw [zrB,gget hlt,hin,Bool.true_and,zrA]
              refine decide_eq_false fun hh=>?_
              have:=hh j hltj
              rw [gget hltj2,gget hlt,hq3] at this
              cases this
            · repeat' first|refine zie rfl ?_|refine zc4 rfl ?_|refine zc7 ?_|refine zc8 ?_|refine zc5 ?_|refine zc6 ?_|(simp (maxSteps:=2000000) only [go_sem,Nat.reduceAdd,Nat.reduceMul,Nat.reduceBEq,Nat.reduceLeDiff,Nat.reduceLT,Nat.reduceEqDiff];try rfl)|refine zc3 ?_|(refine And.intro ?_ ?_;focus (intros;simp_all only [Bool.or_eq_false_iff,Bool.or_eq_true,Bool.and_eq_true,and_self,true_and,and_true];done))
              exact ⟨j+1,⟨hltj,fun i hi=>by
                rcases Nat.lt_succ_iff_lt_or_eq.1 hi with hi|rfl
                · exact hj.2 i hi
                · rw [gget hltj2];exact hq3⟩,by omega,zjB (zjA hltj (by omega))⟩
          · have hgej:=zjI hq2
            repeat' first|refine zie rfl ?_|refine zc4 rfl ?_|refine zc7 ?_|refine zc8 ?_|refine zc5 ?_|refine zc6 ?_|(simp (maxSteps:=2000000) only [go_sem,Nat.reduceAdd,Nat.reduceMul,Nat.reduceBEq,Nat.reduceLeDiff,Nat.reduceLT,Nat.reduceEqDiff];try rfl)|refine zc3 ?_|(refine And.intro ?_ ?_;focus (intros;simp_all only [Bool.or_eq_false_iff,Bool.or_eq_true,Bool.and_eq_true,and_self,true_and,and_true];done))
            refine ⟨k+1,⟨hlt,zrF hk.2 ?_⟩,by omega,zjB (zjA hlt (by omega))⟩
            rw [zrB,gget hlt,hin,Bool.true_and,zrA]
            refine decide_eq_true fun i hi=>?_
            rw [gget hlt];exact hj.2 i (by omega)
      · have hge:=zjI hd
        repeat' first|refine zie rfl ?_|refine zc4 rfl ?_|refine zc7 ?_|refine zc8 ?_|refine zc5 ?_|refine zc6 ?_|(simp (maxSteps:=2000000) only [go_sem,Nat.reduceAdd,Nat.reduceMul,Nat.reduceBEq,Nat.reduceLeDiff,Nat.reduceLT,Nat.reduceEqDiff];try rfl)|refine zc3 ?_|(refine And.intro ?_ ?_;focus (intros;simp_all only [Bool.or_eq_false_iff,Bool.or_eq_true,Bool.and_eq_true,and_self,true_and,and_true];done))
        rw [zrG hge hk.2]
end Go.Proofs.Ytjiggadgmmjnhaa
namespace Go.Proofs.Ytjiggadgmmjnhaa
open Go Go.SL
set_option maxHeartbeats 1000000
def dH:DShip:=⟨ByteArray.empty,0,0,0,0,false⟩
theorem hget {l:List DShip} {i:Nat} (hi:i < l.length):l.getD i dH=l[i]:=by simp [List.getD_eq_getElem?_getD,hi]
def zrM (l:List DShip) (n:ByteArray):Int:=zrk (fun p=>decide (p.name=n)) l
def zrN (s:DShip):Bool:=zrh s.name && In s.length 10 400 && In s.draught 100 2000 && In s.line 0 3 && In s.tugs 0 4
def shOk (l:List DShip) (i:Nat):Bool:=zrN (l.getD i dH) && decide (zrM l (l.getD i dH).name=(i:Int))
def zrO (l:List DShip):Bool:=decide (l.length≤6) && decide (∀ i,i < l.length→shOk l i=true)
def zrP (l:List Int):Bool:=decide (l.length=64) && l.all (fun n=>In n 0 240)
def zrQ (w:PCrew):Bool:=In w.tugs 0 12 && In w.pilots 0 12 && (In w.rest 0 2880 && zrP w.moves)
theorem zrR (c:Sl DShip) (n:ByteArray) (h:Hp) (hp:c.Ok h):Ct Try.prog 102 [c.val,.string n] h fun v h'=>v=.int .i64 (zrM c.l n)∧h'=h:=by
  have hl:=hp.max
  refine zdn (fun A W=>by simp) Try.func102 rfl rfl (by simp) fun W0=>?_
  repeat' first|refine zie rfl ?_|refine zc4 rfl ?_|refine zc7 ?_|refine zc8 ?_|refine zc5 ?_|refine zc6 ?_|(simp (maxSteps:=2000000) only [go_sem,Nat.reduceAdd,Nat.reduceMul,Nat.reduceBEq,Nat.reduceLeDiff,Nat.reduceLT,Nat.reduceEqDiff];try rfl)|refine zc3 ?_|(refine And.intro ?_ ?_;focus (intros;simp_all only [Bool.or_eq_false_iff,Bool.or_eq_true,Bool.and_eq_true,and_self,true_and,and_true];done))
  refine zde (ι:=Nat) (fun k=>⟨[(1,true,.c (.v (.string n))),(7,true,.c (.v c.val)),(8,true,.c (.v (.int .i64 c.l.length))),(9,true,.c (.v (.int .i64 k)))],[],h,1⟩) (fun k=>k≤c.l.length∧∀ i (hi:i < c.l.length),i < k→(decide (c.l[i].name=n))=false) (fun k=>c.l.length - k) 0 ⟨Nat.zero_le _,fun i _ hi=>absurd hi (Nat.not_lt_zero _)⟩ ?_ ?_
  · simp (maxSteps:=2000000) only [go_sem,Nat.reduceAdd,Nat.reduceMul,Nat.reduceBEq,Nat.reduceLeDiff,Nat.reduceLT,Nat.reduceEqDiff]
    first|exact rfl|exact ⟨rfl,rfl⟩|exact ⟨rfl,rfl,rfl⟩|exact ⟨rfl,rfl,rfl,rfl⟩|exact ⟨rfl,rfl,rfl,rfl,rfl⟩
  intro k hk
  repeat' first|refine zie rfl ?_|refine zc4 rfl ?_|refine zc7 ?_|refine zc8 ?_|refine zc5 ?_|refine zc6 ?_|(simp (maxSteps:=2000000) only [go_sem,Nat.reduceAdd,Nat.reduceMul,Nat.reduceBEq,Nat.reduceLeDiff,Nat.reduceLT,Nat.reduceEqDiff];try rfl)|refine zc3 ?_|(refine And.intro ?_ ?_;focus (intros;simp_all only [Bool.or_eq_false_iff,Bool.or_eq_true,Bool.and_eq_true,and_self,true_and,and_true];done))
  refine zc9 rfl (fun hd=>?_) (fun hd=>?_)
  · have hlt:=zjH hd
    repeat' first|refine zie rfl ?_|refine zc4 rfl ?_|refine zc7 ?_|refine zc8 ?_|refine zc5 ?_|refine zc6 ?_|(simp (maxSteps:=2000000) only [go_sem,Nat.reduceAdd,Nat.reduceMul,Nat.reduceBEq,Nat.reduceLeDiff,Nat.reduceLT,Nat.reduceEqDiff,zlj hp hlt,hp.some hlt,hlt,Int.toNat_natCast];try rfl)|refine zc3 ?_|(refine And.intro ?_ ?_;focus (intros;simp_all only [Bool.or_eq_false_iff,Bool.or_eq_true,Bool.and_eq_true,and_self,true_and,and_true];done))
    refine zc9 rfl (fun hq=>?_) (fun hq=>?_)
    · repeat' first|refine zie rfl ?_|refine zc4 rfl ?_|refine zc7 ?_|refine zc8 ?_|refine zc5 ?_|refine zc6 ?_|(simp (maxSteps:=2000000) only [go_sem,Nat.reduceAdd,Nat.reduceMul,Nat.reduceBEq,Nat.reduceLeDiff,Nat.reduceLT,Nat.reduceEqDiff];try rfl)|refine zc3 ?_|(refine And.intro ?_ ?_;focus (intros;simp_all only [Bool.or_eq_false_iff,Bool.or_eq_true,Bool.and_eq_true,and_self,true_and,and_true];done))
      rw [zrM,zrl hlt hq hk.2]
    · repeat' first|refine zie rfl ?_|refine zc4 rfl ?_|refine zc7 ?_|refine zc8 ?_|refine zc5 ?_|refine zc6 ?_|(simp (maxSteps:=2000000) only [go_sem,Nat.reduceAdd,Nat.reduceMul,Nat.reduceBEq,Nat.reduceLeDiff,Nat.reduceLT,Nat.reduceEqDiff];try rfl)|refine zc3 ?_|(refine And.intro ?_ ?_;focus (intros;simp_all only [Bool.or_eq_false_iff,Bool.or_eq_true,Bool.and_eq_true,and_self,true_and,and_true];done))
      refine ⟨k+1,⟨hlt,fun i hi hik=>?_⟩,by omega,zjB (zjA hlt (by omega))⟩
      rcases Nat.lt_succ_iff_lt_or_eq.1 hik with hik|rfl
      · exact hk.2 i hi hik
      · exact hq
  · have hge:=zjI hd
    repeat' first|refine zie rfl ?_|refine zc4 rfl ?_|refine zc7 ?_|refine zc8 ?_|refine zc5 ?_|refine zc6 ?_|(simp (maxSteps:=2000000) only [go_sem,Nat.reduceAdd,Nat.reduceMul,Nat.reduceBEq,Nat.reduceLeDiff,Nat.reduceLT,Nat.reduceEqDiff];try rfl)|refine zc3 ?_|(refine And.intro ?_ ?_;focus (intros;simp_all only [Bool.or_eq_false_iff,Bool.or_eq_true,Bool.and_eq_true,and_self,true_and,and_true];done))
    rw [zrM,zrm (fun i hi=>hk.2 i hi (by omega))]
theorem zrS (s:DShip) (h:Hp) (hs:Enc.ok h s):Ct Try.prog 101 [s.v] h fun v h'=>v=.bool (zrN s)∧h'=h:=by
  refine zdn (fun A W=>by simp) Try.func101 rfl rfl (by simp) fun W0=>?_
  repeat' first|refine zie rfl ?_|refine zc4 rfl ?_|refine zc7 ?_|refine zc8 ?_|refine zc5 ?_|refine zc6 ?_|refine zhF (fun _=>zri _ _ hs.1) ?_|refine zhF (fun _=>zrc _ _ _ _) ?_|(simp (maxSteps:=2000000) only [go_sem,Nat.reduceAdd,Nat.reduceMul,Nat.reduceBEq,Nat.reduceLeDiff,Nat.reduceLT,Nat.reduceEqDiff];try rfl)|refine zc3 ?_|(refine And.intro ?_ ?_;focus (intros;simp_all only [Bool.or_eq_false_iff,Bool.or_eq_true,Bool.and_eq_true,and_self,true_and,and_true];done))
  skip
  skip
theorem zrT (c:Sl DShip) (h:Hp) (hp:c.Ok h):Ct Try.prog 92 [c.val] h fun v h'=>v=.bool (zrO c.l)∧h'=h:=by
  have hl:=hp.max
  rw [zrO]
  refine zdn (fun A W=>by simp) Try.func92 rfl rfl (by simp) fun W0=>?_
  repeat' first|refine zie rfl ?_|refine zc4 rfl ?_|refine zc7 ?_|refine zc8 ?_|refine zc5 ?_|refine zc6 ?_|(simp (maxSteps:=2000000) only [go_sem,Nat.reduceAdd,Nat.reduceMul,Nat.reduceBEq,Nat.reduceLeDiff,Nat.reduceLT,Nat.reduceEqDiff];try rfl)|refine zc3 ?_|(refine And.intro ?_ ?_;focus (intros;simp_all only [Bool.or_eq_false_iff,Bool.or_eq_true,Bool.and_eq_true,and_self,true_and,and_true];done))
  refine zc9 rfl (fun hc=>?_) (fun hc=>?_)
  · repeat' first|refine zie rfl ?_|refine zc4 rfl ?_|refine zc7 ?_|refine zc8 ?_|refine zc5 ?_|refine zc6 ?_|(simp (maxSteps:=2000000) only [go_sem,Nat.reduceAdd,Nat.reduceMul,Nat.reduceBEq,Nat.reduceLeDiff,Nat.reduceLT,Nat.reduceEqDiff];try rfl)|refine zc3 ?_|(refine And.intro ?_ ?_;focus (intros;simp_all only [Bool.or_eq_false_iff,Bool.or_eq_true,Bool.and_eq_true,and_self,true_and,and_true];done))
    rw [decide_eq_false (by have:=of_decide_eq_true hc;omega)];rfl
  rw [decide_eq_true (show c.l.length≤6 by have:=of_decide_eq_false hc;omega),Bool.true_and]
  repeat' first|refine zie rfl ?_|refine zc4 rfl ?_|refine zc7 ?_|refine zc8 ?_|refine zc5 ?_|refine zc6 ?_|(simp (maxSteps:=2000000) only [go_sem,Nat.reduceAdd,Nat.reduceMul,Nat.reduceBEq,Nat.reduceLeDiff,Nat.reduceLT,Nat.reduceEqDiff];try rfl)|refine zc3 ?_|(refine And.intro ?_ ?_;focus (intros;simp_all only [Bool.or_eq_false_iff,Bool.or_eq_true,Bool.and_eq_true,and_self,true_and,and_true];done))
  refine zde (ι:=Nat) (fun k=>⟨[(0,true,.c (.v c.val)),(8,true,.c (.v c.val)),(9,true,.c (.v (.int .i64 c.l.length))),(10,true,.c (.v (.int .i64 k)))],[],h,0⟩) (fun k=>k≤c.l.length∧∀ i,i < k→shOk c.l i=true) (fun k=>c.l.length - k) 0 ⟨Nat.zero_le _,zrH⟩ ?_ ?_
  · simp (maxSteps:=2000000) only [go_sem,Nat.reduceAdd,Nat.reduceMul,Nat.reduceBEq,Nat.reduceLeDiff,Nat.reduceLT,Nat.reduceEqDiff]
    first|exact rfl|exact ⟨rfl,rfl⟩|exact ⟨rfl,rfl,rfl⟩|exact ⟨rfl,rfl,rfl,rfl⟩|exact ⟨rfl,rfl,rfl,rfl,rfl⟩
  intro k hk
  repeat' first|refine zie rfl ?_|refine zc4 rfl ?_|refine zc7 ?_|refine zc8 ?_|refine zc5 ?_|refine zc6 ?_|(simp (maxSteps:=2000000) only [go_sem,Nat.reduceAdd,Nat.reduceMul,Nat.reduceBEq,Nat.reduceLeDiff,Nat.reduceLT,Nat.reduceEqDiff];try rfl)|refine zc3 ?_|(refine And.intro ?_ ?_;focus (intros;simp_all only [Bool.or_eq_false_iff,Bool.or_eq_true,Bool.and_eq_true,and_self,true_and,and_true];done))
  refine zc9 rfl (fun hd=>?_) (fun hd=>?_)
  · have hlt:=zjH hd
    repeat' first|refine zie rfl ?_|refine zc4 rfl ?_|refine zc7 ?_|refine zc8 ?_|refine zc5 ?_|refine zc6 ?_|refine zhF (fun _=>zrS _ _ (hp.el hlt)) ?_|refine zhF (fun _=>zrR c _ _ hp) ?_|(simp (maxSteps:=2000000) only [go_sem,Nat.reduceAdd,Nat.reduceMul,Nat.reduceBEq,Nat.reduceLeDiff,Nat.reduceLT,Nat.reduceEqDiff,zlj hp hlt,hp.some hlt,hlt,Int.toNat_natCast];try rfl)|refine zc3 ?_|(refine And.intro ?_ ?_;focus (intros;simp_all only [Bool.or_eq_false_iff,Bool.or_eq_true,Bool.and_eq_true,and_self,true_and,and_true];done))
    refine zc9 rfl (fun hq=>?_) (fun hq=>?_)
    · repeat' first|refine zie rfl ?_|refine zc4 rfl ?_|refine zc7 ?_|refine zc8 ?_|refine zc5 ?_|refine zc6 ?_|(simp (maxSteps:=2000000) only [go_sem,Nat.reduceAdd,Nat.reduceMul,Nat.reduceBEq,Nat.reduceLeDiff,Nat.reduceLT,Nat.reduceEqDiff];try rfl)|refine zc3 ?_|(refine And.intro ?_ ?_;focus (intros;simp_all only [Bool.or_eq_false_iff,Bool.or_eq_true,Bool.and_eq_true,and_self,true_and,and_true];done))
      rw [zrE hlt ?_]
      rw [shOk,hget hlt]
      rcases (Bool.or_eq_true _ _).mp hq with h1|h1
      · rw [Bool.not_eq_true'] at h1;rw [h1];rfl
      · rw [decide_eq_false (zjD h1),Bool.and_false]
    · obtain ⟨h1,h2⟩:=Bool.or_eq_false_iff.1 hq
      rw [Bool.not_eq_false'] at h1
      repeat' first|refine zie rfl ?_|refine zc4 rfl ?_|refine zc7 ?_|refine zc8 ?_|refine zc5 ?_|refine zc6 ?_|(simp (maxSteps:=2000000) only [go_sem,Nat.reduceAdd,Nat.reduceMul,Nat.reduceBEq,Nat.reduceLeDiff,Nat.reduceLT,Nat.reduceEqDiff];try rfl)|refine zc3 ?_|(refine And.intro ?_ ?_;focus (intros;simp_all only [Bool.or_eq_false_iff,Bool.or_eq_true,Bool.and_eq_true,and_self,true_and,and_true];done))
      exact ⟨k+1,⟨hlt,zrF hk.2 (by rw [shOk,hget hlt,h1,decide_eq_true (zjE h2)];rfl)⟩,by omega,zjB (zjA hlt (by omega))⟩
  · have hge:=zjI hd
    repeat' first|refine zie rfl ?_|refine zc4 rfl ?_|refine zc7 ?_|refine zc8 ?_|refine zc5 ?_|refine zc6 ?_|(simp (maxSteps:=2000000) only [go_sem,Nat.reduceAdd,Nat.reduceMul,Nat.reduceBEq,Nat.reduceLeDiff,Nat.reduceLT,Nat.reduceEqDiff];try rfl)|refine zc3 ?_|(refine And.intro ?_ ?_;focus (intros;simp_all only [Bool.or_eq_false_iff,Bool.or_eq_true,Bool.and_eq_true,and_self,true_and,and_true];done))
    rw [zrG hge hk.2]
theorem zrU (c:Sl DShip) (n:ByteArray) (h:Hp) (hp:c.Ok h):Ct Try.prog 108 [c.val,.string n] h fun v h'=>v=.int .i64 (zrM c.l n)∧h'=h:=by
  have hl:=hp.max
  refine zdn (fun A W=>by simp) Try.func108 rfl rfl (by simp) fun W0=>?_
  repeat' first|refine zie rfl ?_|refine zc4 rfl ?_|refine zc7 ?_|refine zc8 ?_|refine zc5 ?_|refine zc6 ?_|(simp (maxSteps:=2000000) only [go_sem,Nat.reduceAdd,Nat.reduceMul,Nat.reduceBEq,Nat.reduceLeDiff,Nat.reduceLT,Nat.reduceEqDiff];try rfl)|refine zc3 ?_|(refine And.intro ?_ ?_;focus (intros;simp_all only [Bool.or_eq_false_iff,Bool.or_eq_true,Bool.and_eq_true,and_self,true_and,and_true];done))
  refine zde (ι:=Nat) (fun k=>⟨[(1,true,.c (.v (.string n))),(7,true,.c (.v c.val)),(8,true,.c (.v (.int .i64 c.l.length))),(9,true,.c (.v (.int .i64 k)))],[],h,1⟩) (fun k=>k≤c.l.length∧∀ i (hi:i < c.l.length),i < k→(decide (c.l[i].name=n))=false) (fun k=>c.l.length - k) 0 ⟨Nat.zero_le _,fun i _ hi=>absurd hi (Nat.not_lt_zero _)⟩ ?_ ?_
  · simp (maxSteps:=2000000) only [go_sem,Nat.reduceAdd,Nat.reduceMul,Nat.reduceBEq,Nat.reduceLeDiff,Nat.reduceLT,Nat.reduceEqDiff]
    first|exact rfl|exact ⟨rfl,rfl⟩|exact ⟨rfl,rfl,rfl⟩|exact ⟨rfl,rfl,rfl,rfl⟩|exact ⟨rfl,rfl,rfl,rfl,rfl⟩
  intro k hk
  repeat' first|refine zie rfl ?_|refine zc4 rfl ?_|refine zc7 ?_|refine zc8 ?_|refine zc5 ?_|refine zc6 ?_|(simp (maxSteps:=2000000) only [go_sem,Nat.reduceAdd,Nat.reduceMul,Nat.reduceBEq,Nat.reduceLeDiff,Nat.reduceLT,Nat.reduceEqDiff];try rfl)|refine zc3 ?_|(refine And.intro ?_ ?_;focus (intros;simp_all only [Bool.or_eq_false_iff,Bool.or_eq_true,Bool.and_eq_true,and_self,true_and,and_true];done))
  refine zc9 rfl (fun hd=>?_) (fun hd=>?_)
  · have hlt:=zjH hd
    repeat' first|refine zie rfl ?_|refine zc4 rfl ?_|refine zc7 ?_|refine zc8 ?_|refine zc5 ?_|refine zc6 ?_|(simp (maxSteps:=2000000) only [go_sem,Nat.reduceAdd,Nat.reduceMul,Nat.reduceBEq,Nat.reduceLeDiff,Nat.reduceLT,Nat.reduceEqDiff,zlj hp hlt,hp.some hlt,hlt,Int.toNat_natCast];try rfl)|refine zc3 ?_|(refine And.intro ?_ ?_;focus (intros;simp_all only [Bool.or_eq_false_iff,Bool.or_eq_true,Bool.and_eq_true,and_self,true_and,and_true];done))
    refine zc9 rfl (fun hq=>?_) (fun hq=>?_)
    · repeat' first|refine zie rfl ?_|refine zc4 rfl ?_|refine zc7 ?_|refine zc8 ?_|refine zc5 ?_|refine zc6 ?_|(simp (maxSteps:=2000000) only [go_sem,Nat.reduceAdd,Nat.reduceMul,Nat.reduceBEq,Nat.reduceLeDiff,Nat.reduceLT,Nat.reduceEqDiff];try rfl)|refine zc3 ?_|(refine And.intro ?_ ?_;focus (intros;simp_all only [Bool.or_eq_false_iff,Bool.or_eq_true,Bool.and_eq_true,and_self,true_and,and_true];done))
      rw [zrM,zrl hlt hq hk.2]
    · repeat' first|refine zie rfl ?_|refine zc4 rfl ?_|refine zc7 ?_|refine zc8 ?_|refine zc5 ?_|refine zc6 ?_|(simp (maxSteps:=2000000) only [go_sem,Nat.reduceAdd,Nat.reduceMul,Nat.reduceBEq,Nat.reduceLeDiff,Nat.reduceLT,Nat.reduceEqDiff];try rfl)|refine zc3 ?_|(refine And.intro ?_ ?_;focus (intros;simp_all only [Bool.or_eq_false_iff,Bool.or_eq_true,Bool.and_eq_true,and_self,true_and,and_true];done))
      refine ⟨k+1,⟨hlt,fun i hi hik=>?_⟩,by omega,zjB (zjA hlt (by omega))⟩
      rcases Nat.lt_succ_iff_lt_or_eq.1 hik with hik|rfl
      · exact hk.2 i hi hik
      · exact hq
  · have hge:=zjI hd
    repeat' first|refine zie rfl ?_|refine zc4 rfl ?_|refine zc7 ?_|refine zc8 ?_|refine zc5 ?_|refine zc6 ?_|(simp (maxSteps:=2000000) only [go_sem,Nat.reduceAdd,Nat.reduceMul,Nat.reduceBEq,Nat.reduceLeDiff,Nat.reduceLT,Nat.reduceEqDiff];try rfl)|refine zc3 ?_|(refine And.intro ?_ ?_;focus (intros;simp_all only [Bool.or_eq_false_iff,Bool.or_eq_true,Bool.and_eq_true,and_self,true_and,and_true];done))
    rw [zrM,zrm (fun i hi=>hk.2 i hi (by omega))]
theorem zrV (s:DShip) (h:Hp) (hs:Enc.ok h s):Ct Try.prog 107 [s.v] h fun v h'=>v=.bool (zrN s)∧h'=h:=by
  refine zdn (fun A W=>by simp) Try.func107 rfl rfl (by simp) fun W0=>?_
  repeat' first|refine zie rfl ?_|refine zc4 rfl ?_|refine zc7 ?_|refine zc8 ?_|refine zc5 ?_|refine zc6 ?_|refine zhF (fun _=>zrj _ _ hs.1) ?_|refine zhF (fun _=>zrd _ _ _ _) ?_|refine zhF (fun _=>zrf _ _ _) ?_|(simp (maxSteps:=2000000) only [go_sem,Nat.reduceAdd,Nat.reduceMul,Nat.reduceBEq,Nat.reduceLeDiff,Nat.reduceLT,Nat.reduceEqDiff];try rfl)|refine zc3 ?_|(refine And.intro ?_ ?_;focus (intros;simp_all only [Bool.or_eq_false_iff,Bool.or_eq_true,Bool.and_eq_true,and_self,true_and,and_true];done))
  congr 1;rw [Bool.eq_iff_iff];simp only [zrN,In,Bool.and_eq_true,Bool.or_eq_true,Bool.not_eq_true',decide_eq_true_eq,decide_eq_false_iff_not,beq_iff_eq,and_assoc]
  constructor <;> intro hh <;> (refine ⟨hh.1,?_⟩;omega)
theorem zrW (c:Sl DShip) (h:Hp) (hp:c.Ok h):Ct Try.prog 95 [c.val] h fun v h'=>v=.bool (zrO c.l)∧h'=h:=by
  have hl:=hp.max
  rw [zrO]
  refine zdn (fun A W=>by simp) Try.func95 rfl rfl (by simp) fun W0=>?_
  repeat' first|refine zie rfl ?_|refine zc4 rfl ?_|refine zc7 ?_|refine zc8 ?_|refine zc5 ?_|refine zc6 ?_|(simp (maxSteps:=2000000) only [go_sem,Nat.reduceAdd,Nat.reduceMul,Nat.reduceBEq,Nat.reduceLeDiff,Nat.reduceLT,Nat.reduceEqDiff];try rfl)|refine zc3 ?_|(refine And.intro ?_ ?_;focus (intros;simp_all only [Bool.or_eq_false_iff,Bool.or_eq_true,Bool.and_eq_true,and_self,true_and,and_true];done))
  refine zc9 rfl (fun hc=>?_) (fun hc=>?_)
  · repeat' first|refine zie rfl ?_|refine zc4 rfl ?_|refine zc7 ?_|refine zc8 ?_|refine zc5 ?_|refine zc6 ?_|(simp (maxSteps:=2000000) only [go_sem,Nat.reduceAdd,Nat.reduceMul,Nat.reduceBEq,Nat.reduceLeDiff,Nat.reduceLT,Nat.reduceEqDiff];try rfl)|refine zc3 ?_|(refine And.intro ?_ ?_;focus (intros;simp_all only [Bool.or_eq_false_iff,Bool.or_eq_true,Bool.and_eq_true,and_self,true_and,and_true];done))
    rw [decide_eq_false (by have:=of_decide_eq_true hc;omega)];rfl
  rw [decide_eq_true (show c.l.length≤6 by have:=of_decide_eq_false hc;omega),Bool.true_and]
  repeat' first|refine zie rfl ?_|refine zc4 rfl ?_|refine zc7 ?_|refine zc8 ?_|refine zc5 ?_|refine zc6 ?_|(simp (maxSteps:=2000000) only [go_sem,Nat.reduceAdd,Nat.reduceMul,Nat.reduceBEq,Nat.reduceLeDiff,Nat.reduceLT,Nat.reduceEqDiff];try rfl)|refine zc3 ?_|(refine And.intro ?_ ?_;focus (intros;simp_all only [Bool.or_eq_false_iff,Bool.or_eq_true,Bool.and_eq_true,and_self,true_and,and_true];done))
  refine zde (ι:=Nat) (fun k=>⟨[(0,true,.c (.v c.val)),(8,true,.c (.v c.val)),(9,true,.c (.v (.int .i64 c.l.length))),(10,true,.c (.v (.int .i64 k)))],[],h,0⟩) (fun k=>k≤c.l.length∧∀ i,i < k→shOk c.l i=true) (fun k=>c.l.length - k) 0 ⟨Nat.zero_le _,zrH⟩ ?_ ?_
  · simp (maxSteps:=2000000) only [go_sem,Nat.reduceAdd,Nat.reduceMul,Nat.reduceBEq,Nat.reduceLeDiff,Nat.reduceLT,Nat.reduceEqDiff]
    first|exact rfl|exact ⟨rfl,rfl⟩|exact ⟨rfl,rfl,rfl⟩|exact ⟨rfl,rfl,rfl,rfl⟩|exact ⟨rfl,rfl,rfl,rfl,rfl⟩
  intro k hk
  repeat' first|refine zie rfl ?_|refine zc4 rfl ?_|refine zc7 ?_|refine zc8 ?_|refine zc5 ?_|refine zc6 ?_|(simp (maxSteps:=2000000) only [go_sem,Nat.reduceAdd,Nat.reduceMul,Nat.reduceBEq,Nat.reduceLeDiff,Nat.reduceLT,Nat.reduceEqDiff];try rfl)|refine zc3 ?_|(refine And.intro ?_ ?_;focus (intros;simp_all only [Bool.or_eq_false_iff,Bool.or_eq_true,Bool.and_eq_true,and_self,true_and,and_true];done))
  refine zc9 rfl (fun hd=>?_) (fun hd=>?_)
  · have hlt:=zjH hd
    repeat' first|refine zie rfl ?_|refine zc4 rfl ?_|refine zc7 ?_|refine zc8 ?_|refine zc5 ?_|refine zc6 ?_|refine zhF (fun _=>zrV _ _ (hp.el hlt)) ?_|refine zhF (fun _=>zrU c _ _ hp) ?_|(simp (maxSteps:=2000000) only [go_sem,Nat.reduceAdd,Nat.reduceMul,Nat.reduceBEq,Nat.reduceLeDiff,Nat.reduceLT,Nat.reduceEqDiff,zlj hp hlt,hp.some hlt,hlt,Int.toNat_natCast];try rfl)|refine zc3 ?_|(refine And.intro ?_ ?_;focus (intros;simp_all only [Bool.or_eq_false_iff,Bool.or_eq_true,Bool.and_eq_true,and_self,true_and,and_true];done))
    refine zc9 rfl (fun hq=>?_) (fun hq=>?_)
    · repeat' first|refine zie rfl ?_|refine zc4 rfl ?_|refine zc7 ?_|refine zc8 ?_|refine zc5 ?_|refine zc6 ?_|(simp (maxSteps:=2000000) only [go_sem,Nat.reduceAdd,Nat.reduceMul,Nat.reduceBEq,Nat.reduceLeDiff,Nat.reduceLT,Nat.reduceEqDiff];try rfl)|refine zc3 ?_|(refine And.intro ?_ ?_;focus (intros;simp_all only [Bool.or_eq_false_iff,Bool.or_eq_true,Bool.and_eq_true,and_self,true_and,and_true];done))
      rw [zrE hlt ?_]
      rw [shOk,hget hlt]
      rcases (Bool.or_eq_true _ _).mp hq with h1|h1
      · rw [Bool.not_eq_true'] at h1;rw [h1];rfl
      · rw [decide_eq_false (zjD h1),Bool.and_false]
    · obtain ⟨h1,h2⟩:=Bool.or_eq_false_iff.1 hq
      rw [Bool.not_eq_false'] at h1
      repeat' first|refine zie rfl ?_|refine zc4 rfl ?_|refine zc7 ?_|refine zc8 ?_|refine zc5 ?_|refine zc6 ?_|(simp (maxSteps:=2000000) only [go_sem,Nat.reduceAdd,Nat.reduceMul,Nat.reduceBEq,Nat.reduceLeDiff,Nat.reduceLT,Nat.reduceEqDiff];try rfl)|refine zc3 ?_|(refine And.intro ?_ ?_;focus (intros;simp_all only [Bool.or_eq_false_iff,Bool.or_eq_true,Bool.and_eq_true,and_self,true_and,and_true];done))
      exact ⟨k+1,⟨hlt,zrF hk.2 (by rw [shOk,hget hlt,h1,decide_eq_true (zjE h2)];rfl)⟩,by omega,zjB (zjA hlt (by omega))⟩
  · have hge:=zjI hd
    repeat' first|refine zie rfl ?_|refine zc4 rfl ?_|refine zc7 ?_|refine zc8 ?_|refine zc5 ?_|refine zc6 ?_|(simp (maxSteps:=2000000) only [go_sem,Nat.reduceAdd,Nat.reduceMul,Nat.reduceBEq,Nat.reduceLeDiff,Nat.reduceLT,Nat.reduceEqDiff];try rfl)|refine zc3 ?_|(refine And.intro ?_ ?_;focus (intros;simp_all only [Bool.or_eq_false_iff,Bool.or_eq_true,Bool.and_eq_true,and_self,true_and,and_true];done))
    rw [zrG hge hk.2]
theorem zrX {l:List Int} {k:Nat} (hk:k < l.length) (h:In l[k] 0 240=false):zrP l=false:=by rw [zrP,zrn (p:=fun n=>In n 0 240) hk h,Bool.and_false]
theorem zrY {l:List Int} {k:Nat} (h64:l.length=64) (hk:l.length≤k) (hp:(l.take k).all (fun n=>In n 0 240)=true):zrP l=true:=by
  rw [List.take_of_length_le hk] at hp
  rw [zrP,hp,decide_eq_true h64];rfl
theorem zrZ (n:Int) (a:Sl Int) (h:Hp) (ha:a.Ok h):Ct Try.prog 39 [.int .i64 n,a.val] h fun v h'=>v=.bool (In n 0 2880 && zrP a.l)∧h'=h:=by
  have hl:=ha.max
  refine zdn (fun A W=>by simp) Try.func39 rfl rfl (by simp) fun W0=>?_
  repeat' first|refine zie rfl ?_|refine zc4 rfl ?_|refine zc7 ?_|refine zc8 ?_|refine zc5 ?_|refine zc6 ?_|refine zhF (fun _=>zrc _ _ _ _) ?_|(simp (maxSteps:=2000000) only [go_sem,Nat.reduceAdd,Nat.reduceMul,Nat.reduceBEq,Nat.reduceLeDiff,Nat.reduceLT,Nat.reduceEqDiff];try rfl)|refine zc3 ?_|(refine And.intro ?_ ?_;focus (intros;simp_all only [Bool.or_eq_false_iff,Bool.or_eq_true,Bool.and_eq_true,and_self,true_and,and_true];done))
  refine zc9 rfl (fun hc=>?_) (fun hc=>?_)
  · repeat' first|refine zie rfl ?_|refine zc4 rfl ?_|refine zc7 ?_|refine zc8 ?_|refine zc5 ?_|refine zc6 ?_|(simp (maxSteps:=2000000) only [go_sem,Nat.reduceAdd,Nat.reduceMul,Nat.reduceBEq,Nat.reduceLeDiff,Nat.reduceLT,Nat.reduceEqDiff];try rfl)|refine zc3 ?_|(refine And.intro ?_ ?_;focus (intros;simp_all only [Bool.or_eq_false_iff,Bool.or_eq_true,Bool.and_eq_true,and_self,true_and,and_true];done))
    congr 1
    rcases (Bool.or_eq_true _ _).mp hc with h1|h1
    · rw [Bool.not_eq_true'] at h1;rw [In,h1];rfl
    · rw [zrP,decide_eq_false (by have:=zjD h1;omega),Bool.false_and,Bool.and_false]
  obtain ⟨h1,h2⟩:=Bool.or_eq_false_iff.1 hc
  rw [Bool.not_eq_false'] at h1
  have h64:a.l.length=64:=by have:=zjE h2;omega
  rw [In,h1,Bool.true_and]
  repeat' first|refine zie rfl ?_|refine zc4 rfl ?_|refine zc7 ?_|refine zc8 ?_|refine zc5 ?_|refine zc6 ?_|(simp (maxSteps:=2000000) only [go_sem,Nat.reduceAdd,Nat.reduceMul,Nat.reduceBEq,Nat.reduceLeDiff,Nat.reduceLT,Nat.reduceEqDiff];try rfl)|refine zc3 ?_|(refine And.intro ?_ ?_;focus (intros;simp_all only [Bool.or_eq_false_iff,Bool.or_eq_true,Bool.and_eq_true,and_self,true_and,and_true];done))
  refine zde (ι:=Nat) (fun k=>⟨[(15,true,.c (.v a.val)),(16,true,.c (.v (.int .i64 a.l.length))),(17,true,.c (.v (.int .i64 k)))],[],h,0⟩) (fun k=>k≤a.l.length∧(a.l.take k).all (fun n=>In n 0 240)=true) (fun k=>a.l.length - k) 0 ⟨Nat.zero_le _,rfl⟩ ?_ ?_
  · simp (maxSteps:=2000000) only [go_sem,Nat.reduceAdd,Nat.reduceMul,Nat.reduceBEq,Nat.reduceLeDiff,Nat.reduceLT,Nat.reduceEqDiff]
    first|exact rfl|exact ⟨rfl,rfl⟩|exact ⟨rfl,rfl,rfl⟩|exact ⟨rfl,rfl,rfl,rfl⟩|exact ⟨rfl,rfl,rfl,rfl,rfl⟩
  intro k hk
  repeat' first|refine zie rfl ?_|refine zc4 rfl ?_|refine zc7 ?_|refine zc8 ?_|refine zc5 ?_|refine zc6 ?_|(simp (maxSteps:=2000000) only [go_sem,Nat.reduceAdd,Nat.reduceMul,Nat.reduceBEq,Nat.reduceLeDiff,Nat.reduceLT,Nat.reduceEqDiff];try rfl)|refine zc3 ?_|(refine And.intro ?_ ?_;focus (intros;simp_all only [Bool.or_eq_false_iff,Bool.or_eq_true,Bool.and_eq_true,and_self,true_and,and_true];done))
  refine zc9 rfl (fun hd=>?_) (fun hd=>?_)
  · have hlt:=zjH hd
    repeat' first|refine zie rfl ?_|refine zc4 rfl ?_|refine zc7 ?_|refine zc8 ?_|refine zc5 ?_|refine zc6 ?_|refine zhF (fun _=>zrc _ _ _ _) ?_|(simp (maxSteps:=2000000) only [go_sem,Nat.reduceAdd,Nat.reduceMul,Nat.reduceBEq,Nat.reduceLeDiff,Nat.reduceLT,Nat.reduceEqDiff,zkR ha hlt,ha.some hlt,hlt,Int.toNat_natCast];try rfl)|refine zc3 ?_|(refine And.intro ?_ ?_;focus (intros;simp_all only [Bool.or_eq_false_iff,Bool.or_eq_true,Bool.and_eq_true,and_self,true_and,and_true];done))
    refine zc9 rfl (fun hq=>?_) (fun hq=>?_)
    · rw [Bool.not_eq_true'] at hq
      repeat' first|refine zie rfl ?_|refine zc4 rfl ?_|refine zc7 ?_|refine zc8 ?_|refine zc5 ?_|refine zc6 ?_|(simp (maxSteps:=2000000) only [go_sem,Nat.reduceAdd,Nat.reduceMul,Nat.reduceBEq,Nat.reduceLeDiff,Nat.reduceLT,Nat.reduceEqDiff];try rfl)|refine zc3 ?_|(refine And.intro ?_ ?_;focus (intros;simp_all only [Bool.or_eq_false_iff,Bool.or_eq_true,Bool.and_eq_true,and_self,true_and,and_true];done))
      rw [zrX hlt hq]
    · rw [Bool.not_eq_false'] at hq
      repeat' first|refine zie rfl ?_|refine zc4 rfl ?_|refine zc7 ?_|refine zc8 ?_|refine zc5 ?_|refine zc6 ?_|(simp (maxSteps:=2000000) only [go_sem,Nat.reduceAdd,Nat.reduceMul,Nat.reduceBEq,Nat.reduceLeDiff,Nat.reduceLT,Nat.reduceEqDiff];try rfl)|refine zc3 ?_|(refine And.intro ?_ ?_;focus (intros;simp_all only [Bool.or_eq_false_iff,Bool.or_eq_true,Bool.and_eq_true,and_self,true_and,and_true];done))
      exact ⟨k+1,⟨hlt,zro hlt hk.2 hq⟩,by omega,zjB (zjA hlt (by omega))⟩
  · have hge:=zjI hd
    repeat' first|refine zie rfl ?_|refine zc4 rfl ?_|refine zc7 ?_|refine zc8 ?_|refine zc5 ?_|refine zc6 ?_|(simp (maxSteps:=2000000) only [go_sem,Nat.reduceAdd,Nat.reduceMul,Nat.reduceBEq,Nat.reduceLeDiff,Nat.reduceLT,Nat.reduceEqDiff];try rfl)|refine zc3 ?_|(refine And.intro ?_ ?_;focus (intros;simp_all only [Bool.or_eq_false_iff,Bool.or_eq_true,Bool.and_eq_true,and_self,true_and,and_true];done))
    rw [zrY h64 hge hk.2]
theorem zr0 (a:Sl Int) (h:Hp) (ha:a.Ok h):Ct Try.prog 72 [a.val] h fun v h'=>v=.bool (zrP a.l)∧h'=h:=by
  have hl:=ha.max
  refine zdn (fun A W=>by simp) Try.func72 rfl rfl (by simp) fun W0=>?_
  repeat' first|refine zie rfl ?_|refine zc4 rfl ?_|refine zc7 ?_|refine zc8 ?_|refine zc5 ?_|refine zc6 ?_|(simp (maxSteps:=2000000) only [go_sem,Nat.reduceAdd,Nat.reduceMul,Nat.reduceBEq,Nat.reduceLeDiff,Nat.reduceLT,Nat.reduceEqDiff];try rfl)|refine zc3 ?_|(refine And.intro ?_ ?_;focus (intros;simp_all only [Bool.or_eq_false_iff,Bool.or_eq_true,Bool.and_eq_true,and_self,true_and,and_true];done))
  refine zc9 rfl (fun hc=>?_) (fun hc=>?_)
  · repeat' first|refine zie rfl ?_|refine zc4 rfl ?_|refine zc7 ?_|refine zc8 ?_|refine zc5 ?_|refine zc6 ?_|(simp (maxSteps:=2000000) only [go_sem,Nat.reduceAdd,Nat.reduceMul,Nat.reduceBEq,Nat.reduceLeDiff,Nat.reduceLT,Nat.reduceEqDiff];try rfl)|refine zc3 ?_|(refine And.intro ?_ ?_;focus (intros;simp_all only [Bool.or_eq_false_iff,Bool.or_eq_true,Bool.and_eq_true,and_self,true_and,and_true];done))
    rw [zrP,decide_eq_false (by have:=zjD hc;omega)];rfl
  have h64:a.l.length=64:=by have:=zjE hc;omega
  repeat' first|refine zie rfl ?_|refine zc4 rfl ?_|refine zc7 ?_|refine zc8 ?_|refine zc5 ?_|refine zc6 ?_|(simp (maxSteps:=2000000) only [go_sem,Nat.reduceAdd,Nat.reduceMul,Nat.reduceBEq,Nat.reduceLeDiff,Nat.reduceLT,Nat.reduceEqDiff];try rfl)|refine zc3 ?_|(refine And.intro ?_ ?_;focus (intros;simp_all only [Bool.or_eq_false_iff,Bool.or_eq_true,Bool.and_eq_true,and_self,true_and,and_true];done))
  refine zde (ι:=Nat) (fun k=>⟨[(8,true,.c (.v a.val)),(9,true,.c (.v (.int .i64 a.l.length))),(10,true,.c (.v (.int .i64 k)))],[],h,0⟩) (fun k=>k≤a.l.length∧(a.l.take k).all (fun n=>In n 0 240)=true) (fun k=>a.l.length - k) 0 ⟨Nat.zero_le _,rfl⟩ ?_ ?_
  · simp (maxSteps:=2000000) only [go_sem,Nat.reduceAdd,Nat.reduceMul,Nat.reduceBEq,Nat.reduceLeDiff,Nat.reduceLT,Nat.reduceEqDiff]
    first|exact rfl|exact ⟨rfl,rfl⟩|exact ⟨rfl,rfl,rfl⟩|exact ⟨rfl,rfl,rfl,rfl⟩|exact ⟨rfl,rfl,rfl,rfl,rfl⟩
  intro k hk
  repeat' first|refine zie rfl ?_|refine zc4 rfl ?_|refine zc7 ?_|refine zc8 ?_|refine zc5 ?_|refine zc6 ?_|(simp (maxSteps:=2000000) only [go_sem,Nat.reduceAdd,Nat.reduceMul,Nat.reduceBEq,Nat.reduceLeDiff,Nat.reduceLT,Nat.reduceEqDiff];try rfl)|refine zc3 ?_|(refine And.intro ?_ ?_;focus (intros;simp_all only [Bool.or_eq_false_iff,Bool.or_eq_true,Bool.and_eq_true,and_self,true_and,and_true];done))
  refine zc9 rfl (fun hd=>?_) (fun hd=>?_)
  · have hlt:=zjH hd
    repeat' first|refine zie rfl ?_|refine zc4 rfl ?_|refine zc7 ?_|refine zc8 ?_|refine zc5 ?_|refine zc6 ?_|refine zhF (fun _=>zrd _ _ _ _) ?_|(simp (maxSteps:=2000000) only [go_sem,Nat.reduceAdd,Nat.reduceMul,Nat.reduceBEq,Nat.reduceLeDiff,Nat.reduceLT,Nat.reduceEqDiff,zkR ha hlt,ha.some hlt,hlt,Int.toNat_natCast];try rfl)|refine zc3 ?_|(refine And.intro ?_ ?_;focus (intros;simp_all only [Bool.or_eq_false_iff,Bool.or_eq_true,Bool.and_eq_true,and_self,true_and,and_true];done))
    refine zc9 rfl (fun hq=>?_) (fun hq=>?_)
    · rw [Bool.not_eq_true'] at hq
      repeat' first|refine zie rfl ?_|refine zc4 rfl ?_|refine zc7 ?_|refine zc8 ?_|refine zc5 ?_|refine zc6 ?_|(simp (maxSteps:=2000000) only [go_sem,Nat.reduceAdd,Nat.reduceMul,Nat.reduceBEq,Nat.reduceLeDiff,Nat.reduceLT,Nat.reduceEqDiff];try rfl)|refine zc3 ?_|(refine And.intro ?_ ?_;focus (intros;simp_all only [Bool.or_eq_false_iff,Bool.or_eq_true,Bool.and_eq_true,and_self,true_and,and_true];done))
      rw [zrX hlt hq]
    · rw [Bool.not_eq_false'] at hq
      repeat' first|refine zie rfl ?_|refine zc4 rfl ?_|refine zc7 ?_|refine zc8 ?_|refine zc5 ?_|refine zc6 ?_|(simp (maxSteps:=2000000) only [go_sem,Nat.reduceAdd,Nat.reduceMul,Nat.reduceBEq,Nat.reduceLeDiff,Nat.reduceLT,Nat.reduceEqDiff];try rfl)|refine zc3 ?_|(refine And.intro ?_ ?_;focus (intros;simp_all only [Bool.or_eq_false_iff,Bool.or_eq_true,Bool.and_eq_true,and_self,true_and,and_true];done))
      exact ⟨k+1,⟨hlt,zro hlt hk.2 hq⟩,by omega,zjB (zjA hlt (by omega))⟩
  · have hge:=zjI hd
    repeat' first|refine zie rfl ?_|refine zc4 rfl ?_|refine zc7 ?_|refine zc8 ?_|refine zc5 ?_|refine zc6 ?_|(simp (maxSteps:=2000000) only [go_sem,Nat.reduceAdd,Nat.reduceMul,Nat.reduceBEq,Nat.reduceLeDiff,Nat.reduceLT,Nat.reduceEqDiff];try rfl)|refine zc3 ?_|(refine And.intro ?_ ?_;focus (intros;simp_all only [Bool.or_eq_false_iff,Bool.or_eq_true,Bool.and_eq_true,and_self,true_and,and_true];done))
    rw [zrY h64 hge hk.2]
theorem zr1 (w:DCrew):zrQ (Con.con w)=(In w.tugs 0 12 && In w.pilots 0 12 && (In w.rest 0 2880 && zrP w.moves.l)):=by
  rw [zrQ,show (Con.con w).moves=w.moves.l from zkA];rfl
theorem zr2 (w:DCrew) (h:Hp) (hw:Enc.ok h w):Ct Try.prog 53 [w.v] h fun v h'=>v=.bool (zrQ (Con.con w))∧h'=h:=by
  rw [zr1]
  refine zdn (fun A W=>by simp) Try.func53 rfl rfl (by simp) fun W0=>?_
  repeat' first|refine zie rfl ?_|refine zc4 rfl ?_|refine zc7 ?_|refine zc8 ?_|refine zc5 ?_|refine zc6 ?_|refine zhF (fun _=>zrc _ _ _ _) ?_|refine zhF (fun _=>zrZ _ _ _ hw.2.2.2) ?_|(simp (maxSteps:=2000000) only [go_sem,Nat.reduceAdd,Nat.reduceMul,Nat.reduceBEq,Nat.reduceLeDiff,Nat.reduceLT,Nat.reduceEqDiff];try rfl)|refine zc3 ?_|(refine And.intro ?_ ?_;focus (intros;simp_all only [Bool.or_eq_false_iff,Bool.or_eq_true,Bool.and_eq_true,and_self,true_and,and_true];done))
theorem zr3 (w:DCrew) (h:Hp) (hw:Enc.ok h w):Ct Try.prog 59 [w.v] h fun v h'=>v=.bool (zrQ (Con.con w))∧h'=h:=by
  rw [zr1]
  refine zdn (fun A W=>by simp) Try.func59 rfl rfl (by simp) fun W0=>?_
  repeat' first|refine zie rfl ?_|refine zc4 rfl ?_|refine zc7 ?_|refine zc8 ?_|refine zc5 ?_|refine zc6 ?_|refine zhF (fun _=>zrd _ _ _ _) ?_|refine zhF (fun _=>zre _ _) ?_|refine zhF (fun _=>zr0 _ _ hw.2.2.2) ?_|(simp (maxSteps:=2000000) only [go_sem,Nat.reduceAdd,Nat.reduceMul,Nat.reduceBEq,Nat.reduceLeDiff,Nat.reduceLT,Nat.reduceEqDiff];try rfl)|refine zc3 ?_|(refine And.intro ?_ ?_;focus (intros;simp_all only [Bool.or_eq_false_iff,Bool.or_eq_true,Bool.and_eq_true,and_self,true_and,and_true];done))
  congr 1;rw [Bool.eq_iff_iff];simp only [In,Bool.and_eq_true,Bool.or_eq_true,Bool.not_eq_true',decide_eq_true_eq,decide_eq_false_iff_not,beq_iff_eq,and_assoc]
end Go.Proofs.Ytjiggadgmmjnhaa
namespace Go.Proofs.Ytjiggadgmmjnhaa
open Go Go.SL
set_option maxHeartbeats 1000000
end Go.Proofs.Ytjiggadgmmjnhaa
namespace Go.Proofs.Ytjiggadgmmjnhaa
open Go Go.SL
set_option maxHeartbeats 1000000
def zr4 (c:PChart) (p:DPassage):Int × Int:=if p.toward then ((c.segments.getD p.seg.toNat dG).a,(c.segments.getD p.seg.toNat dG).b) else ((c.segments.getD p.seg.toNat dG).b,(c.segments.getD p.seg.toNat dG).a)
def zr5 (s:DShip) (g:DSegment):Int:=if s.slow then IntKind.i64.wrap (2 * g.minutes) else g.minutes
def zr6 (c:PChart) (l:List DShip) (p:DPassage):Bool:=decide (0≤p.ship∧p.ship < l.length∧0≤p.seg∧p.seg < c.segments.length∧0≤p.start∧p.start≤2880∧p.fin≤2880) && decide (p.fin=IntKind.i64.wrap (p.start+zr5 (l.getD p.ship.toNat dH) (c.segments.getD p.seg.toNat dG)))
def zr7 (c:PChart) (l:List DShip) (p:DPassage):Bool:=zrC c && zrO l && zr6 c l p
theorem zr8 (c:DChart):(Con.con c).segments=c.segments.l:=zru _
theorem zr9 (c:DChart) (p:DPassage) (hs:p.seg.toNat < c.segments.l.length):zr4 (Con.con c) p=if p.toward then (c.segments.l[p.seg.toNat].a,c.segments.l[p.seg.toNat].b) else (c.segments.l[p.seg.toNat].b,c.segments.l[p.seg.toNat].a):=by
  rw [zr4,zr8,gget hs]
theorem zsa (c:DChart) (p:DPassage) (h:Hp) (hc:Enc.ok h c) (h0:0≤p.seg) (h1:p.seg < c.segments.l.length):Ct Try.prog 77 [c.v,p.v] h fun v h'=>v=.tuple #[.int .i64 (zr4 (Con.con c) p).1,.int .i64 (zr4 (Con.con c) p).2]∧h'=h:=by
  have hg:=hc.2
  have hs:p.seg.toNat < c.segments.l.length:=by omega
  rw [zr9 c p hs]
  refine zdn (fun A W=>by simp) Try.func77 rfl rfl (by simp) fun W0=>?_
  repeat' first|refine zie rfl ?_|refine zc4 rfl ?_|refine zc7 ?_|refine zc8 ?_|refine zc5 ?_|refine zc6 ?_|(simp (maxSteps:=2000000) only [go_sem,Nat.reduceAdd,Nat.reduceMul,Nat.reduceBEq,Nat.reduceLeDiff,Nat.reduceLT,Nat.reduceEqDiff,zld hg hs,hg.some hs,hs,h0,h1];try rfl)|refine zc3 ?_|(refine And.intro ?_ ?_;focus (intros;simp_all only [Bool.or_eq_false_iff,Bool.or_eq_true,Bool.and_eq_true,and_self,true_and,and_true];done))
  refine zc9 rfl (fun hq=>?_) (fun hq=>?_)
  · repeat' first|refine zie rfl ?_|refine zc4 rfl ?_|refine zc7 ?_|refine zc8 ?_|refine zc5 ?_|refine zc6 ?_|(simp (maxSteps:=2000000) only [go_sem,Nat.reduceAdd,Nat.reduceMul,Nat.reduceBEq,Nat.reduceLeDiff,Nat.reduceLT,Nat.reduceEqDiff];try rfl)|refine zc3 ?_|(refine And.intro ?_ ?_;focus (intros;simp_all only [Bool.or_eq_false_iff,Bool.or_eq_true,Bool.and_eq_true,and_self,true_and,and_true];done))
    refine zi8 rfl (by kernel_rfl) ?_
    simp (maxSteps:=2000000) only [go_sem,Nat.reduceAdd,Nat.reduceMul,Nat.reduceBEq,Nat.reduceLeDiff,Nat.reduceLT,Nat.reduceEqDiff]
    repeat' first|refine zie rfl ?_|refine zc4 rfl ?_|refine zc7 ?_|refine zc8 ?_|refine zc5 ?_|refine zc6 ?_|(simp (maxSteps:=2000000) only [go_sem,Nat.reduceAdd,Nat.reduceMul,Nat.reduceBEq,Nat.reduceLeDiff,Nat.reduceLT,Nat.reduceEqDiff];try rfl)|refine zc3 ?_|(refine And.intro ?_ ?_;focus (intros;simp_all only [Bool.or_eq_false_iff,Bool.or_eq_true,Bool.and_eq_true,and_self,true_and,and_true];done))
    rw [hq];rfl
  · repeat' first|refine zie rfl ?_|refine zc4 rfl ?_|refine zc7 ?_|refine zc8 ?_|refine zc5 ?_|refine zc6 ?_|(simp (maxSteps:=2000000) only [go_sem,Nat.reduceAdd,Nat.reduceMul,Nat.reduceBEq,Nat.reduceLeDiff,Nat.reduceLT,Nat.reduceEqDiff];try rfl)|refine zc3 ?_|(refine And.intro ?_ ?_;focus (intros;simp_all only [Bool.or_eq_false_iff,Bool.or_eq_true,Bool.and_eq_true,and_self,true_and,and_true];done))
    refine zi8 rfl (by kernel_rfl) ?_
    simp (maxSteps:=2000000) only [go_sem,Nat.reduceAdd,Nat.reduceMul,Nat.reduceBEq,Nat.reduceLeDiff,Nat.reduceLT,Nat.reduceEqDiff]
    repeat' first|refine zie rfl ?_|refine zc4 rfl ?_|refine zc7 ?_|refine zc8 ?_|refine zc5 ?_|refine zc6 ?_|(simp (maxSteps:=2000000) only [go_sem,Nat.reduceAdd,Nat.reduceMul,Nat.reduceBEq,Nat.reduceLeDiff,Nat.reduceLT,Nat.reduceEqDiff];try rfl)|refine zc3 ?_|(refine And.intro ?_ ?_;focus (intros;simp_all only [Bool.or_eq_false_iff,Bool.or_eq_true,Bool.and_eq_true,and_self,true_and,and_true];done))
    rw [hq];rfl
theorem zsb (c:DChart) (p:DPassage) (h:Hp) (hc:Enc.ok h c) (h0:0≤p.seg) (h1:p.seg < c.segments.l.length):Ct Try.prog 97 [p.v,c.v] h fun v h'=>v=.tuple #[.int .i64 (zr4 (Con.con c) p).1,.int .i64 (zr4 (Con.con c) p).2]∧h'=h:=by
  have hg:=hc.2
  have hs:p.seg.toNat < c.segments.l.length:=by omega
  rw [zr9 c p hs]
  refine zdn (fun A W=>by simp) Try.func97 rfl rfl (by simp) fun W0=>?_
  repeat' first|refine zie rfl ?_|refine zc4 rfl ?_|refine zc7 ?_|refine zc8 ?_|refine zc5 ?_|refine zc6 ?_|(simp (maxSteps:=2000000) only [go_sem,Nat.reduceAdd,Nat.reduceMul,Nat.reduceBEq,Nat.reduceLeDiff,Nat.reduceLT,Nat.reduceEqDiff,zld hg hs,hg.some hs,hs,h0,h1];try rfl)|refine zc3 ?_|(refine And.intro ?_ ?_;focus (intros;simp_all only [Bool.or_eq_false_iff,Bool.or_eq_true,Bool.and_eq_true,and_self,true_and,and_true];done))
  refine zc9 rfl (fun hq=>?_) (fun hq=>?_)
  · repeat' first|refine zie rfl ?_|refine zc4 rfl ?_|refine zc7 ?_|refine zc8 ?_|refine zc5 ?_|refine zc6 ?_|(simp (maxSteps:=2000000) only [go_sem,Nat.reduceAdd,Nat.reduceMul,Nat.reduceBEq,Nat.reduceLeDiff,Nat.reduceLT,Nat.reduceEqDiff];try rfl)|refine zc3 ?_|(refine And.intro ?_ ?_;focus (intros;simp_all only [Bool.or_eq_false_iff,Bool.or_eq_true,Bool.and_eq_true,and_self,true_and,and_true];done))
    refine zi8 rfl (by kernel_rfl) ?_
    simp (maxSteps:=2000000) only [go_sem,Nat.reduceAdd,Nat.reduceMul,Nat.reduceBEq,Nat.reduceLeDiff,Nat.reduceLT,Nat.reduceEqDiff]
    repeat' first|refine zie rfl ?_|refine zc4 rfl ?_|refine zc7 ?_|refine zc8 ?_|refine zc5 ?_|refine zc6 ?_|(simp (maxSteps:=2000000) only [go_sem,Nat.reduceAdd,Nat.reduceMul,Nat.reduceBEq,Nat.reduceLeDiff,Nat.reduceLT,Nat.reduceEqDiff];try rfl)|refine zc3 ?_|(refine And.intro ?_ ?_;focus (intros;simp_all only [Bool.or_eq_false_iff,Bool.or_eq_true,Bool.and_eq_true,and_self,true_and,and_true];done))
    rw [hq];rfl
  · repeat' first|refine zie rfl ?_|refine zc4 rfl ?_|refine zc7 ?_|refine zc8 ?_|refine zc5 ?_|refine zc6 ?_|(simp (maxSteps:=2000000) only [go_sem,Nat.reduceAdd,Nat.reduceMul,Nat.reduceBEq,Nat.reduceLeDiff,Nat.reduceLT,Nat.reduceEqDiff];try rfl)|refine zc3 ?_|(refine And.intro ?_ ?_;focus (intros;simp_all only [Bool.or_eq_false_iff,Bool.or_eq_true,Bool.and_eq_true,and_self,true_and,and_true];done))
    refine zi8 rfl (by kernel_rfl) ?_
    simp (maxSteps:=2000000) only [go_sem,Nat.reduceAdd,Nat.reduceMul,Nat.reduceBEq,Nat.reduceLeDiff,Nat.reduceLT,Nat.reduceEqDiff]
    repeat' first|refine zie rfl ?_|refine zc4 rfl ?_|refine zc7 ?_|refine zc8 ?_|refine zc5 ?_|refine zc6 ?_|(simp (maxSteps:=2000000) only [go_sem,Nat.reduceAdd,Nat.reduceMul,Nat.reduceBEq,Nat.reduceLeDiff,Nat.reduceLT,Nat.reduceEqDiff];try rfl)|refine zc3 ?_|(refine And.intro ?_ ?_;focus (intros;simp_all only [Bool.or_eq_false_iff,Bool.or_eq_true,Bool.and_eq_true,and_self,true_and,and_true];done))
    rw [hq];rfl
theorem zsc (g:DSegment) (s:DShip) (h:Hp):Ct Try.prog 103 [g.v,s.v] h fun v h'=>v=.int .i64 (zr5 s g)∧h'=h:=by
  refine zdn (fun A W=>by simp) Try.func103 rfl rfl (by simp) fun W0=>?_
  repeat' first|refine zie rfl ?_|refine zc4 rfl ?_|refine zc7 ?_|refine zc8 ?_|refine zc5 ?_|refine zc6 ?_|(simp (maxSteps:=2000000) only [go_sem,Nat.reduceAdd,Nat.reduceMul,Nat.reduceBEq,Nat.reduceLeDiff,Nat.reduceLT,Nat.reduceEqDiff];try rfl)|refine zc3 ?_|(refine And.intro ?_ ?_;focus (intros;simp_all only [Bool.or_eq_false_iff,Bool.or_eq_true,Bool.and_eq_true,and_self,true_and,and_true];done))
  refine zc9 rfl (fun hq=>?_) (fun hq=>?_)
  · repeat' first|refine zie rfl ?_|refine zc4 rfl ?_|refine zc7 ?_|refine zc8 ?_|refine zc5 ?_|refine zc6 ?_|(simp (maxSteps:=2000000) only [go_sem,Nat.reduceAdd,Nat.reduceMul,Nat.reduceBEq,Nat.reduceLeDiff,Nat.reduceLT,Nat.reduceEqDiff];try rfl)|refine zc3 ?_|(refine And.intro ?_ ?_;focus (intros;simp_all only [Bool.or_eq_false_iff,Bool.or_eq_true,Bool.and_eq_true,and_self,true_and,and_true];done))
    rw [zr5,if_pos hq]
  · repeat' first|refine zie rfl ?_|refine zc4 rfl ?_|refine zc7 ?_|refine zc8 ?_|refine zc5 ?_|refine zc6 ?_|(simp (maxSteps:=2000000) only [go_sem,Nat.reduceAdd,Nat.reduceMul,Nat.reduceBEq,Nat.reduceLeDiff,Nat.reduceLT,Nat.reduceEqDiff];try rfl)|refine zc3 ?_|(refine And.intro ?_ ?_;focus (intros;simp_all only [Bool.or_eq_false_iff,Bool.or_eq_true,Bool.and_eq_true,and_self,true_and,and_true];done))
    rw [zr5,if_neg (by rw [hq];exact Bool.false_ne_true)]
theorem zsd (s:DShip) (g:DSegment) (h:Hp):Ct Try.prog 109 [s.v,g.v] h fun v h'=>v=.int .i64 (zr5 s g)∧h'=h:=by
  refine zdn (fun A W=>by simp) Try.func109 rfl rfl (by simp) fun W0=>?_
  repeat' first|refine zie rfl ?_|refine zc4 rfl ?_|refine zc7 ?_|refine zc8 ?_|refine zc5 ?_|refine zc6 ?_|(simp (maxSteps:=2000000) only [go_sem,Nat.reduceAdd,Nat.reduceMul,Nat.reduceBEq,Nat.reduceLeDiff,Nat.reduceLT,Nat.reduceEqDiff];try rfl)|refine zc3 ?_|(refine And.intro ?_ ?_;focus (intros;simp_all only [Bool.or_eq_false_iff,Bool.or_eq_true,Bool.and_eq_true,and_self,true_and,and_true];done))
  refine zc9 rfl (fun hq=>?_) (fun hq=>?_)
  · repeat' first|refine zie rfl ?_|refine zc4 rfl ?_|refine zc7 ?_|refine zc8 ?_|refine zc5 ?_|refine zc6 ?_|(simp (maxSteps:=2000000) only [go_sem,Nat.reduceAdd,Nat.reduceMul,Nat.reduceBEq,Nat.reduceLeDiff,Nat.reduceLT,Nat.reduceEqDiff];try rfl)|refine zc3 ?_|(refine And.intro ?_ ?_;focus (intros;simp_all only [Bool.or_eq_false_iff,Bool.or_eq_true,Bool.and_eq_true,and_self,true_and,and_true];done))
    rw [zr5,if_pos hq]
  · repeat' first|refine zie rfl ?_|refine zc4 rfl ?_|refine zc7 ?_|refine zc8 ?_|refine zc5 ?_|refine zc6 ?_|(simp (maxSteps:=2000000) only [go_sem,Nat.reduceAdd,Nat.reduceMul,Nat.reduceBEq,Nat.reduceLeDiff,Nat.reduceLT,Nat.reduceEqDiff];try rfl)|refine zc3 ?_|(refine And.intro ?_ ?_;focus (intros;simp_all only [Bool.or_eq_false_iff,Bool.or_eq_true,Bool.and_eq_true,and_self,true_and,and_true];done))
    rw [zr5,if_neg (by rw [hq];exact Bool.false_ne_true)]
theorem zse (c:DChart) (k:Int) (s:DShip) (h:Hp) (hc:Enc.ok h c) (hs:Enc.ok h s):Ct Try.prog 93 [c.v,.int .i64 k,s.v] h fun v h'=>v=.int .i64 (if zrC (Con.con c)=true∧zrN s=true∧0≤k∧k < c.segments.l.length then zr5 s (c.segments.l.getD k.toNat dG) else 0)∧h'=h:=by
  have hg:=hc.2
  have hl:=hg.max
  have hw:IntKind.i64.wrap ((c.segments.l.length:Int) - 1)=(c.segments.l.length:Int) - 1:=zjz (by omega)
  refine zdn (fun A W=>by simp) Try.func93 rfl rfl (by simp) fun W0=>?_
  repeat' first|refine zie rfl ?_|refine zc4 rfl ?_|refine zc7 ?_|refine zc8 ?_|refine zc5 ?_|refine zc6 ?_|refine zhF (fun _=>zrK c _ hc) ?_|refine zhF (fun _=>zrS s _ hs) ?_|refine zhF (fun _=>zrc _ _ _ _) ?_|(simp (maxSteps:=2000000) only [go_sem,Nat.reduceAdd,Nat.reduceMul,Nat.reduceBEq,Nat.reduceLeDiff,Nat.reduceLT,Nat.reduceEqDiff,hw];try rfl)|refine zc3 ?_|(refine And.intro ?_ ?_;focus (intros;simp_all only [Bool.or_eq_false_iff,Bool.or_eq_true,Bool.and_eq_true,and_self,true_and,and_true];done))
  refine zc9 rfl (fun hq=>?_) (fun hq=>?_)
  · repeat' first|refine zie rfl ?_|refine zc4 rfl ?_|refine zc7 ?_|refine zc8 ?_|refine zc5 ?_|refine zc6 ?_|(simp (maxSteps:=2000000) only [go_sem,Nat.reduceAdd,Nat.reduceMul,Nat.reduceBEq,Nat.reduceLeDiff,Nat.reduceLT,Nat.reduceEqDiff];try rfl)|refine zc3 ?_|(refine And.intro ?_ ?_;focus (intros;simp_all only [Bool.or_eq_false_iff,Bool.or_eq_true,Bool.and_eq_true,and_self,true_and,and_true];done))
    simp only [Bool.or_eq_true,Bool.not_eq_true',Bool.and_eq_false_iff,decide_eq_false_iff_not] at hq
    rw [if_neg]
    rintro ⟨h1,h2,h3,h4⟩
    rw [h1,h2] at hq
    rcases hq with (hq|hq)|hq
    · cases hq
    · cases hq
    · omega
  · simp only [Bool.or_eq_false_iff,Bool.not_eq_false',Bool.and_eq_true,decide_eq_true_eq] at hq
    obtain ⟨⟨h1,h2⟩,h3,h4⟩:=hq
    have hs':k.toNat < c.segments.l.length:=by omega
    have h4':k < (c.segments.l.length:Int):=by omega
    rw [if_pos ⟨h1,h2,h3,h4'⟩,gget hs']
    repeat' first|refine zie rfl ?_|refine zc4 rfl ?_|refine zc7 ?_|refine zc8 ?_|refine zc5 ?_|refine zc6 ?_|(simp (maxSteps:=2000000) only [go_sem,Nat.reduceAdd,Nat.reduceMul,Nat.reduceBEq,Nat.reduceLeDiff,Nat.reduceLT,Nat.reduceEqDiff];try rfl)|refine zc3 ?_|(refine And.intro ?_ ?_;focus (intros;simp_all only [Bool.or_eq_false_iff,Bool.or_eq_true,Bool.and_eq_true,and_self,true_and,and_true];done))
    refine ziV rfl ?_
    refine zi3 [0,1,2,3,4,5] rfl (by kernel_rfl) ?_
    simp (maxSteps:=2000000) only [go_sem,Nat.reduceAdd,Nat.reduceMul,Nat.reduceBEq,Nat.reduceLeDiff,Nat.reduceLT,Nat.reduceEqDiff,zld hg hs',hg.some hs',hs',h3,h4']
    refine ziT [6] (by kernel_rfl) (by kernel_rfl) ?_
    simp (maxSteps:=2000000) only [go_sem,Nat.reduceAdd,Nat.reduceMul,Nat.reduceBEq,Nat.reduceLeDiff,Nat.reduceLT,Nat.reduceEqDiff,zld hg hs',hg.some hs',hs',h3,h4']
    refine zhF (fun _=>zsc _ _ _) ?_
    simp (maxSteps:=2000000) only [go_sem,Nat.reduceAdd,Nat.reduceMul,Nat.reduceBEq,Nat.reduceLeDiff,Nat.reduceLT,Nat.reduceEqDiff,zld hg hs',hg.some hs',hs',h3,h4']
    refine zi3 [7] rfl (by kernel_rfl) ?_
    simp (maxSteps:=2000000) only [go_sem,Nat.reduceAdd,Nat.reduceMul,Nat.reduceBEq,Nat.reduceLeDiff,Nat.reduceLT,Nat.reduceEqDiff]
    refine ziU (by kernel_rfl) ?_
    repeat' first|refine zie rfl ?_|refine zc4 rfl ?_|refine zc7 ?_|refine zc8 ?_|refine zc5 ?_|refine zc6 ?_|(simp (maxSteps:=2000000) only [go_sem,Nat.reduceAdd,Nat.reduceMul,Nat.reduceBEq,Nat.reduceLeDiff,Nat.reduceLT,Nat.reduceEqDiff];try rfl)|refine zc3 ?_|(refine And.intro ?_ ?_;focus (intros;simp_all only [Bool.or_eq_false_iff,Bool.or_eq_true,Bool.and_eq_true,and_self,true_and,and_true];done))
theorem zsf (c:DChart) (l:List DShip) (p:DPassage):zr6 (Con.con c) l p=(decide (0≤p.ship∧p.ship < l.length∧0≤p.seg∧p.seg < c.segments.l.length∧0≤p.start∧p.start≤2880∧p.fin≤2880) && decide (p.fin=IntKind.i64.wrap (p.start+zr5 (l.getD p.ship.toNat dH) (c.segments.l.getD p.seg.toNat dG)))):=by
  rw [zr6,zr8]
theorem zsg (c:DChart) (a:Sl DShip) (p:DPassage) (h:Hp) (hc:Enc.ok h c) (ha:a.Ok h):Ct Try.prog 96 [c.v,a.val,p.v] h fun v h'=>v=.bool (zr6 (Con.con c) a.l p)∧h'=h:=by
  have hg:=hc.2
  rw [zsf]
  refine zdn (fun A W=>by simp) Try.func96 rfl rfl (by simp) fun W0=>?_
  repeat' first|refine zie rfl ?_|refine zc4 rfl ?_|refine zc7 ?_|refine zc8 ?_|refine zc5 ?_|refine zc6 ?_|refine zhF (fun _=>zrf _ _ _) ?_|refine zhF (fun _=>zre _ _) ?_|(simp (maxSteps:=2000000) only [go_sem,Nat.reduceAdd,Nat.reduceMul,Nat.reduceBEq,Nat.reduceLeDiff,Nat.reduceLT,Nat.reduceEqDiff];try rfl)|refine zc3 ?_|(refine And.intro ?_ ?_;focus (intros;simp_all only [Bool.or_eq_false_iff,Bool.or_eq_true,Bool.and_eq_true,and_self,true_and,and_true];done))
  refine zc9 rfl (fun hq=>?_) (fun hq=>?_)
  · repeat' first|refine zie rfl ?_|refine zc4 rfl ?_|refine zc7 ?_|refine zc8 ?_|refine zc5 ?_|refine zc6 ?_|(simp (maxSteps:=2000000) only [go_sem,Nat.reduceAdd,Nat.reduceMul,Nat.reduceBEq,Nat.reduceLeDiff,Nat.reduceLT,Nat.reduceEqDiff];try rfl)|refine zc3 ?_|(refine And.intro ?_ ?_;focus (intros;simp_all only [Bool.or_eq_false_iff,Bool.or_eq_true,Bool.and_eq_true,and_self,true_and,and_true];done))
    simp only [Bool.or_eq_true,Bool.not_eq_true',Bool.and_eq_false_iff,decide_eq_false_iff_not,decide_eq_true_eq] at hq
    rw [decide_eq_false (by omega),Bool.false_and]
  · simp only [Bool.or_eq_false_iff,Bool.not_eq_false',Bool.and_eq_true,decide_eq_true_eq,decide_eq_false_iff_not] at hq
    have h1:0≤p.ship∧p.ship < (a.l.length:Int)∧0≤p.seg∧p.seg < (c.segments.l.length:Int)∧0≤p.start∧p.start≤2880∧p.fin≤2880:=by omega
    have hs':p.seg.toNat < c.segments.l.length:=by omega
    have hp':p.ship.toNat < a.l.length:=by omega
    rw [decide_eq_true h1,Bool.true_and,gget hs',hget hp']
    repeat' first|refine zie rfl ?_|refine zc4 rfl ?_|refine zc7 ?_|refine zc8 ?_|refine zc5 ?_|refine zc6 ?_|(simp (maxSteps:=2000000) only [go_sem,Nat.reduceAdd,Nat.reduceMul,Nat.reduceBEq,Nat.reduceLeDiff,Nat.reduceLT,Nat.reduceEqDiff];try rfl)|refine zc3 ?_|(refine And.intro ?_ ?_;focus (intros;simp_all only [Bool.or_eq_false_iff,Bool.or_eq_true,Bool.and_eq_true,and_self,true_and,and_true];done))
    refine ziV rfl ?_
    refine zi3 [0,1,2,3,4,5,6,7,8,9,10,11,12,13,14] rfl (by kernel_rfl) ?_
    simp (maxSteps:=2000000) only [go_sem,Nat.reduceAdd,Nat.reduceMul,Nat.reduceBEq,Nat.reduceLeDiff,Nat.reduceLT,Nat.reduceEqDiff,zld hg hs',hg.some hs',hs',h1.2.2.1,h1.2.2.2.1,zlj ha hp',ha.some hp',hp',h1.1,h1.2.1]
    refine ziT [15] (by kernel_rfl) (by kernel_rfl) ?_
    simp (maxSteps:=2000000) only [go_sem,Nat.reduceAdd,Nat.reduceMul,Nat.reduceBEq,Nat.reduceLeDiff,Nat.reduceLT,Nat.reduceEqDiff,zld hg hs',hg.some hs',hs',h1.2.2.1,h1.2.2.2.1,zlj ha hp',ha.some hp',hp',h1.1,h1.2.1]
    refine zhF (fun _=>zsd _ _ _) ?_
    simp (maxSteps:=2000000) only [go_sem,Nat.reduceAdd,Nat.reduceMul,Nat.reduceBEq,Nat.reduceLeDiff,Nat.reduceLT,Nat.reduceEqDiff,zld hg hs',hg.some hs',hs',h1.2.2.1,h1.2.2.2.1,zlj ha hp',ha.some hp',hp',h1.1,h1.2.1]
    refine zi3 [16,17,18] rfl (by kernel_rfl) ?_
    simp (maxSteps:=2000000) only [go_sem,Nat.reduceAdd,Nat.reduceMul,Nat.reduceBEq,Nat.reduceLeDiff,Nat.reduceLT,Nat.reduceEqDiff]
    refine ziU (by kernel_rfl) ?_
    repeat' first|refine zie rfl ?_|refine zc4 rfl ?_|refine zc7 ?_|refine zc8 ?_|refine zc5 ?_|refine zc6 ?_|(simp (maxSteps:=2000000) only [go_sem,Nat.reduceAdd,Nat.reduceMul,Nat.reduceBEq,Nat.reduceLeDiff,Nat.reduceLT,Nat.reduceEqDiff];try rfl)|refine zc3 ?_|(refine And.intro ?_ ?_;focus (intros;simp_all only [Bool.or_eq_false_iff,Bool.or_eq_true,Bool.and_eq_true,and_self,true_and,and_true];done))
theorem zsh (c:DChart) (a:Sl DShip) (p:DPassage) (h:Hp) (hc:Enc.ok h c) (ha:a.Ok h):Ct Try.prog 80 [c.v,a.val,p.v] h fun v h'=>v=.bool (zr7 (Con.con c) a.l p)∧h'=h:=by
  rw [zr7]
  refine zdn (fun A W=>by simp) Try.func80 rfl rfl (by simp) fun W0=>?_
  repeat' first|refine zie rfl ?_|refine zc4 rfl ?_|refine zc7 ?_|refine zc8 ?_|refine zc5 ?_|refine zc6 ?_|refine zhF (fun _=>zrL c _ hc) ?_|refine zhF (fun _=>zrW _ _ ha) ?_|refine zhF (fun _=>zsg c a p _ hc ha) ?_|(simp (maxSteps:=2000000) only [go_sem,Nat.reduceAdd,Nat.reduceMul,Nat.reduceBEq,Nat.reduceLeDiff,Nat.reduceLT,Nat.reduceEqDiff];try rfl)|refine zc3 ?_|(refine And.intro ?_ ?_;focus (intros;simp_all only [Bool.or_eq_false_iff,Bool.or_eq_true,Bool.and_eq_true,and_self,true_and,and_true];done))
theorem zsi (c:DChart) (a:Sl DShip) (p:DPassage) (h:Hp) (hc:Enc.ok h c) (ha:a.Ok h):Ct Try.prog 76 [c.v,a.val,p.v] h fun v h'=>v=.bool (zr7 (Con.con c) a.l p)∧h'=h:=by
  have hg:=hc.2
  have hl:=hg.max
  have hl2:=ha.max
  have hw:IntKind.i64.wrap ((c.segments.l.length:Int) - 1)=(c.segments.l.length:Int) - 1:=zjz (by omega)
  have hw2:IntKind.i64.wrap ((a.l.length:Int) - 1)=(a.l.length:Int) - 1:=zjz (by omega)
  rw [zr7,zsf]
  refine zdn (fun A W=>by simp) Try.func76 rfl rfl (by simp) fun W0=>?_
  repeat' first|refine zie rfl ?_|refine zc4 rfl ?_|refine zc7 ?_|refine zc8 ?_|refine zc5 ?_|refine zc6 ?_|refine zhF (fun _=>zrK c _ hc) ?_|refine zhF (fun _=>zrT _ _ ha) ?_|refine zhF (fun _=>zrc _ _ _ _) ?_|(simp (maxSteps:=2000000) only [go_sem,Nat.reduceAdd,Nat.reduceMul,Nat.reduceBEq,Nat.reduceLeDiff,Nat.reduceLT,Nat.reduceEqDiff,hw,hw2];try rfl)|refine zc3 ?_|(refine And.intro ?_ ?_;focus (intros;simp_all only [Bool.or_eq_false_iff,Bool.or_eq_true,Bool.and_eq_true,and_self,true_and,and_true];done))
  refine zc9 rfl (fun hq=>?_) (fun hq=>?_)
  · repeat' first|refine zie rfl ?_|refine zc4 rfl ?_|refine zc7 ?_|refine zc8 ?_|refine zc5 ?_|refine zc6 ?_|(simp (maxSteps:=2000000) only [go_sem,Nat.reduceAdd,Nat.reduceMul,Nat.reduceBEq,Nat.reduceLeDiff,Nat.reduceLT,Nat.reduceEqDiff];try rfl)|refine zc3 ?_|(refine And.intro ?_ ?_;focus (intros;simp_all only [Bool.or_eq_false_iff,Bool.or_eq_true,Bool.and_eq_true,and_self,true_and,and_true];done))
    congr 1
    simp only [Bool.or_eq_true,Bool.not_eq_true',Bool.and_eq_false_iff,decide_eq_false_iff_not] at hq
    rcases hq with (((hq|hq)|hq)|hq)|hq
    · rw [hq];rfl
    · rw [hq,Bool.and_false];rfl
    · rw [decide_eq_false (p:=0≤p.ship∧_) (by omega),Bool.false_and,Bool.and_false]
    · rw [decide_eq_false (p:=0≤p.ship∧_) (by omega),Bool.false_and,Bool.and_false]
    · rw [decide_eq_false (p:=0≤p.ship∧_) (by omega),Bool.false_and,Bool.and_false]
  · simp only [Bool.or_eq_false_iff,Bool.not_eq_false',Bool.and_eq_true,decide_eq_true_eq] at hq
    obtain ⟨⟨⟨⟨hC,hF⟩,h1,h2⟩,h3,h4⟩,h5,h6⟩:=hq
    have h2':p.ship < (a.l.length:Int):=by omega
    have h4':p.seg < (c.segments.l.length:Int):=by omega
    have hs':p.seg.toNat < c.segments.l.length:=by omega
    have hp':p.ship.toNat < a.l.length:=by omega
    have hsh:zrN a.l[p.ship.toNat]=true:=by
      have h9:=of_decide_eq_true (Bool.and_eq_true_iff.1 hF).2 p.ship.toNat hp'
      rw [shOk,hget hp'] at h9
      exact (Bool.and_eq_true_iff.1 h9).1
    rw [hC,hF,Bool.and_self,Bool.true_and,gget hs',hget hp']
    repeat' first|refine zie rfl ?_|refine zc4 rfl ?_|refine zc7 ?_|refine zc8 ?_|refine zc5 ?_|refine zc6 ?_|(simp (maxSteps:=2000000) only [go_sem,Nat.reduceAdd,Nat.reduceMul,Nat.reduceBEq,Nat.reduceLeDiff,Nat.reduceLT,Nat.reduceEqDiff];try rfl)|refine zc3 ?_|(refine And.intro ?_ ?_;focus (intros;simp_all only [Bool.or_eq_false_iff,Bool.or_eq_true,Bool.and_eq_true,and_self,true_and,and_true];done))
    refine ziV rfl ?_
    refine zi3 [0,1,2,3,4,5,6,7,8,9,10,11] rfl (by kernel_rfl) ?_
    simp (maxSteps:=2000000) only [go_sem,Nat.reduceAdd,Nat.reduceMul,Nat.reduceBEq,Nat.reduceLeDiff,Nat.reduceLT,Nat.reduceEqDiff,zlj ha hp',ha.some hp',hp',h1,h2']
    refine ziT [12] (by kernel_rfl) (by kernel_rfl) ?_
    simp (maxSteps:=2000000) only [go_sem,Nat.reduceAdd,Nat.reduceMul,Nat.reduceBEq,Nat.reduceLeDiff,Nat.reduceLT,Nat.reduceEqDiff,zlj ha hp',ha.some hp',hp',h1,h2']
    refine zhF (fun _=>zse c _ _ _ hc (ha.el hp')) ?_
    simp (maxSteps:=2000000) only [go_sem,Nat.reduceAdd,Nat.reduceMul,Nat.reduceBEq,Nat.reduceLeDiff,Nat.reduceLT,Nat.reduceEqDiff,zlj ha hp',ha.some hp',hp',h1,h2']
    refine zi3 [13,14,15,16,17,18,19,20] rfl (by kernel_rfl) ?_
    simp (maxSteps:=2000000) only [go_sem,Nat.reduceAdd,Nat.reduceMul,Nat.reduceBEq,Nat.reduceLeDiff,Nat.reduceLT,Nat.reduceEqDiff]
    refine ziU (by kernel_rfl) ?_
    repeat' first|refine zie rfl ?_|refine zc4 rfl ?_|refine zc7 ?_|refine zc8 ?_|refine zc5 ?_|refine zc6 ?_|(simp (maxSteps:=2000000) only [go_sem,Nat.reduceAdd,Nat.reduceMul,Nat.reduceBEq,Nat.reduceLeDiff,Nat.reduceLT,Nat.reduceEqDiff];try rfl)|refine zc3 ?_|(refine And.intro ?_ ?_;focus (intros;simp_all only [Bool.or_eq_false_iff,Bool.or_eq_true,Bool.and_eq_true,and_self,true_and,and_true];done))
    rw [if_pos ⟨hC,hsh,h3,h4'⟩,gget hs']
    congr 1
    rw [Bool.eq_iff_iff]
    simp only [Bool.and_eq_true,decide_eq_true_eq,beq_iff_eq]
    constructor <;> intro hh <;> omega
end Go.Proofs.Ytjiggadgmmjnhaa
namespace Go.Proofs.Ytjiggadgmmjnhaa
open Go Go.SL
set_option maxHeartbeats 1000000
def dQ:DPassage:=⟨0,0,false,0,0⟩
theorem qget {l:List DPassage} {i:Nat} (hi:i < l.length):l.getD i dQ=l[i]:=by simp [List.getD_eq_getElem?_getD,hi]
def chIn (n:Nat) (l:List DPassage) (i:Nat):Bool:=decide ((l.getD i dQ).ship=(l.getD 0 dQ).ship) && decide (0≤(l.getD i dQ).seg∧(l.getD i dQ).seg < (n:Int))
def chTo (c:PChart) (l:List DPassage) (i:Nat):Bool:=decide (i=0) || (decide ((zr4 c (l.getD i dQ)).1=(zr4 c (l.getD (i - 1) dQ)).2) && decide ((l.getD (i - 1) dQ).fin≤(l.getD i dQ).start))
def chOk (c:PChart) (l:List DPassage) (i:Nat):Bool:=chIn c.segments.length l i && chTo c l i
def zxk (c:PChart) (l:List DPassage):Bool:=zrC c && decide (∀ i,i < l.length→chOk c l i=true)
theorem zxl (c:DChart):(Con.con c).segments.length=c.segments.l.length:=by rw [zr8]
theorem zxm {n:Nat} {l:List DPassage} {i:Nat} (hi:i < l.length) (h:chIn n l i=true):0≤l[i].seg∧l[i].seg < (n:Int):=by
  rw [chIn,qget hi] at h
  exact of_decide_eq_true (Bool.and_eq_true_iff.1 h).2
theorem zxn {c:DChart} {l:List DPassage} {i:Nat} (h:chOk (Con.con c) l i=true):chIn c.segments.l.length l i=true:=by
  rw [chOk,zxl] at h
  exact (Bool.and_eq_true_iff.1 h).1
theorem zxo {c:DChart} {l:List DPassage} {i:Nat} (h:chIn c.segments.l.length l i=false):chOk (Con.con c) l i=false:=by rw [chOk,zxl,h,Bool.false_and]
theorem zxp {c:DChart} {l:List DPassage} {i:Nat} (h:chIn c.segments.l.length l i=true) (h2:chTo (Con.con c) l i=true):chOk (Con.con c) l i=true:=by rw [chOk,zxl,h,h2];rfl
theorem zxq {c:DChart} {l:List DPassage} {i:Nat} (h2:chTo (Con.con c) l i=false):chOk (Con.con c) l i=false:=by rw [chOk,h2,Bool.and_false]
theorem zxr (c:DChart) (a:Sl DPassage) (h:Hp) (hc:Enc.ok h c) (ha:a.Ok h):Ct Try.prog 84 [c.v,a.val] h fun v h'=>v=.bool (zxk (Con.con c) a.l)∧h'=h:=by
  have hg:=hc.2
  have hl:=hg.max
  have hl2:=ha.max
  have hw:IntKind.i64.wrap ((c.segments.l.length:Int) - 1)=(c.segments.l.length:Int) - 1:=zjz (by omega)
  rw [zxk]
  refine zdn (fun A W=>by simp) Try.func84 rfl rfl (by simp) fun W0=>?_
  repeat' first|refine zie rfl ?_|refine zc4 rfl ?_|refine zc7 ?_|refine zc8 ?_|refine zc5 ?_|refine zc6 ?_|refine zhF (fun _=>zrK c _ hc) ?_|(simp (maxSteps:=2000000) only [go_sem,Nat.reduceAdd,Nat.reduceMul,Nat.reduceBEq,Nat.reduceLeDiff,Nat.reduceLT,Nat.reduceEqDiff];try rfl)|refine zc3 ?_|(refine And.intro ?_ ?_;focus (intros;simp_all only [Bool.or_eq_false_iff,Bool.or_eq_true,Bool.and_eq_true,and_self,true_and,and_true];done))
  refine zc9 rfl (fun hC=>?_) (fun hC=>?_)
  · rw [Bool.not_eq_true'] at hC
    rw [hC]
    repeat' first|refine zie rfl ?_|refine zc4 rfl ?_|refine zc7 ?_|refine zc8 ?_|refine zc5 ?_|refine zc6 ?_|(simp (maxSteps:=2000000) only [go_sem,Nat.reduceAdd,Nat.reduceMul,Nat.reduceBEq,Nat.reduceLeDiff,Nat.reduceLT,Nat.reduceEqDiff];try rfl)|refine zc3 ?_|(refine And.intro ?_ ?_;focus (intros;simp_all only [Bool.or_eq_false_iff,Bool.or_eq_true,Bool.and_eq_true,and_self,true_and,and_true];done))
  rw [Bool.not_eq_false'] at hC
  rw [hC,Bool.true_and]
  repeat' first|refine zie rfl ?_|refine zc4 rfl ?_|refine zc7 ?_|refine zc8 ?_|refine zc5 ?_|refine zc6 ?_|(simp (maxSteps:=2000000) only [go_sem,Nat.reduceAdd,Nat.reduceMul,Nat.reduceBEq,Nat.reduceLeDiff,Nat.reduceLT,Nat.reduceEqDiff];try rfl)|refine zc3 ?_|(refine And.intro ?_ ?_;focus (intros;simp_all only [Bool.or_eq_false_iff,Bool.or_eq_true,Bool.and_eq_true,and_self,true_and,and_true];done))
  refine zde (ι:=Nat) (fun k=>⟨[(1,true,.c (.v a.val)),(2,true,.c (.p 0 0)),(14,true,.c (.v a.val)),(15,true,.c (.v (.int .i64 a.l.length))),(16,true,.c (.v (.int .i64 k)))],[(0,.box 53 [.v c.points.val,.v c.segments.val])],h,1⟩) (fun k=>k≤a.l.length∧∀ i,i < k→chOk (Con.con c) a.l i=true) (fun k=>a.l.length - k) 0 ⟨Nat.zero_le _,zrH⟩ ?_ ?_
  · simp (maxSteps:=2000000) only [go_sem,Nat.reduceAdd,Nat.reduceMul,Nat.reduceBEq,Nat.reduceLeDiff,Nat.reduceLT,Nat.reduceEqDiff]
    first|exact rfl|exact ⟨rfl,rfl⟩|exact ⟨rfl,rfl,rfl⟩|exact ⟨rfl,rfl,rfl,rfl⟩|exact ⟨rfl,rfl,rfl,rfl,rfl⟩
  intro k hk
  repeat' first|refine zie rfl ?_|refine zc4 rfl ?_|refine zc7 ?_|refine zc8 ?_|refine zc5 ?_|refine zc6 ?_|(simp (maxSteps:=2000000) only [go_sem,Nat.reduceAdd,Nat.reduceMul,Nat.reduceBEq,Nat.reduceLeDiff,Nat.reduceLT,Nat.reduceEqDiff];try rfl)|refine zc3 ?_|(refine And.intro ?_ ?_;focus (intros;simp_all only [Bool.or_eq_false_iff,Bool.or_eq_true,Bool.and_eq_true,and_self,true_and,and_true];done))
  refine zc9 rfl (fun hd=>?_) (fun hd=>?_)
  · have hlt:=zjH hd
    have h0:0 < a.l.length:=by omega
    have h0i:(0:Int) < a.l.length:=by omega
    have ha0:=ha.some h0
    have hs1:=(zxe ha h0).1
    simp only [go_sem,Nat.zero_mul] at hs1
    repeat' first|refine zie rfl ?_|refine zc4 rfl ?_|refine zc7 ?_|refine zc8 ?_|refine zc5 ?_|refine zc6 ?_|(simp (maxSteps:=2000000) only [go_sem,Nat.reduceAdd,Nat.reduceMul,Nat.reduceBEq,Nat.reduceLeDiff,Nat.reduceLT,Nat.reduceEqDiff,zkU ha hlt,ha.some hlt,hlt,Int.toNat_natCast];try rfl)|refine zc3 ?_|(refine And.intro ?_ ?_;focus (intros;simp_all only [Bool.or_eq_false_iff,Bool.or_eq_true,Bool.and_eq_true,and_self,true_and,and_true];done))
    refine ziV rfl ?_
    refine zi3 [0,1,2,3,4,5,6,7,8,9,10,11,12,13] rfl (by kernel_rfl) ?_
    simp (maxSteps:=2000000) only [go_sem,Nat.reduceAdd,Nat.reduceMul,Nat.reduceBEq,Nat.reduceLeDiff,Nat.reduceLT,Nat.reduceEqDiff,ha0,hs1,h0i,Int.toNat_zero,Nat.zero_mul,Int.le_refl,implies_true,true_and,and_true]
    refine ziT [14] (by kernel_rfl) (by kernel_rfl) ?_
    simp (maxSteps:=2000000) only [go_sem,Nat.reduceAdd,Nat.reduceMul,Nat.reduceBEq,Nat.reduceLeDiff,Nat.reduceLT,Nat.reduceEqDiff,ha0,hs1,h0i,Int.toNat_zero,Nat.zero_mul,Int.le_refl,implies_true,true_and,and_true,hw]
    refine zhF (fun _=>zrc _ _ _ _) ?_
    simp (maxSteps:=2000000) only [go_sem,Nat.reduceAdd,Nat.reduceMul,Nat.reduceBEq,Nat.reduceLeDiff,Nat.reduceLT,Nat.reduceEqDiff,ha0,hs1,h0i,Int.toNat_zero,Nat.zero_mul,Int.le_refl,implies_true,true_and,and_true]
    refine zi3 [15,16] rfl (by kernel_rfl) ?_
    simp (maxSteps:=2000000) only [go_sem,Nat.reduceAdd,Nat.reduceMul,Nat.reduceBEq,Nat.reduceLeDiff,Nat.reduceLT,Nat.reduceEqDiff,ha0,hs1,h0i,Int.toNat_zero,Nat.zero_mul,Int.le_refl,implies_true,true_and,and_true]
    refine ziU (by kernel_rfl) ?_
    repeat' first|refine zie rfl ?_|refine zc4 rfl ?_|refine zc7 ?_|refine zc8 ?_|refine zc5 ?_|refine zc6 ?_|(simp (maxSteps:=2000000) only [go_sem,Nat.reduceAdd,Nat.reduceMul,Nat.reduceBEq,Nat.reduceLeDiff,Nat.reduceLT,Nat.reduceEqDiff];try rfl)|refine zc3 ?_|(refine And.intro ?_ ?_;focus (intros;simp_all only [Bool.or_eq_false_iff,Bool.or_eq_true,Bool.and_eq_true,and_self,true_and,and_true];done))
    refine zc9 rfl (fun hq=>?_) (fun hq=>?_)
    · have hin:chIn c.segments.l.length a.l k=false:=by
        rw [chIn,qget hlt,qget h0]
        simp only [Bool.or_eq_true,Bool.not_eq_true',Bool.and_eq_false_iff,decide_eq_false_iff_not,bne_iff_ne] at hq ⊢
        omega
      repeat' first|refine zie rfl ?_|refine zc4 rfl ?_|refine zc7 ?_|refine zc8 ?_|refine zc5 ?_|refine zc6 ?_|(simp (maxSteps:=2000000) only [go_sem,Nat.reduceAdd,Nat.reduceMul,Nat.reduceBEq,Nat.reduceLeDiff,Nat.reduceLT,Nat.reduceEqDiff];try rfl)|refine zc3 ?_|(refine And.intro ?_ ?_;focus (intros;simp_all only [Bool.or_eq_false_iff,Bool.or_eq_true,Bool.and_eq_true,and_self,true_and,and_true];done))
      rw [zrE hlt (zxo hin)]
    · have hin:chIn c.segments.l.length a.l k=true:=by
        rw [chIn,qget hlt,qget h0]
        simp only [Bool.or_eq_false_iff,Bool.not_eq_false',Bool.and_eq_true,decide_eq_true_eq,bne_eq_false_iff_eq] at hq ⊢
        omega
      repeat' first|refine zie rfl ?_|refine zc4 rfl ?_|refine zc7 ?_|refine zc8 ?_|refine zc5 ?_|refine zc6 ?_|(simp (maxSteps:=2000000) only [go_sem,Nat.reduceAdd,Nat.reduceMul,Nat.reduceBEq,Nat.reduceLeDiff,Nat.reduceLT,Nat.reduceEqDiff];try rfl)|refine zc3 ?_|(refine And.intro ?_ ?_;focus (intros;simp_all only [Bool.or_eq_false_iff,Bool.or_eq_true,Bool.and_eq_true,and_self,true_and,and_true];done))
      refine zc9 rfl (fun hz=>?_) (fun hz=>?_)
      · have hk0:k=0:=by have:=eq_of_beq hz;omega
        repeat' first|refine zie rfl ?_|refine zc4 rfl ?_|refine zc7 ?_|refine zc8 ?_|refine zc5 ?_|refine zc6 ?_|(simp (maxSteps:=2000000) only [go_sem,Nat.reduceAdd,Nat.reduceMul,Nat.reduceBEq,Nat.reduceLeDiff,Nat.reduceLT,Nat.reduceEqDiff];try rfl)|refine zc3 ?_|(refine And.intro ?_ ?_;focus (intros;simp_all only [Bool.or_eq_false_iff,Bool.or_eq_true,Bool.and_eq_true,and_self,true_and,and_true];done))
        refine ⟨k+1,⟨hlt,zrF hk.2 (zxp hin (by rw [chTo,decide_eq_true hk0];rfl))⟩,by omega,zjB (zjA hlt (by omega))⟩
      · have hk0:¬ k=0:=by intro e;rw [e] at hz;cases hz
        have hk1:k - 1 < a.l.length:=by omega
        have hwk:IntKind.i64.wrap ((k:Int) - 1)=((k - 1:Nat):Int):=by rw [zjz (by omega)];omega
        obtain ⟨h3,h4⟩:=zxm hlt hin
        obtain ⟨h5,h6⟩:=zxm hk1 (zxn (hk.2 (k - 1) (by omega)))
        repeat' first|refine zie rfl ?_|refine zc4 rfl ?_|refine zc7 ?_|refine zc8 ?_|refine zc5 ?_|refine zc6 ?_|refine zhF (fun _=>zsa c _ _ hc h3 h4) ?_|(simp (maxSteps:=2000000) only [go_sem,Nat.reduceAdd,Nat.reduceMul,Nat.reduceBEq,Nat.reduceLeDiff,Nat.reduceLT,Nat.reduceEqDiff,hwk];try rfl)|refine zc3 ?_|(refine And.intro ?_ ?_;focus (intros;simp_all only [Bool.or_eq_false_iff,Bool.or_eq_true,Bool.and_eq_true,and_self,true_and,and_true];done))
        refine ziV rfl ?_
        refine zi3 [0,1,2,3,4,5] rfl (by kernel_rfl) ?_
        simp (maxSteps:=2000000) only [go_sem,Nat.reduceAdd,Nat.reduceMul,Nat.reduceBEq,Nat.reduceLeDiff,Nat.reduceLT,Nat.reduceEqDiff,zkU ha hk1,ha.some hk1,hk1,Int.toNat_natCast,hwk]
        refine ziT [6] (by kernel_rfl) (by kernel_rfl) ?_
        simp (maxSteps:=2000000) only [go_sem,Nat.reduceAdd,Nat.reduceMul,Nat.reduceBEq,Nat.reduceLeDiff,Nat.reduceLT,Nat.reduceEqDiff,zkU ha hk1,ha.some hk1,hk1,Int.toNat_natCast,hwk]
        refine zhF (fun _=>zsa c _ _ hc h5 h6) ?_
        simp (maxSteps:=2000000) only [go_sem,Nat.reduceAdd,Nat.reduceMul,Nat.reduceBEq,Nat.reduceLeDiff,Nat.reduceLT,Nat.reduceEqDiff,zkU ha hk1,ha.some hk1,hk1,Int.toNat_natCast,hwk]
        refine zi3 [7,8,9,10,11] rfl (by kernel_rfl) ?_
        simp (maxSteps:=2000000) only [go_sem,Nat.reduceAdd,Nat.reduceMul,Nat.reduceBEq,Nat.reduceLeDiff,Nat.reduceLT,Nat.reduceEqDiff,zkU ha hk1,ha.some hk1,hk1,Int.toNat_natCast,hwk]
        refine ziU (by kernel_rfl) ?_
        repeat' first|refine zie rfl ?_|refine zc4 rfl ?_|refine zc7 ?_|refine zc8 ?_|refine zc5 ?_|refine zc6 ?_|(simp (maxSteps:=2000000) only [go_sem,Nat.reduceAdd,Nat.reduceMul,Nat.reduceBEq,Nat.reduceLeDiff,Nat.reduceLT,Nat.reduceEqDiff];try rfl)|refine zc3 ?_|(refine And.intro ?_ ?_;focus (intros;simp_all only [Bool.or_eq_false_iff,Bool.or_eq_true,Bool.and_eq_true,and_self,true_and,and_true];done))
        refine zi8 rfl (by kernel_rfl) ?_
        simp (maxSteps:=2000000) only [go_sem,Nat.reduceAdd,Nat.reduceMul,Nat.reduceBEq,Nat.reduceLeDiff,Nat.reduceLT,Nat.reduceEqDiff,zkU ha hk1,ha.some hk1,hk1,Int.toNat_natCast,hwk,zxe ha hk1]
        repeat' first|refine zie rfl ?_|refine zc4 rfl ?_|refine zc7 ?_|refine zc8 ?_|refine zc5 ?_|refine zc6 ?_|(simp (maxSteps:=2000000) only [go_sem,Nat.reduceAdd,Nat.reduceMul,Nat.reduceBEq,Nat.reduceLeDiff,Nat.reduceLT,Nat.reduceEqDiff];try rfl)|refine zc3 ?_|(refine And.intro ?_ ?_;focus (intros;simp_all only [Bool.or_eq_false_iff,Bool.or_eq_true,Bool.and_eq_true,and_self,true_and,and_true];done))
        refine zc9 rfl (fun hx=>?_) (fun hx=>?_)
        · have hto:chTo (Con.con c) a.l k=false:=by
            rw [chTo,qget hlt,qget hk1,decide_eq_false hk0,Bool.false_or]
            simp only [Bool.or_eq_true,bne_iff_ne,decide_eq_true_eq] at hx
            rw [Bool.and_eq_false_iff,decide_eq_false_iff_not,decide_eq_false_iff_not]
            omega
          repeat' first|refine zie rfl ?_|refine zc4 rfl ?_|refine zc7 ?_|refine zc8 ?_|refine zc5 ?_|refine zc6 ?_|(simp (maxSteps:=2000000) only [go_sem,Nat.reduceAdd,Nat.reduceMul,Nat.reduceBEq,Nat.reduceLeDiff,Nat.reduceLT,Nat.reduceEqDiff];try rfl)|refine zc3 ?_|(refine And.intro ?_ ?_;focus (intros;simp_all only [Bool.or_eq_false_iff,Bool.or_eq_true,Bool.and_eq_true,and_self,true_and,and_true];done))
          rw [zrE hlt (zxq hto)]
        · have hto:chTo (Con.con c) a.l k=true:=by
            rw [chTo,qget hlt,qget hk1,decide_eq_false hk0,Bool.false_or]
            simp only [Bool.or_eq_false_iff,bne_eq_false_iff_eq,decide_eq_false_iff_not] at hx
            rw [Bool.and_eq_true_iff,decide_eq_true_eq,decide_eq_true_eq]
            omega
          repeat' first|refine zie rfl ?_|refine zc4 rfl ?_|refine zc7 ?_|refine zc8 ?_|refine zc5 ?_|refine zc6 ?_|(simp (maxSteps:=2000000) only [go_sem,Nat.reduceAdd,Nat.reduceMul,Nat.reduceBEq,Nat.reduceLeDiff,Nat.reduceLT,Nat.reduceEqDiff];try rfl)|refine zc3 ?_|(refine And.intro ?_ ?_;focus (intros;simp_all only [Bool.or_eq_false_iff,Bool.or_eq_true,Bool.and_eq_true,and_self,true_and,and_true];done))
          refine ⟨k+1,⟨hlt,zrF hk.2 (zxp hin hto)⟩,by omega,zjB (zjA hlt (by omega))⟩
  · have hge:=zjI hd
    repeat' first|refine zie rfl ?_|refine zc4 rfl ?_|refine zc7 ?_|refine zc8 ?_|refine zc5 ?_|refine zc6 ?_|(simp (maxSteps:=2000000) only [go_sem,Nat.reduceAdd,Nat.reduceMul,Nat.reduceBEq,Nat.reduceLeDiff,Nat.reduceLT,Nat.reduceEqDiff];try rfl)|refine zc3 ?_|(refine And.intro ?_ ?_;focus (intros;simp_all only [Bool.or_eq_false_iff,Bool.or_eq_true,Bool.and_eq_true,and_self,true_and,and_true];done))
    rw [zrG hge hk.2]
theorem zxs (c:DChart) (a:Sl DPassage) (h:Hp) (hc:Enc.ok h c) (ha:a.Ok h):Ct Try.prog 85 [c.v,a.val] h fun v h'=>v=.bool (zxk (Con.con c) a.l)∧h'=h:=by
  have hg:=hc.2
  have hl:=hg.max
  have hl2:=ha.max
  have hw:IntKind.i64.wrap ((c.segments.l.length:Int) - 1)=(c.segments.l.length:Int) - 1:=zjz (by omega)
  rw [zxk]
  refine zdn (fun A W=>by simp) Try.func85 rfl rfl (by simp) fun W0=>?_
  repeat' first|refine zie rfl ?_|refine zc4 rfl ?_|refine zc7 ?_|refine zc8 ?_|refine zc5 ?_|refine zc6 ?_|refine zhF (fun _=>zrL c _ hc) ?_|(simp (maxSteps:=2000000) only [go_sem,Nat.reduceAdd,Nat.reduceMul,Nat.reduceBEq,Nat.reduceLeDiff,Nat.reduceLT,Nat.reduceEqDiff];try rfl)|refine zc3 ?_|(refine And.intro ?_ ?_;focus (intros;simp_all only [Bool.or_eq_false_iff,Bool.or_eq_true,Bool.and_eq_true,and_self,true_and,and_true];done))
  refine zc9 rfl (fun hC=>?_) (fun hC=>?_)
  · rw [Bool.not_eq_true'] at hC
    rw [hC]
    repeat' first|refine zie rfl ?_|refine zc4 rfl ?_|refine zc7 ?_|refine zc8 ?_|refine zc5 ?_|refine zc6 ?_|(simp (maxSteps:=2000000) only [go_sem,Nat.reduceAdd,Nat.reduceMul,Nat.reduceBEq,Nat.reduceLeDiff,Nat.reduceLT,Nat.reduceEqDiff];try rfl)|refine zc3 ?_|(refine And.intro ?_ ?_;focus (intros;simp_all only [Bool.or_eq_false_iff,Bool.or_eq_true,Bool.and_eq_true,and_self,true_and,and_true];done))
  rw [Bool.not_eq_false'] at hC
  rw [hC,Bool.true_and]
  repeat' first|refine zie rfl ?_|refine zc4 rfl ?_|refine zc7 ?_|refine zc8 ?_|refine zc5 ?_|refine zc6 ?_|(simp (maxSteps:=2000000) only [go_sem,Nat.reduceAdd,Nat.reduceMul,Nat.reduceBEq,Nat.reduceLeDiff,Nat.reduceLT,Nat.reduceEqDiff];try rfl)|refine zc3 ?_|(refine And.intro ?_ ?_;focus (intros;simp_all only [Bool.or_eq_false_iff,Bool.or_eq_true,Bool.and_eq_true,and_self,true_and,and_true];done))
  refine zde (ι:=Nat) (fun k=>⟨[(1,true,.c (.v a.val)),(2,true,.c (.p 0 0)),(14,true,.c (.v a.val)),(15,true,.c (.v (.int .i64 a.l.length))),(16,true,.c (.v (.int .i64 k)))],[(0,.box 53 [.v c.points.val,.v c.segments.val])],h,1⟩) (fun k=>k≤a.l.length∧∀ i,i < k→chOk (Con.con c) a.l i=true) (fun k=>a.l.length - k) 0 ⟨Nat.zero_le _,zrH⟩ ?_ ?_
  · simp (maxSteps:=2000000) only [go_sem,Nat.reduceAdd,Nat.reduceMul,Nat.reduceBEq,Nat.reduceLeDiff,Nat.reduceLT,Nat.reduceEqDiff]
    first|exact rfl|exact ⟨rfl,rfl⟩|exact ⟨rfl,rfl,rfl⟩|exact ⟨rfl,rfl,rfl,rfl⟩|exact ⟨rfl,rfl,rfl,rfl,rfl⟩
  intro k hk
  repeat' first|refine zie rfl ?_|refine zc4 rfl ?_|refine zc7 ?_|refine zc8 ?_|refine zc5 ?_|refine zc6 ?_|(simp (maxSteps:=2000000) only [go_sem,Nat.reduceAdd,Nat.reduceMul,Nat.reduceBEq,Nat.reduceLeDiff,Nat.reduceLT,Nat.reduceEqDiff];try rfl)|refine zc3 ?_|(refine And.intro ?_ ?_;focus (intros;simp_all only [Bool.or_eq_false_iff,Bool.or_eq_true,Bool.and_eq_true,and_self,true_and,and_true];done))
  refine zc9 rfl (fun hd=>?_) (fun hd=>?_)
  · have hlt:=zjH hd
    have h0:0 < a.l.length:=by omega
    have h0i:(0:Int) < a.l.length:=by omega
    have ha0:=ha.some h0
    have hs1:=(zxe ha h0).1
    simp only [go_sem,Nat.zero_mul] at hs1
    repeat' first|refine zie rfl ?_|refine zc4 rfl ?_|refine zc7 ?_|refine zc8 ?_|refine zc5 ?_|refine zc6 ?_|(simp (maxSteps:=2000000) only [go_sem,Nat.reduceAdd,Nat.reduceMul,Nat.reduceBEq,Nat.reduceLeDiff,Nat.reduceLT,Nat.reduceEqDiff,zkU ha hlt,ha.some hlt,hlt,Int.toNat_natCast];try rfl)|refine zc3 ?_|(refine And.intro ?_ ?_;focus (intros;simp_all only [Bool.or_eq_false_iff,Bool.or_eq_true,Bool.and_eq_true,and_self,true_and,and_true];done))
    refine ziV rfl ?_
    refine zi3 [0,1,2,3,4,5,6,7,8,9,10,11,12] rfl (by kernel_rfl) ?_
    simp (maxSteps:=2000000) only [go_sem,Nat.reduceAdd,Nat.reduceMul,Nat.reduceBEq,Nat.reduceLeDiff,Nat.reduceLT,Nat.reduceEqDiff,ha0,hs1,h0i,Int.toNat_zero,Nat.zero_mul,Int.le_refl,implies_true,true_and,and_true]
    refine ziT [13] (by kernel_rfl) (by kernel_rfl) ?_
    simp (maxSteps:=2000000) only [go_sem,Nat.reduceAdd,Nat.reduceMul,Nat.reduceBEq,Nat.reduceLeDiff,Nat.reduceLT,Nat.reduceEqDiff,ha0,hs1,h0i,Int.toNat_zero,Nat.zero_mul,Int.le_refl,implies_true,true_and,and_true,hw]
    refine zhF (fun _=>zrf _ _ _) ?_
    simp (maxSteps:=2000000) only [go_sem,Nat.reduceAdd,Nat.reduceMul,Nat.reduceBEq,Nat.reduceLeDiff,Nat.reduceLT,Nat.reduceEqDiff,ha0,hs1,h0i,Int.toNat_zero,Nat.zero_mul,Int.le_refl,implies_true,true_and,and_true]
    refine zi3 [14,15] rfl (by kernel_rfl) ?_
    simp (maxSteps:=2000000) only [go_sem,Nat.reduceAdd,Nat.reduceMul,Nat.reduceBEq,Nat.reduceLeDiff,Nat.reduceLT,Nat.reduceEqDiff,ha0,hs1,h0i,Int.toNat_zero,Nat.zero_mul,Int.le_refl,implies_true,true_and,and_true]
    refine ziU (by kernel_rfl) ?_
    repeat' first|refine zie rfl ?_|refine zc4 rfl ?_|refine zc7 ?_|refine zc8 ?_|refine zc5 ?_|refine zc6 ?_|(simp (maxSteps:=2000000) only [go_sem,Nat.reduceAdd,Nat.reduceMul,Nat.reduceBEq,Nat.reduceLeDiff,Nat.reduceLT,Nat.reduceEqDiff];try rfl)|refine zc3 ?_|(refine And.intro ?_ ?_;focus (intros;simp_all only [Bool.or_eq_false_iff,Bool.or_eq_true,Bool.and_eq_true,and_self,true_and,and_true];done))
    refine zc9 rfl (fun hq=>?_) (fun hq=>?_)
    · have hin:chIn c.segments.l.length a.l k=false:=by
        rw [chIn,qget hlt,qget h0]
        simp only [Bool.or_eq_true,Bool.not_eq_true',Bool.and_eq_false_iff,decide_eq_false_iff_not,bne_iff_ne] at hq ⊢
        omega
      repeat' first|refine zie rfl ?_|refine zc4 rfl ?_|refine zc7 ?_|refine zc8 ?_|refine zc5 ?_|refine zc6 ?_|(simp (maxSteps:=2000000) only [go_sem,Nat.reduceAdd,Nat.reduceMul,Nat.reduceBEq,Nat.reduceLeDiff,Nat.reduceLT,Nat.reduceEqDiff];try rfl)|refine zc3 ?_|(refine And.intro ?_ ?_;focus (intros;simp_all only [Bool.or_eq_false_iff,Bool.or_eq_true,Bool.and_eq_true,and_self,true_and,and_true];done))
      rw [zrE hlt (zxo hin)]
    · have hin:chIn c.segments.l.length a.l k=true:=by
        rw [chIn,qget hlt,qget h0]
        simp only [Bool.or_eq_false_iff,Bool.not_eq_false',Bool.and_eq_true,decide_eq_true_eq,bne_eq_false_iff_eq] at hq ⊢
        omega
      repeat' first|refine zie rfl ?_|refine zc4 rfl ?_|refine zc7 ?_|refine zc8 ?_|refine zc5 ?_|refine zc6 ?_|(simp (maxSteps:=2000000) only [go_sem,Nat.reduceAdd,Nat.reduceMul,Nat.reduceBEq,Nat.reduceLeDiff,Nat.reduceLT,Nat.reduceEqDiff];try rfl)|refine zc3 ?_|(refine And.intro ?_ ?_;focus (intros;simp_all only [Bool.or_eq_false_iff,Bool.or_eq_true,Bool.and_eq_true,and_self,true_and,and_true];done))
      refine zc9 rfl (fun hz=>?_) (fun hz=>?_)
      · have hk0:k=0:=by have:=eq_of_beq hz;omega
        repeat' first|refine zie rfl ?_|refine zc4 rfl ?_|refine zc7 ?_|refine zc8 ?_|refine zc5 ?_|refine zc6 ?_|(simp (maxSteps:=2000000) only [go_sem,Nat.reduceAdd,Nat.reduceMul,Nat.reduceBEq,Nat.reduceLeDiff,Nat.reduceLT,Nat.reduceEqDiff];try rfl)|refine zc3 ?_|(refine And.intro ?_ ?_;focus (intros;simp_all only [Bool.or_eq_false_iff,Bool.or_eq_true,Bool.and_eq_true,and_self,true_and,and_true];done))
        refine ⟨k+1,⟨hlt,zrF hk.2 (zxp hin (by rw [chTo,decide_eq_true hk0];rfl))⟩,by omega,zjB (zjA hlt (by omega))⟩
      · have hk0:¬ k=0:=by intro e;rw [e] at hz;cases hz
        have hk1:k - 1 < a.l.length:=by omega
        have hwk:IntKind.i64.wrap ((k:Int) - 1)=((k - 1:Nat):Int):=by rw [zjz (by omega)];omega
        obtain ⟨h3,h4⟩:=zxm hlt hin
        obtain ⟨h5,h6⟩:=zxm hk1 (zxn (hk.2 (k - 1) (by omega)))
        repeat' first|refine zie rfl ?_|refine zc4 rfl ?_|refine zc7 ?_|refine zc8 ?_|refine zc5 ?_|refine zc6 ?_|(simp (maxSteps:=2000000) only [go_sem,Nat.reduceAdd,Nat.reduceMul,Nat.reduceBEq,Nat.reduceLeDiff,Nat.reduceLT,Nat.reduceEqDiff];try rfl)|refine zc3 ?_|(refine And.intro ?_ ?_;focus (intros;simp_all only [Bool.or_eq_false_iff,Bool.or_eq_true,Bool.and_eq_true,and_self,true_and,and_true];done))
        refine ziV rfl ?_
        refine zi3 [0,1,2,3,4,5] rfl (by kernel_rfl) ?_
        simp (maxSteps:=2000000) only [go_sem,Nat.reduceAdd,Nat.reduceMul,Nat.reduceBEq,Nat.reduceLeDiff,Nat.reduceLT,Nat.reduceEqDiff,zkU ha hk1,ha.some hk1,hk1,Int.toNat_natCast,hwk]
        refine ziT [6] (by kernel_rfl) (by kernel_rfl) ?_
        simp (maxSteps:=2000000) only [go_sem,Nat.reduceAdd,Nat.reduceMul,Nat.reduceBEq,Nat.reduceLeDiff,Nat.reduceLT,Nat.reduceEqDiff,zkU ha hk1,ha.some hk1,hk1,Int.toNat_natCast,hwk]
        refine zhF (fun _=>zsb c _ _ hc h5 h6) ?_
        simp (maxSteps:=2000000) only [go_sem,Nat.reduceAdd,Nat.reduceMul,Nat.reduceBEq,Nat.reduceLeDiff,Nat.reduceLT,Nat.reduceEqDiff,zkU ha hk1,ha.some hk1,hk1,Int.toNat_natCast,hwk]
        refine zi3 [7,8,9,10,11] rfl (by kernel_rfl) ?_
        simp (maxSteps:=2000000) only [go_sem,Nat.reduceAdd,Nat.reduceMul,Nat.reduceBEq,Nat.reduceLeDiff,Nat.reduceLT,Nat.reduceEqDiff,zkU ha hk1,ha.some hk1,hk1,Int.toNat_natCast,hwk]
        refine ziU (by kernel_rfl) ?_
        repeat' first|refine zie rfl ?_|refine zc4 rfl ?_|refine zc7 ?_|refine zc8 ?_|refine zc5 ?_|refine zc6 ?_|(simp (maxSteps:=2000000) only [go_sem,Nat.reduceAdd,Nat.reduceMul,Nat.reduceBEq,Nat.reduceLeDiff,Nat.reduceLT,Nat.reduceEqDiff];try rfl)|refine zc3 ?_|(refine And.intro ?_ ?_;focus (intros;simp_all only [Bool.or_eq_false_iff,Bool.or_eq_true,Bool.and_eq_true,and_self,true_and,and_true];done))
        repeat' first|refine zie rfl ?_|refine zc4 rfl ?_|refine zc7 ?_|refine zc8 ?_|refine zc5 ?_|refine zc6 ?_|refine zhF (fun _=>zsb c _ _ hc h3 h4) ?_|(simp (maxSteps:=2000000) only [go_sem,Nat.reduceAdd,Nat.reduceMul,Nat.reduceBEq,Nat.reduceLeDiff,Nat.reduceLT,Nat.reduceEqDiff,hwk];try rfl)|refine zc3 ?_|(refine And.intro ?_ ?_;focus (intros;simp_all only [Bool.or_eq_false_iff,Bool.or_eq_true,Bool.and_eq_true,and_self,true_and,and_true];done))
        refine zi8 rfl (by kernel_rfl) ?_
        simp (maxSteps:=2000000) only [go_sem,Nat.reduceAdd,Nat.reduceMul,Nat.reduceBEq,Nat.reduceLeDiff,Nat.reduceLT,Nat.reduceEqDiff,zkU ha hk1,ha.some hk1,hk1,Int.toNat_natCast,hwk,zxe ha hk1]
        repeat' first|refine zie rfl ?_|refine zc4 rfl ?_|refine zc7 ?_|refine zc8 ?_|refine zc5 ?_|refine zc6 ?_|(simp (maxSteps:=2000000) only [go_sem,Nat.reduceAdd,Nat.reduceMul,Nat.reduceBEq,Nat.reduceLeDiff,Nat.reduceLT,Nat.reduceEqDiff];try rfl)|refine zc3 ?_|(refine And.intro ?_ ?_;focus (intros;simp_all only [Bool.or_eq_false_iff,Bool.or_eq_true,Bool.and_eq_true,and_self,true_and,and_true];done))
        refine zc9 rfl (fun hx=>?_) (fun hx=>?_)
        · have hto:chTo (Con.con c) a.l k=false:=by
            rw [chTo,qget hlt,qget hk1,decide_eq_false hk0,Bool.false_or]
            simp only [Bool.or_eq_true,bne_iff_ne,decide_eq_true_eq] at hx
            rw [Bool.and_eq_false_iff,decide_eq_false_iff_not,decide_eq_false_iff_not]
            omega
          repeat' first|refine zie rfl ?_|refine zc4 rfl ?_|refine zc7 ?_|refine zc8 ?_|refine zc5 ?_|refine zc6 ?_|(simp (maxSteps:=2000000) only [go_sem,Nat.reduceAdd,Nat.reduceMul,Nat.reduceBEq,Nat.reduceLeDiff,Nat.reduceLT,Nat.reduceEqDiff];try rfl)|refine zc3 ?_|(refine And.intro ?_ ?_;focus (intros;simp_all only [Bool.or_eq_false_iff,Bool.or_eq_true,Bool.and_eq_true,and_self,true_and,and_true];done))
          rw [zrE hlt (zxq hto)]
        · have hto:chTo (Con.con c) a.l k=true:=by
            rw [chTo,qget hlt,qget hk1,decide_eq_false hk0,Bool.false_or]
            simp only [Bool.or_eq_false_iff,bne_eq_false_iff_eq,decide_eq_false_iff_not] at hx
            rw [Bool.and_eq_true_iff,decide_eq_true_eq,decide_eq_true_eq]
            omega
          repeat' first|refine zie rfl ?_|refine zc4 rfl ?_|refine zc7 ?_|refine zc8 ?_|refine zc5 ?_|refine zc6 ?_|(simp (maxSteps:=2000000) only [go_sem,Nat.reduceAdd,Nat.reduceMul,Nat.reduceBEq,Nat.reduceLeDiff,Nat.reduceLT,Nat.reduceEqDiff];try rfl)|refine zc3 ?_|(refine And.intro ?_ ?_;focus (intros;simp_all only [Bool.or_eq_false_iff,Bool.or_eq_true,Bool.and_eq_true,and_self,true_and,and_true];done))
          refine ⟨k+1,⟨hlt,zrF hk.2 (zxp hin hto)⟩,by omega,zjB (zjA hlt (by omega))⟩
  · have hge:=zjI hd
    repeat' first|refine zie rfl ?_|refine zc4 rfl ?_|refine zc7 ?_|refine zc8 ?_|refine zc5 ?_|refine zc6 ?_|(simp (maxSteps:=2000000) only [go_sem,Nat.reduceAdd,Nat.reduceMul,Nat.reduceBEq,Nat.reduceLeDiff,Nat.reduceLT,Nat.reduceEqDiff];try rfl)|refine zc3 ?_|(refine And.intro ?_ ?_;focus (intros;simp_all only [Bool.or_eq_false_iff,Bool.or_eq_true,Bool.and_eq_true,and_self,true_and,and_true];done))
    rw [zrG hge hk.2]
end Go.Proofs.Ytjiggadgmmjnhaa
namespace Go.Proofs.Ytjiggadgmmjnhaa
open Go Go.SL
set_option maxHeartbeats 1000000
@[go_sem] theorem zsj (t1 fs d t p af gd tk):ziY (⟨d,.build t1 fs,t,p,af,gd⟩:Oper) tk=⟨d,.build t1 fs,t,p,af,gd⟩ :: tk:=rfl
def pOk (c:PChart) (f:List DShip) (l:List DPassage) (i:Nat):Bool:=zr7 c f (l.getD i dQ)
def zsk (c:PChart) (p q:DPassage):DDuty:=⟨p.start,q.fin,(zr4 c p).1,(zr4 c q).2⟩
def zxt (c:PChart) (f:List DShip) (l:List DPassage):DDuty × Bool :=
  if (decide (0 < l.length) && zxk c l && decide (∀ i,i < l.length→pOk c f l i=true))=true then (zsk c (l.getD 0 dQ) (l.getD (l.length - 1) dQ),true) else (⟨0,0,0,0⟩,false)
theorem zxu {c:PChart} {f:List DShip} {l:List DPassage} (h:(decide (0 < l.length) && zxk c l && decide (∀ i,i < l.length→pOk c f l i=true))=false):zxt c f l=(⟨0,0,0,0⟩,false):=by rw [zxt,if_neg (by rw [h];exact Bool.false_ne_true)]
theorem zxv {c:PChart} {f:List DShip} {l:List DPassage} (h1:0 < l.length) (h2:zxk c l=true) (h3:∀ i,i < l.length→pOk c f l i=true):zxt c f l=(zsk c (l.getD 0 dQ) (l.getD (l.length - 1) dQ),true):=by rw [zxt,if_pos (by rw [decide_eq_true h1,h2,decide_eq_true h3];rfl)]
theorem zxw {c:DChart} {l:List DPassage} (h:zxk (Con.con c) l=true) {i:Nat} (hi:i < l.length):0≤l[i].seg∧l[i].seg < (c.segments.l.length:Int) :=
  zxm hi (zxn (of_decide_eq_true (Bool.and_eq_true_iff.1 h).2 i hi))
theorem zsl (c:DChart) (p q:DPassage) (h:Hp) (hc:Enc.ok h c) (h1:0≤p.seg) (h2:p.seg < c.segments.l.length) (h3:0≤q.seg) (h4:q.seg < c.segments.l.length):Ct Try.prog 81 [c.v,p.v,q.v] h fun v h'=>v=(zsk (Con.con c) p q).v∧h'=h:=by
  refine zdn (fun A W=>by simp) Try.func81 rfl rfl (by simp) fun W0=>?_
  repeat' first|refine zie rfl ?_|refine zc4 rfl ?_|refine zc7 ?_|refine zc8 ?_|refine zc5 ?_|refine zc6 ?_|refine zhF (fun _=>zsb c p _ hc h1 h2) ?_|refine zhF (fun _=>zsb c q _ hc h3 h4) ?_|(simp (maxSteps:=2000000) only [go_sem,Nat.reduceAdd,Nat.reduceMul,Nat.reduceBEq,Nat.reduceLeDiff,Nat.reduceLT,Nat.reduceEqDiff];try rfl)|refine zc3 ?_|(refine And.intro ?_ ?_;focus (intros;simp_all only [Bool.or_eq_false_iff,Bool.or_eq_true,Bool.and_eq_true,and_self,true_and,and_true];done))
theorem zxx (c:DChart) (f:Sl DShip) (a:Sl DPassage) (h:Hp) (hc:Enc.ok h c) (hf:f.Ok h) (ha:a.Ok h):Ct Try.prog 64 [c.v,f.val,a.val] h fun v h'=>v=.tuple #[(zxt (Con.con c) f.l a.l).1.v,.bool (zxt (Con.con c) f.l a.l).2]∧h'=h:=by
  have hl:=ha.max
  refine zdn (fun A W=>by simp) Try.func64 rfl rfl (by simp) fun W0=>?_
  repeat' first|refine zie rfl ?_|refine zc4 rfl ?_|refine zc7 ?_|refine zc8 ?_|refine zc5 ?_|refine zc6 ?_|refine zhF (fun _=>zxr c a _ hc ha) ?_|(simp (maxSteps:=2000000) only [go_sem,Nat.reduceAdd,Nat.reduceMul,Nat.reduceBEq,Nat.reduceLeDiff,Nat.reduceLT,Nat.reduceEqDiff];try rfl)|refine zc3 ?_|(refine And.intro ?_ ?_;focus (intros;simp_all only [Bool.or_eq_false_iff,Bool.or_eq_true,Bool.and_eq_true,and_self,true_and,and_true];done))
  refine zc9 rfl (fun hq=>?_) (fun hq=>?_)
  · rw [zxu (by
      simp only [Bool.or_eq_true,Bool.not_eq_true',decide_eq_true_eq,beq_iff_eq] at hq
      rcases hq with hq|hq
      · rw [decide_eq_false (by omega),Bool.false_and,Bool.false_and]
      · rw [hq,Bool.and_false,Bool.false_and])]
    repeat' first|refine zie rfl ?_|refine zc4 rfl ?_|refine zc7 ?_|refine zc8 ?_|refine zc5 ?_|refine zc6 ?_|(simp (maxSteps:=2000000) only [go_sem,Nat.reduceAdd,Nat.reduceMul,Nat.reduceBEq,Nat.reduceLeDiff,Nat.reduceLT,Nat.reduceEqDiff];try rfl)|refine zc3 ?_|(refine And.intro ?_ ?_;focus (intros;simp_all only [Bool.or_eq_false_iff,Bool.or_eq_true,Bool.and_eq_true,and_self,true_and,and_true];done))
  simp only [Bool.or_eq_false_iff,Bool.not_eq_false',beq_eq_false_iff_ne,ne_eq,decide_eq_false_iff_not] at hq
  obtain ⟨hq1,hC⟩:=hq
  have h0:0 < a.l.length:=by omega
  repeat' first|refine zie rfl ?_|refine zc4 rfl ?_|refine zc7 ?_|refine zc8 ?_|refine zc5 ?_|refine zc6 ?_|(simp (maxSteps:=2000000) only [go_sem,Nat.reduceAdd,Nat.reduceMul,Nat.reduceBEq,Nat.reduceLeDiff,Nat.reduceLT,Nat.reduceEqDiff];try rfl)|refine zc3 ?_|(refine And.intro ?_ ?_;focus (intros;simp_all only [Bool.or_eq_false_iff,Bool.or_eq_true,Bool.and_eq_true,and_self,true_and,and_true];done))
  refine zde (ι:=Nat) (fun k=>⟨[(1,true,.c (.v f.val)),(2,true,.c (.v a.val)),(3,true,.c (.p 0 0)),(6,true,.c (.p 1 0)),(25,true,.c (.v a.val)),(26,true,.c (.v (.int .i64 a.l.length))),(27,true,.c (.v (.int .i64 k)))],[(0,.box 53 [.v c.points.val,.v c.segments.val]),(1,.box 79 [.v (.int .i64 0),.v (.int .i64 0),.v (.int .i64 0),.v (.int .i64 0)])],h,2⟩) (fun k=>k≤a.l.length∧∀ i,i < k→pOk (Con.con c) f.l a.l i=true) (fun k=>a.l.length - k) 0 ⟨Nat.zero_le _,zrH⟩ ?_ ?_
  · simp (maxSteps:=2000000) only [go_sem,Nat.reduceAdd,Nat.reduceMul,Nat.reduceBEq,Nat.reduceLeDiff,Nat.reduceLT,Nat.reduceEqDiff]
    first|exact rfl|exact ⟨rfl,rfl⟩|exact ⟨rfl,rfl,rfl⟩|exact ⟨rfl,rfl,rfl,rfl⟩|exact ⟨rfl,rfl,rfl,rfl,rfl⟩
  intro k hk
  repeat' first|refine zie rfl ?_|refine zc4 rfl ?_|refine zc7 ?_|refine zc8 ?_|refine zc5 ?_|refine zc6 ?_|(simp (maxSteps:=2000000) only [go_sem,Nat.reduceAdd,Nat.reduceMul,Nat.reduceBEq,Nat.reduceLeDiff,Nat.reduceLT,Nat.reduceEqDiff];try rfl)|refine zc3 ?_|(refine And.intro ?_ ?_;focus (intros;simp_all only [Bool.or_eq_false_iff,Bool.or_eq_true,Bool.and_eq_true,and_self,true_and,and_true];done))
  refine zc9 rfl (fun hd=>?_) (fun hd=>?_)
  · have hlt:=zjH hd
    repeat' first|refine zie rfl ?_|refine zc4 rfl ?_|refine zc7 ?_|refine zc8 ?_|refine zc5 ?_|refine zc6 ?_|refine zhF (fun _=>zsi c f _ _ hc hf) ?_|(simp (maxSteps:=2000000) only [go_sem,Nat.reduceAdd,Nat.reduceMul,Nat.reduceBEq,Nat.reduceLeDiff,Nat.reduceLT,Nat.reduceEqDiff,zkU ha hlt,ha.some hlt,hlt,Int.toNat_natCast];try rfl)|refine zc3 ?_|(refine And.intro ?_ ?_;focus (intros;simp_all only [Bool.or_eq_false_iff,Bool.or_eq_true,Bool.and_eq_true,and_self,true_and,and_true];done))
    refine zc9 rfl (fun hx=>?_) (fun hx=>?_)
    · rw [Bool.not_eq_true'] at hx
      rw [zxu (by rw [zrE hlt (by rw [pOk,qget hlt];exact hx),Bool.and_false])]
      repeat' first|refine zie rfl ?_|refine zc4 rfl ?_|refine zc7 ?_|refine zc8 ?_|refine zc5 ?_|refine zc6 ?_|(simp (maxSteps:=2000000) only [go_sem,Nat.reduceAdd,Nat.reduceMul,Nat.reduceBEq,Nat.reduceLeDiff,Nat.reduceLT,Nat.reduceEqDiff];try rfl)|refine zc3 ?_|(refine And.intro ?_ ?_;focus (intros;simp_all only [Bool.or_eq_false_iff,Bool.or_eq_true,Bool.and_eq_true,and_self,true_and,and_true];done))
    · rw [Bool.not_eq_false'] at hx
      repeat' first|refine zie rfl ?_|refine zc4 rfl ?_|refine zc7 ?_|refine zc8 ?_|refine zc5 ?_|refine zc6 ?_|(simp (maxSteps:=2000000) only [go_sem,Nat.reduceAdd,Nat.reduceMul,Nat.reduceBEq,Nat.reduceLeDiff,Nat.reduceLT,Nat.reduceEqDiff];try rfl)|refine zc3 ?_|(refine And.intro ?_ ?_;focus (intros;simp_all only [Bool.or_eq_false_iff,Bool.or_eq_true,Bool.and_eq_true,and_self,true_and,and_true];done))
      exact ⟨k+1,⟨hlt,zrF hk.2 (by rw [pOk,qget hlt];exact hx)⟩,by omega,zjB (zjA hlt (by omega))⟩
  · have hge:=zjI hd
    have hke:k=a.l.length:=by omega
    have hn1:a.l.length - 1 < a.l.length:=by omega
    have hwn:IntKind.i64.wrap ((a.l.length:Int) - 1)=((a.l.length - 1:Nat):Int):=by rw [zjz (by omega)];omega
    obtain ⟨h1,h2⟩:=zxw hC h0
    obtain ⟨h3,h4⟩:=zxw hC hn1
    rw [zxv h0 hC (fun i hi=>hk.2 i (by omega)),qget h0,qget hn1]
    have h0i:(0:Int) < a.l.length:=by omega
    have ha0:=ha.some h0
    have hs0:=zkU ha h0
    have hs1:=(zxe ha h0)
    simp only [go_sem,Nat.zero_mul] at hs0 hs1
    repeat' first|refine zie rfl ?_|refine zc4 rfl ?_|refine zc7 ?_|refine zc8 ?_|refine zc5 ?_|refine zc6 ?_|(simp (maxSteps:=2000000) only [go_sem,Nat.reduceAdd,Nat.reduceMul,Nat.reduceBEq,Nat.reduceLeDiff,Nat.reduceLT,Nat.reduceEqDiff,zkU ha hn1,ha.some hn1,hn1,Int.toNat_natCast,hwn];try rfl)|refine zc3 ?_|(refine And.intro ?_ ?_;focus (intros;simp_all only [Bool.or_eq_false_iff,Bool.or_eq_true,Bool.and_eq_true,and_self,true_and,and_true];done))
    refine ziV rfl ?_
    refine zi3 [0,1,2,3] rfl (by kernel_rfl) ?_
    simp (maxSteps:=2000000) only [go_sem,Nat.reduceAdd,Nat.reduceMul,Nat.reduceBEq,Nat.reduceLeDiff,Nat.reduceLT,Nat.reduceEqDiff,ha0,hs0,hs1,h0i,Int.toNat_zero,Nat.zero_mul,Int.le_refl,implies_true,true_and,and_true]
    refine ziT [4] (by kernel_rfl) (by kernel_rfl) ?_
    simp (maxSteps:=2000000) only [go_sem,Nat.reduceAdd,Nat.reduceMul,Nat.reduceBEq,Nat.reduceLeDiff,Nat.reduceLT,Nat.reduceEqDiff,ha0,hs0,hs1,h0i,Int.toNat_zero,Nat.zero_mul,Int.le_refl,implies_true,true_and,and_true]
    refine zhF (fun _=>zsa c _ _ hc h1 h2) ?_
    simp (maxSteps:=2000000) only [go_sem,Nat.reduceAdd,Nat.reduceMul,Nat.reduceBEq,Nat.reduceLeDiff,Nat.reduceLT,Nat.reduceEqDiff,ha0,hs0,hs1,h0i,Int.toNat_zero,Nat.zero_mul,Int.le_refl,implies_true,true_and,and_true]
    refine zi3 [5,6,7,8,9] rfl (by kernel_rfl) ?_
    simp (maxSteps:=2000000) only [go_sem,Nat.reduceAdd,Nat.reduceMul,Nat.reduceBEq,Nat.reduceLeDiff,Nat.reduceLT,Nat.reduceEqDiff,ha0,hs0,hs1,h0i,Int.toNat_zero,Nat.zero_mul,Int.le_refl,implies_true,true_and,and_true]
    refine ziU (by kernel_rfl) ?_
    repeat' first|refine zie rfl ?_|refine zc4 rfl ?_|refine zc7 ?_|refine zc8 ?_|refine zc5 ?_|refine zc6 ?_|refine zhF (fun _=>zsa c _ _ hc h3 h4) ?_|(simp (maxSteps:=2000000) only [go_sem,Nat.reduceAdd,Nat.reduceMul,Nat.reduceBEq,Nat.reduceLeDiff,Nat.reduceLT,Nat.reduceEqDiff];try rfl)|refine zc3 ?_|(refine And.intro ?_ ?_;focus (intros;simp_all only [Bool.or_eq_false_iff,Bool.or_eq_true,Bool.and_eq_true,and_self,true_and,and_true];done))
    refine ziV rfl ?_
    refine zi3 [0,1,2,3,4,5,6,7] rfl (by kernel_rfl) ?_
    simp (maxSteps:=2000000) only [go_sem,Nat.reduceAdd,Nat.reduceMul,Nat.reduceBEq,Nat.reduceLeDiff,Nat.reduceLT,Nat.reduceEqDiff,ha0,hs0,hs1,h0i,Int.toNat_zero,Nat.zero_mul,Int.le_refl,implies_true,true_and,and_true]
    refine ziT [8] (by kernel_rfl) (by kernel_rfl) ?_
    simp (maxSteps:=2000000) only [go_sem,Nat.reduceAdd,Nat.reduceMul,Nat.reduceBEq,Nat.reduceLeDiff,Nat.reduceLT,Nat.reduceEqDiff,ha0,hs0,hs1,h0i,Int.toNat_zero,Nat.zero_mul,Int.le_refl,implies_true,true_and,and_true]
    refine ziT [9] (by kernel_rfl) (by kernel_rfl) ?_
    simp (maxSteps:=2000000) only [go_sem,Nat.reduceAdd,Nat.reduceMul,Nat.reduceBEq,Nat.reduceLeDiff,Nat.reduceLT,Nat.reduceEqDiff,ha0,hs0,hs1,h0i,Int.toNat_zero,Nat.zero_mul,Int.le_refl,implies_true,true_and,and_true]
    refine zi3 [10] rfl (by kernel_rfl) ?_
    simp (maxSteps:=2000000) only [go_sem,Nat.reduceAdd,Nat.reduceMul,Nat.reduceBEq,Nat.reduceLeDiff,Nat.reduceLT,Nat.reduceEqDiff,ha0,hs0,hs1,h0i,Int.toNat_zero,Nat.zero_mul,Int.le_refl,implies_true,true_and,and_true]
    refine ziU (by kernel_rfl) ?_
    repeat' first|refine zie rfl ?_|refine zc4 rfl ?_|refine zc7 ?_|refine zc8 ?_|refine zc5 ?_|refine zc6 ?_|(simp (maxSteps:=2000000) only [go_sem,Nat.reduceAdd,Nat.reduceMul,Nat.reduceBEq,Nat.reduceLeDiff,Nat.reduceLT,Nat.reduceEqDiff];try rfl)|refine zc3 ?_|(refine And.intro ?_ ?_;focus (intros;simp_all only [Bool.or_eq_false_iff,Bool.or_eq_true,Bool.and_eq_true,and_self,true_and,and_true];done))
theorem zxy (c:DChart) (f:Sl DShip) (a:Sl DPassage) (h:Hp) (hc:Enc.ok h c) (hf:f.Ok h) (ha:a.Ok h):Ct Try.prog 65 [c.v,f.val,a.val] h fun v h'=>v=.tuple #[(zxt (Con.con c) f.l a.l).1.v,.bool (zxt (Con.con c) f.l a.l).2]∧h'=h:=by
  have hl:=ha.max
  refine zdn (fun A W=>by simp) Try.func65 rfl rfl (by simp) fun W0=>?_
  repeat' first|refine zie rfl ?_|refine zc4 rfl ?_|refine zc7 ?_|refine zc8 ?_|refine zc5 ?_|refine zc6 ?_|refine zhF (fun _=>zxs c a _ hc ha) ?_|(simp (maxSteps:=2000000) only [go_sem,Nat.reduceAdd,Nat.reduceMul,Nat.reduceBEq,Nat.reduceLeDiff,Nat.reduceLT,Nat.reduceEqDiff];try rfl)|refine zc3 ?_|(refine And.intro ?_ ?_;focus (intros;simp_all only [Bool.or_eq_false_iff,Bool.or_eq_true,Bool.and_eq_true,and_self,true_and,and_true];done))
  refine zc9 rfl (fun hq=>?_) (fun hq=>?_)
  · rw [zxu (by
      simp only [Bool.or_eq_true,Bool.not_eq_true',decide_eq_true_eq,beq_iff_eq] at hq
      rcases hq with hq|hq
      · rw [decide_eq_false (by omega),Bool.false_and,Bool.false_and]
      · rw [hq,Bool.and_false,Bool.false_and])]
    repeat' first|refine zie rfl ?_|refine zc4 rfl ?_|refine zc7 ?_|refine zc8 ?_|refine zc5 ?_|refine zc6 ?_|(simp (maxSteps:=2000000) only [go_sem,Nat.reduceAdd,Nat.reduceMul,Nat.reduceBEq,Nat.reduceLeDiff,Nat.reduceLT,Nat.reduceEqDiff];try rfl)|refine zc3 ?_|(refine And.intro ?_ ?_;focus (intros;simp_all only [Bool.or_eq_false_iff,Bool.or_eq_true,Bool.and_eq_true,and_self,true_and,and_true];done))
  simp only [Bool.or_eq_false_iff,Bool.not_eq_false',beq_eq_false_iff_ne,ne_eq,decide_eq_false_iff_not] at hq
  obtain ⟨hq1,hC⟩:=hq
  have h0:0 < a.l.length:=by omega
  repeat' first|refine zie rfl ?_|refine zc4 rfl ?_|refine zc7 ?_|refine zc8 ?_|refine zc5 ?_|refine zc6 ?_|(simp (maxSteps:=2000000) only [go_sem,Nat.reduceAdd,Nat.reduceMul,Nat.reduceBEq,Nat.reduceLeDiff,Nat.reduceLT,Nat.reduceEqDiff];try rfl)|refine zc3 ?_|(refine And.intro ?_ ?_;focus (intros;simp_all only [Bool.or_eq_false_iff,Bool.or_eq_true,Bool.and_eq_true,and_self,true_and,and_true];done))
  refine zde (ι:=Nat) (fun k=>⟨[(1,true,.c (.v f.val)),(2,true,.c (.v a.val)),(3,true,.c (.p 0 0)),(6,true,.c (.p 1 0)),(20,true,.c (.v a.val)),(21,true,.c (.v (.int .i64 a.l.length))),(22,true,.c (.v (.int .i64 k)))],[(0,.box 53 [.v c.points.val,.v c.segments.val]),(1,.box 79 [.v (.int .i64 0),.v (.int .i64 0),.v (.int .i64 0),.v (.int .i64 0)])],h,2⟩) (fun k=>k≤a.l.length∧∀ i,i < k→pOk (Con.con c) f.l a.l i=true) (fun k=>a.l.length - k) 0 ⟨Nat.zero_le _,zrH⟩ ?_ ?_
  · simp (maxSteps:=2000000) only [go_sem,Nat.reduceAdd,Nat.reduceMul,Nat.reduceBEq,Nat.reduceLeDiff,Nat.reduceLT,Nat.reduceEqDiff]
    first|exact rfl|exact ⟨rfl,rfl⟩|exact ⟨rfl,rfl,rfl⟩|exact ⟨rfl,rfl,rfl,rfl⟩|exact ⟨rfl,rfl,rfl,rfl,rfl⟩
  intro k hk
  repeat' first|refine zie rfl ?_|refine zc4 rfl ?_|refine zc7 ?_|refine zc8 ?_|refine zc5 ?_|refine zc6 ?_|(simp (maxSteps:=2000000) only [go_sem,Nat.reduceAdd,Nat.reduceMul,Nat.reduceBEq,Nat.reduceLeDiff,Nat.reduceLT,Nat.reduceEqDiff];try rfl)|refine zc3 ?_|(refine And.intro ?_ ?_;focus (intros;simp_all only [Bool.or_eq_false_iff,Bool.or_eq_true,Bool.and_eq_true,and_self,true_and,and_true];done))
  refine zc9 rfl (fun hd=>?_) (fun hd=>?_)
  · have hlt:=zjH hd
    repeat' first|refine zie rfl ?_|refine zc4 rfl ?_|refine zc7 ?_|refine zc8 ?_|refine zc5 ?_|refine zc6 ?_|refine zhF (fun _=>zsh c f _ _ hc hf) ?_|(simp (maxSteps:=2000000) only [go_sem,Nat.reduceAdd,Nat.reduceMul,Nat.reduceBEq,Nat.reduceLeDiff,Nat.reduceLT,Nat.reduceEqDiff,zkU ha hlt,ha.some hlt,hlt,Int.toNat_natCast];try rfl)|refine zc3 ?_|(refine And.intro ?_ ?_;focus (intros;simp_all only [Bool.or_eq_false_iff,Bool.or_eq_true,Bool.and_eq_true,and_self,true_and,and_true];done))
    refine zc9 rfl (fun hx=>?_) (fun hx=>?_)
    · rw [Bool.not_eq_true'] at hx
      rw [zxu (by rw [zrE hlt (by rw [pOk,qget hlt];exact hx),Bool.and_false])]
      repeat' first|refine zie rfl ?_|refine zc4 rfl ?_|refine zc7 ?_|refine zc8 ?_|refine zc5 ?_|refine zc6 ?_|(simp (maxSteps:=2000000) only [go_sem,Nat.reduceAdd,Nat.reduceMul,Nat.reduceBEq,Nat.reduceLeDiff,Nat.reduceLT,Nat.reduceEqDiff];try rfl)|refine zc3 ?_|(refine And.intro ?_ ?_;focus (intros;simp_all only [Bool.or_eq_false_iff,Bool.or_eq_true,Bool.and_eq_true,and_self,true_and,and_true];done))
    · rw [Bool.not_eq_false'] at hx
      repeat' first|refine zie rfl ?_|refine zc4 rfl ?_|refine zc7 ?_|refine zc8 ?_|refine zc5 ?_|refine zc6 ?_|(simp (maxSteps:=2000000) only [go_sem,Nat.reduceAdd,Nat.reduceMul,Nat.reduceBEq,Nat.reduceLeDiff,Nat.reduceLT,Nat.reduceEqDiff];try rfl)|refine zc3 ?_|(refine And.intro ?_ ?_;focus (intros;simp_all only [Bool.or_eq_false_iff,Bool.or_eq_true,Bool.and_eq_true,and_self,true_and,and_true];done))
      exact ⟨k+1,⟨hlt,zrF hk.2 (by rw [pOk,qget hlt];exact hx)⟩,by omega,zjB (zjA hlt (by omega))⟩
  · have hge:=zjI hd
    have hke:k=a.l.length:=by omega
    have hn1:a.l.length - 1 < a.l.length:=by omega
    have hwn:IntKind.i64.wrap ((a.l.length:Int) - 1)=((a.l.length - 1:Nat):Int):=by rw [zjz (by omega)];omega
    obtain ⟨h1,h2⟩:=zxw hC h0
    obtain ⟨h3,h4⟩:=zxw hC hn1
    rw [zxv h0 hC (fun i hi=>hk.2 i (by omega)),qget h0,qget hn1]
    have h0i:(0:Int) < a.l.length:=by omega
    have ha0:=ha.some h0
    have hs0:=zkU ha h0
    have hs1:=(zxe ha h0)
    simp only [go_sem,Nat.zero_mul] at hs0 hs1
    repeat' first|refine zie rfl ?_|refine zc4 rfl ?_|refine zc7 ?_|refine zc8 ?_|refine zc5 ?_|refine zc6 ?_|(simp (maxSteps:=2000000) only [go_sem,Nat.reduceAdd,Nat.reduceMul,Nat.reduceBEq,Nat.reduceLeDiff,Nat.reduceLT,Nat.reduceEqDiff];try rfl)|refine zc3 ?_|(refine And.intro ?_ ?_;focus (intros;simp_all only [Bool.or_eq_false_iff,Bool.or_eq_true,Bool.and_eq_true,and_self,true_and,and_true];done))
    refine ziV rfl ?_
    refine zi3 [0,1,2,3,4,5,6,7,8,9] rfl (by kernel_rfl) ?_
    simp (maxSteps:=2000000) only [go_sem,Nat.reduceAdd,Nat.reduceMul,Nat.reduceBEq,Nat.reduceLeDiff,Nat.reduceLT,Nat.reduceEqDiff,ha0,hs0,hs1,h0i,Int.toNat_zero,Nat.zero_mul,Int.le_refl,implies_true,true_and,and_true,zkU ha hn1,ha.some hn1,hn1,Int.toNat_natCast,hwn]
    refine ziT [10] (by kernel_rfl) (by kernel_rfl) ?_
    simp (maxSteps:=2000000) only [go_sem,Nat.reduceAdd,Nat.reduceMul,Nat.reduceBEq,Nat.reduceLeDiff,Nat.reduceLT,Nat.reduceEqDiff,ha0,hs0,hs1,h0i,Int.toNat_zero,Nat.zero_mul,Int.le_refl,implies_true,true_and,and_true,zkU ha hn1,ha.some hn1,hn1,Int.toNat_natCast,hwn]
    refine zhF (fun _=>zsl c _ _ _ hc h1 h2 h3 h4) ?_
    simp (maxSteps:=2000000) only [go_sem,Nat.reduceAdd,Nat.reduceMul,Nat.reduceBEq,Nat.reduceLeDiff,Nat.reduceLT,Nat.reduceEqDiff,ha0,hs0,hs1,h0i,Int.toNat_zero,Nat.zero_mul,Int.le_refl,implies_true,true_and,and_true,zkU ha hn1,ha.some hn1,hn1,Int.toNat_natCast,hwn]
    refine ziT [11] (by kernel_rfl) (by kernel_rfl) ?_
    simp (maxSteps:=2000000) only [go_sem,Nat.reduceAdd,Nat.reduceMul,Nat.reduceBEq,Nat.reduceLeDiff,Nat.reduceLT,Nat.reduceEqDiff,ha0,hs0,hs1,h0i,Int.toNat_zero,Nat.zero_mul,Int.le_refl,implies_true,true_and,and_true,zkU ha hn1,ha.some hn1,hn1,Int.toNat_natCast,hwn]
    refine zi3 [12] rfl (by kernel_rfl) ?_
    simp (maxSteps:=2000000) only [go_sem,Nat.reduceAdd,Nat.reduceMul,Nat.reduceBEq,Nat.reduceLeDiff,Nat.reduceLT,Nat.reduceEqDiff,ha0,hs0,hs1,h0i,Int.toNat_zero,Nat.zero_mul,Int.le_refl,implies_true,true_and,and_true,zkU ha hn1,ha.some hn1,hn1,Int.toNat_natCast,hwn]
    refine ziU (by kernel_rfl) ?_
    repeat' first|refine zie rfl ?_|refine zc4 rfl ?_|refine zc7 ?_|refine zc8 ?_|refine zc5 ?_|refine zc6 ?_|(simp (maxSteps:=2000000) only [go_sem,Nat.reduceAdd,Nat.reduceMul,Nat.reduceBEq,Nat.reduceLeDiff,Nat.reduceLT,Nat.reduceEqDiff];try rfl)|refine zc3 ?_|(refine And.intro ?_ ?_;focus (intros;simp_all only [Bool.or_eq_false_iff,Bool.or_eq_true,Bool.and_eq_true,and_self,true_and,and_true];done))
theorem zsm (s:Sl DPassage):Con.con s=s.l:=List.map_id _
theorem i64z:I64 0:=by unfold I64;omega
theorem zxz {c:DChart} {f:List DShip} {a:Sl DPassage} {h h2:Hp} (hc:Enc.ok h c) (ha:a.Ok h):Enc.ok h2 (zxt (Con.con c) f (Con.con a)).1:=by
  rw [zsm,zxt]
  split
  · rename_i hq
    simp only [Bool.and_eq_true,decide_eq_true_eq] at hq
    obtain ⟨⟨h0,hC⟩,-⟩:=hq
    have hn1:a.l.length - 1 < a.l.length:=by omega
    obtain ⟨h1,h2⟩:=zxw hC h0
    obtain ⟨h3,h4⟩:=zxw hC hn1
    have hs1:a.l[0].seg.toNat < c.segments.l.length:=by omega
    have hs2:a.l[a.l.length - 1].seg.toNat < c.segments.l.length:=by omega
    have o1:=ha.el h0
    have o2:=ha.el hn1
    have o3:=hc.2.el hs1
    have o4:=hc.2.el hs2
    show I64 _∧I64 _∧I64 _∧I64 _
    rw [zsk,qget h0,qget hn1,zr9 _ _ hs1,zr9 _ _ hs2]
    refine ⟨o1.2.2.1,o2.2.2.2,?_,?_⟩
    · dsimp only;split
      · exact o3.1
      · exact o3.2.1
    · dsimp only;split
      · exact o4.2.1
      · exact o4.1
  · exact ⟨i64z,i64z,i64z,i64z⟩
end Go.Proofs.Ytjiggadgmmjnhaa
