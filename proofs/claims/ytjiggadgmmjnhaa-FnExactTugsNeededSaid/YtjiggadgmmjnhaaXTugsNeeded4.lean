/- What functions of the given program compute, each as a contract over what its arguments read as. No condition beside those that each theorem states. -/
import Derived.Test.YtjiggadgmmjnhaaXTugsNeeded3
set_option linter.unusedVariables false
set_option linter.unusedSimpArgs false
namespace Go.Proofs.Ytjiggadgmmjnhaa
open Go Go.SL
set_option maxHeartbeats 1000000
def In (n lo hi:Int):Bool:=decide (lo≤n) && decide (n≤hi)
def zrg (s:ByteArray) (k:Nat):Bool:=!(decide (97≤zmB s k) && decide (zmB s k≤122)) && (decide ((k:Int)=0) || decide (zmB s k < 48) || decide (57 < zmB s k))
def zrh (s:ByteArray):Bool:=decide (∀ i,i < s.size→zrg s i=false) && In s.size 1 8
theorem zri (s:ByteArray) (h:Hp) (hs:zkB s):Ct Try.prog 98 [.string s] h fun v h'=>v=.bool (zrh s)∧h'=h:=by
  have hmax:s.size≤9223372036854775807:=hs
  refine zdn (fun A W=>by simp) Try.func98 rfl rfl (by simp) fun W0=>?_
  repeat' first|refine zie rfl ?_|refine zc4 rfl ?_|refine zc7 ?_|refine zc8 ?_|refine zc5 ?_|refine zc6 ?_|(simp (maxSteps:=2000000) only [go_sem,Nat.reduceAdd,Nat.reduceMul,Nat.reduceBEq,Nat.reduceLeDiff,Nat.reduceLT,Nat.reduceEqDiff];try rfl)|refine zc3 ?_|(refine And.intro ?_ ?_;focus (intros;simp_all only [Bool.or_eq_false_iff,Bool.or_eq_true,Bool.and_eq_true,and_self,true_and,and_true];done))
  refine zde (ι:=Nat) (fun k=>⟨[(0,true,.c (.v (.string s))),(3,true,.c (.v (.int .i64 k)))],[],h,0⟩) (fun k=>k≤s.size∧∀ i,i < k→zrg s i=false) (fun k=>s.size - k) 0 ⟨Nat.zero_le _,fun i hi=>absurd hi (Nat.not_lt_zero _)⟩ ?_ ?_
  · simp (maxSteps:=2000000) only [go_sem,Nat.reduceAdd,Nat.reduceMul,Nat.reduceBEq,Nat.reduceLeDiff,Nat.reduceLT,Nat.reduceEqDiff]
    first|exact rfl|exact ⟨rfl,rfl⟩|exact ⟨rfl,rfl,rfl⟩|exact ⟨rfl,rfl,rfl,rfl⟩|exact ⟨rfl,rfl,rfl,rfl,rfl⟩
  intro k hk
  repeat' first|refine zie rfl ?_|refine zc4 rfl ?_|refine zc7 ?_|refine zc8 ?_|refine zc5 ?_|refine zc6 ?_|(simp (maxSteps:=2000000) only [go_sem,Nat.reduceAdd,Nat.reduceMul,Nat.reduceBEq,Nat.reduceLeDiff,Nat.reduceLT,Nat.reduceEqDiff];try rfl)|refine zc3 ?_|(refine And.intro ?_ ?_;focus (intros;simp_all only [Bool.or_eq_false_iff,Bool.or_eq_true,Bool.and_eq_true,and_self,true_and,and_true];done))
  refine zc9 rfl (fun hd=>?_) (fun hd=>?_)
  · have hlt:=zjH hd
    repeat' first|refine zie rfl ?_|refine zc4 rfl ?_|refine zc7 ?_|refine zc8 ?_|refine zc5 ?_|refine zc6 ?_|(simp (maxSteps:=2000000) only [go_sem,Nat.reduceAdd,Nat.reduceMul,Nat.reduceBEq,Nat.reduceLeDiff,Nat.reduceLT,Nat.reduceEqDiff,hlt,Int.toNat_natCast];try rfl)|refine zc3 ?_|(refine And.intro ?_ ?_;focus (intros;simp_all only [Bool.or_eq_false_iff,Bool.or_eq_true,Bool.and_eq_true,and_self,true_and,and_true];done))
    refine zc9 rfl (fun hq=>?_) (fun hq=>?_)
    · repeat' first|refine zie rfl ?_|refine zc4 rfl ?_|refine zc7 ?_|refine zc8 ?_|refine zc5 ?_|refine zc6 ?_|(simp (maxSteps:=2000000) only [go_sem,Nat.reduceAdd,Nat.reduceMul,Nat.reduceBEq,Nat.reduceLeDiff,Nat.reduceLT,Nat.reduceEqDiff];try rfl)|refine zc3 ?_|(refine And.intro ?_ ?_;focus (intros;simp_all only [Bool.or_eq_false_iff,Bool.or_eq_true,Bool.and_eq_true,and_self,true_and,and_true];done))
      have:zrh s=false:=by
        rw [zrh,decide_eq_false (fun e=>?_),Bool.false_and]
        have:=e k hlt
        rw [show zrg s k=true from hq] at this
        cases this
      rw [this]
    · repeat' first|refine zie rfl ?_|refine zc4 rfl ?_|refine zc7 ?_|refine zc8 ?_|refine zc5 ?_|refine zc6 ?_|(simp (maxSteps:=2000000) only [go_sem,Nat.reduceAdd,Nat.reduceMul,Nat.reduceBEq,Nat.reduceLeDiff,Nat.reduceLT,Nat.reduceEqDiff];try rfl)|refine zc3 ?_|(refine And.intro ?_ ?_;focus (intros;simp_all only [Bool.or_eq_false_iff,Bool.or_eq_true,Bool.and_eq_true,and_self,true_and,and_true];done))
      refine ⟨k+1,⟨hlt,fun i hi=>?_⟩,by omega,zjB (zjA hlt (by omega))⟩
      rcases Nat.lt_succ_iff_lt_or_eq.1 hi with hi|rfl
      · exact hk.2 i hi
      · exact hq
  · have hge:=zjI hd
    repeat' first|refine zie rfl ?_|refine zc4 rfl ?_|refine zc7 ?_|refine zc8 ?_|refine zc5 ?_|refine zc6 ?_|refine zhF (fun _=>zrc _ _ _ _) ?_|(simp (maxSteps:=2000000) only [go_sem,Nat.reduceAdd,Nat.reduceMul,Nat.reduceBEq,Nat.reduceLeDiff,Nat.reduceLT,Nat.reduceEqDiff];try rfl)|refine zc3 ?_|(refine And.intro ?_ ?_;focus (intros;simp_all only [Bool.or_eq_false_iff,Bool.or_eq_true,Bool.and_eq_true,and_self,true_and,and_true];done))
    have:decide (∀ i,i < s.size→zrg s i=false)=true:=decide_eq_true (fun i hi=>hk.2 i (by omega))
    rw [zrh,this,Bool.true_and,In]
theorem zrj (s:ByteArray) (h:Hp) (hs:zkB s):Ct Try.prog 104 [.string s] h fun v h'=>v=.bool (zrh s)∧h'=h:=by
  have hmax:s.size≤9223372036854775807:=hs
  refine zdn (fun A W=>by simp) Try.func104 rfl rfl (by simp) fun W0=>?_
  repeat' first|refine zie rfl ?_|refine zc4 rfl ?_|refine zc7 ?_|refine zc8 ?_|refine zc5 ?_|refine zc6 ?_|refine zhF (fun _=>zrd _ _ _ _) ?_|(simp (maxSteps:=2000000) only [go_sem,Nat.reduceAdd,Nat.reduceMul,Nat.reduceBEq,Nat.reduceLeDiff,Nat.reduceLT,Nat.reduceEqDiff];try rfl)|refine zc3 ?_|(refine And.intro ?_ ?_;focus (intros;simp_all only [Bool.or_eq_false_iff,Bool.or_eq_true,Bool.and_eq_true,and_self,true_and,and_true];done))
  refine zc9 rfl (fun hc=>?_) (fun hc=>?_)
  · repeat' first|refine zie rfl ?_|refine zc4 rfl ?_|refine zc7 ?_|refine zc8 ?_|refine zc5 ?_|refine zc6 ?_|(simp (maxSteps:=2000000) only [go_sem,Nat.reduceAdd,Nat.reduceMul,Nat.reduceBEq,Nat.reduceLeDiff,Nat.reduceLT,Nat.reduceEqDiff];try rfl)|refine zc3 ?_|(refine And.intro ?_ ?_;focus (intros;simp_all only [Bool.or_eq_false_iff,Bool.or_eq_true,Bool.and_eq_true,and_self,true_and,and_true];done))
    rw [Bool.not_eq_true'] at hc
    rw [zrh,In,hc,Bool.and_false]
  rw [Bool.not_eq_false'] at hc
  repeat' first|refine zie rfl ?_|refine zc4 rfl ?_|refine zc7 ?_|refine zc8 ?_|refine zc5 ?_|refine zc6 ?_|(simp (maxSteps:=2000000) only [go_sem,Nat.reduceAdd,Nat.reduceMul,Nat.reduceBEq,Nat.reduceLeDiff,Nat.reduceLT,Nat.reduceEqDiff];try rfl)|refine zc3 ?_|(refine And.intro ?_ ?_;focus (intros;simp_all only [Bool.or_eq_false_iff,Bool.or_eq_true,Bool.and_eq_true,and_self,true_and,and_true];done))
  refine zde (ι:=Nat) (fun k=>⟨[(0,true,.c (.v (.string s))),(3,true,.c (.v (.int .i64 k)))],[],h,0⟩) (fun k=>k≤s.size∧∀ i,i < k→zrg s i=false) (fun k=>s.size - k) 0 ⟨Nat.zero_le _,fun i hi=>absurd hi (Nat.not_lt_zero _)⟩ ?_ ?_
  · simp (maxSteps:=2000000) only [go_sem,Nat.reduceAdd,Nat.reduceMul,Nat.reduceBEq,Nat.reduceLeDiff,Nat.reduceLT,Nat.reduceEqDiff]
    first|exact rfl|exact ⟨rfl,rfl⟩|exact ⟨rfl,rfl,rfl⟩|exact ⟨rfl,rfl,rfl,rfl⟩|exact ⟨rfl,rfl,rfl,rfl,rfl⟩
  intro k hk
  repeat' first|refine zie rfl ?_|refine zc4 rfl ?_|refine zc7 ?_|refine zc8 ?_|refine zc5 ?_|refine zc6 ?_|(simp (maxSteps:=2000000) only [go_sem,Nat.reduceAdd,Nat.reduceMul,Nat.reduceBEq,Nat.reduceLeDiff,Nat.reduceLT,Nat.reduceEqDiff];try rfl)|refine zc3 ?_|(refine And.intro ?_ ?_;focus (intros;simp_all only [Bool.or_eq_false_iff,Bool.or_eq_true,Bool.and_eq_true,and_self,true_and,and_true];done))
  refine zc9 rfl (fun hd=>?_) (fun hd=>?_)
  · have hlt:=zjH hd
    repeat' first|refine zie rfl ?_|refine zc4 rfl ?_|refine zc7 ?_|refine zc8 ?_|refine zc5 ?_|refine zc6 ?_|(simp (maxSteps:=2000000) only [go_sem,Nat.reduceAdd,Nat.reduceMul,Nat.reduceBEq,Nat.reduceLeDiff,Nat.reduceLT,Nat.reduceEqDiff,hlt,Int.toNat_natCast];try rfl)|refine zc3 ?_|(refine And.intro ?_ ?_;focus (intros;simp_all only [Bool.or_eq_false_iff,Bool.or_eq_true,Bool.and_eq_true,and_self,true_and,and_true];done))
    refine zc9 rfl (fun hq=>?_) (fun hq=>?_)
    · repeat' first|refine zie rfl ?_|refine zc4 rfl ?_|refine zc7 ?_|refine zc8 ?_|refine zc5 ?_|refine zc6 ?_|(simp (maxSteps:=2000000) only [go_sem,Nat.reduceAdd,Nat.reduceMul,Nat.reduceBEq,Nat.reduceLeDiff,Nat.reduceLT,Nat.reduceEqDiff];try rfl)|refine zc3 ?_|(refine And.intro ?_ ?_;focus (intros;simp_all only [Bool.or_eq_false_iff,Bool.or_eq_true,Bool.and_eq_true,and_self,true_and,and_true];done))
      have:zrh s=false:=by
        rw [zrh,decide_eq_false (fun e=>?_),Bool.false_and]
        have:=e k hlt
        rw [show zrg s k=true from hq] at this
        cases this
      rw [this]
    · repeat' first|refine zie rfl ?_|refine zc4 rfl ?_|refine zc7 ?_|refine zc8 ?_|refine zc5 ?_|refine zc6 ?_|(simp (maxSteps:=2000000) only [go_sem,Nat.reduceAdd,Nat.reduceMul,Nat.reduceBEq,Nat.reduceLeDiff,Nat.reduceLT,Nat.reduceEqDiff];try rfl)|refine zc3 ?_|(refine And.intro ?_ ?_;focus (intros;simp_all only [Bool.or_eq_false_iff,Bool.or_eq_true,Bool.and_eq_true,and_self,true_and,and_true];done))
      refine ⟨k+1,⟨hlt,fun i hi=>?_⟩,by omega,zjB (zjA hlt (by omega))⟩
      rcases Nat.lt_succ_iff_lt_or_eq.1 hi with hi|rfl
      · exact hk.2 i hi
      · exact hq
  · have hge:=zjI hd
    repeat' first|refine zie rfl ?_|refine zc4 rfl ?_|refine zc7 ?_|refine zc8 ?_|refine zc5 ?_|refine zc6 ?_|(simp (maxSteps:=2000000) only [go_sem,Nat.reduceAdd,Nat.reduceMul,Nat.reduceBEq,Nat.reduceLeDiff,Nat.reduceLT,Nat.reduceEqDiff];try rfl)|refine zc3 ?_|(refine And.intro ?_ ?_;focus (intros;simp_all only [Bool.or_eq_false_iff,Bool.or_eq_true,Bool.and_eq_true,and_self,true_and,and_true];done))
    have:decide (∀ i,i < s.size→zrg s i=false)=true:=decide_eq_true (fun i hi=>hk.2 i (by omega))
    rw [zrh,this,Bool.true_and,In,hc]
def zrk {α:Type} (p:α→Bool) (l:List α):Int:=match l.findIdx? p with|some i=>i|none=>-1
theorem zrl {α:Type} {p:α→Bool} {l:List α} {k:Nat} (hk:k < l.length) (h:p l[k]=true) (hp:∀ i (hi:i < l.length),i < k→p l[i]=false):zrk p l=k:=by
  have:l.findIdx? p=some k:=by
    rw [List.findIdx?_eq_some_iff_getElem]
    exact ⟨hk,h,fun j hj=>by rw [hp j (by omega) hj];exact Bool.false_ne_true⟩
  rw [zrk,this]
theorem zrm {α:Type} {p:α→Bool} {l:List α} (hp:∀ i (hi:i < l.length),p l[i]=false):zrk p l=-1:=by
  have:l.findIdx? p=none:=by
    rw [List.findIdx?_eq_none_iff]
    intro x hx
    obtain ⟨i,hi,rfl⟩:=List.getElem_of_mem hx
    exact hp i hi
  rw [zrk,this]
end Go.Proofs.Ytjiggadgmmjnhaa
namespace Go.Proofs.Ytjiggadgmmjnhaa
open Go Go.SL
set_option maxHeartbeats 1000000
theorem zrn {α:Type} {p:α→Bool} {l:List α} {k:Nat} (hk:k < l.length) (h:p l[k]=false):l.all p=false:=List.all_eq_false.2 ⟨l[k],List.getElem_mem hk,by rw [h];exact Bool.false_ne_true⟩
theorem zro {α:Type} {p:α→Bool} {l:List α} {k:Nat} (hk:k < l.length) (hp:(l.take k).all p=true) (h:p l[k]=true):(l.take (k+1)).all p=true:=by
  rw [List.take_succ_eq_append_getElem hk,List.all_append,hp];simp [h]
end Go.Proofs.Ytjiggadgmmjnhaa
