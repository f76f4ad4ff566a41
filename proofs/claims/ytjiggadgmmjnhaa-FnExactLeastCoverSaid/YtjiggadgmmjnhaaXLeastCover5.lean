/- What functions of the given program compute, each as a contract over what its arguments read as. No condition beside those that each theorem states. -/
import Derived.Test.YtjiggadgmmjnhaaS4
set_option linter.unusedVariables false
set_option linter.unusedSimpArgs false
namespace Go.Proofs.Ytjiggadgmmjnhaa
open Go Go.SL
set_option maxHeartbeats 1000000
end Go.Proofs.Ytjiggadgmmjnhaa
namespace Go.Proofs.Ytjiggadgmmjnhaa
open Go Go.SL
set_option maxHeartbeats 1000000
theorem zw3 (s:Sl Int) (k:Int) (h:Hp) (hs:s.Ok h) (ho:Foot.own h s) (hn:(Foot.foot s).Nodup) (hk:0≤k∧k+(Mk.cnt s:Nat)≤4611686018427387904):Cw Try.prog 14 [s.val,.int .i64 k] h (fun b=>b ∈ Foot.foot s) fun v h'=>v=.int .i64 (k+(Mk.cnt s:Nat))∧Enc.ok h' (Mk.put s k)∧Foot.own h' (Mk.put s k):=by
  have hmax:=hs.max
  have hcs:Mk.cnt s=cntL s.l:=rfl
  by_cases hl:s.l=[]
  · refine zlD (fun A W=>by simp) Try.func14 rfl rfl (by simp)  (fun b hb=>Foot.dom ho b hb) fun W0 hW=>?_
    repeat' first|refine zie rfl ?_|refine zc4 rfl ?_|refine zc7 ?_|refine zc8 ?_|refine zc5 ?_|refine zc6 ?_|(simp (maxSteps:=2000000) only [go_sem,Nat.reduceAdd,Nat.reduceMul,Nat.reduceBEq,Nat.reduceLeDiff,Nat.reduceLT,Nat.reduceEqDiff];try rfl)|refine zc3 ?_|(refine And.intro ?_ ?_;focus (intros;simp_all only [Bool.or_eq_false_iff,Bool.or_eq_true,Bool.and_eq_true,and_self,true_and,and_true];done))
    refine zde (ι:=Unit) (fun _=>⟨[(0,true,.c (.v s.val)),(1,true,.c (.v (.int .i64 k))),(5,true,.c (.v (.int .i64 0)))],[],h,0⟩) (fun _=>True) (fun _=>0) () trivial ?_ ?_
    · simp (maxSteps:=2000000) only [go_sem,Nat.reduceAdd,Nat.reduceMul,Nat.reduceBEq,Nat.reduceLeDiff,Nat.reduceLT,Nat.reduceEqDiff]
    rintro _ _
    repeat' first|refine zie rfl ?_|refine zc4 rfl ?_|refine zc7 ?_|refine zc8 ?_|refine zc5 ?_|refine zc6 ?_|(simp (maxSteps:=2000000) only [go_sem,Nat.reduceAdd,Nat.reduceMul,Nat.reduceBEq,Nat.reduceLeDiff,Nat.reduceLT,Nat.reduceEqDiff];try rfl)|refine zc3 ?_|(refine And.intro ?_ ?_;focus (intros;simp_all only [Bool.or_eq_false_iff,Bool.or_eq_true,Bool.and_eq_true,and_self,true_and,and_true];done))
    refine zc9 rfl (fun hc=>?_) (fun hc=>?_)
    · exact absurd (of_decide_eq_true hc) (by rw [hl];simp)
    · repeat' first|refine zie rfl ?_|refine zc4 rfl ?_|refine zc7 ?_|refine zc8 ?_|refine zc5 ?_|refine zc6 ?_|(simp (maxSteps:=2000000) only [go_sem,Nat.reduceAdd,Nat.reduceMul,Nat.reduceBEq,Nat.reduceLeDiff,Nat.reduceLT,Nat.reduceEqDiff];try rfl)|refine zc3 ?_|(refine And.intro ?_ ?_;focus (intros;simp_all only [Bool.or_eq_false_iff,Bool.or_eq_true,Bool.and_eq_true,and_self,true_and,and_true];done))
      refine ⟨by rw [hcs,hl];simp [cntL],⟨(by simp [Mk.put,hl,mkL]),fun hne=>(hne (by simp [Mk.put,hl,mkL])).elim,fun i x hx=>by simp [Mk.put,hl,mkL] at hx,fun x hx=>by simp [Mk.put,hl,mkL] at hx,hs.2.2.2.2⟩,fun hne=>(hne (by simp [Mk.put,hl,mkL])).elim⟩
  obtain ⟨g,e,spare,ha,hb,hsp⟩:=zwO (by decide) hs ho hl
  have hsz:Enc.size Int=1:=rfl
  have hfoot:g ∈ Foot.foot s:=by
    rw [show Foot.foot s=_ from Sl.foot_ne hl]
    simp [Sl.blkOf,ha]
  refine zlD (fun A W=>by simp) Try.func14 rfl rfl (by simp)  (fun b hb=>Foot.dom ho b hb) fun W0 hW=>?_
  repeat' first|refine zie rfl ?_|refine zc4 rfl ?_|refine zc7 ?_|refine zc8 ?_|refine zc5 ?_|refine zc6 ?_|(simp (maxSteps:=2000000) only [go_sem,Nat.reduceAdd,Nat.reduceMul,Nat.reduceBEq,Nat.reduceLeDiff,Nat.reduceLT,Nat.reduceEqDiff];try rfl)|refine zc3 ?_|(refine And.intro ?_ ?_;focus (intros;simp_all only [Bool.or_eq_false_iff,Bool.or_eq_true,Bool.and_eq_true,and_self,true_and,and_true];done))
  refine zde (ι:=Nat × Hp) (fun i=>⟨[(0,true,.c (.v s.val)),(1,true,.c (.v (.int .i64 (k+(cntL (s.l.take i.1):Nat))))),(5,true,.c (.v (.int .i64 i.1)))],[],i.2,0⟩) (fun i=>i.1≤s.l.length∧i.2 g=some (.cells (rowL (mkd s.l k i.1) spare).toArray e (0,0))∧∀ x ∈ mkd s.l k i.1,Enc.ok i.2 x) (fun i=>s.l.length - i.1) (0,h) ⟨Nat.zero_le _,by rw [zwE];exact hb,by rw [zwE];exact hs.2.2.2.1⟩ ?_ ?_
  · simp (maxSteps:=2000000) only [go_sem,Nat.reduceAdd,Nat.reduceMul,Nat.reduceBEq,Nat.reduceLeDiff,Nat.reduceLT,Nat.reduceEqDiff]
    exact ⟨zjB (by rw [zwy];omega),rfl⟩
  rintro ⟨i,hk'⟩ ⟨hi,hb0,hok⟩
  repeat' first|refine zie rfl ?_|refine zc4 rfl ?_|refine zc7 ?_|refine zc8 ?_|refine zc5 ?_|refine zc6 ?_|(simp (maxSteps:=2000000) only [go_sem,Nat.reduceAdd,Nat.reduceMul,Nat.reduceBEq,Nat.reduceLeDiff,Nat.reduceLT,Nat.reduceEqDiff];try rfl)|refine zc3 ?_|(refine And.intro ?_ ?_;focus (intros;simp_all only [Bool.or_eq_false_iff,Bool.or_eq_true,Bool.and_eq_true,and_self,true_and,and_true];done))
  refine zc9 rfl (fun hd=>?_) (fun hd=>?_)
  · have hlt:=zjH hd
    have hcnt:=zwC hlt
    have hcle:=zwD (l:=s.l) (i:=i+1)
    have hc:Mk.cnt s.l[i]=1:=rfl
    generalize hκ:k+((cntL (s.l.take i):Nat):Int)=κ
    have hκ0:0≤κ∧κ+1≤4611686018427387904:=by omega
    have hlen:i * 1+1≤(rowL (mkd s.l k i) spare).length:=by rw [zwI,zwG,hsz];omega
    generalize hX:rowL (mkd s.l k i) spare=X0 at hb0 hlen
    refine zc5 ?_
    simp (maxSteps:=2000000) only [go_sem,Nat.reduceAdd,Nat.reduceMul,Nat.reduceBEq,Nat.reduceLeDiff,Nat.reduceLT,Nat.reduceEqDiff]
    refine zc3 ?_
    refine zc8 ?_
    refine zwx [0,0,0,0,1] rfl ?_
    simp (maxSteps:=2000000) only [go_sem,Nat.reduceAdd,Nat.reduceMul,Nat.reduceBEq,Nat.reduceLeDiff,Nat.reduceLT,Nat.reduceEqDiff,ha,hlt,Option.map_some,za4,Option.isSome_some,Int.toNat_natCast,Nat.zero_add,Nat.add_zero,List.toList_toArray,Hp.ins_ins]
    refine zlV (by simp only [go_sem]) (by simp only [go_sem]) rfl rfl hb0 (.inr (hW _ hfoot)) (by simp only [List.size_toArray];omega) ?_
    simp (maxSteps:=2000000) only [go_sem,Nat.reduceAdd,Nat.reduceMul,Nat.reduceBEq,Nat.reduceLeDiff,Nat.reduceLT,Nat.reduceEqDiff,ha,hlt,Option.map_some,za4,Option.isSome_some,Int.toNat_natCast,Nat.zero_add,Nat.add_zero,List.toList_toArray,Hp.ins_ins]
    refine zc4 rfl ?_
    simp (maxSteps:=2000000) only [go_sem,Nat.reduceAdd,Nat.reduceMul,Nat.reduceBEq,Nat.reduceLeDiff,Nat.reduceLT,Nat.reduceEqDiff]
    rw [zjz (by omega)]
    repeat' first|refine zie rfl ?_|refine zc4 rfl ?_|refine zc7 ?_|refine zc8 ?_|refine zc5 ?_|refine zc6 ?_|(simp (maxSteps:=2000000) only [go_sem,Nat.reduceAdd,Nat.reduceMul,Nat.reduceBEq,Nat.reduceLeDiff,Nat.reduceLT,Nat.reduceEqDiff];try rfl)|refine zc3 ?_|(refine And.intro ?_ ?_;focus (intros;simp_all only [Bool.or_eq_false_iff,Bool.or_eq_true,Bool.and_eq_true,and_self,true_and,and_true];done))
    refine ⟨(i+1,hk'.ins g (.cells (spl (i * 1) [.int .i64 (κ)] X0).toArray e (0,0))),⟨hlt,?_,fun x hx=>?_⟩,by simp only;omega,?_⟩
    · rw [← zwH hlt,← zwJ (by rw [zwG];exact hlt),hX]
      simp only
      rw [Hp.ins_same]
      congr 4
      simp only [show k+((cntL (List.take i s.l):Nat):Int)=κ from hκ,Mk.put,Enc.enc]
      try simp only [mkB,Int.add_assoc,Int.reduceAdd]
      try rfl
    · simp only at hx ⊢
      rw [← zwH hlt] at hx
      rcases List.mem_or_eq_of_mem_set hx with hx|rfl
      · exact hok x hx
      · exact (show I64 (Mk.put (α:=Int) _ _) from by show I64 (_+_);unfold I64;omega)
    · simp (maxSteps:=2000000) only [go_sem,Nat.reduceAdd,Nat.reduceMul,Nat.reduceBEq,Nat.reduceLeDiff,Nat.reduceLT,Nat.reduceEqDiff]
      exact ⟨zjB (by rw [hcnt,hc];omega),zjB (zjA hlt (by omega))⟩
  · have hge:=zjI hd
    have hie:i=s.l.length:=Nat.le_antisymm hi hge
    repeat' first|refine zie rfl ?_|refine zc4 rfl ?_|refine zc7 ?_|refine zc8 ?_|refine zc5 ?_|refine zc6 ?_|(simp (maxSteps:=2000000) only [go_sem,Nat.reduceAdd,Nat.reduceMul,Nat.reduceBEq,Nat.reduceLeDiff,Nat.reduceLT,Nat.reduceEqDiff];try rfl)|refine zc3 ?_|(refine And.intro ?_ ?_;focus (intros;simp_all only [Bool.or_eq_false_iff,Bool.or_eq_true,Bool.and_eq_true,and_self,true_and,and_true];done))
    have hp:mkd s.l k i=(Mk.put s k).l:=zwF hge
    rw [hp] at hb0 hok
    have hll:(Mk.put s k).l.length=s.l.length:=zlZ
    have hsl:=zwN (α:=Int) (h:=hk') (g:=g) (cap:=s.cap) (by decide) hb0 (by rw [hll];exact hs.1) hs.2.2.2.2 hok
    have hsv:(Sl.mk (some ⟨g,0,none⟩) s.cap (Mk.put s k).l:Sl Int)=Mk.put s k:=by rw [← ha];rfl
    rw [hsv] at hsl
    refine ⟨by rw [hie,List.take_length,hcs],hsl,fun _=>⟨⟨g,_,e,ha,hb0,?_⟩,fun x hx=>trivial⟩⟩
    rw [List.size_toArray,zwI,hll,hsp]
    rfl
theorem zw4 (s:Sl DDuty) (k:Int) (h:Hp) (hs:s.Ok h) (ho:Foot.own h s) (hn:(Foot.foot s).Nodup) (hk:0≤k∧k+(Mk.cnt s:Nat)≤4611686018427387904):Cw Try.prog 15 [s.val,.int .i64 k] h (fun b=>b ∈ Foot.foot s) fun v h'=>v=.int .i64 (k+(Mk.cnt s:Nat))∧Enc.ok h' (Mk.put s k)∧Foot.own h' (Mk.put s k):=by
  have hmax:=hs.max
  have hcs:Mk.cnt s=cntL s.l:=rfl
  by_cases hl:s.l=[]
  · refine zlD (fun A W=>by simp) Try.func15 rfl rfl (by simp)  (fun b hb=>Foot.dom ho b hb) fun W0 hW=>?_
    repeat' first|refine zie rfl ?_|refine zc4 rfl ?_|refine zc7 ?_|refine zc8 ?_|refine zc5 ?_|refine zc6 ?_|(simp (maxSteps:=2000000) only [go_sem,Nat.reduceAdd,Nat.reduceMul,Nat.reduceBEq,Nat.reduceLeDiff,Nat.reduceLT,Nat.reduceEqDiff];try rfl)|refine zc3 ?_|(refine And.intro ?_ ?_;focus (intros;simp_all only [Bool.or_eq_false_iff,Bool.or_eq_true,Bool.and_eq_true,and_self,true_and,and_true];done))
    refine zde (ι:=Unit) (fun _=>⟨[(0,true,.c (.v s.val)),(1,true,.c (.v (.int .i64 k))),(5,true,.c (.v (.int .i64 0)))],[],h,0⟩) (fun _=>True) (fun _=>0) () trivial ?_ ?_
    · simp (maxSteps:=2000000) only [go_sem,Nat.reduceAdd,Nat.reduceMul,Nat.reduceBEq,Nat.reduceLeDiff,Nat.reduceLT,Nat.reduceEqDiff]
    rintro _ _
    repeat' first|refine zie rfl ?_|refine zc4 rfl ?_|refine zc7 ?_|refine zc8 ?_|refine zc5 ?_|refine zc6 ?_|(simp (maxSteps:=2000000) only [go_sem,Nat.reduceAdd,Nat.reduceMul,Nat.reduceBEq,Nat.reduceLeDiff,Nat.reduceLT,Nat.reduceEqDiff];try rfl)|refine zc3 ?_|(refine And.intro ?_ ?_;focus (intros;simp_all only [Bool.or_eq_false_iff,Bool.or_eq_true,Bool.and_eq_true,and_self,true_and,and_true];done))
    refine zc9 rfl (fun hc=>?_) (fun hc=>?_)
    · exact absurd (of_decide_eq_true hc) (by rw [hl];simp)
    · repeat' first|refine zie rfl ?_|refine zc4 rfl ?_|refine zc7 ?_|refine zc8 ?_|refine zc5 ?_|refine zc6 ?_|(simp (maxSteps:=2000000) only [go_sem,Nat.reduceAdd,Nat.reduceMul,Nat.reduceBEq,Nat.reduceLeDiff,Nat.reduceLT,Nat.reduceEqDiff];try rfl)|refine zc3 ?_|(refine And.intro ?_ ?_;focus (intros;simp_all only [Bool.or_eq_false_iff,Bool.or_eq_true,Bool.and_eq_true,and_self,true_and,and_true];done))
      refine ⟨by rw [hcs,hl];simp [cntL],⟨(by simp [Mk.put,hl,mkL]),fun hne=>(hne (by simp [Mk.put,hl,mkL])).elim,fun i x hx=>by simp [Mk.put,hl,mkL] at hx,fun x hx=>by simp [Mk.put,hl,mkL] at hx,hs.2.2.2.2⟩,fun hne=>(hne (by simp [Mk.put,hl,mkL])).elim⟩
  obtain ⟨g,e,spare,ha,hb,hsp⟩:=zwO (by decide) hs ho hl
  have hsz:Enc.size DDuty=4:=rfl
  have hfoot:g ∈ Foot.foot s:=by
    rw [show Foot.foot s=_ from Sl.foot_ne hl]
    simp [Sl.blkOf,ha]
  refine zlD (fun A W=>by simp) Try.func15 rfl rfl (by simp)  (fun b hb=>Foot.dom ho b hb) fun W0 hW=>?_
  repeat' first|refine zie rfl ?_|refine zc4 rfl ?_|refine zc7 ?_|refine zc8 ?_|refine zc5 ?_|refine zc6 ?_|(simp (maxSteps:=2000000) only [go_sem,Nat.reduceAdd,Nat.reduceMul,Nat.reduceBEq,Nat.reduceLeDiff,Nat.reduceLT,Nat.reduceEqDiff];try rfl)|refine zc3 ?_|(refine And.intro ?_ ?_;focus (intros;simp_all only [Bool.or_eq_false_iff,Bool.or_eq_true,Bool.and_eq_true,and_self,true_and,and_true];done))
  refine zde (ι:=Nat × Hp) (fun i=>⟨[(0,true,.c (.v s.val)),(1,true,.c (.v (.int .i64 (k+(cntL (s.l.take i.1):Nat))))),(5,true,.c (.v (.int .i64 i.1)))],[],i.2,0⟩) (fun i=>i.1≤s.l.length∧i.2 g=some (.cells (rowL (mkd s.l k i.1) spare).toArray e (0,0))∧∀ x ∈ mkd s.l k i.1,Enc.ok i.2 x) (fun i=>s.l.length - i.1) (0,h) ⟨Nat.zero_le _,by rw [zwE];exact hb,by rw [zwE];exact hs.2.2.2.1⟩ ?_ ?_
  · simp (maxSteps:=2000000) only [go_sem,Nat.reduceAdd,Nat.reduceMul,Nat.reduceBEq,Nat.reduceLeDiff,Nat.reduceLT,Nat.reduceEqDiff]
    exact ⟨zjB (by rw [zwy];omega),rfl⟩
  rintro ⟨i,hk'⟩ ⟨hi,hb0,hok⟩
  repeat' first|refine zie rfl ?_|refine zc4 rfl ?_|refine zc7 ?_|refine zc8 ?_|refine zc5 ?_|refine zc6 ?_|(simp (maxSteps:=2000000) only [go_sem,Nat.reduceAdd,Nat.reduceMul,Nat.reduceBEq,Nat.reduceLeDiff,Nat.reduceLT,Nat.reduceEqDiff];try rfl)|refine zc3 ?_|(refine And.intro ?_ ?_;focus (intros;simp_all only [Bool.or_eq_false_iff,Bool.or_eq_true,Bool.and_eq_true,and_self,true_and,and_true];done))
  refine zc9 rfl (fun hd=>?_) (fun hd=>?_)
  · have hlt:=zjH hd
    have hcnt:=zwC hlt
    have hcle:=zwD (l:=s.l) (i:=i+1)
    have hc:Mk.cnt s.l[i]=4:=rfl
    generalize hκ:k+((cntL (s.l.take i):Nat):Int)=κ
    have hκ0:0≤κ∧κ+4≤4611686018427387904:=by omega
    have hlen:i * 4+4≤(rowL (mkd s.l k i) spare).length:=by rw [zwI,zwG,hsz];omega
    generalize hX:rowL (mkd s.l k i) spare=X0 at hb0 hlen
    refine zc5 ?_
    simp (maxSteps:=2000000) only [go_sem,Nat.reduceAdd,Nat.reduceMul,Nat.reduceBEq,Nat.reduceLeDiff,Nat.reduceLT,Nat.reduceEqDiff]
    refine zc3 ?_
    refine zc8 ?_
    refine zwx [0,0,0,0,0,1] rfl ?_
    simp (maxSteps:=2000000) only [go_sem,Nat.reduceAdd,Nat.reduceMul,Nat.reduceBEq,Nat.reduceLeDiff,Nat.reduceLT,Nat.reduceEqDiff,ha,hlt,Option.map_some,za4,Option.isSome_some,Int.toNat_natCast,Nat.zero_add,Nat.add_zero,List.toList_toArray,Hp.ins_ins]
    refine zlV (by simp only [go_sem]) (by simp only [go_sem]) rfl rfl hb0 (.inr (hW _ hfoot)) (by simp only [List.size_toArray];omega) ?_
    simp (maxSteps:=2000000) only [go_sem,Nat.reduceAdd,Nat.reduceMul,Nat.reduceBEq,Nat.reduceLeDiff,Nat.reduceLT,Nat.reduceEqDiff,ha,hlt,Option.map_some,za4,Option.isSome_some,Int.toNat_natCast,Nat.zero_add,Nat.add_zero,List.toList_toArray,Hp.ins_ins]
    refine zie rfl ?_
    simp (maxSteps:=2000000) only [go_sem,Nat.reduceAdd,Nat.reduceMul,Nat.reduceBEq,Nat.reduceLeDiff,Nat.reduceLT,Nat.reduceEqDiff]
    rw [zjz (by omega)]
    have hsl1:(spl (i * 4) [.int .i64 (κ)] X0).length=X0.length:=zwM (by simp only [List.length_cons,List.length_nil];omega)
    refine zwx [0,0,0,0,0,1] rfl ?_
    simp (maxSteps:=2000000) only [go_sem,Nat.reduceAdd,Nat.reduceMul,Nat.reduceBEq,Nat.reduceLeDiff,Nat.reduceLT,Nat.reduceEqDiff,ha,hlt,Option.map_some,za4,Option.isSome_some,Int.toNat_natCast,Nat.zero_add,Nat.add_zero,List.toList_toArray,Hp.ins_ins]
    refine zlV (by simp only [go_sem]) (by simp only [go_sem]) rfl rfl Hp.ins_same (.inr (hW _ hfoot)) (by simp only [List.size_toArray,hsl1];omega) ?_
    simp (maxSteps:=2000000) only [go_sem,Nat.reduceAdd,Nat.reduceMul,Nat.reduceBEq,Nat.reduceLeDiff,Nat.reduceLT,Nat.reduceEqDiff,ha,hlt,Option.map_some,za4,Option.isSome_some,Int.toNat_natCast,Nat.zero_add,Nat.add_zero,List.toList_toArray,Hp.ins_ins]
    rw [show spl (i * 4+1) [.int .i64 (κ+1)] (spl (i * 4) [.int .i64 (κ)] X0)=spl (i * 4) [.int .i64 (κ),.int .i64 (κ+1)] X0 from zwL (m:=[.int .i64 (κ)]) (by simp only [List.length_cons,List.length_nil];omega)]
    refine zie rfl ?_
    simp (maxSteps:=2000000) only [go_sem,Nat.reduceAdd,Nat.reduceMul,Nat.reduceBEq,Nat.reduceLeDiff,Nat.reduceLT,Nat.reduceEqDiff]
    rw [zjz (by omega)]
    have hsl2:(spl (i * 4) [.int .i64 (κ),.int .i64 (κ+1)] X0).length=X0.length:=zwM (by simp only [List.length_cons,List.length_nil];omega)
    refine zwx [0,0,0,0,0,1] rfl ?_
    simp (maxSteps:=2000000) only [go_sem,Nat.reduceAdd,Nat.reduceMul,Nat.reduceBEq,Nat.reduceLeDiff,Nat.reduceLT,Nat.reduceEqDiff,ha,hlt,Option.map_some,za4,Option.isSome_some,Int.toNat_natCast,Nat.zero_add,Nat.add_zero,List.toList_toArray,Hp.ins_ins]
    refine zlV (by simp only [go_sem]) (by simp only [go_sem]) rfl rfl Hp.ins_same (.inr (hW _ hfoot)) (by simp only [List.size_toArray,hsl2];omega) ?_
    simp (maxSteps:=2000000) only [go_sem,Nat.reduceAdd,Nat.reduceMul,Nat.reduceBEq,Nat.reduceLeDiff,Nat.reduceLT,Nat.reduceEqDiff,ha,hlt,Option.map_some,za4,Option.isSome_some,Int.toNat_natCast,Nat.zero_add,Nat.add_zero,List.toList_toArray,Hp.ins_ins]
    rw [show spl (i * 4+2) [.int .i64 (κ+1+1)] (spl (i * 4) [.int .i64 (κ),.int .i64 (κ+1)] X0)=spl (i * 4) [.int .i64 (κ),.int .i64 (κ+1),.int .i64 (κ+1+1)] X0 from zwL (m:=[.int .i64 (κ),.int .i64 (κ+1)]) (by simp only [List.length_cons,List.length_nil];omega)]
    refine zie rfl ?_
    simp (maxSteps:=2000000) only [go_sem,Nat.reduceAdd,Nat.reduceMul,Nat.reduceBEq,Nat.reduceLeDiff,Nat.reduceLT,Nat.reduceEqDiff]
    rw [zjz (by omega)]
    have hsl3:(spl (i * 4) [.int .i64 (κ),.int .i64 (κ+1),.int .i64 (κ+1+1)] X0).length=X0.length:=zwM (by simp only [List.length_cons,List.length_nil];omega)
    refine zwx [0,0,0,0,0,1] rfl ?_
    simp (maxSteps:=2000000) only [go_sem,Nat.reduceAdd,Nat.reduceMul,Nat.reduceBEq,Nat.reduceLeDiff,Nat.reduceLT,Nat.reduceEqDiff,ha,hlt,Option.map_some,za4,Option.isSome_some,Int.toNat_natCast,Nat.zero_add,Nat.add_zero,List.toList_toArray,Hp.ins_ins]
    refine zlV (by simp only [go_sem]) (by simp only [go_sem]) rfl rfl Hp.ins_same (.inr (hW _ hfoot)) (by simp only [List.size_toArray,hsl3];omega) ?_
    simp (maxSteps:=2000000) only [go_sem,Nat.reduceAdd,Nat.reduceMul,Nat.reduceBEq,Nat.reduceLeDiff,Nat.reduceLT,Nat.reduceEqDiff,ha,hlt,Option.map_some,za4,Option.isSome_some,Int.toNat_natCast,Nat.zero_add,Nat.add_zero,List.toList_toArray,Hp.ins_ins]
    rw [show spl (i * 4+3) [.int .i64 (κ+1+1+1)] (spl (i * 4) [.int .i64 (κ),.int .i64 (κ+1),.int .i64 (κ+1+1)] X0)=spl (i * 4) [.int .i64 (κ),.int .i64 (κ+1),.int .i64 (κ+1+1),.int .i64 (κ+1+1+1)] X0 from zwL (m:=[.int .i64 (κ),.int .i64 (κ+1),.int .i64 (κ+1+1)]) (by simp only [List.length_cons,List.length_nil];omega)]
    refine zc4 rfl ?_
    simp (maxSteps:=2000000) only [go_sem,Nat.reduceAdd,Nat.reduceMul,Nat.reduceBEq,Nat.reduceLeDiff,Nat.reduceLT,Nat.reduceEqDiff]
    rw [zjz (by omega)]
    repeat' first|refine zie rfl ?_|refine zc4 rfl ?_|refine zc7 ?_|refine zc8 ?_|refine zc5 ?_|refine zc6 ?_|(simp (maxSteps:=2000000) only [go_sem,Nat.reduceAdd,Nat.reduceMul,Nat.reduceBEq,Nat.reduceLeDiff,Nat.reduceLT,Nat.reduceEqDiff];try rfl)|refine zc3 ?_|(refine And.intro ?_ ?_;focus (intros;simp_all only [Bool.or_eq_false_iff,Bool.or_eq_true,Bool.and_eq_true,and_self,true_and,and_true];done))
    refine ⟨(i+1,hk'.ins g (.cells (spl (i * 4) [.int .i64 (κ),.int .i64 (κ+1),.int .i64 (κ+1+1),.int .i64 (κ+1+1+1)] X0).toArray e (0,0))),⟨hlt,?_,fun x hx=>?_⟩,by simp only;omega,?_⟩
    · rw [← zwH hlt,← zwJ (by rw [zwG];exact hlt),hX]
      simp only
      rw [Hp.ins_same]
      congr 4
      simp only [show k+((cntL (List.take i s.l):Nat):Int)=κ from hκ,Mk.put,Enc.enc,DDuty.cells]
      try simp only [mkB,Int.add_assoc,Int.reduceAdd]
      try rfl
    · simp only at hx ⊢
      rw [← zwH hlt] at hx
      rcases List.mem_or_eq_of_mem_set hx with hx|rfl
      · exact hok x hx
      · exact (show I64 _∧I64 _∧I64 _∧I64 _ from by unfold I64;simp only [Mk.put];omega)
    · simp (maxSteps:=2000000) only [go_sem,Nat.reduceAdd,Nat.reduceMul,Nat.reduceBEq,Nat.reduceLeDiff,Nat.reduceLT,Nat.reduceEqDiff]
      exact ⟨zjB (by rw [hcnt,hc];omega),zjB (zjA hlt (by omega))⟩
  · have hge:=zjI hd
    have hie:i=s.l.length:=Nat.le_antisymm hi hge
    repeat' first|refine zie rfl ?_|refine zc4 rfl ?_|refine zc7 ?_|refine zc8 ?_|refine zc5 ?_|refine zc6 ?_|(simp (maxSteps:=2000000) only [go_sem,Nat.reduceAdd,Nat.reduceMul,Nat.reduceBEq,Nat.reduceLeDiff,Nat.reduceLT,Nat.reduceEqDiff];try rfl)|refine zc3 ?_|(refine And.intro ?_ ?_;focus (intros;simp_all only [Bool.or_eq_false_iff,Bool.or_eq_true,Bool.and_eq_true,and_self,true_and,and_true];done))
    have hp:mkd s.l k i=(Mk.put s k).l:=zwF hge
    rw [hp] at hb0 hok
    have hll:(Mk.put s k).l.length=s.l.length:=zlZ
    have hsl:=zwN (α:=DDuty) (h:=hk') (g:=g) (cap:=s.cap) (by decide) hb0 (by rw [hll];exact hs.1) hs.2.2.2.2 hok
    have hsv:(Sl.mk (some ⟨g,0,none⟩) s.cap (Mk.put s k).l:Sl DDuty)=Mk.put s k:=by rw [← ha];rfl
    rw [hsv] at hsl
    refine ⟨by rw [hie,List.take_length,hcs],hsl,fun _=>⟨⟨g,_,e,ha,hb0,?_⟩,fun x hx=>trivial⟩⟩
    rw [List.size_toArray,zwI,hll,hsp]
    rfl
end Go.Proofs.Ytjiggadgmmjnhaa
namespace Go.Proofs.Ytjiggadgmmjnhaa
open Go Go.SL
set_option maxHeartbeats 1000000
theorem zw5 (s:Sl Int) (k:Int) (h:Hp) (hs:s.Ok h) (hm:mkL s.l k=s.l) (hk:0≤k∧k+(Mk.cnt s:Nat)≤4611686018427387904):Ct Try.prog 16 [s.val,.int .i64 k] h fun v h'=>v=.int .i64 (k+(Mk.cnt s:Nat))∧h'=h:=by
  have hmax:=hs.max
  have hcs:Mk.cnt s=cntL s.l:=rfl
  refine zdn (fun A W=>by simp) Try.func16 rfl rfl (by simp) fun W0=>?_
  repeat' first|refine zie rfl ?_|refine zc4 rfl ?_|refine zc7 ?_|refine zc8 ?_|refine zc5 ?_|refine zc6 ?_|(simp (maxSteps:=2000000) only [go_sem,Nat.reduceAdd,Nat.reduceMul,Nat.reduceBEq,Nat.reduceLeDiff,Nat.reduceLT,Nat.reduceEqDiff];try rfl)|refine zc3 ?_|(refine And.intro ?_ ?_;focus (intros;simp_all only [Bool.or_eq_false_iff,Bool.or_eq_true,Bool.and_eq_true,and_self,true_and,and_true];done))
  refine zde (ι:=Nat) (fun i=>⟨[(0,true,.c (.v s.val)),(1,true,.c (.v (.int .i64 (k+(cntL (s.l.take i):Nat))))),(5,true,.c (.v (.int .i64 i)))],[],h,0⟩) (fun i=>i≤s.l.length) (fun i=>s.l.length - i) 0 (Nat.zero_le _) ?_ ?_
  · simp (maxSteps:=2000000) only [go_sem,Nat.reduceAdd,Nat.reduceMul,Nat.reduceBEq,Nat.reduceLeDiff,Nat.reduceLT,Nat.reduceEqDiff]
    exact ⟨zjB (by rw [zwy];omega),rfl⟩
  intro i hi
  repeat' first|refine zie rfl ?_|refine zc4 rfl ?_|refine zc7 ?_|refine zc8 ?_|refine zc5 ?_|refine zc6 ?_|(simp (maxSteps:=2000000) only [go_sem,Nat.reduceAdd,Nat.reduceMul,Nat.reduceBEq,Nat.reduceLeDiff,Nat.reduceLT,Nat.reduceEqDiff];try rfl)|refine zc3 ?_|(refine And.intro ?_ ?_;focus (intros;simp_all only [Bool.or_eq_false_iff,Bool.or_eq_true,Bool.and_eq_true,and_self,true_and,and_true];done))
  refine zc9 rfl (fun hd=>?_) (fun hd=>?_)
  · have hlt:=zjH hd
    have hcnt:=zwC hlt
    have hcle:=zwD (l:=s.l) (i:=i+1)
    have hx:=zwQ hm hlt
    generalize hκ:k+((cntL (s.l.take i):Nat):Int)=κ at hx
    have hκ0:0≤κ∧κ+(Mk.cnt s.l[i]:Nat)≤4611686018427387904:=by omega
    have hc:Mk.cnt s.l[i]=1:=rfl
    have hf:s.l[i]=κ:=hx
    repeat' first|refine zie rfl ?_|refine zc4 rfl ?_|refine zc7 ?_|refine zc8 ?_|refine zc5 ?_|refine zc6 ?_|(simp (maxSteps:=2000000) only [go_sem,Nat.reduceAdd,Nat.reduceMul,Nat.reduceBEq,Nat.reduceLeDiff,Nat.reduceLT,Nat.reduceEqDiff,zkR hs hlt,hs.some hlt,hlt,Int.toNat_natCast];try rfl)|refine zc3 ?_|(refine And.intro ?_ ?_;focus (intros;simp_all only [Bool.or_eq_false_iff,Bool.or_eq_true,Bool.and_eq_true,and_self,true_and,and_true];done))
    refine zc9 rfl (fun hq=>?_) (fun hq=>?_)
    · exact absurd hf (zjD hq)
    refine zc5 ?_
    simp (maxSteps:=2000000) only [go_sem,Nat.reduceAdd,Nat.reduceMul,Nat.reduceBEq,Nat.reduceLeDiff,Nat.reduceLT,Nat.reduceEqDiff]
    refine zc4 rfl ?_
    simp (maxSteps:=2000000) only [go_sem,Nat.reduceAdd,Nat.reduceMul,Nat.reduceBEq,Nat.reduceLeDiff,Nat.reduceLT,Nat.reduceEqDiff]
    rw [zjz (by omega)]
    repeat' first|refine zie rfl ?_|refine zc4 rfl ?_|refine zc7 ?_|refine zc8 ?_|refine zc5 ?_|refine zc6 ?_|(simp (maxSteps:=2000000) only [go_sem,Nat.reduceAdd,Nat.reduceMul,Nat.reduceBEq,Nat.reduceLeDiff,Nat.reduceLT,Nat.reduceEqDiff];try rfl)|refine zc3 ?_|(refine And.intro ?_ ?_;focus (intros;simp_all only [Bool.or_eq_false_iff,Bool.or_eq_true,Bool.and_eq_true,and_self,true_and,and_true];done))
    exact ⟨i+1,hlt,by omega,zjB (by rw [hcnt,hc];omega),zjB (zjA hlt (by omega))⟩
  · have hge:=zjI hd
    have hie:i=s.l.length:=Nat.le_antisymm hi hge
    repeat' first|refine zie rfl ?_|refine zc4 rfl ?_|refine zc7 ?_|refine zc8 ?_|refine zc5 ?_|refine zc6 ?_|(simp (maxSteps:=2000000) only [go_sem,Nat.reduceAdd,Nat.reduceMul,Nat.reduceBEq,Nat.reduceLeDiff,Nat.reduceLT,Nat.reduceEqDiff];try rfl)|refine zc3 ?_|(refine And.intro ?_ ?_;focus (intros;simp_all only [Bool.or_eq_false_iff,Bool.or_eq_true,Bool.and_eq_true,and_self,true_and,and_true];done))
    rw [hie,List.take_length,hcs]
end Go.Proofs.Ytjiggadgmmjnhaa
namespace Go.Proofs.Ytjiggadgmmjnhaa
open Go Go.SL
set_option maxHeartbeats 1000000
theorem zrc (n lo hi:Int) (h:Hp):Ct Try.prog 66 [.int .i64 n,.int .i64 lo,.int .i64 hi] h fun v h'=>v=.bool (decide (lo≤n) && decide (n≤hi))∧h'=h:=by
  refine zdn (fun A W=>by simp) Try.func66 rfl rfl (by simp) fun W0=>?_
  repeat' first|refine zie rfl ?_|refine zc4 rfl ?_|refine zc7 ?_|refine zc8 ?_|refine zc5 ?_|refine zc6 ?_|(simp (maxSteps:=2000000) only [go_sem,Nat.reduceAdd,Nat.reduceMul,Nat.reduceBEq,Nat.reduceLeDiff,Nat.reduceLT,Nat.reduceEqDiff];try rfl)|refine zc3 ?_|(refine And.intro ?_ ?_;focus (intros;simp_all only [Bool.or_eq_false_iff,Bool.or_eq_true,Bool.and_eq_true,and_self,true_and,and_true];done))
theorem zrd (n lo hi:Int) (h:Hp):Ct Try.prog 67 [.int .i64 n,.int .i64 lo,.int .i64 hi] h fun v h'=>v=.bool (decide (lo≤n) && decide (n≤hi))∧h'=h:=by
  refine zdn (fun A W=>by simp) Try.func67 rfl rfl (by simp) fun W0=>?_
  repeat' first|refine zie rfl ?_|refine zc4 rfl ?_|refine zc7 ?_|refine zc8 ?_|refine zc5 ?_|refine zc6 ?_|(simp (maxSteps:=2000000) only [go_sem,Nat.reduceAdd,Nat.reduceMul,Nat.reduceBEq,Nat.reduceLeDiff,Nat.reduceLT,Nat.reduceEqDiff];try rfl)|refine zc3 ?_|(refine And.intro ?_ ?_;focus (intros;simp_all only [Bool.or_eq_false_iff,Bool.or_eq_true,Bool.and_eq_true,and_self,true_and,and_true];done))
theorem zre (n:Int) (h:Hp):Ct Try.prog 71 [.int .i64 n] h fun v h'=>v=.bool (decide (0≤n) && decide (n≤2880))∧h'=h:=by
  refine zdn (fun A W=>by simp) Try.func71 rfl rfl (by simp) fun W0=>?_
  repeat' first|refine zie rfl ?_|refine zc4 rfl ?_|refine zc7 ?_|refine zc8 ?_|refine zc5 ?_|refine zc6 ?_|refine zhF (fun _=>zrd _ _ _ _) ?_|(simp (maxSteps:=2000000) only [go_sem,Nat.reduceAdd,Nat.reduceMul,Nat.reduceBEq,Nat.reduceLeDiff,Nat.reduceLT,Nat.reduceEqDiff];try rfl)|refine zc3 ?_|(refine And.intro ?_ ?_;focus (intros;simp_all only [Bool.or_eq_false_iff,Bool.or_eq_true,Bool.and_eq_true,and_self,true_and,and_true];done))
theorem zrf (n m:Int) (h:Hp):Ct Try.prog 87 [.int .i64 n,.int .i64 m] h fun v h'=>v=.bool (decide (0≤n) && decide (n < m))∧h'=h:=by
  refine zdn (fun A W=>by simp) Try.func87 rfl rfl (by simp) fun W0=>?_
  repeat' first|refine zie rfl ?_|refine zc4 rfl ?_|refine zc7 ?_|refine zc8 ?_|refine zc5 ?_|refine zc6 ?_|(simp (maxSteps:=2000000) only [go_sem,Nat.reduceAdd,Nat.reduceMul,Nat.reduceBEq,Nat.reduceLeDiff,Nat.reduceLT,Nat.reduceEqDiff];try rfl)|refine zc3 ?_|(refine And.intro ?_ ?_;focus (intros;simp_all only [Bool.or_eq_false_iff,Bool.or_eq_true,Bool.and_eq_true,and_self,true_and,and_true];done))
end Go.Proofs.Ytjiggadgmmjnhaa
namespace Go.Proofs.Ytjiggadgmmjnhaa
open Go Go.SL
set_option maxHeartbeats 1000000
end Go.Proofs.Ytjiggadgmmjnhaa
namespace Go.Proofs.Ytjiggadgmmjnhaa
open Go Go.SL
set_option maxHeartbeats 1000000
end Go.Proofs.Ytjiggadgmmjnhaa
namespace Go.Proofs.Ytjiggadgmmjnhaa
open Go Go.SL
set_option maxHeartbeats 1000000
def In (n lo hi:Int):Bool:=decide (lo≤n) && decide (n≤hi)
end Go.Proofs.Ytjiggadgmmjnhaa
namespace Go.Proofs.Ytjiggadgmmjnhaa
open Go Go.SL
set_option maxHeartbeats 1000000
theorem zrn {α:Type} {p:α→Bool} {l:List α} {k:Nat} (hk:k < l.length) (h:p l[k]=false):l.all p=false:=List.all_eq_false.2 ⟨l[k],List.getElem_mem hk,by rw [h];exact Bool.false_ne_true⟩
theorem zro {α:Type} {p:α→Bool} {l:List α} {k:Nat} (hk:k < l.length) (hp:(l.take k).all p=true) (h:p l[k]=true):(l.take (k+1)).all p=true:=by
  rw [List.take_succ_eq_append_getElem hk,List.all_append,hp];simp [h]
end Go.Proofs.Ytjiggadgmmjnhaa
namespace Go.Proofs.Ytjiggadgmmjnhaa
open Go Go.SL
set_option maxHeartbeats 1000000
end Go.Proofs.Ytjiggadgmmjnhaa
namespace Go.Proofs.Ytjiggadgmmjnhaa
open Go Go.SL
set_option maxHeartbeats 1000000
def zrP (l:List Int):Bool:=decide (l.length=64) && l.all (fun n=>In n 0 240)
theorem zrX {l:List Int} {k:Nat} (hk:k < l.length) (h:In l[k] 0 240=false):zrP l=false:=by rw [zrP,zrn (p:=fun n=>In n 0 240) hk h,Bool.and_false]
theorem zrY {l:List Int} {k:Nat} (h64:l.length=64) (hk:l.length≤k) (hp:(l.take k).all (fun n=>In n 0 240)=true):zrP l=true:=by
  rw [List.take_of_length_le hk] at hp
  rw [zrP,hp,decide_eq_true h64];rfl
theorem zrZ (n:Int) (a:Sl Int) (h:Hp) (ha:a.Ok h):Ct Try.prog 39 [.int .i64 n,a.val] h fun v h'=>v=.bool (In n 0 2880 && zrP a.l)∧h'=h:=by
  have hl:=ha.max
  refine zdn (fun A W=>by simp) Try.func39 rfl rfl (by simp) fun W0=>?_
  repeat' first|refine zie rfl ?_|refine zc4 rfl ?_|refine zc7 ?_|refine zc8 ?_|refine zc5 ?_|refine zc6 ?_|refine zhF (fun _=>zrc _ _ _ _) ?_|(simp (maxSteps:=2000000) only [go_sem,Nat.reduceAdd,Nat.reduceMul,Nat.reduceBEq,Nat.reduceLeDiff,Nat.reduceLT,Nat.reduceEqDiff];try rfl)|refine zc3 ?_|(refine And.intro ?_ ?_;focus (intros;simp_all only [Bool.or_eq_false_iff,Bool.or_eq_true,Bool.and_eq_true,and_self,true_and,and_true];done))
  refine zc9 rfl (fun hc=>?_) (fun hc=>?_)
  · repeat' first|refine zie rfl ?_|refine zc4 rfl ?_|refine zc7 ?_|refine zc8 ?_|refine zc5 ?_|refine zc6 ?_|(simp (maxSteps:=2000000) only [go_sem,Nat.reduceAdd,Nat.reduceMul,Nat.reduceBEq,Nat.reduceLeDiff,Nat.reduceLT,Nat.reduceEqDiff];try rfl)|refine zc3 ?_|(refine And.intro ?_ ?_;focus (intros;simp_all only [Bool.or_eq_false_iff,Bool.or_eq_true,Bool.and_eq_true,and_self,true_and,and_true];done))
    congr 1
    rcases (Bool.or_eq_true _ _).mp hc with h1|h1
    · rw [Bool.not_eq_true'] at h1;rw [In,h1];rfl
    · rw [zrP,decide_eq_false (by have:=zjD h1;omega),Bool.false_and,Bool.and_false]
  obtain ⟨h1,h2⟩:=Bool.or_eq_false_iff.1 hc
  rw [Bool.not_eq_false'] at h1
  have h64:a.l.length=64:=by have:=zjE h2;omega
  rw [In,h1,Bool.true_and]
  repeat' first|refine zie rfl ?_|refine zc4 rfl ?_|refine zc7 ?_|refine zc8 ?_|refine zc5 ?_|refine zc6 ?_|(simp (maxSteps:=2000000) only [go_sem,Nat.reduceAdd,Nat.reduceMul,Nat.reduceBEq,Nat.reduceLeDiff,Nat.reduceLT,Nat.reduceEqDiff];try rfl)|refine zc3 ?_|(refine And.intro ?_ ?_;focus (intros;simp_all only [Bool.or_eq_false_iff,Bool.or_eq_true,Bool.and_eq_true,and_self,true_and,and_true];done))
  refine zde (ι:=Nat) (fun k=>⟨[(15,true,.c (.v a.val)),(16,true,.c (.v (.int .i64 a.l.length))),(17,true,.c (.v (.int .i64 k)))],[],h,0⟩) (fun k=>k≤a.l.length∧(a.l.take k).all (fun n=>In n 0 240)=true) (fun k=>a.l.length - k) 0 ⟨Nat.zero_le _,rfl⟩ ?_ ?_
  · simp (maxSteps:=2000000) only [go_sem,Nat.reduceAdd,Nat.reduceMul,Nat.reduceBEq,Nat.reduceLeDiff,Nat.reduceLT,Nat.reduceEqDiff]
    first|exact rfl|exact ⟨rfl,rfl⟩|exact ⟨rfl,rfl,rfl⟩|exact ⟨rfl,rfl,rfl,rfl⟩|exact ⟨rfl,rfl,rfl,rfl,rfl⟩
  intro k hk
  repeat' first|refine zie rfl ?_|refine zc4 rfl ?_|refine zc7 ?_|refine zc8 ?_|refine zc5 ?_|refine zc6 ?_|(simp (maxSteps:=2000000) only [go_sem,Nat.reduceAdd,Nat.reduceMul,Nat.reduceBEq,Nat.reduceLeDiff,Nat.reduceLT,Nat.reduceEqDiff];try rfl)|refine zc3 ?_|(refine And.intro ?_ ?_;focus (intros;simp_all only [Bool.or_eq_false_iff,Bool.or_eq_true,Bool.and_eq_true,and_self,true_and,and_true];done))
  refine zc9 rfl (fun hd=>?_) (fun hd=>?_)
  · have hlt:=zjH hd
    repeat' first|refine zie rfl ?_|refine zc4 rfl ?_|refine zc7 ?_|refine zc8 ?_|refine zc5 ?_|refine zc6 ?_|refine zhF (fun _=>zrc _ _ _ _) ?_|(simp (maxSteps:=2000000) only [go_sem,Nat.reduceAdd,Nat.reduceMul,Nat.reduceBEq,Nat.reduceLeDiff,Nat.reduceLT,Nat.reduceEqDiff,zkR ha hlt,ha.some hlt,hlt,Int.toNat_natCast];try rfl)|refine zc3 ?_|(refine And.intro ?_ ?_;focus (intros;simp_all only [Bool.or_eq_false_iff,Bool.or_eq_true,Bool.and_eq_true,and_self,true_and,and_true];done))
    refine zc9 rfl (fun hq=>?_) (fun hq=>?_)
    · rw [Bool.not_eq_true'] at hq
      repeat' first|refine zie rfl ?_|refine zc4 rfl ?_|refine zc7 ?_|refine zc8 ?_|refine zc5 ?_|refine zc6 ?_|(simp (maxSteps:=2000000) only [go_sem,Nat.reduceAdd,Nat.reduceMul,Nat.reduceBEq,Nat.reduceLeDiff,Nat.reduceLT,Nat.reduceEqDiff];try rfl)|refine zc3 ?_|(refine And.intro ?_ ?_;focus (intros;simp_all only [Bool.or_eq_false_iff,Bool.or_eq_true,Bool.and_eq_true,and_self,true_and,and_true];done))
      rw [zrX hlt hq]
    · rw [Bool.not_eq_false'] at hq
      repeat' first|refine zie rfl ?_|refine zc4 rfl ?_|refine zc7 ?_|refine zc8 ?_|refine zc5 ?_|refine zc6 ?_|(simp (maxSteps:=2000000) only [go_sem,Nat.reduceAdd,Nat.reduceMul,Nat.reduceBEq,Nat.reduceLeDiff,Nat.reduceLT,Nat.reduceEqDiff];try rfl)|refine zc3 ?_|(refine And.intro ?_ ?_;focus (intros;simp_all only [Bool.or_eq_false_iff,Bool.or_eq_true,Bool.and_eq_true,and_self,true_and,and_true];done))
      exact ⟨k+1,⟨hlt,zro hlt hk.2 hq⟩,by omega,zjB (zjA hlt (by omega))⟩
  · have hge:=zjI hd
    repeat' first|refine zie rfl ?_|refine zc4 rfl ?_|refine zc7 ?_|refine zc8 ?_|refine zc5 ?_|refine zc6 ?_|(simp (maxSteps:=2000000) only [go_sem,Nat.reduceAdd,Nat.reduceMul,Nat.reduceBEq,Nat.reduceLeDiff,Nat.reduceLT,Nat.reduceEqDiff];try rfl)|refine zc3 ?_|(refine And.intro ?_ ?_;focus (intros;simp_all only [Bool.or_eq_false_iff,Bool.or_eq_true,Bool.and_eq_true,and_self,true_and,and_true];done))
    rw [zrY h64 hge hk.2]
theorem zr0 (a:Sl Int) (h:Hp) (ha:a.Ok h):Ct Try.prog 72 [a.val] h fun v h'=>v=.bool (zrP a.l)∧h'=h:=by
  have hl:=ha.max
  refine zdn (fun A W=>by simp) Try.func72 rfl rfl (by simp) fun W0=>?_
  repeat' first|refine zie rfl ?_|refine zc4 rfl ?_|refine zc7 ?_|refine zc8 ?_|refine zc5 ?_|refine zc6 ?_|(simp (maxSteps:=2000000) only [go_sem,Nat.reduceAdd,Nat.reduceMul,Nat.reduceBEq,Nat.reduceLeDiff,Nat.reduceLT,Nat.reduceEqDiff];try rfl)|refine zc3 ?_|(refine And.intro ?_ ?_;focus (intros;simp_all only [Bool.or_eq_false_iff,Bool.or_eq_true,Bool.and_eq_true,and_self,true_and,and_true];done))
  refine zc9 rfl (fun hc=>?_) (fun hc=>?_)
  · repeat' first|refine zie rfl ?_|refine zc4 rfl ?_|refine zc7 ?_|refine zc8 ?_|refine zc5 ?_|refine zc6 ?_|(simp (maxSteps:=2000000) only [go_sem,Nat.reduceAdd,Nat.reduceMul,Nat.reduceBEq,Nat.reduceLeDiff,Nat.reduceLT,Nat.reduceEqDiff];try rfl)|refine zc3 ?_|(refine And.intro ?_ ?_;focus (intros;simp_all only [Bool.or_eq_false_iff,Bool.or_eq_true,Bool.and_eq_true,and_self,true_and,and_true];done))
    rw [zrP,decide_eq_false (by have:=zjD hc;omega)];rfl
  have h64:a.l.length=64:=by have:=zjE hc;omega
  repeat' first|refine zie rfl ?_|refine zc4 rfl ?_|refine zc7 ?_|refine zc8 ?_|refine zc5 ?_|refine zc6 ?_|(simp (maxSteps:=2000000) only [go_sem,Nat.reduceAdd,Nat.reduceMul,Nat.reduceBEq,Nat.reduceLeDiff,Nat.reduceLT,Nat.reduceEqDiff];try rfl)|refine zc3 ?_|(refine And.intro ?_ ?_;focus (intros;simp_all only [Bool.or_eq_false_iff,Bool.or_eq_true,Bool.and_eq_true,and_self,true_and,and_true];done))
  refine zde (ι:=Nat) (fun k=>⟨[(8,true,.c (.v a.val)),(9,true,.c (.v (.int .i64 a.l.length))),(10,true,.c (.v (.int .i64 k)))],[],h,0⟩) (fun k=>k≤a.l.length∧(a.l.take k).all (fun n=>In n 0 240)=true) (fun k=>a.l.length - k) 0 ⟨Nat.zero_le _,rfl⟩ ?_ ?_
  · simp (maxSteps:=2000000) only [go_sem,Nat.reduceAdd,Nat.reduceMul,Nat.reduceBEq,Nat.reduceLeDiff,Nat.reduceLT,Nat.reduceEqDiff]
    first|exact rfl|exact ⟨rfl,rfl⟩|exact ⟨rfl,rfl,rfl⟩|exact ⟨rfl,rfl,rfl,rfl⟩|exact ⟨rfl,rfl,rfl,rfl,rfl⟩
  intro k hk
  repeat' first|refine zie rfl ?_|refine zc4 rfl ?_|refine zc7 ?_|refine zc8 ?_|refine zc5 ?_|refine zc6 ?_|(simp (maxSteps:=2000000) only [go_sem,Nat.reduceAdd,Nat.reduceMul,Nat.reduceBEq,Nat.reduceLeDiff,Nat.reduceLT,Nat.reduceEqDiff];try rfl)|refine zc3 ?_|(refine And.intro ?_ ?_;focus (intros;simp_all only [Bool.or_eq_false_iff,Bool.or_eq_true,Bool.and_eq_true,and_self,true_and,and_true];done))
  refine zc9 rfl (fun hd=>?_) (fun hd=>?_)
  · have hlt:=zjH hd
    repeat' first|refine zie rfl ?_|refine zc4 rfl ?_|refine zc7 ?_|refine zc8 ?_|refine zc5 ?_|refine zc6 ?_|refine zhF (fun _=>zrd _ _ _ _) ?_|(simp (maxSteps:=2000000) only [go_sem,Nat.reduceAdd,Nat.reduceMul,Nat.reduceBEq,Nat.reduceLeDiff,Nat.reduceLT,Nat.reduceEqDiff,zkR ha hlt,ha.some hlt,hlt,Int.toNat_natCast];try rfl)|refine zc3 ?_|(refine And.intro ?_ ?_;focus (intros;simp_all only [Bool.or_eq_false_iff,Bool.or_eq_true,Bool.and_eq_true,and_self,true_and,and_true];done))
    refine zc9 rfl (fun hq=>?_) (fun hq=>?_)
    · rw [Bool.not_eq_true'] at hq
      repeat' first|refine zie rfl ?_|refine zc4 rfl ?_|refine zc7 ?_|refine zc8 ?_|refine zc5 ?_|refine zc6 ?_|(simp (maxSteps:=2000000) only [go_sem,Nat.reduceAdd,Nat.reduceMul,Nat.reduceBEq,Nat.reduceLeDiff,Nat.reduceLT,Nat.reduceEqDiff];try rfl)|refine zc3 ?_|(refine And.intro ?_ ?_;focus (intros;simp_all only [Bool.or_eq_false_iff,Bool.or_eq_true,Bool.and_eq_true,and_self,true_and,and_true];done))
      rw [zrX hlt hq]
    · rw [Bool.not_eq_false'] at hq
      repeat' first|refine zie rfl ?_|refine zc4 rfl ?_|refine zc7 ?_|refine zc8 ?_|refine zc5 ?_|refine zc6 ?_|(simp (maxSteps:=2000000) only [go_sem,Nat.reduceAdd,Nat.reduceMul,Nat.reduceBEq,Nat.reduceLeDiff,Nat.reduceLT,Nat.reduceEqDiff];try rfl)|refine zc3 ?_|(refine And.intro ?_ ?_;focus (intros;simp_all only [Bool.or_eq_false_iff,Bool.or_eq_true,Bool.and_eq_true,and_self,true_and,and_true];done))
      exact ⟨k+1,⟨hlt,zro hlt hk.2 hq⟩,by omega,zjB (zjA hlt (by omega))⟩
  · have hge:=zjI hd
    repeat' first|refine zie rfl ?_|refine zc4 rfl ?_|refine zc7 ?_|refine zc8 ?_|refine zc5 ?_|refine zc6 ?_|(simp (maxSteps:=2000000) only [go_sem,Nat.reduceAdd,Nat.reduceMul,Nat.reduceBEq,Nat.reduceLeDiff,Nat.reduceLT,Nat.reduceEqDiff];try rfl)|refine zc3 ?_|(refine And.intro ?_ ?_;focus (intros;simp_all only [Bool.or_eq_false_iff,Bool.or_eq_true,Bool.and_eq_true,and_self,true_and,and_true];done))
    rw [zrY h64 hge hk.2]
end Go.Proofs.Ytjiggadgmmjnhaa
namespace Go.Proofs.Ytjiggadgmmjnhaa
open Go Go.SL
set_option maxHeartbeats 1000000
end Go.Proofs.Ytjiggadgmmjnhaa
namespace Go.Proofs.Ytjiggadgmmjnhaa
open Go Go.SL
set_option maxHeartbeats 1000000
end Go.Proofs.Ytjiggadgmmjnhaa
namespace Go.Proofs.Ytjiggadgmmjnhaa
open Go Go.SL
set_option maxHeartbeats 1000000
end Go.Proofs.Ytjiggadgmmjnhaa
namespace Go.Proofs.Ytjiggadgmmjnhaa
open Go Go.SL
set_option maxHeartbeats 1000000
@[go_sem] theorem zsj (t1 fs d t p af gd tk):ziY (⟨d,.build t1 fs,t,p,af,gd⟩:Oper) tk=⟨d,.build t1 fs,t,p,af,gd⟩ :: tk:=rfl
end Go.Proofs.Ytjiggadgmmjnhaa
namespace Go.Proofs.Ytjiggadgmmjnhaa
open Go Go.SL
set_option maxHeartbeats 1000000
end Go.Proofs.Ytjiggadgmmjnhaa
