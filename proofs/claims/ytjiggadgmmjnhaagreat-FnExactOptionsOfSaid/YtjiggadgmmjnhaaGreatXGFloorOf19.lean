/- What functions of the given program compute, each as a contract over what its arguments read as. No condition beside those that each theorem states. -/
import Derived.Test.YtjiggadgmmjnhaaGreatXGFloorOf18
set_option linter.unusedVariables false
set_option linter.unusedSimpArgs false
open Nat renaming reduceAdd → yqa, reduceMul → yqb, reduceBEq → yqc, reduceLeDiff → yqd, reduceLT → yqe, reduceEqDiff → yqf
open Bool renaming or_eq_false_iff → yqg, or_eq_true → yqh, and_eq_true → yqi
open Int renaming toNat_natCast → yqj, natCast_nonneg → yqk
namespace Go.Proofs.YtjiggadgmmjnhaaGreat
open Go Go.SL
set_option maxHeartbeats 1000000
theorem zw3 (s:Sl Int) (k:Int) (h:Hp) (hs:s.Ok h) (ho:Foot.own h s) (hn:(Foot.foot s).Nodup) (hk:0≤k∧k+(Mk.cnt s:Nat)≤4611686018427387904):Cw Tryz.prog 24 [s.val,.int .i64 k] h (fun b=>b ∈ Foot.foot s) fun v h'=>v=.int .i64 (k+(Mk.cnt s:Nat))∧Enc.ok h' (Mk.put s k)∧Foot.own h' (Mk.put s k):=by
 have hmax:=hs.max
 have hcs:Mk.cnt s=cntL s.l:=rfl
 by_cases hl:s.l=[]
 ·refine zlD (fun A W=>by simp) Tryz.func24 rfl rfl (by simp)  (fun b hb=>Foot.dom ho b hb) fun W0 hW=>?_
  repeat' first|refine zie rfl ?_|refine zc4 rfl ?_|refine zc7 ?_|refine zc8 ?_|refine zc5 ?_|refine zc6 ?_|(simp (maxSteps:=2000000) only [go_sem,yqa,yqb,yqc,yqd,yqe,yqf];try rfl)|refine zc3 ?_|(refine And.intro ?_ ?_;focus (intros;simp_all only [yqg,yqh,yqi,and_self,true_and,and_true];done))
  refine zde (ι:=Unit) (fun _=>⟨[(0,true,.c (.v s.val)),(1,true,.c (.v (.int .i64 k))),(5,true,.c (.v (.int .i64 0)))],[],h,0⟩) (fun _=>True) (fun _=>0) () trivial ?_ ?_
  ·simp (maxSteps:=2000000) only [go_sem,yqa,yqb,yqc,yqd,yqe,yqf]
  rintro _ _
  repeat' first|refine zie rfl ?_|refine zc4 rfl ?_|refine zc7 ?_|refine zc8 ?_|refine zc5 ?_|refine zc6 ?_|(simp (maxSteps:=2000000) only [go_sem,yqa,yqb,yqc,yqd,yqe,yqf];try rfl)|refine zc3 ?_|(refine And.intro ?_ ?_;focus (intros;simp_all only [yqg,yqh,yqi,and_self,true_and,and_true];done))
  refine zc9 rfl (fun hc=>?_) (fun hc=>?_)
  ·exact absurd (of_decide_eq_true hc) (by rw [hl];simp)
  ·repeat' first|refine zie rfl ?_|refine zc4 rfl ?_|refine zc7 ?_|refine zc8 ?_|refine zc5 ?_|refine zc6 ?_|(simp (maxSteps:=2000000) only [go_sem,yqa,yqb,yqc,yqd,yqe,yqf];try rfl)|refine zc3 ?_|(refine And.intro ?_ ?_;focus (intros;simp_all only [yqg,yqh,yqi,and_self,true_and,and_true];done))
   refine ⟨by rw [hcs,hl];simp [cntL],⟨(by simp [Mk.put,hl,mkL]),fun hne=>(hne (by simp [Mk.put,hl,mkL])).elim,fun i x hx=>by simp [Mk.put,hl,mkL] at hx,fun x hx=>by simp [Mk.put,hl,mkL] at hx,hs.2.2.2.2⟩,fun hne=>(hne (by simp [Mk.put,hl,mkL])).elim⟩
 obtain ⟨g,e,spare,ha,hb,hsp⟩:=zwO (by decide) hs ho hl
 have hsz:Enc.size Int=1:=rfl
 have hfoot:g ∈ Foot.foot s:=by
  rw [show Foot.foot s=_ from Sl.foot_ne hl]
  simp [Sl.blkOf,ha]
 refine zlD (fun A W=>by simp) Tryz.func24 rfl rfl (by simp)  (fun b hb=>Foot.dom ho b hb) fun W0 hW=>?_
 repeat' first|refine zie rfl ?_|refine zc4 rfl ?_|refine zc7 ?_|refine zc8 ?_|refine zc5 ?_|refine zc6 ?_|(simp (maxSteps:=2000000) only [go_sem,yqa,yqb,yqc,yqd,yqe,yqf];try rfl)|refine zc3 ?_|(refine And.intro ?_ ?_;focus (intros;simp_all only [yqg,yqh,yqi,and_self,true_and,and_true];done))
 refine zde (ι:=Nat × Hp) (fun i=>⟨[(0,true,.c (.v s.val)),(1,true,.c (.v (.int .i64 (k+(cntL (s.l.take i.1):Nat))))),(5,true,.c (.v (.int .i64 i.1)))],[],i.2,0⟩) (fun i=>i.1≤s.l.length∧i.2 g=some (.cells (rowL (mkd s.l k i.1) spare).toArray e (0,0))∧∀ x ∈ mkd s.l k i.1,Enc.ok i.2 x) (fun i=>s.l.length - i.1) (0,h) ⟨Nat.zero_le _,by rw [zwE];exact hb,by rw [zwE];exact hs.2.2.2.1⟩ ?_ ?_
 ·simp (maxSteps:=2000000) only [go_sem,yqa,yqb,yqc,yqd,yqe,yqf]
  exact ⟨zjB (by rw [zwy];omega),rfl⟩
 rintro ⟨i,hk'⟩ ⟨hi,hb0,hok⟩
 repeat' first|refine zie rfl ?_|refine zc4 rfl ?_|refine zc7 ?_|refine zc8 ?_|refine zc5 ?_|refine zc6 ?_|(simp (maxSteps:=2000000) only [go_sem,yqa,yqb,yqc,yqd,yqe,yqf];try rfl)|refine zc3 ?_|(refine And.intro ?_ ?_;focus (intros;simp_all only [yqg,yqh,yqi,and_self,true_and,and_true];done))
 refine zc9 rfl (fun hd=>?_) (fun hd=>?_)
 ·have hlt:=zjH hd
  have hcnt:=zwC hlt
  have hcle:=zwD (l:=s.l) (i:=i+1)
  have hc:Mk.cnt s.l[i]=1:=rfl
  generalize hκ:k+((cntL (s.l.take i):Nat):Int)=κ
  have hκ0:0≤κ∧κ+1≤4611686018427387904:=by omega
  have hlen:i * 1+1≤(rowL (mkd s.l k i) spare).length:=by rw [zwI,zwG,hsz];omega
  generalize hX:rowL (mkd s.l k i) spare=X0 at hb0 hlen
  refine zc5 ?_
  simp (maxSteps:=2000000) only [go_sem,yqa,yqb,yqc,yqd,yqe,yqf]
  refine zc3 ?_
  refine zc8 ?_
  refine zwx [0,0,0,0,1] rfl ?_
  simp (maxSteps:=2000000) only [go_sem,yqa,yqb,yqc,yqd,yqe,yqf,ha,hlt,Option.map_some,za4,Option.isSome_some,yqj,Nat.zero_add,Nat.add_zero,List.toList_toArray,Hp.ins_ins]
  refine zlV (by simp only [go_sem]) (by simp only [go_sem]) rfl rfl hb0 (.inr (hW _ hfoot)) (by simp only [List.size_toArray];omega) ?_
  simp (maxSteps:=2000000) only [go_sem,yqa,yqb,yqc,yqd,yqe,yqf,ha,hlt,Option.map_some,za4,Option.isSome_some,yqj,Nat.zero_add,Nat.add_zero,List.toList_toArray,Hp.ins_ins]
  refine zc4 rfl ?_
  simp (maxSteps:=2000000) only [go_sem,yqa,yqb,yqc,yqd,yqe,yqf]
  rw [zjz (by omega)]
  repeat' first|refine zie rfl ?_|refine zc4 rfl ?_|refine zc7 ?_|refine zc8 ?_|refine zc5 ?_|refine zc6 ?_|(simp (maxSteps:=2000000) only [go_sem,yqa,yqb,yqc,yqd,yqe,yqf];try rfl)|refine zc3 ?_|(refine And.intro ?_ ?_;focus (intros;simp_all only [yqg,yqh,yqi,and_self,true_and,and_true];done))
  refine ⟨(i+1,hk'.ins g (.cells (spl (i * 1) [.int .i64 (κ)] X0).toArray e (0,0))),⟨hlt,?_,fun x hx=>?_⟩,by simp only;omega,?_⟩
  ·rw [← zwH hlt,← zwJ (by rw [zwG];exact hlt),hX]
   simp only
   rw [Hp.ins_same]
   congr 4
   simp only [show k+((cntL (List.take i s.l):Nat):Int)=κ from hκ,Mk.put,Enc.enc]
   try simp only [mkB,Int.add_assoc,Int.reduceAdd]
   try rfl
  ·simp only at hx ⊢
   rw [← zwH hlt] at hx
   rcases List.mem_or_eq_of_mem_set hx with hx|rfl
   ·exact hok x hx
   ·exact (show I64 (Mk.put (α:=Int) _ _) from by show I64 (_+_);unfold I64;omega)
  ·simp (maxSteps:=2000000) only [go_sem,yqa,yqb,yqc,yqd,yqe,yqf]
   exact ⟨zjB (by rw [hcnt,hc];omega),zjB (zjA hlt (by omega))⟩
 ·have hge:=zjI hd
  have hie:i=s.l.length:=Nat.le_antisymm hi hge
  repeat' first|refine zie rfl ?_|refine zc4 rfl ?_|refine zc7 ?_|refine zc8 ?_|refine zc5 ?_|refine zc6 ?_|(simp (maxSteps:=2000000) only [go_sem,yqa,yqb,yqc,yqd,yqe,yqf];try rfl)|refine zc3 ?_|(refine And.intro ?_ ?_;focus (intros;simp_all only [yqg,yqh,yqi,and_self,true_and,and_true];done))
  have hp:mkd s.l k i=(Mk.put s k).l:=zwF hge
  rw [hp] at hb0 hok
  have hll:(Mk.put s k).l.length=s.l.length:=zlZ
  have hsl:=zwN (α:=Int) (h:=hk') (g:=g) (cap:=s.cap) (by decide) hb0 (by rw [hll];exact hs.1) hs.2.2.2.2 hok
  have hsv:(Sl.mk (some ⟨g,0,none⟩) s.cap (Mk.put s k).l:Sl Int)=Mk.put s k:=by rw [← ha];rfl
  rw [hsv] at hsl
  refine ⟨by rw [hie,List.take_length,hcs],hsl,fun _=>⟨⟨g,_,e,ha,hb0,?_⟩,fun x hx=>trivial⟩⟩
  rw [List.size_toArray,zwI,hll,hsp]
  rfl
theorem zNm (c:DCrew) (k:Int) (h:Hp) (hc:Enc.ok h c) (ho:Foot.own h c) (hn:(Foot.foot c).Nodup) (hk:0≤k∧k+(zyh c:Nat)≤4611686018427387904):Cw Tryz.prog 80 [c.v,.int .i64 k] h (fun b=>b ∈ Foot.foot c) fun v h'=>v=.int .i64 (k+(zyh c:Nat))∧Enc.ok h' (zyg c k)∧Foot.own h' (zyg c k):=by
 have hdom:=fun b hb=>Foot.dom (x:=c) ho b hb
 have hcv:zyh c=Mk.cnt c.moves:=rfl
 have hft:Foot.foot c=Foot.foot c.moves:=rfl
 rw [hft] at hn
 rw [zM9] at ho
 have hmem:∀ b,b ∈ Foot.foot c ↔ b ∈ Foot.foot c.moves:=fun b=>by rw [hft]
 have ok0_0:Enc.ok h c.moves:=hc.2.2.2
 have ow0_0:Foot.own h c.moves:=ho
 have nd0:(Foot.foot c.moves).Nodup:=hn
 refine zlD (fun A W=>by simp) Tryz.func80 rfl rfl (by simp)  hdom fun W0 hW=>?_
 refine zie rfl ?_
 simp (maxSteps:=2000000) only [go_sem,yqa,yqb,yqc,yqd,yqe,yqf]
 refine zwx [0,0,0,1] rfl ?_
 simp (maxSteps:=2000000) only [go_sem,yqa,yqb,yqc,yqd,yqe,yqf]
 refine zlE (x:=⟨Tryz.prog,W0,h,_⟩) (zw3 c.moves (k) _ ok0_0 ow0_0 nd0 (by omega)) rfl (fun b hb=>⟨Foot.dom (x:=c.moves) ow0_0 b hb,.inr (hW b ((hmem b).2 hb))⟩) ?_
 rintro v h0 kp0 ⟨rfl,pk0,pw0⟩
 simp (maxSteps:=2000000) only [go_sem,yqa,yqb,yqc,yqd,yqe,yqf]
 repeat' first|refine zie rfl ?_|refine zc4 rfl ?_|refine zc7 ?_|refine zc8 ?_|refine zc5 ?_|refine zc6 ?_|(simp (maxSteps:=2000000) only [go_sem,yqa,yqb,yqc,yqd,yqe,yqf];try rfl)|refine zc3 ?_
 exact ⟨by rw [hcv],⟨hc.1,hc.2.1,hc.2.2.1,pk0⟩,pw0⟩
theorem zNn (s:Sl DPart) (k:Int) (h:Hp) (hs:s.Ok h) (ho:Foot.own h s) (hn:(Foot.foot s).Nodup) (hk:0≤k∧k+(Mk.cnt s:Nat)≤4611686018427387904):Cw Tryz.prog 205 [s.val,.int .i64 k] h (fun b=>b ∈ Foot.foot s) fun v h'=>v=.int .i64 (k+(Mk.cnt s:Nat))∧Enc.ok h' (Mk.put s k)∧Foot.own h' (Mk.put s k):=by
 have hmax:=hs.max
 have hcs:Mk.cnt s=cntL s.l:=rfl
 by_cases hl:s.l=[]
 ·refine zlD (fun A W=>by simp) Tryz.func205 rfl rfl (by simp)  (fun b hb=>Foot.dom ho b hb) fun W0 hW=>?_
  repeat' first|refine zie rfl ?_|refine zc4 rfl ?_|refine zc7 ?_|refine zc8 ?_|refine zc5 ?_|refine zc6 ?_|(simp (maxSteps:=2000000) only [go_sem,yqa,yqb,yqc,yqd,yqe,yqf];try rfl)|refine zc3 ?_|(refine And.intro ?_ ?_;focus (intros;simp_all only [yqg,yqh,yqi,and_self,true_and,and_true];done))
  refine zde (ι:=Unit) (fun _=>⟨[(0,true,.c (.v s.val)),(1,true,.c (.v (.int .i64 k))),(5,true,.c (.v (.int .i64 0)))],[],h,0⟩) (fun _=>True) (fun _=>0) () trivial ?_ ?_
  ·simp (maxSteps:=2000000) only [go_sem,yqa,yqb,yqc,yqd,yqe,yqf]
  rintro _ _
  repeat' first|refine zie rfl ?_|refine zc4 rfl ?_|refine zc7 ?_|refine zc8 ?_|refine zc5 ?_|refine zc6 ?_|(simp (maxSteps:=2000000) only [go_sem,yqa,yqb,yqc,yqd,yqe,yqf];try rfl)|refine zc3 ?_|(refine And.intro ?_ ?_;focus (intros;simp_all only [yqg,yqh,yqi,and_self,true_and,and_true];done))
  refine zc9 rfl (fun hc=>?_) (fun hc=>?_)
  ·exact absurd (of_decide_eq_true hc) (by rw [hl];simp)
  ·repeat' first|refine zie rfl ?_|refine zc4 rfl ?_|refine zc7 ?_|refine zc8 ?_|refine zc5 ?_|refine zc6 ?_|(simp (maxSteps:=2000000) only [go_sem,yqa,yqb,yqc,yqd,yqe,yqf];try rfl)|refine zc3 ?_|(refine And.intro ?_ ?_;focus (intros;simp_all only [yqg,yqh,yqi,and_self,true_and,and_true];done))
   refine ⟨by rw [hcs,hl];simp [cntL],⟨(by simp [Mk.put,hl,mkL]),fun hne=>(hne (by simp [Mk.put,hl,mkL])).elim,fun i x hx=>by simp [Mk.put,hl,mkL] at hx,fun x hx=>by simp [Mk.put,hl,mkL] at hx,hs.2.2.2.2⟩,fun hne=>(hne (by simp [Mk.put,hl,mkL])).elim⟩
 obtain ⟨g,e,spare,ha,hb,hsp⟩:=zwO (by decide) hs ho hl
 have hsz:Enc.size DPart=3:=rfl
 have hfoot:g ∈ Foot.foot s:=by
  rw [show Foot.foot s=_ from Sl.foot_ne hl]
  simp [Sl.blkOf,ha]
 refine zlD (fun A W=>by simp) Tryz.func205 rfl rfl (by simp)  (fun b hb=>Foot.dom ho b hb) fun W0 hW=>?_
 repeat' first|refine zie rfl ?_|refine zc4 rfl ?_|refine zc7 ?_|refine zc8 ?_|refine zc5 ?_|refine zc6 ?_|(simp (maxSteps:=2000000) only [go_sem,yqa,yqb,yqc,yqd,yqe,yqf];try rfl)|refine zc3 ?_|(refine And.intro ?_ ?_;focus (intros;simp_all only [yqg,yqh,yqi,and_self,true_and,and_true];done))
 refine zde (ι:=Nat × Hp) (fun i=>⟨[(0,true,.c (.v s.val)),(1,true,.c (.v (.int .i64 (k+(cntL (s.l.take i.1):Nat))))),(5,true,.c (.v (.int .i64 i.1)))],[],i.2,0⟩) (fun i=>i.1≤s.l.length∧i.2 g=some (.cells (rowL (mkd s.l k i.1) spare).toArray e (0,0))∧∀ x ∈ mkd s.l k i.1,Enc.ok i.2 x) (fun i=>s.l.length - i.1) (0,h) ⟨Nat.zero_le _,by rw [zwE];exact hb,by rw [zwE];exact hs.2.2.2.1⟩ ?_ ?_
 ·simp (maxSteps:=2000000) only [go_sem,yqa,yqb,yqc,yqd,yqe,yqf]
  exact ⟨zjB (by rw [zwy];omega),rfl⟩
 rintro ⟨i,hk'⟩ ⟨hi,hb0,hok⟩
 repeat' first|refine zie rfl ?_|refine zc4 rfl ?_|refine zc7 ?_|refine zc8 ?_|refine zc5 ?_|refine zc6 ?_|(simp (maxSteps:=2000000) only [go_sem,yqa,yqb,yqc,yqd,yqe,yqf];try rfl)|refine zc3 ?_|(refine And.intro ?_ ?_;focus (intros;simp_all only [yqg,yqh,yqi,and_self,true_and,and_true];done))
 refine zc9 rfl (fun hd=>?_) (fun hd=>?_)
 ·have hlt:=zjH hd
  have hcnt:=zwC hlt
  have hcle:=zwD (l:=s.l) (i:=i+1)
  have hc:Mk.cnt s.l[i]=3:=rfl
  generalize hκ:k+((cntL (s.l.take i):Nat):Int)=κ
  have hκ0:0≤κ∧κ+3≤4611686018427387904:=by omega
  have hlen:i * 3+3≤(rowL (mkd s.l k i) spare).length:=by rw [zwI,zwG,hsz];omega
  generalize hX:rowL (mkd s.l k i) spare=X0 at hb0 hlen
  refine zc5 ?_
  simp (maxSteps:=2000000) only [go_sem,yqa,yqb,yqc,yqd,yqe,yqf]
  refine zc3 ?_
  refine zc8 ?_
  refine zwx [0,0,0,0,0,1] rfl ?_
  simp (maxSteps:=2000000) only [go_sem,yqa,yqb,yqc,yqd,yqe,yqf,ha,hlt,Option.map_some,za4,Option.isSome_some,yqj,Nat.zero_add,Nat.add_zero,List.toList_toArray,Hp.ins_ins]
  refine zlV (by simp only [go_sem]) (by simp only [go_sem]) rfl rfl hb0 (.inr (hW _ hfoot)) (by simp only [List.size_toArray];omega) ?_
  simp (maxSteps:=2000000) only [go_sem,yqa,yqb,yqc,yqd,yqe,yqf,ha,hlt,Option.map_some,za4,Option.isSome_some,yqj,Nat.zero_add,Nat.add_zero,List.toList_toArray,Hp.ins_ins]
  refine zie rfl ?_
  simp (maxSteps:=2000000) only [go_sem,yqa,yqb,yqc,yqd,yqe,yqf]
  rw [zjz (by omega)]
  have hsl1:(spl (i * 3) [.int .i64 (κ)] X0).length=X0.length:=zwM (by simp only [List.length_cons,List.length_nil];omega)
  refine zwx [0,0,0,0,0,1] rfl ?_
  simp (maxSteps:=2000000) only [go_sem,yqa,yqb,yqc,yqd,yqe,yqf,ha,hlt,Option.map_some,za4,Option.isSome_some,yqj,Nat.zero_add,Nat.add_zero,List.toList_toArray,Hp.ins_ins]
  refine zlV (by simp only [go_sem]) (by simp only [go_sem]) rfl rfl Hp.ins_same (.inr (hW _ hfoot)) (by simp only [List.size_toArray,hsl1];omega) ?_
  simp (maxSteps:=2000000) only [go_sem,yqa,yqb,yqc,yqd,yqe,yqf,ha,hlt,Option.map_some,za4,Option.isSome_some,yqj,Nat.zero_add,Nat.add_zero,List.toList_toArray,Hp.ins_ins]
  rw [show spl (i * 3+1) [.int .i64 (κ+1)] (spl (i * 3) [.int .i64 (κ)] X0)=spl (i * 3) [.int .i64 (κ),.int .i64 (κ+1)] X0 from zwL (m:=[.int .i64 (κ)]) (by simp only [List.length_cons,List.length_nil];omega)]
  refine zie rfl ?_
  simp (maxSteps:=2000000) only [go_sem,yqa,yqb,yqc,yqd,yqe,yqf]
  rw [zjz (by omega)]
  have hsl2:(spl (i * 3) [.int .i64 (κ),.int .i64 (κ+1)] X0).length=X0.length:=zwM (by simp only [List.length_cons,List.length_nil];omega)
  refine zwx [0,0,0,0,0,1] rfl ?_
  simp (maxSteps:=2000000) only [go_sem,yqa,yqb,yqc,yqd,yqe,yqf,ha,hlt,Option.map_some,za4,Option.isSome_some,yqj,Nat.zero_add,Nat.add_zero,List.toList_toArray,Hp.ins_ins]
  refine zlV (by simp only [go_sem]) (by simp only [go_sem]) rfl rfl Hp.ins_same (.inr (hW _ hfoot)) (by simp only [List.size_toArray,hsl2];omega) ?_
  simp (maxSteps:=2000000) only [go_sem,yqa,yqb,yqc,yqd,yqe,yqf,ha,hlt,Option.map_some,za4,Option.isSome_some,yqj,Nat.zero_add,Nat.add_zero,List.toList_toArray,Hp.ins_ins]
  rw [show spl (i * 3+2) [.int .i64 (κ+1+1)] (spl (i * 3) [.int .i64 (κ),.int .i64 (κ+1)] X0)=spl (i * 3) [.int .i64 (κ),.int .i64 (κ+1),.int .i64 (κ+1+1)] X0 from zwL (m:=[.int .i64 (κ),.int .i64 (κ+1)]) (by simp only [List.length_cons,List.length_nil];omega)]
  refine zc4 rfl ?_
  simp (maxSteps:=2000000) only [go_sem,yqa,yqb,yqc,yqd,yqe,yqf]
  rw [zjz (by omega)]
  repeat' first|refine zie rfl ?_|refine zc4 rfl ?_|refine zc7 ?_|refine zc8 ?_|refine zc5 ?_|refine zc6 ?_|(simp (maxSteps:=2000000) only [go_sem,yqa,yqb,yqc,yqd,yqe,yqf];try rfl)|refine zc3 ?_|(refine And.intro ?_ ?_;focus (intros;simp_all only [yqg,yqh,yqi,and_self,true_and,and_true];done))
  refine ⟨(i+1,hk'.ins g (.cells (spl (i * 3) [.int .i64 (κ),.int .i64 (κ+1),.int .i64 (κ+1+1)] X0).toArray e (0,0))),⟨hlt,?_,fun x hx=>?_⟩,by simp only;omega,?_⟩
  ·rw [← zwH hlt,← zwJ (by rw [zwG];exact hlt),hX]
   simp only
   rw [Hp.ins_same]
   congr 4
   simp only [show k+((cntL (List.take i s.l):Nat):Int)=κ from hκ,Mk.put,Enc.enc,DPart.cells]
   try simp only [mkB,Int.add_assoc,Int.reduceAdd]
   try rfl
  ·simp only at hx ⊢
   rw [← zwH hlt] at hx
   rcases List.mem_or_eq_of_mem_set hx with hx|rfl
   ·exact hok x hx
   ·exact (show I64 _∧I64 _∧I64 _ from by unfold I64;simp only [Mk.put];omega)
  ·simp (maxSteps:=2000000) only [go_sem,yqa,yqb,yqc,yqd,yqe,yqf]
   exact ⟨zjB (by rw [hcnt,hc];omega),zjB (zjA hlt (by omega))⟩
 ·have hge:=zjI hd
  have hie:i=s.l.length:=Nat.le_antisymm hi hge
  repeat' first|refine zie rfl ?_|refine zc4 rfl ?_|refine zc7 ?_|refine zc8 ?_|refine zc5 ?_|refine zc6 ?_|(simp (maxSteps:=2000000) only [go_sem,yqa,yqb,yqc,yqd,yqe,yqf];try rfl)|refine zc3 ?_|(refine And.intro ?_ ?_;focus (intros;simp_all only [yqg,yqh,yqi,and_self,true_and,and_true];done))
  have hp:mkd s.l k i=(Mk.put s k).l:=zwF hge
  rw [hp] at hb0 hok
  have hll:(Mk.put s k).l.length=s.l.length:=zlZ
  have hsl:=zwN (α:=DPart) (h:=hk') (g:=g) (cap:=s.cap) (by decide) hb0 (by rw [hll];exact hs.1) hs.2.2.2.2 hok
  have hsv:(Sl.mk (some ⟨g,0,none⟩) s.cap (Mk.put s k).l:Sl DPart)=Mk.put s k:=by rw [← ha];rfl
  rw [hsv] at hsl
  refine ⟨by rw [hie,List.take_length,hcs],hsl,fun _=>⟨⟨g,_,e,ha,hb0,?_⟩,fun x hx=>trivial⟩⟩
  rw [List.size_toArray,zwI,hll,hsp]
  rfl
theorem zMZ (s:Sl DPassage) (k:Int) (h:Hp) (hs:s.Ok h) (ho:Foot.own h s) (hn:(Foot.foot s).Nodup) (hk:0≤k∧k+(Mk.cnt s:Nat)≤4611686018427387904):Cw Tryz.prog 100 [s.val,.int .i64 k] h (fun b=>b ∈ Foot.foot s) fun v h'=>v=.int .i64 (k+(Mk.cnt s:Nat))∧Enc.ok h' (Mk.put s k)∧Foot.own h' (Mk.put s k):=by
 have hmax:=hs.max
 have hcs:Mk.cnt s=cntL s.l:=rfl
 by_cases hl:s.l=[]
 ·refine zlD (fun A W=>by simp) Tryz.func100 rfl rfl (by simp)  (fun b hb=>Foot.dom ho b hb) fun W0 hW=>?_
  repeat' first|refine zie rfl ?_|refine zc4 rfl ?_|refine zc7 ?_|refine zc8 ?_|refine zc5 ?_|refine zc6 ?_|(simp (maxSteps:=2000000) only [go_sem,yqa,yqb,yqc,yqd,yqe,yqf];try rfl)|refine zc3 ?_|(refine And.intro ?_ ?_;focus (intros;simp_all only [yqg,yqh,yqi,and_self,true_and,and_true];done))
  refine zde (ι:=Unit) (fun _=>⟨[(0,true,.c (.v s.val)),(1,true,.c (.v (.int .i64 k))),(5,true,.c (.v (.int .i64 0)))],[],h,0⟩) (fun _=>True) (fun _=>0) () trivial ?_ ?_
  ·simp (maxSteps:=2000000) only [go_sem,yqa,yqb,yqc,yqd,yqe,yqf]
  rintro _ _
  repeat' first|refine zie rfl ?_|refine zc4 rfl ?_|refine zc7 ?_|refine zc8 ?_|refine zc5 ?_|refine zc6 ?_|(simp (maxSteps:=2000000) only [go_sem,yqa,yqb,yqc,yqd,yqe,yqf];try rfl)|refine zc3 ?_|(refine And.intro ?_ ?_;focus (intros;simp_all only [yqg,yqh,yqi,and_self,true_and,and_true];done))
  refine zc9 rfl (fun hc=>?_) (fun hc=>?_)
  ·exact absurd (of_decide_eq_true hc) (by rw [hl];simp)
  ·repeat' first|refine zie rfl ?_|refine zc4 rfl ?_|refine zc7 ?_|refine zc8 ?_|refine zc5 ?_|refine zc6 ?_|(simp (maxSteps:=2000000) only [go_sem,yqa,yqb,yqc,yqd,yqe,yqf];try rfl)|refine zc3 ?_|(refine And.intro ?_ ?_;focus (intros;simp_all only [yqg,yqh,yqi,and_self,true_and,and_true];done))
   refine ⟨by rw [hcs,hl];simp [cntL],⟨(by simp [Mk.put,hl,mkL]),fun hne=>(hne (by simp [Mk.put,hl,mkL])).elim,fun i x hx=>by simp [Mk.put,hl,mkL] at hx,fun x hx=>by simp [Mk.put,hl,mkL] at hx,hs.2.2.2.2⟩,fun hne=>(hne (by simp [Mk.put,hl,mkL])).elim⟩
 obtain ⟨g,e,spare,ha,hb,hsp⟩:=zwO (by decide) hs ho hl
 have hsz:Enc.size DPassage=5:=rfl
 have hfoot:g ∈ Foot.foot s:=by
  rw [show Foot.foot s=_ from Sl.foot_ne hl]
  simp [Sl.blkOf,ha]
 refine zlD (fun A W=>by simp) Tryz.func100 rfl rfl (by simp)  (fun b hb=>Foot.dom ho b hb) fun W0 hW=>?_
 repeat' first|refine zie rfl ?_|refine zc4 rfl ?_|refine zc7 ?_|refine zc8 ?_|refine zc5 ?_|refine zc6 ?_|(simp (maxSteps:=2000000) only [go_sem,yqa,yqb,yqc,yqd,yqe,yqf];try rfl)|refine zc3 ?_|(refine And.intro ?_ ?_;focus (intros;simp_all only [yqg,yqh,yqi,and_self,true_and,and_true];done))
 refine zde (ι:=Nat × Hp) (fun i=>⟨[(0,true,.c (.v s.val)),(1,true,.c (.v (.int .i64 (k+(cntL (s.l.take i.1):Nat))))),(5,true,.c (.v (.int .i64 i.1)))],[],i.2,0⟩) (fun i=>i.1≤s.l.length∧i.2 g=some (.cells (rowL (mkd s.l k i.1) spare).toArray e (0,0))∧∀ x ∈ mkd s.l k i.1,Enc.ok i.2 x) (fun i=>s.l.length - i.1) (0,h) ⟨Nat.zero_le _,by rw [zwE];exact hb,by rw [zwE];exact hs.2.2.2.1⟩ ?_ ?_
 ·simp (maxSteps:=2000000) only [go_sem,yqa,yqb,yqc,yqd,yqe,yqf]
  exact ⟨zjB (by rw [zwy];omega),rfl⟩
 rintro ⟨i,hk'⟩ ⟨hi,hb0,hok⟩
 repeat' first|refine zie rfl ?_|refine zc4 rfl ?_|refine zc7 ?_|refine zc8 ?_|refine zc5 ?_|refine zc6 ?_|(simp (maxSteps:=2000000) only [go_sem,yqa,yqb,yqc,yqd,yqe,yqf];try rfl)|refine zc3 ?_|(refine And.intro ?_ ?_;focus (intros;simp_all only [yqg,yqh,yqi,and_self,true_and,and_true];done))
 refine zc9 rfl (fun hd=>?_) (fun hd=>?_)
 ·have hlt:=zjH hd
  have hcnt:=zwC hlt
  have hcle:=zwD (l:=s.l) (i:=i+1)
  have hc:Mk.cnt s.l[i]=5:=rfl
  generalize hκ:k+((cntL (s.l.take i):Nat):Int)=κ
  have hκ0:0≤κ∧κ+5≤4611686018427387904:=by omega
  have hlen:i * 5+5≤(rowL (mkd s.l k i) spare).length:=by rw [zwI,zwG,hsz];omega
  generalize hX:rowL (mkd s.l k i) spare=X0 at hb0 hlen
  refine zc5 ?_
  simp (maxSteps:=2000000) only [go_sem,yqa,yqb,yqc,yqd,yqe,yqf]
  refine zc3 ?_
  refine zc8 ?_
  refine zwx [0,0,0,0,0,1] rfl ?_
  simp (maxSteps:=2000000) only [go_sem,yqa,yqb,yqc,yqd,yqe,yqf,ha,hlt,Option.map_some,za4,Option.isSome_some,yqj,Nat.zero_add,Nat.add_zero,List.toList_toArray,Hp.ins_ins]
  refine zlV (by simp only [go_sem]) (by simp only [go_sem]) rfl rfl hb0 (.inr (hW _ hfoot)) (by simp only [List.size_toArray];omega) ?_
  simp (maxSteps:=2000000) only [go_sem,yqa,yqb,yqc,yqd,yqe,yqf,ha,hlt,Option.map_some,za4,Option.isSome_some,yqj,Nat.zero_add,Nat.add_zero,List.toList_toArray,Hp.ins_ins]
  refine zie rfl ?_
  simp (maxSteps:=2000000) only [go_sem,yqa,yqb,yqc,yqd,yqe,yqf]
  rw [zjz (by omega)]
  have hsl1:(spl (i * 5) [.int .i64 (κ)] X0).length=X0.length:=zwM (by simp only [List.length_cons,List.length_nil];omega)
  refine zwx [0,0,0,0,0,1] rfl ?_
  simp (maxSteps:=2000000) only [go_sem,yqa,yqb,yqc,yqd,yqe,yqf,ha,hlt,Option.map_some,za4,Option.isSome_some,yqj,Nat.zero_add,Nat.add_zero,List.toList_toArray,Hp.ins_ins]
  refine zlV (by simp only [go_sem]) (by simp only [go_sem]) rfl rfl Hp.ins_same (.inr (hW _ hfoot)) (by simp only [List.size_toArray,hsl1];omega) ?_
  simp (maxSteps:=2000000) only [go_sem,yqa,yqb,yqc,yqd,yqe,yqf,ha,hlt,Option.map_some,za4,Option.isSome_some,yqj,Nat.zero_add,Nat.add_zero,List.toList_toArray,Hp.ins_ins]
  rw [show spl (i * 5+1) [.int .i64 (κ+1)] (spl (i * 5) [.int .i64 (κ)] X0)=spl (i * 5) [.int .i64 (κ),.int .i64 (κ+1)] X0 from zwL (m:=[.int .i64 (κ)]) (by simp only [List.length_cons,List.length_nil];omega)]
  refine zie rfl ?_
  simp (maxSteps:=2000000) only [go_sem,yqa,yqb,yqc,yqd,yqe,yqf]
  rw [zjz (by omega)]
  have hsl2:(spl (i * 5) [.int .i64 (κ),.int .i64 (κ+1)] X0).length=X0.length:=zwM (by simp only [List.length_cons,List.length_nil];omega)
  refine zwx [0,0,0,0,0,0,0,1] rfl ?_
  simp (maxSteps:=2000000) only [go_sem,yqa,yqb,yqc,yqd,yqe,yqf,ha,hlt,Option.map_some,za4,Option.isSome_some,yqj,Nat.zero_add,Nat.add_zero,List.toList_toArray,Hp.ins_ins]
  refine ⟨by decide,?_⟩
  refine zlV (by simp only [go_sem]) (by simp only [go_sem]) rfl rfl Hp.ins_same (.inr (hW _ hfoot)) (by simp only [List.size_toArray,hsl2];omega) ?_
  simp (maxSteps:=2000000) only [go_sem,yqa,yqb,yqc,yqd,yqe,yqf,ha,hlt,Option.map_some,za4,Option.isSome_some,yqj,Nat.zero_add,Nat.add_zero,List.toList_toArray,Hp.ins_ins]
  rw [show spl (i * 5+2) [.bool ((κ+1+1).tmod 3 == 0)] (spl (i * 5) [.int .i64 (κ),.int .i64 (κ+1)] X0)=spl (i * 5) [.int .i64 (κ),.int .i64 (κ+1),.bool ((κ+1+1).tmod 3 == 0)] X0 from zwL (m:=[.int .i64 (κ),.int .i64 (κ+1)]) (by simp only [List.length_cons,List.length_nil];omega)]
  refine zie rfl ?_
  simp (maxSteps:=2000000) only [go_sem,yqa,yqb,yqc,yqd,yqe,yqf]
  rw [zjz (by omega)]
  have hsl3:(spl (i * 5) [.int .i64 (κ),.int .i64 (κ+1),.bool ((κ+1+1).tmod 3 == 0)] X0).length=X0.length:=zwM (by simp only [List.length_cons,List.length_nil];omega)
  refine zwx [0,0,0,0,0,1] rfl ?_
  simp (maxSteps:=2000000) only [go_sem,yqa,yqb,yqc,yqd,yqe,yqf,ha,hlt,Option.map_some,za4,Option.isSome_some,yqj,Nat.zero_add,Nat.add_zero,List.toList_toArray,Hp.ins_ins]
  refine zlV (by simp only [go_sem]) (by simp only [go_sem]) rfl rfl Hp.ins_same (.inr (hW _ hfoot)) (by simp only [List.size_toArray,hsl3];omega) ?_
  simp (maxSteps:=2000000) only [go_sem,yqa,yqb,yqc,yqd,yqe,yqf,ha,hlt,Option.map_some,za4,Option.isSome_some,yqj,Nat.zero_add,Nat.add_zero,List.toList_toArray,Hp.ins_ins]
  rw [show spl (i * 5+3) [.int .i64 (κ+1+1+1)] (spl (i * 5) [.int .i64 (κ),.int .i64 (κ+1),.bool ((κ+1+1).tmod 3 == 0)] X0)=spl (i * 5) [.int .i64 (κ),.int .i64 (κ+1),.bool ((κ+1+1).tmod 3 == 0),.int .i64 (κ+1+1+1)] X0 from zwL (m:=[.int .i64 (κ),.int .i64 (κ+1),.bool ((κ+1+1).tmod 3 == 0)]) (by simp only [List.length_cons,List.length_nil];omega)]
  refine zie rfl ?_
  simp (maxSteps:=2000000) only [go_sem,yqa,yqb,yqc,yqd,yqe,yqf]
  rw [zjz (by omega)]
  have hsl4:(spl (i * 5) [.int .i64 (κ),.int .i64 (κ+1),.bool ((κ+1+1).tmod 3 == 0),.int .i64 (κ+1+1+1)] X0).length=X0.length:=zwM (by simp only [List.length_cons,List.length_nil];omega)
  refine zwx [0,0,0,0,0,1] rfl ?_
  simp (maxSteps:=2000000) only [go_sem,yqa,yqb,yqc,yqd,yqe,yqf,ha,hlt,Option.map_some,za4,Option.isSome_some,yqj,Nat.zero_add,Nat.add_zero,List.toList_toArray,Hp.ins_ins]
  refine zlV (by simp only [go_sem]) (by simp only [go_sem]) rfl rfl Hp.ins_same (.inr (hW _ hfoot)) (by simp only [List.size_toArray,hsl4];omega) ?_
  simp (maxSteps:=2000000) only [go_sem,yqa,yqb,yqc,yqd,yqe,yqf,ha,hlt,Option.map_some,za4,Option.isSome_some,yqj,Nat.zero_add,Nat.add_zero,List.toList_toArray,Hp.ins_ins]
  rw [show spl (i * 5+4) [.int .i64 (κ+1+1+1+1)] (spl (i * 5) [.int .i64 (κ),.int .i64 (κ+1),.bool ((κ+1+1).tmod 3 == 0),.int .i64 (κ+1+1+1)] X0)=spl (i * 5) [.int .i64 (κ),.int .i64 (κ+1),.bool ((κ+1+1).tmod 3 == 0),.int .i64 (κ+1+1+1),.int .i64 (κ+1+1+1+1)] X0 from zwL (m:=[.int .i64 (κ),.int .i64 (κ+1),.bool ((κ+1+1).tmod 3 == 0),.int .i64 (κ+1+1+1)]) (by simp only [List.length_cons,List.length_nil];omega)]
  refine zc4 rfl ?_
  simp (maxSteps:=2000000) only [go_sem,yqa,yqb,yqc,yqd,yqe,yqf]
  rw [zjz (by omega)]
  repeat' first|refine zie rfl ?_|refine zc4 rfl ?_|refine zc7 ?_|refine zc8 ?_|refine zc5 ?_|refine zc6 ?_|(simp (maxSteps:=2000000) only [go_sem,yqa,yqb,yqc,yqd,yqe,yqf];try rfl)|refine zc3 ?_|(refine And.intro ?_ ?_;focus (intros;simp_all only [yqg,yqh,yqi,and_self,true_and,and_true];done))
  refine ⟨(i+1,hk'.ins g (.cells (spl (i * 5) [.int .i64 (κ),.int .i64 (κ+1),.bool ((κ+1+1).tmod 3 == 0),.int .i64 (κ+1+1+1),.int .i64 (κ+1+1+1+1)] X0).toArray e (0,0))),⟨hlt,?_,fun x hx=>?_⟩,by simp only;omega,?_⟩
  ·rw [← zwH hlt,← zwJ (by rw [zwG];exact hlt),hX]
   simp only
   rw [Hp.ins_same]
   congr 4
   simp only [show k+((cntL (List.take i s.l):Nat):Int)=κ from hκ,Mk.put,Enc.enc,DPassage.cells]
   try simp only [mkB,Int.add_assoc,Int.reduceAdd]
   try rfl
  ·simp only at hx ⊢
   rw [← zwH hlt] at hx
   rcases List.mem_or_eq_of_mem_set hx with hx|rfl
   ·exact hok x hx
   ·exact (show I64 _∧I64 _∧I64 _∧I64 _ from by unfold I64;simp only [Mk.put];omega)
  ·simp (maxSteps:=2000000) only [go_sem,yqa,yqb,yqc,yqd,yqe,yqf]
   exact ⟨zjB (by rw [hcnt,hc];omega),zjB (zjA hlt (by omega))⟩
 ·have hge:=zjI hd
  have hie:i=s.l.length:=Nat.le_antisymm hi hge
  repeat' first|refine zie rfl ?_|refine zc4 rfl ?_|refine zc7 ?_|refine zc8 ?_|refine zc5 ?_|refine zc6 ?_|(simp (maxSteps:=2000000) only [go_sem,yqa,yqb,yqc,yqd,yqe,yqf];try rfl)|refine zc3 ?_|(refine And.intro ?_ ?_;focus (intros;simp_all only [yqg,yqh,yqi,and_self,true_and,and_true];done))
  have hp:mkd s.l k i=(Mk.put s k).l:=zwF hge
  rw [hp] at hb0 hok
  have hll:(Mk.put s k).l.length=s.l.length:=zlZ
  have hsl:=zwN (α:=DPassage) (h:=hk') (g:=g) (cap:=s.cap) (by decide) hb0 (by rw [hll];exact hs.1) hs.2.2.2.2 hok
  have hsv:(Sl.mk (some ⟨g,0,none⟩) s.cap (Mk.put s k).l:Sl DPassage)=Mk.put s k:=by rw [← ha];rfl
  rw [hsv] at hsl
  refine ⟨by rw [hie,List.take_length,hcs],hsl,fun _=>⟨⟨g,_,e,ha,hb0,?_⟩,fun x hx=>trivial⟩⟩
  rw [List.size_toArray,zwI,hll,hsp]
  rfl
theorem zNo (s:Sl DPoint) (k:Int) (h:Hp) (hs:s.Ok h) (ho:Foot.own h s) (hn:(Foot.foot s).Nodup) (hk:0≤k∧k+(Mk.cnt s:Nat)≤4611686018427387904):Cw Tryz.prog 146 [s.val,.int .i64 k] h (fun b=>b ∈ Foot.foot s) fun v h'=>v=.int .i64 (k+(Mk.cnt s:Nat))∧Enc.ok h' (Mk.put s k)∧Foot.own h' (Mk.put s k):=by
 have hmax:=hs.max
 have hcs:Mk.cnt s=cntL s.l:=rfl
 by_cases hl:s.l=[]
 ·refine zlD (fun A W=>by simp) Tryz.func146 rfl rfl (by simp)  (fun b hb=>Foot.dom ho b hb) fun W0 hW=>?_
  repeat' first|refine zie rfl ?_|refine zc4 rfl ?_|refine zc7 ?_|refine zc8 ?_|refine zc5 ?_|refine zc6 ?_|(simp (maxSteps:=2000000) only [go_sem,yqa,yqb,yqc,yqd,yqe,yqf];try rfl)|refine zc3 ?_|(refine And.intro ?_ ?_;focus (intros;simp_all only [yqg,yqh,yqi,and_self,true_and,and_true];done))
  refine zde (ι:=Unit) (fun _=>⟨[(0,true,.c (.v s.val)),(1,true,.c (.v (.int .i64 k))),(5,true,.c (.v (.int .i64 0)))],[],h,0⟩) (fun _=>True) (fun _=>0) () trivial ?_ ?_
  ·simp (maxSteps:=2000000) only [go_sem,yqa,yqb,yqc,yqd,yqe,yqf]
  rintro _ _
  repeat' first|refine zie rfl ?_|refine zc4 rfl ?_|refine zc7 ?_|refine zc8 ?_|refine zc5 ?_|refine zc6 ?_|(simp (maxSteps:=2000000) only [go_sem,yqa,yqb,yqc,yqd,yqe,yqf];try rfl)|refine zc3 ?_|(refine And.intro ?_ ?_;focus (intros;simp_all only [yqg,yqh,yqi,and_self,true_and,and_true];done))
  refine zc9 rfl (fun hc=>?_) (fun hc=>?_)
  ·exact absurd (of_decide_eq_true hc) (by rw [hl];simp)
  ·repeat' first|refine zie rfl ?_|refine zc4 rfl ?_|refine zc7 ?_|refine zc8 ?_|refine zc5 ?_|refine zc6 ?_|(simp (maxSteps:=2000000) only [go_sem,yqa,yqb,yqc,yqd,yqe,yqf];try rfl)|refine zc3 ?_|(refine And.intro ?_ ?_;focus (intros;simp_all only [yqg,yqh,yqi,and_self,true_and,and_true];done))
   refine ⟨by rw [hcs,hl];simp [cntL],⟨(by simp [Mk.put,hl,mkL]),fun hne=>(hne (by simp [Mk.put,hl,mkL])).elim,fun i x hx=>by simp [Mk.put,hl,mkL] at hx,fun x hx=>by simp [Mk.put,hl,mkL] at hx,hs.2.2.2.2⟩,fun hne=>(hne (by simp [Mk.put,hl,mkL])).elim⟩
 obtain ⟨g,e,spare,ha,hb,hsp⟩:=zwO (by decide) hs ho hl
 have hsz:Enc.size DPoint=2:=rfl
 have hfoot:g ∈ Foot.foot s:=by
  rw [show Foot.foot s=_ from Sl.foot_ne hl]
  simp [Sl.blkOf,ha]
 refine zlD (fun A W=>by simp) Tryz.func146 rfl rfl (by simp)  (fun b hb=>Foot.dom ho b hb) fun W0 hW=>?_
 repeat' first|refine zie rfl ?_|refine zc4 rfl ?_|refine zc7 ?_|refine zc8 ?_|refine zc5 ?_|refine zc6 ?_|(simp (maxSteps:=2000000) only [go_sem,yqa,yqb,yqc,yqd,yqe,yqf];try rfl)|refine zc3 ?_|(refine And.intro ?_ ?_;focus (intros;simp_all only [yqg,yqh,yqi,and_self,true_and,and_true];done))
 refine zde (ι:=Nat × Hp) (fun i=>⟨[(0,true,.c (.v s.val)),(1,true,.c (.v (.int .i64 (k+(cntL (s.l.take i.1):Nat))))),(5,true,.c (.v (.int .i64 i.1)))],[],i.2,0⟩) (fun i=>i.1≤s.l.length∧i.2 g=some (.cells (rowL (mkd s.l k i.1) spare).toArray e (0,0))∧∀ x ∈ mkd s.l k i.1,Enc.ok i.2 x) (fun i=>s.l.length - i.1) (0,h) ⟨Nat.zero_le _,by rw [zwE];exact hb,by rw [zwE];exact hs.2.2.2.1⟩ ?_ ?_
 ·simp (maxSteps:=2000000) only [go_sem,yqa,yqb,yqc,yqd,yqe,yqf]
  exact ⟨zjB (by rw [zwy];omega),rfl⟩
 rintro ⟨i,hk'⟩ ⟨hi,hb0,hok⟩
 repeat' first|refine zie rfl ?_|refine zc4 rfl ?_|refine zc7 ?_|refine zc8 ?_|refine zc5 ?_|refine zc6 ?_|(simp (maxSteps:=2000000) only [go_sem,yqa,yqb,yqc,yqd,yqe,yqf];try rfl)|refine zc3 ?_|(refine And.intro ?_ ?_;focus (intros;simp_all only [yqg,yqh,yqi,and_self,true_and,and_true];done))
 refine zc9 rfl (fun hd=>?_) (fun hd=>?_)
 ·have hlt:=zjH hd
  have hcnt:=zwC hlt
  have hcle:=zwD (l:=s.l) (i:=i+1)
  have hc:Mk.cnt s.l[i]=2:=rfl
  generalize hκ:k+((cntL (s.l.take i):Nat):Int)=κ
  have hκ0:0≤κ∧κ+2≤4611686018427387904:=by omega
  have hlen:i * 2+2≤(rowL (mkd s.l k i) spare).length:=by rw [zwI,zwG,hsz];omega
  generalize hX:rowL (mkd s.l k i) spare=X0 at hb0 hlen
  refine zc5 ?_
  simp (maxSteps:=2000000) only [go_sem,yqa,yqb,yqc,yqd,yqe,yqf]
  refine zc3 ?_
  refine zc8 ?_
  refine zwx [0,0,0,0,0,0,1] rfl ?_
  simp (maxSteps:=2000000) only [go_sem,yqa,yqb,yqc,yqd,yqe,yqf,ha,hlt,Option.map_some,za4,Option.isSome_some,yqj,Nat.zero_add,Nat.add_zero,List.toList_toArray,Hp.ins_ins]
  refine zhF (fun _=>zNl _ _ (by omega)) ?_
  simp (maxSteps:=2000000) only [go_sem,yqa,yqb,yqc,yqd,yqe,yqf,ha,hlt,Option.map_some,za4,Option.isSome_some,yqj,Nat.zero_add,Nat.add_zero,List.toList_toArray,Hp.ins_ins]
  refine zlV (by simp only [go_sem]) (by simp only [go_sem]) rfl rfl hb0 (.inr (hW _ hfoot)) (by simp only [List.size_toArray];omega) ?_
  simp (maxSteps:=2000000) only [go_sem,yqa,yqb,yqc,yqd,yqe,yqf,ha,hlt,Option.map_some,za4,Option.isSome_some,yqj,Nat.zero_add,Nat.add_zero,List.toList_toArray,Hp.ins_ins]
  refine zie rfl ?_
  simp (maxSteps:=2000000) only [go_sem,yqa,yqb,yqc,yqd,yqe,yqf]
  rw [zjz (by omega)]
  have hsl1:(spl (i * 2) [.string (mkT (κ))] X0).length=X0.length:=zwM (by simp only [List.length_cons,List.length_nil];omega)
  refine zwx [0,0,0,0,0,0,0,1] rfl ?_
  simp (maxSteps:=2000000) only [go_sem,yqa,yqb,yqc,yqd,yqe,yqf,ha,hlt,Option.map_some,za4,Option.isSome_some,yqj,Nat.zero_add,Nat.add_zero,List.toList_toArray,Hp.ins_ins]
  refine ⟨by decide,?_⟩
  refine zlV (by simp only [go_sem]) (by simp only [go_sem]) rfl rfl Hp.ins_same (.inr (hW _ hfoot)) (by simp only [List.size_toArray,hsl1];omega) ?_
  simp (maxSteps:=2000000) only [go_sem,yqa,yqb,yqc,yqd,yqe,yqf,ha,hlt,Option.map_some,za4,Option.isSome_some,yqj,Nat.zero_add,Nat.add_zero,List.toList_toArray,Hp.ins_ins]
  rw [show spl (i * 2+1) [.bool ((κ+1).tmod 3 == 0)] (spl (i * 2) [.string (mkT (κ))] X0)=spl (i * 2) [.string (mkT (κ)),.bool ((κ+1).tmod 3 == 0)] X0 from zwL (m:=[.string (mkT (κ))]) (by simp only [List.length_cons,List.length_nil];omega)]
  refine zc4 rfl ?_
  simp (maxSteps:=2000000) only [go_sem,yqa,yqb,yqc,yqd,yqe,yqf]
  rw [zjz (by omega)]
  repeat' first|refine zie rfl ?_|refine zc4 rfl ?_|refine zc7 ?_|refine zc8 ?_|refine zc5 ?_|refine zc6 ?_|(simp (maxSteps:=2000000) only [go_sem,yqa,yqb,yqc,yqd,yqe,yqf];try rfl)|refine zc3 ?_|(refine And.intro ?_ ?_;focus (intros;simp_all only [yqg,yqh,yqi,and_self,true_and,and_true];done))
  refine ⟨(i+1,hk'.ins g (.cells (spl (i * 2) [.string (mkT (κ)),.bool ((κ+1).tmod 3 == 0)] X0).toArray e (0,0))),⟨hlt,?_,fun x hx=>?_⟩,by simp only;omega,?_⟩
  ·rw [← zwH hlt,← zwJ (by rw [zwG];exact hlt),hX]
   simp only
   rw [Hp.ins_same]
   congr 4
   simp only [show k+((cntL (List.take i s.l):Nat):Int)=κ from hκ,Mk.put,Enc.enc,DPoint.cells]
   try simp only [mkB,Int.add_assoc,Int.reduceAdd]
   try rfl
  ·simp only at hx ⊢
   rw [← zwH hlt] at hx
   rcases List.mem_or_eq_of_mem_set hx with hx|rfl
   ·exact hok x hx
   ·exact (show zkB _ from Nat.le_trans (zNk _) (by decide))
  ·simp (maxSteps:=2000000) only [go_sem,yqa,yqb,yqc,yqd,yqe,yqf]
   exact ⟨zjB (by rw [hcnt,hc];omega),zjB (zjA hlt (by omega))⟩
 ·have hge:=zjI hd
  have hie:i=s.l.length:=Nat.le_antisymm hi hge
  repeat' first|refine zie rfl ?_|refine zc4 rfl ?_|refine zc7 ?_|refine zc8 ?_|refine zc5 ?_|refine zc6 ?_|(simp (maxSteps:=2000000) only [go_sem,yqa,yqb,yqc,yqd,yqe,yqf];try rfl)|refine zc3 ?_|(refine And.intro ?_ ?_;focus (intros;simp_all only [yqg,yqh,yqi,and_self,true_and,and_true];done))
  have hp:mkd s.l k i=(Mk.put s k).l:=zwF hge
  rw [hp] at hb0 hok
  have hll:(Mk.put s k).l.length=s.l.length:=zlZ
  have hsl:=zwN (α:=DPoint) (h:=hk') (g:=g) (cap:=s.cap) (by decide) hb0 (by rw [hll];exact hs.1) hs.2.2.2.2 hok
  have hsv:(Sl.mk (some ⟨g,0,none⟩) s.cap (Mk.put s k).l:Sl DPoint)=Mk.put s k:=by rw [← ha];rfl
  rw [hsv] at hsl
  refine ⟨by rw [hie,List.take_length,hcs],hsl,fun _=>⟨⟨g,_,e,ha,hb0,?_⟩,fun x hx=>trivial⟩⟩
  rw [List.size_toArray,zwI,hll,hsp]
  rfl
theorem zNp (s:Sl DSegment) (k:Int) (h:Hp) (hs:s.Ok h) (ho:Foot.own h s) (hn:(Foot.foot s).Nodup) (hk:0≤k∧k+(Mk.cnt s:Nat)≤4611686018427387904):Cw Tryz.prog 147 [s.val,.int .i64 k] h (fun b=>b ∈ Foot.foot s) fun v h'=>v=.int .i64 (k+(Mk.cnt s:Nat))∧Enc.ok h' (Mk.put s k)∧Foot.own h' (Mk.put s k):=by
 have hmax:=hs.max
 have hcs:Mk.cnt s=cntL s.l:=rfl
 by_cases hl:s.l=[]
 ·refine zlD (fun A W=>by simp) Tryz.func147 rfl rfl (by simp)  (fun b hb=>Foot.dom ho b hb) fun W0 hW=>?_
  repeat' first|refine zie rfl ?_|refine zc4 rfl ?_|refine zc7 ?_|refine zc8 ?_|refine zc5 ?_|refine zc6 ?_|(simp (maxSteps:=2000000) only [go_sem,yqa,yqb,yqc,yqd,yqe,yqf];try rfl)|refine zc3 ?_|(refine And.intro ?_ ?_;focus (intros;simp_all only [yqg,yqh,yqi,and_self,true_and,and_true];done))
  refine zde (ι:=Unit) (fun _=>⟨[(0,true,.c (.v s.val)),(1,true,.c (.v (.int .i64 k))),(5,true,.c (.v (.int .i64 0)))],[],h,0⟩) (fun _=>True) (fun _=>0) () trivial ?_ ?_
  ·simp (maxSteps:=2000000) only [go_sem,yqa,yqb,yqc,yqd,yqe,yqf]
  rintro _ _
  repeat' first|refine zie rfl ?_|refine zc4 rfl ?_|refine zc7 ?_|refine zc8 ?_|refine zc5 ?_|refine zc6 ?_|(simp (maxSteps:=2000000) only [go_sem,yqa,yqb,yqc,yqd,yqe,yqf];try rfl)|refine zc3 ?_|(refine And.intro ?_ ?_;focus (intros;simp_all only [yqg,yqh,yqi,and_self,true_and,and_true];done))
  refine zc9 rfl (fun hc=>?_) (fun hc=>?_)
  ·exact absurd (of_decide_eq_true hc) (by rw [hl];simp)
  ·repeat' first|refine zie rfl ?_|refine zc4 rfl ?_|refine zc7 ?_|refine zc8 ?_|refine zc5 ?_|refine zc6 ?_|(simp (maxSteps:=2000000) only [go_sem,yqa,yqb,yqc,yqd,yqe,yqf];try rfl)|refine zc3 ?_|(refine And.intro ?_ ?_;focus (intros;simp_all only [yqg,yqh,yqi,and_self,true_and,and_true];done))
   refine ⟨by rw [hcs,hl];simp [cntL],⟨(by simp [Mk.put,hl,mkL]),fun hne=>(hne (by simp [Mk.put,hl,mkL])).elim,fun i x hx=>by simp [Mk.put,hl,mkL] at hx,fun x hx=>by simp [Mk.put,hl,mkL] at hx,hs.2.2.2.2⟩,fun hne=>(hne (by simp [Mk.put,hl,mkL])).elim⟩
 obtain ⟨g,e,spare,ha,hb,hsp⟩:=zwO (by decide) hs ho hl
 have hsz:Enc.size DSegment=5:=rfl
 have hfoot:g ∈ Foot.foot s:=by
  rw [show Foot.foot s=_ from Sl.foot_ne hl]
  simp [Sl.blkOf,ha]
 refine zlD (fun A W=>by simp) Tryz.func147 rfl rfl (by simp)  (fun b hb=>Foot.dom ho b hb) fun W0 hW=>?_
 repeat' first|refine zie rfl ?_|refine zc4 rfl ?_|refine zc7 ?_|refine zc8 ?_|refine zc5 ?_|refine zc6 ?_|(simp (maxSteps:=2000000) only [go_sem,yqa,yqb,yqc,yqd,yqe,yqf];try rfl)|refine zc3 ?_|(refine And.intro ?_ ?_;focus (intros;simp_all only [yqg,yqh,yqi,and_self,true_and,and_true];done))
 refine zde (ι:=Nat × Hp) (fun i=>⟨[(0,true,.c (.v s.val)),(1,true,.c (.v (.int .i64 (k+(cntL (s.l.take i.1):Nat))))),(5,true,.c (.v (.int .i64 i.1)))],[],i.2,0⟩) (fun i=>i.1≤s.l.length∧i.2 g=some (.cells (rowL (mkd s.l k i.1) spare).toArray e (0,0))∧∀ x ∈ mkd s.l k i.1,Enc.ok i.2 x) (fun i=>s.l.length - i.1) (0,h) ⟨Nat.zero_le _,by rw [zwE];exact hb,by rw [zwE];exact hs.2.2.2.1⟩ ?_ ?_
 ·simp (maxSteps:=2000000) only [go_sem,yqa,yqb,yqc,yqd,yqe,yqf]
  exact ⟨zjB (by rw [zwy];omega),rfl⟩
 rintro ⟨i,hk'⟩ ⟨hi,hb0,hok⟩
 repeat' first|refine zie rfl ?_|refine zc4 rfl ?_|refine zc7 ?_|refine zc8 ?_|refine zc5 ?_|refine zc6 ?_|(simp (maxSteps:=2000000) only [go_sem,yqa,yqb,yqc,yqd,yqe,yqf];try rfl)|refine zc3 ?_|(refine And.intro ?_ ?_;focus (intros;simp_all only [yqg,yqh,yqi,and_self,true_and,and_true];done))
 refine zc9 rfl (fun hd=>?_) (fun hd=>?_)
 ·have hlt:=zjH hd
  have hcnt:=zwC hlt
  have hcle:=zwD (l:=s.l) (i:=i+1)
  have hc:Mk.cnt s.l[i]=5:=rfl
  generalize hκ:k+((cntL (s.l.take i):Nat):Int)=κ
  have hκ0:0≤κ∧κ+5≤4611686018427387904:=by omega
  have hlen:i * 5+5≤(rowL (mkd s.l k i) spare).length:=by rw [zwI,zwG,hsz];omega
  generalize hX:rowL (mkd s.l k i) spare=X0 at hb0 hlen
  refine zc5 ?_
  simp (maxSteps:=2000000) only [go_sem,yqa,yqb,yqc,yqd,yqe,yqf]
  refine zc3 ?_
  refine zc8 ?_
  refine zwx [0,0,0,0,0,1] rfl ?_
  simp (maxSteps:=2000000) only [go_sem,yqa,yqb,yqc,yqd,yqe,yqf,ha,hlt,Option.map_some,za4,Option.isSome_some,yqj,Nat.zero_add,Nat.add_zero,List.toList_toArray,Hp.ins_ins]
  refine zlV (by simp only [go_sem]) (by simp only [go_sem]) rfl rfl hb0 (.inr (hW _ hfoot)) (by simp only [List.size_toArray];omega) ?_
  simp (maxSteps:=2000000) only [go_sem,yqa,yqb,yqc,yqd,yqe,yqf,ha,hlt,Option.map_some,za4,Option.isSome_some,yqj,Nat.zero_add,Nat.add_zero,List.toList_toArray,Hp.ins_ins]
  refine zie rfl ?_
  simp (maxSteps:=2000000) only [go_sem,yqa,yqb,yqc,yqd,yqe,yqf]
  rw [zjz (by omega)]
  have hsl1:(spl (i * 5) [.int .i64 (κ)] X0).length=X0.length:=zwM (by simp only [List.length_cons,List.length_nil];omega)
  refine zwx [0,0,0,0,0,1] rfl ?_
  simp (maxSteps:=2000000) only [go_sem,yqa,yqb,yqc,yqd,yqe,yqf,ha,hlt,Option.map_some,za4,Option.isSome_some,yqj,Nat.zero_add,Nat.add_zero,List.toList_toArray,Hp.ins_ins]
  refine zlV (by simp only [go_sem]) (by simp only [go_sem]) rfl rfl Hp.ins_same (.inr (hW _ hfoot)) (by simp only [List.size_toArray,hsl1];omega) ?_
  simp (maxSteps:=2000000) only [go_sem,yqa,yqb,yqc,yqd,yqe,yqf,ha,hlt,Option.map_some,za4,Option.isSome_some,yqj,Nat.zero_add,Nat.add_zero,List.toList_toArray,Hp.ins_ins]
  rw [show spl (i * 5+1) [.int .i64 (κ+1)] (spl (i * 5) [.int .i64 (κ)] X0)=spl (i * 5) [.int .i64 (κ),.int .i64 (κ+1)] X0 from zwL (m:=[.int .i64 (κ)]) (by simp only [List.length_cons,List.length_nil];omega)]
  refine zie rfl ?_
  simp (maxSteps:=2000000) only [go_sem,yqa,yqb,yqc,yqd,yqe,yqf]
  rw [zjz (by omega)]
  have hsl2:(spl (i * 5) [.int .i64 (κ),.int .i64 (κ+1)] X0).length=X0.length:=zwM (by simp only [List.length_cons,List.length_nil];omega)
  refine zwx [0,0,0,0,0,1] rfl ?_
  simp (maxSteps:=2000000) only [go_sem,yqa,yqb,yqc,yqd,yqe,yqf,ha,hlt,Option.map_some,za4,Option.isSome_some,yqj,Nat.zero_add,Nat.add_zero,List.toList_toArray,Hp.ins_ins]
  refine zlV (by simp only [go_sem]) (by simp only [go_sem]) rfl rfl Hp.ins_same (.inr (hW _ hfoot)) (by simp only [List.size_toArray,hsl2];omega) ?_
  simp (maxSteps:=2000000) only [go_sem,yqa,yqb,yqc,yqd,yqe,yqf,ha,hlt,Option.map_some,za4,Option.isSome_some,yqj,Nat.zero_add,Nat.add_zero,List.toList_toArray,Hp.ins_ins]
  rw [show spl (i * 5+2) [.int .i64 (κ+1+1)] (spl (i * 5) [.int .i64 (κ),.int .i64 (κ+1)] X0)=spl (i * 5) [.int .i64 (κ),.int .i64 (κ+1),.int .i64 (κ+1+1)] X0 from zwL (m:=[.int .i64 (κ),.int .i64 (κ+1)]) (by simp only [List.length_cons,List.length_nil];omega)]
  refine zie rfl ?_
  simp (maxSteps:=2000000) only [go_sem,yqa,yqb,yqc,yqd,yqe,yqf]
  rw [zjz (by omega)]
  have hsl3:(spl (i * 5) [.int .i64 (κ),.int .i64 (κ+1),.int .i64 (κ+1+1)] X0).length=X0.length:=zwM (by simp only [List.length_cons,List.length_nil];omega)
  refine zwx [0,0,0,0,0,1] rfl ?_
  simp (maxSteps:=2000000) only [go_sem,yqa,yqb,yqc,yqd,yqe,yqf,ha,hlt,Option.map_some,za4,Option.isSome_some,yqj,Nat.zero_add,Nat.add_zero,List.toList_toArray,Hp.ins_ins]
  refine zlV (by simp only [go_sem]) (by simp only [go_sem]) rfl rfl Hp.ins_same (.inr (hW _ hfoot)) (by simp only [List.size_toArray,hsl3];omega) ?_
  simp (maxSteps:=2000000) only [go_sem,yqa,yqb,yqc,yqd,yqe,yqf,ha,hlt,Option.map_some,za4,Option.isSome_some,yqj,Nat.zero_add,Nat.add_zero,List.toList_toArray,Hp.ins_ins]
  rw [show spl (i * 5+3) [.int .i64 (κ+1+1+1)] (spl (i * 5) [.int .i64 (κ),.int .i64 (κ+1),.int .i64 (κ+1+1)] X0)=spl (i * 5) [.int .i64 (κ),.int .i64 (κ+1),.int .i64 (κ+1+1),.int .i64 (κ+1+1+1)] X0 from zwL (m:=[.int .i64 (κ),.int .i64 (κ+1),.int .i64 (κ+1+1)]) (by simp only [List.length_cons,List.length_nil];omega)]
  refine zie rfl ?_
  simp (maxSteps:=2000000) only [go_sem,yqa,yqb,yqc,yqd,yqe,yqf]
  rw [zjz (by omega)]
  have hsl4:(spl (i * 5) [.int .i64 (κ),.int .i64 (κ+1),.int .i64 (κ+1+1),.int .i64 (κ+1+1+1)] X0).length=X0.length:=zwM (by simp only [List.length_cons,List.length_nil];omega)
  refine zwx [0,0,0,0,0,0,0,1] rfl ?_
  simp (maxSteps:=2000000) only [go_sem,yqa,yqb,yqc,yqd,yqe,yqf,ha,hlt,Option.map_some,za4,Option.isSome_some,yqj,Nat.zero_add,Nat.add_zero,List.toList_toArray,Hp.ins_ins]
  refine ⟨by decide,?_⟩
  refine zlV (by simp only [go_sem]) (by simp only [go_sem]) rfl rfl Hp.ins_same (.inr (hW _ hfoot)) (by simp only [List.size_toArray,hsl4];omega) ?_
  simp (maxSteps:=2000000) only [go_sem,yqa,yqb,yqc,yqd,yqe,yqf,ha,hlt,Option.map_some,za4,Option.isSome_some,yqj,Nat.zero_add,Nat.add_zero,List.toList_toArray,Hp.ins_ins]
  rw [show spl (i * 5+4) [.bool ((κ+1+1+1+1).tmod 3 == 0)] (spl (i * 5) [.int .i64 (κ),.int .i64 (κ+1),.int .i64 (κ+1+1),.int .i64 (κ+1+1+1)] X0)=spl (i * 5) [.int .i64 (κ),.int .i64 (κ+1),.int .i64 (κ+1+1),.int .i64 (κ+1+1+1),.bool ((κ+1+1+1+1).tmod 3 == 0)] X0 from zwL (m:=[.int .i64 (κ),.int .i64 (κ+1),.int .i64 (κ+1+1),.int .i64 (κ+1+1+1)]) (by simp only [List.length_cons,List.length_nil];omega)]
  refine zc4 rfl ?_
  simp (maxSteps:=2000000) only [go_sem,yqa,yqb,yqc,yqd,yqe,yqf]
  rw [zjz (by omega)]
  repeat' first|refine zie rfl ?_|refine zc4 rfl ?_|refine zc7 ?_|refine zc8 ?_|refine zc5 ?_|refine zc6 ?_|(simp (maxSteps:=2000000) only [go_sem,yqa,yqb,yqc,yqd,yqe,yqf];try rfl)|refine zc3 ?_|(refine And.intro ?_ ?_;focus (intros;simp_all only [yqg,yqh,yqi,and_self,true_and,and_true];done))
  refine ⟨(i+1,hk'.ins g (.cells (spl (i * 5) [.int .i64 (κ),.int .i64 (κ+1),.int .i64 (κ+1+1),.int .i64 (κ+1+1+1),.bool ((κ+1+1+1+1).tmod 3 == 0)] X0).toArray e (0,0))),⟨hlt,?_,fun x hx=>?_⟩,by simp only;omega,?_⟩
  ·rw [← zwH hlt,← zwJ (by rw [zwG];exact hlt),hX]
   simp only
   rw [Hp.ins_same]
   congr 4
   simp only [show k+((cntL (List.take i s.l):Nat):Int)=κ from hκ,Mk.put,Enc.enc,DSegment.cells]
   try simp only [mkB,Int.add_assoc,Int.reduceAdd]
   try rfl
  ·simp only at hx ⊢
   rw [← zwH hlt] at hx
   rcases List.mem_or_eq_of_mem_set hx with hx|rfl
   ·exact hok x hx
   ·exact (show I64 _∧I64 _∧I64 _∧I64 _ from by unfold I64;simp only [Mk.put];omega)
  ·simp (maxSteps:=2000000) only [go_sem,yqa,yqb,yqc,yqd,yqe,yqf]
   exact ⟨zjB (by rw [hcnt,hc];omega),zjB (zjA hlt (by omega))⟩
 ·have hge:=zjI hd
  have hie:i=s.l.length:=Nat.le_antisymm hi hge
  repeat' first|refine zie rfl ?_|refine zc4 rfl ?_|refine zc7 ?_|refine zc8 ?_|refine zc5 ?_|refine zc6 ?_|(simp (maxSteps:=2000000) only [go_sem,yqa,yqb,yqc,yqd,yqe,yqf];try rfl)|refine zc3 ?_|(refine And.intro ?_ ?_;focus (intros;simp_all only [yqg,yqh,yqi,and_self,true_and,and_true];done))
  have hp:mkd s.l k i=(Mk.put s k).l:=zwF hge
  rw [hp] at hb0 hok
  have hll:(Mk.put s k).l.length=s.l.length:=zlZ
  have hsl:=zwN (α:=DSegment) (h:=hk') (g:=g) (cap:=s.cap) (by decide) hb0 (by rw [hll];exact hs.1) hs.2.2.2.2 hok
  have hsv:(Sl.mk (some ⟨g,0,none⟩) s.cap (Mk.put s k).l:Sl DSegment)=Mk.put s k:=by rw [← ha];rfl
  rw [hsv] at hsl
  refine ⟨by rw [hie,List.take_length,hcs],hsl,fun _=>⟨⟨g,_,e,ha,hb0,?_⟩,fun x hx=>trivial⟩⟩
  rw [List.size_toArray,zwI,hll,hsp]
  rfl
theorem zNq (s:Sl DShip) (k:Int) (h:Hp) (hs:s.Ok h) (ho:Foot.own h s) (hn:(Foot.foot s).Nodup) (hk:0≤k∧k+(Mk.cnt s:Nat)≤4611686018427387904):Cw Tryz.prog 79 [s.val,.int .i64 k] h (fun b=>b ∈ Foot.foot s) fun v h'=>v=.int .i64 (k+(Mk.cnt s:Nat))∧Enc.ok h' (Mk.put s k)∧Foot.own h' (Mk.put s k):=by
 have hmax:=hs.max
 have hcs:Mk.cnt s=cntL s.l:=rfl
 by_cases hl:s.l=[]
 ·refine zlD (fun A W=>by simp) Tryz.func79 rfl rfl (by simp)  (fun b hb=>Foot.dom ho b hb) fun W0 hW=>?_
  repeat' first|refine zie rfl ?_|refine zc4 rfl ?_|refine zc7 ?_|refine zc8 ?_|refine zc5 ?_|refine zc6 ?_|(simp (maxSteps:=2000000) only [go_sem,yqa,yqb,yqc,yqd,yqe,yqf];try rfl)|refine zc3 ?_|(refine And.intro ?_ ?_;focus (intros;simp_all only [yqg,yqh,yqi,and_self,true_and,and_true];done))
  refine zde (ι:=Unit) (fun _=>⟨[(0,true,.c (.v s.val)),(1,true,.c (.v (.int .i64 k))),(5,true,.c (.v (.int .i64 0)))],[],h,0⟩) (fun _=>True) (fun _=>0) () trivial ?_ ?_
  ·simp (maxSteps:=2000000) only [go_sem,yqa,yqb,yqc,yqd,yqe,yqf]
  rintro _ _
  repeat' first|refine zie rfl ?_|refine zc4 rfl ?_|refine zc7 ?_|refine zc8 ?_|refine zc5 ?_|refine zc6 ?_|(simp (maxSteps:=2000000) only [go_sem,yqa,yqb,yqc,yqd,yqe,yqf];try rfl)|refine zc3 ?_|(refine And.intro ?_ ?_;focus (intros;simp_all only [yqg,yqh,yqi,and_self,true_and,and_true];done))
  refine zc9 rfl (fun hc=>?_) (fun hc=>?_)
  ·exact absurd (of_decide_eq_true hc) (by rw [hl];simp)
  ·repeat' first|refine zie rfl ?_|refine zc4 rfl ?_|refine zc7 ?_|refine zc8 ?_|refine zc5 ?_|refine zc6 ?_|(simp (maxSteps:=2000000) only [go_sem,yqa,yqb,yqc,yqd,yqe,yqf];try rfl)|refine zc3 ?_|(refine And.intro ?_ ?_;focus (intros;simp_all only [yqg,yqh,yqi,and_self,true_and,and_true];done))
   refine ⟨by rw [hcs,hl];simp [cntL],⟨(by simp [Mk.put,hl,mkL]),fun hne=>(hne (by simp [Mk.put,hl,mkL])).elim,fun i x hx=>by simp [Mk.put,hl,mkL] at hx,fun x hx=>by simp [Mk.put,hl,mkL] at hx,hs.2.2.2.2⟩,fun hne=>(hne (by simp [Mk.put,hl,mkL])).elim⟩
 obtain ⟨g,e,spare,ha,hb,hsp⟩:=zwO (by decide) hs ho hl
 have hsz:Enc.size DShip=6:=rfl
 have hfoot:g ∈ Foot.foot s:=by
  rw [show Foot.foot s=_ from Sl.foot_ne hl]
  simp [Sl.blkOf,ha]
 refine zlD (fun A W=>by simp) Tryz.func79 rfl rfl (by simp)  (fun b hb=>Foot.dom ho b hb) fun W0 hW=>?_
 repeat' first|refine zie rfl ?_|refine zc4 rfl ?_|refine zc7 ?_|refine zc8 ?_|refine zc5 ?_|refine zc6 ?_|(simp (maxSteps:=2000000) only [go_sem,yqa,yqb,yqc,yqd,yqe,yqf];try rfl)|refine zc3 ?_|(refine And.intro ?_ ?_;focus (intros;simp_all only [yqg,yqh,yqi,and_self,true_and,and_true];done))
 refine zde (ι:=Nat × Hp) (fun i=>⟨[(0,true,.c (.v s.val)),(1,true,.c (.v (.int .i64 (k+(cntL (s.l.take i.1):Nat))))),(5,true,.c (.v (.int .i64 i.1)))],[],i.2,0⟩) (fun i=>i.1≤s.l.length∧i.2 g=some (.cells (rowL (mkd s.l k i.1) spare).toArray e (0,0))∧∀ x ∈ mkd s.l k i.1,Enc.ok i.2 x) (fun i=>s.l.length - i.1) (0,h) ⟨Nat.zero_le _,by rw [zwE];exact hb,by rw [zwE];exact hs.2.2.2.1⟩ ?_ ?_
 ·simp (maxSteps:=2000000) only [go_sem,yqa,yqb,yqc,yqd,yqe,yqf]
  exact ⟨zjB (by rw [zwy];omega),rfl⟩
 rintro ⟨i,hk'⟩ ⟨hi,hb0,hok⟩
 repeat' first|refine zie rfl ?_|refine zc4 rfl ?_|refine zc7 ?_|refine zc8 ?_|refine zc5 ?_|refine zc6 ?_|(simp (maxSteps:=2000000) only [go_sem,yqa,yqb,yqc,yqd,yqe,yqf];try rfl)|refine zc3 ?_|(refine And.intro ?_ ?_;focus (intros;simp_all only [yqg,yqh,yqi,and_self,true_and,and_true];done))
 refine zc9 rfl (fun hd=>?_) (fun hd=>?_)
 ·have hlt:=zjH hd
  have hcnt:=zwC hlt
  have hcle:=zwD (l:=s.l) (i:=i+1)
  have hc:Mk.cnt s.l[i]=6:=rfl
  generalize hκ:k+((cntL (s.l.take i):Nat):Int)=κ
  have hκ0:0≤κ∧κ+6≤4611686018427387904:=by omega
  have hlen:i * 6+6≤(rowL (mkd s.l k i) spare).length:=by rw [zwI,zwG,hsz];omega
  generalize hX:rowL (mkd s.l k i) spare=X0 at hb0 hlen
  refine zc5 ?_
  simp (maxSteps:=2000000) only [go_sem,yqa,yqb,yqc,yqd,yqe,yqf]
  refine zc3 ?_
  refine zc8 ?_
  refine zwx [0,0,0,0,0,0,1] rfl ?_
  simp (maxSteps:=2000000) only [go_sem,yqa,yqb,yqc,yqd,yqe,yqf,ha,hlt,Option.map_some,za4,Option.isSome_some,yqj,Nat.zero_add,Nat.add_zero,List.toList_toArray,Hp.ins_ins]
  refine zhF (fun _=>zNl _ _ (by omega)) ?_
  simp (maxSteps:=2000000) only [go_sem,yqa,yqb,yqc,yqd,yqe,yqf,ha,hlt,Option.map_some,za4,Option.isSome_some,yqj,Nat.zero_add,Nat.add_zero,List.toList_toArray,Hp.ins_ins]
  refine zlV (by simp only [go_sem]) (by simp only [go_sem]) rfl rfl hb0 (.inr (hW _ hfoot)) (by simp only [List.size_toArray];omega) ?_
  simp (maxSteps:=2000000) only [go_sem,yqa,yqb,yqc,yqd,yqe,yqf,ha,hlt,Option.map_some,za4,Option.isSome_some,yqj,Nat.zero_add,Nat.add_zero,List.toList_toArray,Hp.ins_ins]
  refine zie rfl ?_
  simp (maxSteps:=2000000) only [go_sem,yqa,yqb,yqc,yqd,yqe,yqf]
  rw [zjz (by omega)]
  have hsl1:(spl (i * 6) [.string (mkT (κ))] X0).length=X0.length:=zwM (by simp only [List.length_cons,List.length_nil];omega)
  refine zwx [0,0,0,0,0,1] rfl ?_
  simp (maxSteps:=2000000) only [go_sem,yqa,yqb,yqc,yqd,yqe,yqf,ha,hlt,Option.map_some,za4,Option.isSome_some,yqj,Nat.zero_add,Nat.add_zero,List.toList_toArray,Hp.ins_ins]
  refine zlV (by simp only [go_sem]) (by simp only [go_sem]) rfl rfl Hp.ins_same (.inr (hW _ hfoot)) (by simp only [List.size_toArray,hsl1];omega) ?_
  simp (maxSteps:=2000000) only [go_sem,yqa,yqb,yqc,yqd,yqe,yqf,ha,hlt,Option.map_some,za4,Option.isSome_some,yqj,Nat.zero_add,Nat.add_zero,List.toList_toArray,Hp.ins_ins]
  rw [show spl (i * 6+1) [.int .i64 (κ+1)] (spl (i * 6) [.string (mkT (κ))] X0)=spl (i * 6) [.string (mkT (κ)),.int .i64 (κ+1)] X0 from zwL (m:=[.string (mkT (κ))]) (by simp only [List.length_cons,List.length_nil];omega)]
  refine zie rfl ?_
  simp (maxSteps:=2000000) only [go_sem,yqa,yqb,yqc,yqd,yqe,yqf]
  rw [zjz (by omega)]
  have hsl2:(spl (i * 6) [.string (mkT (κ)),.int .i64 (κ+1)] X0).length=X0.length:=zwM (by simp only [List.length_cons,List.length_nil];omega)
  refine zwx [0,0,0,0,0,1] rfl ?_
  simp (maxSteps:=2000000) only [go_sem,yqa,yqb,yqc,yqd,yqe,yqf,ha,hlt,Option.map_some,za4,Option.isSome_some,yqj,Nat.zero_add,Nat.add_zero,List.toList_toArray,Hp.ins_ins]
  refine zlV (by simp only [go_sem]) (by simp only [go_sem]) rfl rfl Hp.ins_same (.inr (hW _ hfoot)) (by simp only [List.size_toArray,hsl2];omega) ?_
  simp (maxSteps:=2000000) only [go_sem,yqa,yqb,yqc,yqd,yqe,yqf,ha,hlt,Option.map_some,za4,Option.isSome_some,yqj,Nat.zero_add,Nat.add_zero,List.toList_toArray,Hp.ins_ins]
  rw [show spl (i * 6+2) [.int .i64 (κ+1+1)] (spl (i * 6) [.string (mkT (κ)),.int .i64 (κ+1)] X0)=spl (i * 6) [.string (mkT (κ)),.int .i64 (κ+1),.int .i64 (κ+1+1)] X0 from zwL (m:=[.string (mkT (κ)),.int .i64 (κ+1)]) (by simp only [List.length_cons,List.length_nil];omega)]
  refine zie rfl ?_
  simp (maxSteps:=2000000) only [go_sem,yqa,yqb,yqc,yqd,yqe,yqf]
  rw [zjz (by omega)]
  have hsl3:(spl (i * 6) [.string (mkT (κ)),.int .i64 (κ+1),.int .i64 (κ+1+1)] X0).length=X0.length:=zwM (by simp only [List.length_cons,List.length_nil];omega)
  refine zwx [0,0,0,0,0,1] rfl ?_
  simp (maxSteps:=2000000) only [go_sem,yqa,yqb,yqc,yqd,yqe,yqf,ha,hlt,Option.map_some,za4,Option.isSome_some,yqj,Nat.zero_add,Nat.add_zero,List.toList_toArray,Hp.ins_ins]
  refine zlV (by simp only [go_sem]) (by simp only [go_sem]) rfl rfl Hp.ins_same (.inr (hW _ hfoot)) (by simp only [List.size_toArray,hsl3];omega) ?_
  simp (maxSteps:=2000000) only [go_sem,yqa,yqb,yqc,yqd,yqe,yqf,ha,hlt,Option.map_some,za4,Option.isSome_some,yqj,Nat.zero_add,Nat.add_zero,List.toList_toArray,Hp.ins_ins]
  rw [show spl (i * 6+3) [.int .i64 (κ+1+1+1)] (spl (i * 6) [.string (mkT (κ)),.int .i64 (κ+1),.int .i64 (κ+1+1)] X0)=spl (i * 6) [.string (mkT (κ)),.int .i64 (κ+1),.int .i64 (κ+1+1),.int .i64 (κ+1+1+1)] X0 from zwL (m:=[.string (mkT (κ)),.int .i64 (κ+1),.int .i64 (κ+1+1)]) (by simp only [List.length_cons,List.length_nil];omega)]
  refine zie rfl ?_
  simp (maxSteps:=2000000) only [go_sem,yqa,yqb,yqc,yqd,yqe,yqf]
  rw [zjz (by omega)]
  have hsl4:(spl (i * 6) [.string (mkT (κ)),.int .i64 (κ+1),.int .i64 (κ+1+1),.int .i64 (κ+1+1+1)] X0).length=X0.length:=zwM (by simp only [List.length_cons,List.length_nil];omega)
  refine zwx [0,0,0,0,0,1] rfl ?_
  simp (maxSteps:=2000000) only [go_sem,yqa,yqb,yqc,yqd,yqe,yqf,ha,hlt,Option.map_some,za4,Option.isSome_some,yqj,Nat.zero_add,Nat.add_zero,List.toList_toArray,Hp.ins_ins]
  refine zlV (by simp only [go_sem]) (by simp only [go_sem]) rfl rfl Hp.ins_same (.inr (hW _ hfoot)) (by simp only [List.size_toArray,hsl4];omega) ?_
  simp (maxSteps:=2000000) only [go_sem,yqa,yqb,yqc,yqd,yqe,yqf,ha,hlt,Option.map_some,za4,Option.isSome_some,yqj,Nat.zero_add,Nat.add_zero,List.toList_toArray,Hp.ins_ins]
  rw [show spl (i * 6+4) [.int .i64 (κ+1+1+1+1)] (spl (i * 6) [.string (mkT (κ)),.int .i64 (κ+1),.int .i64 (κ+1+1),.int .i64 (κ+1+1+1)] X0)=spl (i * 6) [.string (mkT (κ)),.int .i64 (κ+1),.int .i64 (κ+1+1),.int .i64 (κ+1+1+1),.int .i64 (κ+1+1+1+1)] X0 from zwL (m:=[.string (mkT (κ)),.int .i64 (κ+1),.int .i64 (κ+1+1),.int .i64 (κ+1+1+1)]) (by simp only [List.length_cons,List.length_nil];omega)]
  refine zie rfl ?_
  simp (maxSteps:=2000000) only [go_sem,yqa,yqb,yqc,yqd,yqe,yqf]
  rw [zjz (by omega)]
  have hsl5:(spl (i * 6) [.string (mkT (κ)),.int .i64 (κ+1),.int .i64 (κ+1+1),.int .i64 (κ+1+1+1),.int .i64 (κ+1+1+1+1)] X0).length=X0.length:=zwM (by simp only [List.length_cons,List.length_nil];omega)
  refine zwx [0,0,0,0,0,0,0,1] rfl ?_
  simp (maxSteps:=2000000) only [go_sem,yqa,yqb,yqc,yqd,yqe,yqf,ha,hlt,Option.map_some,za4,Option.isSome_some,yqj,Nat.zero_add,Nat.add_zero,List.toList_toArray,Hp.ins_ins]
  refine ⟨by decide,?_⟩
  refine zlV (by simp only [go_sem]) (by simp only [go_sem]) rfl rfl Hp.ins_same (.inr (hW _ hfoot)) (by simp only [List.size_toArray,hsl5];omega) ?_
  simp (maxSteps:=2000000) only [go_sem,yqa,yqb,yqc,yqd,yqe,yqf,ha,hlt,Option.map_some,za4,Option.isSome_some,yqj,Nat.zero_add,Nat.add_zero,List.toList_toArray,Hp.ins_ins]
  rw [show spl (i * 6+5) [.bool ((κ+1+1+1+1+1).tmod 3 == 0)] (spl (i * 6) [.string (mkT (κ)),.int .i64 (κ+1),.int .i64 (κ+1+1),.int .i64 (κ+1+1+1),.int .i64 (κ+1+1+1+1)] X0)=spl (i * 6) [.string (mkT (κ)),.int .i64 (κ+1),.int .i64 (κ+1+1),.int .i64 (κ+1+1+1),.int .i64 (κ+1+1+1+1),.bool ((κ+1+1+1+1+1).tmod 3 == 0)] X0 from zwL (m:=[.string (mkT (κ)),.int .i64 (κ+1),.int .i64 (κ+1+1),.int .i64 (κ+1+1+1),.int .i64 (κ+1+1+1+1)]) (by simp only [List.length_cons,List.length_nil];omega)]
  refine zc4 rfl ?_
  simp (maxSteps:=2000000) only [go_sem,yqa,yqb,yqc,yqd,yqe,yqf]
  rw [zjz (by omega)]
  repeat' first|refine zie rfl ?_|refine zc4 rfl ?_|refine zc7 ?_|refine zc8 ?_|refine zc5 ?_|refine zc6 ?_|(simp (maxSteps:=2000000) only [go_sem,yqa,yqb,yqc,yqd,yqe,yqf];try rfl)|refine zc3 ?_|(refine And.intro ?_ ?_;focus (intros;simp_all only [yqg,yqh,yqi,and_self,true_and,and_true];done))
  refine ⟨(i+1,hk'.ins g (.cells (spl (i * 6) [.string (mkT (κ)),.int .i64 (κ+1),.int .i64 (κ+1+1),.int .i64 (κ+1+1+1),.int .i64 (κ+1+1+1+1),.bool ((κ+1+1+1+1+1).tmod 3 == 0)] X0).toArray e (0,0))),⟨hlt,?_,fun x hx=>?_⟩,by simp only;omega,?_⟩
  ·rw [← zwH hlt,← zwJ (by rw [zwG];exact hlt),hX]
   simp only
   rw [Hp.ins_same]
   congr 4
   simp only [show k+((cntL (List.take i s.l):Nat):Int)=κ from hκ,Mk.put,Enc.enc,DShip.cells]
   try simp only [mkB,Int.add_assoc,Int.reduceAdd]
   try rfl
  ·simp only at hx ⊢
   rw [← zwH hlt] at hx
   rcases List.mem_or_eq_of_mem_set hx with hx|rfl
   ·exact hok x hx
   ·exact (show zkB _∧I64 _∧I64 _∧I64 _∧I64 _ from ⟨Nat.le_trans (zNk _) (by decide),(by unfold I64;simp only [Mk.put];omega),(by unfold I64;simp only [Mk.put];omega),(by unfold I64;simp only [Mk.put];omega),(by unfold I64;simp only [Mk.put];omega)⟩)
  ·simp (maxSteps:=2000000) only [go_sem,yqa,yqb,yqc,yqd,yqe,yqf]
   exact ⟨zjB (by rw [hcnt,hc];omega),zjB (zjA hlt (by omega))⟩
 ·have hge:=zjI hd
  have hie:i=s.l.length:=Nat.le_antisymm hi hge
  repeat' first|refine zie rfl ?_|refine zc4 rfl ?_|refine zc7 ?_|refine zc8 ?_|refine zc5 ?_|refine zc6 ?_|(simp (maxSteps:=2000000) only [go_sem,yqa,yqb,yqc,yqd,yqe,yqf];try rfl)|refine zc3 ?_|(refine And.intro ?_ ?_;focus (intros;simp_all only [yqg,yqh,yqi,and_self,true_and,and_true];done))
  have hp:mkd s.l k i=(Mk.put s k).l:=zwF hge
  rw [hp] at hb0 hok
  have hll:(Mk.put s k).l.length=s.l.length:=zlZ
  have hsl:=zwN (α:=DShip) (h:=hk') (g:=g) (cap:=s.cap) (by decide) hb0 (by rw [hll];exact hs.1) hs.2.2.2.2 hok
  have hsv:(Sl.mk (some ⟨g,0,none⟩) s.cap (Mk.put s k).l:Sl DShip)=Mk.put s k:=by rw [← ha];rfl
  rw [hsv] at hsl
  refine ⟨by rw [hie,List.take_length,hcs],hsl,fun _=>⟨⟨g,_,e,ha,hb0,?_⟩,fun x hx=>trivial⟩⟩
  rw [List.size_toArray,zwI,hll,hsp]
  rfl
theorem zNr (s:Sl DSurge) (k:Int) (h:Hp) (hs:s.Ok h) (ho:Foot.own h s) (hn:(Foot.foot s).Nodup) (hk:0≤k∧k+(Mk.cnt s:Nat)≤4611686018427387904):Cw Tryz.prog 145 [s.val,.int .i64 k] h (fun b=>b ∈ Foot.foot s) fun v h'=>v=.int .i64 (k+(Mk.cnt s:Nat))∧Enc.ok h' (Mk.put s k)∧Foot.own h' (Mk.put s k):=by
 have hmax:=hs.max
 have hcs:Mk.cnt s=cntL s.l:=rfl
 by_cases hl:s.l=[]
 ·refine zlD (fun A W=>by simp) Tryz.func145 rfl rfl (by simp)  (fun b hb=>Foot.dom ho b hb) fun W0 hW=>?_
  repeat' first|refine zie rfl ?_|refine zc4 rfl ?_|refine zc7 ?_|refine zc8 ?_|refine zc5 ?_|refine zc6 ?_|(simp (maxSteps:=2000000) only [go_sem,yqa,yqb,yqc,yqd,yqe,yqf];try rfl)|refine zc3 ?_|(refine And.intro ?_ ?_;focus (intros;simp_all only [yqg,yqh,yqi,and_self,true_and,and_true];done))
  refine zde (ι:=Unit) (fun _=>⟨[(0,true,.c (.v s.val)),(1,true,.c (.v (.int .i64 k))),(5,true,.c (.v (.int .i64 0)))],[],h,0⟩) (fun _=>True) (fun _=>0) () trivial ?_ ?_
  ·simp (maxSteps:=2000000) only [go_sem,yqa,yqb,yqc,yqd,yqe,yqf]
  rintro _ _
  repeat' first|refine zie rfl ?_|refine zc4 rfl ?_|refine zc7 ?_|refine zc8 ?_|refine zc5 ?_|refine zc6 ?_|(simp (maxSteps:=2000000) only [go_sem,yqa,yqb,yqc,yqd,yqe,yqf];try rfl)|refine zc3 ?_|(refine And.intro ?_ ?_;focus (intros;simp_all only [yqg,yqh,yqi,and_self,true_and,and_true];done))
  refine zc9 rfl (fun hc=>?_) (fun hc=>?_)
  ·exact absurd (of_decide_eq_true hc) (by rw [hl];simp)
  ·repeat' first|refine zie rfl ?_|refine zc4 rfl ?_|refine zc7 ?_|refine zc8 ?_|refine zc5 ?_|refine zc6 ?_|(simp (maxSteps:=2000000) only [go_sem,yqa,yqb,yqc,yqd,yqe,yqf];try rfl)|refine zc3 ?_|(refine And.intro ?_ ?_;focus (intros;simp_all only [yqg,yqh,yqi,and_self,true_and,and_true];done))
   refine ⟨by rw [hcs,hl];simp [cntL],⟨(by simp [Mk.put,hl,mkL]),fun hne=>(hne (by simp [Mk.put,hl,mkL])).elim,fun i x hx=>by simp [Mk.put,hl,mkL] at hx,fun x hx=>by simp [Mk.put,hl,mkL] at hx,hs.2.2.2.2⟩,fun hne=>(hne (by simp [Mk.put,hl,mkL])).elim⟩
 obtain ⟨g,e,spare,ha,hb,hsp⟩:=zwO (by decide) hs ho hl
 have hsz:Enc.size DSurge=3:=rfl
 have hfoot:g ∈ Foot.foot s:=by
  rw [show Foot.foot s=_ from Sl.foot_ne hl]
  simp [Sl.blkOf,ha]
 refine zlD (fun A W=>by simp) Tryz.func145 rfl rfl (by simp)  (fun b hb=>Foot.dom ho b hb) fun W0 hW=>?_
 repeat' first|refine zie rfl ?_|refine zc4 rfl ?_|refine zc7 ?_|refine zc8 ?_|refine zc5 ?_|refine zc6 ?_|(simp (maxSteps:=2000000) only [go_sem,yqa,yqb,yqc,yqd,yqe,yqf];try rfl)|refine zc3 ?_|(refine And.intro ?_ ?_;focus (intros;simp_all only [yqg,yqh,yqi,and_self,true_and,and_true];done))
 refine zde (ι:=Nat × Hp) (fun i=>⟨[(0,true,.c (.v s.val)),(1,true,.c (.v (.int .i64 (k+(cntL (s.l.take i.1):Nat))))),(5,true,.c (.v (.int .i64 i.1)))],[],i.2,0⟩) (fun i=>i.1≤s.l.length∧i.2 g=some (.cells (rowL (mkd s.l k i.1) spare).toArray e (0,0))∧∀ x ∈ mkd s.l k i.1,Enc.ok i.2 x) (fun i=>s.l.length - i.1) (0,h) ⟨Nat.zero_le _,by rw [zwE];exact hb,by rw [zwE];exact hs.2.2.2.1⟩ ?_ ?_
 ·simp (maxSteps:=2000000) only [go_sem,yqa,yqb,yqc,yqd,yqe,yqf]
  exact ⟨zjB (by rw [zwy];omega),rfl⟩
 rintro ⟨i,hk'⟩ ⟨hi,hb0,hok⟩
 repeat' first|refine zie rfl ?_|refine zc4 rfl ?_|refine zc7 ?_|refine zc8 ?_|refine zc5 ?_|refine zc6 ?_|(simp (maxSteps:=2000000) only [go_sem,yqa,yqb,yqc,yqd,yqe,yqf];try rfl)|refine zc3 ?_|(refine And.intro ?_ ?_;focus (intros;simp_all only [yqg,yqh,yqi,and_self,true_and,and_true];done))
 refine zc9 rfl (fun hd=>?_) (fun hd=>?_)
 ·have hlt:=zjH hd
  have hcnt:=zwC hlt
  have hcle:=zwD (l:=s.l) (i:=i+1)
  have hc:Mk.cnt s.l[i]=3:=rfl
  generalize hκ:k+((cntL (s.l.take i):Nat):Int)=κ
  have hκ0:0≤κ∧κ+3≤4611686018427387904:=by omega
  have hlen:i * 3+3≤(rowL (mkd s.l k i) spare).length:=by rw [zwI,zwG,hsz];omega
  generalize hX:rowL (mkd s.l k i) spare=X0 at hb0 hlen
  refine zc5 ?_
  simp (maxSteps:=2000000) only [go_sem,yqa,yqb,yqc,yqd,yqe,yqf]
  refine zc3 ?_
  refine zc8 ?_
  refine zwx [0,0,0,0,0,1] rfl ?_
  simp (maxSteps:=2000000) only [go_sem,yqa,yqb,yqc,yqd,yqe,yqf,ha,hlt,Option.map_some,za4,Option.isSome_some,yqj,Nat.zero_add,Nat.add_zero,List.toList_toArray,Hp.ins_ins]
  refine zlV (by simp only [go_sem]) (by simp only [go_sem]) rfl rfl hb0 (.inr (hW _ hfoot)) (by simp only [List.size_toArray];omega) ?_
  simp (maxSteps:=2000000) only [go_sem,yqa,yqb,yqc,yqd,yqe,yqf,ha,hlt,Option.map_some,za4,Option.isSome_some,yqj,Nat.zero_add,Nat.add_zero,List.toList_toArray,Hp.ins_ins]
  refine zie rfl ?_
  simp (maxSteps:=2000000) only [go_sem,yqa,yqb,yqc,yqd,yqe,yqf]
  rw [zjz (by omega)]
  have hsl1:(spl (i * 3) [.int .i64 (κ)] X0).length=X0.length:=zwM (by simp only [List.length_cons,List.length_nil];omega)
  refine zwx [0,0,0,0,0,1] rfl ?_
  simp (maxSteps:=2000000) only [go_sem,yqa,yqb,yqc,yqd,yqe,yqf,ha,hlt,Option.map_some,za4,Option.isSome_some,yqj,Nat.zero_add,Nat.add_zero,List.toList_toArray,Hp.ins_ins]
  refine zlV (by simp only [go_sem]) (by simp only [go_sem]) rfl rfl Hp.ins_same (.inr (hW _ hfoot)) (by simp only [List.size_toArray,hsl1];omega) ?_
  simp (maxSteps:=2000000) only [go_sem,yqa,yqb,yqc,yqd,yqe,yqf,ha,hlt,Option.map_some,za4,Option.isSome_some,yqj,Nat.zero_add,Nat.add_zero,List.toList_toArray,Hp.ins_ins]
  rw [show spl (i * 3+1) [.int .i64 (κ+1)] (spl (i * 3) [.int .i64 (κ)] X0)=spl (i * 3) [.int .i64 (κ),.int .i64 (κ+1)] X0 from zwL (m:=[.int .i64 (κ)]) (by simp only [List.length_cons,List.length_nil];omega)]
  refine zie rfl ?_
  simp (maxSteps:=2000000) only [go_sem,yqa,yqb,yqc,yqd,yqe,yqf]
  rw [zjz (by omega)]
  have hsl2:(spl (i * 3) [.int .i64 (κ),.int .i64 (κ+1)] X0).length=X0.length:=zwM (by simp only [List.length_cons,List.length_nil];omega)
  refine zwx [0,0,0,0,0,1] rfl ?_
  simp (maxSteps:=2000000) only [go_sem,yqa,yqb,yqc,yqd,yqe,yqf,ha,hlt,Option.map_some,za4,Option.isSome_some,yqj,Nat.zero_add,Nat.add_zero,List.toList_toArray,Hp.ins_ins]
  refine zlV (by simp only [go_sem]) (by simp only [go_sem]) rfl rfl Hp.ins_same (.inr (hW _ hfoot)) (by simp only [List.size_toArray,hsl2];omega) ?_
  simp (maxSteps:=2000000) only [go_sem,yqa,yqb,yqc,yqd,yqe,yqf,ha,hlt,Option.map_some,za4,Option.isSome_some,yqj,Nat.zero_add,Nat.add_zero,List.toList_toArray,Hp.ins_ins]
  rw [show spl (i * 3+2) [.int .i64 (κ+1+1)] (spl (i * 3) [.int .i64 (κ),.int .i64 (κ+1)] X0)=spl (i * 3) [.int .i64 (κ),.int .i64 (κ+1),.int .i64 (κ+1+1)] X0 from zwL (m:=[.int .i64 (κ),.int .i64 (κ+1)]) (by simp only [List.length_cons,List.length_nil];omega)]
  refine zc4 rfl ?_
  simp (maxSteps:=2000000) only [go_sem,yqa,yqb,yqc,yqd,yqe,yqf]
  rw [zjz (by omega)]
  repeat' first|refine zie rfl ?_|refine zc4 rfl ?_|refine zc7 ?_|refine zc8 ?_|refine zc5 ?_|refine zc6 ?_|(simp (maxSteps:=2000000) only [go_sem,yqa,yqb,yqc,yqd,yqe,yqf];try rfl)|refine zc3 ?_|(refine And.intro ?_ ?_;focus (intros;simp_all only [yqg,yqh,yqi,and_self,true_and,and_true];done))
  refine ⟨(i+1,hk'.ins g (.cells (spl (i * 3) [.int .i64 (κ),.int .i64 (κ+1),.int .i64 (κ+1+1)] X0).toArray e (0,0))),⟨hlt,?_,fun x hx=>?_⟩,by simp only;omega,?_⟩
  ·rw [← zwH hlt,← zwJ (by rw [zwG];exact hlt),hX]
   simp only
   rw [Hp.ins_same]
   congr 4
   simp only [show k+((cntL (List.take i s.l):Nat):Int)=κ from hκ,Mk.put,Enc.enc,DSurge.cells]
   try simp only [mkB,Int.add_assoc,Int.reduceAdd]
   try rfl
  ·simp only at hx ⊢
   rw [← zwH hlt] at hx
   rcases List.mem_or_eq_of_mem_set hx with hx|rfl
   ·exact hok x hx
   ·exact (show I64 _∧I64 _∧I64 _ from by unfold I64;simp only [Mk.put];omega)
  ·simp (maxSteps:=2000000) only [go_sem,yqa,yqb,yqc,yqd,yqe,yqf]
   exact ⟨zjB (by rw [hcnt,hc];omega),zjB (zjA hlt (by omega))⟩
 ·have hge:=zjI hd
  have hie:i=s.l.length:=Nat.le_antisymm hi hge
  repeat' first|refine zie rfl ?_|refine zc4 rfl ?_|refine zc7 ?_|refine zc8 ?_|refine zc5 ?_|refine zc6 ?_|(simp (maxSteps:=2000000) only [go_sem,yqa,yqb,yqc,yqd,yqe,yqf];try rfl)|refine zc3 ?_|(refine And.intro ?_ ?_;focus (intros;simp_all only [yqg,yqh,yqi,and_self,true_and,and_true];done))
  have hp:mkd s.l k i=(Mk.put s k).l:=zwF hge
  rw [hp] at hb0 hok
  have hll:(Mk.put s k).l.length=s.l.length:=zlZ
  have hsl:=zwN (α:=DSurge) (h:=hk') (g:=g) (cap:=s.cap) (by decide) hb0 (by rw [hll];exact hs.1) hs.2.2.2.2 hok
  have hsv:(Sl.mk (some ⟨g,0,none⟩) s.cap (Mk.put s k).l:Sl DSurge)=Mk.put s k:=by rw [← ha];rfl
  rw [hsv] at hsl
  refine ⟨by rw [hie,List.take_length,hcs],hsl,fun _=>⟨⟨g,_,e,ha,hb0,?_⟩,fun x hx=>trivial⟩⟩
  rw [List.size_toArray,zwI,hll,hsp]
  rfl
theorem zNs (c:DChart) (k:Int) (h:Hp) (hc:Enc.ok h c) (ho:Foot.own h c) (hn:(Foot.foot c).Nodup) (hk:0≤k∧k+(zyn c:Nat)≤4611686018427387904):Cw Tryz.prog 78 [c.v,.int .i64 k] h (fun b=>b ∈ Foot.foot c) fun v h'=>v=.int .i64 (k+(zyn c:Nat))∧Enc.ok h' (zym c k)∧Foot.own h' (zym c k):=by
 have hdom:=fun b hb=>Foot.dom (x:=c) ho b hb
 have hcv:zyn c=Mk.cnt c.points+Mk.cnt c.segments:=rfl
 have hft:Foot.foot c=Foot.foot c.points ++ Foot.foot c.segments:=rfl
 rw [hft] at hn
 rw [zNc] at ho
 have hmem:∀ b,b ∈ Foot.foot c ↔ b ∈ Foot.foot c.points∨b ∈ Foot.foot c.segments:=fun b=>by rw [hft];simp only [List.mem_append,or_assoc]
 simp only [List.nodup_append,List.mem_append] at hn
 have ok0_0:Enc.ok h c.points:=hc.1
 have ow0_0:Foot.own h c.points:=ho.1
 have nd0:(Foot.foot c.points).Nodup:=hn.1
 have ok1_0:Enc.ok h c.segments:=hc.2
 have ow1_0:Foot.own h c.segments:=ho.2
 have nd1:(Foot.foot c.segments).Nodup:=hn.2.1
 have ds1_0:∀ b ∈ Foot.foot c.segments,¬ (b ∈ Foot.foot c.points):=fun b hi hq=>hn.2.2 b hq b hi rfl
 refine zlD (fun A W=>by simp) Tryz.func78 rfl rfl (by simp)  hdom fun W0 hW=>?_
 refine zie rfl ?_
 simp (maxSteps:=2000000) only [go_sem,yqa,yqb,yqc,yqd,yqe,yqf]
 refine zwx [0,0,0,1] rfl ?_
 simp (maxSteps:=2000000) only [go_sem,yqa,yqb,yqc,yqd,yqe,yqf]
 refine zlE (x:=⟨Tryz.prog,W0,h,_⟩) (zNo c.points (k) _ ok0_0 ow0_0 nd0 (by omega)) rfl (fun b hb=>⟨Foot.dom (x:=c.points) ow0_0 b hb,.inr (hW b ((hmem b).2 (Or.inl hb)))⟩) ?_
 rintro v h0 kp0 ⟨rfl,pk0,pw0⟩
 obtain ⟨ok1_1,ow1_1⟩:=ok_keep (x:=c.segments) ok1_0 ow1_0 ds1_0 kp0
 simp (maxSteps:=2000000) only [go_sem,yqa,yqb,yqc,yqd,yqe,yqf]
 refine zwx [0,0,0,1] rfl ?_
 simp (maxSteps:=2000000) only [go_sem,yqa,yqb,yqc,yqd,yqe,yqf]
 refine zlE (x:=⟨Tryz.prog,W0,h,_⟩) (zNp c.segments (k+(Mk.cnt c.points:Nat)) _ ok1_1 ow1_1 nd1 (by omega)) rfl (fun b hb=>⟨Foot.dom (x:=c.segments) ow1_1 b hb,.inr (hW b ((hmem b).2 (Or.inr hb)))⟩) ?_
 rintro v h1 kp1 ⟨rfl,pk1,pw1⟩
 have kk0_2:=ok_keep pk0 pw0 (fun b hb hi=>ds1_0 b hi (by rw [MkOk.foot] at hb;exact hb)) kp1
 obtain ⟨pk0_2,pw0_2⟩:=kk0_2
 simp (maxSteps:=2000000) only [go_sem,yqa,yqb,yqc,yqd,yqe,yqf]
 repeat' first|refine zie rfl ?_|refine zc4 rfl ?_|refine zc7 ?_|refine zc8 ?_|refine zc5 ?_|refine zc6 ?_|(simp (maxSteps:=2000000) only [go_sem,yqa,yqb,yqc,yqd,yqe,yqf];try rfl)|refine zc3 ?_
 exact ⟨by rw [hcv];congr 1;omega,⟨pk0_2,pk1⟩,⟨pw0_2,pw1⟩⟩
theorem zNt (c:DTide) (k:Int) (h:Hp) (hc:Enc.ok h c) (ho:Foot.own h c) (hn:(Foot.foot c).Nodup) (hk:0≤k∧k+(zyj c:Nat)≤4611686018427387904):Cw Tryz.prog 144 [c.v,.int .i64 k] h (fun b=>b ∈ Foot.foot c) fun v h'=>v=.int .i64 (k+(zyj c:Nat))∧Enc.ok h' (zyi c k)∧Foot.own h' (zyi c k):=by
 have hdom:=fun b hb=>Foot.dom (x:=c) ho b hb
 have hcv:zyj c=Mk.cnt c.parts:=rfl
 have hft:Foot.foot c=Foot.foot c.parts:=rfl
 rw [hft] at hn
 rw [zNa] at ho
 have hmem:∀ b,b ∈ Foot.foot c ↔ b ∈ Foot.foot c.parts:=fun b=>by rw [hft]
 have ok0_0:Enc.ok h c.parts:=hc.2
 have ow0_0:Foot.own h c.parts:=ho
 have nd0:(Foot.foot c.parts).Nodup:=hn
 refine zlD (fun A W=>by simp) Tryz.func144 rfl rfl (by simp)  hdom fun W0 hW=>?_
 refine zie rfl ?_
 simp (maxSteps:=2000000) only [go_sem,yqa,yqb,yqc,yqd,yqe,yqf]
 refine zwx [0,0,0,1] rfl ?_
 simp (maxSteps:=2000000) only [go_sem,yqa,yqb,yqc,yqd,yqe,yqf]
 refine zlE (x:=⟨Tryz.prog,W0,h,_⟩) (zNn c.parts (k) _ ok0_0 ow0_0 nd0 (by omega)) rfl (fun b hb=>⟨Foot.dom (x:=c.parts) ow0_0 b hb,.inr (hW b ((hmem b).2 hb))⟩) ?_
 rintro v h0 kp0 ⟨rfl,pk0,pw0⟩
 simp (maxSteps:=2000000) only [go_sem,yqa,yqb,yqc,yqd,yqe,yqf]
 repeat' first|refine zie rfl ?_|refine zc4 rfl ?_|refine zc7 ?_|refine zc8 ?_|refine zc5 ?_|refine zc6 ?_|(simp (maxSteps:=2000000) only [go_sem,yqa,yqb,yqc,yqd,yqe,yqf];try rfl)|refine zc3 ?_
 exact ⟨by rw [hcv],⟨hc.1,pk0⟩,pw0⟩
theorem zNu (c:DForecast) (k:Int) (h:Hp) (hc:Enc.ok h c) (ho:Foot.own h c) (hn:(Foot.foot c).Nodup) (hk:0≤k∧k+(zyl c:Nat)≤4611686018427387904):Cw Tryz.prog 77 [c.v,.int .i64 k] h (fun b=>b ∈ Foot.foot c) fun v h'=>v=.int .i64 (k+(zyl c:Nat))∧Enc.ok h' (zyk c k)∧Foot.own h' (zyk c k):=by
 have hdom:=fun b hb=>Foot.dom (x:=c) ho b hb
 have hcv:zyl c=zyj c.tide+Mk.cnt c.surges:=rfl
 have hft:Foot.foot c=Foot.foot c.tide ++ Foot.foot c.surges:=rfl
 rw [hft] at hn
 rw [zNb] at ho
 have hmem:∀ b,b ∈ Foot.foot c ↔ b ∈ Foot.foot c.tide∨b ∈ Foot.foot c.surges:=fun b=>by rw [hft];simp only [List.mem_append,or_assoc]
 simp only [List.nodup_append,List.mem_append] at hn
 have ok0_0:Enc.ok h c.tide:=hc.1
 have ow0_0:Foot.own h c.tide:=ho.1
 have nd0:(Foot.foot c.tide).Nodup:=hn.1
 have ok1_0:Enc.ok h c.surges:=hc.2
 have ow1_0:Foot.own h c.surges:=ho.2
 have nd1:(Foot.foot c.surges).Nodup:=hn.2.1
 have ds1_0:∀ b ∈ Foot.foot c.surges,¬ (b ∈ Foot.foot c.tide):=fun b hi hq=>hn.2.2 b hq b hi rfl
 refine zlD (fun A W=>by simp) Tryz.func77 rfl rfl (by simp)  hdom fun W0 hW=>?_
 refine zie rfl ?_
 simp (maxSteps:=2000000) only [go_sem,yqa,yqb,yqc,yqd,yqe,yqf]
 refine zwx [0,0,0,1] rfl ?_
 simp (maxSteps:=2000000) only [go_sem,yqa,yqb,yqc,yqd,yqe,yqf]
 refine zlE (x:=⟨Tryz.prog,W0,h,_⟩) (zNt c.tide (k) _ ok0_0 ow0_0 nd0 (by omega)) rfl (fun b hb=>⟨Foot.dom (x:=c.tide) ow0_0 b hb,.inr (hW b ((hmem b).2 (Or.inl hb)))⟩) ?_
 rintro v h0 kp0 ⟨rfl,pk0,pw0⟩
 obtain ⟨ok1_1,ow1_1⟩:=ok_keep (x:=c.surges) ok1_0 ow1_0 ds1_0 kp0
 simp (maxSteps:=2000000) only [go_sem,yqa,yqb,yqc,yqd,yqe,yqf]
 refine zwx [0,0,0,1] rfl ?_
 simp (maxSteps:=2000000) only [go_sem,yqa,yqb,yqc,yqd,yqe,yqf]
 refine zlE (x:=⟨Tryz.prog,W0,h,_⟩) (zNr c.surges (k+(zyj c.tide:Nat)) _ ok1_1 ow1_1 nd1 (by omega)) rfl (fun b hb=>⟨Foot.dom (x:=c.surges) ow1_1 b hb,.inr (hW b ((hmem b).2 (Or.inr hb)))⟩) ?_
 rintro v h1 kp1 ⟨rfl,pk1,pw1⟩
 have kk0_2:=ok_keep pk0 pw0 (fun b hb hi=>ds1_0 b hi (by rw [zyK] at hb;exact hb)) kp1
 obtain ⟨pk0_2,pw0_2⟩:=kk0_2
 simp (maxSteps:=2000000) only [go_sem,yqa,yqb,yqc,yqd,yqe,yqf]
 repeat' first|refine zie rfl ?_|refine zc4 rfl ?_|refine zc7 ?_|refine zc8 ?_|refine zc5 ?_|refine zc6 ?_|(simp (maxSteps:=2000000) only [go_sem,yqa,yqb,yqc,yqd,yqe,yqf];try rfl)|refine zc3 ?_
 exact ⟨by rw [hcv];congr 1;omega,⟨pk0_2,pk1⟩,⟨pw0_2,pw1⟩⟩
theorem zM0 (s:Sl DOption) (k:Int) (h:Hp) (hs:s.Ok h) (ho:Foot.own h s) (hn:(Foot.foot s).Nodup) (hk:0≤k∧k+(Mk.cnt s:Nat)≤4611686018427387904):Cw Tryz.prog 44 [s.val,.int .i64 k] h (fun b=>b ∈ Foot.foot s) fun v h'=>v=.int .i64 (k+(Mk.cnt s:Nat))∧Enc.ok h' (Mk.put s k)∧Foot.own h' (Mk.put s k):=by
 have hmax:=hs.max
 have hcs:Mk.cnt s=cntL s.l:=rfl
 by_cases hl:s.l=[]
 ·refine zlD (fun A W=>by simp) Tryz.func44 rfl rfl (by simp)  (fun b hb=>Foot.dom ho b hb) fun W0 hW=>?_
  repeat' first|refine zie rfl ?_|refine zc4 rfl ?_|refine zc7 ?_|refine zc8 ?_|refine zc5 ?_|refine zc6 ?_|(simp (maxSteps:=2000000) only [go_sem,yqa,yqb,yqc,yqd,yqe,yqf];try rfl)|refine zc3 ?_|(refine And.intro ?_ ?_;focus (intros;simp_all only [yqg,yqh,yqi,and_self,true_and,and_true];done))
  refine zde (ι:=Unit) (fun _=>⟨[(0,true,.c (.v s.val)),(1,true,.c (.v (.int .i64 k))),(5,true,.c (.v (.int .i64 0)))],[],h,0⟩) (fun _=>True) (fun _=>0) () trivial ?_ ?_
  ·simp (maxSteps:=2000000) only [go_sem,yqa,yqb,yqc,yqd,yqe,yqf]
  rintro _ _
  repeat' first|refine zie rfl ?_|refine zc4 rfl ?_|refine zc7 ?_|refine zc8 ?_|refine zc5 ?_|refine zc6 ?_|(simp (maxSteps:=2000000) only [go_sem,yqa,yqb,yqc,yqd,yqe,yqf];try rfl)|refine zc3 ?_|(refine And.intro ?_ ?_;focus (intros;simp_all only [yqg,yqh,yqi,and_self,true_and,and_true];done))
  refine zc9 rfl (fun hc=>?_) (fun hc=>?_)
  ·exact absurd (of_decide_eq_true hc) (by rw [hl];simp)
  ·repeat' first|refine zie rfl ?_|refine zc4 rfl ?_|refine zc7 ?_|refine zc8 ?_|refine zc5 ?_|refine zc6 ?_|(simp (maxSteps:=2000000) only [go_sem,yqa,yqb,yqc,yqd,yqe,yqf];try rfl)|refine zc3 ?_|(refine And.intro ?_ ?_;focus (intros;simp_all only [yqg,yqh,yqi,and_self,true_and,and_true];done))
   refine ⟨by rw [hcs,hl];simp [cntL],⟨(by simp [Mk.put,hl,mkL]),fun hne=>(hne (by simp [Mk.put,hl,mkL])).elim,fun i x hx=>by simp [Mk.put,hl,mkL] at hx,fun x hx=>by simp [Mk.put,hl,mkL] at hx,hs.2.2.2.2⟩,fun hne=>(hne (by simp [Mk.put,hl,mkL])).elim⟩
 obtain ⟨g,e,spare,ha,hb,hsp⟩:=zwO (by decide) hs ho hl
 have hsz:Enc.size DOption=4:=rfl
 have hft:Foot.foot s=s.blkOf :: s.l.flatMap Foot.foot:=Sl.foot_ne hl
 have hbo:s.blkOf=g:=by simp [Sl.blkOf,ha]
 have hfoot:g ∈ Foot.foot s:=by rw [hft,hbo];exact List.mem_cons_self ..
 have hnd:=hn
 rw [hft,hbo] at hnd
 have hgn:=(List.nodup_cons.1 hnd).1
 have hnd:=(List.nodup_cons.1 hnd).2
 have hin:∀ i (hi:i < s.l.length) b,b ∈ Foot.foot s.l[i]→b ∈ Foot.foot s:=fun i hi b hm=>by
  rw [hft];exact List.mem_cons_of_mem _ (List.mem_flatMap.2 ⟨_,List.getElem_mem hi,hm⟩)
 have hgi:∀ i (hi:i < s.l.length) b,b ∈ Foot.foot s.l[i]→b ≠ g:=fun i hi b hm e'=>hgn (by rw [← e'];exact List.mem_flatMap.2 ⟨_,List.getElem_mem hi,hm⟩)
 refine zlD (fun A W=>by simp) Tryz.func44 rfl rfl (by simp)  (fun b hb=>Foot.dom ho b hb) fun W0 hW=>?_
 repeat' first|refine zie rfl ?_|refine zc4 rfl ?_|refine zc7 ?_|refine zc8 ?_|refine zc5 ?_|refine zc6 ?_|(simp (maxSteps:=2000000) only [go_sem,yqa,yqb,yqc,yqd,yqe,yqf];try rfl)|refine zc3 ?_|(refine And.intro ?_ ?_;focus (intros;simp_all only [yqg,yqh,yqi,and_self,true_and,and_true];done))
 refine zde (ι:=Nat × Hp) (fun i=>⟨[(0,true,.c (.v s.val)),(1,true,.c (.v (.int .i64 (k+(cntL (s.l.take i.1):Nat))))),(5,true,.c (.v (.int .i64 i.1)))],[],i.2,0⟩) (fun i=>i.1≤s.l.length∧i.2 g=some (.cells (rowL (mkd s.l k i.1) spare).toArray e (0,0))∧∀ j (hj:j < s.l.length),(j < i.1→Enc.ok i.2 (Mk.put s.l[j] (k+(cntL (s.l.take j):Nat)))∧Foot.own i.2 (Mk.put s.l[j] (k+(cntL (s.l.take j):Nat))))∧(i.1≤j→Enc.ok i.2 s.l[j]∧Foot.own i.2 s.l[j])) (fun i=>s.l.length - i.1) (0,h) ⟨Nat.zero_le _,by rw [zwE];exact hb,fun j hj=>⟨fun hj0=>absurd hj0 (Nat.not_lt_zero _),fun _=>⟨hs.2.2.2.1 _ (List.getElem_mem hj),(ho hl).2 _ (List.getElem_mem hj)⟩⟩⟩ ?_ ?_
 ·simp (maxSteps:=2000000) only [go_sem,yqa,yqb,yqc,yqd,yqe,yqf]
  exact ⟨zjB (by rw [zwy];omega),rfl⟩
 rintro ⟨i,hk'⟩ ⟨hi,hb0,hok⟩
 repeat' first|refine zie rfl ?_|refine zc4 rfl ?_|refine zc7 ?_|refine zc8 ?_|refine zc5 ?_|refine zc6 ?_|(simp (maxSteps:=2000000) only [go_sem,yqa,yqb,yqc,yqd,yqe,yqf];try rfl)|refine zc3 ?_|(refine And.intro ?_ ?_;focus (intros;simp_all only [yqg,yqh,yqi,and_self,true_and,and_true];done))
 refine zc9 rfl (fun hd=>?_) (fun hd=>?_)
 ·have hlt:=zjH hd
  have hcnt:=zwC hlt
  have hcle:=zwD (l:=s.l) (i:=i+1)
  have hc:Mk.cnt s.l[i]=3+Mk.cnt s.l[i].pas:=rfl
  have hcell:(rowL (mkd s.l k i) spare)[i * 4+3]?=some s.l[i].pas.val:=zyt (α:=DOption) (f:=3) (by rw [zwG];exact hlt) (by rw [zya hlt];rfl)
  have hnext:rowL (mkd s.l k (i+1)) spare=spl (i * 4) (Enc.enc (Mk.put s.l[i] (k+(cntL (s.l.take i):Nat)))) (rowL (mkd s.l k i) spare):=by
   rw [← zwH hlt];exact (zyw (α:=DOption) (by rw [zwG];exact hlt)).symm
  have hlen:i * 4+4≤(rowL (mkd s.l k i) spare).length:=by rw [zwI,zwG,hsz];omega
  obtain ⟨oki,owni⟩:=(hok i hlt).2 (Nat.le_refl _)
  generalize hκ:k+((cntL (s.l.take i):Nat):Int)=κ at hnext
  have hκ0:0≤κ∧κ+(Mk.cnt s.l[i]:Nat)≤4611686018427387904:=by omega
  generalize hX:rowL (mkd s.l k i) spare=X0 at hb0 hlen hcell hnext
  refine zc5 ?_
  simp (maxSteps:=2000000) only [go_sem,yqa,yqb,yqc,yqd,yqe,yqf]
  refine zc3 ?_
  refine zc8 ?_
  refine zwx [0,0,0,0,0,1] rfl ?_
  simp (maxSteps:=2000000) only [go_sem,yqa,yqb,yqc,yqd,yqe,yqf,ha,hlt,Option.map_some,za4,Option.isSome_some,yqj,Nat.zero_add,Nat.add_zero,List.toList_toArray,Hp.ins_ins]
  refine zlV (by simp only [go_sem]) (by simp only [go_sem]) rfl rfl hb0 (.inr (hW _ hfoot)) (by simp only [List.size_toArray];omega) ?_
  simp (maxSteps:=2000000) only [go_sem,yqa,yqb,yqc,yqd,yqe,yqf,ha,hlt,Option.map_some,za4,Option.isSome_some,yqj,Nat.zero_add,Nat.add_zero,List.toList_toArray,Hp.ins_ins]
  refine zie rfl ?_
  simp (maxSteps:=2000000) only [go_sem,yqa,yqb,yqc,yqd,yqe,yqf]
  rw [zjz (by omega)]
  have hsl1:(spl (i * 4) [.int .i64 (κ)] X0).length=X0.length:=zwM (by simp only [List.length_cons,List.length_nil];omega)
  refine zwx [0,0,0,0,0,1] rfl ?_
  simp (maxSteps:=2000000) only [go_sem,yqa,yqb,yqc,yqd,yqe,yqf,ha,hlt,Option.map_some,za4,Option.isSome_some,yqj,Nat.zero_add,Nat.add_zero,List.toList_toArray,Hp.ins_ins]
  refine zlV (by simp only [go_sem]) (by simp only [go_sem]) rfl rfl Hp.ins_same (.inr (hW _ hfoot)) (by simp only [List.size_toArray,hsl1];omega) ?_
  simp (maxSteps:=2000000) only [go_sem,yqa,yqb,yqc,yqd,yqe,yqf,ha,hlt,Option.map_some,za4,Option.isSome_some,yqj,Nat.zero_add,Nat.add_zero,List.toList_toArray,Hp.ins_ins]
  rw [show spl (i * 4+1) [.int .i64 (κ+1)] (spl (i * 4) [.int .i64 (κ)] X0)=spl (i * 4) [.int .i64 (κ),.int .i64 (κ+1)] X0 from zwL (m:=[.int .i64 (κ)]) (by simp only [List.length_cons,List.length_nil];omega)]
  refine zie rfl ?_
  simp (maxSteps:=2000000) only [go_sem,yqa,yqb,yqc,yqd,yqe,yqf]
  rw [zjz (by omega)]
  have hsl2:(spl (i * 4) [.int .i64 (κ),.int .i64 (κ+1)] X0).length=X0.length:=zwM (by simp only [List.length_cons,List.length_nil];omega)
  refine zwx [0,0,0,0,0,1] rfl ?_
  simp (maxSteps:=2000000) only [go_sem,yqa,yqb,yqc,yqd,yqe,yqf,ha,hlt,Option.map_some,za4,Option.isSome_some,yqj,Nat.zero_add,Nat.add_zero,List.toList_toArray,Hp.ins_ins]
  refine zlV (by simp only [go_sem]) (by simp only [go_sem]) rfl rfl Hp.ins_same (.inr (hW _ hfoot)) (by simp only [List.size_toArray,hsl2];omega) ?_
  simp (maxSteps:=2000000) only [go_sem,yqa,yqb,yqc,yqd,yqe,yqf,ha,hlt,Option.map_some,za4,Option.isSome_some,yqj,Nat.zero_add,Nat.add_zero,List.toList_toArray,Hp.ins_ins]
  rw [show spl (i * 4+2) [.int .i64 (κ+1+1)] (spl (i * 4) [.int .i64 (κ),.int .i64 (κ+1)] X0)=spl (i * 4) [.int .i64 (κ),.int .i64 (κ+1),.int .i64 (κ+1+1)] X0 from zwL (m:=[.int .i64 (κ),.int .i64 (κ+1)]) (by simp only [List.length_cons,List.length_nil];omega)]
  refine zie rfl ?_
  simp (maxSteps:=2000000) only [go_sem,yqa,yqb,yqc,yqd,yqe,yqf]
  rw [zjz (by omega)]
  have hbc:(hk'.ins g (.cells (spl (i * 4) [.int .i64 (κ),.int .i64 (κ+1),.int .i64 (κ+1+1)] X0).toArray e (0,0))) g=some (.cells (spl (i * 4) [.int .i64 (κ),.int .i64 (κ+1),.int .i64 (κ+1+1)] X0).toArray e (0,0)):=Hp.ins_same
  have hcell2:(spl (i * 4) [.int .i64 (κ),.int .i64 (κ+1),.int .i64 (κ+1+1)] X0)[i * 4+3]?=some s.l[i].pas.val:=by
   rw [zyu (by simp only [List.length_cons,List.length_nil];omega) (by simp only [List.length_cons,List.length_nil];omega)];exact hcell
  have hld:=zys hbc hcell2
  try simp only [Nat.mul_one,Nat.add_zero] at hld
  have hne:∀ b,b ≠ g→(hk'.ins g (.cells (spl (i * 4) [.int .i64 (κ),.int .i64 (κ+1),.int .i64 (κ+1+1)] X0).toArray e (0,0))) b=hk' b:=fun b hb=>Hp.ins_ne hb
  have hmove:∀ j (hj:j < s.l.length) (x:DOption),Foot.foot x=Foot.foot s.l[j]→Enc.ok hk' x→Foot.own hk' x→Enc.ok (hk'.ins g (.cells (spl (i * 4) [.int .i64 (κ),.int .i64 (κ+1),.int .i64 (κ+1+1)] X0).toArray e (0,0))) x∧Foot.own (hk'.ins g (.cells (spl (i * 4) [.int .i64 (κ),.int .i64 (κ+1),.int .i64 (κ+1+1)] X0).toArray e (0,0))) x:=fun j hj x hx h1 h2=>Foot.loc h1 h2 fun b hb o' ho'=>by rw [hne b (hgi j hj b (by rw [← hx];exact hb))];exact ho'
  obtain ⟨oki',owni'⟩:=hmove i hlt _ rfl oki owni
  refine zww [0,0,0,0,0,0,1] rfl ?_
  simp (maxSteps:=2000000) only [go_sem,yqa,yqb,yqc,yqd,yqe,yqf,ha,hlt,Option.map_some,za4,Option.isSome_some,yqj,Nat.zero_add,Nat.add_zero,List.toList_toArray,Hp.ins_ins,hld]
  refine zlE (x:=⟨Tryz.prog,W0,h,_⟩) (zMZ s.l[i].pas (κ+1+1+1) _ oki'.2.2.2 owni' (zyr hnd (List.getElem_mem hlt)) (by omega)) rfl (fun b hb=>⟨Foot.dom owni' b hb,.inr (hW b (hin i hlt b hb))⟩) ?_
  rintro v h2 hkeep ⟨rfl,ok2,own2⟩
  simp (maxSteps:=2000000) only [go_sem,yqa,yqb,yqc,yqd,yqe,yqf]
  repeat' first|refine zie rfl ?_|refine zc4 rfl ?_|refine zc7 ?_|refine zc8 ?_|refine zc5 ?_|refine zc6 ?_|(simp (maxSteps:=2000000) only [go_sem,yqa,yqb,yqc,yqd,yqe,yqf];try rfl)|refine zc3 ?_|(refine And.intro ?_ ?_;focus (intros;simp_all only [yqg,yqh,yqi,and_self,true_and,and_true];done))
  have hg2:h2 g=some (.cells (rowL (mkd s.l k (i+1)) spare).toArray e (0,0)):=by
   rw [hnext]
   refine hkeep g _ ?_ (fun hb=>hgi i hlt g hb rfl)
   rw [hbc]
   congr 3
   rw [show Enc.enc (Mk.put s.l[i] κ)=[.int .i64 (κ),.int .i64 (κ+1),.int .i64 (κ+1+1)] ++ [s.l[i].pas.val] from ?_]
   ·rw [zyv hcell]
   ·simp only [Mk.put,Enc.enc,DOption.cells,Int.add_assoc,Int.reduceAdd,mkB,Sl.val,zlZ]
    rfl
  refine ⟨(i+1,h2),⟨hlt,hg2,fun j hj=>⟨fun hji=>?_,fun hij=>?_⟩⟩,by simp only;omega,?_⟩
  ·rcases Nat.lt_succ_iff_lt_or_eq.1 hji with hji|rfl
   ·obtain ⟨h1,h3⟩:=(hok j hj).1 hji
    obtain ⟨h1,h3⟩:=hmove j hj _ (MkOk.foot _ _) h1 h3
    exact Foot.loc h1 h3 fun b hb o' ho'=>hkeep b o' ho' fun hb2=>zyq hnd hj hlt (by omega) b (by rw [← MkOk.foot s.l[j] (k+(cntL (s.l.take j):Nat))];exact hb) hb2
   ·simp only [hκ]
    exact ⟨(show Enc.ok h2 (Mk.put s.l[j] κ) from ⟨(by unfold I64;simp only [Mk.put];omega),(by unfold I64;simp only [Mk.put];omega),(by unfold I64;simp only [Mk.put];omega),(by have h9:=ok2;(try simp only [Int.add_assoc,Int.reduceAdd] at h9);exact h9)⟩),(show Foot.own h2 (Mk.put s.l[j] κ) from by have h9:=own2;(try simp only [Int.add_assoc,Int.reduceAdd] at h9);exact h9)⟩
  ·obtain ⟨h1,h3⟩:=(hok j hj).2 (by simp only at hij;omega)
   obtain ⟨h1,h3⟩:=hmove j hj _ rfl h1 h3
   exact Foot.loc h1 h3 fun b hb o' ho'=>hkeep b o' ho' fun hb2=>zyq hnd hj hlt (by simp only at hij;omega) b hb hb2
  ·simp (maxSteps:=2000000) only [go_sem,yqa,yqb,yqc,yqd,yqe,yqf]
   exact ⟨zjB (by rw [hcnt,hc];omega),zjB (zjA hlt (by omega))⟩
 ·have hge:=zjI hd
  have hie:i=s.l.length:=Nat.le_antisymm hi hge
  repeat' first|refine zie rfl ?_|refine zc4 rfl ?_|refine zc7 ?_|refine zc8 ?_|refine zc5 ?_|refine zc6 ?_|(simp (maxSteps:=2000000) only [go_sem,yqa,yqb,yqc,yqd,yqe,yqf];try rfl)|refine zc3 ?_|(refine And.intro ?_ ?_;focus (intros;simp_all only [yqg,yqh,yqi,and_self,true_and,and_true];done))
  have hp:mkd s.l k i=(Mk.put s k).l:=zwF hge
  rw [hp] at hb0
  have hll:(Mk.put s k).l.length=s.l.length:=zlZ
  have hel:∀ x ∈ (Mk.put s k).l,Enc.ok hk' x∧Foot.own hk' x:=fun x hx=>by
   obtain ⟨j,hj,rfl⟩:=zyx hx
   exact (hok j hj).1 (by rw [hie];exact hj)
  have hsl:=zwN (α:=DOption) (h:=hk') (g:=g) (cap:=s.cap) (by decide) hb0 (by rw [hll];exact hs.1) hs.2.2.2.2 (fun x hx=>(hel x hx).1)
  have hsv:(Sl.mk (some ⟨g,0,none⟩) s.cap (Mk.put s k).l:Sl DOption)=Mk.put s k:=by rw [← ha];rfl
  rw [hsv] at hsl
  refine ⟨by rw [hie,List.take_length,hcs],hsl,fun _=>⟨⟨g,_,e,ha,hb0,?_⟩,fun x hx=>(hel x hx).2⟩⟩
  rw [List.size_toArray,zwI,hll,hsp]
  rfl
theorem zNv (c:DHarbour) (k:Int) (h:Hp) (hc:Enc.ok h c) (ho:Foot.own h c) (hn:(Foot.foot c).Nodup) (hk:0≤k∧k+(zyp c:Nat)≤4611686018427387904):Cw Tryz.prog 22 [c.v,.int .i64 k] h (fun b=>b ∈ Foot.foot c) fun v h'=>v=.int .i64 (k+(zyp c:Nat))∧Enc.ok h' (zyo c k)∧Foot.own h' (zyo c k):=by
 have hdom:=fun b hb=>Foot.dom (x:=c) ho b hb
 have hcv:zyp c=zyl c.forecast+zyn c.chart+Mk.cnt c.fleet+zyh c.crew:=rfl
 have hft:Foot.foot c=Foot.foot c.forecast ++ Foot.foot c.chart ++ Foot.foot c.fleet ++ Foot.foot c.crew:=rfl
 rw [hft] at hn
 rw [zNd] at ho
 have hmem:∀ b,b ∈ Foot.foot c ↔ b ∈ Foot.foot c.forecast∨b ∈ Foot.foot c.chart∨b ∈ Foot.foot c.fleet∨b ∈ Foot.foot c.crew:=fun b=>by rw [hft];simp only [List.mem_append,or_assoc]
 simp only [List.nodup_append,List.mem_append] at hn
 have ok0_0:Enc.ok h c.forecast:=hc.1
 have ow0_0:Foot.own h c.forecast:=ho.1
 have nd0:(Foot.foot c.forecast).Nodup:=hn.1.1.1
 have ok1_0:Enc.ok h c.chart:=hc.2.1
 have ow1_0:Foot.own h c.chart:=ho.2.1
 have nd1:(Foot.foot c.chart).Nodup:=hn.1.1.2.1
 have ds1_0:∀ b ∈ Foot.foot c.chart,¬ (b ∈ Foot.foot c.forecast):=fun b hi hq=>hn.1.1.2.2 b hq b hi rfl
 have ok2_0:Enc.ok h c.fleet:=hc.2.2.1
 have ow2_0:Foot.own h c.fleet:=ho.2.2.1
 have nd2:(Foot.foot c.fleet).Nodup:=hn.1.2.1
 have ds2_0:∀ b ∈ Foot.foot c.fleet,¬ (b ∈ Foot.foot c.forecast):=fun b hi hq=>hn.1.2.2 b (Or.inl hq) b hi rfl
 have ds2_1:∀ b ∈ Foot.foot c.fleet,¬ (b ∈ Foot.foot c.chart):=fun b hi hq=>hn.1.2.2 b (Or.inr hq) b hi rfl
 have ok3_0:Enc.ok h c.crew:=hc.2.2.2.2
 have ow3_0:Foot.own h c.crew:=ho.2.2.2
 have nd3:(Foot.foot c.crew).Nodup:=hn.2.1
 have ds3_0:∀ b ∈ Foot.foot c.crew,¬ (b ∈ Foot.foot c.forecast):=fun b hi hq=>hn.2.2 b (Or.inl (Or.inl hq)) b hi rfl
 have ds3_1:∀ b ∈ Foot.foot c.crew,¬ (b ∈ Foot.foot c.chart):=fun b hi hq=>hn.2.2 b (Or.inl (Or.inr hq)) b hi rfl
 have ds3_2:∀ b ∈ Foot.foot c.crew,¬ (b ∈ Foot.foot c.fleet):=fun b hi hq=>hn.2.2 b (Or.inr hq) b hi rfl
 refine zlD (fun A W=>by simp) Tryz.func22 rfl rfl (by simp)  hdom fun W0 hW=>?_
 refine zie rfl ?_
 simp (maxSteps:=2000000) only [go_sem,yqa,yqb,yqc,yqd,yqe,yqf]
 refine zwx [0,0,0,1] rfl ?_
 simp (maxSteps:=2000000) only [go_sem,yqa,yqb,yqc,yqd,yqe,yqf]
 refine zlE (x:=⟨Tryz.prog,W0,h,_⟩) (zNu c.forecast (k) _ ok0_0 ow0_0 nd0 (by omega)) rfl (fun b hb=>⟨Foot.dom (x:=c.forecast) ow0_0 b hb,.inr (hW b ((hmem b).2 (Or.inl hb)))⟩) ?_
 rintro v h0 kp0 ⟨rfl,pk0,pw0⟩
 obtain ⟨ok1_1,ow1_1⟩:=ok_keep (x:=c.chart) ok1_0 ow1_0 ds1_0 kp0
 obtain ⟨ok2_1,ow2_1⟩:=ok_keep (x:=c.fleet) ok2_0 ow2_0 ds2_0 kp0
 obtain ⟨ok3_1,ow3_1⟩:=ok_keep (x:=c.crew) ok3_0 ow3_0 ds3_0 kp0
 simp (maxSteps:=2000000) only [go_sem,yqa,yqb,yqc,yqd,yqe,yqf]
 refine zwx [0,0,0,1] rfl ?_
 simp (maxSteps:=2000000) only [go_sem,yqa,yqb,yqc,yqd,yqe,yqf]
 refine zlE (x:=⟨Tryz.prog,W0,h,_⟩) (zNs c.chart (k+(zyl c.forecast:Nat)) _ ok1_1 ow1_1 nd1 (by omega)) rfl (fun b hb=>⟨Foot.dom (x:=c.chart) ow1_1 b hb,.inr (hW b ((hmem b).2 (Or.inr (Or.inl hb))))⟩) ?_
 rintro v h1 kp1 ⟨rfl,pk1,pw1⟩
 have kk0_2:=ok_keep pk0 pw0 (fun b hb hi=>ds1_0 b hi (by rw [zyM] at hb;exact hb)) kp1
 obtain ⟨pk0_2,pw0_2⟩:=kk0_2
 obtain ⟨ok2_2,ow2_2⟩:=ok_keep (x:=c.fleet) ok2_1 ow2_1 ds2_1 kp1
 obtain ⟨ok3_2,ow3_2⟩:=ok_keep (x:=c.crew) ok3_1 ow3_1 ds3_1 kp1
 simp (maxSteps:=2000000) only [go_sem,yqa,yqb,yqc,yqd,yqe,yqf]
 refine zwx [0,0,0,1] rfl ?_
 simp (maxSteps:=2000000) only [go_sem,yqa,yqb,yqc,yqd,yqe,yqf]
 refine zlE (x:=⟨Tryz.prog,W0,h,_⟩) (zNq c.fleet (k+(zyl c.forecast:Nat)+(zyn c.chart:Nat)) _ ok2_2 ow2_2 nd2 (by omega)) rfl (fun b hb=>⟨Foot.dom (x:=c.fleet) ow2_2 b hb,.inr (hW b ((hmem b).2 (Or.inr (Or.inr (Or.inl hb)))))⟩) ?_
 rintro v h2 kp2 ⟨rfl,pk2,pw2⟩
 have kk0_3:=ok_keep pk0_2 pw0_2 (fun b hb hi=>ds2_0 b hi (by rw [zyM] at hb;exact hb)) kp2
 obtain ⟨pk0_3,pw0_3⟩:=kk0_3
 have kk1_3:=ok_keep pk1 pw1 (fun b hb hi=>ds2_1 b hi (by rw [zyO] at hb;exact hb)) kp2
 obtain ⟨pk1_3,pw1_3⟩:=kk1_3
 obtain ⟨ok3_3,ow3_3⟩:=ok_keep (x:=c.crew) ok3_2 ow3_2 ds3_2 kp2
 simp (maxSteps:=2000000) only [go_sem,yqa,yqb,yqc,yqd,yqe,yqf]
 refine zwx [0,0,0,1] rfl ?_
 simp (maxSteps:=2000000) only [go_sem,yqa,yqb,yqc,yqd,yqe,yqf]
 refine zlE (x:=⟨Tryz.prog,W0,h,_⟩) (zNm c.crew (k+(zyl c.forecast:Nat)+(zyn c.chart:Nat)+(Mk.cnt c.fleet:Nat)) _ ok3_3 ow3_3 nd3 (by omega)) rfl (fun b hb=>⟨Foot.dom (x:=c.crew) ow3_3 b hb,.inr (hW b ((hmem b).2 (Or.inr (Or.inr (Or.inr hb)))))⟩) ?_
 rintro v h3 kp3 ⟨rfl,pk3,pw3⟩
 have kk0_4:=ok_keep pk0_3 pw0_3 (fun b hb hi=>ds3_0 b hi (by rw [zyM] at hb;exact hb)) kp3
 obtain ⟨pk0_4,pw0_4⟩:=kk0_4
 have kk1_4:=ok_keep pk1_3 pw1_3 (fun b hb hi=>ds3_1 b hi (by rw [zyO] at hb;exact hb)) kp3
 obtain ⟨pk1_4,pw1_4⟩:=kk1_4
 have kk2_4:=ok_keep pk2 pw2 (fun b hb hi=>ds3_2 b hi (by rw [MkOk.foot] at hb;exact hb)) kp3
 obtain ⟨pk2_4,pw2_4⟩:=kk2_4
 simp (maxSteps:=2000000) only [go_sem,yqa,yqb,yqc,yqd,yqe,yqf]
 repeat' first|refine zie rfl ?_|refine zc4 rfl ?_|refine zc7 ?_|refine zc8 ?_|refine zc5 ?_|refine zc6 ?_|(simp (maxSteps:=2000000) only [go_sem,yqa,yqb,yqc,yqd,yqe,yqf];try rfl)|refine zc3 ?_
 exact ⟨by rw [hcv];congr 1;omega,⟨pk0_4,pk1_4,pk2_4,hc.2.2.2.1,pk3⟩,⟨pw0_4,pw1_4,pw2_4,pw3⟩⟩
end Go.Proofs.YtjiggadgmmjnhaaGreat
namespace Go.Proofs.YtjiggadgmmjnhaaGreat
open Go Go.SL
set_option maxHeartbeats 1000000
theorem zM1 (s:Sl DPassage) (k:Int) (h:Hp) (hs:s.Ok h) (hm:mkL s.l k=s.l) (hk:0≤k∧k+(Mk.cnt s:Nat)≤4611686018427387904):Ct Tryz.prog 101 [s.val,.int .i64 k] h fun v h'=>v=.int .i64 (k+(Mk.cnt s:Nat))∧h'=h:=by
 have hmax:=hs.max
 have hcs:Mk.cnt s=cntL s.l:=rfl
 refine zdn (fun A W=>by simp) Tryz.func101 rfl rfl (by simp) fun W0=>?_
 repeat' first|refine zie rfl ?_|refine zc4 rfl ?_|refine zc7 ?_|refine zc8 ?_|refine zc5 ?_|refine zc6 ?_|(simp (maxSteps:=2000000) only [go_sem,yqa,yqb,yqc,yqd,yqe,yqf];try rfl)|refine zc3 ?_|(refine And.intro ?_ ?_;focus (intros;simp_all only [yqg,yqh,yqi,and_self,true_and,and_true];done))
 refine zde (ι:=Nat) (fun i=>⟨[(0,true,.c (.v s.val)),(1,true,.c (.v (.int .i64 (k+(cntL (s.l.take i):Nat))))),(5,true,.c (.v (.int .i64 i)))],[],h,0⟩) (fun i=>i≤s.l.length) (fun i=>s.l.length - i) 0 (Nat.zero_le _) ?_ ?_
 ·simp (maxSteps:=2000000) only [go_sem,yqa,yqb,yqc,yqd,yqe,yqf]
  exact ⟨zjB (by rw [zwy];omega),rfl⟩
 intro i hi
 repeat' first|refine zie rfl ?_|refine zc4 rfl ?_|refine zc7 ?_|refine zc8 ?_|refine zc5 ?_|refine zc6 ?_|(simp (maxSteps:=2000000) only [go_sem,yqa,yqb,yqc,yqd,yqe,yqf];try rfl)|refine zc3 ?_|(refine And.intro ?_ ?_;focus (intros;simp_all only [yqg,yqh,yqi,and_self,true_and,and_true];done))
 refine zc9 rfl (fun hd=>?_) (fun hd=>?_)
 ·have hlt:=zjH hd
  have hcnt:=zwC hlt
  have hcle:=zwD (l:=s.l) (i:=i+1)
  have hx:=zwQ hm hlt
  generalize hκ:k+((cntL (s.l.take i):Nat):Int)=κ at hx
  have hκ0:0≤κ∧κ+(Mk.cnt s.l[i]:Nat)≤4611686018427387904:=by omega
  have hc:Mk.cnt s.l[i]=5:=rfl
  have hf0:s.l[i].ship=κ:=(congrArg DPassage.ship hx).trans (by simp only [Mk.put])
  have hf1:s.l[i].seg=κ+1:=(congrArg DPassage.seg hx).trans (by simp only [Mk.put])
  have hf2:s.l[i].toward=((κ+1+1).tmod 3 == 0):=(congrArg DPassage.toward hx).trans (by simp only [Mk.put,mkB,Int.add_assoc,Int.reduceAdd])
  have hf3:s.l[i].start=κ+1+1+1:=(congrArg DPassage.start hx).trans (by simp only [Mk.put];try omega)
  have hf4:s.l[i].fin=κ+1+1+1+1:=(congrArg DPassage.fin hx).trans (by simp only [Mk.put];try omega)
  repeat' first|refine zie rfl ?_|refine zc4 rfl ?_|refine zc7 ?_|refine zc8 ?_|refine zc5 ?_|refine zc6 ?_|(simp (maxSteps:=2000000) only [go_sem,yqa,yqb,yqc,yqd,yqe,yqf,zxe hs hlt,hs.some hlt,hlt,yqj];try rfl)|refine zc3 ?_
  refine zc9 rfl (fun hq=>?_) (fun hq=>?_)
  ·exact absurd hf0 (zjD hq)
  refine zc5 ?_
  simp (maxSteps:=2000000) only [go_sem,yqa,yqb,yqc,yqd,yqe,yqf]
  refine zie rfl ?_
  simp (maxSteps:=2000000) only [go_sem,yqa,yqb,yqc,yqd,yqe,yqf]
  rw [zjz (by omega)]
  repeat' first|refine zie rfl ?_|refine zc4 rfl ?_|refine zc7 ?_|refine zc8 ?_|refine zc5 ?_|refine zc6 ?_|(simp (maxSteps:=2000000) only [go_sem,yqa,yqb,yqc,yqd,yqe,yqf,zxe hs hlt,hs.some hlt,hlt,yqj];try rfl)|refine zc3 ?_
  refine zc9 rfl (fun hq=>?_) (fun hq=>?_)
  ·exact absurd hf1 (zjD hq)
  refine zc5 ?_
  simp (maxSteps:=2000000) only [go_sem,yqa,yqb,yqc,yqd,yqe,yqf]
  refine zie rfl ?_
  simp (maxSteps:=2000000) only [go_sem,yqa,yqb,yqc,yqd,yqe,yqf]
  rw [zjz (by omega)]
  repeat' first|refine zie rfl ?_|refine zc4 rfl ?_|refine zc7 ?_|refine zc8 ?_|refine zc5 ?_|refine zc6 ?_|(simp (maxSteps:=2000000) only [go_sem,yqa,yqb,yqc,yqd,yqe,yqf,zxe hs hlt,hs.some hlt,hlt,yqj];try rfl)|refine zc3 ?_
  refine ⟨by decide,?_⟩
  repeat' first|refine zie rfl ?_|refine zc4 rfl ?_|refine zc7 ?_|refine zc8 ?_|refine zc5 ?_|refine zc6 ?_|(simp (maxSteps:=2000000) only [go_sem,yqa,yqb,yqc,yqd,yqe,yqf,zxe hs hlt,hs.some hlt,hlt,yqj];try rfl)|refine zc3 ?_
  refine zc9 rfl (fun hq=>?_) (fun hq=>?_)
  ·exact absurd hf2 (zjD hq)
  refine zc5 ?_
  simp (maxSteps:=2000000) only [go_sem,yqa,yqb,yqc,yqd,yqe,yqf]
  refine zie rfl ?_
  simp (maxSteps:=2000000) only [go_sem,yqa,yqb,yqc,yqd,yqe,yqf]
  rw [zjz (by omega)]
  repeat' first|refine zie rfl ?_|refine zc4 rfl ?_|refine zc7 ?_|refine zc8 ?_|refine zc5 ?_|refine zc6 ?_|(simp (maxSteps:=2000000) only [go_sem,yqa,yqb,yqc,yqd,yqe,yqf,zxe hs hlt,hs.some hlt,hlt,yqj];try rfl)|refine zc3 ?_
  refine zc9 rfl (fun hq=>?_) (fun hq=>?_)
  ·exact absurd hf3 (zjD hq)
  refine zc5 ?_
  simp (maxSteps:=2000000) only [go_sem,yqa,yqb,yqc,yqd,yqe,yqf]
  refine zie rfl ?_
  simp (maxSteps:=2000000) only [go_sem,yqa,yqb,yqc,yqd,yqe,yqf]
  rw [zjz (by omega)]
  repeat' first|refine zie rfl ?_|refine zc4 rfl ?_|refine zc7 ?_|refine zc8 ?_|refine zc5 ?_|refine zc6 ?_|(simp (maxSteps:=2000000) only [go_sem,yqa,yqb,yqc,yqd,yqe,yqf,zxe hs hlt,hs.some hlt,hlt,yqj];try rfl)|refine zc3 ?_
  refine zc9 rfl (fun hq=>?_) (fun hq=>?_)
  ·exact absurd hf4 (zjD hq)
  refine zc5 ?_
  simp (maxSteps:=2000000) only [go_sem,yqa,yqb,yqc,yqd,yqe,yqf]
  refine zc4 rfl ?_
  simp (maxSteps:=2000000) only [go_sem,yqa,yqb,yqc,yqd,yqe,yqf]
  rw [zjz (by omega)]
  repeat' first|refine zie rfl ?_|refine zc4 rfl ?_|refine zc7 ?_|refine zc8 ?_|refine zc5 ?_|refine zc6 ?_|(simp (maxSteps:=2000000) only [go_sem,yqa,yqb,yqc,yqd,yqe,yqf];try rfl)|refine zc3 ?_|(refine And.intro ?_ ?_;focus (intros;simp_all only [yqg,yqh,yqi,and_self,true_and,and_true];done))
  exact ⟨i+1,hlt,by omega,zjB (by rw [hcnt,hc];omega),zjB (zjA hlt (by omega))⟩
 ·have hge:=zjI hd
  have hie:i=s.l.length:=Nat.le_antisymm hi hge
  repeat' first|refine zie rfl ?_|refine zc4 rfl ?_|refine zc7 ?_|refine zc8 ?_|refine zc5 ?_|refine zc6 ?_|(simp (maxSteps:=2000000) only [go_sem,yqa,yqb,yqc,yqd,yqe,yqf];try rfl)|refine zc3 ?_|(refine And.intro ?_ ?_;focus (intros;simp_all only [yqg,yqh,yqi,and_self,true_and,and_true];done))
  rw [hie,List.take_length,hcs]
theorem zM2 (s:Sl DOption) (k:Int) (h:Hp) (hs:s.Ok h) (hm:mkL s.l k=s.l) (hk:0≤k∧k+(Mk.cnt s:Nat)≤4611686018427387904):Ct Tryz.prog 45 [s.val,.int .i64 k] h fun v h'=>v=.int .i64 (k+(Mk.cnt s:Nat))∧h'=h:=by
 have hmax:=hs.max
 have hcs:Mk.cnt s=cntL s.l:=rfl
 refine zdn (fun A W=>by simp) Tryz.func45 rfl rfl (by simp) fun W0=>?_
 repeat' first|refine zie rfl ?_|refine zc4 rfl ?_|refine zc7 ?_|refine zc8 ?_|refine zc5 ?_|refine zc6 ?_|(simp (maxSteps:=2000000) only [go_sem,yqa,yqb,yqc,yqd,yqe,yqf];try rfl)|refine zc3 ?_|(refine And.intro ?_ ?_;focus (intros;simp_all only [yqg,yqh,yqi,and_self,true_and,and_true];done))
 refine zde (ι:=Nat) (fun i=>⟨[(0,true,.c (.v s.val)),(1,true,.c (.v (.int .i64 (k+(cntL (s.l.take i):Nat))))),(5,true,.c (.v (.int .i64 i)))],[],h,0⟩) (fun i=>i≤s.l.length) (fun i=>s.l.length - i) 0 (Nat.zero_le _) ?_ ?_
 ·simp (maxSteps:=2000000) only [go_sem,yqa,yqb,yqc,yqd,yqe,yqf]
  exact ⟨zjB (by rw [zwy];omega),rfl⟩
 intro i hi
 repeat' first|refine zie rfl ?_|refine zc4 rfl ?_|refine zc7 ?_|refine zc8 ?_|refine zc5 ?_|refine zc6 ?_|(simp (maxSteps:=2000000) only [go_sem,yqa,yqb,yqc,yqd,yqe,yqf];try rfl)|refine zc3 ?_|(refine And.intro ?_ ?_;focus (intros;simp_all only [yqg,yqh,yqi,and_self,true_and,and_true];done))
 refine zc9 rfl (fun hd=>?_) (fun hd=>?_)
 ·have hlt:=zjH hd
  have hcnt:=zwC hlt
  have hcle:=zwD (l:=s.l) (i:=i+1)
  have hx:=zwQ hm hlt
  generalize hκ:k+((cntL (s.l.take i):Nat):Int)=κ at hx
  have hκ0:0≤κ∧κ+(Mk.cnt s.l[i]:Nat)≤4611686018427387904:=by omega
  have hc:Mk.cnt s.l[i]=3+Mk.cnt s.l[i].pas:=rfl
  have hf0:s.l[i].start=κ:=(congrArg DOption.start hx).trans (by simp only [Mk.put])
  have hf1:s.l[i].arr=κ+1:=(congrArg DOption.arr hx).trans (by simp only [Mk.put])
  have hf2:s.l[i].cost=κ+1+1:=(congrArg DOption.cost hx).trans (by simp only [Mk.put];try omega)
  have hf3:mkL s.l[i].pas.l (κ+1+1+1)=s.l[i].pas.l:=((congrArg (fun z=>(DOption.pas z).l) hx).trans (by simp only [Mk.put,Int.add_assoc,Int.reduceAdd])).symm
  repeat' first|refine zie rfl ?_|refine zc4 rfl ?_|refine zc7 ?_|refine zc8 ?_|refine zc5 ?_|refine zc6 ?_|(simp (maxSteps:=2000000) only [go_sem,yqa,yqb,yqc,yqd,yqe,yqf,zyy hs hlt,hs.some hlt,hlt,yqj];try rfl)|refine zc3 ?_
  refine zc9 rfl (fun hq=>?_) (fun hq=>?_)
  ·exact absurd hf0 (zjD hq)
  refine zc5 ?_
  simp (maxSteps:=2000000) only [go_sem,yqa,yqb,yqc,yqd,yqe,yqf]
  refine zie rfl ?_
  simp (maxSteps:=2000000) only [go_sem,yqa,yqb,yqc,yqd,yqe,yqf]
  rw [zjz (by omega)]
  repeat' first|refine zie rfl ?_|refine zc4 rfl ?_|refine zc7 ?_|refine zc8 ?_|refine zc5 ?_|refine zc6 ?_|(simp (maxSteps:=2000000) only [go_sem,yqa,yqb,yqc,yqd,yqe,yqf,zyy hs hlt,hs.some hlt,hlt,yqj];try rfl)|refine zc3 ?_
  refine zc9 rfl (fun hq=>?_) (fun hq=>?_)
  ·exact absurd hf1 (zjD hq)
  refine zc5 ?_
  simp (maxSteps:=2000000) only [go_sem,yqa,yqb,yqc,yqd,yqe,yqf]
  refine zie rfl ?_
  simp (maxSteps:=2000000) only [go_sem,yqa,yqb,yqc,yqd,yqe,yqf]
  rw [zjz (by omega)]
  repeat' first|refine zie rfl ?_|refine zc4 rfl ?_|refine zc7 ?_|refine zc8 ?_|refine zc5 ?_|refine zc6 ?_|(simp (maxSteps:=2000000) only [go_sem,yqa,yqb,yqc,yqd,yqe,yqf,zyy hs hlt,hs.some hlt,hlt,yqj];try rfl)|refine zc3 ?_
  refine zc9 rfl (fun hq=>?_) (fun hq=>?_)
  ·exact absurd hf2 (zjD hq)
  refine zc5 ?_
  simp (maxSteps:=2000000) only [go_sem,yqa,yqb,yqc,yqd,yqe,yqf]
  refine zie rfl ?_
  simp (maxSteps:=2000000) only [go_sem,yqa,yqb,yqc,yqd,yqe,yqf]
  rw [zjz (by omega)]
  repeat' first|refine zie rfl ?_|refine zc4 rfl ?_|refine zc7 ?_|refine zc8 ?_|refine zc5 ?_|refine zc6 ?_|refine zhF (fun _=>zM1 _ _ _ (hs.el hlt).2.2.2 hf3 (by omega)) ?_|(simp (maxSteps:=2000000) only [go_sem,yqa,yqb,yqc,yqd,yqe,yqf,zyy hs hlt,hs.some hlt,hlt,yqj];try rfl)|refine zc3 ?_|(refine And.intro ?_ ?_;focus (intros;simp_all only [yqg,yqh,yqi,and_self,true_and,and_true];done))
  refine zc9 rfl (fun hq=>?_) (fun hq=>?_)
  ·exact absurd (of_decide_eq_true hq) (by omega)
  repeat' first|refine zie rfl ?_|refine zc4 rfl ?_|refine zc7 ?_|refine zc8 ?_|refine zc5 ?_|refine zc6 ?_|(simp (maxSteps:=2000000) only [go_sem,yqa,yqb,yqc,yqd,yqe,yqf];try rfl)|refine zc3 ?_|(refine And.intro ?_ ?_;focus (intros;simp_all only [yqg,yqh,yqi,and_self,true_and,and_true];done))
  exact ⟨i+1,hlt,by omega,zjB (by rw [hcnt,hc];omega),zjB (zjA hlt (by omega))⟩
 ·have hge:=zjI hd
  have hie:i=s.l.length:=Nat.le_antisymm hi hge
  repeat' first|refine zie rfl ?_|refine zc4 rfl ?_|refine zc7 ?_|refine zc8 ?_|refine zc5 ?_|refine zc6 ?_|(simp (maxSteps:=2000000) only [go_sem,yqa,yqb,yqc,yqd,yqe,yqf];try rfl)|refine zc3 ?_|(refine And.intro ?_ ?_;focus (intros;simp_all only [yqg,yqh,yqi,and_self,true_and,and_true];done))
  rw [hie,List.take_length,hcs]
end Go.Proofs.YtjiggadgmmjnhaaGreat
