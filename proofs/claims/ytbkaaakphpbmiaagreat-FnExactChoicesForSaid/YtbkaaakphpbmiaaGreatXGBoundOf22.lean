/- What functions of the given program compute, each as a contract over what its arguments read as. No condition beside those that each theorem states. -/
import Derived.Test.YtbkaaakphpbmiaaGreatS21
set_option linter.unusedVariables false
set_option linter.unusedSimpArgs false
open Nat renaming reduceAdd → yqa, reduceMul → yqb, reduceBEq → yqc, reduceLeDiff → yqd, reduceLT → yqe, reduceEqDiff → yqf
open Bool renaming or_eq_false_iff → yqg, or_eq_true → yqh, and_eq_true → yqi
open Int renaming toNat_natCast → yqj, natCast_nonneg → yqk
namespace Go.Proofs.YtbkaaakphpbmiaaGreat
open Go Go.SL
set_option maxHeartbeats 1000000
end Go.Proofs.YtbkaaakphpbmiaaGreat
namespace Go.Proofs.YtbkaaakphpbmiaaGreat
open Go Go.SL
set_option maxHeartbeats 1000000
end Go.Proofs.YtbkaaakphpbmiaaGreat
namespace Go.Proofs.YtbkaaakphpbmiaaGreat
open Go Go.SL
set_option maxHeartbeats 1000000
def zH5 (x k:Nat):Prop:=x < 2 ^ k∧(0 < x→0 < k∧2 ^ (k - 1)≤x)
instance (x k:Nat):Decidable (zH5 x k):=inferInstanceAs (Decidable (_∧_))
end Go.Proofs.YtbkaaakphpbmiaaGreat
namespace Go.Proofs.YtbkaaakphpbmiaaGreat
open Go Go.SL
set_option maxHeartbeats 1000000
section
variable {both:Nat→Nat→Bool}
end
end Go.Proofs.YtbkaaakphpbmiaaGreat
namespace Go.Proofs.YtbkaaakphpbmiaaGreat
open Go Go.SL
set_option maxHeartbeats 1000000
end Go.Proofs.YtbkaaakphpbmiaaGreat
namespace Go.Proofs.YtbkaaakphpbmiaaGreat
open Go Go.SL
set_option maxHeartbeats 1000000
section
variable {hb h h2:Hp} {b most:Nat} {sets gs:Sl U64} {who:Sl Int}
end
end Go.Proofs.YtbkaaakphpbmiaaGreat
namespace Go.Proofs.YtbkaaakphpbmiaaGreat
open Go Go.SL
set_option maxHeartbeats 1000000
section
variable {hb h h2:Hp} {b most:Nat} {sets gs:Sl U64} {who:Sl Int}
end
end Go.Proofs.YtbkaaakphpbmiaaGreat
namespace Go.Proofs.YtbkaaakphpbmiaaGreat
open Go Go.SL
set_option maxHeartbeats 1000000
end Go.Proofs.YtbkaaakphpbmiaaGreat
namespace Go.Proofs.YtbkaaakphpbmiaaGreat
open Go Go.SL
set_option maxHeartbeats 1000000
theorem zH6 {l:List DPassage} {u:Value} (hu:u ∈ l.flatMap Enc.enc):u.oneCell'=true:=by
 obtain ⟨x,_,hu⟩:=List.mem_flatMap.1 hu
 exact Enc.one x u hu
end Go.Proofs.YtbkaaakphpbmiaaGreat
namespace Go.Proofs.YtbkaaakphpbmiaaGreat
open Go Go.SL
set_option maxHeartbeats 1000000
def zH7 (x:PHarbour) (a:DCall) (old:POption):List POption:=if zzC x a=true then (if zHW x a old=true then [old] else []) ++ (zE3 x a).filter (fun o=>!zHJ o old) else []
theorem zH8 {q:DOption} {B:Nat} (hz:Sz.sz (Con.con q)≤B):q.pas.l.length≤B:=by
 have h2:Sz.sz (Con.con q)=Sz.sz (Con.con q.pas):=rfl
 rw [h2] at hz
 have:=zHr hz
 rwa [zHs] at this
theorem zH9 {x:PHarbour} {a:DCall} {o:POption} (h:zHW x a o=true):Sz.sz o≤8:=by
 rw [zHW,yqi] at h
 have e:(zHR x a (o.pas.map (·.seg)) o.start).1=o:=of_decide_eq_true h.2
 rw [← e,zHR]
 split
 ·exact zFk
 ·exact Nat.zero_le _
theorem zIa (x:PHarbour) (a:DCall) (o:POption):Sz.sz (zH7 x a o)≤1048576:=by
 obtain ⟨h1,h2⟩:=zFm (x:=x) (a:=a)
 have key:(zH7 x a o).length≤9∧∀ y ∈ zH7 x a o,Sz.sz y≤8:=by
  rw [zH7]
  split
  ·refine ⟨?_,fun y hy=>?_⟩
   ·rw [List.length_append]
    have:=List.length_filter_le (fun o'=>!zHJ o' o) (zE3 x a)
    split
    ·rw [List.length_singleton];omega
    ·rw [List.length_nil];omega
   ·rcases List.mem_append.1 hy with hy|hy
    ·split at hy
     ·rename_i hi;rw [List.mem_singleton.1 hy];exact zH9 hi
     ·cases hy
    ·exact h2 y (List.mem_filter.1 hy).1
  ·exact ⟨Nat.zero_le _,fun y hy=>by cases hy⟩
 have:=zFn key.2
 omega
def zIb (h:Hp) (q:DOption) (v:Value) (h':Hp):Prop:=∃ z:DOption,v=z.v∧Con.con z=Con.con q∧Enc.ok h' z∧Mine h h' z
theorem zIc {h h':Hp} {q:DOption} {s:Sl DPassage} (hq:Enc.ok h q) (e:s.l=q.pas.l) (ok:s.Ok h') (m:Mine h h' s):Con.con (DOption.mk q.start q.arr q.cost s)=Con.con q∧Enc.ok h' (DOption.mk q.start q.arr q.cost s)∧Mine h h' (DOption.mk q.start q.arr q.cost s):=by
 refine ⟨?_,⟨hq.1,hq.2.1,hq.2.2.1,ok⟩,m⟩
 rw [zkU,zkU,show Con.con s=s.l from zDq s,show Con.con q.pas=q.pas.l from zDq q.pas,e]
theorem zId (q:DOption) (h:Hp) (hq:Enc.ok h q) (hz:q.pas.l.length≤1048576):Ct Tryz.prog 127 [q.v] h (zIb h q):=by
 refine zdm (fun A W=>by simp) Tryz.func127 rfl rfl (by simp) fun W0=>?_
 refine Wk ?_
 refine zAZ rfl ?_
 refine zAS [0,2,4,6,1,3,5,7] rfl (by kernel_rfl) ?_
 refine Evs ?_
 refine zAX 8 0 [5,3,1,4,2,0] rfl (by kernel_rfl) (by kernel_rfl) (by kernel_rfl) rfl ?_
 refine Evs ?_
 refine zko (zH4 q.pas _ hq.2.2.2 hz) rfl ?_
 rintro v h1 le1 ⟨s,rfl,es,oks,ms⟩
 refine Evs ?_
 refine zAX 9 0 [] rfl (by kernel_rfl) (by kernel_rfl) (by kernel_rfl) rfl ?_
 refine Evs ?_
 refine zAX 10 0 [] rfl (by kernel_rfl) (by kernel_rfl) (by kernel_rfl) rfl ?_
 refine Evs ?_
 refine zAY (by kernel_rfl) ?_
 refine Wk ?_
 obtain ⟨k1,k2,k3⟩:=zIc hq es oks ms
 exact ⟨_,rfl,k1,k2,k3⟩
theorem zIe (q:DOption) (h:Hp) (hq:Enc.ok h q) (hz:q.pas.l.length≤1048576):Ct Tryz.prog 123 [q.v] h (zIb h q):=by
 have hall:h.ldL q.pas.val 5=some (q.pas.l.flatMap Enc.enc):=Sl.Ok.all hq.2.2.2 (by decide)
 refine zdm (fun A W=>by simp) Tryz.func123 rfl rfl (by simp) fun W0=>?_
 repeat' first|refine zid rfl ?_|refine zc4 rfl ?_|refine zc7 ?_|refine zc8 ?_|refine zc5 ?_|refine zc6 ?_|(simp (maxSteps:=2000000) only [go_sem,yqa,yqb,yqc,yqd,yqe,yqf,hall,Option.isSome_some,Option.getD_some];try rfl)|refine zc3 ?_|(refine And.intro ?_ ?_;focus (intros;simp_all only [yqg,yqh,yqi,and_self,true_and,and_true];done))
 refine ⟨fun u hu=>zH6 hu,by simp only [maxLen];omega,by omega,?_⟩
 refine zl1 3 q.pas.l rfl rfl (Nat.zero_add _) rfl (by decide) hq.2.2.2.2.2.2.1 h (Hp.le_refl _) (Mines.flat (fun _=>rfl) (fun _=>trivial)) fun s h' e1 e2 e3 e4=>?_
 refine Wk ?_
 obtain ⟨k1,k2,k3⟩:=zIc hq e1 e2 e4
 exact ⟨_,rfl,k1,k2,k3⟩
set_option maxRecDepth 30000 in
theorem zIf (x:DHarbour) (a:DCall) (q:DOption) (h:Hp) (hx:Enc.ok h x) (ha:Enc.ok h a) (hq:Enc.ok h q) (hz:Sz.sz (Con.con q)≤1048576):Ct Tryz.prog 50 [x.v,a.v,q.v] h fun v h'=>∃ s:Sl DOption,v=s.val∧Con.con s=zH7 (Con.con x) (Con.con a) (Con.con q)∧s.Ok h'∧Mine h h' s:=by
 have hpz:q.pas.l.length≤1048576:=zH8 hz
 refine zdm (fun A W=>by simp) Tryz.func50 rfl rfl (by simp) fun W0=>?_
 repeat' first|refine zid rfl ?_|refine zc4 rfl ?_|refine zc7 ?_|refine zc8 ?_|refine zc5 ?_|refine zc6 ?_|refine zhE (fun _=>zzF x a _ hx ha) ?_|(simp (maxSteps:=2000000) only [go_sem,yqa,yqb,yqc,yqd,yqe,yqf];try rfl)|refine zc3 ?_|(refine And.intro ?_ ?_;focus (intros;simp_all only [yqg,yqh,yqi,and_self,true_and,and_true];done))
 refine zc9 rfl (fun hc=>?_) (fun hc=>?_)
 ·rw [Bool.not_eq_true'] at hc
  have hF:zH7 (Con.con x) (Con.con a) (Con.con q)=[]:=by rw [zH7,if_neg (by rw [show zzC (Con.con x) (Con.con a)=false from hc];exact Bool.false_ne_true)]
  rw [hF]
  refine Wk ?_
  exact ⟨⟨none,0,[]⟩,rfl,rfl,znu,Mine.nil⟩
 rw [Bool.not_eq_false'] at hc
 have hF:zH7 (Con.con x) (Con.con a) (Con.con q)=(if zHW (Con.con x) (Con.con a) (Con.con q)=true then [Con.con q] else []) ++ (zE3 (Con.con x) (Con.con a)).filter (fun o=>!zHJ o (Con.con q)):=by rw [zH7,if_pos hc]
 rw [hF]
 repeat' first|refine zid rfl ?_|refine zc4 rfl ?_|refine zc7 ?_|refine zc8 ?_|refine zc5 ?_|refine zc6 ?_|refine zhE (fun _=>zHY x a q _ hx ha hq hz) ?_|(simp (maxSteps:=2000000) only [go_sem,yqa,yqb,yqc,yqd,yqe,yqf];try rfl)|refine zc3 ?_|(refine And.intro ?_ ?_;focus (intros;simp_all only [yqg,yqh,yqi,and_self,true_and,and_true];done))
 refine zHN (ι:=List DOption × Hp) (fun t=>⟨[(3,true,.c (.p 0 0)),(4,true,.c (.p 1 0)),(5,true,.c (.p 2 0)),(6,true,.c (.v (.slice none 0 0))),(7,true,.c (.s 3))],[(0,.box 62 [.v (.int .i64 x.forecast.tide.mean),.v x.forecast.tide.parts.val,.v x.forecast.surges.val,.v x.chart.points.val,.v x.chart.segments.val,.v x.fleet.val,.v (.int .i64 x.regime.gap),.v (.bool x.regime.noMeet),.v (.int .i64 x.crew.tugs),.v (.int .i64 x.crew.pilots),.v (.int .i64 x.crew.rest),.v x.crew.moves.val]),(1,.box 79 [.v (.int .i64 a.ship),.v (.int .i64 a.src),.v (.int .i64 a.dst),.v (.int .i64 a.ready),.v (.int .i64 a.due)]),(2,.box 84 [.v (.int .i64 q.start),.v (.int .i64 q.arr),.v (.int .i64 q.cost),.v q.pas.val]),(3,.row 84 4 t.1.length (t.1.flatMap Enc.enc))],t.2,4⟩) (fun t=>t.1.length≤1∧t.1.map Con.con=(if zHW (Con.con x) (Con.con a) (Con.con q)=true then [Con.con q] else [])∧(∀ y ∈ t.1,Enc.ok t.2 y)∧Mines h t.2 t.1∧h.le t.2) ?_ ?_
 ·refine zc9 rfl (fun hi=>?_) (fun hi=>?_)
  ·rw [if_pos hi]
   refine Wk ?_
   refine zko (zId q _ hq hpz) rfl ?_
   rintro v h1 le1 ⟨z,rfl,ez,okz,mz⟩
   refine Wk ?_
   refine ⟨by simp only [maxLen];omega,([z],h1),[0,1,2,5],⟨Nat.le_refl _,by rw [List.map_cons,List.map_nil,ez],fun y hy=>by rw [List.mem_singleton.1 hy];exact okz,by have:=Mines.snoc (l:=[]) Mines.nil (fun y hy=>by cases hy) le1 (Hp.le_refl _) mz;simpa using this,le1⟩,?_⟩
   refine Evs ?_
   repeat' first|exact rfl|exact trivial|assumption|decide|refine And.intro ?_ ?_
  ·rw [if_neg (by rw [hi];exact Bool.false_ne_true)]
   refine Wk ?_
   refine ⟨([],h),[0,1,2,3],⟨Nat.zero_le _,rfl,fun y hy=>(by cases hy),Mines.nil,Hp.le_refl _⟩,?_⟩
   refine Evs ?_
   repeat' first|exact rfl|exact trivial|assumption|decide|refine And.intro ?_ ?_
 rintro ⟨ac,h1⟩ ⟨hac1,hacc,hacok,hacm,le1⟩
 simp only at hac1 hacc hacok hacm le1
 refine Wk ?_
 refine zko (zFf x a _ (Enc.mono le1 hx) (Enc.mono le1 ha)) rfl ?_
 rintro v h2 le2 ⟨s,rfl,es,oks,ms⟩
 have es:s.l.map (Con.con (α:=DOption))=zE3 (Con.con x) (Con.con a):=es
 have hq2:Enc.ok h2 q:=Enc.mono (Hp.le_trans le1 le2) hq
 have hlm:s.l.length≤8:=by
  have:=(zFm (x:=Con.con x) (a:=Con.con a)).1
  rwa [← es,List.length_map] at this
 refine Evs ?_
 refine Wk ?_
 rw [← hacc,← es]
 refine zDN (ι:=Nat × List DOption) (fun i=>⟨[(5,true,.c (.p 0 0)),(6,true,.c (.v (.slice none 0 0))),(7,true,.c (.s 1)),(26,true,.c (.v s.val)),(27,true,.c (.v (.int .i64 s.l.length))),(28,true,.c (.v (.int .i64 i.1)))],[(0,.box 84 [.v (.int .i64 q.start),.v (.int .i64 q.arr),.v (.int .i64 q.cost),.v q.pas.val]),(1,.row 84 4 i.2.length (i.2.flatMap Enc.enc))],h2,2⟩) (fun i=>i.1≤s.l.length∧i.2.length≤i.1+1∧i.2.map Con.con=ac.map Con.con ++ ((s.l.map Con.con).take i.1).filter (fun o=>!zHJ o (Con.con q))∧(∀ y ∈ i.2,Enc.ok h2 y∧Foot.own h2 y)∧(i.2.flatMap Foot.foot).Sublist (ac.flatMap Foot.foot ++ (s.l.take i.1).flatMap Foot.foot)) (fun i=>s.l.length - i.1) (0,ac) ⟨Nat.zero_le _,by omega,by simp,fun y hy=>⟨Enc.mono le2 (hacok y hy),(Foot.loc (hacok y hy) (hacm.1 y hy) fun b _ o ho=>le2 b o ho).2⟩,by simp⟩ [2,3] ?_ ?_
 ·refine Evs ?_
  repeat' first|exact rfl|exact trivial|assumption|decide|refine And.intro ?_ ?_
 rintro ⟨k,acc⟩ ⟨hk,hal,hmp,hok,hsub⟩
 simp only at hk hal hmp hok hsub
 refine Wk ?_
 refine zc9 rfl (fun hd=>?_) (fun hd=>?_)
 ·have hlt:=zjG hd
  have hke:((s.l.map (Con.con (α:=DOption))).take (k+1)).filter (fun o=>!zHJ o (Con.con q))=((s.l.map Con.con).take k).filter (fun o=>!zHJ o (Con.con q)) ++ (if zHJ (Con.con s.l[k]) (Con.con q)=true then [] else [Con.con s.l[k]]):=by
   rw [List.take_succ_eq_append_getElem (by rw [List.length_map];exact hlt),List.filter_append,List.getElem_map]
   cases hh:zHJ (Con.con s.l[k]) (Con.con q) <;> simp [hh]
  have hsk:((s.l.take k).flatMap (Foot.foot (α:=DOption))).Sublist ((s.l.take (k+1)).flatMap Foot.foot):=by
   rw [List.take_succ_eq_append_getElem hlt,List.flatMap_append];exact List.sublist_append_left _ _
  repeat' first|refine zid rfl ?_|refine zc4 rfl ?_|refine zc7 ?_|refine zc8 ?_|refine zc5 ?_|refine zc6 ?_|refine zhE (fun _=>zHL s.l[k] q _ (oks.el hlt) hq2) ?_|(simp (maxSteps:=2000000) only [go_sem,yqa,yqb,yqc,yqd,yqe,yqf,zkW oks hlt,oks.some hlt,hlt,yqj];try rfl)|refine zc3 ?_|(refine And.intro ?_ ?_;focus (intros;simp_all only [yqg,yqh,yqi,and_self,true_and,and_true];done))
  refine zc9 rfl (fun hi=>?_) (fun hi=>?_)
  ·rw [Bool.not_eq_true'] at hi
   refine Wk ?_
   refine ⟨by simp only [maxLen];omega,by omega,?_⟩
   refine Wk ?_
   refine ⟨(k+1,acc ++ [s.l[k]]),[0,4],⟨hlt,by simp only [List.length_append,List.length_singleton];omega,?_,fun y hy=>?_,?_⟩,by simp only;omega,?_⟩
   ·show (acc ++ [s.l[k]]).map Con.con=_
    rw [hke,if_neg (by rw [hi];exact Bool.false_ne_true),List.map_append,hmp,List.append_assoc];rfl
   ·rcases List.mem_append.1 hy with hy|hy
    ·exact hok y hy
    ·rw [List.mem_singleton.1 hy];exact ⟨oks.el hlt,zG4 ms.1 hlt⟩
   ·show ((acc ++ [s.l[k]]).flatMap Foot.foot).Sublist _
    rw [List.flatMap_append,List.take_succ_eq_append_getElem hlt,List.flatMap_append,← List.append_assoc]
    exact List.Sublist.append hsub (List.Sublist.refl _)
   refine Evs ?_
   simp only [List.flatMap_append,List.length_append]
   repeat' first|exact zjA (zjz hlt (by omega))|exact rfl|exact trivial|assumption|decide|refine And.intro ?_ ?_
  ·rw [Bool.not_eq_false'] at hi
   refine Wk ?_
   refine ⟨(k+1,acc),[0,1],⟨hlt,by simp only;omega,?_,hok,hsub.trans (List.Sublist.append (List.Sublist.refl _) hsk)⟩,by simp only;omega,?_⟩
   ·simp only
    rw [hke,if_pos hi,List.append_nil];exact hmp
   refine Evs ?_
   repeat' first|exact zjA (zjz hlt (by omega))|exact rfl|exact trivial|assumption|decide|refine And.intro ?_ ?_
 ·have hge:=zjH hd
  obtain rfl:k=s.l.length:=by omega
  refine zc6 ?_
  refine Evs ?_
  have hsl:(s.l.flatMap Foot.foot).Sublist (Foot.foot s):=by
   by_cases hne:s.l=[]
   ·rw [hne];exact List.nil_sublist _
   ·rw [show Foot.foot s=_ from Sl.foot_ne hne]
    exact List.sublist_cons_self _ _
  rw [List.take_length] at hsub
  have hmm:Mines h h2 acc:=by
   have hnd:(ac.flatMap Foot.foot ++ s.l.flatMap Foot.foot).Nodup:=by
    refine List.nodup_append.2 ⟨hacm.2.2,ms.2.2.sublist hsl,fun u hu v hv e=>?_⟩
    subst e
    obtain ⟨y,hy,hu⟩:=List.mem_flatMap.1 hu
    exact Foot.dom (hacm.1 y hy) u hu (ms.2.1 u (hsl.subset hv))
   refine ⟨fun y hy=>(hok y hy).2,fun b hb=>?_,hnd.sublist hsub⟩
   rcases List.mem_append.1 (hsub.subset hb) with hb|hb
   ·exact hacm.2.1 b hb
   ·exact znC le1 (ms.2.1 b (hsl.subset hb))
  refine zl1 1 acc rfl rfl rfl rfl (by decide) (fun y hy=>(hok y hy).1) h (Hp.le_trans le1 le2) hmm fun w h' e2 e3 e4 e5=>?_
  refine Wk ?_
  refine ⟨w,rfl,?_,e3,e5⟩
  show w.l.map Con.con=_
  rw [e2,hmp,List.take_of_length_le (by rw [List.length_map];exact Nat.le_refl _)]
set_option maxRecDepth 30000 in
theorem zIg (x:DHarbour) (a:DCall) (q:DOption) (h:Hp) (hx:Enc.ok h x) (ha:Enc.ok h a) (hq:Enc.ok h q) (hz:Sz.sz (Con.con q)≤1048576):Ct Tryz.prog 48 [x.v,a.v,q.v] h fun v h'=>∃ s:Sl DOption,v=s.val∧Con.con s=zH7 (Con.con x) (Con.con a) (Con.con q)∧s.Ok h'∧Mine h h' s:=by
 have hpz:q.pas.l.length≤1048576:=zH8 hz
 refine zdm (fun A W=>by simp) Tryz.func48 rfl rfl (by simp) fun W0=>?_
 repeat' first|refine zid rfl ?_|refine zc4 rfl ?_|refine zc7 ?_|refine zc8 ?_|refine zc5 ?_|refine zc6 ?_|refine zhE (fun _=>zzG x a _ hx ha) ?_|(simp (maxSteps:=2000000) only [go_sem,yqa,yqb,yqc,yqd,yqe,yqf];try rfl)|refine zc3 ?_|(refine And.intro ?_ ?_;focus (intros;simp_all only [yqg,yqh,yqi,and_self,true_and,and_true];done))
 refine zc9 rfl (fun hc=>?_) (fun hc=>?_)
 ·rw [Bool.not_eq_true'] at hc
  have hF:zH7 (Con.con x) (Con.con a) (Con.con q)=[]:=by rw [zH7,if_neg (by rw [show zzC (Con.con x) (Con.con a)=false from hc];exact Bool.false_ne_true)]
  rw [hF]
  refine Wk ?_
  exact ⟨⟨none,0,[]⟩,rfl,rfl,znu,Mine.nil⟩
 rw [Bool.not_eq_false'] at hc
 have hF:zH7 (Con.con x) (Con.con a) (Con.con q)=(if zHW (Con.con x) (Con.con a) (Con.con q)=true then [Con.con q] else []) ++ (zE3 (Con.con x) (Con.con a)).filter (fun o=>!zHJ o (Con.con q)):=by rw [zH7,if_pos hc]
 rw [hF]
 repeat' first|refine zid rfl ?_|refine zc4 rfl ?_|refine zc7 ?_|refine zc8 ?_|refine zc5 ?_|refine zc6 ?_|refine zhE (fun _=>zHZ x a q _ hx ha hq hz) ?_|(simp (maxSteps:=2000000) only [go_sem,yqa,yqb,yqc,yqd,yqe,yqf];try rfl)|refine zc3 ?_|(refine And.intro ?_ ?_;focus (intros;simp_all only [yqg,yqh,yqi,and_self,true_and,and_true];done))
 refine zHN (ι:=List DOption × Hp) (fun t=>⟨[(3,true,.c (.p 0 0)),(4,true,.c (.p 1 0)),(5,true,.c (.p 2 0)),(6,true,.c (.v (.slice none 0 0))),(7,true,.c (.s 3))],[(0,.box 62 [.v (.int .i64 x.forecast.tide.mean),.v x.forecast.tide.parts.val,.v x.forecast.surges.val,.v x.chart.points.val,.v x.chart.segments.val,.v x.fleet.val,.v (.int .i64 x.regime.gap),.v (.bool x.regime.noMeet),.v (.int .i64 x.crew.tugs),.v (.int .i64 x.crew.pilots),.v (.int .i64 x.crew.rest),.v x.crew.moves.val]),(1,.box 79 [.v (.int .i64 a.ship),.v (.int .i64 a.src),.v (.int .i64 a.dst),.v (.int .i64 a.ready),.v (.int .i64 a.due)]),(2,.box 84 [.v (.int .i64 q.start),.v (.int .i64 q.arr),.v (.int .i64 q.cost),.v q.pas.val]),(3,.row 84 4 t.1.length (t.1.flatMap Enc.enc))],t.2,4⟩) (fun t=>t.1.length≤1∧t.1.map Con.con=(if zHW (Con.con x) (Con.con a) (Con.con q)=true then [Con.con q] else [])∧(∀ y ∈ t.1,Enc.ok t.2 y)∧Mines h t.2 t.1∧h.le t.2) ?_ ?_
 ·refine zc9 rfl (fun hi=>?_) (fun hi=>?_)
  ·rw [if_pos hi]
   refine Wk ?_
   refine zko (zIe q _ hq hpz) rfl ?_
   rintro v h1 le1 ⟨z,rfl,ez,okz,mz⟩
   refine Wk ?_
   refine ⟨by simp only [maxLen];omega,([z],h1),[0,1,2,5],⟨Nat.le_refl _,by rw [List.map_cons,List.map_nil,ez],fun y hy=>by rw [List.mem_singleton.1 hy];exact okz,by have:=Mines.snoc (l:=[]) Mines.nil (fun y hy=>by cases hy) le1 (Hp.le_refl _) mz;simpa using this,le1⟩,?_⟩
   refine Evs ?_
   repeat' first|exact rfl|exact trivial|assumption|decide|refine And.intro ?_ ?_
  ·rw [if_neg (by rw [hi];exact Bool.false_ne_true)]
   refine Wk ?_
   refine ⟨([],h),[0,1,2,3],⟨Nat.zero_le _,rfl,fun y hy=>(by cases hy),Mines.nil,Hp.le_refl _⟩,?_⟩
   refine Evs ?_
   repeat' first|exact rfl|exact trivial|assumption|decide|refine And.intro ?_ ?_
 rintro ⟨ac,h1⟩ ⟨hac1,hacc,hacok,hacm,le1⟩
 simp only at hac1 hacc hacok hacm le1
 refine Wk ?_
 refine zko (zFg x a _ (Enc.mono le1 hx) (Enc.mono le1 ha)) rfl ?_
 rintro v h2 le2 ⟨s,rfl,es,oks,ms⟩
 have es:s.l.map (Con.con (α:=DOption))=zE3 (Con.con x) (Con.con a):=es
 have hq2:Enc.ok h2 q:=Enc.mono (Hp.le_trans le1 le2) hq
 have hlm:s.l.length≤8:=by
  have:=(zFm (x:=Con.con x) (a:=Con.con a)).1
  rwa [← es,List.length_map] at this
 refine Evs ?_
 refine Wk ?_
 rw [← hacc,← es]
 refine zDN (ι:=Nat × List DOption) (fun i=>⟨[(5,true,.c (.p 0 0)),(6,true,.c (.v (.slice none 0 0))),(7,true,.c (.s 1)),(26,true,.c (.v s.val)),(27,true,.c (.v (.int .i64 s.l.length))),(28,true,.c (.v (.int .i64 i.1)))],[(0,.box 84 [.v (.int .i64 q.start),.v (.int .i64 q.arr),.v (.int .i64 q.cost),.v q.pas.val]),(1,.row 84 4 i.2.length (i.2.flatMap Enc.enc))],h2,2⟩) (fun i=>i.1≤s.l.length∧i.2.length≤i.1+1∧i.2.map Con.con=ac.map Con.con ++ ((s.l.map Con.con).take i.1).filter (fun o=>!zHJ o (Con.con q))∧(∀ y ∈ i.2,Enc.ok h2 y∧Foot.own h2 y)∧(i.2.flatMap Foot.foot).Sublist (ac.flatMap Foot.foot ++ (s.l.take i.1).flatMap Foot.foot)) (fun i=>s.l.length - i.1) (0,ac) ⟨Nat.zero_le _,by omega,by simp,fun y hy=>⟨Enc.mono le2 (hacok y hy),(Foot.loc (hacok y hy) (hacm.1 y hy) fun b _ o ho=>le2 b o ho).2⟩,by simp⟩ [2,3] ?_ ?_
 ·refine Evs ?_
  repeat' first|exact rfl|exact trivial|assumption|decide|refine And.intro ?_ ?_
 rintro ⟨k,acc⟩ ⟨hk,hal,hmp,hok,hsub⟩
 simp only at hk hal hmp hok hsub
 refine Wk ?_
 refine zc9 rfl (fun hd=>?_) (fun hd=>?_)
 ·have hlt:=zjG hd
  have hke:((s.l.map (Con.con (α:=DOption))).take (k+1)).filter (fun o=>!zHJ o (Con.con q))=((s.l.map Con.con).take k).filter (fun o=>!zHJ o (Con.con q)) ++ (if zHJ (Con.con s.l[k]) (Con.con q)=true then [] else [Con.con s.l[k]]):=by
   rw [List.take_succ_eq_append_getElem (by rw [List.length_map];exact hlt),List.filter_append,List.getElem_map]
   cases hh:zHJ (Con.con s.l[k]) (Con.con q) <;> simp [hh]
  have hsk:((s.l.take k).flatMap (Foot.foot (α:=DOption))).Sublist ((s.l.take (k+1)).flatMap Foot.foot):=by
   rw [List.take_succ_eq_append_getElem hlt,List.flatMap_append];exact List.sublist_append_left _ _
  repeat' first|refine zid rfl ?_|refine zc4 rfl ?_|refine zc7 ?_|refine zc8 ?_|refine zc5 ?_|refine zc6 ?_|refine zhE (fun _=>zHM s.l[k] q _ (oks.el hlt) hq2) ?_|(simp (maxSteps:=2000000) only [go_sem,yqa,yqb,yqc,yqd,yqe,yqf,zkW oks hlt,oks.some hlt,hlt,yqj];try rfl)|refine zc3 ?_|(refine And.intro ?_ ?_;focus (intros;simp_all only [yqg,yqh,yqi,and_self,true_and,and_true];done))
  refine zc9 rfl (fun hi=>?_) (fun hi=>?_)
  ·rw [Bool.not_eq_true'] at hi
   refine Wk ?_
   refine ⟨by simp only [maxLen];omega,by omega,?_⟩
   refine Wk ?_
   refine ⟨(k+1,acc ++ [s.l[k]]),[0,4],⟨hlt,by simp only [List.length_append,List.length_singleton];omega,?_,fun y hy=>?_,?_⟩,by simp only;omega,?_⟩
   ·show (acc ++ [s.l[k]]).map Con.con=_
    rw [hke,if_neg (by rw [hi];exact Bool.false_ne_true),List.map_append,hmp,List.append_assoc];rfl
   ·rcases List.mem_append.1 hy with hy|hy
    ·exact hok y hy
    ·rw [List.mem_singleton.1 hy];exact ⟨oks.el hlt,zG4 ms.1 hlt⟩
   ·show ((acc ++ [s.l[k]]).flatMap Foot.foot).Sublist _
    rw [List.flatMap_append,List.take_succ_eq_append_getElem hlt,List.flatMap_append,← List.append_assoc]
    exact List.Sublist.append hsub (List.Sublist.refl _)
   refine Evs ?_
   simp only [List.flatMap_append,List.length_append]
   repeat' first|exact zjA (zjz hlt (by omega))|exact rfl|exact trivial|assumption|decide|refine And.intro ?_ ?_
  ·rw [Bool.not_eq_false'] at hi
   refine Wk ?_
   refine ⟨(k+1,acc),[0,1],⟨hlt,by simp only;omega,?_,hok,hsub.trans (List.Sublist.append (List.Sublist.refl _) hsk)⟩,by simp only;omega,?_⟩
   ·simp only
    rw [hke,if_pos hi,List.append_nil];exact hmp
   refine Evs ?_
   repeat' first|exact zjA (zjz hlt (by omega))|exact rfl|exact trivial|assumption|decide|refine And.intro ?_ ?_
 ·have hge:=zjH hd
  obtain rfl:k=s.l.length:=by omega
  refine zc6 ?_
  refine Evs ?_
  have hsl:(s.l.flatMap Foot.foot).Sublist (Foot.foot s):=by
   by_cases hne:s.l=[]
   ·rw [hne];exact List.nil_sublist _
   ·rw [show Foot.foot s=_ from Sl.foot_ne hne]
    exact List.sublist_cons_self _ _
  rw [List.take_length] at hsub
  have hmm:Mines h h2 acc:=by
   have hnd:(ac.flatMap Foot.foot ++ s.l.flatMap Foot.foot).Nodup:=by
    refine List.nodup_append.2 ⟨hacm.2.2,ms.2.2.sublist hsl,fun u hu v hv e=>?_⟩
    subst e
    obtain ⟨y,hy,hu⟩:=List.mem_flatMap.1 hu
    exact Foot.dom (hacm.1 y hy) u hu (ms.2.1 u (hsl.subset hv))
   refine ⟨fun y hy=>(hok y hy).2,fun b hb=>?_,hnd.sublist hsub⟩
   rcases List.mem_append.1 (hsub.subset hb) with hb|hb
   ·exact hacm.2.1 b hb
   ·exact znC le1 (ms.2.1 b (hsl.subset hb))
  refine zl1 1 acc rfl rfl rfl rfl (by decide) (fun y hy=>(hok y hy).1) h (Hp.le_trans le1 le2) hmm fun w h' e2 e3 e4 e5=>?_
  refine Wk ?_
  refine ⟨w,rfl,?_,e3,e5⟩
  show w.l.map Con.con=_
  rw [e2,hmp,List.take_of_length_le (by rw [List.length_map];exact Nat.le_refl _)]
end Go.Proofs.YtbkaaakphpbmiaaGreat
