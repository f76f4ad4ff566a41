/- What functions of the given program compute, each as a contract over what its arguments read as. No condition beside those that each theorem states. -/
import Derived.Test.YtbkaaakphpbmiaaGreatXGBoundOf19
set_option linter.unusedVariables false
set_option linter.unusedSimpArgs false
open Nat renaming reduceAdd → yqa, reduceMul → yqb, reduceBEq → yqc, reduceLeDiff → yqd, reduceLT → yqe, reduceEqDiff → yqf
open Bool renaming or_eq_false_iff → yqg, or_eq_true → yqh, and_eq_true → yqi
open Int renaming toNat_natCast → yqj, natCast_nonneg → yqk
namespace Go.Proofs.YtbkaaakphpbmiaaGreat
open Go Go.SL
set_option maxHeartbeats 1000000
def zGX (L:List (List POption)) (ch:List Int) (k:Nat) (p:List POption):Option (List POption):=if 0≤ch.getD k 0∧ch.getD k 0 < (L.getD k []).length then some (p ++ [(L.getD k []).getD (ch.getD k 0).toNat zEN]) else none
def plGo (L:List (List POption)) (ch:List Int):Nat→Option (List POption)
 | 0=>some []
 | k+1=>(plGo L ch k).bind (zGX L ch k)
def oLB (o:Option (List POption)):List POption × Bool:=match o with|none=>([],false)|some s=>(s,true)
def zGY (x:PHarbour) (calls:List DCall) (ch:List Int):List POption × Bool:=if (zzI x calls && decide (ch.length=calls.length))=true then oLB (plGo (zGl x calls) ch calls.length) else ([],false)
theorem zGZ {L:List (List POption)} {ch:List Int} {k:Nat} (h:plGo L ch k=none):∀ {n:Nat},k≤n→plGo L ch n=none
 | 0,hn=>by rw [← Nat.le_zero.1 hn,h]
 | n+1,hn=>by
  rcases Nat.lt_or_ge n k with hk|hk
  ·rw [show n+1=k by omega,h]
  ·rw [plGo,zGZ h hk];rfl
theorem zG0 {L:List (List POption)} {ch:List Int} {k n:Nat} {p:List POption} (h:plGo L ch k=some p) (hb:¬ (0≤ch.getD k 0∧ch.getD k 0 < (L.getD k []).length)) (hk:k < n):plGo L ch n=none:=by
 refine zGZ (k:=k+1) ?_ hk
 rw [plGo,h,Option.bind_some,zGX,if_neg hb]
theorem zG1 {L:List (List POption)} {ch:List Int} {k:Nat} {p:List POption} (h:plGo L ch k=some p) (hb:0≤ch.getD k 0∧ch.getD k 0 < (L.getD k []).length):plGo L ch (k+1)=some (p ++ [(L.getD k []).getD (ch.getD k 0).toNat zEN]):=by
 rw [plGo,h,Option.bind_some,zGX,if_pos hb]
theorem zG2 {α:Type} [Enc α] [Foot α] {l:List α} {i:Nat} (hi:i < l.length):(Foot.foot l[i]).Sublist (l.flatMap Foot.foot):=by
 obtain ⟨a,b,e⟩:=List.append_of_mem (List.getElem_mem hi)
 have e2:l.flatMap Foot.foot=(a ++ l[i] :: b).flatMap Foot.foot:=congrArg (fun z=>z.flatMap Foot.foot) e
 rw [e2,List.flatMap_append,List.flatMap_cons]
 exact (List.sublist_append_left _ _).trans (List.sublist_append_right _ _)
theorem zG3 {α:Type} [Enc α] [Foot α] {s:Sl α} {i:Nat} (hi:i < s.l.length):(Foot.foot s.l[i]).Sublist (Foot.foot s):=by
 rw [show Foot.foot s=_ from Sl.foot_ne (fun e=>by rw [e] at hi;cases hi)]
 exact (zG2 hi).trans (List.sublist_cons_self _ _)
theorem zG4 {α:Type} [Enc α] [Foot α] {h:Hp} {s:Sl α} (H:Foot.own h s) {i:Nat} (hi:i < s.l.length):Foot.own h s.l[i] :=
 (H (fun e=>by rw [e] at hi;cases hi)).2 _ (List.getElem_mem hi)
theorem zG5 {α:Type} [Enc α] [Foot α] {h h':Hp} {s:Sl α} (H:Mine h h' s) {i:Nat} (hi:i < s.l.length):Mine h h' s.l[i] :=
 ⟨zG4 H.1 hi,fun b hb=>H.2.1 b ((zG3 hi).subset hb),H.2.2.sublist (zG3 hi)⟩
theorem zG6 {l:List DOption} {c:Int} (h0:0≤c) (hc:c.toNat < l.length):(l.map (Con.con (α:=DOption))).getD c.toNat zEN=Con.con l[c.toNat]:=by
 simp [List.getD_eq_getElem?_getD,hc]
set_option maxRecDepth 30000 in
theorem zG7 (x:DHarbour) (a:Sl DCall) (m:Sl Int) (h:Hp) (hx:Enc.ok h x) (ha:a.Ok h) (hm:m.Ok h):Ct Tryz.prog 40 [x.v,a.val,m.val] h fun v h'=>∃ s:Sl DOption,v=.tuple #[s.val,.bool (zGY (Con.con x) a.l m.l).2]∧s.l.map (Con.con (α:=DOption))=(zGY (Con.con x) a.l m.l).1∧s.Ok h'∧Mine h h' s:=by
 have hla:=ha.max
 have hlm:=hm.max
 refine zdm (fun A W=>by simp) Tryz.func40 rfl rfl (by simp) fun W0=>?_
 repeat' first|refine zid rfl ?_|refine zc4 rfl ?_|refine zc7 ?_|refine zc8 ?_|refine zc5 ?_|refine zc6 ?_|refine zhE (fun _=>zzL x a _ hx ha) ?_|(simp (maxSteps:=2000000) only [go_sem,yqa,yqb,yqc,yqd,yqe,yqf];try rfl)|refine zc3 ?_|(refine And.intro ?_ ?_;focus (intros;simp_all only [yqg,yqh,yqi,and_self,true_and,and_true];done))
 rw [zzJ]
 refine zc9 rfl (fun hc=>?_) (fun hc=>?_)
 ·have hF:zGY (Con.con x) a.l m.l=([],false):=by
   rw [zGY,if_neg]
   intro H
   rw [yqi,decide_eq_true_eq] at H
   rw [H.1,H.2] at hc
   simp at hc
  rw [hF]
  refine Wk ?_
  exact ⟨⟨none,0,[]⟩,rfl,rfl,znu,Mine.nil⟩
 obtain ⟨hc1,hc2⟩:=Bool.or_eq_false_iff.1 hc
 rw [Bool.not_eq_false'] at hc1
 have hlen:m.l.length=a.l.length:=by
  have h9:(m.l.length:Int)=a.l.length:=by simpa using hc2
  omega
 have hF:zGY (Con.con x) a.l m.l=oLB (plGo (zGl (Con.con x) a.l) m.l a.l.length):=by
  rw [zGY,hc1,hlen,decide_eq_true rfl];rfl
 have h6:=zGx hc1
 have hz:a.l.length≤1048576:=by omega
 rw [hF]
 refine Wk ?_
 refine zm6 (ι:=Nat × List DOption × Hp) (fun i=>⟨[(2,true,.c (.v m.val)),(3,true,.c (.p 0 0)),(6,true,.c (.v (.slice none 0 0))),(7,true,.c (.v (.bool false))),(8,true,.c (.s 1)),(24,true,.c (.v a.val)),(25,true,.c (.v (.int .i64 a.l.length))),(26,true,.c (.v (.int .i64 i.1)))],[(0,.box 62 [.v (.int .i64 x.forecast.tide.mean),.v x.forecast.tide.parts.val,.v x.forecast.surges.val,.v x.chart.points.val,.v x.chart.segments.val,.v x.fleet.val,.v (.int .i64 x.regime.gap),.v (.bool x.regime.noMeet),.v (.int .i64 x.crew.tugs),.v (.int .i64 x.crew.pilots),.v (.int .i64 x.crew.rest),.v x.crew.moves.val]),(1,.row 84 4 i.2.1.length (i.2.1.flatMap Enc.enc))],i.2.2,2⟩) (fun i=>i.1≤a.l.length∧i.2.1.length=i.1∧plGo (zGl (Con.con x) a.l) m.l i.1=some (i.2.1.map Con.con)∧(∀ y ∈ i.2.1,Enc.ok i.2.2 y)∧Mines h i.2.2 i.2.1∧h.le i.2.2) (fun i=>a.l.length - i.1) (0,[],h) ⟨Nat.zero_le _,rfl,rfl,fun y hy=>(by cases hy),Mines.nil,Hp.le_refl _⟩ [0,1] ?_ ?_
 ·refine Evs ?_
  repeat' first|exact rfl|exact trivial|assumption|decide|refine And.intro ?_ ?_
 rintro ⟨k,acc,hk⟩ ⟨hkl,hal,hgo,hacok,hacm,hle⟩
 simp only at hkl hal hgo hacok hacm hle
 have hak:=ha.mono hle
 have hxk:Enc.ok hk x:=Enc.mono hle hx
 refine Wk ?_
 refine zc9 rfl (fun hd=>?_) (fun hd=>?_)
 ·have hlt:=zjG hd
  repeat' first|refine zid rfl ?_|refine zc4 rfl ?_|refine zc7 ?_|refine zc8 ?_|refine zc5 ?_|refine zc6 ?_|(simp (maxSteps:=2000000) only [go_sem,yqa,yqb,yqc,yqd,yqe,yqf,zkQ hak hlt,hak.some hlt,hlt,yqj];try rfl)|refine zc3 ?_|(refine And.intro ?_ ?_;focus (intros;simp_all only [yqg,yqh,yqi,and_self,true_and,and_true];done))
  refine zko (zFf x a.l[k] _ hxk (hak.el hlt)) rfl ?_
  rintro v h2 le2 ⟨s,rfl,es,oks,ms⟩
  have es:s.l.map (Con.con (α:=DOption))=zE3 (Con.con x) a.l[k]:=es
  have hmk2:=(hm.mono hle).mono le2
  have hltm:k < m.l.length:=by omega
  have hltm2:(k:Int) < m.l.length:=by omega
  have hls:=oks.max
  have hle2:=Hp.le_trans hle le2
  have hgk:(zGl (Con.con x) a.l).getD k []=s.l.map (Con.con (α:=DOption)):=by rw [zGt hlt,es]
  have hmg:m.l.getD k 0=m.l[k]:=iget hltm
  repeat' first|refine zid rfl ?_|refine zc4 rfl ?_|refine zc7 ?_|refine zc8 ?_|refine zc5 ?_|refine zc6 ?_|refine zhE (fun _=>zyh _ _ _) ?_|(simp (maxSteps:=2000000) only [go_sem,yqa,yqb,yqc,yqd,yqe,yqf,atI hmk2 hltm,hmk2.some hltm,hltm,hltm2,yqj,yqk,implies_true,true_and,and_true,and_self];try rfl)|refine zc3 ?_|(refine And.intro ?_ ?_;focus (intros;simp_all only [yqg,yqh,yqi,and_self,true_and,and_true];done))
  refine zc9 rfl (fun hq=>?_) (fun hq=>?_)
  ·refine Wk ?_
   rw [zG0 hgo (by
    rw [hgk,hmg,zFw]
    intro H
    rw [decide_eq_true H.1,decide_eq_true H.2] at hq
    cases hq) hlt]
   exact ⟨⟨none,0,[]⟩,rfl,rfl,znu,Mine.nil⟩
  ·have hin:0≤m.l[k]∧m.l[k] < (s.l.length:Int):=by simpa using hq
   have hci:m.l[k].toNat < s.l.length:=by omega
   have hgo2:=zG1 hgo (by rw [hgk,hmg,zFw];exact hin)
   rw [hgk,hmg,zG6 hin.1 hci] at hgo2
   repeat' first|refine zid rfl ?_|refine zc4 rfl ?_|refine zc7 ?_|refine zc8 ?_|refine zc5 ?_|refine zc6 ?_|(simp (maxSteps:=2000000) only [go_sem,yqa,yqb,yqc,yqd,yqe,yqf,atI hmk2 hltm,hmk2.some hltm,hltm,hltm2,zkW oks hci,oks.some hci,hci,hin.1,hin.2,yqj,yqk,implies_true,true_and,and_true,and_self];try rfl)|refine zc3 ?_|(refine And.intro ?_ ?_;focus (intros;simp_all only [yqg,yqh,yqi,and_self,true_and,and_true];done))
   refine ⟨by simp only [maxLen];omega,by omega,?_⟩
   refine Wk ?_
   have hw:IntKind.i64.wrap ((k:Int)+1)=((k+1:Nat):Int):=zjz hlt (by omega)
   refine ⟨(k+1,acc ++ [s.l[m.l[k].toNat]],h2),[0,4],⟨hlt,?_,?_,fun y hy=>?_,Mines.snoc hacm hacok le2 hle (zG5 ms hci),hle2⟩,by simp only;omega,?_⟩
   ·show (acc ++ _).length=k+1
    rw [List.length_append,hal];rfl
   ·rw [hgo2]
    show _=some ((acc ++ _).map _)
    rw [List.map_append];rfl
   ·rcases List.mem_append.1 hy with hy|hy
    ·exact Enc.mono le2 (hacok y hy)
    ·rw [List.mem_singleton.1 hy];exact oks.el hci
   refine Evs ?_
   rw [hw]
   simp only [List.flatMap_append,List.length_append]
   repeat' first|exact rfl|exact trivial|assumption|decide|refine And.intro ?_ ?_
 ·have hge:=zjH hd
  obtain rfl:k=a.l.length:=by omega
  refine zc6 ?_
  refine Evs ?_
  refine zl1 1 acc rfl rfl rfl rfl (by decide) hacok h hle hacm fun q h' e2 e3 e4 e5=>?_
  refine Wk ?_
  rw [hgo]
  exact ⟨q,rfl,by rw [e2];rfl,e3,e5⟩
set_option maxRecDepth 30000 in
theorem zG8 (x:DHarbour) (a:Sl DCall) (m:Sl Int) (h:Hp) (hx:Enc.ok h x) (ha:a.Ok h) (hm:m.Ok h):Ct Tryz.prog 39 [x.v,a.val,m.val] h fun v h'=>∃ s:Sl DOption,v=.tuple #[s.val,.bool (zGY (Con.con x) a.l m.l).2]∧s.l.map (Con.con (α:=DOption))=(zGY (Con.con x) a.l m.l).1∧s.Ok h'∧Mine h h' s:=by
 have hla:=ha.max
 have hlm:=hm.max
 refine zdm (fun A W=>by simp) Tryz.func39 rfl rfl (by simp) fun W0=>?_
 repeat' first|refine zid rfl ?_|refine zc4 rfl ?_|refine zc7 ?_|refine zc8 ?_|refine zc5 ?_|refine zc6 ?_|refine zhE (fun _=>zzK x a _ hx ha) ?_|(simp (maxSteps:=2000000) only [go_sem,yqa,yqb,yqc,yqd,yqe,yqf];try rfl)|refine zc3 ?_|(refine And.intro ?_ ?_;focus (intros;simp_all only [yqg,yqh,yqi,and_self,true_and,and_true];done))
 rw [zzJ]
 refine zc9 rfl (fun hc=>?_) (fun hc=>?_)
 ·have hF:zGY (Con.con x) a.l m.l=([],false):=by
   rw [zGY,if_neg]
   intro H
   rw [yqi,decide_eq_true_eq] at H
   rw [H.1,H.2] at hc
   simp at hc
  rw [hF]
  refine Wk ?_
  exact ⟨⟨none,0,[]⟩,rfl,rfl,znu,Mine.nil⟩
 obtain ⟨hc1,hc2⟩:=Bool.or_eq_false_iff.1 hc
 rw [Bool.not_eq_false'] at hc1
 have hlen:m.l.length=a.l.length:=by
  have h9:(m.l.length:Int)=a.l.length:=by simpa using hc2
  omega
 have hF:zGY (Con.con x) a.l m.l=oLB (plGo (zGl (Con.con x) a.l) m.l a.l.length):=by
  rw [zGY,hc1,hlen,decide_eq_true rfl];rfl
 have h6:=zGx hc1
 have hz:a.l.length≤1048576:=by omega
 rw [hF]
 refine Wk ?_
 refine zko (zGs x a _ hx ha hz) rfl ?_
 rintro v h1 le1 ⟨L,rfl,eL,okL,mL⟩
 have hlL:L.l.length=a.l.length:=by have:=congrArg List.length eL;rwa [List.length_map,zGu] at this
 have hmL:=okL.max
 have hm1:=hm.mono le1
 refine Wk ?_
 refine zm6 (ι:=Nat × List DOption) (fun i=>⟨[(2,true,.c (.v m.val)),(6,true,.c (.v (.slice none 0 0))),(7,true,.c (.v (.bool false))),(8,true,.c (.s 1)),(25,true,.c (.v L.val)),(26,true,.c (.v (.int .i64 L.l.length))),(27,true,.c (.v (.int .i64 i.1)))],[(0,.box 62 [.v (.int .i64 x.forecast.tide.mean),.v x.forecast.tide.parts.val,.v x.forecast.surges.val,.v x.chart.points.val,.v x.chart.segments.val,.v x.fleet.val,.v (.int .i64 x.regime.gap),.v (.bool x.regime.noMeet),.v (.int .i64 x.crew.tugs),.v (.int .i64 x.crew.pilots),.v (.int .i64 x.crew.rest),.v x.crew.moves.val]),(1,.row 84 4 i.2.length (i.2.flatMap Enc.enc))],h1,2⟩) (fun i=>i.1≤L.l.length∧i.2.length=i.1∧plGo (zGl (Con.con x) a.l) m.l i.1=some (i.2.map Con.con)∧(∀ y ∈ i.2,Enc.ok h1 y∧Foot.own h1 y)∧(i.2.flatMap Foot.foot).Sublist ((L.l.take i.1).flatMap Foot.foot)) (fun i=>L.l.length - i.1) (0,[]) ⟨Nat.zero_le _,rfl,rfl,fun y hy=>(by cases hy),List.Sublist.refl _⟩ [0,1] ?_ ?_
 ·refine Evs ?_
  repeat' first|exact rfl|exact trivial|assumption|decide|refine And.intro ?_ ?_
 rintro ⟨k,acc⟩ ⟨hkl,hal,hgo,hacok,hsub⟩
 simp only at hkl hal hgo hacok hsub
 refine Wk ?_
 refine zc9 rfl (fun hd=>?_) (fun hd=>?_)
 ·have hlt:=zjG hd
  have hltm:k < m.l.length:=by omega
  have hltm2:(k:Int) < m.l.length:=by omega
  have oks:=okL.el hlt
  have hls:=Sl.Ok.max oks
  have hgk:(zGl (Con.con x) a.l).getD k []=L.l[k].l.map (Con.con (α:=DOption)):=by rw [← eL,zGq hlt]
  have hmg:m.l.getD k 0=m.l[k]:=iget hltm
  have hsb:IntKind.i64.wrap ((L.l[k].l.length:Int) - 1)=(L.l[k].l.length:Int) - 1:=zjy (by omega)
  repeat' first|refine zid rfl ?_|refine zc4 rfl ?_|refine zc7 ?_|refine zc8 ?_|refine zc5 ?_|refine zc6 ?_|refine zhE (fun _=>zye _ _ _ _) ?_|(simp (maxSteps:=2000000) only [go_sem,yqa,yqb,yqc,yqd,yqe,yqf,zkN okL hlt,okL.some hlt,hlt,atI hm1 hltm,hm1.some hltm,hltm,hltm2,yqj,yqk,implies_true,true_and,and_true,and_self];try rfl)|refine zc3 ?_|(refine And.intro ?_ ?_;focus (intros;simp_all only [yqg,yqh,yqi,and_self,true_and,and_true];done))
  rw [hsb]
  refine zc9 rfl (fun hq=>?_) (fun hq=>?_)
  ·refine Wk ?_
   rw [zG0 hgo (by
    rw [hgk,hmg,zFw]
    intro H
    rw [decide_eq_true H.1,decide_eq_true (show m.l[k]≤(L.l[k].l.length:Int) - 1 by omega)] at hq
    cases hq) (by omega)]
   exact ⟨⟨none,0,[]⟩,rfl,rfl,znu,Mine.nil⟩
  ·have hin1:0≤m.l[k]∧m.l[k]≤(L.l[k].l.length:Int) - 1:=by simpa using hq
   have hin:0≤m.l[k]∧m.l[k] < (L.l[k].l.length:Int):=by omega
   have hci:m.l[k].toNat < L.l[k].l.length:=by omega
   have hgo2:=zG1 hgo (by rw [hgk,hmg,zFw];exact hin)
   rw [hgk,hmg,zG6 hin.1 hci] at hgo2
   repeat' first|refine zid rfl ?_|refine zc4 rfl ?_|refine zc7 ?_|refine zc8 ?_|refine zc5 ?_|refine zc6 ?_|(simp (maxSteps:=2000000) only [go_sem,yqa,yqb,yqc,yqd,yqe,yqf,atI hm1 hltm,hm1.some hltm,hltm,hltm2,zkW oks hci,Sl.Ok.some oks hci,hci,hin.1,hin.2,yqj,yqk,implies_true,true_and,and_true,and_self];try rfl)|refine zc3 ?_|(refine And.intro ?_ ?_;focus (intros;simp_all only [yqg,yqh,yqi,and_self,true_and,and_true];done))
   refine ⟨by simp only [maxLen];omega,by omega,?_⟩
   refine Wk ?_
   have hw:IntKind.i64.wrap ((k:Int)+1)=((k+1:Nat):Int):=zjz hlt (by omega)
   refine ⟨(k+1,acc ++ [L.l[k].l[m.l[k].toNat]]),[0,3],⟨hlt,?_,?_,fun y hy=>?_,?_⟩,by simp only;omega,?_⟩
   ·show (acc ++ _).length=k+1
    rw [List.length_append,hal];rfl
   ·rw [hgo2]
    show _=some ((acc ++ _).map _)
    rw [List.map_append];rfl
   ·rcases List.mem_append.1 hy with hy|hy
    ·exact hacok y hy
    ·rw [List.mem_singleton.1 hy];exact ⟨Sl.Ok.el oks hci,zG4 (zG4 mL.1 hlt) hci⟩
   ·show ((acc ++ _).flatMap _).Sublist ((L.l.take (k+1)).flatMap _)
    rw [List.flatMap_append,List.take_succ_eq_append_getElem hlt,List.flatMap_append]
    refine List.Sublist.append hsub ?_
    rw [List.flatMap_cons,List.flatMap_nil,List.append_nil,List.flatMap_cons,List.flatMap_nil,List.append_nil]
    exact zG3 hci
   refine Evs ?_
   rw [hw]
   simp only [List.flatMap_append,List.length_append]
   repeat' first|exact rfl|exact trivial|assumption|decide|refine And.intro ?_ ?_
 ·have hge:=zjH hd
  obtain rfl:k=L.l.length:=by omega
  refine zc6 ?_
  refine Evs ?_
  have hsl:(acc.flatMap Foot.foot).Sublist (Foot.foot L):=by
   by_cases hne:L.l=[]
   ·have:acc=[]:=List.eq_nil_of_length_eq_zero (by rw [hal,hne];rfl)
    rw [this];exact List.nil_sublist _
   ·rw [show Foot.foot L=_ from Sl.foot_ne hne]
    rw [List.take_length] at hsub
    exact hsub.trans (List.sublist_cons_self _ _)
  have hmm:Mines h h1 acc:=⟨fun y hy=>(hacok y hy).2,fun b hb=>mL.2.1 b (hsl.subset hb),mL.2.2.sublist hsl⟩
  refine zl1 1 acc rfl rfl rfl rfl (by decide) (fun y hy=>(hacok y hy).1) h le1 hmm fun q h' e2 e3 e4 e5=>?_
  refine Wk ?_
  rw [← hlL,hgo]
  exact ⟨q,rfl,by rw [e2];rfl,e3,e5⟩
end Go.Proofs.YtbkaaakphpbmiaaGreat
namespace Go.Proofs.YtbkaaakphpbmiaaGreat
open Go Go.SL
set_option maxHeartbeats 1000000
theorem zG9 {α:Type} {l:List α} {i:Nat} {d:α} (h:i < l.length):l.getD i d=l[i]:=by simp [List.getD_eq_getElem?_getD,h]
theorem zHa {α:Type} {l:List α} {i:Nat} {d:α} (h:l.length≤i):l.getD i d=d:=by simp [List.getD_eq_getElem?_getD,h]
theorem zHb {L:List (List POption)} {ch:List Int} (hL:∀ l ∈ L,∀ y ∈ l,Sz.sz y≤8):∀ {k:Nat} {p:List POption},plGo L ch k=some p→p.length=k∧∀ y ∈ p,Sz.sz y≤8
 | 0,p,h=>by rw [plGo] at h;cases h;exact ⟨rfl,fun y hy=>by cases hy⟩
 | k+1,p,h=>by
  rw [plGo] at h
  obtain ⟨q,hq,h⟩:=Option.bind_eq_some_iff.1 h
  rw [zGX] at h
  split at h
  ·rename_i hb
   obtain rfl:=Option.some.inj h
   obtain ⟨h1,h2⟩:=zHb hL hq
   refine ⟨by rw [List.length_append,h1];rfl,fun y hy=>?_⟩
   rcases List.mem_append.1 hy with hy|hy
   ·exact h2 y hy
   ·rw [List.mem_singleton.1 hy]
    have hc:(ch.getD k 0).toNat < (L.getD k []).length:=by omega
    rw [zG9 hc]
    refine hL (L.getD k []) ?_ _ (List.getElem_mem hc)
    by_cases hk:k < L.length
    ·rw [zG9 hk];exact List.getElem_mem hk
    ·rw [zHa (l:=L) (i:=k) (d:=[]) (by omega)] at hc;exact absurd hc (Nat.not_lt_zero _)
  ·cases h
theorem zHc {x:PHarbour} {a:List DCall} {ch:List Int}:(zGY x a ch).1.length≤6∧∀ y ∈ (zGY x a ch).1,Sz.sz y≤8:=by
 rw [zGY]
 split
 ·rename_i hc
  have hl:=zGx (Bool.and_eq_true_iff.1 hc).1
  cases hp:plGo (zGl x a) ch a.length with
  | none=>exact ⟨Nat.zero_le _,fun y hy=>by cases hy⟩
  | some s =>
   obtain ⟨h1,h2⟩:=zHb (fun l hl y hy=>by
    rw [zGl] at hl
    obtain ⟨c,-,rfl⟩:=List.mem_map.1 hl
    exact (zFm).2 y hy) hp
   exact ⟨by rw [oLB];simp only;omega,h2⟩
 ·exact ⟨Nat.zero_le _,fun y hy=>by cases hy⟩
theorem zHd (x:PHarbour) (a:List DCall) (ch:List Int):Sz.sz (zGY x a ch).1≤1048576:=by
 obtain ⟨h1,h2⟩:=zHc (x:=x) (a:=a) (ch:=ch)
 have:=zFn h2
 omega
theorem zHe (x:DHarbour) (a:Sl DCall) (m:Sl Int) (h:Hp) (hx:Enc.ok h x) (ha:a.Ok h) (hm:m.Ok h):Ct Tryz.prog 40 [x.v,a.val,m.val] h fun v h'=>∃ s:Sl DOption,v=.tuple #[s.val,.bool (zGY (Con.con x) (Con.con a) (Con.con m)).2]∧Con.con s=(zGY (Con.con x) (Con.con a) (Con.con m)).1∧s.Ok h'∧Mine h h' s:=by
 have h1:(Con.con a:List DCall)=a.l:=List.map_id _
 have h2:(Con.con m:List Int)=m.l:=List.map_id _
 rw [h1,h2]
 exact zG7 x a m h hx ha hm
theorem zHf (x:DHarbour) (a:Sl DCall) (m:Sl Int) (h:Hp) (hx:Enc.ok h x) (ha:a.Ok h) (hm:m.Ok h):Ct Tryz.prog 39 [x.v,a.val,m.val] h fun v h'=>∃ s:Sl DOption,v=.tuple #[s.val,.bool (zGY (Con.con x) (Con.con a) (Con.con m)).2]∧Con.con s=(zGY (Con.con x) (Con.con a) (Con.con m)).1∧s.Ok h'∧Mine h h' s:=by
 have h1:(Con.con a:List DCall)=a.l:=List.map_id _
 have h2:(Con.con m:List Int)=m.l:=List.map_id _
 rw [h1,h2]
 exact zG8 x a m h hx ha hm
end Go.Proofs.YtbkaaakphpbmiaaGreat
namespace Go.Proofs.YtbkaaakphpbmiaaGreat
open Go Go.SL
set_option maxHeartbeats 1000000
end Go.Proofs.YtbkaaakphpbmiaaGreat
namespace Go.Proofs.YtbkaaakphpbmiaaGreat
open Go Go.SL
set_option maxHeartbeats 1000000
def Sel (n:Nat) (l:List Int):Prop:=∀ i,i < l.length→0≤l.getD i 0∧l.getD i 0 < n∧(0 < i→l.getD (i - 1) 0 < l.getD i 0)
instance (n:Nat) (l:List Int):Decidable (Sel n l):=inferInstanceAs (Decidable (∀ i,i < l.length→_))
end Go.Proofs.YtbkaaakphpbmiaaGreat
namespace Go.Proofs.YtbkaaakphpbmiaaGreat
open Go Go.SL
set_option maxHeartbeats 1000000
theorem zH4 (a:Sl DPassage) (h:Hp) (ha:a.Ok h) (hz:a.l.length≤1048576):Ct Tryz.prog 205 [a.val] h fun v h'=>∃ s:Sl DPassage,v=s.val∧s.l=a.l∧s.Ok h'∧Mine h h' s:=by
 have hall:=ha.all (by decide)
 have hd:(h.ldL a.val 5).isSome=true:=by rw [show h.ldL a.val 5=_ from hall];rfl
 refine zdm (fun A W=>by simp) Tryz.func205 rfl rfl (by simp) fun W0=>?_
 repeat' first|refine zid rfl ?_|refine zc4 rfl ?_|refine zc7 ?_|refine zc8 ?_|refine zc5 ?_|refine zc6 ?_|(simp (maxSteps:=2000000) only [go_sem,yqa,yqb,yqc,yqd,yqe,yqf,hall,show h.ldL a.val 5=some (a.l.flatMap Enc.enc) from hall,Option.isSome_some,Option.getD_some];try rfl)|refine zc3 ?_|(refine And.intro ?_ ?_;focus (intros;simp_all only [yqg,yqh,yqi,and_self,true_and,and_true];done))
 refine ⟨by simp only [maxLen];omega,by omega,?_⟩
 repeat' first|refine zid rfl ?_|refine zc4 rfl ?_|refine zc7 ?_|refine zc8 ?_|refine zc5 ?_|refine zc6 ?_|(simp (maxSteps:=2000000) only [go_sem,yqa,yqb,yqc,yqd,yqe,yqf,hall,show h.ldL a.val 5=some (a.l.flatMap Enc.enc) from hall,Option.isSome_some,Option.getD_some];try rfl)|refine zc3 ?_|(refine And.intro ?_ ?_;focus (intros;simp_all only [yqg,yqh,yqi,and_self,true_and,and_true];done))
 refine ⟨fun u hu=>by obtain ⟨x,_,hx⟩:=List.mem_flatMap.1 hu;exact Enc.one x u hx,by simp only [maxLen];omega,by omega,?_⟩
 refine zl1 1 a.l rfl rfl (Nat.zero_add _) rfl (by decide) (fun x hx=>ha.2.2.2.1 x hx) h (Hp.le_refl _) (Mines.flat (fun _=>rfl) (fun _=>trivial)) fun s h' e1 e2 e3 e4=>?_
 refine Wk ?_
 exact ⟨s,rfl,e1,e2,e4⟩
end Go.Proofs.YtbkaaakphpbmiaaGreat
namespace Go.Proofs.YtbkaaakphpbmiaaGreat
open Go Go.SL
set_option maxHeartbeats 1000000
end Go.Proofs.YtbkaaakphpbmiaaGreat
