/- What functions of the given program compute, as contracts. -/
import Derived.Test.YtbkaaakphpbmiaaGreatSGBestPlanx13
import Derived.Test.YtbkaaakphpbmiaaGreatSGBestPlanx23
import Derived.Test.YtbkaaakphpbmiaaGreatXGBestPlan22
import Derived.Test.YtbkaaakphpbmiaaGreatXGBestPlan9
set_option linter.unusedVariables false
set_option linter.unusedSimpArgs false
set_option maxRecDepth 4000
open Nat renaming reduceAdd → jq, reduceMul → jj, reduceBEq → jy, reduceLeDiff → jv, reduceLT → jk, reduceEqDiff → jx
open Bool renaming or_eq_false_iff → jp, or_eq_true → jQ, and_eq_true → jJ
open Int renaming toNat_natCast → jW, natCast_nonneg → jY
open Go.Proofs.Tryz renaming prog → jV
namespace Go.Proofs.YtbkaaakphpbmiaaGreat
open Go Go.SL
set_option maxHeartbeats 1000000
def dD:DDuty:=⟨0,0,0,0⟩
def zz1 (d:DDuty):Bool:=decide (0≤d.src∧d.src < d.dst∧d.dst≤2880∧0≤d.a∧d.a < 8∧0≤d.b∧d.b < 8)
def zz2 (l:List DDuty):Bool:=decide (l.length≤12) && l.all zz1
def F_mv (moves:List Int) (d e:DDuty):Int:=moves.getD (8 * d.b+e.a).toNat 0
def zz3 (pause:Int) (moves:List Int) (d e:DDuty):Bool:=zz1 d && zz1 e && decide (d.dst+(pause+F_mv moves d e)≤e.src)
theorem dget {l:List DDuty} {i:Nat} (hi:i < l.length):l.getD i dD=l[i]:=by simp [List.getD_eq_getElem?_getD,hi]
theorem zz4 {l:List Int} (h:zvm l=true):l.length=64∧∀ i (hi:i < l.length),0≤l[i]∧l[i]≤240:=by
 simp only [zvm,jJ,decide_eq_true_eq] at h
 refine ⟨h.1,fun i hi=>?_⟩
 have:=List.all_eq_true.1 h.2 _ (List.getElem_mem hi)
 simp only [In,jJ,decide_eq_true_eq] at this
 exact this
theorem z0k (d:DDuty) (h:Hp):Ct jV 316 [d.v] h fun v h'=>v=.bool (zz1 d)∧h'=h:=by
 refine zdn (fun A W=>by simp) Tryz.func316 rfl rfl (by simp) fun W0=>?_
 repeat' first|refine Wa ?_|refine zhF (fun _=>zYZ _ _ _ _) ?_|(simp (maxSteps:=2000000) only [go_sem,jq,jj,jy,jv,jk,jx];try rfl)|refine Wb ?_|fail
 congr 1
 rw [zz1,Bool.eq_iff_iff]
 simp only [jJ,decide_eq_true_eq]
 constructor <;> intro e <;> omega
theorem z0l (a:Sl DDuty) (h:Hp) (ha:a.Ok h):Ct jV 302 [a.val] h fun v h'=>v=.bool (zz2 a.l)∧h'=h:=by
 have hl:=ha.max
 rw [zz2]
 refine zdn (fun A W=>by simp) Tryz.func302 rfl rfl (by simp) fun W0=>?_
 refine Wk ?_
 refine zc9 rfl (fun hc=>?_) (fun hc=>?_)
 ·have hc:=of_decide_eq_true hc
  rw [decide_eq_false (by omega)]
  exact Wk0
 have hc:=of_decide_eq_false hc
 refine Wk ?_
 refine zde (ι:=Nat) (fun k=>⟨[(8,true,.c (.v a.val)),(9,true,.c (.v (.int .i64 a.l.length))),(10,true,.c (.v (.int .i64 k)))],[],h,0⟩) (fun k=>k≤a.l.length∧(a.l.take k).all zz1=true) (fun k=>a.l.length - k) 0 ⟨Nat.zero_le _,rfl⟩ ?_ ?_
 ·refine Evs ?_
  exact Gk
 intro k hk
 refine Wk ?_
 refine zc9 rfl (fun hdk=>?_) (fun hdk=>?_)
 ·have hlt:=zjH hdk
  repeat' first|refine Wa ?_|refine zhF (fun _=>z0k _ _) ?_|(simp (maxSteps:=2000000) only [go_sem,jq,jj,jy,jv,jk,jx,zle ha hlt,ha.some hlt,hlt,jW];try rfl)|refine Wb ?_|fail
  refine zc9 rfl (fun hq=>?_) (fun hq=>?_)
  ·rw [Bool.not_eq_true'] at hq
   refine Wk ?_
   rw [zuU hlt hq,Bool.and_false]
  ·rw [Bool.not_eq_false'] at hq
   refine Wk ?_
   exact ⟨k+1,⟨hlt,zuV hlt hk.2 hq⟩,by omega,zjB (zjA hlt (by omega))⟩
 ·have hge:=zjI hdk
  refine Wk ?_
  have:=hk.2
  rw [List.take_of_length_le hge] at this
  rw [this,decide_eq_true (by omega:a.l.length≤12)];rfl
theorem z0m (pause:Int) (m:Sl Int) (d e:DDuty) (h:Hp) (hm:m.Ok h) (hp:In pause 0 2880=true) (ht:zvm m.l=true) (hd:0≤d.b∧d.b < 8) (he:0≤e.a∧e.a < 8):Ct jV 324 [.int .i64 pause,m.val,d.v,e.v] h fun v h'=>v=.tuple #[.int .i64 (pause+F_mv m.l d e),.bool true]∧h'=h:=by
 obtain ⟨hl,hv⟩:=zz4 ht
 have hp':=hp
 simp only [In,jJ,decide_eq_true_eq] at hp'
 have hi:(8 * d.b+e.a).toNat < m.l.length:=by omega
 have hi0:0≤8 * d.b+e.a:=by omega
 have hi1:8 * d.b+e.a < (m.l.length:Int):=by omega
 have w1:IntKind.i64.wrap (8 * d.b)=8 * d.b:=zjz (by omega)
 have w1':IntKind.i64.wrap (d.b * 8)=8 * d.b:=by rw [zjz (by omega)];omega
 have w2:IntKind.i64.wrap (8 * d.b+e.a)=8 * d.b+e.a:=zjz (by omega)
 have hv:=hv _ hi
 have hmv:F_mv m.l d e=m.l[(8 * d.b+e.a).toNat]:=by rw [F_mv];simp [List.getD_eq_getElem?_getD,hi]
 have w3:IntKind.i64.wrap (pause+m.l[(8 * d.b+e.a).toNat])=pause+m.l[(8 * d.b+e.a).toNat]:=zjz (by omega)
 rw [hmv]
 refine zdn (fun A W=>by simp) Tryz.func324 rfl rfl (by simp) fun W0=>?_
 repeat' first|refine Wa ?_|refine zhF (fun _=>zZd _ _ _ hm) ?_|refine zhF (fun _=>zYZ _ _ _ _) ?_|(simp (maxSteps:=2000000) only [go_sem,jq,jj,jy,jv,jk,jx];try rfl)|refine Wb ?_|fail
 refine zc9 rfl (fun hc=>?_) (fun hc=>?_)
 ·rw [hp,ht,decide_eq_true hd.1,decide_eq_true he.1,decide_eq_true (show d.b≤7 by omega),decide_eq_true (show e.a≤7 by omega)] at hc
  cases hc
 repeat' first|refine Wa ?_|(simp (maxSteps:=2000000) only [go_sem,jq,jj,jy,jv,jk,jx,w1,w1',w2,w3,zkv hm hi,hm.some hi,hi,hi0,hi1];try rfl)|refine Wb ?_|fail
theorem zz5 (a:Sl DDuty) (h:Hp) (ha:a.Ok h):Ct jV 318 [a.val] h fun v h'=>v=.bool (zz2 a.l)∧h'=h:=by
 have hl:=ha.max
 rw [zz2]
 refine zdn (fun A W=>by simp) Tryz.func318 rfl rfl (by simp) fun W0=>?_
 refine Wk ?_
 refine zc9 rfl (fun hc=>?_) (fun hc=>?_)
 ·have hc:=of_decide_eq_true hc
  rw [decide_eq_false (by omega)]
  exact Wk0
 have hc:=of_decide_eq_false hc
 refine Wk ?_
 refine zde (ι:=Nat) (fun k=>⟨[(8,true,.c (.v a.val)),(9,true,.c (.v (.int .i64 a.l.length))),(10,true,.c (.v (.int .i64 k)))],[],h,0⟩) (fun k=>k≤a.l.length∧(a.l.take k).all zz1=true) (fun k=>a.l.length - k) 0 ⟨Nat.zero_le _,rfl⟩ ?_ ?_
 ·refine Evs ?_
  exact Gk
 intro k hk
 refine Wk ?_
 refine zc9 rfl (fun hdk=>?_) (fun hdk=>?_)
 ·have hlt:=zjH hdk
  repeat' first|refine Wa ?_|refine zhF (fun _=>zuo _ _ _) ?_|(simp (maxSteps:=2000000) only [go_sem,jq,jj,jy,jv,jk,jx,zle ha hlt,ha.some hlt,hlt,jW];try rfl)|refine Wb ?_|fail
  refine zc9 rfl (fun hq=>?_) (fun hq=>?_)
  ·have hq:zz1 a.l[k]=false:=by
    rw [zz1,decide_eq_false_iff_not]
    simp only [jQ,Bool.not_eq_true',Bool.and_eq_false_iff,decide_eq_true_eq,decide_eq_false_iff_not] at hq
    omega
   refine Wk ?_
   rw [zuU hlt hq,Bool.and_false]
  ·have hq:zz1 a.l[k]=true:=by
    rw [zz1,decide_eq_true_eq]
    simp only [jp,Bool.not_eq_false',jJ,decide_eq_true_eq,decide_eq_false_iff_not] at hq
    omega
   refine Wk ?_
   exact ⟨k+1,⟨hlt,zuV hlt hk.2 hq⟩,by omega,zjB (zjA hlt (by omega))⟩
 ·have hge:=zjI hdk
  refine Wk ?_
  have:=hk.2
  rw [List.take_of_length_le hge] at this
  rw [this,decide_eq_true (by omega:a.l.length≤12)];rfl
theorem zz6 (pause:Int) (m:Sl Int) (d e:DDuty) (h:Hp) (hm:m.Ok h) (hp:In pause 0 2880=true) (ht:zvm m.l=true) (hd:0≤d.b∧d.b < 8) (he:0≤e.a∧e.a < 8):Ct jV 325 [.int .i64 pause,m.val,d.v,e.v] h fun v h'=>v=.tuple #[.int .i64 (pause+F_mv m.l d e),.bool true]∧h'=h:=by
 obtain ⟨hl,hv⟩:=zz4 ht
 have hp':=hp
 simp only [In,jJ,decide_eq_true_eq] at hp'
 have hi:(8 * d.b+e.a).toNat < m.l.length:=by omega
 have hi0:0≤8 * d.b+e.a:=by omega
 have hi1:8 * d.b+e.a < (m.l.length:Int):=by omega
 have w1:IntKind.i64.wrap (8 * d.b)=8 * d.b:=zjz (by omega)
 have w1':IntKind.i64.wrap (d.b * 8)=8 * d.b:=by rw [zjz (by omega)];omega
 have w2:IntKind.i64.wrap (8 * d.b+e.a)=8 * d.b+e.a:=zjz (by omega)
 have hv:=hv _ hi
 have hmv:F_mv m.l d e=m.l[(8 * d.b+e.a).toNat]:=by rw [F_mv];simp [List.getD_eq_getElem?_getD,hi]
 have w3:IntKind.i64.wrap (pause+m.l[(8 * d.b+e.a).toNat])=pause+m.l[(8 * d.b+e.a).toNat]:=zjz (by omega)
 rw [hmv]
 refine zdn (fun A W=>by simp) Tryz.func325 rfl rfl (by simp) fun W0=>?_
 repeat' first|refine Wa ?_|refine zhF (fun _=>zun _ _) ?_|refine zhF (fun _=>zvv _ _ hm) ?_|refine zhF (fun _=>zuo _ _ _) ?_|(simp (maxSteps:=2000000) only [go_sem,jq,jj,jy,jv,jk,jx];try rfl)|refine Wb ?_|fail
 refine zc9 rfl (fun hc=>?_) (fun hc=>?_)
 ·rw [show (decide (0≤pause) && decide (pause≤2880))=true from hp,ht,decide_eq_true hd.1,decide_eq_true he.1,decide_eq_true hd.2,decide_eq_true he.2] at hc
  cases hc
 repeat' first|refine Wa ?_|(simp (maxSteps:=2000000) only [go_sem,jq,jj,jy,jv,jk,jx,w1,w1',w2,w3,zkv hm hi,hm.some hi,hi,hi0,hi1];try rfl)|refine Wb ?_|fail
theorem zz7 {d:DDuty} (h:zz1 d=true):0≤d.src∧d.src < d.dst∧d.dst≤2880∧0≤d.a∧d.a < 8∧0≤d.b∧d.b < 8:=of_decide_eq_true h
theorem zz8 {m:List Int} {d e:DDuty} (ht:zvm m=true) (hd:zz1 d=true) (he:zz1 e=true):0≤F_mv m d e∧F_mv m d e≤240:=by
 obtain ⟨hl,hv⟩:=zz4 ht
 have h1:=zz7 hd
 have h2:=zz7 he
 have hi:(8 * d.b+e.a).toNat < m.length:=by omega
 have:=hv _ hi
 rw [F_mv,List.getD_eq_getElem?_getD,List.getElem?_eq_getElem hi]
 exact this
def fol2 (pause:Int) (m:List Int) (d e:DDuty):Bool:=zz3 pause m d e || zz3 pause m e d
theorem z0n (pause:Int) (m:Sl Int) (d e:DDuty) (h:Hp) (hm:m.Ok h) (hp:In pause 0 2880=true) (ht:zvm m.l=true) (hd:zz1 d=true) (he:zz1 e=true):Ct jV 317 [.int .i64 pause,m.val,d.v,e.v] h fun v h'=>v=.bool (zz3 pause m.l d e)∧h'=h:=by
 have h1:=zz7 hd
 have h2:=zz7 he
 have h3:=zz8 ht hd he
 have hp':=hp
 simp only [In,jJ,decide_eq_true_eq] at hp'
 have w1:IntKind.i64.wrap (d.dst+(pause+F_mv m.l d e))=d.dst+(pause+F_mv m.l d e):=zjz (by omega)
 rw [zz3,hd,he,Bool.true_and,Bool.true_and]
 refine zdn (fun A W=>by simp) Tryz.func317 rfl rfl (by simp) fun W0=>?_
 repeat' first|refine Wa ?_|refine zhF (fun _=>z0m pause m d e _ hm hp ht ⟨h1.2.2.2.2.2.1,h1.2.2.2.2.2.2⟩ ⟨h2.2.2.2.1,h2.2.2.2.2.1⟩) ?_|refine zhF (fun _=>z0k _ _) ?_|(simp (maxSteps:=2000000) only [go_sem,jq,jj,jy,jv,jk,jx];try rfl)|refine Wb ?_|fail
 rw [w1,hd,he]
 try rfl
theorem zz9 (pause:Int) (m:Sl Int) (d e:DDuty) (h:Hp) (hm:m.Ok h) (hp:In pause 0 2880=true) (ht:zvm m.l=true) (hd:zz1 d=true) (he:zz1 e=true):Ct jV 319 [.int .i64 pause,m.val,d.v,e.v] h fun v h'=>v=.bool (zz3 pause m.l d e)∧h'=h:=by
 have h1:=zz7 hd
 have h2:=zz7 he
 have h3:=zz8 ht hd he
 have hp':=hp
 simp only [In,jJ,decide_eq_true_eq] at hp'
 have w1:IntKind.i64.wrap (d.dst+(pause+F_mv m.l d e))=d.dst+(pause+F_mv m.l d e):=zjz (by omega)
 rw [zz3,hd,he,Bool.true_and,Bool.true_and]
 have e1:zz2 [d]=true:=by simp [zz2,hd]
 have e2:zz2 [e]=true:=by simp [zz2,he]
 have o1:Enc.ok h d:=by show I64 _∧I64 _∧I64 _∧I64 _;unfold I64;omega
 have o2:Enc.ok h e:=by show I64 _∧I64 _∧I64 _∧I64 _;unfold I64;omega
 refine Ct.forget ?_
 refine zdn (fun A W=>by simp) Tryz.func319 rfl rfl (by simp) fun W0=>?_
 refine zie rfl ?_
 refine Evs ?_
 refine zie rfl ?_
 refine Evs ?_
 refine zhF (fun _=>zz6 pause m d e _ hm hp ht ⟨h1.2.2.2.2.2.1,h1.2.2.2.2.2.2⟩ ⟨h2.2.2.2.1,h2.2.2.2.2.1⟩) ?_
 refine Evs ?_
 refine zmR [0,0,0,2,0,0,0,0,2] rfl ?_
 refine Evs ?_
 intro ad cap g1 H
 have k1:(Sl.mk ad cap [d]).Ok g1:=Pub.sl (l:=[d]) (by decide) H (fun x hx=>by rw [List.mem_singleton.1 hx];exact o1)
 refine zhF (fun _=>zz5 (Sl.mk ad cap [d]) g1 k1) ?_
 simp (maxSteps:=2000000) only [go_sem,jq,jj,jy,jv,jk,jx,e1]
 intro ad2 cap2 g2 H2
 have k2:(Sl.mk ad2 cap2 [e]).Ok g2:=Pub.sl (l:=[e]) (by decide) H2 (fun x hx=>by rw [List.mem_singleton.1 hx];exact Enc.mono H.le o2)
 refine zhF (fun _=>zz5 (Sl.mk ad2 cap2 [e]) g2 k2) ?_
 simp (maxSteps:=2000000) only [go_sem,jq,jj,jy,jv,jk,jx,e2,w1]
 exact Wk0
def z0o (pause:Int) (m:List Int) (l:List DDuty):List (List Bool):=l.map fun d=>l.map fun e=>fol2 pause m d e
theorem z0p (pause:Int) (m:Sl Int) (a:Sl DDuty) (h:Hp) (hm:m.Ok h) (hp:In pause 0 2880=true) (ht:zvm m.l=true) (ha:a.Ok h) (hn12:a.l.length≤12) (hall:∀ i (hi:i < a.l.length),zz1 a.l[i]=true):Ct jV 303 [.int .i64 pause,m.val,a.val] h fun v h'=>∃ s:Sl (Sl Bool),v=s.val∧s.l.map (·.l)=z0o pause m.l a.l∧s.Ok h':=by
 have hl:=ha.max
 refine zdn (fun A W=>by simp) Tryz.func303 rfl rfl (by simp) fun W0=>?_
 refine Wk ?_
 refine zl0 (ι:=Nat × List (Sl Bool) × Hp) (fun i=>⟨[(0,true,.c (.v (.int .i64 pause))),(1,true,.c (.v m.val)),(2,true,.c (.v a.val)),(7,true,.c (.s 0)),(14,true,.c (.v a.val)),(15,true,.c (.v (.int .i64 a.l.length))),(16,true,.c (.v (.int .i64 i.1)))],[(0,.row 159 1 i.1 (i.2.1.flatMap Enc.enc))],i.2.2,1⟩) (fun i=>i.1≤a.l.length∧i.2.1.length=i.1∧i.2.1.map (·.l)=(a.l.take i.1).map (fun d=>a.l.map (fol2 pause m.l d))∧(∀ d ∈ i.2.1,Enc.ok i.2.2 d)∧h.le i.2.2) (fun i=>a.l.length - i.1) (0,[],h) ⟨Nat.zero_le _,rfl,rfl,fun _ h=>(by cases h),Hp.le_refl _⟩ [0] ?_ ?_
 ·refine Evs ?_
  exact Gk
 rintro ⟨k,ds,hk⟩ ⟨hi,hn,hm0,ho,hle⟩
 simp only at hi hn hm0 ho hle
 have ha':=ha.mono hle
 have hm':=hm.mono hle
 refine Wk ?_
 refine zc9 rfl (fun hd=>?_) (fun hd=>?_)
 ·have hlt:=zjH hd
  repeat' first|refine Wa ?_|(simp (maxSteps:=2000000) only [go_sem,jq,jj,jy,jv,jk,jx,zle ha' hlt,ha'.some hlt,hlt,jW];try rfl)|refine Wb ?_|fail
  refine zl0 (ι:=Nat) (fun j=>⟨[(0,true,.c (.v (.int .i64 pause))),(1,true,.c (.v m.val)),(2,true,.c (.v a.val)),(7,true,.c (.s 0)),(9,true,.c (.p 1 0)),(10,true,.c (.s 2)),(14,true,.c (.v a.val)),(15,true,.c (.v (.int .i64 a.l.length))),(16,true,.c (.v (.int .i64 k))),(21,true,.c (.v a.val)),(22,true,.c (.v (.int .i64 a.l.length))),(23,true,.c (.v (.int .i64 j)))],[(0,.row 159 1 k (ds.flatMap Enc.enc)),(1,.box 303 [.v (.int .i64 a.l[k].src),.v (.int .i64 a.l[k].dst),.v (.int .i64 a.l[k].a),.v (.int .i64 a.l[k].b)]),(2,.row 4 1 j (((a.l.take j).map (fol2 pause m.l a.l[k])).flatMap Enc.enc))],hk,3⟩) (fun j=>j≤a.l.length) (fun j=>a.l.length - j) 0 (Nat.zero_le _) [0,1,2] ?_ ?_
  ·refine Evs ?_
   exact Gk
  intro j hj
  refine Wk ?_
  refine zc9 rfl (fun hdj=>?_) (fun hdj=>?_)
  ·have hltj:=zjH hdj
   repeat' first|refine Wa ?_|(simp (maxSteps:=2000000) only [go_sem,jq,jj,jy,jv,jk,jx,zle ha' hltj,ha'.some hltj,hltj,jW];try rfl)|refine Wb ?_|fail
   refine zhF (fun _=>z0n pause m a.l[k] a.l[j] _ hm' hp ht (hall k hlt) (hall j hltj)) ?_
   refine Evs ?_
   refine zhF (fun _=>z0n pause m a.l[j] a.l[k] _ hm' hp ht (hall j hltj) (hall k hlt)) ?_
   refine Evs ?_
   refine ⟨by simp only [maxLen];omega,by omega,?_⟩
   refine Wk ?_
   refine ⟨j+1,[0,1,5],hltj,by omega,?_⟩
   refine Evs ?_
   rw [zFd hltj,List.flatMap_append]
   exact Gi (zjA hltj (by omega))
  ·have hgej:=zjI hdj
   have hje:j=a.l.length:=Nat.le_antisymm hj hgej
   subst hje
   refine zc6 ?_
   refine Evs ?_
   refine zlE 2 ((a.l.take a.l.length).map (fol2 pause m.l a.l[k])) rfl rfl (by simp) rfl (by decide) (fun _ _=>trivial) hk (Hp.le_refl _) (Mines.flat (fun _=>rfl) (fun _=>trivial)) fun d h1 e1 e2 hle1 e3=>?_
   refine Wk ?_
   refine ⟨by simp only [maxLen];omega,by omega,?_⟩
   refine Wk ?_
   refine ⟨(k+1,ds ++ [d],h1),[4],⟨hlt,by simp [hn],by rw [List.map_append,hm0,zFd hlt,List.map_cons,List.map_nil,e1,List.take_length],fun x hx=>?_,Hp.le_trans hle hle1⟩,by simp only;omega,?_⟩
   ·rcases List.mem_append.1 hx with hx|hx
    ·exact Enc.mono hle1 (ho x hx)
    ·rw [List.mem_singleton.1 hx];exact e2
   refine Evs ?_
   rw [List.flatMap_append]
   refine ⟨zjB (zjA hlt (by omega)),?_,Hp.le_trans hle hle1,?_⟩ <;> repeat' first|exact rfl|exact trivial|assumption|decide|refine And.intro ?_ ?_
 ·have hge:=zjI hd
  have hke:k=a.l.length:=Nat.le_antisymm hi hge
  refine zc6 ?_
  refine Evs ?_
  refine zOy 0 ds rfl rfl hn.symm rfl (by decide) ho fun s h' e1 e2 e3 e4 e5=>?_
  refine Wk ?_
  exact ⟨s,rfl,by rw [e1,hm0,hke,List.take_length];rfl,e2⟩
def parP (pause:Int) (m:List Int) (l:List DDuty) (i k:Nat):Bool:=decide (i ≠ k) && fol2 pause m (l.getD i dD) (l.getD k dD)
def parT (P:Nat→Nat→Bool) (n i k:Nat):List Nat:=(List.range n).map fun j=>if j < i then zzY (P j) n else if j=i then zzY (P i) k else 0
def parL (P:Nat→Nat→Bool) (n:Nat):List U64:=(List.range n).map fun j=>⟨zzY (P j) n⟩
theorem zAa {P:Nat→Nat→Bool} {n i k:Nat}:(parT P n i k).length=n:=by rw [parT,List.length_map,List.length_range]
theorem zAb {P:Nat→Nat→Bool} {n i k:Nat} (hi:i < n):(parT P n i k)[i]'(by rw [zAa];exact hi)=zzY (P i) k:=by simp [parT]
theorem zAc {P:Nat→Nat→Bool} {n i k:Nat} (hi:i < n):(parT P n i k).set i (zzY (P i) (k+1))=parT P n i (k+1):=by
 refine List.ext_getElem (by rw [List.length_set,zAa,zAa]) fun j h1 h2=>?_
 rw [List.getElem_set]
 simp only [parT,List.getElem_map,List.getElem_range]
 split
 ·rename_i e;subst e;simp
 ·rename_i e
  have e':¬ j=i:=fun h=>e h.symm
  simp only [if_neg e']
theorem zAd {p:Nat→Bool} {k:Nat} (h:p k=false):zzY p (k+1)=zzY p k:=by rw [zzY,if_neg (by rw [h];exact Bool.false_ne_true),Nat.or_zero]
theorem zAe {p:Nat→Bool} {k:Nat} (h:p k=true):zzY p (k+1)=zzY p k ||| 2 ^ k:=by rw [zzY,if_pos h]
theorem zAf {P:Nat→Nat→Bool} {n i k:Nat} (h:P i k=false):parT P n i (k+1)=parT P n i k:=by rw [parT,parT,zAd h]
theorem zAg {j:Nat} (hj:j < 63):IntKind.u64.wrap (1 * 2 ^ min j 64)=((2 ^ j:Nat):Int):=by
 have h2:min j 64=j:=by omega
 rw [h2,Int.one_mul,show ((2:Int) ^ j)=((2 ^ j:Nat):Int) by rw [Int.natCast_pow];rfl]
 exact zzI (Nat.pow_lt_pow_right (by decide) (by omega))
theorem zAh {j:Nat} (hj:j < 62):IntKind.i64.wrap (1 * 2 ^ min j 64)=((2 ^ j:Nat):Int):=by
 have h2:min j 64=j:=by omega
 rw [h2,Int.one_mul,show ((2:Int) ^ j)=((2 ^ j:Nat):Int) by rw [Int.natCast_pow];rfl]
 exact zzH (Nat.pow_lt_pow_right (by decide) (by omega))
theorem zAi {P:Nat→Nat→Bool} {n i:Nat}:parT P n i n=parT P n (i+1) 0:=by
 refine List.ext_getElem (by rw [zAa,zAa]) fun j h1 h2=>?_
 simp only [parT,List.getElem_map,List.getElem_range,zzY]
 by_cases h:j < i
 ·rw [if_pos h,if_pos (by omega)]
 ·rw [if_neg h]
  by_cases h':j=i
  ·subst h';rw [if_pos rfl,if_pos (Nat.lt_succ_self _)]
  ·rw [if_neg h',if_neg (by omega)];split <;> rfl
theorem zAj {P:Nat→Nat→Bool} {n:Nat}:parT P n 0 0=List.replicate n 0:=by
 refine List.ext_getElem (by rw [zAa,List.length_replicate]) fun j h1 h2=>?_
 simp only [parT,List.getElem_map,List.getElem_range,zzY,Nat.not_lt_zero,if_false,List.getElem_replicate,ite_self]
theorem zAk {P:Nat→Nat→Bool} {n:Nat}:(parT P n n 0).map (fun u=>Value.int .u64 (u:Nat))=(parL P n).flatMap Enc.enc:=by
 rw [znK,parL,List.map_map,parT,List.map_map]
 refine List.map_congr_left fun j hj=>?_
 simp only [Function.comp,if_pos (List.mem_range.1 hj)]
theorem zAl {l:List Nat} {i v:Nat} (hi:i < l.length):List.take i (l.map fun u=>Value.int .u64 (u:Nat)) ++ Value.int .u64 (v:Nat) :: List.drop (i+1) (l.map fun u=>Value.int .u64 (u:Nat))=(l.set i v).map fun u=>Value.int .u64 (u:Nat):=by
 rw [znJ (by rw [List.length_map];exact hi),List.map_set]
theorem zAm {l:List Nat} {i:Nat} (hi:i < l.length):(l.map fun u=>Value.int .u64 (u:Nat)).getD i undef=Value.int .u64 (l[i]:Nat):=by simp [List.getD_eq_getElem?_getD,hi]
theorem zAn (pause:Int) (m:Sl Int) (a:Sl DDuty) (h:Hp) (hm:m.Ok h) (hp:In pause 0 2880=true) (ht:zvm m.l=true) (ha:a.Ok h) (hn12:a.l.length≤12) (hall:∀ i (hi:i < a.l.length),zz1 a.l[i]=true):Ct jV 308 [.int .i64 pause,m.val,a.val] h fun v h'=>∃ s:Sl U64,v=s.val∧s.l=parL (parP pause m.l a.l) a.l.length∧s.Ok h'∧Mine h h' s:=by
 have hl:=ha.max
 refine zdn (fun A W=>by simp) Tryz.func308 rfl rfl (by simp) fun W0=>?_
 refine Wk ?_
 refine ⟨by simp only [maxLen];omega,by omega,?_⟩
 refine Wk ?_
 refine zl0 (ι:=Nat) (fun k=>⟨[(0,true,.c (.v (.int .i64 pause))),(1,true,.c (.v m.val)),(2,true,.c (.v a.val)),(7,true,.c (.s 0)),(15,true,.c (.v a.val)),(16,true,.c (.v (.int .i64 a.l.length))),(17,true,.c (.v (.int .i64 k)))],[(0,.row 356 1 a.l.length ((parT (parP pause m.l a.l) a.l.length k 0).map fun u=>Value.int .u64 (u:Nat)))],h,1⟩) (fun k=>k≤a.l.length) (fun k=>a.l.length - k) 0 (Nat.zero_le _) [0] ?_ ?_
 ·refine Evs ?_
  rw [zj4,zAj,List.map_replicate]
  exact Gk
 intro k hk
 refine Wk ?_
 refine zc9 rfl (fun hdk=>?_) (fun hdk=>?_)
 ·have hlt:=zjH hdk
  repeat' first|refine Wa ?_|(simp only [go_sem,jq,jj,jy,jv,jk,jx,zle ha hlt,ha.some hlt,hlt,jW];try rfl)|refine Wb ?_|fail
  refine zl0 (ι:=Nat) (fun j=>⟨[(0,true,.c (.v (.int .i64 pause))),(1,true,.c (.v m.val)),(2,true,.c (.v a.val)),(7,true,.c (.s 0)),(8,true,.c (.v (.int .i64 k))),(9,true,.c (.p 1 0)),(15,true,.c (.v a.val)),(16,true,.c (.v (.int .i64 a.l.length))),(17,true,.c (.v (.int .i64 k))),(22,true,.c (.v a.val)),(23,true,.c (.v (.int .i64 a.l.length))),(24,true,.c (.v (.int .i64 j)))],[(0,.row 356 1 a.l.length ((parT (parP pause m.l a.l) a.l.length k j).map fun u=>Value.int .u64 (u:Nat))),(1,.box 303 [.v (.int .i64 a.l[k].src),.v (.int .i64 a.l[k].dst),.v (.int .i64 a.l[k].a),.v (.int .i64 a.l[k].b)])],h,2⟩) (fun j=>j≤a.l.length) (fun j=>a.l.length - j) 0 (Nat.zero_le _) [0,1] ?_ ?_
  ·refine Evs ?_
   exact Gk
  intro j hj
  refine Wk ?_
  refine zc9 rfl (fun hdj=>?_) (fun hdj=>?_)
  ·have hltj:=zjH hdj
   have hpe:(parP pause m.l a.l) k j=(decide (k ≠ j) && (zz3 pause m.l a.l[k] a.l[j] || zz3 pause m.l a.l[j] a.l[k])):=by rw [parP,dget hlt,dget hltj];rfl
   have hle:=zz0 (p:=(parP pause m.l a.l) k) (k:=j)
   have hpw:2 ^ j≤2 ^ 11:=Nat.pow_le_pow_right (by decide) (by omega)
   by_cases hkj:k=j
   ·have hb:((k:Int) != (j:Int))=false:=by rw [hkj];simp
    rw [decide_eq_false (by simp [hkj]),Bool.false_and] at hpe
    repeat' first|refine Wa ?_|(simp only [go_sem,jq,jj,jy,jv,jk,jx,zle ha hltj,ha.some hltj,hltj,jW,hb,Bool.false_eq_true,false_implies,implies_true,true_and,Bool.false_and];try rfl)|refine Wb ?_|fail
    refine zhF (V:=.bool false) (fun e=>by cases e) ?_
    simp only [go_sem,jq,jj,jy,jv,jk,jx,hb]
    refine zhF (V:=.bool false) (fun e=>by cases e) ?_
    simp only [go_sem,jq,jj,jy,jv,jk,jx,hb]
    repeat' first|refine Wa ?_|(simp only [go_sem,jq,jj,jy,jv,jk,jx,hb];try rfl)|refine Wb ?_|fail
    refine zc9 rfl (fun hq=>?_) (fun hq=>?_)
    ·cases hq
    refine Wk ?_
    refine ⟨j+1,[0,1],hltj,by omega,?_⟩
    refine Evs ?_
    rw [zAf hpe]
    exact Gi (zjA hltj (by omega))
   ·have hb:((k:Int) != (j:Int))=true:=by simp;omega
    rw [decide_eq_true hkj,Bool.true_and] at hpe
    repeat' first|refine Wa ?_|(simp only [go_sem,jq,jj,jy,jv,jk,jx,zle ha hltj,ha.some hltj,hltj,jW,hb];try rfl)|refine Wb ?_|fail
    refine zhF (fun _=>zz9 pause m a.l[k] a.l[j] _ hm hp ht (hall k hlt) (hall j hltj)) ?_
    simp only [go_sem,jq,jj,jy,jv,jk,jx,hb]
    refine zhF (fun _=>zz9 pause m a.l[j] a.l[k] _ hm hp ht (hall j hltj) (hall k hlt)) ?_
    simp only [go_sem,jq,jj,jy,jv,jk,jx,hb]
    refine Wk ?_
    refine zc9 rfl (fun hq=>?_) (fun hq=>?_)
    ·rw [hq] at hpe
     have hL:=zAa (P:=(parP pause m.l a.l)) (n:=a.l.length) (i:=k) (k:=j)
     have hG:=zAb (P:=(parP pause m.l a.l)) (n:=a.l.length) (i:=k) (k:=j) hlt
     have hS:=zAc (P:=(parP pause m.l a.l)) (n:=a.l.length) (i:=k) (k:=j) hlt
     rw [zAe hpe] at hS
     have hsh:=zAg (j:=j) (by omega)
     have hor:zaE .or .u64 ((zzY ((parP pause m.l a.l) k) j:Nat):Int) ((2 ^ j:Nat):Int)=((zzY ((parP pause m.l a.l) k) j ||| 2 ^ j:Nat):Int):=zzL (by omega) (by omega)
     have hG2:=zAm (l:=parT (parP pause m.l a.l) a.l.length k j) (i:=k) (by rw [hL];exact hlt)
     rw [hG] at hG2
     have hS2:=zAl (l:=parT (parP pause m.l a.l) a.l.length k j) (i:=k) (v:=zzY ((parP pause m.l a.l) k) j ||| 2 ^ j) (by rw [hL];exact hlt)
     rw [hS] at hS2
     have hmp:((parT (parP pause m.l a.l) a.l.length k j).map fun u=>Value.int .u64 (u:Nat)).length=a.l.length:=by rw [List.length_map,hL]
     refine znv rfl ?_
     refine U_t [0,1,4,2,5,3,6,7] rfl ?_
     simp only [go_sem,jq,jj,jy,jv,jk,jx,hlt,hG2,hsh,hor,hmp,jW,Nat.mul_one,jY]
     refine U_1 8 0 [] rfl rfl ?_
     simp only [go_sem,jq,jj,jy,jv,jk,jx,hlt,hG2,hsh,hor,hmp,jW,Nat.mul_one,jY]
     refine ⟨by omega,?_⟩
     refine U_d ?_
     rw [hS2]
     refine Wk ?_
     refine ⟨j+1,[0,1],hltj,by omega,?_⟩
     refine Evs ?_
     exact Gi (zjA hltj (by omega))
    ·rw [hq] at hpe
     refine Wk ?_
     refine ⟨j+1,[0,1],hltj,by omega,?_⟩
     refine Evs ?_
     rw [zAf hpe]
     exact Gi (zjA hltj (by omega))
  ·have hgej:=zjI hdj
   have hje:j=a.l.length:=Nat.le_antisymm hj hgej
   subst hje
   have hnx:=zAi (P:=(parP pause m.l a.l)) (n:=a.l.length) (i:=k)
   refine Wk ?_
   refine ⟨k+1,[0],hlt,by omega,?_⟩
   refine Evs ?_
   rw [← hnx]
   exact Gi (zjA hlt (by omega))
 ·have hge:=zjI hdk
  have hke:k=a.l.length:=Nat.le_antisymm hk hge
  subst hke
  rw [zAk]
  refine zc6 ?_
  refine Evs ?_
  refine zlE 0 (parL (parP pause m.l a.l) a.l.length) rfl rfl (by simp [parL]) rfl (by decide) (fun x hx=>?_) h (Hp.le_refl _) (Mines.flat (fun _=>rfl) (fun _=>trivial)) fun s h' e1 e2 e3 e4=>?_
  ·obtain ⟨j,hj,rfl⟩:=List.mem_map.1 hx
   exact Nat.lt_of_lt_of_le zz0 (Nat.pow_le_pow_right (by decide) (by omega))
  refine Wk ?_
  exact ⟨s,rfl,e1,e2,e4⟩
def zAo:ByteArray:=⟨#[0,1,2,2,3,3,3,3,4,4,4,4,4,4,4,4,5,5,5,5,5,5,5,5,5,5,5,5,5,5,5,5,6,6,6,6,6,6,6,6,6,6,6,6,6,6,6,6,6,6,6,6,6,6,6,6,6,6,6,6,6,6,6,6,7,7,7,7,7,7,7,7,7,7,7,7,7,7,7,7,7,7,7,7,7,7,7,7,7,7,7,7,7,7,7,7,7,7,7,7,7,7,7,7,7,7,7,7,7,7,7,7,7,7,7,7,7,7,7,7,7,7,7,7,7,7,7,7,8,8,8,8,8,8,8,8,8,8,8,8,8,8,8,8,8,8,8,8,8,8,8,8,8,8,8,8,8,8,8,8,8,8,8,8,8,8,8,8,8,8,8,8,8,8,8,8,8,8,8,8,8,8,8,8,8,8,8,8,8,8,8,8,8,8,8,8,8,8,8,8,8,8,8,8,8,8,8,8,8,8,8,8,8,8,8,8,8,8,8,8,8,8,8,8,8,8,8,8,8,8,8,8,8,8,8,8,8,8,8,8,8,8,8,8,8,8,8,8,8,8,8,8,8,8,8,8]⟩
def zAp (x k:Nat):Prop:=x < 2 ^ k∧(0 < x→0 < k∧2 ^ (k - 1)≤x)
instance (x k:Nat):Decidable (zAp x k):=inferInstanceAs (Decidable (_∧_))
set_option maxRecDepth 100000 in
theorem zAq:((List.range 256).all fun b=>decide (zAp b ((zAo[b]?).getD 0).toNat))=true:=by kernel_rfl
theorem zAr {b:Nat} (h:b < 256):zAp b ((zAo[b]?).getD 0).toNat:=of_decide_eq_true (List.all_eq_true.1 zAq b (List.mem_range.2 h))
theorem zAs {x k:Nat} (h:zAp (x / 256) k) (h2:256≤x):zAp x (8+k):=by
 obtain ⟨h1,h3⟩:=h
 have h4:=h3 (by omega)
 refine ⟨?_,fun _=>⟨by omega,?_⟩⟩
 ·rw [Nat.pow_add];omega
 ·rw [show 8+k - 1=8+(k - 1) by omega,Nat.pow_add];omega
theorem zAt {b:Nat} (t:ByteArray) (e:t=zAo):Value.int .i64 (IntKind.i64.wrap (IntKind.i64.wrap (0+8)+IntKind.i64.wrap (zms t b)))=Value.int .i64 ((8+((zAo[b]?).getD 0).toNat:Nat):Int):=by
 subst e
 have:=UInt8.toNat_lt ((zAo[b]?).getD 0)
 rw [show zms zAo b=(((zAo[b]?).getD 0).toNat:Int) from rfl,zjz (n:=0+8) (by omega),zjz (n:=(((zAo[b]?).getD 0).toNat:Int)) (by omega),zjz (by omega)]
 congr 1
theorem zAu {b:Nat} (t:ByteArray) (e:t=zAo):Value.int .i64 (IntKind.i64.wrap (0+IntKind.i64.wrap (zms t b)))=Value.int .i64 ((((zAo[b]?).getD 0).toNat:Nat):Int):=by
 subst e
 have:=UInt8.toNat_lt ((zAo[b]?).getD 0)
 rw [show zms zAo b=(((zAo[b]?).getD 0).toNat:Int) from rfl,zjz (n:=(((zAo[b]?).getD 0).toNat:Int)) (by omega),Int.zero_add,zjz (by omega)]
theorem zAv (x:Nat) (h:Hp) (hx:x < 65536):Ct jV 327 [.int .u64 x] h fun v h'=>(∃ k:Nat,v=.int .i64 k∧zAp x k)∧h'=h:=by
 refine Ct.forget ?_
 refine zdn (fun A W=>by simp) Tryz.func327 rfl rfl (by simp) fun W0=>?_
 refine Wk ?_
 refine zc9 rfl (fun hc=>?_) (fun hc=>?_)
 ·have:=of_decide_eq_true hc;omega
 refine Wk ?_
 refine zc9 rfl (fun hc=>?_) (fun hc=>?_)
 ·have:=of_decide_eq_true hc;omega
 refine Wk ?_
 refine zc9 rfl (fun hc=>?_) (fun hc=>?_)
 ·have hc:=of_decide_eq_true hc
  have hb:x / 256 < 256:=by omega
  have hf:(x:Int).fdiv (2 ^ min (Int.toNat 8) 64)=((x / 256:Nat):Int):=by
   rw [show (2:Int) ^ min (Int.toNat 8) 64=((256:Nat):Int) by decide,Int.fdiv_eq_ediv_of_nonneg _ (by decide)];rfl
  have hu:IntKind.u8.wrap ((x / 256:Nat):Int)=((x / 256:Nat):Int):=by show (((x / 256:Nat)):Int) % 256=_;omega
  repeat' first|refine Wa ?_|(simp only [go_sem,jq,jj,jy,jv,jk,jx,hf,hu];try rfl)|refine Wb ?_|fail
  refine ⟨by decide,?_⟩
  repeat' first|refine Wa ?_|(simp only [go_sem,jq,jj,jy,jv,jk,jx,hf,hu];try rfl)|refine Wb ?_|fail
  refine ⟨Nat.lt_of_lt_of_eq hb (by kernel_rfl),?_⟩
  repeat' first|refine Wa ?_|(simp only [go_sem,jq,jj,jy,jv,jk,jx,hf,hu];try rfl)|refine Wb ?_|fail
  refine ⟨8+((zAo[x / 256]?).getD 0).toNat,?_,zAs (zAr hb) (by omega)⟩
  exact zAt _ (by kernel_rfl)
 ·have hc:=of_decide_eq_false hc
  have hb:x < 256:=by omega
  have hu:IntKind.u8.wrap (x:Int)=(x:Int):=by show (x:Int) % 256=_;omega
  repeat' first|refine Wa ?_|(simp only [go_sem,jq,jj,jy,jv,jk,jx,hu];try rfl)|refine Wb ?_|fail
  refine ⟨Nat.lt_of_lt_of_eq hb (by kernel_rfl),?_⟩
  repeat' first|refine Wa ?_|(simp only [go_sem,jq,jj,jy,jv,jk,jx,hu];try rfl)|refine Wb ?_|fail
  refine ⟨((zAo[x]?).getD 0).toNat,?_,zAr hb⟩
  exact zAu _ (by kernel_rfl)
theorem zAw (x:Nat) (h:Hp) (hx:x < 65536):Ct jV 320 [.int .u64 x] h fun v h'=>(∃ k:Nat,v=.int .i64 k∧zAp x k)∧h'=h:=by
 refine Ct.forget ?_
 refine zdn (fun A W=>by simp) Tryz.func320 rfl rfl (by simp) fun W0=>?_
 refine Wk ?_
 refine znM ?_
 refine Wk ?_
 refine zkj (zAv x _ hx) rfl ?_
 rintro v h1 le1 ⟨⟨k,rfl,hk⟩,rfl⟩
 refine Wk ?_
 exact ⟨k,rfl,hk⟩
section
variable {both:Nat→Nat→Bool}
theorem zAx {s n m:Nat} (H:zzO both s m) (hs:s < 2 ^ n):m≤n:=H.2 n (CovOn.id fun i hi=>zzS hs hi)
def LTab (both:Nat→Nat→Bool) (tg:List Bool) (ls:List Nat) (s:Nat):Prop:=∀ q,q < s→(tg.getD q false=true ↔ Cliq both q)∧zzO both q (ls.getD q 0)
theorem zAy {set k:Nat} (h:zAp set k) (h0:0 < set):0 < k∧zzB set (2 ^ (k - 1)) < 2 ^ (k - 1)∧(∀ i,set.testBit i=true ↔ ((zzB set (2 ^ (k - 1))).testBit i=true∨i=k - 1))∨2 ^ 64≤set:=by
 rcases Nat.lt_or_ge set (2 ^ 64) with h64|h64
 ·left
  obtain ⟨h1,h2⟩:=h
  obtain ⟨h3,h4⟩:=h2 h0
  have hb:set.testBit (k - 1)=true:=by
   have:set / 2 ^ (k - 1)=1:=by
    have e:2 ^ k=2 * 2 ^ (k - 1):=by rw [← Nat.pow_succ',show (k - 1).succ=k by omega]
    rw [Nat.div_eq_iff (Nat.two_pow_pos _)];omega
   rw [Nat.testBit_eq_decide_div_mod_eq,this];rfl
  have hd:∀ i,(zzB set (2 ^ (k - 1))).testBit i=(set.testBit i && !decide (k - 1=i)):=fun i=>by rw [zzC h64,Nat.testBit_two_pow]
  refine ⟨h3,?_,fun i=>?_⟩
  ·apply Nat.lt_pow_two_of_testBit
   intro i hi
   rw [hd]
   by_cases e:k - 1=i
   ·simp [e]
   ·have:set.testBit i=false:=Nat.testBit_lt_two_pow (Nat.lt_of_lt_of_le h1 (Nat.pow_le_pow_right (by decide) (by omega)))
    rw [this];rfl
  ·rw [hd]
   by_cases e:k - 1=i
   ·subst e;simp [hb]
   ·have:¬ i=k - 1:=fun h=>e h.symm
    simp [e,this]
 ·exact .inr h64
theorem zAz {a b l:Nat} (h:subN a b) (hb:b < 2 ^ l):a ||| 2 ^ l=a+2 ^ l:=by
 have ha:a < 2 ^ l:=Nat.lt_of_le_of_lt (zzy h) hb
 have:=Nat.two_pow_add_eq_or_of_lt ha 1
 rw [Nat.mul_one] at this
 rw [Nat.or_comm,← this,Nat.add_comm]
end
theorem zAA {l:List Bool} {i:Nat} {v:Bool} (hi:i < l.length):List.take i (l.map Value.bool) ++ Value.bool v :: List.drop (i+1) (l.map Value.bool)=(l.set i v).map Value.bool:=by
 rw [znJ (by rw [List.length_map];exact hi),List.map_set]
theorem zAB {l:List Bool} {i:Nat} (hi:i < l.length):(l.map Value.bool).getD i undef=Value.bool (l.getD i false):=by simp [List.getD_eq_getElem?_getD,hi]
def nv (u:Nat):Value:=Value.int .i64 (u:Nat)
theorem zAC {l:List Nat} {i v:Nat} (hi:i < l.length):List.take i (l.map nv) ++ Value.int .i64 (v:Nat) :: List.drop (i+1) (l.map nv)=(l.set i v).map nv:=by
 have:=znJ (l:=l.map nv) (i:=i) (a:=nv v) (by rw [List.length_map];exact hi)
 rw [← List.map_set] at this
 exact this
theorem zAD {l:List Nat} {i:Nat} (hi:i < l.length):(l.map nv).getD i undef=Value.int .i64 (l.getD i 0:Nat):=by simp [List.getD_eq_getElem?_getD,hi,nv]
theorem zAE {α:Type} {l:List α} {i j:Nat} {v d:α}:(l.set i v).getD j d=if i=j∧j < l.length then v else l.getD j d:=by
 simp only [List.getD_eq_getElem?_getD,List.getElem?_set]
 by_cases h:i=j
 ·subst h
  by_cases h2:i < l.length
  ·simp [h2]
  ·simp [h2]
 ·simp [h]
theorem zAF (both:Nat→Nat→Bool) (a:Sl U64) (h:Hp) (ha:a.Ok h) (hn:a.l.length≤12) (hs:∀ i (hi:i < a.l.length) k,(a.l[i].n).testBit k=(decide (k < a.l.length) && (decide (i ≠ k) && both i k))):Ct jV 309 [a.val] h fun v h'=>(∃ m:Nat,v=.int .i64 m∧zzO both (2 ^ a.l.length - 1) m)∧h'=h:=by
 have hN:2 ^ a.l.length≤2 ^ 12:=Nat.pow_le_pow_right (by decide) hn
 have hN0:0 < 2 ^ a.l.length:=Nat.two_pow_pos _
 have hsh0:=zAh (j:=a.l.length) (by omega)
 refine Ct.forget ?_
 refine zdn (fun A W=>by simp) Tryz.func309 rfl rfl (by simp) fun W0=>?_
 repeat' first|refine Wa ?_|(simp only [go_sem,jq,jj,jy,jv,jk,jx,hsh0];try rfl)|refine Wb ?_|fail
 refine ⟨by simp only [maxLen];omega,by omega,?_⟩
 refine Wk ?_
 refine ⟨by simp only [maxLen];omega,by omega,?_⟩
 have z0:(0:Int) < ((2 ^ a.l.length:Nat):Int):=by omega
 repeat' first|refine Wa ?_|(simp only [go_sem,jq,jj,jy,jv,jk,jx,z0,zj4,Int.toNat_zero,Nat.zero_mul];try rfl)|refine Wb ?_|fail
 refine ⟨Int.le_refl _,by rw [List.length_replicate];omega,?_⟩
 refine Wk ?_
 refine zl0 (ι:=Nat × List Bool × List Nat) (fun i=>⟨[(0,true,.c (.v a.val)),(3,true,.c (.v (.int .i64 (2 ^ a.l.length:Nat)))),(4,true,.c (.s 0)),(5,true,.c (.s 1)),(6,true,.c (.v (.int .i64 i.1)))],[(0,.row 4 1 (2 ^ a.l.length) (i.2.1.map Value.bool)),(1,.row 3 1 (2 ^ a.l.length) (i.2.2.map nv))],h,2⟩) (fun i=>0 < i.1∧i.1≤2 ^ a.l.length∧i.2.1.length=2 ^ a.l.length∧i.2.2.length=2 ^ a.l.length∧LTab both i.2.1 i.2.2 i.1) (fun i=>2 ^ a.l.length - i.1) (1,(List.replicate (2 ^ a.l.length) false).set 0 true,List.replicate (2 ^ a.l.length) 0) ⟨Nat.zero_lt_one,by simp only;omega,by simp,by simp,?_⟩ [0,1] ?_ ?_
 ·intro q hq
  obtain rfl:q=0:=by simp only at hq;omega
  rw [zAE,if_pos ⟨rfl,by rw [List.length_replicate];omega⟩]
  refine ⟨⟨fun _ i k hi=>by simp at hi,fun _=>rfl⟩,?_⟩
  have:(List.replicate (2 ^ a.l.length) 0).getD 0 0=0:=by rw [List.getD_eq_getElem?_getD,List.getElem?_replicate,if_pos hN0];rfl
  simp only [this];exact zzP
 ·have e0:Value.bool true :: List.drop 1 (List.replicate (2 ^ a.l.length) (Value.bool false))=List.map Value.bool ((List.replicate (2 ^ a.l.length) false).set 0 true):=by
   have:=zAA (l:=List.replicate (2 ^ a.l.length) false) (i:=0) (v:=true) (by rw [List.length_replicate];omega)
   rw [List.map_replicate] at this
   exact this
  have e1:List.replicate (2 ^ a.l.length) (Value.int .i64 0)=List.map nv (List.replicate (2 ^ a.l.length) 0):=by rw [List.map_replicate];rfl
  refine Evs ?_
  rw [e0,e1]
  exact Gk
 rintro ⟨set,tg,ls⟩ ⟨h1s,hsle,htl,hll,htab⟩
 simp only at h1s hsle htl hll htab
 refine Wk ?_
 refine zc9 rfl (fun hd=>?_) (fun hd=>?_)
 ·have hsN:=zjH hd
  have hwu:IntKind.u64.wrap (set:Int)=(set:Int):=zzI (by omega)
  have hsN2:(set:Int) < ((2 ^ a.l.length:Nat):Int):=by omega
  repeat' first|refine Wa ?_|(simp only [go_sem,jq,jj,jy,jv,jk,jx,hwu];try rfl)|refine Wb ?_|fail
  refine zkj (zAw set _ (by omega)) rfl ?_
  rintro v h1 le1 ⟨⟨k,rfl,hk⟩,e1⟩
  subst h1
  rcases zAy hk h1s with ⟨hk0,hrl,hbit⟩|hbad
  case inr=>omega
  have hk2:=(hk.2 h1s).2
  obtain ⟨l,rfl⟩:∃ l,k=l+1:=⟨k - 1,by omega⟩
  simp only [Nat.add_sub_cancel] at hrl hbit hk2
  have hln:l < a.l.length:=by
   rcases Nat.lt_or_ge l a.l.length with h|h
   ·exact h
   ·have:=Nat.pow_le_pow_right (show 0 < 2 by decide) h;omega
  have hlni:(l:Int) < a.l.length:=by omega
  have hw1:IntKind.i64.wrap (((l+1:Nat):Int) - 1)=(l:Int):=by rw [zjz (by omega)];omega
  have hsh:=zAh (j:=l) (by omega)
  have hnot:zaE .andNot .i64 (set:Int) ((2 ^ l:Nat):Int)=((zzB set (2 ^ l):Nat):Int):=zzM (by omega)
  generalize hR:zzB set (2 ^ l)=rest at hrl hbit hnot
  have hsr:set=rest ||| 2 ^ l:=by
   apply Nat.eq_of_testBit_eq
   intro i
   rw [zzR,Bool.eq_iff_iff,hbit i,jQ,decide_eq_true_eq]
   exact or_congr_right ⟨fun h=>h.symm,fun h=>h.symm⟩
  have hsum:=zAz (a:=rest) (fun _ h=>h) hrl
  have hrs:rest < set:=by omega
  have hr1:(rest:Int) < ((2 ^ a.l.length:Nat):Int):=by omega
  have hr2:rest < 2 ^ a.l.length:=by omega
  have hgr:=zAB (l:=tg) (i:=rest) (by omega)
  have hlr:rest < (tg.map Value.bool).length:=by rw [List.length_map,htl];exact hr2
  have hu2:IntKind.u64.wrap (rest:Int)=(rest:Int):=zzI (by omega)
  have hnu:zaE .andNot .u64 (rest:Int) ((a.l[l].n:Nat):Int)=((zzB rest a.l[l].n:Nat):Int):=zzN (by omega)
  obtain ⟨cv,hcve⟩:∃ cv,cv=(tg.getD rest false && (((zzB rest a.l[l].n:Nat):Int) == 0)):=⟨_,rfl⟩
  have hcv:cv=true ↔ Cliq both set:=by
   rw [hcve,jJ,(htab rest hrs).1,hsr,zzX (q:=rest) (rest:=rest) (fun _ h=>h) hrl]
   refine and_congr_right fun _=>?_
   rw [beq_iff_eq,show (((zzB rest a.l[l].n:Nat):Int)=0 ↔ zzB rest a.l[l].n=0) from by omega,zzF (by omega)]
   constructor
   ·intro hh q hq
    have:=hh q hq
    rw [hs l hln q] at this
    simp only [jJ] at this
    exact this.2.2
   ·intro hh q hq
    have hql:=zzS hrl hq
    rw [hs l hln q,hh q hq,decide_eq_true (by omega),decide_eq_true (by omega)];rfl
  repeat' first|refine Wa ?_|(simp only [go_sem,jq,jj,jy,jv,jk,jx,hw1,hsh,hnot];try rfl)|refine Wb ?_|fail
  have hat:=znI ha hln
  simp only [Nat.mul_one] at hat
  repeat' first|refine Wa ?_|(simp only [go_sem,jq,jj,jy,jv,jk,jx,hw1,hr1,hr2,hgr,hlr,hu2,hnu,hat,ha.some hln,hln,hlni,hsN,hsN2,jY,jW,Nat.mul_one,implies_true,true_and,and_true,and_self];try rfl)|refine Wb ?_|fail
  refine ⟨by rw [List.length_map];omega,?_⟩
  rw [← hcve,zAA (by omega)]
  refine Wk ?_
  refine ⟨by rw [List.length_map];omega,?_⟩
  rw [zAC (by omega)]
  refine Wk ?_
  refine zl0 (ι:=Nat × Nat) (fun i=>⟨[(0,true,.c (.v a.val)),(3,true,.c (.v (.int .i64 (2 ^ a.l.length:Nat)))),(4,true,.c (.s 0)),(5,true,.c (.s 1)),(6,true,.c (.v (.int .i64 set))),(7,true,.c (.v (.int .i64 l))),(8,true,.c (.v (.int .i64 rest))),(9,true,.c (.v (.int .i64 i.1)))],[(0,.row 4 1 (2 ^ a.l.length) ((tg.set set cv).map Value.bool)),(1,.row 3 1 (2 ^ a.l.length) ((ls.set set i.2).map nv))],h,2⟩) (fun i=>subN i.1 rest∧zzQ both (fun q=>ls.getD q 0) a.l.length set rest l i.2 i.1) (fun i=>i.1) (rest,a.l.length) ⟨fun _ h=>h,zzT hsN⟩ [0,1] ?_ ?_
  ·refine Evs ?_
   simp only [Nat.mul_one]
   exact Gk
  rintro ⟨part,cur⟩ ⟨hpr,hin⟩
  simp only at hpr hin
  have hps:part≤rest:=zzy hpr
  have hq1:part ||| 2 ^ l=part+2 ^ l:=zAz hpr hrl
  have hq2:part ||| 2 ^ l≤set:=by omega
  have hcn:=hin.2.1
  have hor:zaE .or .i64 (part:Int) ((2 ^ l:Nat):Int)=((part ||| 2 ^ l:Nat):Int):=zzK (by omega) (by omega)
  have hq3:((part ||| 2 ^ l:Nat):Int) < ((2 ^ a.l.length:Nat):Int):=by omega
  have hq4:part ||| 2 ^ l < 2 ^ a.l.length:=by omega
  have hgt:=zAB (l:=tg.set set cv) (i:=part ||| 2 ^ l) (by rw [List.length_set,htl];omega)
  have hlt1:part ||| 2 ^ l < ((tg.set set cv).map Value.bool).length:=by rw [List.length_map,List.length_set,htl];omega
  have hcq:(tg.set set cv).getD (part ||| 2 ^ l) false=true ↔ Cliq both (part ||| 2 ^ l):=by
   rw [zAE,htl]
   by_cases e:set=part ||| 2 ^ l
   ·rw [if_pos ⟨e,by omega⟩,← e];exact hcv
   ·rw [if_neg (fun h=>e h.1)];exact (htab _ (by omega)).1
  repeat' first|refine Wa ?_|(simp only [go_sem,jq,jj,jy,jv,jk,jx,hsh,hor,hq3,hq4,hgt,hlt1,jY,jW,Nat.mul_one];try rfl)|refine Wb ?_|fail
  refine zc9 rfl (fun hx=>?_) (fun hx=>?_)
  ·have hcl:=hcq.1 hx
   have hd:zzB rest part≤rest:=zzE (by omega)
   have hnd:zaE .andNot .i64 (rest:Int) (part:Int)=((zzB rest part:Nat):Int):=zzM (by omega)
   have hld:=zAx (htab (zzB rest part) (by omega)).2 (n:=a.l.length) (by omega)
   have hg1:=zAD (l:=ls.set set cur) (i:=set) (by rw [List.length_set,hll];omega)
   rw [zAE,if_pos ⟨rfl,by omega⟩] at hg1
   have hg2:=zAD (l:=ls.set set cur) (i:=zzB rest part) (by rw [List.length_set,hll];omega)
   rw [zAE,if_neg (fun h=>by omega)] at hg2
   have hm1:set < ((ls.set set cur).map nv).length:=by rw [List.length_map,List.length_set,hll];omega
   have hm2:zzB rest part < ((ls.set set cur).map nv).length:=by rw [List.length_map,List.length_set,hll];omega
   have hn1:zzB rest part < 2 ^ a.l.length:=by omega
   have hn2:((zzB rest part:Nat):Int) < ((2 ^ a.l.length:Nat):Int):=by omega
   have hw2:IntKind.i64.wrap (1+((ls.getD (zzB rest part) 0:Nat):Int))=((1+ls.getD (zzB rest part) 0:Nat):Int):=by rw [zjz (by omega)];omega
   have hmin:min (cur:Int) ((1+ls.getD (zzB rest part) 0:Nat):Int)=((min cur (1+ls.getD (zzB rest part) 0):Nat):Int):=by omega
   have hset:=zAC (l:=ls.set set cur) (i:=set) (v:=min cur (1+ls.getD (zzB rest part) 0)) (by rw [List.length_set,hll];omega)
   rw [List.set_set] at hset
   have hcov2:=zzU hin hbit hrl (by omega) hpr (fun q hq=>(htab q (by omega)).2) hcl
   have hle2:min cur (1+ls.getD (zzB rest part) 0)≤cur:=Nat.min_le_left _ _
   have hstep:Cliq both (part ||| 2 ^ l)→min cur (1+ls.getD (zzB rest part) 0)≤1+ls.getD (zzB rest part) 0:=fun _=>Nat.min_le_right _ _
   refine Wk ?_
   refine znv rfl ?_
   refine U_t [0,1,2,3,6,7,8,4,9,5,10,11,12] rfl ?_
   simp only [go_sem,jq,jj,jy,jv,jk,jx,hnd,hg1,hg2,hm1,hm2,hn1,hn2,hw2,hmin,hsN,hsN2,jY,jW,Nat.mul_one]
   refine U_1 13 0 [] rfl rfl ?_
   simp only [go_sem,jq,jj,jy,jv,jk,jx,hnd,hg1,hg2,hm1,hm2,hn1,hn2,hw2,hmin,hsN,hsN2,jY,jW,Nat.mul_one]
   refine U_t [14] rfl ?_
   simp only [go_sem,jq,jj,jy,jv,jk,jx,hnd,hg1,hg2,hm1,hm2,hn1,hn2,hw2,hmin,hsN,hsN2,jY,jW,Nat.mul_one]
   refine U_1 15 0 [] rfl rfl ?_
   simp only [go_sem,jq,jj,jy,jv,jk,jx,hnd,hg1,hg2,hm1,hm2,hn1,hn2,hw2,hmin,hsN,hsN2,jY,jW,Nat.mul_one]
   refine ⟨by omega,?_⟩
   refine U_d ?_
   rw [hset]
   refine Wk ?_
   refine zc9 rfl (fun hz=>?_) (fun hz=>?_)
   ·have hz:part=0:=by have:=eq_of_beq hz;omega
    subst hz
    have hleast:zzO both set (min cur (1+ls.getD (zzB rest 0) 0)):=zzW hcov2 (fun q hq hcl=>by
     rcases Nat.eq_zero_or_pos q with rfl|h0
     ·exact hstep hcl
     ·exact Nat.le_trans hle2 (hin.2.2 q hq h0 hcl)) hbit hrl (by omega) (fun q hq=>(htab q (by omega)).2)
    refine Wk ?_
    refine ⟨(set+1,tg.set set cv,ls.set set (min cur (1+ls.getD (zzB rest 0) 0))),[0,1],⟨by omega,by omega,by rw [List.length_set];exact htl,by rw [List.length_set];exact hll,fun q hq=>?_⟩,by simp only;omega,?_⟩
    ·rw [zAE,zAE,htl,hll]
     by_cases e:set=q
     ·subst e
      rw [if_pos ⟨rfl,hsN⟩,if_pos ⟨rfl,hsN⟩]
      exact ⟨hcv,hleast⟩
     ·rw [if_neg (fun h=>e h.1),if_neg (fun h=>e h.1)]
      exact htab q (by omega)
    ·refine Evs ?_
     exact Gi (zjA (n:=4096) (k:=set) (by omega) (by omega))
   ·have hz:part ≠ 0:=by intro e;rw [e] at hz;cases hz
    have hwp:IntKind.i64.wrap ((part:Int) - 1)=((part - 1:Nat):Int):=by rw [zjz (by omega)];omega
    have hand:zaE .and .i64 ((part - 1:Nat):Int) (rest:Int)=(((part - 1) &&& rest:Nat):Int):=zzJ (by omega) (by omega)
    have hle3:(part - 1) &&& rest≤part - 1:=Nat.and_le_left
    repeat' first|refine Wa ?_|(simp only [go_sem,jq,jj,jy,jv,jk,jx,hwp,hand];try rfl)|refine Wb ?_|fail
    refine ⟨((part - 1) &&& rest,(min cur (1+ls.getD (zzB rest part) 0))),[0,1],⟨fun i hi=>by rw [Nat.testBit_and,jJ] at hi;exact hi.2,zzV hin hpr hcov2 hle2 hstep⟩,by simp only;omega,?_⟩
    refine Evs ?_
    exact Gk
  ·have hcl:¬ Cliq both (part ||| 2 ^ l):=fun h=>by rw [hcq.2 h] at hx;cases hx
   have hcov2:=hin.1
   have hle2:cur≤cur:=Nat.le_refl _
   have hstep:Cliq both (part ||| 2 ^ l)→cur≤1+ls.getD (zzB rest part) 0:=fun h=>(hcl h).elim
   refine Wk ?_
   refine zc9 rfl (fun hz=>?_) (fun hz=>?_)
   ·have hz:part=0:=by have:=eq_of_beq hz;omega
    subst hz
    have hleast:zzO both set cur:=zzW hcov2 (fun q hq hcl=>by
     rcases Nat.eq_zero_or_pos q with rfl|h0
     ·exact hstep hcl
     ·exact Nat.le_trans hle2 (hin.2.2 q hq h0 hcl)) hbit hrl (by omega) (fun q hq=>(htab q (by omega)).2)
    refine Wk ?_
    refine ⟨(set+1,tg.set set cv,ls.set set cur),[0,1],⟨by omega,by omega,by rw [List.length_set];exact htl,by rw [List.length_set];exact hll,fun q hq=>?_⟩,by simp only;omega,?_⟩
    ·rw [zAE,zAE,htl,hll]
     by_cases e:set=q
     ·subst e
      rw [if_pos ⟨rfl,hsN⟩,if_pos ⟨rfl,hsN⟩]
      exact ⟨hcv,hleast⟩
     ·rw [if_neg (fun h=>e h.1),if_neg (fun h=>e h.1)]
      exact htab q (by omega)
    ·refine Evs ?_
     exact Gi (zjA (n:=4096) (k:=set) (by omega) (by omega))
   ·have hz:part ≠ 0:=by intro e;rw [e] at hz;cases hz
    have hwp:IntKind.i64.wrap ((part:Int) - 1)=((part - 1:Nat):Int):=by rw [zjz (by omega)];omega
    have hand:zaE .and .i64 ((part - 1:Nat):Int) (rest:Int)=(((part - 1) &&& rest:Nat):Int):=zzJ (by omega) (by omega)
    have hle3:(part - 1) &&& rest≤part - 1:=Nat.and_le_left
    repeat' first|refine Wa ?_|(simp only [go_sem,jq,jj,jy,jv,jk,jx,hwp,hand];try rfl)|refine Wb ?_|fail
    refine ⟨((part - 1) &&& rest,cur),[0,1],⟨fun i hi=>by rw [Nat.testBit_and,jJ] at hi;exact hi.2,zzV hin hpr hcov2 hle2 hstep⟩,by simp only;omega,?_⟩
    refine Evs ?_
    exact Gk
 ·have hge:=zjI hd
  have hse:set=2 ^ a.l.length:=by omega
  have hwl:IntKind.i64.wrap (((2 ^ a.l.length:Nat):Int) - 1)=((2 ^ a.l.length - 1:Nat):Int):=by rw [zjz (by omega)];omega
  have hgl:=zAD (l:=ls) (i:=2 ^ a.l.length - 1) (by omega)
  have hll2:2 ^ a.l.length - 1 < (ls.map nv).length:=by rw [List.length_map,hll];omega
  have hll3:((2 ^ a.l.length - 1:Nat):Int) < ((2 ^ a.l.length:Nat):Int):=by omega
  repeat' first|refine Wa ?_|(simp only [go_sem,jq,jj,jy,jv,jk,jx,hwl,hgl,hll2,hll3,jY,jW,Nat.mul_one];try rfl)|refine Wb ?_|fail
  exact ⟨_,rfl,(htab _ (by omega)).2⟩
theorem zAG {α β:Type} {g:Nat→Option β} {n:Nat} {w:β} (h:∀ c,c < n→g c=none) (hg:g n=some w):∀ {M:Nat},n < M→(List.range M).findSome? g=some w
 | 0,hn=>absurd hn (Nat.not_lt_zero _)
 | M+1,hn=>by
  rw [List.range_succ,List.findSome?_append]
  rcases Nat.lt_or_ge n M with h1|h1
  ·rw [zAG (α:=α) h hg h1];rfl
  ·obtain rfl:n=M:=by omega
   rw [List.findSome?_eq_none_iff.2 (fun x hx=>h x (List.mem_range.1 hx))]
   simp [hg]
def zs (l:List Nat):List Int:=l.map fun (k:Nat)=>(k:Int)
theorem zAH {l:List Nat}:(zs l).length=l.length:=List.length_map ..
theorem z0q {l:List Nat} {k:Nat} (h:k < (zs l).length):(zs l)[k]=(l.getD k 0:Nat):=by
 have:k < l.length:=by rw [← zAH];exact h
 simp [zs,List.getD_eq_getElem?_getD,this]
theorem z0r {l:List Nat} {k:Nat} (h:k < l.length):znQ (l.take (k+1))=max (znQ (l.take k)) (l.getD k 0+1):=by
 rw [List.take_succ_eq_append_getElem h,znS];simp [List.getD_eq_getElem?_getD,h]
theorem z0s {l:List Nat} {m:Nat} (h:∀ x ∈ l,x < m):znQ l≤m:=by
 induction l with
 | nil=>exact Nat.zero_le _
 | cons a l ih =>
  have:=h a (List.mem_cons_self ..)
  have:=ih fun x hx=>h x (List.mem_cons_of_mem _ hx)
  unfold znQ;omega
def fitK (both:Nat→Nat→Bool) (who:List Nat) (c k:Nat):Bool:=decide (∀ j,j < k→who.getD j 0=c→both who.length j=true)
theorem z0t {both:Nat→Nat→Bool} {who:List Nat} {c k:Nat} (h:who.getD k 0=c) (hb:both who.length k=false):fitK both who c (k+1)=false:=decide_eq_false fun H=>by rw [H k (Nat.lt_succ_self k) h] at hb;cases hb
theorem z0u {both:Nat→Nat→Bool} {who:List Nat} {c k:Nat} (h:who.getD k 0=c→both who.length k=true):fitK both who c (k+1)=fitK both who c k:=by
 unfold fitK
 rw [decide_eq_decide]
 refine ⟨fun H j hj=>H j (by omega),fun H j hj e=>?_⟩
 rcases Nat.lt_or_ge j k with h1|h1
 ·exact H j h1 e
 ·obtain rfl:j=k:=by omega
  exact h e
theorem z0v {both:Nat→Nat→Bool} {who:List Nat} {c:Nat}:fitK both who c 0=true:=decide_eq_true fun j hj=>absurd hj (Nat.not_lt_zero _)
def srGo (both:Nat→Nat→Bool) (most f:Nat) (who:List Nat) (c:Nat):Option (List Nat):=if znP both who c=true then znR both most f (who ++ [c]) else none
def z0w (r:Option (List Nat)) (who:Sl Int) (h:Hp) (v:Value) (h':Hp):Prop:=match r with
 | none=>v=.tuple #[.slice none 0 0,.bool false]
 | some w=>∃ s:Sl Int,v=.tuple #[s.val,.bool true]∧s.l=zs w∧s.Ok h'∧(Mine h h' s∨s=who)
theorem z0x (both:Nat→Nat→Bool) (bo:Sl (Sl Bool)) (n:Nat) (hbn:bo.l.length=n) (hbl:∀ i (hi:i < bo.l.length),bo.l[i].l.length=n∧∀ k (hk:k < bo.l[i].l.length),k < i→bo.l[i].l[k]=both i k) (hn12:n≤12) (most:Nat) (hm:most≤12) :
  ∀ (f:Nat) (who:Sl Int) (wn:List Nat) (h:Hp),bo.Ok h→who.Ok h→who.l=zs wn→wn.length+f=n→(∀ x ∈ wn,x < 12) →
   Ct jV 304 [bo.val,who.val,.int .i64 most] h fun v h'=>z0w (znR both most f wn) who h v h'
 | 0,who,wn,h,hbo,hwho,hwl,hlen,hw12=>by
  have hwn:who.l.length=wn.length:=by rw [hwl,zAH]
  have e1:who.l.length=bo.l.length:=by omega
  refine zdn (fun A W=>by simp) Tryz.func304 rfl rfl (by simp) fun W0=>?_
  repeat' first|refine Wa ?_|(simp only [go_sem,jq,jj,jy,jv,jk,jx,e1];try rfl)|refine Wb ?_|fail
  refine zc9 rfl (fun hd=>?_) (fun hd=>?_)
  ·refine Wk ?_
   exact ⟨who,rfl,hwl,hwho,.inr rfl⟩
  ·simp at hd
 | f+1,who,wn,h,hbo,hwho,hwl,hlen,hw12=>by
  have hwn:who.l.length=wn.length:=by rw [hwl,zAH]
  have e1:¬ who.l.length=bo.l.length:=by omega
  have hu12:=z0s hw12
  have hwat:∀ k (hk:k < who.l.length),who.l[k]=((wn.getD k 0:Nat):Int):=fun k hk=>by simp only [hwl];exact z0q _
  have hwk:∀ k,k < wn.length→wn.getD k 0 < 12:=fun k hk=>by rw [show wn.getD k 0=wn[k] by simp [List.getD_eq_getElem?_getD,hk]];exact hw12 _ (List.getElem_mem hk)
  refine zdn (fun A W=>by simp) Tryz.func304 rfl rfl (by simp) fun W0=>?_
  refine Wk ?_
  refine zc9 rfl (fun hd=>?_) (fun hd=>?_)
  ·have:=eq_of_beq hd
   omega
  refine Wk ?_
  refine zde (ι:=Nat) (fun k=>⟨[(0,true,.c (.v bo.val)),(1,true,.c (.v who.val)),(2,true,.c (.v (.int .i64 most))),(6,true,.c (.v (.slice none 0 0))),(7,true,.c (.v (.bool false))),(8,true,.c (.v (.int .i64 (znQ (wn.take k):Nat)))),(23,true,.c (.v who.val)),(24,true,.c (.v (.int .i64 who.l.length))),(25,true,.c (.v (.int .i64 k)))],[],h,0⟩) (fun k=>k≤wn.length) (fun k=>wn.length - k) 0 (Nat.zero_le _) ?_ ?_
  ·refine Evs ?_
   exact Gk
  intro k hk
  refine Wk ?_
  refine zc9 rfl (fun hdk=>?_) (fun hdk=>?_)
  ·have hlt:k < who.l.length:=zjH hdk
   have hltn:k < wn.length:=by omega
   have hx:=hwk k hltn
   have hw1:IntKind.i64.wrap (((wn.getD k 0:Nat):Int)+1)=((wn.getD k 0+1:Nat):Int):=by rw [zjz (by omega)];omega
   repeat' first|refine Wa ?_|(simp only [go_sem,jq,jj,jy,jv,jk,jx,zkv hwho hlt,hwat k hlt,hwho.some hlt,hlt,jW,hw1];try rfl)|refine Wb ?_|fail
   refine ⟨k+1,hltn,by omega,?_⟩
   rw [z0r hltn]
   exact ⟨zjB (by omega),zjB (zjA hlt (by omega))⟩
  have hge:=zjI hdk
  have hke:k=wn.length:=by omega
  subst hke
  rw [List.take_length]
  refine Wk ?_
  refine zl0 (ι:=Nat × Hp) (fun i=>⟨[(0,true,.c (.v bo.val)),(1,true,.c (.v who.val)),(2,true,.c (.v (.int .i64 most))),(6,true,.c (.v (.slice none 0 0))),(7,true,.c (.v (.bool false))),(8,true,.c (.v (.int .i64 (znQ wn:Nat)))),(11,true,.c (.v (.int .i64 i.1)))],[],i.2,0⟩) (fun i=>i.1≤min (znQ wn+1) most∧h.le i.2∧∀ c,c < i.1→srGo both most f wn c=none) (fun i=>13 - i.1) (0,h) ⟨Nat.zero_le _,Hp.le_refl _,fun c hc=>absurd hc (Nat.not_lt_zero _)⟩ [] ?_ ?_
  ·refine Evs ?_
   exact Gk
  rintro ⟨c,hc⟩ ⟨hcm,hle,hno⟩
  simp only at hcm hle hno
  have hbo':=hbo.mono hle
  have hwho':=hwho.mono hle
  refine Wk ?_
  refine zc9 rfl (fun hx=>?_) (fun hx=>?_)
  ·rw [jJ] at hx
   have hx1:=of_decide_eq_true hx.1
   have hx2:=of_decide_eq_true hx.2
   refine Wk ?_
   refine zde (ι:=Nat) (fun k=>⟨[(0,true,.c (.v bo.val)),(1,true,.c (.v who.val)),(2,true,.c (.v (.int .i64 most))),(6,true,.c (.v (.slice none 0 0))),(7,true,.c (.v (.bool false))),(8,true,.c (.v (.int .i64 (znQ wn:Nat)))),(11,true,.c (.v (.int .i64 c))),(12,true,.c (.v (.bool (fitK both wn c k)))),(44,true,.c (.v who.val)),(45,true,.c (.v (.int .i64 wn.length))),(46,true,.c (.v (.int .i64 k)))],[],hc,0⟩) (fun k=>k≤wn.length) (fun k=>wn.length - k) 0 (Nat.zero_le _) ?_ ?_
   ·simp only [go_sem,jq,jj,jy,jv,jk,jx,hwn]
    exact ⟨by rw [z0v],rfl⟩
   intro k hk
   refine Wk ?_
   refine zc9 rfl (fun hdk=>?_) (fun hdk=>?_)
   ·have hltn:k < wn.length:=zjH hdk
    have hlt:k < who.l.length:=by omega
    have hb1:wn.length < bo.l.length:=by omega
    have hb2:k < bo.l[wn.length].l.length:=by rw [(hbl _ hb1).1];omega
    have hok2:bo.l[wn.length].Ok hc:=hbo'.el hb1
    have hb1i:(wn.length:Int) < bo.l.length:=by omega
    have hb2i:(k:Int) < bo.l[wn.length].l.length:=by omega
    have hbv:bo.l[wn.length].l[k]=both wn.length k:=(hbl _ hb1).2 k hb2 hltn
    repeat' first|refine Wa ?_|(simp only [go_sem,jq,jj,jy,jv,jk,jx,zkv hwho' hlt,hwat k hlt,hwho'.some hlt,hlt,hwn,hltn,jW,hb1,hb1i,zku hbo' hb1,hbo'.some hb1,znA hok2 hb2,hok2.some hb2,hb2,hb2i,hbv,jY,implies_true,true_and,and_true,and_self];try rfl)|refine Wb ?_|fail
    refine zc9 rfl (fun hy=>?_) (fun hy=>?_)
    ·rw [jJ,Bool.not_eq_true'] at hy
     have hy1:wn.getD k 0=c:=by have:=eq_of_beq hy.1;omega
     refine Wk ?_
     refine ⟨k+1,hltn,by omega,?_⟩
     rw [z0t hy1 hy.2]
     exact ⟨rfl,zjB (zjA hltn (by omega))⟩
    ·refine Wk ?_
     refine ⟨k+1,hltn,by omega,?_⟩
     rw [z0u (fun e=>by
      cases hbb:both wn.length k with
      | true=>rfl
      | false=>rw [hbb,e] at hy;simp at hy)]
     exact ⟨rfl,zjB (zjA hltn (by omega))⟩
   have hgek:=zjI hdk
   obtain rfl:k=wn.length:=by omega
   refine Wk ?_
   refine zc9 rfl (fun hf=>?_) (fun hf=>?_)
   ·have hfc:znP both wn c=false:=by show fitK both wn c wn.length=false;simpa using hf
    refine Wk ?_
    refine ⟨(c+1,hc),[],⟨by omega,hle,fun c' hc'=>?_⟩,by simp only;omega,?_⟩
    ·rcases Nat.lt_or_ge c' c with h1|h1
     ·exact hno c' h1
     ·obtain rfl:c'=c:=by omega
      rw [srGo,if_neg (by rw [hfc];exact Bool.false_ne_true)]
    refine Evs ?_
    exact Gi (zjA (n:=4096) (k:=c) (by omega) (by omega))
   ·have hfc:znP both wn c=true:=by show fitK both wn c wn.length=true;simpa using hf
    refine zc5 ?_
    refine Evs ?_
    refine zmR [0,0,0,0,0,0,2] rfl ?_
    refine Evs ?_
    have hall:hc.ldL who.val 1=some (who.l.flatMap Enc.enc):=hwho'.all (by decide)
    simp only [hall,Option.isSome_some,Option.getD_some]
    refine ⟨trivial,fun u hu=>?_,by simp only [maxLen];omega,by omega,by simp only [maxLen];omega,by omega,fun ad cap g1 H=>?_⟩
    ·rw [znL] at hu
     obtain ⟨y,_,rfl⟩:=List.mem_map.1 hu
     rfl
    have e2:(who.l ++ [(c:Int)]).length=0+who.l.length+1:=by rw [List.length_append,List.length_singleton];omega
    have e3:(who.l ++ [(c:Int)]).flatMap Enc.enc=who.l.flatMap Enc.enc ++ [Value.int IntKind.i64 ↑c]:=by rw [List.flatMap_append];rfl
    have e4:who.l ++ [(c:Int)]=zs (wn ++ [c]):=by rw [hwl];simp [zs]
    rw [← e2,← e3] at H
    rw [← e2]
    have hI:∀ x ∈ who.l ++ [(c:Int)],Enc.ok hc x:=fun x hx=>by
     rw [e4] at hx
     obtain ⟨y,hy,rfl⟩:=List.mem_map.1 hx
     have:y < 12:=by
      rcases List.mem_append.1 hy with hy|hy
      ·exact hw12 y hy
      ·rw [List.mem_singleton.1 hy];omega
     show I64 _;unfold I64;omega
    have k1:(Sl.mk ad cap (who.l ++ [(c:Int)])).Ok g1:=Pub.sl (by decide) H hI
    have m1:=Pub.mine H hle hI (Mines.flat (fun _=>rfl) (fun _=>trivial))
    refine zkj (z0x both bo n hbn hbl hn12 most hm f (Sl.mk ad cap (who.l ++ [(c:Int)])) (wn ++ [c]) g1 (hbo'.mono H.le) k1 e4 (by rw [List.length_append,List.length_singleton];omega) (fun x hx=>by
      rcases List.mem_append.1 hx with hx|hx
      ·exact hw12 x hx
      ·rw [List.mem_singleton.1 hx];omega)) rfl ?_
    rintro v g2 le2 Hout
    cases hr:znR both most f (wn ++ [c]) with
    | none =>
     rw [hr] at Hout
     have Hout:v=.tuple #[.slice none 0 0,.bool false]:=Hout
     subst Hout
     refine Evs ?_
     refine Wk ?_
     refine zc9 rfl (fun hq=>?_) (fun hq=>?_)
     ·cases hq
     refine Wk ?_
     refine ⟨(c+1,g2),[],⟨by omega,Hp.le_trans hle (Hp.le_trans H.le le2),fun c' hc'=>?_⟩,by simp only;omega,?_⟩
     ·rcases Nat.lt_or_ge c' c with h1|h1
      ·exact hno c' h1
      ·obtain rfl:c'=c:=by omega
       rw [srGo,if_pos hfc];exact hr
     refine Evs ?_
     refine ⟨zjB (zjA (n:=4096) (k:=c) (by omega) (by omega)),Hp.le_trans hle (Hp.le_trans H.le le2),?_⟩
     exact Gk
    | some w =>
     rw [hr] at Hout
     obtain ⟨s,rfl,hs1,hs2,hs3⟩:=Hout
     refine Evs ?_
     refine Wk ?_
     refine zc9 rfl (fun hq=>?_) (fun hq=>?_)
     case refine_2=>cases hq
     refine Wk ?_
     have hgo:srGo both most f wn c=some w:=by rw [srGo,if_pos hfc];exact hr
     have hsr:znR both most (f+1) wn=some w:=by
      unfold znR
      exact zAG (α:=Nat) hno hgo (by omega)
     rw [hsr]
     refine ⟨s,rfl,hs1,hs2,.inl ?_⟩
     rcases hs3 with h3|rfl
     ·exact h3.back (Hp.le_trans hle H.le)
     ·exact m1.on le2 k1
  ·have hcM:c=min (znQ wn+1) most:=by
    rw [Bool.and_eq_false_iff,decide_eq_false_iff_not,decide_eq_false_iff_not] at hx
    omega
   have hnone:znR both most (f+1) wn=none:=by
    unfold znR
    rw [List.findSome?_eq_none_iff]
    exact fun x hx=>hno x (by rw [hcM];exact List.mem_range.1 hx)
   rw [hnone]
   exact Wk0
def grpM (wn:List Nat) (p:Nat):Nat:=zzY (fun j=>decide (wn.getD j 0=p)) wn.length
def grpL (n:Nat) (wn:List Nat):List U64:=(List.range n).map fun p=>⟨grpM wn p⟩
theorem zAI {n:Nat} {wn:List Nat}:(grpL n wn).length=n:=by rw [grpL,List.length_map,List.length_range]
theorem zAJ {n p:Nat} {wn:List Nat} (h:p < (grpL n wn).length):(grpL n wn)[p]=⟨grpM wn p⟩:=by simp [grpL]
theorem zAK {wn:List Nat} {p i:Nat}:(grpM wn p).testBit i=true ↔ (i < wn.length∧wn.getD i 0=p):=by rw [grpM,zzZ,jJ,decide_eq_true_eq,decide_eq_true_eq]
theorem zAL {wn:List Nat} {p:Nat}:grpM wn p < 2 ^ wn.length:=zz0
theorem zAM {wn:List Nat} {p:Nat} (h:znQ wn≤p):grpM wn p=0:=by
 apply Nat.eq_of_testBit_eq
 intro i
 rw [Nat.zero_testBit,← Bool.not_eq_true,zAK]
 rintro ⟨h1,h2⟩
 have:wn.getD i 0 ∈ wn:=by simp [List.getD_eq_getElem?_getD,h1]
 have:=znT this
 omega
theorem zAN {wn:List Nat} {p:Nat} (h:p ∈ wn):grpM wn p ≠ 0:=by
 obtain ⟨i,hi,rfl⟩:=List.getElem_of_mem h
 intro e
 have:(grpM wn wn[i]).testBit i=true:=zAK.2 ⟨hi,by simp [List.getD_eq_getElem?_getD,hi]⟩
 rw [e,Nat.zero_testBit] at this;cases this
theorem zAO {wn:List Nat} {p i:Nat}:(wn ++ [p]).getD i 0=if i < wn.length then wn.getD i 0 else if i=wn.length then p else 0:=by
 simp only [List.getD_eq_getElem?_getD]
 by_cases h:i < wn.length
 ·rw [List.getElem?_append_left h,if_pos h]
 ·rw [List.getElem?_append_right (by omega),if_neg h]
  by_cases h2:i=wn.length
  ·subst h2;simp
  ·rw [if_neg h2,List.getElem?_eq_none (by simp;omega)];rfl
theorem zAP {wn:List Nat} {p q:Nat}:grpM (wn ++ [p]) q=if q=p then grpM wn q ||| 2 ^ wn.length else grpM wn q:=by
 apply Nat.eq_of_testBit_eq
 intro i
 rw [Bool.eq_iff_iff,zAK,zAO,List.length_append,List.length_singleton]
 by_cases e:q=p
 ·rw [if_pos e,zzR,jQ,zAK,decide_eq_true_eq]
  by_cases h:i < wn.length
  ·rw [if_pos h];omega
  ·rw [if_neg h]
   by_cases h2:i=wn.length
   ·rw [if_pos h2];omega
   ·rw [if_neg h2];omega
 ·rw [if_neg e,zAK]
  by_cases h:i < wn.length
  ·rw [if_pos h];omega
  ·rw [if_neg h]
   by_cases h2:i=wn.length
   ·rw [if_pos h2];omega
   ·rw [if_neg h2];omega
theorem zAQ {n p:Nat} {wn:List Nat} (hp:p < n):(grpL n wn).set p ⟨grpM wn p ||| 2 ^ wn.length⟩=grpL n (wn ++ [p]):=by
 apply List.ext_getElem
 ·rw [List.length_set,zAI,zAI]
 ·intro q h1 h2
  rw [List.getElem_set,zAJ,zAJ,zAP]
  by_cases e:p=q
  ·subst e;rw [if_pos rfl,if_pos rfl]
  ·rw [if_neg e,if_neg (fun h=>e h.symm)]
theorem zAR {wn:List Nat} {p:Nat} (h:wn.length < 62):zzB (grpM (wn ++ [p]) p) (2 ^ wn.length)=grpM wn p:=by
 have hlt:grpM (wn ++ [p]) p < 2 ^ 64:=Nat.lt_of_lt_of_le zAL (Nat.pow_le_pow_right (by decide) (by rw [List.length_append,List.length_singleton];omega))
 apply Nat.eq_of_testBit_eq
 intro i
 rw [zzC hlt,Nat.testBit_two_pow,Bool.eq_iff_iff,jJ,zAP,if_pos rfl,zzR,jQ,zAK,decide_eq_true_eq,Bool.not_eq_true',decide_eq_false_iff_not]
 omega
theorem zAS {n p:Nat} {wn:List Nat} (hp:p < n):(grpL n (wn ++ [p])).set p ⟨grpM wn p⟩=grpL n wn:=by
 apply List.ext_getElem
 ·rw [List.length_set,zAI,zAI]
 ·intro q h1 h2
  rw [List.getElem_set,zAJ,zAJ,zAP]
  by_cases e:p=q
  ·subst e;rw [if_pos rfl]
  ·rw [if_neg e,if_neg (fun h=>e h.symm)]
theorem zAT {n p:Nat} {wn:List Nat} (hp:p≤n):(grpL n wn).take p=grpL p wn:=by
 rw [grpL,← List.map_take,List.take_range,Nat.min_eq_left hp];rfl
theorem zAU {n:Nat} {wn:List Nat} (h:znQ wn≤n):grpL n wn ++ [⟨0⟩]=grpL (n+1) wn:=by
 rw [grpL,grpL,List.range_succ,List.map_append,List.map_cons,List.map_nil,zAM h]
theorem zAV {both:Nat→Nat→Bool} {wn:List Nat} {p n s:Nat} (hn:wn.length < n) (h12:n≤12) (hs:∀ k,s.testBit k=(decide (k < n) && (decide (wn.length ≠ k) && both wn.length k))):zzB (grpM wn p) s=0 ↔ znP both wn p=true:=by
 have hlt:grpM wn p < 2 ^ 64:=Nat.lt_of_lt_of_le zAL (Nat.pow_le_pow_right (by decide) (by omega))
 rw [zzF hlt,znP,decide_eq_true_eq]
 constructor
 ·intro H k hk hkp
  have:=H k (zAK.2 ⟨hk,hkp⟩)
  rw [hs k] at this
  simp only [jJ] at this
  exact this.2.2
 ·intro H k hk
  obtain ⟨h1,h2⟩:=zAK.1 hk
  rw [hs k,H k h1 h2,decide_eq_true (by omega),decide_eq_true (by omega)];rfl
theorem zAW {e:TypeId} {h:Hp} {s:Sl U64} {i:Nat} {u:U64} (H:RowAt e h s) (hi:i < s.l.length) :
  ∃ g cur,s.a=some ⟨g,0,none⟩∧h g=some (.cells cur e (0,0))∧i+1≤cur.size∧RowAt e (h.ins g (.cells (spl i [.int .u64 u.n] cur.toList).toArray e (0,0))) ⟨s.a,s.cap,s.l.set i u⟩:=by
 obtain ⟨h1,h2,⟨ha,hl,hc⟩|⟨g,cur,ha,hb,hsz,htk⟩⟩:=H
 ·rw [hl] at hi;cases hi
 ·have hs1:Enc.size U64=1:=rfl
  rw [hs1,Nat.mul_one] at hsz htk
  refine ⟨g,cur,ha,hb,by omega,by rw [List.length_set];exact h1,h2,.inr ⟨g,_,ha,Hp.ins_same,?_,?_⟩⟩
  ·have hl:cur.toList.length=cur.size:=Array.length_toList
   simp only [spl,zbG,List.size_toArray,List.length_append,List.length_take,List.length_drop,List.length_cons,List.length_nil,hs1]
   omega
  ·rw [List.length_set,hs1,Nat.mul_one,znK,List.map_set]
   rw [znK] at htk
   have hsl:spl i [Value.int .u64 u.n] cur.toList=cur.toList.set i (.int .u64 u.n):=by
    unfold spl zbG
    exact znJ (by rw [Array.length_toList];omega)
   rw [hsl,List.take_set,htk]
theorem zAX {α:Type} [Enc α] {e:TypeId} {h:Hp} {s:Sl α} {k:Nat} (H:RowAt e h s) (hk:k≤s.l.length):RowAt e h (s.to k):=by
 obtain ⟨h1,h2,⟨ha,hl,hc⟩|⟨g,cur,ha,hb,hsz,htk⟩⟩:=H
 ·refine ⟨by rw [Sl.to_len hk];show k≤s.cap;omega,h2,.inl ⟨ha,?_,hc⟩⟩
  show s.l.take k=[];rw [hl,List.take_nil]
 ·refine ⟨by rw [Sl.to_len hk];show k≤s.cap;omega,h2,.inr ⟨g,cur,ha,hb,hsz,?_⟩⟩
  rw [Sl.to_len hk]
  have:(s.to k).l.flatMap Enc.enc=(s.l.flatMap Enc.enc).take (k * Enc.size α):=by
   show (s.l.take k).flatMap Enc.enc=_
   have hlen:((s.l.take k).flatMap Enc.enc).length=k * Enc.size α:=by rw [ziq Enc.len,List.length_take,Nat.min_eq_left hk]
   have e:=congrArg (List.flatMap Enc.enc) (List.take_append_drop k s.l)
   rw [List.flatMap_append] at e
   rw [← e,List.take_append_of_le_length (by rw [hlen];exact Nat.le_refl _)]
   exact (List.take_of_length_le (by rw [hlen];exact Nat.le_refl _)).symm
  rw [this,← htk,List.take_take,Nat.min_eq_left (Nat.mul_le_mul_right _ hk)]
theorem zAY {α:Type} [Enc α] {e:TypeId} {h h2:Hp} {s:Sl α} {l:List α} {ad:Option Addr} {cap:Nat} (R:RowAt e h s) (H:Pub (znC h s) e (Enc.size α) l.length (l.flatMap Enc.enc) ad cap h2) :
  RowAt e h2 (Sl.mk ad cap l)∧(∀ g,ad=some ⟨g,0,none⟩→h g=none∨s.a=some ⟨g,0,none⟩)∧∀ k,(∀ g,ad=some ⟨g,0,none⟩→k ≠ g)→(∀ g,s.a=some ⟨g,0,none⟩→k ≠ g)→h2 k=h k:=by
 obtain ⟨h1,h3,h4⟩:=H.row
 have hz:=R.addr
 have hne:∀ k,(∀ g,s.a=some ⟨g,0,none⟩→k ≠ g)→znC h s k=h k:=fun k hk=>znG fun a ha e=>by
  obtain ⟨x1,x2⟩:=hz a ha
  have:a=⟨a.block,0,none⟩:=by cases a;simp only at x1 x2;subst x1 x2;rfl
  exact hk a.block (by rw [← this];exact ha) e
 refine ⟨h1,fun g hg=>?_,fun k hk1 hk2=>by rw [h4 k hk1,hne k hk2]⟩
 by_cases e:s.a=some ⟨g,0,none⟩
 ·exact .inr e
 ·left
  rw [← hne g (fun g' hg' e'=>by subst e';exact e hg')]
  exact h3 g hg
def CV (hb h:Hp) (b:Nat) (sets:Sl U64) (most:Nat) (gs:Sl U64) (who:Sl Int):Prop :=
 (hb.le h∧sets.Ok hb∧hb b=none∧h b=some (.cells #[sets.val,.int .i64 most,gs.val,who.val] 350 (0,0)))∧(RowAt 356 h gs∧∀ g,gs.a=some ⟨g,0,none⟩→hb g=none∧g ≠ b)∧(RowAt 3 h who∧∀ g,who.a=some ⟨g,0,none⟩→hb g=none∧g ≠ b)∧∀ g,gs.a=some ⟨g,0,none⟩→who.a ≠ some ⟨g,0,none⟩
theorem zAZ {α:Type} [Enc α] {e:TypeId} {h:Hp} {s:Sl α} (H:RowAt e h s) {g:Nat} (hg:s.a=some ⟨g,0,none⟩):h g ≠ none:=by
 obtain ⟨h1,h2,⟨ha,hl,hc⟩|⟨g',cur,ha,hb,hsz,htk⟩⟩:=H
 ·rw [ha] at hg;cases hg
 ·rw [ha] at hg;cases hg;rw [hb];exact fun e=>by cases e
section
variable {hb h h2:Hp} {b most:Nat} {sets gs:Sl U64} {who:Sl Int}
theorem CV.mk2 {gs':Sl U64} {who':Sl Int} (H:CV hb h b sets most gs who) (hle:hb.le h2) (R1:RowAt 356 h2 gs') (F1:∀ g,gs'.a=some ⟨g,0,none⟩→hb g=none∧g ≠ b) (R2:RowAt 3 h2 who') (F2:∀ g,who'.a=some ⟨g,0,none⟩→hb g=none∧g ≠ b)
  (D:∀ g,gs'.a=some ⟨g,0,none⟩→who'.a ≠ some ⟨g,0,none⟩):CV hb (h2.ins b (.cells #[sets.val,.int .i64 most,gs'.val,who'.val] 350 (0,0))) b sets most gs' who':=by
 obtain ⟨⟨_,h3,h4,_⟩,_⟩:=H
 refine ⟨⟨fun k o hk=>?_,h3,h4,Hp.ins_same⟩,⟨R1.keep fun g hg=>Hp.ins_ne (F1 g hg).2,F1⟩,⟨R2.keep fun g hg=>Hp.ins_ne (F2 g hg).2,F2⟩,D⟩
 rw [Hp.ins_ne (fun e=>by subst e;rw [h4] at hk;cases hk)]
 exact hle k o hk
theorem CV.pubg {l:List U64} {ad:Option Addr} {cap:Nat} (H:CV hb h b sets most gs who) (P:Pub (znC h gs) 356 (Enc.size U64) l.length (l.flatMap Enc.enc) ad cap h2) :
  h2 b=some (.cells #[sets.val,.int .i64 most,gs.val,who.val] 350 (0,0))∧CV hb (h2.ins b (.cells #[sets.val,.int .i64 most,(Sl.mk ad cap l).val,who.val] 350 (0,0))) b sets most (Sl.mk ad cap l) who∧∀ g,ad=some ⟨g,0,none⟩→h g=none∨gs.a=some ⟨g,0,none⟩:=by
 obtain ⟨⟨h1,h3,h4,h5⟩,⟨r1,f1⟩,⟨r2,f2⟩,d⟩:=id H
 obtain ⟨p1,p2,p3⟩:=zAY r1 P
 have fr:∀ g,ad=some ⟨g,0,none⟩→hb g=none∧g ≠ b∧who.a ≠ some ⟨g,0,none⟩:=fun g hg=>by
  rcases p2 g hg with x|x
  ·refine ⟨?_,fun e=>(by subst e;rw [h5] at x;cases x),fun e=>zAZ r2 e x⟩
   cases hh:hb g with
   | none=>rfl
   | some o=>rw [h1 g o hh] at x;cases x
  ·exact ⟨(f1 g x).1,(f1 g x).2,d g x⟩
 have kb:h2 b=h b:=p3 b (fun g hg e=>(fr g hg).2.1 e.symm) fun g hg e=>(f1 g hg).2 e.symm
 refine ⟨by rw [kb];exact h5,CV.mk2 H (fun k o hk=>?_) p1 (fun g hg=>⟨(fr g hg).1,(fr g hg).2.1⟩) (r2.keep fun g hg=>?_) f2 (fun g hg=>(fr g hg).2.2),p2⟩
 ·rw [p3 k (fun g hg e=>by subst e;rw [(fr _ hg).1] at hk;cases hk) (fun g hg e=>by subst e;rw [(f1 _ hg).1] at hk;cases hk)]
  exact h1 k o hk
 ·exact p3 g (fun g' hg' e=>by subst e;exact (fr _ hg').2.2 hg) (fun g' hg' e=>by subst e;exact d _ hg' hg)
theorem CV.pubw {l:List Int} {ad:Option Addr} {cap:Nat} (H:CV hb h b sets most gs who) (P:Pub (znC h who) 3 (Enc.size Int) l.length (l.flatMap Enc.enc) ad cap h2) :
  h2 b=some (.cells #[sets.val,.int .i64 most,gs.val,who.val] 350 (0,0))∧CV hb (h2.ins b (.cells #[sets.val,.int .i64 most,gs.val,(Sl.mk ad cap l).val] 350 (0,0))) b sets most gs (Sl.mk ad cap l)∧∀ g,ad=some ⟨g,0,none⟩→h g=none∨who.a=some ⟨g,0,none⟩:=by
 obtain ⟨⟨h1,h3,h4,h5⟩,⟨r1,f1⟩,⟨r2,f2⟩,d⟩:=id H
 obtain ⟨p1,p2,p3⟩:=zAY r2 P
 have fr:∀ g,ad=some ⟨g,0,none⟩→hb g=none∧g ≠ b∧gs.a ≠ some ⟨g,0,none⟩:=fun g hg=>by
  rcases p2 g hg with x|x
  ·refine ⟨?_,fun e=>(by subst e;rw [h5] at x;cases x),fun e=>zAZ r1 e x⟩
   cases hh:hb g with
   | none=>rfl
   | some o=>rw [h1 g o hh] at x;cases x
  ·exact ⟨(f2 g x).1,(f2 g x).2,fun e=>d g e x⟩
 have kb:h2 b=h b:=p3 b (fun g hg e=>(fr g hg).2.1 e.symm) fun g hg e=>(f2 g hg).2 e.symm
 refine ⟨by rw [kb];exact h5,CV.mk2 H (fun k o hk=>?_) (r1.keep fun g hg=>?_) f1 p1 (fun g hg=>⟨(fr g hg).1,(fr g hg).2.1⟩) (fun g hg e=>(fr g e).2.2 hg),p2⟩
 ·rw [p3 k (fun g hg e=>by subst e;rw [(fr _ hg).1] at hk;cases hk) (fun g hg e=>by subst e;rw [(f2 _ hg).1] at hk;cases hk)]
  exact h1 k o hk
 ·exact p3 g (fun g' hg' e=>by subst e;exact (fr _ hg').2.2 hg) (fun g' hg' e=>by subst e;exact d _ hg hg')
theorem CV.tog {k:Nat} (H:CV hb h b sets most gs who) (hk:k≤gs.l.length):CV hb (h.ins b (.cells #[sets.val,.int .i64 most,(gs.to k).val,who.val] 350 (0,0))) b sets most (gs.to k) who:=by
 obtain ⟨⟨h1,h3,h4,h5⟩,⟨r1,f1⟩,⟨r2,f2⟩,d⟩:=id H
 exact CV.mk2 H h1 (zAX r1 hk) f1 r2 f2 d
theorem CV.tow {k:Nat} (H:CV hb h b sets most gs who) (hk:k≤who.l.length):CV hb (h.ins b (.cells #[sets.val,.int .i64 most,gs.val,(who.to k).val] 350 (0,0))) b sets most gs (who.to k):=by
 obtain ⟨⟨h1,h3,h4,h5⟩,⟨r1,f1⟩,⟨r2,f2⟩,d⟩:=id H
 exact CV.mk2 H h1 r1 f1 (zAX r2 hk) f2 d
theorem CV.setg {i:Nat} (u:U64) (H:CV hb h b sets most gs who) (hi:i < gs.l.length) :
  ∃ g cur,gs.a=some ⟨g,0,none⟩∧h g=some (.cells cur 356 (0,0))∧i+1≤cur.size∧CV hb (h.ins g (.cells (spl i [.int .u64 u.n] cur.toList).toArray 356 (0,0))) b sets most ⟨gs.a,gs.cap,gs.l.set i u⟩ who:=by
 obtain ⟨⟨h1,h3,h4,h5⟩,⟨r1,f1⟩,⟨r2,f2⟩,d⟩:=id H
 obtain ⟨g,cur,ha,hg,hs,R⟩:=zAW (u:=u) r1 hi
 refine ⟨g,cur,ha,hg,hs,⟨fun k o hk=>?_,h3,h4,?_⟩,⟨R,f1⟩,⟨r2.keep fun g' hg'=>Hp.ins_ne (fun e=>by subst e;exact d _ ha hg'),f2⟩,d⟩
 ·rw [Hp.ins_ne (fun e=>by subst e;rw [(f1 _ ha).1] at hk;cases hk)]
  exact h1 k o hk
 ·rw [Hp.ins_ne (fun e=>(f1 g ha).2 e.symm),h5]
  simp only [Sl.val,List.length_set]
end
end Go.Proofs.YtbkaaakphpbmiaaGreat
