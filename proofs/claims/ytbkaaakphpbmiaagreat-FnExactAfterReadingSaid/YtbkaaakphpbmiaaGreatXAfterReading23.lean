/- What functions of the given program compute, as contracts. -/
import Derived.Test.YtbkaaakphpbmiaaGreatSAfterReadingx22
import Derived.Test.YtbkaaakphpbmiaaGreatXAfterReading11
import Derived.Test.YtbkaaakphpbmiaaGreatXAfterReading19
import Derived.Test.YtbkaaakphpbmiaaGreatXAfterReading21
import Derived.Test.YtbkaaakphpbmiaaGreatXAfterReading9
set_option linter.unusedVariables false
set_option linter.unusedSimpArgs false
set_option maxRecDepth 4000
open Nat renaming reduceAdd → jq, reduceMul → jj, reduceBEq → jy, reduceLeDiff → jv, reduceLT → jk, reduceEqDiff → jx
open Bool renaming or_eq_false_iff → jp, or_eq_true → jQ, and_eq_true → jJ
open Int renaming toNat_natCast → jW, natCast_nonneg → jY
open Go.Proofs.Tryz renaming prog → jV
namespace Go.Proofs.YtbkaaakphpbmiaaGreat
open Go Go.SL
set_option maxHeartbeats 1000000
theorem zEE (a:Sl DSurge) (h:Hp) (ha:a.Ok h) (hz:a.l.length≤1048576):Ct jV 191 [a.val] h fun v h'=>∃ s:Sl DSurge,v=s.val∧s.l=a.l∧RowAt 125 h' s∧∀ g,s.a=some ⟨g,0,none⟩→h g=none:=by
 have hall:=ha.all (by decide)
 have hd:(h.ldL a.val 3).isSome=true:=by rw [show h.ldL a.val 3=_ from hall];rfl
 refine zdn (fun A W=>by simp) Tryz.func191 rfl rfl (by simp) fun W0=>?_
 repeat' first|refine Wa ?_|(simp only [go_sem,jq,jj,jy,jv,jk,jx,hall,show h.ldL a.val 3=some (a.l.flatMap Enc.enc) from hall,Option.isSome_some,Option.getD_some];try rfl)|refine Wb ?_|fail
 refine ⟨by simp only [maxLen];omega,by omega,?_⟩
 repeat' first|refine Wa ?_|(simp only [go_sem,jq,jj,jy,jv,jk,jx,hall,show h.ldL a.val 3=some (a.l.flatMap Enc.enc) from hall,Option.isSome_some,Option.getD_some];try rfl)|refine Wb ?_|fail
 refine ⟨fun u hu=>by obtain ⟨x,_,hx⟩:=List.mem_flatMap.1 hu;exact Enc.one x u hx,by simp only [maxLen];omega,by omega,?_⟩
 refine znD 1 a.l rfl rfl (Nat.zero_add _) rfl fun s h' e1 R f1 l1 k1=>?_
 refine Wk ?_
 exact ⟨s,rfl,e1,R,f1⟩
theorem zEF {e:TypeId} {h h':Hp} {s:Sl DSurge} (H:RowAt e h' s) (hf:∀ g,s.a=some ⟨g,0,none⟩→h g=none):Mine h h' s:=by
 by_cases hl:s.l=[]
 ·rcases s with ⟨a,c,l⟩
  simp only at hl;subst hl;exact Mine.nil
 ·obtain ⟨h1,h2,⟨ha,hl',hc⟩|⟨g,cur,ha,hb,hsz,htk⟩⟩:=H
  ·exact (hl hl').elim
  ·have e0:s.l.flatMap (Foot.foot (α:=DSurge))=[]:=by rw [List.flatMap_eq_nil_iff];exact fun x _=>rfl
   have e1:Foot.foot s=[g]:=by
    rw [show Foot.foot s=_ from Sl.foot_ne hl,e0]
    simp [Sl.blkOf,ha]
   refine ⟨fun _=>⟨⟨g,cur,e,ha,hb,hsz⟩,fun x _=>trivial⟩,fun b hb'=>?_,by rw [e1];simp⟩
   rw [e1,List.mem_singleton] at hb'
   subst hb';exact hf _ ha
theorem zEG {h h':Hp}:Mine h h' (⟨⟨0,⟨none,0,[]⟩⟩,⟨none,0,[]⟩⟩:DForecast):=Mine.flat rfl ⟨(Mine.nil (α:=DPart) (h:=h) (h':=h') (a:=none) (c:=0)).1,(Mine.nil (α:=DSurge) (h:=h) (h':=h') (a:=none) (c:=0)).1⟩
set_option maxRecDepth 100000 in
theorem zEH (f:DForecast) (m lo hi:Int) (h:Hp) (hf:Enc.ok h f) (hm:I64 m) (hlo:I64 lo) (hhi:I64 hi):Ct jV 114 [f.v,.int .i64 m,.int .i64 lo,.int .i64 hi] h fun v h'=>∃ g:DForecast,v=.tuple #[g.v,.bool (zDU (Con.con f) m lo hi).isSome]∧Con.con g=(zDU (Con.con f) m lo hi).getD ⟨⟨0,[]⟩,[]⟩∧Enc.ok h' g∧Mine h h' g:=by
 refine zdn (fun A W=>by simp) Tryz.func114 rfl rfl (by simp) fun W0=>?_
 repeat' first|refine Wa ?_|refine zhF (fun _=>zu0 f _ hf) ?_|refine zhF (fun _=>zun _ _) ?_|(simp only [go_sem,jq,jj,jy,jv,jk,jx];try rfl)|refine Wb ?_|fail
 refine zc9 rfl (fun hc=>?_) (fun hc=>?_)
 ·have hn:¬ (zuY (Con.con f)=true∧0≤m∧m≤2880):=fun ⟨h1,h2,h3⟩=>by
   rw [h1] at hc;simp [h2,h3] at hc
  have hR:zDU (Con.con f) m lo hi=none:=by rw [zDU,if_neg hn]
  refine Wk ?_
  exact ⟨⟨⟨0,⟨none,0,[]⟩⟩,⟨none,0,[]⟩⟩,by rw [hR];rfl,by rw [hR];rfl,⟨⟨by show I64 0;unfold I64;omega,zmo⟩,zmo⟩,zEG⟩
 have hfo:zuY (Con.con f)=true:=by
  cases h9:zuY (Con.con f) with
  | true=>rfl
  | false=>rw [h9] at hc;simp at hc
 have hmr:0≤m∧m≤2880:=by
  rw [hfo] at hc;simp at hc;omega
 have hn:0 < f.surges.l.length:=by have:=zvW hfo;rwa [zvX] at this
 obtain ⟨k,hk⟩:∃ k,zvR f.surges.l m=k:=⟨_,rfl⟩
 have hs:k < f.surges.l.length:=by rw [← hk];exact zvT hn
 have hsi:(k:Int) < f.surges.l.length:=by omega
 have hmx:=hf.2.max
 have hb:f.tide.parts.l.length≤4∧f.surges.l.length≤6:=by
  have h9:=hfo
  simp only [zuY,zuS,In,jJ,decide_eq_true_eq] at h9
  rw [zvX,show (Con.con f).tide.parts=f.tide.parts.l from zuT _] at h9
  omega
 have hw1:IntKind.i64.wrap ((k:Int)+1)=((k+1:Nat):Int):=by rw [zjz (by omega)];omega
 have hcap:k+1≤f.surges.cap:=by have:=hf.2.1;omega
 have hcapi:((k+1:Nat):Int)≤f.surges.cap:=by omega
 have hto:k+1≤f.surges.l.length:=hs
 repeat' first|refine Wa ?_|refine zhF (fun _=>zv2 f m _ hf) ?_|(simp only [go_sem,jq,jj,jy,jv,jk,jx];try rfl)|refine Wb ?_|fail
 repeat' first|refine Wa ?_|(simp only [go_sem,jq,jj,jy,jv,jk,jx,hk,Int.toNat_zero,Nat.zero_mul,zmA,zmB,zkM hf.2 hs,hf.2.some hs,hs,hsi,hw1,hto,hcap,hcapi,jW,jY,ite_self,Nat.sub_zero,implies_true,true_and,and_true,and_self];try rfl)|refine Wb ?_|fail
 refine zoc (ι:=(DTide × Sl DSurge) × (Hp × Hp)) (fun i=>⟨[(1,true,.c (.v (.int .i64 m))),(2,true,.c (.v (.int .i64 lo))),(3,true,.c (.v (.int .i64 hi))),(4,true,.c (.p 0 0)),(8,true,.c (.p 1 0)),(10,true,.c (.v (.int .i64 k))),(11,true,.c (.p 2 0)),(12,true,.c (.p 3 0))],[(0,.box 53 [.v (.int .i64 f.tide.mean),.v f.tide.parts.val,.v f.surges.val]),(1,.box 53 [.v (.int .i64 0),.v (.slice none 0 0),.v (.slice none 0 0)]),(2,.box 125 [.v (.int .i64 f.surges.l[k].src),.v (.int .i64 f.surges.l[k].low),.v (.int .i64 f.surges.l[k].high)]),(3,.box 53 [.v (.int .i64 i.1.1.mean),.v i.1.1.parts.val,.v i.1.2.val])],i.2.2,4⟩)
  (fun i=>h.le i.2.1∧i.2.1.le i.2.2∧Con.con i.1.1=Con.con f.tide∧Enc.ok i.2.1 i.1.1∧Mine h i.2.1 i.1.1∧i.1.2.l=(f.surges.to (k+1)).l∧RowAt 125 i.2.2 i.1.2∧∀ g,i.1.2.a=some ⟨g,0,none⟩→i.2.1 g=none) ?_ ?_
 ·refine znv rfl ?_
  refine U_t [0,3,5,1,4,6] rfl ?_
  simp only [go_sem,jq,jj,jy,jv,jk,jx,hk,Int.toNat_zero,Nat.zero_mul,zmA,zmB,zkM hf.2 hs,hf.2.some hs,hs,hsi,hw1,hto,hcap,hcapi,jW,jY,ite_self,Nat.sub_zero,implies_true,true_and,and_true,and_self]
  refine U_m 2 [7,10] ⟨?_,?_,?_,trivial⟩
  ·refine U_b 2 0 [6,4,3] rfl rfl ?_
   simp only [go_sem,jq,jj,jy,jv,jk,jx,hk,Int.toNat_zero,Nat.zero_mul,zmA,zmB,zkM hf.2 hs,hf.2.some hs,hs,hsi,hw1,hto,hcap,hcapi,jW,jY,ite_self,Nat.sub_zero,implies_true,true_and,and_true,and_self]
   refine zkj (zEy f.tide _ hf.1 (by have:=hb.1;omega)) rfl ?_
   rintro v h1 le1 ⟨t,rfl,et,okt,mt⟩
   simp only [go_sem,jq,jj,jy,jv,jk,jx,hk,Int.toNat_zero,Nat.zero_mul,zmA,zmB,zkM hf.2 hs,hf.2.some hs,hs,hsi,hw1,hto,hcap,hcapi,jW,jY,ite_self,Nat.sub_zero,implies_true,true_and,and_true,and_self]
   refine U_m 7 [10] ⟨?_,?_,trivial⟩
   ·refine U_b 7 0 [] rfl rfl ?_
    simp only [go_sem,jq,jj,jy,jv,jk,jx,hk,Int.toNat_zero,Nat.zero_mul,zmA,zmB,zkM hf.2 hs,hf.2.some hs,hs,hsi,hw1,hto,hcap,hcapi,jW,jY,ite_self,Nat.sub_zero,implies_true,true_and,and_true,and_self]
    try rw [zmC (show k+1≤f.surges.l.length by omega)]
    try simp only [go_sem,jq,jj,jy,jv,jk,jx,hk,Int.toNat_zero,Nat.zero_mul,zmA,zmB,zkM hf.2 hs,hf.2.some hs,hs,hsi,hw1,hto,hcap,hcapi,jW,jY,ite_self,Nat.sub_zero,implies_true,true_and,and_true,and_self]
    refine U_m 8 [10] ⟨?_,?_,trivial⟩
    ·refine U_b 8 0 [] rfl rfl ?_
     simp only [go_sem,jq,jj,jy,jv,jk,jx,hk,Int.toNat_zero,Nat.zero_mul,zmA,zmB,zkM hf.2 hs,hf.2.some hs,hs,hsi,hw1,hto,hcap,hcapi,jW,jY,ite_self,Nat.sub_zero,implies_true,true_and,and_true,and_self]
     refine zkj (zEE (f.surges.to (k+1)) _ ((Sl.to_ok hf.2 (k+1)).mono le1) (by rw [Sl.to_len hs];have:=hb.2;omega)) rfl ?_
     rintro v h2 le2 ⟨s1,rfl,e1,R1,f1⟩
     refine Evs ?_
     refine U_m 9 [10] ⟨?_,?_,trivial⟩
     ·refine U_b 9 0 [] rfl rfl ?_
      simp only [go_sem,jq,jj,jy,jv,jk,jx,hk,Int.toNat_zero,Nat.zero_mul,zmA,zmB,zkM hf.2 hs,hf.2.some hs,hs,hsi,hw1,hto,hcap,hcapi,jW,jY,ite_self,Nat.sub_zero,implies_true,true_and,and_true,and_self]
      refine U_1 10 0 [] rfl rfl ?_
      simp only [go_sem,jq,jj,jy,jv,jk,jx,hk,Int.toNat_zero,Nat.zero_mul,zmA,zmB,zkM hf.2 hs,hf.2.some hs,hs,hsi,hw1,hto,hcap,hcapi,jW,jY,ite_self,Nat.sub_zero,implies_true,true_and,and_true,and_self]
      refine U_1 11 0 [] rfl rfl ?_
      simp only [go_sem,jq,jj,jy,jv,jk,jx,hk,Int.toNat_zero,Nat.zero_mul,zmA,zmB,zkM hf.2 hs,hf.2.some hs,hs,hsi,hw1,hto,hcap,hcapi,jW,jY,ite_self,Nat.sub_zero,implies_true,true_and,and_true,and_self]
      refine U_d ?_
      exact ⟨((t,s1),(h1,h2)),[0,1,2,3],⟨le1,le2,et,okt,mt,e1,R1,f1⟩,by repeat' first|exact rfl|exact trivial|assumption|decide|refine And.intro ?_ ?_⟩
     ·refine U_b 10 0 [] rfl rfl ?_
      simp only [go_sem,jq,jj,jy,jv,jk,jx,hk,Int.toNat_zero,Nat.zero_mul,zmA,zmB,zkM hf.2 hs,hf.2.some hs,hs,hsi,hw1,hto,hcap,hcapi,jW,jY,ite_self,Nat.sub_zero,implies_true,true_and,and_true,and_self]
      refine U_1 9 0 [] rfl rfl ?_
      simp only [go_sem,jq,jj,jy,jv,jk,jx,hk,Int.toNat_zero,Nat.zero_mul,zmA,zmB,zkM hf.2 hs,hf.2.some hs,hs,hsi,hw1,hto,hcap,hcapi,jW,jY,ite_self,Nat.sub_zero,implies_true,true_and,and_true,and_self]
      refine U_1 11 0 [] rfl rfl ?_
      simp only [go_sem,jq,jj,jy,jv,jk,jx,hk,Int.toNat_zero,Nat.zero_mul,zmA,zmB,zkM hf.2 hs,hf.2.some hs,hs,hsi,hw1,hto,hcap,hcapi,jW,jY,ite_self,Nat.sub_zero,implies_true,true_and,and_true,and_self]
      refine U_d ?_
      exact ⟨((t,s1),(h1,h2)),[0,1,2,3],⟨le1,le2,et,okt,mt,e1,R1,f1⟩,by repeat' first|exact rfl|exact trivial|assumption|decide|refine And.intro ?_ ?_⟩
    ·refine U_b 10 0 [] rfl rfl ?_
     simp only [go_sem,jq,jj,jy,jv,jk,jx,hk,Int.toNat_zero,Nat.zero_mul,zmA,zmB,zkM hf.2 hs,hf.2.some hs,hs,hsi,hw1,hto,hcap,hcapi,jW,jY,ite_self,Nat.sub_zero,implies_true,true_and,and_true,and_self]
     refine U_1 8 0 [] rfl rfl ?_
     simp only [go_sem,jq,jj,jy,jv,jk,jx,hk,Int.toNat_zero,Nat.zero_mul,zmA,zmB,zkM hf.2 hs,hf.2.some hs,hs,hsi,hw1,hto,hcap,hcapi,jW,jY,ite_self,Nat.sub_zero,implies_true,true_and,and_true,and_self]
     refine zkj (zEE (f.surges.to (k+1)) _ ((Sl.to_ok hf.2 (k+1)).mono le1) (by rw [Sl.to_len hs];have:=hb.2;omega)) rfl ?_
     rintro v h2 le2 ⟨s1,rfl,e1,R1,f1⟩
     refine Evs ?_
     refine U_1 9 0 [] rfl rfl ?_
     simp only [go_sem,jq,jj,jy,jv,jk,jx,hk,Int.toNat_zero,Nat.zero_mul,zmA,zmB,zkM hf.2 hs,hf.2.some hs,hs,hsi,hw1,hto,hcap,hcapi,jW,jY,ite_self,Nat.sub_zero,implies_true,true_and,and_true,and_self]
     refine U_1 11 0 [] rfl rfl ?_
     simp only [go_sem,jq,jj,jy,jv,jk,jx,hk,Int.toNat_zero,Nat.zero_mul,zmA,zmB,zkM hf.2 hs,hf.2.some hs,hs,hsi,hw1,hto,hcap,hcapi,jW,jY,ite_self,Nat.sub_zero,implies_true,true_and,and_true,and_self]
     refine U_d ?_
     exact ⟨((t,s1),(h1,h2)),[0,1,2,3],⟨le1,le2,et,okt,mt,e1,R1,f1⟩,by repeat' first|exact rfl|exact trivial|assumption|decide|refine And.intro ?_ ?_⟩
   ·refine U_b 10 0 [6,4,3] rfl rfl ?_
    simp only [go_sem,jq,jj,jy,jv,jk,jx,hk,Int.toNat_zero,Nat.zero_mul,zmA,zmB,zkM hf.2 hs,hf.2.some hs,hs,hsi,hw1,hto,hcap,hcapi,jW,jY,ite_self,Nat.sub_zero,implies_true,true_and,and_true,and_self]
    refine U_1 7 0 [] rfl rfl ?_
    simp only [go_sem,jq,jj,jy,jv,jk,jx,hk,Int.toNat_zero,Nat.zero_mul,zmA,zmB,zkM hf.2 hs,hf.2.some hs,hs,hsi,hw1,hto,hcap,hcapi,jW,jY,ite_self,Nat.sub_zero,implies_true,true_and,and_true,and_self]
    try rw [zmC (show k+1≤f.surges.l.length by omega)]
    try simp only [go_sem,jq,jj,jy,jv,jk,jx,hk,Int.toNat_zero,Nat.zero_mul,zmA,zmB,zkM hf.2 hs,hf.2.some hs,hs,hsi,hw1,hto,hcap,hcapi,jW,jY,ite_self,Nat.sub_zero,implies_true,true_and,and_true,and_self]
    refine U_1 8 0 [] rfl rfl ?_
    simp only [go_sem,jq,jj,jy,jv,jk,jx,hk,Int.toNat_zero,Nat.zero_mul,zmA,zmB,zkM hf.2 hs,hf.2.some hs,hs,hsi,hw1,hto,hcap,hcapi,jW,jY,ite_self,Nat.sub_zero,implies_true,true_and,and_true,and_self]
    refine zkj (zEE (f.surges.to (k+1)) _ ((Sl.to_ok hf.2 (k+1)).mono le1) (by rw [Sl.to_len hs];have:=hb.2;omega)) rfl ?_
    rintro v h2 le2 ⟨s1,rfl,e1,R1,f1⟩
    refine Evs ?_
    refine U_1 9 0 [] rfl rfl ?_
    simp only [go_sem,jq,jj,jy,jv,jk,jx,hk,Int.toNat_zero,Nat.zero_mul,zmA,zmB,zkM hf.2 hs,hf.2.some hs,hs,hsi,hw1,hto,hcap,hcapi,jW,jY,ite_self,Nat.sub_zero,implies_true,true_and,and_true,and_self]
    refine U_1 11 0 [] rfl rfl ?_
    simp only [go_sem,jq,jj,jy,jv,jk,jx,hk,Int.toNat_zero,Nat.zero_mul,zmA,zmB,zkM hf.2 hs,hf.2.some hs,hs,hsi,hw1,hto,hcap,hcapi,jW,jY,ite_self,Nat.sub_zero,implies_true,true_and,and_true,and_self]
    refine U_d ?_
    exact ⟨((t,s1),(h1,h2)),[0,1,2,3],⟨le1,le2,et,okt,mt,e1,R1,f1⟩,by repeat' first|exact rfl|exact trivial|assumption|decide|refine And.intro ?_ ?_⟩
  ·refine U_b 7 0 [1,0] rfl rfl ?_
   simp only [go_sem,jq,jj,jy,jv,jk,jx,hk,Int.toNat_zero,Nat.zero_mul,zmA,zmB,zkM hf.2 hs,hf.2.some hs,hs,hsi,hw1,hto,hcap,hcapi,jW,jY,ite_self,Nat.sub_zero,implies_true,true_and,and_true,and_self]
   try rw [zmC (show k+1≤f.surges.l.length by omega)]
   try simp only [go_sem,jq,jj,jy,jv,jk,jx,hk,Int.toNat_zero,Nat.zero_mul,zmA,zmB,zkM hf.2 hs,hf.2.some hs,hs,hsi,hw1,hto,hcap,hcapi,jW,jY,ite_self,Nat.sub_zero,implies_true,true_and,and_true,and_self]
   refine U_m 2 [10] ⟨?_,?_,trivial⟩
   ·refine U_b 2 0 [] rfl rfl ?_
    simp only [go_sem,jq,jj,jy,jv,jk,jx,hk,Int.toNat_zero,Nat.zero_mul,zmA,zmB,zkM hf.2 hs,hf.2.some hs,hs,hsi,hw1,hto,hcap,hcapi,jW,jY,ite_self,Nat.sub_zero,implies_true,true_and,and_true,and_self]
    refine zkj (zEy f.tide _ hf.1 (by have:=hb.1;omega)) rfl ?_
    rintro v h1 le1 ⟨t,rfl,et,okt,mt⟩
    simp only [go_sem,jq,jj,jy,jv,jk,jx,hk,Int.toNat_zero,Nat.zero_mul,zmA,zmB,zkM hf.2 hs,hf.2.some hs,hs,hsi,hw1,hto,hcap,hcapi,jW,jY,ite_self,Nat.sub_zero,implies_true,true_and,and_true,and_self]
    refine U_m 8 [10] ⟨?_,?_,trivial⟩
    ·refine U_b 8 0 [] rfl rfl ?_
     simp only [go_sem,jq,jj,jy,jv,jk,jx,hk,Int.toNat_zero,Nat.zero_mul,zmA,zmB,zkM hf.2 hs,hf.2.some hs,hs,hsi,hw1,hto,hcap,hcapi,jW,jY,ite_self,Nat.sub_zero,implies_true,true_and,and_true,and_self]
     refine zkj (zEE (f.surges.to (k+1)) _ ((Sl.to_ok hf.2 (k+1)).mono le1) (by rw [Sl.to_len hs];have:=hb.2;omega)) rfl ?_
     rintro v h2 le2 ⟨s1,rfl,e1,R1,f1⟩
     refine Evs ?_
     refine U_m 9 [10] ⟨?_,?_,trivial⟩
     ·refine U_b 9 0 [] rfl rfl ?_
      simp only [go_sem,jq,jj,jy,jv,jk,jx,hk,Int.toNat_zero,Nat.zero_mul,zmA,zmB,zkM hf.2 hs,hf.2.some hs,hs,hsi,hw1,hto,hcap,hcapi,jW,jY,ite_self,Nat.sub_zero,implies_true,true_and,and_true,and_self]
      refine U_1 10 0 [] rfl rfl ?_
      simp only [go_sem,jq,jj,jy,jv,jk,jx,hk,Int.toNat_zero,Nat.zero_mul,zmA,zmB,zkM hf.2 hs,hf.2.some hs,hs,hsi,hw1,hto,hcap,hcapi,jW,jY,ite_self,Nat.sub_zero,implies_true,true_and,and_true,and_self]
      refine U_1 11 0 [] rfl rfl ?_
      simp only [go_sem,jq,jj,jy,jv,jk,jx,hk,Int.toNat_zero,Nat.zero_mul,zmA,zmB,zkM hf.2 hs,hf.2.some hs,hs,hsi,hw1,hto,hcap,hcapi,jW,jY,ite_self,Nat.sub_zero,implies_true,true_and,and_true,and_self]
      refine U_d ?_
      exact ⟨((t,s1),(h1,h2)),[0,1,2,3],⟨le1,le2,et,okt,mt,e1,R1,f1⟩,by repeat' first|exact rfl|exact trivial|assumption|decide|refine And.intro ?_ ?_⟩
     ·refine U_b 10 0 [] rfl rfl ?_
      simp only [go_sem,jq,jj,jy,jv,jk,jx,hk,Int.toNat_zero,Nat.zero_mul,zmA,zmB,zkM hf.2 hs,hf.2.some hs,hs,hsi,hw1,hto,hcap,hcapi,jW,jY,ite_self,Nat.sub_zero,implies_true,true_and,and_true,and_self]
      refine U_1 9 0 [] rfl rfl ?_
      simp only [go_sem,jq,jj,jy,jv,jk,jx,hk,Int.toNat_zero,Nat.zero_mul,zmA,zmB,zkM hf.2 hs,hf.2.some hs,hs,hsi,hw1,hto,hcap,hcapi,jW,jY,ite_self,Nat.sub_zero,implies_true,true_and,and_true,and_self]
      refine U_1 11 0 [] rfl rfl ?_
      simp only [go_sem,jq,jj,jy,jv,jk,jx,hk,Int.toNat_zero,Nat.zero_mul,zmA,zmB,zkM hf.2 hs,hf.2.some hs,hs,hsi,hw1,hto,hcap,hcapi,jW,jY,ite_self,Nat.sub_zero,implies_true,true_and,and_true,and_self]
      refine U_d ?_
      exact ⟨((t,s1),(h1,h2)),[0,1,2,3],⟨le1,le2,et,okt,mt,e1,R1,f1⟩,by repeat' first|exact rfl|exact trivial|assumption|decide|refine And.intro ?_ ?_⟩
    ·refine U_b 10 0 [] rfl rfl ?_
     simp only [go_sem,jq,jj,jy,jv,jk,jx,hk,Int.toNat_zero,Nat.zero_mul,zmA,zmB,zkM hf.2 hs,hf.2.some hs,hs,hsi,hw1,hto,hcap,hcapi,jW,jY,ite_self,Nat.sub_zero,implies_true,true_and,and_true,and_self]
     refine U_1 8 0 [] rfl rfl ?_
     simp only [go_sem,jq,jj,jy,jv,jk,jx,hk,Int.toNat_zero,Nat.zero_mul,zmA,zmB,zkM hf.2 hs,hf.2.some hs,hs,hsi,hw1,hto,hcap,hcapi,jW,jY,ite_self,Nat.sub_zero,implies_true,true_and,and_true,and_self]
     refine zkj (zEE (f.surges.to (k+1)) _ ((Sl.to_ok hf.2 (k+1)).mono le1) (by rw [Sl.to_len hs];have:=hb.2;omega)) rfl ?_
     rintro v h2 le2 ⟨s1,rfl,e1,R1,f1⟩
     refine Evs ?_
     refine U_1 9 0 [] rfl rfl ?_
     simp only [go_sem,jq,jj,jy,jv,jk,jx,hk,Int.toNat_zero,Nat.zero_mul,zmA,zmB,zkM hf.2 hs,hf.2.some hs,hs,hsi,hw1,hto,hcap,hcapi,jW,jY,ite_self,Nat.sub_zero,implies_true,true_and,and_true,and_self]
     refine U_1 11 0 [] rfl rfl ?_
     simp only [go_sem,jq,jj,jy,jv,jk,jx,hk,Int.toNat_zero,Nat.zero_mul,zmA,zmB,zkM hf.2 hs,hf.2.some hs,hs,hsi,hw1,hto,hcap,hcapi,jW,jY,ite_self,Nat.sub_zero,implies_true,true_and,and_true,and_self]
     refine U_d ?_
     exact ⟨((t,s1),(h1,h2)),[0,1,2,3],⟨le1,le2,et,okt,mt,e1,R1,f1⟩,by repeat' first|exact rfl|exact trivial|assumption|decide|refine And.intro ?_ ?_⟩
   ·refine U_b 10 0 [1,0] rfl rfl ?_
    simp only [go_sem,jq,jj,jy,jv,jk,jx,hk,Int.toNat_zero,Nat.zero_mul,zmA,zmB,zkM hf.2 hs,hf.2.some hs,hs,hsi,hw1,hto,hcap,hcapi,jW,jY,ite_self,Nat.sub_zero,implies_true,true_and,and_true,and_self]
    refine U_1 2 0 [] rfl rfl ?_
    simp only [go_sem,jq,jj,jy,jv,jk,jx,hk,Int.toNat_zero,Nat.zero_mul,zmA,zmB,zkM hf.2 hs,hf.2.some hs,hs,hsi,hw1,hto,hcap,hcapi,jW,jY,ite_self,Nat.sub_zero,implies_true,true_and,and_true,and_self]
    refine zkj (zEy f.tide _ hf.1 (by have:=hb.1;omega)) rfl ?_
    rintro v h1 le1 ⟨t,rfl,et,okt,mt⟩
    simp only [go_sem,jq,jj,jy,jv,jk,jx,hk,Int.toNat_zero,Nat.zero_mul,zmA,zmB,zkM hf.2 hs,hf.2.some hs,hs,hsi,hw1,hto,hcap,hcapi,jW,jY,ite_self,Nat.sub_zero,implies_true,true_and,and_true,and_self]
    refine U_1 8 0 [] rfl rfl ?_
    simp only [go_sem,jq,jj,jy,jv,jk,jx,hk,Int.toNat_zero,Nat.zero_mul,zmA,zmB,zkM hf.2 hs,hf.2.some hs,hs,hsi,hw1,hto,hcap,hcapi,jW,jY,ite_self,Nat.sub_zero,implies_true,true_and,and_true,and_self]
    refine zkj (zEE (f.surges.to (k+1)) _ ((Sl.to_ok hf.2 (k+1)).mono le1) (by rw [Sl.to_len hs];have:=hb.2;omega)) rfl ?_
    rintro v h2 le2 ⟨s1,rfl,e1,R1,f1⟩
    refine Evs ?_
    refine U_1 9 0 [] rfl rfl ?_
    simp only [go_sem,jq,jj,jy,jv,jk,jx,hk,Int.toNat_zero,Nat.zero_mul,zmA,zmB,zkM hf.2 hs,hf.2.some hs,hs,hsi,hw1,hto,hcap,hcapi,jW,jY,ite_self,Nat.sub_zero,implies_true,true_and,and_true,and_self]
    refine U_1 11 0 [] rfl rfl ?_
    simp only [go_sem,jq,jj,jy,jv,jk,jx,hk,Int.toNat_zero,Nat.zero_mul,zmA,zmB,zkM hf.2 hs,hf.2.some hs,hs,hsi,hw1,hto,hcap,hcapi,jW,jY,ite_self,Nat.sub_zero,implies_true,true_and,and_true,and_self]
    refine U_d ?_
    exact ⟨((t,s1),(h1,h2)),[0,1,2,3],⟨le1,le2,et,okt,mt,e1,R1,f1⟩,by repeat' first|exact rfl|exact trivial|assumption|decide|refine And.intro ?_ ?_⟩
  ·refine U_b 10 0 [6,4,1,3,0] rfl rfl ?_
   simp only [go_sem,jq,jj,jy,jv,jk,jx,hk,Int.toNat_zero,Nat.zero_mul,zmA,zmB,zkM hf.2 hs,hf.2.some hs,hs,hsi,hw1,hto,hcap,hcapi,jW,jY,ite_self,Nat.sub_zero,implies_true,true_and,and_true,and_self]
   refine U_m 2 [7] ⟨?_,?_,trivial⟩
   ·refine U_b 2 0 [6,4,3] rfl rfl ?_
    simp only [go_sem,jq,jj,jy,jv,jk,jx,hk,Int.toNat_zero,Nat.zero_mul,zmA,zmB,zkM hf.2 hs,hf.2.some hs,hs,hsi,hw1,hto,hcap,hcapi,jW,jY,ite_self,Nat.sub_zero,implies_true,true_and,and_true,and_self]
    refine zkj (zEy f.tide _ hf.1 (by have:=hb.1;omega)) rfl ?_
    rintro v h1 le1 ⟨t,rfl,et,okt,mt⟩
    simp only [go_sem,jq,jj,jy,jv,jk,jx,hk,Int.toNat_zero,Nat.zero_mul,zmA,zmB,zkM hf.2 hs,hf.2.some hs,hs,hsi,hw1,hto,hcap,hcapi,jW,jY,ite_self,Nat.sub_zero,implies_true,true_and,and_true,and_self]
    refine U_1 7 0 [] rfl rfl ?_
    simp only [go_sem,jq,jj,jy,jv,jk,jx,hk,Int.toNat_zero,Nat.zero_mul,zmA,zmB,zkM hf.2 hs,hf.2.some hs,hs,hsi,hw1,hto,hcap,hcapi,jW,jY,ite_self,Nat.sub_zero,implies_true,true_and,and_true,and_self]
    try rw [zmC (show k+1≤f.surges.l.length by omega)]
    try simp only [go_sem,jq,jj,jy,jv,jk,jx,hk,Int.toNat_zero,Nat.zero_mul,zmA,zmB,zkM hf.2 hs,hf.2.some hs,hs,hsi,hw1,hto,hcap,hcapi,jW,jY,ite_self,Nat.sub_zero,implies_true,true_and,and_true,and_self]
    refine U_1 8 0 [] rfl rfl ?_
    simp only [go_sem,jq,jj,jy,jv,jk,jx,hk,Int.toNat_zero,Nat.zero_mul,zmA,zmB,zkM hf.2 hs,hf.2.some hs,hs,hsi,hw1,hto,hcap,hcapi,jW,jY,ite_self,Nat.sub_zero,implies_true,true_and,and_true,and_self]
    refine zkj (zEE (f.surges.to (k+1)) _ ((Sl.to_ok hf.2 (k+1)).mono le1) (by rw [Sl.to_len hs];have:=hb.2;omega)) rfl ?_
    rintro v h2 le2 ⟨s1,rfl,e1,R1,f1⟩
    refine Evs ?_
    refine U_1 9 0 [] rfl rfl ?_
    simp only [go_sem,jq,jj,jy,jv,jk,jx,hk,Int.toNat_zero,Nat.zero_mul,zmA,zmB,zkM hf.2 hs,hf.2.some hs,hs,hsi,hw1,hto,hcap,hcapi,jW,jY,ite_self,Nat.sub_zero,implies_true,true_and,and_true,and_self]
    refine U_1 11 0 [] rfl rfl ?_
    simp only [go_sem,jq,jj,jy,jv,jk,jx,hk,Int.toNat_zero,Nat.zero_mul,zmA,zmB,zkM hf.2 hs,hf.2.some hs,hs,hsi,hw1,hto,hcap,hcapi,jW,jY,ite_self,Nat.sub_zero,implies_true,true_and,and_true,and_self]
    refine U_d ?_
    exact ⟨((t,s1),(h1,h2)),[0,1,2,3],⟨le1,le2,et,okt,mt,e1,R1,f1⟩,by repeat' first|exact rfl|exact trivial|assumption|decide|refine And.intro ?_ ?_⟩
   ·refine U_b 7 0 [1,0] rfl rfl ?_
    simp only [go_sem,jq,jj,jy,jv,jk,jx,hk,Int.toNat_zero,Nat.zero_mul,zmA,zmB,zkM hf.2 hs,hf.2.some hs,hs,hsi,hw1,hto,hcap,hcapi,jW,jY,ite_self,Nat.sub_zero,implies_true,true_and,and_true,and_self]
    try rw [zmC (show k+1≤f.surges.l.length by omega)]
    try simp only [go_sem,jq,jj,jy,jv,jk,jx,hk,Int.toNat_zero,Nat.zero_mul,zmA,zmB,zkM hf.2 hs,hf.2.some hs,hs,hsi,hw1,hto,hcap,hcapi,jW,jY,ite_self,Nat.sub_zero,implies_true,true_and,and_true,and_self]
    refine U_1 2 0 [] rfl rfl ?_
    simp only [go_sem,jq,jj,jy,jv,jk,jx,hk,Int.toNat_zero,Nat.zero_mul,zmA,zmB,zkM hf.2 hs,hf.2.some hs,hs,hsi,hw1,hto,hcap,hcapi,jW,jY,ite_self,Nat.sub_zero,implies_true,true_and,and_true,and_self]
    refine zkj (zEy f.tide _ hf.1 (by have:=hb.1;omega)) rfl ?_
    rintro v h1 le1 ⟨t,rfl,et,okt,mt⟩
    simp only [go_sem,jq,jj,jy,jv,jk,jx,hk,Int.toNat_zero,Nat.zero_mul,zmA,zmB,zkM hf.2 hs,hf.2.some hs,hs,hsi,hw1,hto,hcap,hcapi,jW,jY,ite_self,Nat.sub_zero,implies_true,true_and,and_true,and_self]
    refine U_1 8 0 [] rfl rfl ?_
    simp only [go_sem,jq,jj,jy,jv,jk,jx,hk,Int.toNat_zero,Nat.zero_mul,zmA,zmB,zkM hf.2 hs,hf.2.some hs,hs,hsi,hw1,hto,hcap,hcapi,jW,jY,ite_self,Nat.sub_zero,implies_true,true_and,and_true,and_self]
    refine zkj (zEE (f.surges.to (k+1)) _ ((Sl.to_ok hf.2 (k+1)).mono le1) (by rw [Sl.to_len hs];have:=hb.2;omega)) rfl ?_
    rintro v h2 le2 ⟨s1,rfl,e1,R1,f1⟩
    refine Evs ?_
    refine U_1 9 0 [] rfl rfl ?_
    simp only [go_sem,jq,jj,jy,jv,jk,jx,hk,Int.toNat_zero,Nat.zero_mul,zmA,zmB,zkM hf.2 hs,hf.2.some hs,hs,hsi,hw1,hto,hcap,hcapi,jW,jY,ite_self,Nat.sub_zero,implies_true,true_and,and_true,and_self]
    refine U_1 11 0 [] rfl rfl ?_
    simp only [go_sem,jq,jj,jy,jv,jk,jx,hk,Int.toNat_zero,Nat.zero_mul,zmA,zmB,zkM hf.2 hs,hf.2.some hs,hs,hsi,hw1,hto,hcap,hcapi,jW,jY,ite_self,Nat.sub_zero,implies_true,true_and,and_true,and_self]
    refine U_d ?_
    exact ⟨((t,s1),(h1,h2)),[0,1,2,3],⟨le1,le2,et,okt,mt,e1,R1,f1⟩,by repeat' first|exact rfl|exact trivial|assumption|decide|refine And.intro ?_ ?_⟩
 rintro ⟨⟨t,s1⟩,⟨h1,h2⟩⟩ ⟨le1,le2,et,okt,mt,e1,R1,f1⟩
 simp only at le1 le2 et okt mt e1 R1 f1
 have le2:h1.le h2:=le2
 have hfr:∀ g,s1.a=some ⟨g,0,none⟩→h g=none:=fun g hg=>by
  cases hh:h g with
  | none=>rfl
  | some o=>have:=le1 g o hh;rw [f1 g hg] at this;cases this
 obtain ⟨c,hcd⟩:∃ c:DSurge,c=⟨m,max f.surges.l[k].low lo,min f.surges.l[k].high hi⟩:=⟨_,rfl⟩
 have hs1:s1.l.length=k+1:=by rw [e1,Sl.to_len (by omega)]
 have hel1:∀ y ∈ s1.l,Enc.ok h1 y:=fun y hy=>by
  rw [e1] at hy
  exact Enc.mono le1 (hf.2.2.2.2.1 y (List.mem_of_mem_take hy))
 refine zc3 ?_
 refine zoc (ι:=Sl DSurge × Hp) (fun i=>⟨[(1,true,.c (.v (.int .i64 m))),(2,true,.c (.v (.int .i64 lo))),(3,true,.c (.v (.int .i64 hi))),(4,true,.c (.p 0 0)),(8,true,.c (.p 1 0)),(10,true,.c (.v (.int .i64 k))),(11,true,.c (.p 2 0)),(12,true,.c (.p 3 0))],[(0,.box 53 [.v (.int .i64 f.tide.mean),.v f.tide.parts.val,.v f.surges.val]),(1,.box 53 [.v (.int .i64 0),.v (.slice none 0 0),.v (.slice none 0 0)]),(2,.box 125 [.v (.int .i64 f.surges.l[k].src),.v (.int .i64 f.surges.l[k].low),.v (.int .i64 f.surges.l[k].high)]),(3,.box 53 [.v (.int .i64 t.mean),.v t.parts.val,.v i.1.val])],i.2,4⟩)
  (fun i=>RowAt 125 i.2 i.1∧(∀ g,i.1.a=some ⟨g,0,none⟩→h1 g=none)∧h1.le i.2∧(0 < i.1.l.length∧i.1.l.length≤k+2)∧(∀ y ∈ i.1.l,Enc.ok h1 y)∧i.1.l.set (i.1.l.length - 1) c=(if f.surges.l[k].src=m then f.surges.l.take k else f.surges.l.take (k+1)) ++ [c]) ?_ ?_
 ·refine Wk ?_
  refine zc9 rfl (fun hz=>?_) (fun hz=>?_)
  ·first|refine zmR [0,0,0,0,3] rfl ?_|refine zmQ [0,0,0,0,3] rfl ?_|(refine zc3 ?_;first|refine zmR [0,0,0,0,3] rfl ?_|refine zmQ [0,0,0,0,3] rfl ?_)
   refine Evs ?_
   refine znE (s:=s1) rfl R1 (fun g hg=>.inl (hfr g hg)) ?_
   refine Evs ?_
   refine ⟨rfl,by simp only [maxLen];omega,by omega,fun ad2 cap2 h3 P2=>?_⟩
   have P2':Pub (znC h2 s1) 125 (Enc.size DSurge) (s1.l ++ [(⟨0,0,0⟩:DSurge)]).length ((s1.l ++ [(⟨0,0,0⟩:DSurge)]).flatMap Enc.enc) ad2 cap2 h3:=by
    rw [List.length_append,List.flatMap_append];exact P2
   obtain ⟨R2,f2,_⟩:=P2'.row
   obtain ⟨le3,fr3⟩:=pubF (l:=s1.l) R1 le2 f1 P2'
   have hv:(Sl.mk ad2 cap2 (s1.l ++ [(⟨0,0,0⟩:DSurge)])).val=.slice ad2 (s1.l.length+1) cap2:=by simp only [Sl.val,List.length_append,List.length_singleton]
   refine ⟨(⟨ad2,cap2,s1.l ++ [(⟨0,0,0⟩:DSurge)]⟩,h3),[0,1,2,3],⟨R2,fr3,le3,⟨by show 0 < (s1.l ++ [_]).length;rw [List.length_append,List.length_singleton];omega,by show (s1.l ++ [_]).length≤_;rw [List.length_append,List.length_singleton];omega⟩,fun y hy=>?_,?_⟩,?_⟩
   ·rcases List.mem_append.1 hy with hy|hy
    ·exact hel1 y hy
    ·rw [List.mem_singleton.1 hy]
     have hz0:I64 0:=by unfold I64;omega
     exact ⟨hz0,hz0,hz0⟩
   ·have hne:f.surges.l[k].src ≠ m:=by simpa using hz
    show (s1.l ++ [_]).set ((s1.l ++ [_]).length - 1) c=_
    rw [if_neg hne,List.length_append,List.length_singleton,Nat.add_sub_cancel,List.set_append_right _ _ (Nat.le_refl _),Nat.sub_self,List.set_cons_zero,e1]
    rfl
   simp only [go_sem,jq,jj,jy,jv,jk,jx,hv]
   exact Gk
  ·refine Wk ?_
   refine ⟨(s1,h2),[0,1,2,3],⟨R1,f1,le2,⟨by show 0 < s1.l.length;omega,by show s1.l.length≤_;omega⟩,hel1,?_⟩,?_⟩
   ·have he:f.surges.l[k].src=m:=by simpa using hz
    show s1.l.set (s1.l.length - 1) c=_
    rw [if_pos he,hs1,e1,Nat.add_sub_cancel]
    show (f.surges.l.take (k+1)).set k c=_
    have hkl:(f.surges.l.take k).length=k:=by rw [List.length_take];omega
    rw [List.take_succ_eq_append_getElem hs,List.set_append_right _ _ (by omega),hkl,Nat.sub_self,List.set_cons_zero]
   refine Evs ?_
   exact Gk
 rintro ⟨s2,hp⟩ ⟨R2,fr2,lep,hl2,hel,hset⟩
 simp only at R2 fr2 lep hl2 hel hset
 obtain ⟨g,cur,ga,gb,gs,R3⟩:=zEC (w:=c) (i:=s2.l.length - 1) R2 (by omega)
 have hw2:IntKind.i64.wrap ((s2.l.length:Int) - 1)=((s2.l.length - 1:Nat):Int):=by rw [zjz (by omega)];omega
 first|refine zmR [0,0,0,0,0,0,0,0,0,0,0,0,0,0,0,0,0,1] rfl ?_|refine zmQ [0,0,0,0,0,0,0,0,0,0,0,0,0,0,0,0,0,1] rfl ?_|(refine zc3 ?_;first|refine zmR [0,0,0,0,0,0,0,0,0,0,0,0,0,0,0,0,0,1] rfl ?_|refine zmQ [0,0,0,0,0,0,0,0,0,0,0,0,0,0,0,0,0,1] rfl ?_)
 simp only [go_sem,jq,jj,jy,jv,jk,jx,ga,hw2,Option.map_some,za4,Option.isSome_some,jW,jY,Nat.zero_add,Nat.add_zero,List.toList_toArray,implies_true,true_and,and_true,and_self,true_or]
 subst hcd
 have h1g:h1 g=none:=fr2 g ga
 have hg0:h g=none:=by
  cases hh:h g with
  | none=>rfl
  | some o=>have:=le1 g o hh;rw [h1g] at this;cases this
 refine ⟨by omega,?_⟩
 refine zED (us:=Enc.enc (⟨m,max f.surges.l[k].low lo,min f.surges.l[k].high hi⟩:DSurge)) (by simp only [go_sem]) (by simp only [go_sem]) rfl gb (.inl hg0) gs ?_
 have lei:∀ o:Obj,h1.le (hp.ins g o):=fun o q o' hq=>by
  rw [Hp.ins_ne (fun e=>by rw [e,h1g] at hq;cases hq)];exact lep q o' hq
 obtain ⟨s3,hs3⟩:∃ s3:Sl DSurge,s3=⟨s2.a,s2.cap,s2.l.set (s2.l.length - 1) ⟨m,max f.surges.l[k].low lo,min f.surges.l[k].high hi⟩⟩:=⟨_,rfl⟩
 rw [← hs3] at R3
 obtain ⟨h4,R4,h4e⟩:∃ h4,RowAt 125 h4 s3∧h4=hp.ins g (.cells (spl ((s2.l.length - 1) * Enc.size DSurge) (Enc.enc (⟨m,max f.surges.l[k].low lo,min f.surges.l[k].high hi⟩:DSurge)) cur.toList).toArray 125 (0,0)):=⟨_,R3,rfl⟩
 have le4:h1.le h4:=by rw [h4e];exact lei _
 have hv3:s3.val=s2.val:=by rw [hs3];simp only [Sl.val,List.length_set]
 have hfr3:∀ g,s3.a=some ⟨g,0,none⟩→h g=none:=fun g hg=>by
  rw [hs3] at hg
  cases hh:h g with
  | none=>rfl
  | some o=>have:=le1 g o hh;rw [fr2 g hg] at this;cases this
 have hfr1:∀ g,s3.a=some ⟨g,0,none⟩→h1 g=none:=fun g hg=>by rw [hs3] at hg;exact fr2 g hg
 have hz3:∀ a,s3.a=some a→a.off=0∧a.spot=none:=fun a ha=>by rw [hs3] at ha;have ha:s2.a=some a:=ha;rw [ga] at ha;cases ha;exact ⟨rfl,rfl⟩
 have hsl:∀ (hp:Prop) (K:SV→Prop),zgh hp (((k+1:Nat)):Int) (f.surges.l.length:Int) f.surges.val 3 K=(hp∧K (.c (.v (f.surges.fr (k+1)).val))):=fun hp K=>zol hs
 have hl3:s3.l.length≤k+2:=by rw [hs3];show (s2.l.set _ _).length≤_;rw [List.length_set];omega
 have hfl:(f.surges.fr (k+1)).l.length=f.surges.l.length - (k+1):=by show (List.drop _ _).length=_;rw [List.length_drop]
 have hall:∀ o:Obj,(znC (hp.ins g o) s3).ldL (f.surges.fr (k+1)).val 3=some ((f.surges.l.drop (k+1)).flatMap Enc.enc):=fun o =>
  (Sl.fr_ok (hf.2.mono (Hp.le_trans le1 (znF (lei o) hfr1 hz3))) (k+1)).all (by decide)
 refine Wk ?_
 refine znv rfl ?_
 refine U_t [0,2,4,1,3,5] rfl ?_
 simp only [go_sem,jq,jj,jy,jv,jk,jx,hsl,hw1,hto,hcap,hcapi,jW,jY,ite_self,Option.isSome_some,Option.getD_some,implies_true,true_and,and_true,and_self]
 refine U_1 6 0 [1,0] rfl rfl ?_
 simp only [go_sem,jq,jj,jy,jv,jk,jx,hsl,hw1,hto,hcap,hcapi,jW,jY,ite_self,Option.isSome_some,Option.getD_some,implies_true,true_and,and_true,and_self]
 refine U_1 7 3 [] rfl rfl ?_
 simp only [go_sem,jq,jj,jy,jv,jk,jx,hsl,hw1,hto,hcap,hcapi,jW,jY,ite_self,Option.isSome_some,Option.getD_some,implies_true,true_and,and_true,and_self]
 refine znE (s:=s3) (by rw [hv3];rfl) R3 (fun g hg=>.inl (hfr3 g hg)) ?_
 simp only [go_sem,jq,jj,jy,jv,jk,jx,hsl,hw1,hto,hcap,hcapi,jW,jY,ite_self,Option.isSome_some,Option.getD_some,implies_true,true_and,and_true,and_self]
 simp only [go_sem,jq,jj,jy,jv,jk,jx,hall,true_and,Option.isSome_some,Option.getD_some]
 refine ⟨rfl,fun u hu=>by obtain ⟨z,_,hz⟩:=List.mem_flatMap.1 hu;exact Enc.one z u hz,by rw [hfl];simp only [maxLen];omega,by rw [hfl];omega,fun ad4 cap4 h5 P5=>?_⟩
 have P5r:Pub (znC h4 s3) 125 (Enc.size DSurge) (s3.l ++ f.surges.l.drop (k+1)).length ((s3.l ++ f.surges.l.drop (k+1)).flatMap Enc.enc) ad4 cap4 h5:=by
  rw [List.length_append,List.flatMap_append,h4e];exact P5
 obtain ⟨R5,f5,_⟩:=P5r.row
 obtain ⟨le5,fr5⟩:=pubF (l:=s3.l) R4 le4 hfr1 P5r
 have hv5:Value.slice ad4 (s3.l.length+(f.surges.fr (k+1)).l.length) cap4=(Sl.mk ad4 cap4 (s3.l ++ f.surges.l.drop (k+1))).val:=by simp only [Sl.val,List.length_append];rfl
 simp only [go_sem,jq,jj,jy,jv,jk,jx,hv5]
 refine U_t [8] rfl ?_
 simp only [go_sem,jq,jj,jy,jv,jk,jx,hsl,hw1,hto,hcap,hcapi,jW,jY,ite_self,Option.isSome_some,Option.getD_some,implies_true,true_and,and_true,and_self]
 refine U_1 9 0 [] rfl rfl ?_
 simp only [go_sem,jq,jj,jy,jv,jk,jx,hsl,hw1,hto,hcap,hcapi,jW,jY,ite_self,Option.isSome_some,Option.getD_some,implies_true,true_and,and_true,and_self]
 refine U_d ?_
 refine Wk ?_
 have hs3l:s3.l ++ f.surges.l.drop (k+1)=revA f.surges.l m lo hi:=by
  rw [hs3]
  show s2.l.set (s2.l.length - 1) _ ++ _=_
  rw [hset,revA,hk,sget hs]
 have hkok:Enc.ok h f.surges.l[k]:=hf.2.2.2.2.1 _ (List.getElem_mem hs)
 have okd:Enc.ok h5 (⟨t,⟨ad4,cap4,s3.l ++ f.surges.l.drop (k+1)⟩⟩:DForecast):=⟨Enc.mono le5 okt,R5.ok (by decide) fun y hy=>by
  rcases List.mem_append.1 hy with hy|hy
  ·rw [hs3] at hy
   rcases List.mem_or_eq_of_mem_set hy with hy|rfl
   ·exact Enc.mono le5 (hel y hy)
   ·obtain ⟨q1,q2,q3⟩:=hkok
    unfold I64 at *
    exact ⟨by unfold I64;omega,by unfold I64;show _≤max _ _∧max _ _≤_;omega,by unfold I64;show _≤min _ _∧min _ _≤_;omega⟩
  ·exact Enc.mono (Hp.le_trans le1 le5) (hf.2.2.2.2.1 y (List.mem_of_mem_drop hy))⟩
 refine zhF (fun _=>zu0 (⟨t,⟨ad4,cap4,s3.l ++ f.surges.l.drop (k+1)⟩⟩:DForecast) _ okd) ?_
 have hcd:Con.con (⟨t,⟨ad4,cap4,s3.l ++ f.surges.l.drop (k+1)⟩⟩:DForecast)=({ (Con.con f:PForecast) with surges:=revA (Con.con f:PForecast).surges m lo hi }:PForecast):=by
  rw [zkO,zvX,← hs3l,show Con.con t=(Con.con f:PForecast).tide from et]
  congr 1
  exact List.map_id _
 refine Evs ?_
 refine zc9 rfl (fun hz=>?_) (fun hz=>?_)
 ·have hz:zuY (Con.con (⟨t,⟨ad4,cap4,s3.l ++ f.surges.l.drop (k+1)⟩⟩:DForecast))=false:=by simpa using hz
  have hR:zDU (Con.con f) m lo hi=none:=by
   rw [hcd] at hz
   rw [zDU,if_pos ⟨hfo,hmr⟩,if_neg (by rw [hz];exact Bool.false_ne_true)]
  refine Wk ?_
  exact ⟨⟨⟨0,⟨none,0,[]⟩⟩,⟨none,0,[]⟩⟩,by rw [hR];rfl,by rw [hR];rfl,⟨⟨by show I64 0;unfold I64;omega,zmo⟩,zmo⟩,zEG⟩
 ·have hz:zuY (Con.con (⟨t,⟨ad4,cap4,s3.l ++ f.surges.l.drop (k+1)⟩⟩:DForecast))=true:=by simpa using hz
  have hR:zDU (Con.con f) m lo hi=some (Con.con (⟨t,⟨ad4,cap4,s3.l ++ f.surges.l.drop (k+1)⟩⟩:DForecast)):=by
   rw [hcd] at hz
   rw [zDU,if_pos ⟨hfo,hmr⟩,if_pos hz,hcd]
  have m5:=zEF R5 fr5
  refine Wk ?_
  exact ⟨⟨t,⟨ad4,cap4,s3.l ++ f.surges.l.drop (k+1)⟩⟩,by rw [hR];rfl,by rw [hR];rfl,okd,News.mine ⟨(Mine.on le5 okt mt).1,m5.1⟩ (mt.news.append le1 le5 m5.news)⟩
abbrev wL (x:DHarbour) (a:DCall) (r:List Int):List Bool:=zyl (Con.con x.chart) ((zwV (Con.con x.chart) a.src r).getD []) r.length
abbrev mL (x:DHarbour) (a:DCall) (r:List Int):List Int:=minL (Con.con x.chart) (zyD (Con.con x) a) r r.length
abbrev uL (x:DHarbour) (a:DCall) (r:List Int):List (List DWindow):=zym (Con.con x.forecast) (Con.con x.chart) (zyD (Con.con x) a) r r.length
structure Voy (x:DHarbour) (a:DCall) (r:List Int) (m:Int) (pl l:List Int):Prop where
 hc:zva (Con.con x.chart)=true
 so:zvj (zyD (Con.con x) a)=true
 n0:0 < r.length
 n8:r.length≤8
 rt:zwV (Con.con x.chart) a.src r=some pl
 pk:ptsK (Con.con x.chart).segments a.src r r.length=some pl
 rg:∀ i,i < r.length→0≤r.getD i 0∧r.getD i 0 < (Con.con x.chart).segments.length
 ml:(mL x a r).length=r.length
 mi:∀ i,i < r.length→1≤(mL x a r).getD i 0∧(mL x a r).getD i 0≤480
 sr:zyB (Con.con x.forecast) (Con.con x.chart) (zyD (Con.con x) a) a.src r m=some l
 hm:zwb ((uL x a r).getD 0 []) m=true
 sl:slK (wL x a r) (mL x a r) (uL x a r) m (r.length - 1)=some l
 ll:l.length=r.length
 li:∀ i,i < r.length→0≤l.getD i 0∧l.getD i 0≤2880
 lo:m+zzm (mL x a r) (r.length - 1)≤l.getD (r.length - 1) 0
 ar:zxJ (Con.con x.chart) (zyD (Con.con x) a) r l=l.getD (r.length - 1) 0+(mL x a r).getD (r.length - 1) 0
 ps:zxN (Con.con x.chart) a.ship (zyD (Con.con x) a) a.src r l=pasL (Con.con x.chart) a.ship (zyD (Con.con x) a) pl r l r.length
theorem zBW {t t':Int} (h:t≤t'):∀ {l:List DWindow} {w w':DWindow},(∀ w ∈ l,w.src≤w.dst)→l.find? (fun w=>decide (t≤w.dst))=some w→l.find? (fun w=>decide (t'≤w.dst))=some w'→max w.src t≤max w'.src t'
 | [],w,w',_,h1,_=>by cases h1
 | y :: l,w,w',hw,h1,h2=>by
  have hy:=hw y (List.mem_cons_self ..)
  rw [List.find?_cons] at h1 h2
  by_cases c1:t≤y.dst
  ·rw [decide_eq_true c1] at h1
   obtain rfl:=Option.some.inj h1
   by_cases c2:t'≤y.dst
   ·rw [decide_eq_true c2] at h2
    obtain rfl:=Option.some.inj h2
    omega
   ·omega
  ·rw [decide_eq_false c1] at h1
   rw [decide_eq_false (by omega)] at h2
   exact zBW h (fun w hw'=>hw w (List.mem_cons_of_mem _ hw')) h1 h2
theorem zBX {l:List DWindow} (h:zwa l=true):∀ w ∈ l,0≤w.src∧w.src≤w.dst∧w.dst≤2880:=fun w hw=>by
 obtain ⟨i,hi,e⟩:=List.getElem_of_mem hw
 have h2:=of_decide_eq_true h i hi
 rw [zv9,decide_eq_true_eq,wget hi,e] at h2
 exact h2.1
theorem zBY {l:List DWindow} {t t':Int} (h:t≤t') (h1:¬ zwc l t < 0) (h2:¬ zwc l t' < 0):zwc l t≤zwc l t':=by
 unfold zwc at h1 h2 ⊢
 by_cases hw:zwa l=true
 ·rw [if_pos hw] at h1 h2 ⊢
  rw [if_pos hw]
  cases e1:l.find? (fun w=>decide (t≤w.dst)) with
  | none=>rw [e1] at h1;exact absurd (show (-1:Int) < 0 by decide) h1
  | some w =>
   cases e2:l.find? (fun w=>decide (t'≤w.dst)) with
   | none=>rw [e2] at h2;exact absurd (show (-1:Int) < 0 by decide) h2
   | some w'=>exact zBW h (fun w hm=>(zBX hw w hm).2.1) e1 e2
 ·rw [if_neg hw] at h1;exact absurd (show (-1:Int) < 0 by decide) h1
theorem zB1 {w:List Bool} {m:List Int} {u:List (List DWindow)} {st st':Int} (hst:0≤st∧st≤2880) (hst':0≤st'∧st'≤2880) (hle:st≤st') (hm:∀ i,i < m.length→1≤m.getD i 0∧m.getD i 0≤480):∀ {k:Nat} {l l':List Int},k≤m.length→slK w m u st k=some l→slK w m u st' k=some l'→∀ i,i≤k→l.getD i 0≤l'.getD i 0
 | 0,l,l',_,h,h',i,hi=>by
  rw [slK] at h h'
  rw [← Option.some.inj h,← Option.some.inj h',Nat.le_zero.1 hi]
  exact hle
 | k+1,l,l',hk,h,h',i,hi=>by
  rw [slK] at h h'
  obtain ⟨p,hp,h⟩:=Option.bind_eq_some_iff.1 h
  obtain ⟨p',hp',h'⟩:=Option.bind_eq_some_iff.1 h'
  have hl:=zyw hp
  have hl':=zyw hp'
  have ih:=zB1 hst hst' hle hm (k:=k) (by omega) hp hp'
  have b1:=(zzo hst hm (k:=k) (by omega) hp).2.1 k (Nat.le_refl _)
  have b2:=(zzo hst' hm (k:=k) (by omega) hp').2.1 k (Nat.le_refl _)
  have hmk:=hm k (by omega)
  have h1:=ih k (Nat.le_refl _)
  unfold zyr at h h'
  dsimp only at h h'
  rw [zjz (by omega)] at h h'
  split at h
  ·cases h
  ·rename_i hc
   split at h'
   ·cases h'
   ·rename_i hc'
    rw [not_or] at hc hc'
    rw [← Option.some.inj h,← Option.some.inj h']
    rcases Nat.lt_or_ge k i with hik|hik
    ·obtain rfl:i=k+1:=by omega
     rw [zBE hl,zBE hl']
     exact zBY (by omega) hc.1 hc'.1
    ·rw [zBD (by omega),zBD (by omega)]
     exact ih i hik
theorem Voy.mono {x:DHarbour} {a:DCall} {r:List Int} {m m':Int} {pl l pl' l':List Int} (V:Voy x a r m pl l) (V':Voy x a r m' pl' l') (h0:0≤m∧m≤2880) (h0':0≤m'∧m'≤2880) (hle:m≤m') (i:Nat) (hi:i < r.length):l.getD i 0≤l'.getD i 0 :=
 zB1 h0 h0' hle (fun j hj=>V.mi j (by have:=V.ml;omega)) (by have:=V.ml;omega) V.sl V'.sl i (by omega)
def arrV (x:DHarbour) (a:DCall) (r l:List Int):Int:=l.getD (r.length - 1) 0+(mL x a r).getD (r.length - 1) 0
theorem Voy.cost {x:DHarbour} {a:DCall} {r:List Int} {m:Int} {pl l:List Int} (V:Voy x a r m pl l) (hr:0≤a.ready∧a.ready≤2880):zyH a.ready (arrV x a r l) (mL x a r)=arrV x a r l - a.ready - zzm (mL x a r) r.length:=by
 have hn:=V.n0
 have h1:=V.li (r.length - 1) (by omega)
 have h2:=V.mi (r.length - 1) (by omega)
 have hml:=V.ml
 have h8:=V.n8
 have h3:=zzp (m:=mL x a r) (fun i hi=>V.mi i (by omega)) (by omega) (z:=arrV x a r l - a.ready) (by unfold arrV;omega) (k:=r.length) (by omega)
 rw [List.take_of_length_le (by omega)] at h3
 rw [zyH,zjz (by unfold arrV;omega),h3]
theorem Voy.sum {x:DHarbour} {a:DCall} {r:List Int} {m:Int} {pl l:List Int} (V:Voy x a r m pl l):m+zzm (mL x a r) r.length≤arrV x a r l:=by
 have h1:=V.lo
 have hn:=V.n0
 obtain ⟨k,hk⟩:∃ k,r.length=k+1:=⟨r.length - 1,by omega⟩
 have e:zzm (mL x a r) r.length=zzm (mL x a r) (r.length - 1)+(mL x a r).getD (r.length - 1) 0:=by
  rw [show zzm (mL x a r) r.length=zzm (mL x a r) (r.length - 1+1) by rw [show r.length - 1+1=r.length by omega]]
  rfl
 unfold arrV
 omega
theorem zC1 {w:List Bool} {m:List Int} {u:List (List DWindow)} {st:Int}:∀ {k:Nat} {l:List Int},slK w m u st k=some l→∀ i,i < k→IntKind.i64.wrap (l.getD i 0+m.getD i 0) < l.getD (i+1) 0→w.getD (i+1) false=true
 | 0,_,_,i,hi,_=>absurd hi (Nat.not_lt_zero i)
 | k+1,l,h,i,hi,hlt=>by
  rw [slK] at h
  obtain ⟨p,hp,h⟩:=Option.bind_eq_some_iff.1 h
  have hl:=zyw hp
  unfold zyr at h
  dsimp only at h
  split at h
  ·cases h
  ·rename_i hc
   rw [not_or,not_and] at hc
   have e:=Option.some.inj h
   rw [← e] at hlt
   rcases Nat.lt_or_ge i k with hik|hik
   ·rw [zBD (by omega),zBD (by omega)] at hlt
    exact zC1 hp i hik hlt
   ·obtain rfl:i=k:=by omega
    rw [zBD (by omega),zBE hl] at hlt
    have:=hc.2 hlt
    rwa [Bool.not_eq_false] at this
theorem Voy.step {x:DHarbour} {a:DCall} {r:List Int} {m:Int} {pl l:List Int} (V:Voy x a r m pl l) {i:Nat} (hi:i+1 < r.length):(zxL (Con.con x.chart) a.ship (zyD (Con.con x) a) pl r l i).fin≤l.getD (i+1) 0:=by
 have:=zBF V.sl i (by omega)
 rw [mL,zzr (by omega)] at this
 exact this
theorem Voy.wait {x:DHarbour} {a:DCall} {r:List Int} {m:Int} {pl l:List Int} (V:Voy x a r m pl l) {i:Nat} (hi:i+1 < r.length) (h:(zxL (Con.con x.chart) a.ship (zyD (Con.con x) a) pl r l i).fin < l.getD (i+1) 0):((Con.con x.chart:PChart).points.getD (pl.getD (i+1) 0).toNat dP).wait=true:=by
 have hw:=zC1 V.sl i (by omega) (by rw [mL,zzr (by omega)];exact h)
 rw [wL,zyl,List.getD_eq_getElem?_getD,List.getElem?_map,List.getElem?_range hi,V.rt] at hw
 exact hw
theorem Voy.fin {x:DHarbour} {a:DCall} {r:List Int} {m:Int} {pl l:List Int} (V:Voy x a r m pl l):zxJ (Con.con x.chart) (zyD (Con.con x) a) r l=(zxL (Con.con x.chart) a.ship (zyD (Con.con x) a) pl r l (r.length - 1)).fin:=by
 have hn:=V.n0
 rw [V.ar]
 have b1:=V.li (r.length - 1) (by omega)
 have b2:=V.mi (r.length - 1) (by omega)
 have b3:=zzr (c:=Con.con x.chart) (s:=zyD (Con.con x) a) (r:=r) (n:=r.length) (i:=r.length - 1) (by omega)
 have b4:zvG (zyD (Con.con x) a) ((Con.con x.chart:PChart).segments.getD (r.getD (r.length - 1) 0).toNat dG)=(mL x a r).getD (r.length - 1) 0:=b3.symm
 show _=IntKind.i64.wrap (l.getD (r.length - 1) 0+zvG (zyD (Con.con x) a) ((Con.con x.chart:PChart).segments.getD (r.getD (r.length - 1) 0).toNat dG))
 rw [b4,zjz (by omega)]
def Runs (p:Nat→Bool) (k:Nat) (l:List DWindow):Prop :=
 (∀ w ∈ l,0≤w.src∧w.src≤w.dst∧w.dst < k∧∀ j:Nat,w.src≤j→(j:Int)≤w.dst→p j=true)∧(∀ j:Nat,j < k→p j=true→∃ w ∈ l,w.src≤j∧(j:Int)≤w.dst)∧l.Pairwise fun a b=>a.dst+1 < b.src
theorem zD3 {l:List DSurge} (h:∀ i,i < l.length→zuX l i=true):(∀ y ∈ l,zuK y=true)∧l.Pairwise fun a b=>a.src < b.src:=by
 have h1:∀ i (hi:i < l.length),zuK l[i]=true∧(0 < i→(l.getD (i - 1) dS).src < l[i].src):=fun i hi=>by
  have:=h i hi
  rw [zuX,sget hi,jJ,Bool.not_eq_true',Bool.and_eq_false_iff,decide_eq_false_iff_not,decide_eq_false_iff_not] at this
  exact ⟨this.1,fun h0=>by omega⟩
 refine ⟨fun y hy=>?_,List.pairwise_iff_getElem.2 fun i j hi hj hij=>?_⟩
 ·obtain ⟨i,hi,rfl⟩:=List.getElem_of_mem hy
  exact (h1 i hi).1
 ·induction j with
  | zero=>omega
  | succ j ih =>
   have:=(h1 (j+1) hj).2 (Nat.succ_pos _)
   rw [Nat.add_sub_cancel,sget (show j < l.length by omega)] at this
   rcases Nat.lt_or_ge i j with h2|h2
   ·have:=ih (by omega) h2;omega
   ·obtain rfl:i=j:=by omega
    exact this
theorem zD5 {f:PForecast} (h:zuY f=true):zuS f.tide=true∧(0 < f.surges.length∧f.surges.length≤6)∧(f.surges.getD 0 dS).src=0∧(∀ y ∈ f.surges,zuK y=true)∧f.surges.Pairwise fun a b=>a.src < b.src:=by
 rw [zuY,In,jJ,jJ,jJ,jJ,decide_eq_true_eq,decide_eq_true_eq,decide_eq_true_eq,decide_eq_true_eq] at h
 obtain ⟨h1,h2⟩:=zD3 h.2
 exact ⟨h.1.1.1,by omega,h.1.2,h1,h2⟩
theorem zEa {f g:PForecast} {m lo hi:Int} (h:zDU f m lo hi=some g):zuY f=true∧(0≤m∧m≤2880)∧zuY g=true∧g={ f with surges:=revA f.surges m lo hi }:=by
 rw [zDU] at h
 split at h
 ·rename_i h1
  split at h
  ·rename_i h2
   obtain rfl:=Option.some.inj h
   exact ⟨h1.1,h1.2,h2,rfl⟩
  ·cases h
 ·cases h
theorem z17 {h:Hp}:Enc.ok h (⟨⟨0,⟨none,0,[]⟩⟩,⟨none,0,[]⟩⟩:DForecast):=by
 have hz:I64 0:=by unfold I64;omega
 exact ⟨⟨hz,zmo⟩,zmo⟩
set_option maxRecDepth 100000 in
theorem z18 (f:DForecast) (m lo hi:Int) (h:Hp) (hf:Enc.ok h f) (hm:I64 m) (hlo:I64 lo) (hhi:I64 hi):Ct jV 111 [f.v,.int .i64 m,.int .i64 lo,.int .i64 hi] h fun v h'=>∃ g:DForecast,v=.tuple #[g.v,.bool (zDU (Con.con f) m lo hi).isSome]∧Con.con g=(zDU (Con.con f) m lo hi).getD ⟨⟨0,[]⟩,[]⟩∧Enc.ok h' g∧h.le h':=by
 refine zdn (fun A W=>by simp) Tryz.func111 rfl rfl (by simp) fun W0=>?_
 repeat' first|refine Wa ?_|refine zhF (fun _=>zY5 f _ hf) ?_|refine zhF (fun _=>zYZ _ _ _ _) ?_|(simp only [go_sem,jq,jj,jy,jv,jk,jx];try rfl)|refine Wb ?_|fail
 refine zc9 rfl (fun hc=>?_) (fun hc=>?_)
 ·have hn:¬ (zuY (Con.con f)=true∧0≤m∧m≤2880):=fun ⟨h1,h2,h3⟩=>by
   rw [h1] at hc;simp [In,h2,h3] at hc
  have hR:zDU (Con.con f) m lo hi=none:=by rw [zDU,if_neg hn]
  refine Wk ?_
  first|exact ⟨⟨⟨0,⟨none,0,[]⟩⟩,⟨none,0,[]⟩⟩,by rw [hR];rfl,by rw [hR];rfl,z17,Hp.le_refl _⟩|exact ⟨⟨⟨0,⟨none,0,[]⟩⟩,⟨none,0,[]⟩⟩,by rw [hR];rfl,by rw [hR];rfl,z17⟩
 have hfo:zuY (Con.con f)=true:=by
  cases h9:zuY (Con.con f) with
  | true=>rfl
  | false=>rw [h9] at hc;simp at hc
 have hmr:0≤m∧m≤2880:=by
  rw [hfo] at hc;simp [In] at hc;omega
 obtain ⟨_,fp2,fp3,_,fp5⟩:=zD5 hfo
 rw [zvX] at fp2 fp3 fp5
 have hn:0 < f.surges.l.length:=fp2.1
 have hn6:=fp2.2
 obtain ⟨k0,hk0⟩:∃ k,zvR f.surges.l m=k:=⟨_,rfl⟩
 have hs:k0 < f.surges.l.length:=by rw [← hk0];exact zvT hn
 have hb:f.tide.parts.l.length≤4:=by
  have h9:=hfo
  simp only [zuY,zuS,In,jJ,decide_eq_true_eq] at h9
  rw [show (Con.con f).tide.parts=f.tide.parts.l from zuT _] at h9
  omega
 refine Wk ?_
 refine zkj (z15 f.tide _ hf.1 (by omega)) rfl ?_
 rintro v h1 le1 ⟨t,rfl,et,okt,_⟩
 have hf1:=Enc.mono (x:=f) le1 hf
 have hnew:∀ g,h1 g=none→h g=none:=fun g hg=>by
  cases hh:h g with
  | none=>rfl
  | some o=>have:=le1 g o hh;rw [hg] at this;cases this
 refine Wk ?_
 refine zhF (fun _=>zZr f m _ hf1 hn) ?_
 rw [hk0,sget hs]
 refine Evs ?_
 refine Wk ?_
 refine zoe (ι:=(Nat × Sl DSurge) × Hp) (fun i=>⟨[(1,true,.c (.v (.int .i64 m))),(2,true,.c (.v (.int .i64 lo))),(3,true,.c (.v (.int .i64 hi))),(4,true,.c (.p 0 0)),(8,true,.c (.p 1 0)),(9,true,.c (.v (.bool false))),(10,true,.c (.p 2 0)),(11,true,.c (.p 3 0)),(33,true,.c (.v f.surges.val)),(34,true,.c (.v (.int .i64 f.surges.l.length))),(35,true,.c (.v (.int .i64 i.1.1)))],[(0,.box 53 [.v (.int .i64 f.tide.mean),.v f.tide.parts.val,.v f.surges.val]),(1,.box 53 [.v (.int .i64 0),.v (.slice none 0 0),.v (.slice none 0 0)]),(2,.box 53 [.v (.int .i64 t.mean),.v t.parts.val,.v i.1.2.val]),(3,.box 125 [.v (.int .i64 f.surges.l[k0].src),.v (.int .i64 f.surges.l[k0].low),.v (.int .i64 f.surges.l[k0].high)])],i.2,4⟩)
  (fun i=>i.1.1≤f.surges.l.length∧RowAt 125 i.2 i.1.2∧(∀ g,i.1.2.a=some ⟨g,0,none⟩→h1 g=none)∧h1.le i.2∧i.1.2.l=(f.surges.l.take i.1.1).filter (fun s=>decide (s.src < m))) (fun i=>f.surges.l.length - i.1.1) ((0,⟨none,0,[]⟩),h1) ⟨Nat.zero_le _,⟨Nat.le_refl _,Nat.zero_le _,.inl ⟨rfl,rfl,rfl⟩⟩,fun g hg=>(by cases hg),Hp.le_refl _,rfl⟩ [0,1,2,3] ?_ ?_
 ·refine Evs ?_
  exact Gk
 rintro ⟨⟨k,s⟩,hk⟩ ⟨hkn,Rk,frk,lek,hsl⟩
 simp only at hkn Rk frk lek hsl
 have hfk:=Enc.mono (x:=f) (Hp.le_trans le1 lek) hf
 have hsn:s.l.length≤k:=by
  rw [hsl]
  have:=List.length_filter_le (fun s:DSurge=>decide (s.src < m)) (f.surges.l.take k)
  rw [List.length_take] at this
  omega
 refine Wk ?_
 refine zc9 rfl (fun hd=>?_) (fun hd=>?_)
 case refine_1 =>
  have hlt:=zjH hd
  repeat' first|refine Wa ?_|(simp only [go_sem,jq,jj,jy,jv,jk,jx,zkM hfk.2 hlt,zlQ hfk.2 hlt,hfk.2.some hlt,hlt,jW];try rfl)|refine Wb ?_|fail
  refine zc9 rfl (fun hz=>?_) (fun hz=>?_)
  ·have hz:=of_decide_eq_true hz
   first|refine zmR [0,0,0,0,3] rfl ?_|refine zmQ [0,0,0,0,3] rfl ?_|(refine zc3 ?_;first|refine zmR [0,0,0,0,3] rfl ?_|refine zmQ [0,0,0,0,3] rfl ?_)
   refine Evs ?_
   refine znE (s:=s) rfl Rk (fun g hg=>.inl (hnew g (frk g hg))) ?_
   refine Evs ?_
   refine ⟨rfl,by simp only [maxLen];omega,by omega,fun ad2 cap2 h2 P2=>?_⟩
   have P2r:Pub (znC hk s) 125 (Enc.size DSurge) (s.l ++ [f.surges.l[k]]).length ((s.l ++ [f.surges.l[k]]).flatMap Enc.enc) ad2 cap2 h2:=by
    rw [List.length_append,List.flatMap_append];exact P2
   obtain ⟨R2,f2,_⟩:=P2r.row
   obtain ⟨le2,fr2⟩:=pubF (l:=s.l) Rk lek frk P2r
   have hv2:(Sl.mk ad2 cap2 (s.l ++ [f.surges.l[k]])).val=.slice ad2 (s.l.length+1) cap2:=by simp only [Sl.val,List.length_append,List.length_singleton]
   try simp only [go_sem,jq,jj,jy,jv,jk,jx]
   refine Wk ?_
   refine ⟨((k+1,⟨ad2,cap2,s.l ++ [f.surges.l[k]]⟩),h2),[0,1,2,3],⟨hlt,R2,fr2,le2,?_⟩,by simp only;omega,?_⟩
   ·show s.l ++ [f.surges.l[k]]=_
    rw [hsl,List.take_succ_eq_append_getElem hlt,List.filter_append,List.filter_cons_of_pos (by simpa using hz),List.filter_nil]
   simp only [go_sem,jq,jj,jy,jv,jk,jx,hv2,zjA hlt (by omega)]
   exact Gk
  ·have hz:=of_decide_eq_false hz
   refine Wk ?_
   refine ⟨((k+1,s),hk),[0,1,2,3],⟨hlt,Rk,frk,lek,?_⟩,by simp only;omega,?_⟩
   ·show s.l=_
    rw [hsl,List.take_succ_eq_append_getElem hlt,List.filter_append,List.filter_cons_of_neg (by simpa using hz),List.filter_nil,List.append_nil]
   simp only [go_sem,jq,jj,jy,jv,jk,jx,zjA hlt (by omega)]
   exact Gk
 have hge:=zjI hd
 rw [List.take_of_length_le hge] at hsl
 obtain ⟨s1,rfl⟩:∃ s1,s1=s:=⟨_,rfl⟩
 have hs1:=hsl
 have hsn:s1.l.length≤6:=by
  rw [hs1]
  have:=List.length_filter_le (fun s:DSurge=>decide (s.src < m)) f.surges.l
  omega
 refine zc6 ?_
 refine Evs ?_
 repeat' first|refine zc8 ?_|(refine zc5 ?_;simp only [go_sem,jq,jj,jy,jv,jk,jx])|refine zc3 ?_
 (first|refine zie rfl ?_|refine zc4 rfl ?_|(refine zc3 ?_;first|refine zie rfl ?_|refine zc4 rfl ?_));simp only [go_sem,jq,jj,jy,jv,jk,jx]
 repeat' first|refine zc8 ?_|(refine zc5 ?_;simp only [go_sem,jq,jj,jy,jv,jk,jx])|refine zc3 ?_
 refine znv rfl ?_
 refine U_t [0,2,3,4,1] rfl ?_
 simp only [go_sem,jq,jj,jy,jv,jk,jx,Int.toNat_zero,Nat.zero_mul,zmA,zmB]
 refine U_1 5 0 [1,0] rfl rfl ?_
 simp only [go_sem,jq,jj,jy,jv,jk,jx,Int.toNat_zero,Nat.zero_mul,zmA,zmB]
 refine zhF (fun _=>z13 ⟨m,f.surges.l[k0].low,f.surges.l[k0].high⟩ lo hi _) ?_
 refine Evs ?_
 refine U_1 6 0 [1,0] rfl rfl ?_
 simp only [go_sem,jq,jj,jy,jv,jk,jx,Int.toNat_zero,Nat.zero_mul,zmA,zmB]
 refine U_1 7 3 [] rfl rfl ?_
 simp only [go_sem,jq,jj,jy,jv,jk,jx,Int.toNat_zero,Nat.zero_mul,zmA,zmB]
 refine znE (s:=s1) rfl Rk (fun g hg=>.inl (hnew g (frk g hg))) ?_
 refine Evs ?_
 refine ⟨rfl,by simp only [maxLen];omega,by omega,fun ad3 cap3 h3 P3=>?_⟩
 have P3r:Pub (znC hk s1) 125 (Enc.size DSurge) (s1.l ++ [(⟨m,max f.surges.l[k0].low lo,min f.surges.l[k0].high hi⟩:DSurge)]).length ((s1.l ++ [(⟨m,max f.surges.l[k0].low lo,min f.surges.l[k0].high hi⟩:DSurge)]).flatMap Enc.enc) ad3 cap3 h3:=by
  rw [List.length_append,List.flatMap_append];exact P3
 obtain ⟨R3,f3,_⟩:=P3r.row
 obtain ⟨le3,fr3⟩:=pubF (l:=s1.l) Rk lek frk P3r
 have hv3:(Sl.mk ad3 cap3 (s1.l ++ [(⟨m,max f.surges.l[k0].low lo,min f.surges.l[k0].high hi⟩:DSurge)])).val=.slice ad3 (s1.l.length+1) cap3:=by simp only [Sl.val,List.length_append,List.length_singleton]
 try simp only [go_sem,jq,jj,jy,jv,jk,jx,hv3]
 refine U_t [8] rfl ?_
 simp only [go_sem,jq,jj,jy,jv,jk,jx,Int.toNat_zero,Nat.zero_mul,zmA,zmB]
 refine U_1 9 0 [] rfl rfl ?_
 simp only [go_sem,jq,jj,jy,jv,jk,jx,Int.toNat_zero,Nat.zero_mul,zmA,zmB]
 refine U_d ?_
 refine Wk ?_
 have le3:h1.le h3:=le3
 refine zoe (ι:=(Nat × Sl DSurge) × Hp) (fun i=>⟨[(1,true,.c (.v (.int .i64 m))),(8,true,.c (.p 1 0)),(9,true,.c (.v (.bool false))),(10,true,.c (.p 2 0)),(62,true,.c (.v f.surges.val)),(63,true,.c (.v (.int .i64 f.surges.l.length))),(64,true,.c (.v (.int .i64 i.1.1)))],[(0,.box 53 [.v (.int .i64 f.tide.mean),.v f.tide.parts.val,.v f.surges.val]),(1,.box 53 [.v (.int .i64 0),.v (.slice none 0 0),.v (.slice none 0 0)]),(2,.box 53 [.v (.int .i64 t.mean),.v t.parts.val,.v i.1.2.val])],i.2,3⟩)
  (fun i=>i.1.1≤f.surges.l.length∧RowAt 125 i.2 i.1.2∧(∀ g,i.1.2.a=some ⟨g,0,none⟩→h1 g=none)∧h1.le i.2∧i.1.2.l=(f.surges.l.filter (fun s=>decide (s.src < m)) ++ [(⟨m,max f.surges.l[k0].low lo,min f.surges.l[k0].high hi⟩:DSurge)]) ++ (f.surges.l.take i.1.1).filter (fun s=>decide (m < s.src))) (fun i=>f.surges.l.length - i.1.1) ((0,⟨ad3,cap3,s1.l ++ [(⟨m,max f.surges.l[k0].low lo,min f.surges.l[k0].high hi⟩:DSurge)]⟩),h3) ⟨Nat.zero_le _,R3,fr3,le3,by rw [hs1];simp⟩ [0,1,2] ?_ ?_
 ·simp only [go_sem,jq,jj,jy,jv,jk,jx,hv3]
  exact Gk
 rintro ⟨⟨k,s⟩,hk⟩ ⟨hkn,Rk,frk,lek,hsl⟩
 simp only at hkn Rk frk lek hsl
 have hfk:=Enc.mono (x:=f) (Hp.le_trans le1 lek) hf
 have hsn:s.l.length≤7+k:=by
  rw [hsl];rw [List.length_append,List.length_append,List.length_singleton];have h77:=List.length_filter_le (fun s:DSurge=>decide (s.src < m)) f.surges.l
  have:=List.length_filter_le (fun s:DSurge=>decide (m < s.src)) (f.surges.l.take k)
  rw [List.length_take] at this
  omega
 refine Wk ?_
 refine zc9 rfl (fun hd=>?_) (fun hd=>?_)
 case refine_1 =>
  have hlt:=zjH hd
  repeat' first|refine Wa ?_|(simp only [go_sem,jq,jj,jy,jv,jk,jx,zkM hfk.2 hlt,zlQ hfk.2 hlt,hfk.2.some hlt,hlt,jW];try rfl)|refine Wb ?_|fail
  refine zc9 rfl (fun hz=>?_) (fun hz=>?_)
  ·have hz:=of_decide_eq_true hz
   first|refine zmR [0,0,0,0,3] rfl ?_|refine zmQ [0,0,0,0,3] rfl ?_|(refine zc3 ?_;first|refine zmR [0,0,0,0,3] rfl ?_|refine zmQ [0,0,0,0,3] rfl ?_)
   refine Evs ?_
   refine znE (s:=s) rfl Rk (fun g hg=>.inl (hnew g (frk g hg))) ?_
   refine Evs ?_
   refine ⟨rfl,by simp only [maxLen];omega,by omega,fun ad4 cap4 h4 P4=>?_⟩
   have P4r:Pub (znC hk s) 125 (Enc.size DSurge) (s.l ++ [f.surges.l[k]]).length ((s.l ++ [f.surges.l[k]]).flatMap Enc.enc) ad4 cap4 h4:=by
    rw [List.length_append,List.flatMap_append];exact P4
   obtain ⟨R4,f4,_⟩:=P4r.row
   obtain ⟨le4,fr4⟩:=pubF (l:=s.l) Rk lek frk P4r
   have hv4:(Sl.mk ad4 cap4 (s.l ++ [f.surges.l[k]])).val=.slice ad4 (s.l.length+1) cap4:=by simp only [Sl.val,List.length_append,List.length_singleton]
   try simp only [go_sem,jq,jj,jy,jv,jk,jx]
   refine Wk ?_
   refine ⟨((k+1,⟨ad4,cap4,s.l ++ [f.surges.l[k]]⟩),h4),[0,1,2],⟨hlt,R4,fr4,le4,?_⟩,by simp only;omega,?_⟩
   ·show s.l ++ [f.surges.l[k]]=_
    rw [hsl,List.take_succ_eq_append_getElem hlt,List.filter_append,List.append_assoc,List.filter_cons_of_pos (by simpa using hz),List.filter_nil]
   simp only [go_sem,jq,jj,jy,jv,jk,jx,hv4,zjA hlt (by omega)]
   exact Gk
  ·have hz:=of_decide_eq_false hz
   refine Wk ?_
   refine ⟨((k+1,s),hk),[0,1,2],⟨hlt,Rk,frk,lek,?_⟩,by simp only;omega,?_⟩
   ·show s.l=_
    rw [hsl,List.take_succ_eq_append_getElem hlt,List.filter_append,List.filter_cons_of_neg (by simpa using hz),List.filter_nil,List.append_nil]
   simp only [go_sem,jq,jj,jy,jv,jk,jx,zjA hlt (by omega)]
   exact Gk
 have hge:=zjI hd
 rw [List.take_of_length_le hge] at hsl
 have hrv:s.l=revA f.surges.l m lo hi:=by
  rw [z16 hn (by rw [← sget hn,fp3];exact hmr.1) (fun i j hi hj hij=>List.pairwise_iff_getElem.1 fp5 i j hi hj hij),revB,hk0,sget hs,hsl]
 have okd:Enc.ok hk (⟨t,s⟩:DForecast):=⟨Enc.mono lek okt,Rk.ok (by decide) fun y hy=>by
  rw [hsl] at hy
  rcases List.mem_append.1 hy with hy|hy
  ·rcases List.mem_append.1 hy with hy|hy
   ·exact Enc.mono (Hp.le_trans le1 lek) (hf.2.2.2.2.1 y (List.mem_filter.1 hy).1)
   ·rw [List.mem_singleton.1 hy]
    obtain ⟨q1,q2,q3⟩:=hf.2.2.2.2.1 _ (List.getElem_mem hs)
    unfold I64 at *
    exact ⟨by unfold I64;omega,by unfold I64;show _≤max _ _∧max _ _≤_;omega,by unfold I64;show _≤min _ _∧min _ _≤_;omega⟩
  ·exact Enc.mono (Hp.le_trans le1 lek) (hf.2.2.2.2.1 y (List.mem_filter.1 hy).1)⟩
 have hcd:Con.con (⟨t,s⟩:DForecast)=({ (Con.con f:PForecast) with surges:=revA (Con.con f:PForecast).surges m lo hi }:PForecast):=by
  rw [zkO,zvX,← hrv,show Con.con t=(Con.con f:PForecast).tide from et]
  congr 1
  exact List.map_id _
 refine Wk ?_
 refine zhF (fun _=>zY5 (⟨t,s⟩:DForecast) _ okd) ?_
 refine Evs ?_
 refine zc9 rfl (fun hz=>?_) (fun hz=>?_)
 ·have hz:zuY (Con.con (⟨t,s⟩:DForecast))=false:=by simpa using hz
  have hR:zDU (Con.con f) m lo hi=none:=by
   rw [hcd] at hz
   rw [zDU,if_pos ⟨hfo,hmr⟩,if_neg (by rw [hz];exact Bool.false_ne_true)]
  refine Wk ?_
  exact ⟨⟨⟨0,⟨none,0,[]⟩⟩,⟨none,0,[]⟩⟩,by rw [hR];rfl,by rw [hR];rfl,z17,Hp.le_trans le1 lek⟩
 ·have hz:zuY (Con.con (⟨t,s⟩:DForecast))=true:=by simpa using hz
  have hR:zDU (Con.con f) m lo hi=some (Con.con (⟨t,s⟩:DForecast)):=by
   rw [hcd] at hz
   rw [zDU,if_pos ⟨hfo,hmr⟩,if_pos hz,hcd]
  refine Wk ?_
  exact ⟨⟨t,s⟩,by rw [hR];rfl,by rw [hR];rfl,okd,Hp.le_trans le1 lek⟩
def zEI (x:PHarbour) (m lo hi:Int):Option PHarbour:=match zDU x.forecast m lo hi with
 | some g=>if zvo x=true then some { x with forecast:=g } else none
 | none=>none
def zEJ:PHarbour:=⟨⟨⟨0,[]⟩,[]⟩,⟨[],[]⟩,[],⟨0,false⟩,⟨0,0,0,[]⟩⟩
theorem News.right {h h':Hp} {A B:List Nat} (H:News h h' (A ++ B)):News h h' B:=⟨fun b hb=>H.1 b (List.mem_append_right _ hb),(List.nodup_append.1 H.2).2.1⟩
theorem zEK {x:DHarbour} (h:zvo (Con.con x)=true):Lens x:=by
 rw [zvy] at h
 simp only [zuY,zuS,zvb,zvk,zvn,zvm,In,jJ,decide_eq_true_eq] at h
 rw [show (Con.con x.forecast).tide.parts=_ from zuT _,zvX,show (Con.con x.crew).moves=x.crew.moves.l from List.map_id _] at h
 refine ⟨?_,?_,?_,?_,?_,?_⟩ <;> omega
theorem zEL {h h':Hp}:Mine h h' (⟨⟨⟨0,⟨none,0,[]⟩⟩,⟨none,0,[]⟩⟩,⟨⟨none,0,[]⟩,⟨none,0,[]⟩⟩,⟨none,0,[]⟩,⟨0,false⟩,⟨0,0,0,⟨none,0,[]⟩⟩⟩:DHarbour) :=
 Mine.flat rfl ⟨(zEG (h:=h) (h':=h')).1,⟨(Mine.nil (α:=DPoint) (h:=h) (h':=h') (a:=none) (c:=0)).1,(Mine.nil (α:=DSegment) (h:=h) (h':=h') (a:=none) (c:=0)).1⟩,(Mine.nil (α:=DShip) (h:=h) (h':=h') (a:=none) (c:=0)).1,(Mine.nil (α:=Int) (h:=h) (h':=h') (a:=none) (c:=0)).1⟩
theorem zEM {h:Hp}:Enc.ok h (⟨⟨⟨0,⟨none,0,[]⟩⟩,⟨none,0,[]⟩⟩,⟨⟨none,0,[]⟩,⟨none,0,[]⟩⟩,⟨none,0,[]⟩,⟨0,false⟩,⟨0,0,0,⟨none,0,[]⟩⟩⟩:DHarbour):=by
 have hz:I64 0:=by unfold I64;omega
 exact ⟨⟨⟨hz,zmo⟩,zmo⟩,⟨zmo,zmo⟩,zmo,hz,⟨hz,hz,hz,zmo⟩⟩
set_option maxRecDepth 100000 in
theorem zEN (x:DHarbour) (m lo hi:Int) (h:Hp) (hx:Enc.ok h x) (hm:I64 m) (hlo:I64 lo) (hhi:I64 hi):Ct jV 45 [x.v,.int .i64 m,.int .i64 lo,.int .i64 hi] h fun v h'=>∃ y:DHarbour,v=.tuple #[y.v,.bool (zEI (Con.con x) m lo hi).isSome]∧Con.con y=(zEI (Con.con x) m lo hi).getD zEJ∧Enc.ok h' y∧Mine h h' y:=by
 refine zdn (fun A W=>by simp) Tryz.func45 rfl rfl (by simp) fun W0=>?_
 refine Wk ?_
 refine zkj (zEH x.forecast m lo hi _ hx.1 hm hlo hhi) rfl ?_
 rintro v h1 le1 ⟨g,rfl,eg,okg,mg⟩
 have okx1:=Enc.mono (x:=x) le1 hx
 have hF:∀ o,zDU (Con.con x.forecast) m lo hi=o→zEI (Con.con x) m lo hi=(match o with|some g=>if zvo (Con.con x)=true then some { (Con.con x:PHarbour) with forecast:=g } else none|none=>none):=fun o h=>by subst h;rfl
 obtain ⟨o,ho⟩:∃ o,zDU (Con.con x.forecast) m lo hi=o:=⟨_,rfl⟩
 replace hF:=hF o ho
 rw [ho] at eg ⊢
 cases o with
 | none =>
  simp only [go_sem,jq,jj,jy,jv,jk,jx,Option.isSome_none]
  repeat' first|refine Wa ?_|refine zhF (fun _=>zvz x _ okx1) ?_|(simp only [go_sem,jq,jj,jy,jv,jk,jx];try rfl)|refine Wb ?_|fail
  refine zc9 rfl (fun hz=>?_) (fun hz=>?_)
  case refine_2=>cases hz
  refine Wk ?_
  exact ⟨⟨⟨⟨0,⟨none,0,[]⟩⟩,⟨none,0,[]⟩⟩,⟨⟨none,0,[]⟩,⟨none,0,[]⟩⟩,⟨none,0,[]⟩,⟨0,false⟩,⟨0,0,0,⟨none,0,[]⟩⟩⟩,by rw [hF];rfl,by rw [hF];rfl,zEM,zEL⟩
 | some g' =>
  have eg:Con.con g=g':=eg
  simp only [go_sem,jq,jj,jy,jv,jk,jx,Option.isSome_some]
  repeat' first|refine Wa ?_|refine zhF (fun _=>zvz x _ okx1) ?_|(simp only [go_sem,jq,jj,jy,jv,jk,jx];try rfl)|refine Wb ?_|fail
  refine zc9 rfl (fun hz=>?_) (fun hz=>?_)
  ·have hk:¬ zvo (Con.con x)=true:=by simpa using hz
   have hF:zEI (Con.con x) m lo hi=none:=by rw [hF];exact if_neg hk
   refine Wk ?_
   exact ⟨⟨⟨⟨0,⟨none,0,[]⟩⟩,⟨none,0,[]⟩⟩,⟨⟨none,0,[]⟩,⟨none,0,[]⟩⟩,⟨none,0,[]⟩,⟨0,false⟩,⟨0,0,0,⟨none,0,[]⟩⟩⟩,by rw [hF];rfl,by rw [hF];rfl,zEM,zEL⟩
  ·have hk:zvo (Con.con x)=true:=by simpa using hz
   have hF:zEI (Con.con x) m lo hi=some { (Con.con x:PHarbour) with forecast:=g' }:=by rw [hF];exact if_pos hk
   refine Wk ?_
   refine zkj (zEB x _ okx1 (zEK hk)) rfl ?_
   rintro v h2 le2 ⟨d,rfl,ed,okd,md⟩
   refine Wk ?_
   have hfd:Foot.foot d=Foot.foot d.forecast ++ (Foot.foot d.chart ++ (Foot.foot d.fleet ++ Foot.foot d.crew)):=by
    show ((_ ++ _) ++ _) ++ _=_
    rw [List.append_assoc,List.append_assoc]
   have hn:News h1 h2 (Foot.foot d.chart ++ (Foot.foot d.fleet ++ Foot.foot d.crew)):=by
    have h9:=md.news
    rw [hfd] at h9;exact News.right h9
   have hfn:Foot.foot (⟨g,d.chart,d.fleet,d.regime,d.crew⟩:DHarbour)=Foot.foot g ++ (Foot.foot d.chart ++ (Foot.foot d.fleet ++ Foot.foot d.crew)):=by
    show ((_ ++ _) ++ _) ++ _=_
    rw [List.append_assoc,List.append_assoc]
   refine ⟨⟨g,d.chart,d.fleet,d.regime,d.crew⟩,by rw [hF];rfl,?_,⟨Enc.mono le2 okg,okd.2.1,okd.2.2.1,okd.2.2.2.1,okd.2.2.2.2⟩,News.mine ⟨(Mine.on le2 okg mg).1,md.1.2.1,md.1.2.2.1,md.1.2.2.2⟩ (by rw [hfn];exact mg.news.append le1 le2 hn)⟩
   rw [hF]
   show _={ (Con.con x:PHarbour) with forecast:=g' }
   rw [← ed,zk3,eg,zk3]
end Go.Proofs.YtbkaaakphpbmiaaGreat
