/- What functions of the given program compute, as contracts. -/
import Derived.Test.YtdeflkhkfmjckaaSGFnInOrderx17
import Derived.Test.YtdeflkhkfmjckaaXGFnInOrder13
import Derived.Test.YtdeflkhkfmjckaaXGFnInOrder15
import Derived.Test.YtdeflkhkfmjckaaXGFnInOrder16
import Derived.Test.YtdeflkhkfmjckaaXGFnInOrder6
import Derived.Test.YtdeflkhkfmjckaaXGFnInOrder9
set_option linter.unusedVariables false
set_option linter.unusedSimpArgs false
set_option maxRecDepth 4000
open Nat renaming reduceAdd → jq, reduceMul → jj, reduceBEq → jy, reduceLeDiff → jv, reduceLT → jk, reduceEqDiff → jx
open Bool renaming or_eq_false_iff → jp, or_eq_true → jQ, and_eq_true → jJ
open Int renaming toNat_natCast → jW, natCast_nonneg → jY
open Go.Proofs.Try renaming prog → jV
namespace Go.Proofs.Ytdeflkhkfmjckaa
open Go Go.SL
set_option maxHeartbeats 1000000
theorem zEE (a:Sl DSurge) (h:Hp) (ha:a.Ok h) (hz:a.l.length≤1048576):Ct jV 97 [a.val] h fun v h'=>∃ s:Sl DSurge,v=s.val∧s.l=a.l∧RowAt 134 h' s∧∀ g,s.a=some ⟨g,0,none⟩→h g=none:=by
 have hall:=ha.all (by decide)
 have hd:(h.ldL a.val 3).isSome=true:=by rw [show h.ldL a.val 3=_ from hall];rfl
 refine zdn (fun A W=>by simp) Try.func97 rfl rfl (by simp) fun W0=>?_
 repeat' first|refine Wa ?_|(simp only [go_sem,jq,jj,jy,jv,jk,jx,hall,show h.ldL a.val 3=some (a.l.flatMap Enc.enc) from hall,Option.isSome_some,Option.getD_some];try rfl)|refine Wb ?_|fail
 refine ⟨by simp only [maxLen];omega,by omega,?_⟩
 repeat' first|refine Wa ?_|(simp only [go_sem,jq,jj,jy,jv,jk,jx,hall,show h.ldL a.val 3=some (a.l.flatMap Enc.enc) from hall,Option.isSome_some,Option.getD_some];try rfl)|refine Wb ?_|fail
 refine ⟨fun u hu=>by obtain ⟨x,_,hx⟩:=List.mem_flatMap.1 hu;exact Enc.one x u hx,by simp only [maxLen];omega,by omega,?_⟩
 refine znD 1 a.l rfl rfl (Nat.zero_add _) rfl fun s h' e1 R f1 l1 k1=>?_
 refine Wk ?_
 exact ⟨s,rfl,e1,R,f1⟩
theorem zEF {e:TypeId} {h h':Hp} {s:Sl DSurge} (H:RowAt e h' s) (hf:∀ g,s.a=some ⟨g,0,none⟩→h g=none):Mine h h' s:=by
 by_cases hl:s.l=[]
 ·rcases s with ⟨a,c,l⟩
  simp only at hl;subst hl;exact Mine.nil
 ·obtain ⟨h1,h2,⟨ha,hl',hc⟩|⟨g,cur,ha,hb,hsz,htk⟩⟩:=H
  ·exact (hl hl').elim
  ·have e0:s.l.flatMap (Foot.foot (α:=DSurge))=[]:=by rw [List.flatMap_eq_nil_iff];exact fun x _=>rfl
   have e1:Foot.foot s=[g]:=by
    rw [show Foot.foot s=_ from Sl.foot_ne hl,e0]
    simp [Sl.blkOf,ha]
   refine ⟨fun _=>⟨⟨g,cur,e,ha,hb,hsz⟩,fun x _=>trivial⟩,fun b hb'=>?_,by rw [e1];simp⟩
   rw [e1,List.mem_singleton] at hb'
   subst hb';exact hf _ ha
theorem zEG {h h':Hp}:Mine h h' (⟨⟨0,⟨none,0,[]⟩⟩,⟨none,0,[]⟩⟩:DForecast):=Mine.flat rfl ⟨(Mine.nil (α:=DPart) (h:=h) (h':=h') (a:=none) (c:=0)).1,(Mine.nil (α:=DSurge) (h:=h) (h':=h') (a:=none) (c:=0)).1⟩
set_option maxRecDepth 100000 in
theorem zEH (f:DForecast) (m lo hi:Int) (h:Hp) (hf:Enc.ok h f) (hm:I64 m) (hlo:I64 lo) (hhi:I64 hi):Ct jV 71 [f.v,.int .i64 m,.int .i64 lo,.int .i64 hi] h fun v h'=>∃ g:DForecast,v=.tuple #[g.v,.bool (zDU (Con.con f) m lo hi).isSome]∧Con.con g=(zDU (Con.con f) m lo hi).getD ⟨⟨0,[]⟩,[]⟩∧Enc.ok h' g∧Mine h h' g:=by
 refine zdn (fun A W=>by simp) Try.func71 rfl rfl (by simp) fun W0=>?_
 repeat' first|refine Wa ?_|refine zhF (fun _=>zu0 f _ hf) ?_|refine zhF (fun _=>zun _ _) ?_|(simp only [go_sem,jq,jj,jy,jv,jk,jx];try rfl)|refine Wb ?_|fail
 refine zc9 rfl (fun hc=>?_) (fun hc=>?_)
 ·have hn:¬ (zuY (Con.con f)=true∧0≤m∧m≤2880):=fun ⟨h1,h2,h3⟩=>by
   rw [h1] at hc;simp [h2,h3] at hc
  have hR:zDU (Con.con f) m lo hi=none:=by rw [zDU,if_neg hn]
  refine Wk ?_
  exact ⟨⟨⟨0,⟨none,0,[]⟩⟩,⟨none,0,[]⟩⟩,by rw [hR];rfl,by rw [hR];rfl,⟨⟨by show I64 0;unfold I64;omega,zmo⟩,zmo⟩,zEG⟩
 have hfo:zuY (Con.con f)=true:=by
  cases h9:zuY (Con.con f) with
  | true=>rfl
  | false=>rw [h9] at hc;simp at hc
 have hmr:0≤m∧m≤2880:=by
  rw [hfo] at hc;simp at hc;omega
 have hn:0 < f.surges.l.length:=by have:=zvW hfo;rwa [zvX] at this
 obtain ⟨k,hk⟩:∃ k,zvR f.surges.l m=k:=⟨_,rfl⟩
 have hs:k < f.surges.l.length:=by rw [← hk];exact zvT hn
 have hsi:(k:Int) < f.surges.l.length:=by omega
 have hmx:=hf.2.max
 have hb:f.tide.parts.l.length≤4∧f.surges.l.length≤6:=by
  have h9:=hfo
  simp only [zuY,zuS,In,jJ,decide_eq_true_eq] at h9
  rw [zvX,show (Con.con f).tide.parts=f.tide.parts.l from zuT _] at h9
  omega
 have hw1:IntKind.i64.wrap ((k:Int)+1)=((k+1:Nat):Int):=by rw [zjz (by omega)];omega
 have hcap:k+1≤f.surges.cap:=by have:=hf.2.1;omega
 have hcapi:((k+1:Nat):Int)≤f.surges.cap:=by omega
 have hto:k+1≤f.surges.l.length:=hs
 repeat' first|refine Wa ?_|refine zhF (fun _=>zv2 f m _ hf) ?_|(simp only [go_sem,jq,jj,jy,jv,jk,jx];try rfl)|refine Wb ?_|fail
 repeat' first|refine Wa ?_|(simp only [go_sem,jq,jj,jy,jv,jk,jx,hk,Int.toNat_zero,Nat.zero_mul,zmA,zmB,zkM hf.2 hs,hf.2.some hs,hs,hsi,hw1,hto,hcap,hcapi,jW,jY,ite_self,Nat.sub_zero,implies_true,true_and,and_true,and_self];try rfl)|refine Wb ?_|fail
 refine zoc (ι:=(DTide × Sl DSurge) × (Hp × Hp)) (fun i=>⟨[(1,true,.c (.v (.int .i64 m))),(2,true,.c (.v (.int .i64 lo))),(3,true,.c (.v (.int .i64 hi))),(4,true,.c (.p 0 0)),(8,true,.c (.p 1 0)),(10,true,.c (.v (.int .i64 k))),(11,true,.c (.p 2 0)),(12,true,.c (.p 3 0))],[(0,.box 28 [.v (.int .i64 f.tide.mean),.v f.tide.parts.val,.v f.surges.val]),(1,.box 28 [.v (.int .i64 0),.v (.slice none 0 0),.v (.slice none 0 0)]),(2,.box 134 [.v (.int .i64 f.surges.l[k].src),.v (.int .i64 f.surges.l[k].low),.v (.int .i64 f.surges.l[k].high)]),(3,.box 28 [.v (.int .i64 i.1.1.mean),.v i.1.1.parts.val,.v i.1.2.val])],i.2.2,4⟩)
  (fun i=>h.le i.2.1∧i.2.1.le i.2.2∧Con.con i.1.1=Con.con f.tide∧Enc.ok i.2.1 i.1.1∧Mine h i.2.1 i.1.1∧i.1.2.l=(f.surges.to (k+1)).l∧RowAt 134 i.2.2 i.1.2∧∀ g,i.1.2.a=some ⟨g,0,none⟩→i.2.1 g=none) ?_ ?_
 ·refine znv rfl ?_
  refine U_t [0,3,5,1,4,6] rfl ?_
  simp only [go_sem,jq,jj,jy,jv,jk,jx,hk,Int.toNat_zero,Nat.zero_mul,zmA,zmB,zkM hf.2 hs,hf.2.some hs,hs,hsi,hw1,hto,hcap,hcapi,jW,jY,ite_self,Nat.sub_zero,implies_true,true_and,and_true,and_self]
  refine U_m 2 [7,10] ⟨?_,?_,?_,trivial⟩
  ·refine U_b 2 0 [6,4,3] rfl rfl ?_
   simp only [go_sem,jq,jj,jy,jv,jk,jx,hk,Int.toNat_zero,Nat.zero_mul,zmA,zmB,zkM hf.2 hs,hf.2.some hs,hs,hsi,hw1,hto,hcap,hcapi,jW,jY,ite_self,Nat.sub_zero,implies_true,true_and,and_true,and_self]
   refine zkj (zEy f.tide _ hf.1 (by have:=hb.1;omega)) rfl ?_
   rintro v h1 le1 ⟨t,rfl,et,okt,mt⟩
   simp only [go_sem,jq,jj,jy,jv,jk,jx,hk,Int.toNat_zero,Nat.zero_mul,zmA,zmB,zkM hf.2 hs,hf.2.some hs,hs,hsi,hw1,hto,hcap,hcapi,jW,jY,ite_self,Nat.sub_zero,implies_true,true_and,and_true,and_self]
   refine U_m 7 [10] ⟨?_,?_,trivial⟩
   ·refine U_b 7 0 [] rfl rfl ?_
    simp only [go_sem,jq,jj,jy,jv,jk,jx,hk,Int.toNat_zero,Nat.zero_mul,zmA,zmB,zkM hf.2 hs,hf.2.some hs,hs,hsi,hw1,hto,hcap,hcapi,jW,jY,ite_self,Nat.sub_zero,implies_true,true_and,and_true,and_self]
    try rw [zmC (show k+1≤f.surges.l.length by omega)]
    try simp only [go_sem,jq,jj,jy,jv,jk,jx,hk,Int.toNat_zero,Nat.zero_mul,zmA,zmB,zkM hf.2 hs,hf.2.some hs,hs,hsi,hw1,hto,hcap,hcapi,jW,jY,ite_self,Nat.sub_zero,implies_true,true_and,and_true,and_self]
    refine U_m 8 [10] ⟨?_,?_,trivial⟩
    ·refine U_b 8 0 [] rfl rfl ?_
     simp only [go_sem,jq,jj,jy,jv,jk,jx,hk,Int.toNat_zero,Nat.zero_mul,zmA,zmB,zkM hf.2 hs,hf.2.some hs,hs,hsi,hw1,hto,hcap,hcapi,jW,jY,ite_self,Nat.sub_zero,implies_true,true_and,and_true,and_self]
     refine zkj (zEE (f.surges.to (k+1)) _ ((Sl.to_ok hf.2 (k+1)).mono le1) (by rw [Sl.to_len hs];have:=hb.2;omega)) rfl ?_
     rintro v h2 le2 ⟨s1,rfl,e1,R1,f1⟩
     refine Evs ?_
     refine U_m 9 [10] ⟨?_,?_,trivial⟩
     ·refine U_b 9 0 [] rfl rfl ?_
      simp only [go_sem,jq,jj,jy,jv,jk,jx,hk,Int.toNat_zero,Nat.zero_mul,zmA,zmB,zkM hf.2 hs,hf.2.some hs,hs,hsi,hw1,hto,hcap,hcapi,jW,jY,ite_self,Nat.sub_zero,implies_true,true_and,and_true,and_self]
      refine U_1 10 0 [] rfl rfl ?_
      simp only [go_sem,jq,jj,jy,jv,jk,jx,hk,Int.toNat_zero,Nat.zero_mul,zmA,zmB,zkM hf.2 hs,hf.2.some hs,hs,hsi,hw1,hto,hcap,hcapi,jW,jY,ite_self,Nat.sub_zero,implies_true,true_and,and_true,and_self]
      refine U_1 11 0 [] rfl rfl ?_
      simp only [go_sem,jq,jj,jy,jv,jk,jx,hk,Int.toNat_zero,Nat.zero_mul,zmA,zmB,zkM hf.2 hs,hf.2.some hs,hs,hsi,hw1,hto,hcap,hcapi,jW,jY,ite_self,Nat.sub_zero,implies_true,true_and,and_true,and_self]
      refine U_d ?_
      exact ⟨((t,s1),(h1,h2)),[0,1,2,3],⟨le1,le2,et,okt,mt,e1,R1,f1⟩,by repeat' first|exact rfl|exact trivial|assumption|decide|refine And.intro ?_ ?_⟩
     ·refine U_b 10 0 [] rfl rfl ?_
      simp only [go_sem,jq,jj,jy,jv,jk,jx,hk,Int.toNat_zero,Nat.zero_mul,zmA,zmB,zkM hf.2 hs,hf.2.some hs,hs,hsi,hw1,hto,hcap,hcapi,jW,jY,ite_self,Nat.sub_zero,implies_true,true_and,and_true,and_self]
      refine U_1 9 0 [] rfl rfl ?_
      simp only [go_sem,jq,jj,jy,jv,jk,jx,hk,Int.toNat_zero,Nat.zero_mul,zmA,zmB,zkM hf.2 hs,hf.2.some hs,hs,hsi,hw1,hto,hcap,hcapi,jW,jY,ite_self,Nat.sub_zero,implies_true,true_and,and_true,and_self]
      refine U_1 11 0 [] rfl rfl ?_
      simp only [go_sem,jq,jj,jy,jv,jk,jx,hk,Int.toNat_zero,Nat.zero_mul,zmA,zmB,zkM hf.2 hs,hf.2.some hs,hs,hsi,hw1,hto,hcap,hcapi,jW,jY,ite_self,Nat.sub_zero,implies_true,true_and,and_true,and_self]
      refine U_d ?_
      exact ⟨((t,s1),(h1,h2)),[0,1,2,3],⟨le1,le2,et,okt,mt,e1,R1,f1⟩,by repeat' first|exact rfl|exact trivial|assumption|decide|refine And.intro ?_ ?_⟩
    ·refine U_b 10 0 [] rfl rfl ?_
     simp only [go_sem,jq,jj,jy,jv,jk,jx,hk,Int.toNat_zero,Nat.zero_mul,zmA,zmB,zkM hf.2 hs,hf.2.some hs,hs,hsi,hw1,hto,hcap,hcapi,jW,jY,ite_self,Nat.sub_zero,implies_true,true_and,and_true,and_self]
     refine U_1 8 0 [] rfl rfl ?_
     simp only [go_sem,jq,jj,jy,jv,jk,jx,hk,Int.toNat_zero,Nat.zero_mul,zmA,zmB,zkM hf.2 hs,hf.2.some hs,hs,hsi,hw1,hto,hcap,hcapi,jW,jY,ite_self,Nat.sub_zero,implies_true,true_and,and_true,and_self]
     refine zkj (zEE (f.surges.to (k+1)) _ ((Sl.to_ok hf.2 (k+1)).mono le1) (by rw [Sl.to_len hs];have:=hb.2;omega)) rfl ?_
     rintro v h2 le2 ⟨s1,rfl,e1,R1,f1⟩
     refine Evs ?_
     refine U_1 9 0 [] rfl rfl ?_
     simp only [go_sem,jq,jj,jy,jv,jk,jx,hk,Int.toNat_zero,Nat.zero_mul,zmA,zmB,zkM hf.2 hs,hf.2.some hs,hs,hsi,hw1,hto,hcap,hcapi,jW,jY,ite_self,Nat.sub_zero,implies_true,true_and,and_true,and_self]
     refine U_1 11 0 [] rfl rfl ?_
     simp only [go_sem,jq,jj,jy,jv,jk,jx,hk,Int.toNat_zero,Nat.zero_mul,zmA,zmB,zkM hf.2 hs,hf.2.some hs,hs,hsi,hw1,hto,hcap,hcapi,jW,jY,ite_self,Nat.sub_zero,implies_true,true_and,and_true,and_self]
     refine U_d ?_
     exact ⟨((t,s1),(h1,h2)),[0,1,2,3],⟨le1,le2,et,okt,mt,e1,R1,f1⟩,by repeat' first|exact rfl|exact trivial|assumption|decide|refine And.intro ?_ ?_⟩
   ·refine U_b 10 0 [6,4,3] rfl rfl ?_
    simp only [go_sem,jq,jj,jy,jv,jk,jx,hk,Int.toNat_zero,Nat.zero_mul,zmA,zmB,zkM hf.2 hs,hf.2.some hs,hs,hsi,hw1,hto,hcap,hcapi,jW,jY,ite_self,Nat.sub_zero,implies_true,true_and,and_true,and_self]
    refine U_1 7 0 [] rfl rfl ?_
    simp only [go_sem,jq,jj,jy,jv,jk,jx,hk,Int.toNat_zero,Nat.zero_mul,zmA,zmB,zkM hf.2 hs,hf.2.some hs,hs,hsi,hw1,hto,hcap,hcapi,jW,jY,ite_self,Nat.sub_zero,implies_true,true_and,and_true,and_self]
    try rw [zmC (show k+1≤f.surges.l.length by omega)]
    try simp only [go_sem,jq,jj,jy,jv,jk,jx,hk,Int.toNat_zero,Nat.zero_mul,zmA,zmB,zkM hf.2 hs,hf.2.some hs,hs,hsi,hw1,hto,hcap,hcapi,jW,jY,ite_self,Nat.sub_zero,implies_true,true_and,and_true,and_self]
    refine U_1 8 0 [] rfl rfl ?_
    simp only [go_sem,jq,jj,jy,jv,jk,jx,hk,Int.toNat_zero,Nat.zero_mul,zmA,zmB,zkM hf.2 hs,hf.2.some hs,hs,hsi,hw1,hto,hcap,hcapi,jW,jY,ite_self,Nat.sub_zero,implies_true,true_and,and_true,and_self]
    refine zkj (zEE (f.surges.to (k+1)) _ ((Sl.to_ok hf.2 (k+1)).mono le1) (by rw [Sl.to_len hs];have:=hb.2;omega)) rfl ?_
    rintro v h2 le2 ⟨s1,rfl,e1,R1,f1⟩
    refine Evs ?_
    refine U_1 9 0 [] rfl rfl ?_
    simp only [go_sem,jq,jj,jy,jv,jk,jx,hk,Int.toNat_zero,Nat.zero_mul,zmA,zmB,zkM hf.2 hs,hf.2.some hs,hs,hsi,hw1,hto,hcap,hcapi,jW,jY,ite_self,Nat.sub_zero,implies_true,true_and,and_true,and_self]
    refine U_1 11 0 [] rfl rfl ?_
    simp only [go_sem,jq,jj,jy,jv,jk,jx,hk,Int.toNat_zero,Nat.zero_mul,zmA,zmB,zkM hf.2 hs,hf.2.some hs,hs,hsi,hw1,hto,hcap,hcapi,jW,jY,ite_self,Nat.sub_zero,implies_true,true_and,and_true,and_self]
    refine U_d ?_
    exact ⟨((t,s1),(h1,h2)),[0,1,2,3],⟨le1,le2,et,okt,mt,e1,R1,f1⟩,by repeat' first|exact rfl|exact trivial|assumption|decide|refine And.intro ?_ ?_⟩
  ·refine U_b 7 0 [1,0] rfl rfl ?_
   simp only [go_sem,jq,jj,jy,jv,jk,jx,hk,Int.toNat_zero,Nat.zero_mul,zmA,zmB,zkM hf.2 hs,hf.2.some hs,hs,hsi,hw1,hto,hcap,hcapi,jW,jY,ite_self,Nat.sub_zero,implies_true,true_and,and_true,and_self]
   try rw [zmC (show k+1≤f.surges.l.length by omega)]
   try simp only [go_sem,jq,jj,jy,jv,jk,jx,hk,Int.toNat_zero,Nat.zero_mul,zmA,zmB,zkM hf.2 hs,hf.2.some hs,hs,hsi,hw1,hto,hcap,hcapi,jW,jY,ite_self,Nat.sub_zero,implies_true,true_and,and_true,and_self]
   refine U_m 2 [10] ⟨?_,?_,trivial⟩
   ·refine U_b 2 0 [] rfl rfl ?_
    simp only [go_sem,jq,jj,jy,jv,jk,jx,hk,Int.toNat_zero,Nat.zero_mul,zmA,zmB,zkM hf.2 hs,hf.2.some hs,hs,hsi,hw1,hto,hcap,hcapi,jW,jY,ite_self,Nat.sub_zero,implies_true,true_and,and_true,and_self]
    refine zkj (zEy f.tide _ hf.1 (by have:=hb.1;omega)) rfl ?_
    rintro v h1 le1 ⟨t,rfl,et,okt,mt⟩
    simp only [go_sem,jq,jj,jy,jv,jk,jx,hk,Int.toNat_zero,Nat.zero_mul,zmA,zmB,zkM hf.2 hs,hf.2.some hs,hs,hsi,hw1,hto,hcap,hcapi,jW,jY,ite_self,Nat.sub_zero,implies_true,true_and,and_true,and_self]
    refine U_m 8 [10] ⟨?_,?_,trivial⟩
    ·refine U_b 8 0 [] rfl rfl ?_
     simp only [go_sem,jq,jj,jy,jv,jk,jx,hk,Int.toNat_zero,Nat.zero_mul,zmA,zmB,zkM hf.2 hs,hf.2.some hs,hs,hsi,hw1,hto,hcap,hcapi,jW,jY,ite_self,Nat.sub_zero,implies_true,true_and,and_true,and_self]
     refine zkj (zEE (f.surges.to (k+1)) _ ((Sl.to_ok hf.2 (k+1)).mono le1) (by rw [Sl.to_len hs];have:=hb.2;omega)) rfl ?_
     rintro v h2 le2 ⟨s1,rfl,e1,R1,f1⟩
     refine Evs ?_
     refine U_m 9 [10] ⟨?_,?_,trivial⟩
     ·refine U_b 9 0 [] rfl rfl ?_
      simp only [go_sem,jq,jj,jy,jv,jk,jx,hk,Int.toNat_zero,Nat.zero_mul,zmA,zmB,zkM hf.2 hs,hf.2.some hs,hs,hsi,hw1,hto,hcap,hcapi,jW,jY,ite_self,Nat.sub_zero,implies_true,true_and,and_true,and_self]
      refine U_1 10 0 [] rfl rfl ?_
      simp only [go_sem,jq,jj,jy,jv,jk,jx,hk,Int.toNat_zero,Nat.zero_mul,zmA,zmB,zkM hf.2 hs,hf.2.some hs,hs,hsi,hw1,hto,hcap,hcapi,jW,jY,ite_self,Nat.sub_zero,implies_true,true_and,and_true,and_self]
      refine U_1 11 0 [] rfl rfl ?_
      simp only [go_sem,jq,jj,jy,jv,jk,jx,hk,Int.toNat_zero,Nat.zero_mul,zmA,zmB,zkM hf.2 hs,hf.2.some hs,hs,hsi,hw1,hto,hcap,hcapi,jW,jY,ite_self,Nat.sub_zero,implies_true,true_and,and_true,and_self]
      refine U_d ?_
      exact ⟨((t,s1),(h1,h2)),[0,1,2,3],⟨le1,le2,et,okt,mt,e1,R1,f1⟩,by repeat' first|exact rfl|exact trivial|assumption|decide|refine And.intro ?_ ?_⟩
     ·refine U_b 10 0 [] rfl rfl ?_
      simp only [go_sem,jq,jj,jy,jv,jk,jx,hk,Int.toNat_zero,Nat.zero_mul,zmA,zmB,zkM hf.2 hs,hf.2.some hs,hs,hsi,hw1,hto,hcap,hcapi,jW,jY,ite_self,Nat.sub_zero,implies_true,true_and,and_true,and_self]
      refine U_1 9 0 [] rfl rfl ?_
      simp only [go_sem,jq,jj,jy,jv,jk,jx,hk,Int.toNat_zero,Nat.zero_mul,zmA,zmB,zkM hf.2 hs,hf.2.some hs,hs,hsi,hw1,hto,hcap,hcapi,jW,jY,ite_self,Nat.sub_zero,implies_true,true_and,and_true,and_self]
      refine U_1 11 0 [] rfl rfl ?_
      simp only [go_sem,jq,jj,jy,jv,jk,jx,hk,Int.toNat_zero,Nat.zero_mul,zmA,zmB,zkM hf.2 hs,hf.2.some hs,hs,hsi,hw1,hto,hcap,hcapi,jW,jY,ite_self,Nat.sub_zero,implies_true,true_and,and_true,and_self]
      refine U_d ?_
      exact ⟨((t,s1),(h1,h2)),[0,1,2,3],⟨le1,le2,et,okt,mt,e1,R1,f1⟩,by repeat' first|exact rfl|exact trivial|assumption|decide|refine And.intro ?_ ?_⟩
    ·refine U_b 10 0 [] rfl rfl ?_
     simp only [go_sem,jq,jj,jy,jv,jk,jx,hk,Int.toNat_zero,Nat.zero_mul,zmA,zmB,zkM hf.2 hs,hf.2.some hs,hs,hsi,hw1,hto,hcap,hcapi,jW,jY,ite_self,Nat.sub_zero,implies_true,true_and,and_true,and_self]
     refine U_1 8 0 [] rfl rfl ?_
     simp only [go_sem,jq,jj,jy,jv,jk,jx,hk,Int.toNat_zero,Nat.zero_mul,zmA,zmB,zkM hf.2 hs,hf.2.some hs,hs,hsi,hw1,hto,hcap,hcapi,jW,jY,ite_self,Nat.sub_zero,implies_true,true_and,and_true,and_self]
     refine zkj (zEE (f.surges.to (k+1)) _ ((Sl.to_ok hf.2 (k+1)).mono le1) (by rw [Sl.to_len hs];have:=hb.2;omega)) rfl ?_
     rintro v h2 le2 ⟨s1,rfl,e1,R1,f1⟩
     refine Evs ?_
     refine U_1 9 0 [] rfl rfl ?_
     simp only [go_sem,jq,jj,jy,jv,jk,jx,hk,Int.toNat_zero,Nat.zero_mul,zmA,zmB,zkM hf.2 hs,hf.2.some hs,hs,hsi,hw1,hto,hcap,hcapi,jW,jY,ite_self,Nat.sub_zero,implies_true,true_and,and_true,and_self]
     refine U_1 11 0 [] rfl rfl ?_
     simp only [go_sem,jq,jj,jy,jv,jk,jx,hk,Int.toNat_zero,Nat.zero_mul,zmA,zmB,zkM hf.2 hs,hf.2.some hs,hs,hsi,hw1,hto,hcap,hcapi,jW,jY,ite_self,Nat.sub_zero,implies_true,true_and,and_true,and_self]
     refine U_d ?_
     exact ⟨((t,s1),(h1,h2)),[0,1,2,3],⟨le1,le2,et,okt,mt,e1,R1,f1⟩,by repeat' first|exact rfl|exact trivial|assumption|decide|refine And.intro ?_ ?_⟩
   ·refine U_b 10 0 [1,0] rfl rfl ?_
    simp only [go_sem,jq,jj,jy,jv,jk,jx,hk,Int.toNat_zero,Nat.zero_mul,zmA,zmB,zkM hf.2 hs,hf.2.some hs,hs,hsi,hw1,hto,hcap,hcapi,jW,jY,ite_self,Nat.sub_zero,implies_true,true_and,and_true,and_self]
    refine U_1 2 0 [] rfl rfl ?_
    simp only [go_sem,jq,jj,jy,jv,jk,jx,hk,Int.toNat_zero,Nat.zero_mul,zmA,zmB,zkM hf.2 hs,hf.2.some hs,hs,hsi,hw1,hto,hcap,hcapi,jW,jY,ite_self,Nat.sub_zero,implies_true,true_and,and_true,and_self]
    refine zkj (zEy f.tide _ hf.1 (by have:=hb.1;omega)) rfl ?_
    rintro v h1 le1 ⟨t,rfl,et,okt,mt⟩
    simp only [go_sem,jq,jj,jy,jv,jk,jx,hk,Int.toNat_zero,Nat.zero_mul,zmA,zmB,zkM hf.2 hs,hf.2.some hs,hs,hsi,hw1,hto,hcap,hcapi,jW,jY,ite_self,Nat.sub_zero,implies_true,true_and,and_true,and_self]
    refine U_1 8 0 [] rfl rfl ?_
    simp only [go_sem,jq,jj,jy,jv,jk,jx,hk,Int.toNat_zero,Nat.zero_mul,zmA,zmB,zkM hf.2 hs,hf.2.some hs,hs,hsi,hw1,hto,hcap,hcapi,jW,jY,ite_self,Nat.sub_zero,implies_true,true_and,and_true,and_self]
    refine zkj (zEE (f.surges.to (k+1)) _ ((Sl.to_ok hf.2 (k+1)).mono le1) (by rw [Sl.to_len hs];have:=hb.2;omega)) rfl ?_
    rintro v h2 le2 ⟨s1,rfl,e1,R1,f1⟩
    refine Evs ?_
    refine U_1 9 0 [] rfl rfl ?_
    simp only [go_sem,jq,jj,jy,jv,jk,jx,hk,Int.toNat_zero,Nat.zero_mul,zmA,zmB,zkM hf.2 hs,hf.2.some hs,hs,hsi,hw1,hto,hcap,hcapi,jW,jY,ite_self,Nat.sub_zero,implies_true,true_and,and_true,and_self]
    refine U_1 11 0 [] rfl rfl ?_
    simp only [go_sem,jq,jj,jy,jv,jk,jx,hk,Int.toNat_zero,Nat.zero_mul,zmA,zmB,zkM hf.2 hs,hf.2.some hs,hs,hsi,hw1,hto,hcap,hcapi,jW,jY,ite_self,Nat.sub_zero,implies_true,true_and,and_true,and_self]
    refine U_d ?_
    exact ⟨((t,s1),(h1,h2)),[0,1,2,3],⟨le1,le2,et,okt,mt,e1,R1,f1⟩,by repeat' first|exact rfl|exact trivial|assumption|decide|refine And.intro ?_ ?_⟩
  ·refine U_b 10 0 [6,4,1,3,0] rfl rfl ?_
   simp only [go_sem,jq,jj,jy,jv,jk,jx,hk,Int.toNat_zero,Nat.zero_mul,zmA,zmB,zkM hf.2 hs,hf.2.some hs,hs,hsi,hw1,hto,hcap,hcapi,jW,jY,ite_self,Nat.sub_zero,implies_true,true_and,and_true,and_self]
   refine U_m 2 [7] ⟨?_,?_,trivial⟩
   ·refine U_b 2 0 [6,4,3] rfl rfl ?_
    simp only [go_sem,jq,jj,jy,jv,jk,jx,hk,Int.toNat_zero,Nat.zero_mul,zmA,zmB,zkM hf.2 hs,hf.2.some hs,hs,hsi,hw1,hto,hcap,hcapi,jW,jY,ite_self,Nat.sub_zero,implies_true,true_and,and_true,and_self]
    refine zkj (zEy f.tide _ hf.1 (by have:=hb.1;omega)) rfl ?_
    rintro v h1 le1 ⟨t,rfl,et,okt,mt⟩
    simp only [go_sem,jq,jj,jy,jv,jk,jx,hk,Int.toNat_zero,Nat.zero_mul,zmA,zmB,zkM hf.2 hs,hf.2.some hs,hs,hsi,hw1,hto,hcap,hcapi,jW,jY,ite_self,Nat.sub_zero,implies_true,true_and,and_true,and_self]
    refine U_1 7 0 [] rfl rfl ?_
    simp only [go_sem,jq,jj,jy,jv,jk,jx,hk,Int.toNat_zero,Nat.zero_mul,zmA,zmB,zkM hf.2 hs,hf.2.some hs,hs,hsi,hw1,hto,hcap,hcapi,jW,jY,ite_self,Nat.sub_zero,implies_true,true_and,and_true,and_self]
    try rw [zmC (show k+1≤f.surges.l.length by omega)]
    try simp only [go_sem,jq,jj,jy,jv,jk,jx,hk,Int.toNat_zero,Nat.zero_mul,zmA,zmB,zkM hf.2 hs,hf.2.some hs,hs,hsi,hw1,hto,hcap,hcapi,jW,jY,ite_self,Nat.sub_zero,implies_true,true_and,and_true,and_self]
    refine U_1 8 0 [] rfl rfl ?_
    simp only [go_sem,jq,jj,jy,jv,jk,jx,hk,Int.toNat_zero,Nat.zero_mul,zmA,zmB,zkM hf.2 hs,hf.2.some hs,hs,hsi,hw1,hto,hcap,hcapi,jW,jY,ite_self,Nat.sub_zero,implies_true,true_and,and_true,and_self]
    refine zkj (zEE (f.surges.to (k+1)) _ ((Sl.to_ok hf.2 (k+1)).mono le1) (by rw [Sl.to_len hs];have:=hb.2;omega)) rfl ?_
    rintro v h2 le2 ⟨s1,rfl,e1,R1,f1⟩
    refine Evs ?_
    refine U_1 9 0 [] rfl rfl ?_
    simp only [go_sem,jq,jj,jy,jv,jk,jx,hk,Int.toNat_zero,Nat.zero_mul,zmA,zmB,zkM hf.2 hs,hf.2.some hs,hs,hsi,hw1,hto,hcap,hcapi,jW,jY,ite_self,Nat.sub_zero,implies_true,true_and,and_true,and_self]
    refine U_1 11 0 [] rfl rfl ?_
    simp only [go_sem,jq,jj,jy,jv,jk,jx,hk,Int.toNat_zero,Nat.zero_mul,zmA,zmB,zkM hf.2 hs,hf.2.some hs,hs,hsi,hw1,hto,hcap,hcapi,jW,jY,ite_self,Nat.sub_zero,implies_true,true_and,and_true,and_self]
    refine U_d ?_
    exact ⟨((t,s1),(h1,h2)),[0,1,2,3],⟨le1,le2,et,okt,mt,e1,R1,f1⟩,by repeat' first|exact rfl|exact trivial|assumption|decide|refine And.intro ?_ ?_⟩
   ·refine U_b 7 0 [1,0] rfl rfl ?_
    simp only [go_sem,jq,jj,jy,jv,jk,jx,hk,Int.toNat_zero,Nat.zero_mul,zmA,zmB,zkM hf.2 hs,hf.2.some hs,hs,hsi,hw1,hto,hcap,hcapi,jW,jY,ite_self,Nat.sub_zero,implies_true,true_and,and_true,and_self]
    try rw [zmC (show k+1≤f.surges.l.length by omega)]
    try simp only [go_sem,jq,jj,jy,jv,jk,jx,hk,Int.toNat_zero,Nat.zero_mul,zmA,zmB,zkM hf.2 hs,hf.2.some hs,hs,hsi,hw1,hto,hcap,hcapi,jW,jY,ite_self,Nat.sub_zero,implies_true,true_and,and_true,and_self]
    refine U_1 2 0 [] rfl rfl ?_
    simp only [go_sem,jq,jj,jy,jv,jk,jx,hk,Int.toNat_zero,Nat.zero_mul,zmA,zmB,zkM hf.2 hs,hf.2.some hs,hs,hsi,hw1,hto,hcap,hcapi,jW,jY,ite_self,Nat.sub_zero,implies_true,true_and,and_true,and_self]
    refine zkj (zEy f.tide _ hf.1 (by have:=hb.1;omega)) rfl ?_
    rintro v h1 le1 ⟨t,rfl,et,okt,mt⟩
    simp only [go_sem,jq,jj,jy,jv,jk,jx,hk,Int.toNat_zero,Nat.zero_mul,zmA,zmB,zkM hf.2 hs,hf.2.some hs,hs,hsi,hw1,hto,hcap,hcapi,jW,jY,ite_self,Nat.sub_zero,implies_true,true_and,and_true,and_self]
    refine U_1 8 0 [] rfl rfl ?_
    simp only [go_sem,jq,jj,jy,jv,jk,jx,hk,Int.toNat_zero,Nat.zero_mul,zmA,zmB,zkM hf.2 hs,hf.2.some hs,hs,hsi,hw1,hto,hcap,hcapi,jW,jY,ite_self,Nat.sub_zero,implies_true,true_and,and_true,and_self]
    refine zkj (zEE (f.surges.to (k+1)) _ ((Sl.to_ok hf.2 (k+1)).mono le1) (by rw [Sl.to_len hs];have:=hb.2;omega)) rfl ?_
    rintro v h2 le2 ⟨s1,rfl,e1,R1,f1⟩
    refine Evs ?_
    refine U_1 9 0 [] rfl rfl ?_
    simp only [go_sem,jq,jj,jy,jv,jk,jx,hk,Int.toNat_zero,Nat.zero_mul,zmA,zmB,zkM hf.2 hs,hf.2.some hs,hs,hsi,hw1,hto,hcap,hcapi,jW,jY,ite_self,Nat.sub_zero,implies_true,true_and,and_true,and_self]
    refine U_1 11 0 [] rfl rfl ?_
    simp only [go_sem,jq,jj,jy,jv,jk,jx,hk,Int.toNat_zero,Nat.zero_mul,zmA,zmB,zkM hf.2 hs,hf.2.some hs,hs,hsi,hw1,hto,hcap,hcapi,jW,jY,ite_self,Nat.sub_zero,implies_true,true_and,and_true,and_self]
    refine U_d ?_
    exact ⟨((t,s1),(h1,h2)),[0,1,2,3],⟨le1,le2,et,okt,mt,e1,R1,f1⟩,by repeat' first|exact rfl|exact trivial|assumption|decide|refine And.intro ?_ ?_⟩
 rintro ⟨⟨t,s1⟩,⟨h1,h2⟩⟩ ⟨le1,le2,et,okt,mt,e1,R1,f1⟩
 simp only at le1 le2 et okt mt e1 R1 f1
 have le2:h1.le h2:=le2
 have hfr:∀ g,s1.a=some ⟨g,0,none⟩→h g=none:=fun g hg=>by
  cases hh:h g with
  | none=>rfl
  | some o=>have:=le1 g o hh;rw [f1 g hg] at this;cases this
 obtain ⟨c,hcd⟩:∃ c:DSurge,c=⟨m,max f.surges.l[k].low lo,min f.surges.l[k].high hi⟩:=⟨_,rfl⟩
 have hs1:s1.l.length=k+1:=by rw [e1,Sl.to_len (by omega)]
 have hel1:∀ y ∈ s1.l,Enc.ok h1 y:=fun y hy=>by
  rw [e1] at hy
  exact Enc.mono le1 (hf.2.2.2.2.1 y (List.mem_of_mem_take hy))
 refine zc3 ?_
 refine zoc (ι:=Sl DSurge × Hp) (fun i=>⟨[(1,true,.c (.v (.int .i64 m))),(2,true,.c (.v (.int .i64 lo))),(3,true,.c (.v (.int .i64 hi))),(4,true,.c (.p 0 0)),(8,true,.c (.p 1 0)),(10,true,.c (.v (.int .i64 k))),(11,true,.c (.p 2 0)),(12,true,.c (.p 3 0))],[(0,.box 28 [.v (.int .i64 f.tide.mean),.v f.tide.parts.val,.v f.surges.val]),(1,.box 28 [.v (.int .i64 0),.v (.slice none 0 0),.v (.slice none 0 0)]),(2,.box 134 [.v (.int .i64 f.surges.l[k].src),.v (.int .i64 f.surges.l[k].low),.v (.int .i64 f.surges.l[k].high)]),(3,.box 28 [.v (.int .i64 t.mean),.v t.parts.val,.v i.1.val])],i.2,4⟩)
  (fun i=>RowAt 134 i.2 i.1∧(∀ g,i.1.a=some ⟨g,0,none⟩→h1 g=none)∧h1.le i.2∧(0 < i.1.l.length∧i.1.l.length≤k+2)∧(∀ y ∈ i.1.l,Enc.ok h1 y)∧i.1.l.set (i.1.l.length - 1) c=(if f.surges.l[k].src=m then f.surges.l.take k else f.surges.l.take (k+1)) ++ [c]) ?_ ?_
 ·refine Wk ?_
  refine zc9 rfl (fun hz=>?_) (fun hz=>?_)
  ·first|refine zmR [0,0,0,0,3] rfl ?_|refine zmQ [0,0,0,0,3] rfl ?_|(refine zc3 ?_;first|refine zmR [0,0,0,0,3] rfl ?_|refine zmQ [0,0,0,0,3] rfl ?_)
   refine Evs ?_
   refine znE (s:=s1) rfl R1 (fun g hg=>.inl (hfr g hg)) ?_
   refine Evs ?_
   refine ⟨rfl,by simp only [maxLen];omega,by omega,fun ad2 cap2 h3 P2=>?_⟩
   have P2':Pub (znC h2 s1) 134 (Enc.size DSurge) (s1.l ++ [(⟨0,0,0⟩:DSurge)]).length ((s1.l ++ [(⟨0,0,0⟩:DSurge)]).flatMap Enc.enc) ad2 cap2 h3:=by
    rw [List.length_append,List.flatMap_append];exact P2
   obtain ⟨R2,f2,_⟩:=P2'.row
   obtain ⟨le3,fr3⟩:=pubF (l:=s1.l) R1 le2 f1 P2'
   have hv:(Sl.mk ad2 cap2 (s1.l ++ [(⟨0,0,0⟩:DSurge)])).val=.slice ad2 (s1.l.length+1) cap2:=by simp only [Sl.val,List.length_append,List.length_singleton]
   refine ⟨(⟨ad2,cap2,s1.l ++ [(⟨0,0,0⟩:DSurge)]⟩,h3),[0,1,2,3],⟨R2,fr3,le3,⟨by show 0 < (s1.l ++ [_]).length;rw [List.length_append,List.length_singleton];omega,by show (s1.l ++ [_]).length≤_;rw [List.length_append,List.length_singleton];omega⟩,fun y hy=>?_,?_⟩,?_⟩
   ·rcases List.mem_append.1 hy with hy|hy
    ·exact hel1 y hy
    ·rw [List.mem_singleton.1 hy]
     have hz0:I64 0:=by unfold I64;omega
     exact ⟨hz0,hz0,hz0⟩
   ·have hne:f.surges.l[k].src ≠ m:=by simpa using hz
    show (s1.l ++ [_]).set ((s1.l ++ [_]).length - 1) c=_
    rw [if_neg hne,List.length_append,List.length_singleton,Nat.add_sub_cancel,List.set_append_right _ _ (Nat.le_refl _),Nat.sub_self,List.set_cons_zero,e1]
    rfl
   simp only [go_sem,jq,jj,jy,jv,jk,jx,hv]
   exact Gk
  ·refine Wk ?_
   refine ⟨(s1,h2),[0,1,2,3],⟨R1,f1,le2,⟨by show 0 < s1.l.length;omega,by show s1.l.length≤_;omega⟩,hel1,?_⟩,?_⟩
   ·have he:f.surges.l[k].src=m:=by simpa using hz
    show s1.l.set (s1.l.length - 1) c=_
    rw [if_pos he,hs1,e1,Nat.add_sub_cancel]
    show (f.surges.l.take (k+1)).set k c=_
    have hkl:(f.surges.l.take k).length=k:=by rw [List.length_take];omega
    rw [List.take_succ_eq_append_getElem hs,List.set_append_right _ _ (by omega),hkl,Nat.sub_self,List.set_cons_zero]
   refine Evs ?_
   exact Gk
 rintro ⟨s2,hp⟩ ⟨R2,fr2,lep,hl2,hel,hset⟩
 simp only at R2 fr2 lep hl2 hel hset
 obtain ⟨g,cur,ga,gb,gs,R3⟩:=zEC (w:=c) (i:=s2.l.length - 1) R2 (by omega)
 have hw2:IntKind.i64.wrap ((s2.l.length:Int) - 1)=((s2.l.length - 1:Nat):Int):=by rw [zjz (by omega)];omega
 first|refine zmR [0,0,0,0,0,0,0,0,0,0,0,0,0,0,0,0,0,1] rfl ?_|refine zmQ [0,0,0,0,0,0,0,0,0,0,0,0,0,0,0,0,0,1] rfl ?_|(refine zc3 ?_;first|refine zmR [0,0,0,0,0,0,0,0,0,0,0,0,0,0,0,0,0,1] rfl ?_|refine zmQ [0,0,0,0,0,0,0,0,0,0,0,0,0,0,0,0,0,1] rfl ?_)
 simp only [go_sem,jq,jj,jy,jv,jk,jx,ga,hw2,Option.map_some,za4,Option.isSome_some,jW,jY,Nat.zero_add,Nat.add_zero,List.toList_toArray,implies_true,true_and,and_true,and_self,true_or]
 subst hcd
 have h1g:h1 g=none:=fr2 g ga
 have hg0:h g=none:=by
  cases hh:h g with
  | none=>rfl
  | some o=>have:=le1 g o hh;rw [h1g] at this;cases this
 refine ⟨by omega,?_⟩
 refine zED (us:=Enc.enc (⟨m,max f.surges.l[k].low lo,min f.surges.l[k].high hi⟩:DSurge)) (by simp only [go_sem]) (by simp only [go_sem]) rfl gb (.inl hg0) gs ?_
 have lei:∀ o:Obj,h1.le (hp.ins g o):=fun o q o' hq=>by
  rw [Hp.ins_ne (fun e=>by rw [e,h1g] at hq;cases hq)];exact lep q o' hq
 obtain ⟨s3,hs3⟩:∃ s3:Sl DSurge,s3=⟨s2.a,s2.cap,s2.l.set (s2.l.length - 1) ⟨m,max f.surges.l[k].low lo,min f.surges.l[k].high hi⟩⟩:=⟨_,rfl⟩
 rw [← hs3] at R3
 obtain ⟨h4,R4,h4e⟩:∃ h4,RowAt 134 h4 s3∧h4=hp.ins g (.cells (spl ((s2.l.length - 1) * Enc.size DSurge) (Enc.enc (⟨m,max f.surges.l[k].low lo,min f.surges.l[k].high hi⟩:DSurge)) cur.toList).toArray 134 (0,0)):=⟨_,R3,rfl⟩
 have le4:h1.le h4:=by rw [h4e];exact lei _
 have hv3:s3.val=s2.val:=by rw [hs3];simp only [Sl.val,List.length_set]
 have hfr3:∀ g,s3.a=some ⟨g,0,none⟩→h g=none:=fun g hg=>by
  rw [hs3] at hg
  cases hh:h g with
  | none=>rfl
  | some o=>have:=le1 g o hh;rw [fr2 g hg] at this;cases this
 have hfr1:∀ g,s3.a=some ⟨g,0,none⟩→h1 g=none:=fun g hg=>by rw [hs3] at hg;exact fr2 g hg
 have hz3:∀ a,s3.a=some a→a.off=0∧a.spot=none:=fun a ha=>by rw [hs3] at ha;have ha:s2.a=some a:=ha;rw [ga] at ha;cases ha;exact ⟨rfl,rfl⟩
 have hsl:∀ (hp:Prop) (K:SV→Prop),zgh hp (((k+1:Nat)):Int) (f.surges.l.length:Int) f.surges.val 3 K=(hp∧K (.c (.v (f.surges.fr (k+1)).val))):=fun hp K=>zol hs
 have hl3:s3.l.length≤k+2:=by rw [hs3];show (s2.l.set _ _).length≤_;rw [List.length_set];omega
 have hfl:(f.surges.fr (k+1)).l.length=f.surges.l.length - (k+1):=by show (List.drop _ _).length=_;rw [List.length_drop]
 have hall:∀ o:Obj,(znC (hp.ins g o) s3).ldL (f.surges.fr (k+1)).val 3=some ((f.surges.l.drop (k+1)).flatMap Enc.enc):=fun o =>
  (Sl.fr_ok (hf.2.mono (Hp.le_trans le1 (znF (lei o) hfr1 hz3))) (k+1)).all (by decide)
 refine Wk ?_
 refine znv rfl ?_
 refine U_t [0,2,4,1,3,5] rfl ?_
 simp only [go_sem,jq,jj,jy,jv,jk,jx,hsl,hw1,hto,hcap,hcapi,jW,jY,ite_self,Option.isSome_some,Option.getD_some,implies_true,true_and,and_true,and_self]
 refine U_1 6 0 [1,0] rfl rfl ?_
 simp only [go_sem,jq,jj,jy,jv,jk,jx,hsl,hw1,hto,hcap,hcapi,jW,jY,ite_self,Option.isSome_some,Option.getD_some,implies_true,true_and,and_true,and_self]
 refine U_1 7 3 [] rfl rfl ?_
 simp only [go_sem,jq,jj,jy,jv,jk,jx,hsl,hw1,hto,hcap,hcapi,jW,jY,ite_self,Option.isSome_some,Option.getD_some,implies_true,true_and,and_true,and_self]
 refine znE (s:=s3) (by rw [hv3];rfl) R3 (fun g hg=>.inl (hfr3 g hg)) ?_
 simp only [go_sem,jq,jj,jy,jv,jk,jx,hsl,hw1,hto,hcap,hcapi,jW,jY,ite_self,Option.isSome_some,Option.getD_some,implies_true,true_and,and_true,and_self]
 simp only [go_sem,jq,jj,jy,jv,jk,jx,hall,true_and,Option.isSome_some,Option.getD_some]
 refine ⟨rfl,fun u hu=>by obtain ⟨z,_,hz⟩:=List.mem_flatMap.1 hu;exact Enc.one z u hz,by rw [hfl];simp only [maxLen];omega,by rw [hfl];omega,fun ad4 cap4 h5 P5=>?_⟩
 have P5r:Pub (znC h4 s3) 134 (Enc.size DSurge) (s3.l ++ f.surges.l.drop (k+1)).length ((s3.l ++ f.surges.l.drop (k+1)).flatMap Enc.enc) ad4 cap4 h5:=by
  rw [List.length_append,List.flatMap_append,h4e];exact P5
 obtain ⟨R5,f5,_⟩:=P5r.row
 obtain ⟨le5,fr5⟩:=pubF (l:=s3.l) R4 le4 hfr1 P5r
 have hv5:Value.slice ad4 (s3.l.length+(f.surges.fr (k+1)).l.length) cap4=(Sl.mk ad4 cap4 (s3.l ++ f.surges.l.drop (k+1))).val:=by simp only [Sl.val,List.length_append];rfl
 simp only [go_sem,jq,jj,jy,jv,jk,jx,hv5]
 refine U_t [8] rfl ?_
 simp only [go_sem,jq,jj,jy,jv,jk,jx,hsl,hw1,hto,hcap,hcapi,jW,jY,ite_self,Option.isSome_some,Option.getD_some,implies_true,true_and,and_true,and_self]
 refine U_1 9 0 [] rfl rfl ?_
 simp only [go_sem,jq,jj,jy,jv,jk,jx,hsl,hw1,hto,hcap,hcapi,jW,jY,ite_self,Option.isSome_some,Option.getD_some,implies_true,true_and,and_true,and_self]
 refine U_d ?_
 refine Wk ?_
 have hs3l:s3.l ++ f.surges.l.drop (k+1)=revA f.surges.l m lo hi:=by
  rw [hs3]
  show s2.l.set (s2.l.length - 1) _ ++ _=_
  rw [hset,revA,hk,sget hs]
 have hkok:Enc.ok h f.surges.l[k]:=hf.2.2.2.2.1 _ (List.getElem_mem hs)
 have okd:Enc.ok h5 (⟨t,⟨ad4,cap4,s3.l ++ f.surges.l.drop (k+1)⟩⟩:DForecast):=⟨Enc.mono le5 okt,R5.ok (by decide) fun y hy=>by
  rcases List.mem_append.1 hy with hy|hy
  ·rw [hs3] at hy
   rcases List.mem_or_eq_of_mem_set hy with hy|rfl
   ·exact Enc.mono le5 (hel y hy)
   ·obtain ⟨q1,q2,q3⟩:=hkok
    unfold I64 at *
    exact ⟨by unfold I64;omega,by unfold I64;show _≤max _ _∧max _ _≤_;omega,by unfold I64;show _≤min _ _∧min _ _≤_;omega⟩
  ·exact Enc.mono (Hp.le_trans le1 le5) (hf.2.2.2.2.1 y (List.mem_of_mem_drop hy))⟩
 refine zhF (fun _=>zu0 (⟨t,⟨ad4,cap4,s3.l ++ f.surges.l.drop (k+1)⟩⟩:DForecast) _ okd) ?_
 have hcd:Con.con (⟨t,⟨ad4,cap4,s3.l ++ f.surges.l.drop (k+1)⟩⟩:DForecast)=({ (Con.con f:PForecast) with surges:=revA (Con.con f:PForecast).surges m lo hi }:PForecast):=by
  rw [zkO,zvX,← hs3l,show Con.con t=(Con.con f:PForecast).tide from et]
  congr 1
  exact List.map_id _
 refine Evs ?_
 refine zc9 rfl (fun hz=>?_) (fun hz=>?_)
 ·have hz:zuY (Con.con (⟨t,⟨ad4,cap4,s3.l ++ f.surges.l.drop (k+1)⟩⟩:DForecast))=false:=by simpa using hz
  have hR:zDU (Con.con f) m lo hi=none:=by
   rw [hcd] at hz
   rw [zDU,if_pos ⟨hfo,hmr⟩,if_neg (by rw [hz];exact Bool.false_ne_true)]
  refine Wk ?_
  exact ⟨⟨⟨0,⟨none,0,[]⟩⟩,⟨none,0,[]⟩⟩,by rw [hR];rfl,by rw [hR];rfl,⟨⟨by show I64 0;unfold I64;omega,zmo⟩,zmo⟩,zEG⟩
 ·have hz:zuY (Con.con (⟨t,⟨ad4,cap4,s3.l ++ f.surges.l.drop (k+1)⟩⟩:DForecast))=true:=by simpa using hz
  have hR:zDU (Con.con f) m lo hi=some (Con.con (⟨t,⟨ad4,cap4,s3.l ++ f.surges.l.drop (k+1)⟩⟩:DForecast)):=by
   rw [hcd] at hz
   rw [zDU,if_pos ⟨hfo,hmr⟩,if_pos hz,hcd]
  have m5:=zEF R5 fr5
  refine Wk ?_
  exact ⟨⟨t,⟨ad4,cap4,s3.l ++ f.surges.l.drop (k+1)⟩⟩,by rw [hR];rfl,by rw [hR];rfl,okd,News.mine ⟨(Mine.on le5 okt mt).1,m5.1⟩ (mt.news.append le1 le5 m5.news)⟩
def zEI (x:PHarbour) (m lo hi:Int):Option PHarbour:=match zDU x.forecast m lo hi with
 | some g=>if zvo x=true then some { x with forecast:=g } else none
 | none=>none
def zEJ:PHarbour:=⟨⟨⟨0,[]⟩,[]⟩,⟨[],[]⟩,[],⟨0,false⟩,⟨0,0,0,[]⟩⟩
theorem News.right {h h':Hp} {A B:List Nat} (H:News h h' (A ++ B)):News h h' B:=⟨fun b hb=>H.1 b (List.mem_append_right _ hb),(List.nodup_append.1 H.2).2.1⟩
theorem zEK {x:DHarbour} (h:zvo (Con.con x)=true):Lens x:=by
 rw [zvy] at h
 simp only [zuY,zuS,zvb,zvk,zvn,zvm,In,jJ,decide_eq_true_eq] at h
 rw [show (Con.con x.forecast).tide.parts=_ from zuT _,zvX,show (Con.con x.crew).moves=x.crew.moves.l from List.map_id _] at h
 refine ⟨?_,?_,?_,?_,?_,?_⟩ <;> omega
theorem zEL {h h':Hp}:Mine h h' (⟨⟨⟨0,⟨none,0,[]⟩⟩,⟨none,0,[]⟩⟩,⟨⟨none,0,[]⟩,⟨none,0,[]⟩⟩,⟨none,0,[]⟩,⟨0,false⟩,⟨0,0,0,⟨none,0,[]⟩⟩⟩:DHarbour) :=
 Mine.flat rfl ⟨(zEG (h:=h) (h':=h')).1,⟨(Mine.nil (α:=DPoint) (h:=h) (h':=h') (a:=none) (c:=0)).1,(Mine.nil (α:=DSegment) (h:=h) (h':=h') (a:=none) (c:=0)).1⟩,(Mine.nil (α:=DShip) (h:=h) (h':=h') (a:=none) (c:=0)).1,(Mine.nil (α:=Int) (h:=h) (h':=h') (a:=none) (c:=0)).1⟩
theorem zEM {h:Hp}:Enc.ok h (⟨⟨⟨0,⟨none,0,[]⟩⟩,⟨none,0,[]⟩⟩,⟨⟨none,0,[]⟩,⟨none,0,[]⟩⟩,⟨none,0,[]⟩,⟨0,false⟩,⟨0,0,0,⟨none,0,[]⟩⟩⟩:DHarbour):=by
 have hz:I64 0:=by unfold I64;omega
 exact ⟨⟨⟨hz,zmo⟩,zmo⟩,⟨zmo,zmo⟩,zmo,hz,⟨hz,hz,hz,zmo⟩⟩
set_option maxRecDepth 100000 in
theorem zEN (x:DHarbour) (m lo hi:Int) (h:Hp) (hx:Enc.ok h x) (hm:I64 m) (hlo:I64 lo) (hhi:I64 hi):Ct jV 33 [x.v,.int .i64 m,.int .i64 lo,.int .i64 hi] h fun v h'=>∃ y:DHarbour,v=.tuple #[y.v,.bool (zEI (Con.con x) m lo hi).isSome]∧Con.con y=(zEI (Con.con x) m lo hi).getD zEJ∧Enc.ok h' y∧Mine h h' y:=by
 refine zdn (fun A W=>by simp) Try.func33 rfl rfl (by simp) fun W0=>?_
 refine Wk ?_
 refine zkj (zEH x.forecast m lo hi _ hx.1 hm hlo hhi) rfl ?_
 rintro v h1 le1 ⟨g,rfl,eg,okg,mg⟩
 have okx1:=Enc.mono (x:=x) le1 hx
 have hF:∀ o,zDU (Con.con x.forecast) m lo hi=o→zEI (Con.con x) m lo hi=(match o with|some g=>if zvo (Con.con x)=true then some { (Con.con x:PHarbour) with forecast:=g } else none|none=>none):=fun o h=>by subst h;rfl
 obtain ⟨o,ho⟩:∃ o,zDU (Con.con x.forecast) m lo hi=o:=⟨_,rfl⟩
 replace hF:=hF o ho
 rw [ho] at eg ⊢
 cases o with
 | none =>
  simp only [go_sem,jq,jj,jy,jv,jk,jx,Option.isSome_none]
  repeat' first|refine Wa ?_|refine zhF (fun _=>zvz x _ okx1) ?_|(simp only [go_sem,jq,jj,jy,jv,jk,jx];try rfl)|refine Wb ?_|fail
  refine zc9 rfl (fun hz=>?_) (fun hz=>?_)
  case refine_2=>cases hz
  refine Wk ?_
  exact ⟨⟨⟨⟨0,⟨none,0,[]⟩⟩,⟨none,0,[]⟩⟩,⟨⟨none,0,[]⟩,⟨none,0,[]⟩⟩,⟨none,0,[]⟩,⟨0,false⟩,⟨0,0,0,⟨none,0,[]⟩⟩⟩,by rw [hF];rfl,by rw [hF];rfl,zEM,zEL⟩
 | some g' =>
  have eg:Con.con g=g':=eg
  simp only [go_sem,jq,jj,jy,jv,jk,jx,Option.isSome_some]
  repeat' first|refine Wa ?_|refine zhF (fun _=>zvz x _ okx1) ?_|(simp only [go_sem,jq,jj,jy,jv,jk,jx];try rfl)|refine Wb ?_|fail
  refine zc9 rfl (fun hz=>?_) (fun hz=>?_)
  ·have hk:¬ zvo (Con.con x)=true:=by simpa using hz
   have hF:zEI (Con.con x) m lo hi=none:=by rw [hF];exact if_neg hk
   refine Wk ?_
   exact ⟨⟨⟨⟨0,⟨none,0,[]⟩⟩,⟨none,0,[]⟩⟩,⟨⟨none,0,[]⟩,⟨none,0,[]⟩⟩,⟨none,0,[]⟩,⟨0,false⟩,⟨0,0,0,⟨none,0,[]⟩⟩⟩,by rw [hF];rfl,by rw [hF];rfl,zEM,zEL⟩
  ·have hk:zvo (Con.con x)=true:=by simpa using hz
   have hF:zEI (Con.con x) m lo hi=some { (Con.con x:PHarbour) with forecast:=g' }:=by rw [hF];exact if_pos hk
   refine Wk ?_
   refine zkj (zEB x _ okx1 (zEK hk)) rfl ?_
   rintro v h2 le2 ⟨d,rfl,ed,okd,md⟩
   refine Wk ?_
   have hfd:Foot.foot d=Foot.foot d.forecast ++ (Foot.foot d.chart ++ (Foot.foot d.fleet ++ Foot.foot d.crew)):=by
    show ((_ ++ _) ++ _) ++ _=_
    rw [List.append_assoc,List.append_assoc]
   have hn:News h1 h2 (Foot.foot d.chart ++ (Foot.foot d.fleet ++ Foot.foot d.crew)):=by
    have h9:=md.news
    rw [hfd] at h9;exact News.right h9
   have hfn:Foot.foot (⟨g,d.chart,d.fleet,d.regime,d.crew⟩:DHarbour)=Foot.foot g ++ (Foot.foot d.chart ++ (Foot.foot d.fleet ++ Foot.foot d.crew)):=by
    show ((_ ++ _) ++ _) ++ _=_
    rw [List.append_assoc,List.append_assoc]
   refine ⟨⟨g,d.chart,d.fleet,d.regime,d.crew⟩,by rw [hF];rfl,?_,⟨Enc.mono le2 okg,okd.2.1,okd.2.2.1,okd.2.2.2.1,okd.2.2.2.2⟩,News.mine ⟨(Mine.on le2 okg mg).1,md.1.2.1,md.1.2.2.1,md.1.2.2.2⟩ (by rw [hfn];exact mg.news.append le1 le2 hn)⟩
   rw [hF]
   show _={ (Con.con x:PHarbour) with forecast:=g' }
   rw [← ed,zk3,eg,zk3]
set_option maxRecDepth 100000 in
theorem zEO (a0:Sl U8) (h:Hp) (oa0:a0.Ok h):Ct jV 7 [a0.val] h fun v h'=>v=.bool true:=by
 refine zdn (fun A W=>by simp) Try.func7 rfl rfl (by simp) fun W0=>?_
 refine Wk ?_
 refine zc9 rfl (fun hq=>?_) (fun hq=>?_)
 ·exact Wk0
 refine Wk ?_
 refine zkj (zDH a0 _ oa0) rfl ?_
 rintro v h1 le1 ⟨x,a,rfl,gx,ga,okx,oka⟩
 have hok:=zCU gx ga
 have hca:(Con.con a:DCall)=a:=rfl
 obtain ⟨hfo,_,⟨hsi,hsh,hso⟩,hs0,hs1,_,_,_,_,_,hr0,hr1,hr2,hr3⟩:=zyE hok
 have hS:zEp (Con.con x.forecast) a.ready=((zD7 (Con.con x.forecast) a.ready).low,(zD7 (Con.con x.forecast) a.ready).high,true):=if_pos ⟨hfo,hr0,hr1⟩
 obtain ⟨sb1,sb2,sb3⟩:=zD8 hfo a.ready
 have hwa:IntKind.i64.wrap ((zD7 (Con.con x.forecast) a.ready).high - (zD7 (Con.con x.forecast) a.ready).low)=(zD7 (Con.con x.forecast) a.ready).high - (zD7 (Con.con x.forecast) a.ready).low:=zjz (by omega)
 have hwb:IntKind.i64.wrap ((zD7 (Con.con x.forecast) a.ready).high - (zD7 (Con.con x.forecast) a.ready).low+1)=(zD7 (Con.con x.forecast) a.ready).high - (zD7 (Con.con x.forecast) a.ready).low+1:=zjz (by omega)
 have hne:((zD7 (Con.con x.forecast) a.ready).high - (zD7 (Con.con x.forecast) a.ready).low+1=0)=False:=eq_false (by omega)
 refine Wk ?_
 refine zhF (fun _=>zEr x.forecast a.ready _ okx.1) ?_
 simp (maxSteps:=2000000) only [go_sem,jq,jj,jy,jv,jk,jx,hS]
 repeat' first|refine zc8 ?_|(refine zc5 ?_;simp (maxSteps:=2000000) only [go_sem,jq,jj,jy,jv,jk,jx])|refine zc3 ?_
 (first|refine zie rfl ?_|refine zc4 rfl ?_)
 simp (maxSteps:=2000000) only [go_sem,jq,jj,jy,jv,jk,jx,Bool.not_true,Bool.not_false,Bool.true_or,Bool.or_true,Bool.or_false,Bool.false_or,Bool.and_true,Bool.true_and,Bool.and_false,Bool.false_and,Bool.false_eq_true,false_implies,true_and,and_true,implies_true,bne_self_eq_false,beq_self_eq_true,reduceCtorEq]
 refine zhF (fun _=>zvE x a _ okx oka) ?_
 simp (maxSteps:=2000000) only [go_sem,jq,jj,jy,jv,jk,jx,hca,hok,Bool.not_true,Bool.not_false,Bool.true_or,Bool.or_true,Bool.or_false,Bool.false_or,Bool.and_true,Bool.true_and,Bool.and_false,Bool.false_and,Bool.false_eq_true,false_implies,true_and,and_true,implies_true,bne_self_eq_false,beq_self_eq_true,reduceCtorEq]
 repeat' first|refine zc8 ?_|(refine zc5 ?_;simp (maxSteps:=2000000) only [go_sem,jq,jj,jy,jv,jk,jx])|refine zc3 ?_
 refine zc9 rfl (fun hz=>?_) (fun hz=>?_)
 ·cases hz
 repeat' first|refine zc8 ?_|(refine zc5 ?_;simp (maxSteps:=2000000) only [go_sem,jq,jj,jy,jv,jk,jx])|refine zc3 ?_
 refine zoc (ι:=(Int × DHarbour) × Hp) (fun i=>⟨[(2,true,.c (.v (.bool false))),(3,true,.c (.p 0 0)),(4,true,.c (.p 1 0)),(8,true,.c (.p 2 0)),(9,true,.c (.v (.bool (zEI (Con.con x) a.ready i.1.1 (zD7 (Con.con x.forecast) a.ready).high).isSome)))],[(0,.box 40 [.v (.int .i64 x.forecast.tide.mean),.v x.forecast.tide.parts.val,.v x.forecast.surges.val,.v x.chart.points.val,.v x.chart.segments.val,.v x.fleet.val,.v (.int .i64 x.regime.gap),.v (.bool x.regime.noMeet),.v (.int .i64 x.crew.tugs),.v (.int .i64 x.crew.pilots),.v (.int .i64 x.crew.rest),.v x.crew.moves.val]),(1,.box 42 [.v (.int .i64 a.ship),.v (.int .i64 a.src),.v (.int .i64 a.dst),.v (.int .i64 a.ready),.v (.int .i64 a.due)]),(2,.box 40 [.v (.int .i64 i.1.2.forecast.tide.mean),.v i.1.2.forecast.tide.parts.val,.v i.1.2.forecast.surges.val,.v i.1.2.chart.points.val,.v i.1.2.chart.segments.val,.v i.1.2.fleet.val,.v (.int .i64 i.1.2.regime.gap),.v (.bool i.1.2.regime.noMeet),.v (.int .i64 i.1.2.crew.tugs),.v (.int .i64 i.1.2.crew.pilots),.v (.int .i64 i.1.2.crew.rest),.v i.1.2.crew.moves.val])],i.2,3⟩)
  (fun i=>((zD7 (Con.con x.forecast) a.ready).low≤i.1.1∧i.1.1≤(zD7 (Con.con x.forecast) a.ready).high)∧h1.le i.2∧Con.con i.1.2=(zEI (Con.con x) a.ready i.1.1 (zD7 (Con.con x.forecast) a.ready).high).getD zEJ∧Enc.ok i.2 i.1.2) ?_ ?_
 ·refine znv rfl ?_
  refine U_t [0,1,3,4,6,7,12,2,8,9] rfl ?_
  simp (maxSteps:=2000000) only [go_sem,jq,jj,jy,jv,jk,jx,hwa,hwb,hne,Bool.not_true,Bool.not_false,Bool.true_or,Bool.or_true,Bool.or_false,Bool.false_or,Bool.and_true,Bool.true_and,Bool.and_false,Bool.false_and,Bool.false_eq_true,false_implies,true_and,and_true,implies_true,bne_self_eq_false,beq_self_eq_true,reduceCtorEq]
  refine U_m 5 [17] ⟨?_,?_,trivial⟩
  ·refine U_b 5 0 [9,8,2,1,0] rfl rfl ?_
   simp (maxSteps:=2000000) only [go_sem,jq,jj,jy,jv,jk,jx,hwa,hwb,hne,Bool.not_true,Bool.not_false,Bool.true_or,Bool.or_true,Bool.or_false,Bool.false_or,Bool.and_true,Bool.true_and,Bool.and_false,Bool.false_and,Bool.false_eq_true,false_implies,true_and,and_true,implies_true,bne_self_eq_false,beq_self_eq_true,reduceCtorEq]
   refine zkj (zDJ a0 90 _ (oa0.mono le1) (by omega)) rfl ?_
   rintro v h2 le2 ⟨k,rfl,k0,k1⟩
   have okx2:=Enc.mono (x:=x) le2 okx
   have oka2:=Enc.mono (x:=a) le2 oka
   have hk:=zDa (m:=(zD7 (Con.con x.forecast) a.ready).high - (zD7 (Con.con x.forecast) a.ready).low+1) k0 (by omega)
   have hwc:IntKind.i64.wrap ((zD7 (Con.con x.forecast) a.ready).low+Int.tmod k ((zD7 (Con.con x.forecast) a.ready).high - (zD7 (Con.con x.forecast) a.ready).low+1))=(zD7 (Con.con x.forecast) a.ready).low+Int.tmod k ((zD7 (Con.con x.forecast) a.ready).high - (zD7 (Con.con x.forecast) a.ready).low+1):=zjz (by omega)
   simp (maxSteps:=2000000) only [go_sem,jq,jj,jy,jv,jk,jx,hwc,hwa,hwb,hne,Bool.not_true,Bool.not_false,Bool.true_or,Bool.or_true,Bool.or_false,Bool.false_or,Bool.and_true,Bool.true_and,Bool.and_false,Bool.false_and,Bool.false_eq_true,false_implies,true_and,and_true,implies_true,bne_self_eq_false,beq_self_eq_true,reduceCtorEq]
   refine U_t [10,11] rfl ?_
   simp (maxSteps:=2000000) only [go_sem,jq,jj,jy,jv,jk,jx,hwa,hwb,hne,Bool.not_true,Bool.not_false,Bool.true_or,Bool.or_true,Bool.or_false,Bool.false_or,Bool.and_true,Bool.true_and,Bool.and_false,Bool.false_and,Bool.false_eq_true,false_implies,true_and,and_true,implies_true,bne_self_eq_false,beq_self_eq_true,reduceCtorEq]
   refine U_m 13 [17] ⟨?_,?_,trivial⟩
   ·refine U_b 13 0 [] rfl rfl ?_
    simp (maxSteps:=2000000) only [go_sem,jq,jj,jy,jv,jk,jx,hwa,hwb,hne,Bool.not_true,Bool.not_false,Bool.true_or,Bool.or_true,Bool.or_false,Bool.false_or,Bool.and_true,Bool.true_and,Bool.and_false,Bool.false_and,Bool.false_eq_true,false_implies,true_and,and_true,implies_true,bne_self_eq_false,beq_self_eq_true,reduceCtorEq]
    try simp (maxSteps:=2000000) only [go_sem,jq,jj,jy,jv,jk,jx,hwc]
    obtain ⟨lo,hlo⟩:∃ lo,(zD7 (Con.con x.forecast) a.ready).low+Int.tmod k ((zD7 (Con.con x.forecast) a.ready).high - (zD7 (Con.con x.forecast) a.ready).low+1)=lo:=⟨_,rfl⟩
    rw [hlo]
    have hlob:(zD7 (Con.con x.forecast) a.ready).low≤lo∧lo≤(zD7 (Con.con x.forecast) a.ready).high:=by omega
    refine zkj (zEN x a.ready lo (zD7 (Con.con x.forecast) a.ready).high _ okx2 oka2.2.2.2.1 (by unfold I64;omega) (by unfold I64;omega)) rfl ?_
    rintro v h3 le3 ⟨y,rfl,ey,oky,_⟩
    simp (maxSteps:=2000000) only [go_sem,jq,jj,jy,jv,jk,jx,Bool.not_true,Bool.not_false,Bool.true_or,Bool.or_true,Bool.or_false,Bool.false_or,Bool.and_true,Bool.true_and,Bool.and_false,Bool.false_and,Bool.false_eq_true,false_implies,true_and,and_true,implies_true,bne_self_eq_false,beq_self_eq_true,reduceCtorEq]
    refine U_t [14,15,16] rfl ?_
    simp (maxSteps:=2000000) only [go_sem,jq,jj,jy,jv,jk,jx,hwa,hwb,hne,Bool.not_true,Bool.not_false,Bool.true_or,Bool.or_true,Bool.or_false,Bool.false_or,Bool.and_true,Bool.true_and,Bool.and_false,Bool.false_and,Bool.false_eq_true,false_implies,true_and,and_true,implies_true,bne_self_eq_false,beq_self_eq_true,reduceCtorEq]
    refine U_1 17 0 [16,15] rfl rfl ?_
    simp (maxSteps:=2000000) only [go_sem,jq,jj,jy,jv,jk,jx,hwa,hwb,hne,Bool.not_true,Bool.not_false,Bool.true_or,Bool.or_true,Bool.or_false,Bool.false_or,Bool.and_true,Bool.true_and,Bool.and_false,Bool.false_and,Bool.false_eq_true,false_implies,true_and,and_true,implies_true,bne_self_eq_false,beq_self_eq_true,reduceCtorEq]
    refine U_1 18 0 [16] rfl rfl ?_
    simp (maxSteps:=2000000) only [go_sem,jq,jj,jy,jv,jk,jx,hwa,hwb,hne,Bool.not_true,Bool.not_false,Bool.true_or,Bool.or_true,Bool.or_false,Bool.false_or,Bool.and_true,Bool.true_and,Bool.and_false,Bool.false_and,Bool.false_eq_true,false_implies,true_and,and_true,implies_true,bne_self_eq_false,beq_self_eq_true,reduceCtorEq]
    refine U_t [19] rfl ?_
    simp (maxSteps:=2000000) only [go_sem,jq,jj,jy,jv,jk,jx,hwa,hwb,hne,Bool.not_true,Bool.not_false,Bool.true_or,Bool.or_true,Bool.or_false,Bool.false_or,Bool.and_true,Bool.true_and,Bool.and_false,Bool.false_and,Bool.false_eq_true,false_implies,true_and,and_true,implies_true,bne_self_eq_false,beq_self_eq_true,reduceCtorEq]
    refine U_d ?_
    exact ⟨((lo,y),h3),[0,1,2],⟨hlob,Hp.le_trans le2 le3,ey,oky⟩,by repeat' first|exact rfl|exact trivial|assumption|decide|refine And.intro ?_ ?_⟩
   ·refine U_b 17 0 [11,10,9,8,2,1,0] rfl rfl ?_
    simp (maxSteps:=2000000) only [go_sem,jq,jj,jy,jv,jk,jx,hwa,hwb,hne,Bool.not_true,Bool.not_false,Bool.true_or,Bool.or_true,Bool.or_false,Bool.false_or,Bool.and_true,Bool.true_and,Bool.and_false,Bool.false_and,Bool.false_eq_true,false_implies,true_and,and_true,implies_true,bne_self_eq_false,beq_self_eq_true,reduceCtorEq]
    refine U_1 13 0 [] rfl rfl ?_
    simp (maxSteps:=2000000) only [go_sem,jq,jj,jy,jv,jk,jx,hwa,hwb,hne,Bool.not_true,Bool.not_false,Bool.true_or,Bool.or_true,Bool.or_false,Bool.false_or,Bool.and_true,Bool.true_and,Bool.and_false,Bool.false_and,Bool.false_eq_true,false_implies,true_and,and_true,implies_true,bne_self_eq_false,beq_self_eq_true,reduceCtorEq]
    try simp (maxSteps:=2000000) only [go_sem,jq,jj,jy,jv,jk,jx,hwc]
    obtain ⟨lo,hlo⟩:∃ lo,(zD7 (Con.con x.forecast) a.ready).low+Int.tmod k ((zD7 (Con.con x.forecast) a.ready).high - (zD7 (Con.con x.forecast) a.ready).low+1)=lo:=⟨_,rfl⟩
    rw [hlo]
    have hlob:(zD7 (Con.con x.forecast) a.ready).low≤lo∧lo≤(zD7 (Con.con x.forecast) a.ready).high:=by omega
    refine zkj (zEN x a.ready lo (zD7 (Con.con x.forecast) a.ready).high _ okx2 oka2.2.2.2.1 (by unfold I64;omega) (by unfold I64;omega)) rfl ?_
    rintro v h3 le3 ⟨y,rfl,ey,oky,_⟩
    simp (maxSteps:=2000000) only [go_sem,jq,jj,jy,jv,jk,jx,Bool.not_true,Bool.not_false,Bool.true_or,Bool.or_true,Bool.or_false,Bool.false_or,Bool.and_true,Bool.true_and,Bool.and_false,Bool.false_and,Bool.false_eq_true,false_implies,true_and,and_true,implies_true,bne_self_eq_false,beq_self_eq_true,reduceCtorEq]
    refine U_t [14,15,16] rfl ?_
    simp (maxSteps:=2000000) only [go_sem,jq,jj,jy,jv,jk,jx,hwa,hwb,hne,Bool.not_true,Bool.not_false,Bool.true_or,Bool.or_true,Bool.or_false,Bool.false_or,Bool.and_true,Bool.true_and,Bool.and_false,Bool.false_and,Bool.false_eq_true,false_implies,true_and,and_true,implies_true,bne_self_eq_false,beq_self_eq_true,reduceCtorEq]
    refine U_1 18 0 [16] rfl rfl ?_
    simp (maxSteps:=2000000) only [go_sem,jq,jj,jy,jv,jk,jx,hwa,hwb,hne,Bool.not_true,Bool.not_false,Bool.true_or,Bool.or_true,Bool.or_false,Bool.false_or,Bool.and_true,Bool.true_and,Bool.and_false,Bool.false_and,Bool.false_eq_true,false_implies,true_and,and_true,implies_true,bne_self_eq_false,beq_self_eq_true,reduceCtorEq]
    refine U_t [19] rfl ?_
    simp (maxSteps:=2000000) only [go_sem,jq,jj,jy,jv,jk,jx,hwa,hwb,hne,Bool.not_true,Bool.not_false,Bool.true_or,Bool.or_true,Bool.or_false,Bool.false_or,Bool.and_true,Bool.true_and,Bool.and_false,Bool.false_and,Bool.false_eq_true,false_implies,true_and,and_true,implies_true,bne_self_eq_false,beq_self_eq_true,reduceCtorEq]
    refine U_d ?_
    exact ⟨((lo,y),h3),[0,1,2],⟨hlob,Hp.le_trans le2 le3,ey,oky⟩,by repeat' first|exact rfl|exact trivial|assumption|decide|refine And.intro ?_ ?_⟩
  ·refine U_b 17 0 [9,8,2,1,0] rfl rfl ?_
   simp (maxSteps:=2000000) only [go_sem,jq,jj,jy,jv,jk,jx,hwa,hwb,hne,Bool.not_true,Bool.not_false,Bool.true_or,Bool.or_true,Bool.or_false,Bool.false_or,Bool.and_true,Bool.true_and,Bool.and_false,Bool.false_and,Bool.false_eq_true,false_implies,true_and,and_true,implies_true,bne_self_eq_false,beq_self_eq_true,reduceCtorEq]
   refine U_1 5 0 [9,8,2,1,0] rfl rfl ?_
   simp (maxSteps:=2000000) only [go_sem,jq,jj,jy,jv,jk,jx,hwa,hwb,hne,Bool.not_true,Bool.not_false,Bool.true_or,Bool.or_true,Bool.or_false,Bool.false_or,Bool.and_true,Bool.true_and,Bool.and_false,Bool.false_and,Bool.false_eq_true,false_implies,true_and,and_true,implies_true,bne_self_eq_false,beq_self_eq_true,reduceCtorEq]
   refine zkj (zDJ a0 90 _ (oa0.mono le1) (by omega)) rfl ?_
   rintro v h2 le2 ⟨k,rfl,k0,k1⟩
   have okx2:=Enc.mono (x:=x) le2 okx
   have oka2:=Enc.mono (x:=a) le2 oka
   have hk:=zDa (m:=(zD7 (Con.con x.forecast) a.ready).high - (zD7 (Con.con x.forecast) a.ready).low+1) k0 (by omega)
   have hwc:IntKind.i64.wrap ((zD7 (Con.con x.forecast) a.ready).low+Int.tmod k ((zD7 (Con.con x.forecast) a.ready).high - (zD7 (Con.con x.forecast) a.ready).low+1))=(zD7 (Con.con x.forecast) a.ready).low+Int.tmod k ((zD7 (Con.con x.forecast) a.ready).high - (zD7 (Con.con x.forecast) a.ready).low+1):=zjz (by omega)
   simp (maxSteps:=2000000) only [go_sem,jq,jj,jy,jv,jk,jx,hwc,hwa,hwb,hne,Bool.not_true,Bool.not_false,Bool.true_or,Bool.or_true,Bool.or_false,Bool.false_or,Bool.and_true,Bool.true_and,Bool.and_false,Bool.false_and,Bool.false_eq_true,false_implies,true_and,and_true,implies_true,bne_self_eq_false,beq_self_eq_true,reduceCtorEq]
   refine U_t [10,11] rfl ?_
   simp (maxSteps:=2000000) only [go_sem,jq,jj,jy,jv,jk,jx,hwa,hwb,hne,Bool.not_true,Bool.not_false,Bool.true_or,Bool.or_true,Bool.or_false,Bool.false_or,Bool.and_true,Bool.true_and,Bool.and_false,Bool.false_and,Bool.false_eq_true,false_implies,true_and,and_true,implies_true,bne_self_eq_false,beq_self_eq_true,reduceCtorEq]
   refine U_1 13 0 [] rfl rfl ?_
   simp (maxSteps:=2000000) only [go_sem,jq,jj,jy,jv,jk,jx,hwa,hwb,hne,Bool.not_true,Bool.not_false,Bool.true_or,Bool.or_true,Bool.or_false,Bool.false_or,Bool.and_true,Bool.true_and,Bool.and_false,Bool.false_and,Bool.false_eq_true,false_implies,true_and,and_true,implies_true,bne_self_eq_false,beq_self_eq_true,reduceCtorEq]
   try simp (maxSteps:=2000000) only [go_sem,jq,jj,jy,jv,jk,jx,hwc]
   obtain ⟨lo,hlo⟩:∃ lo,(zD7 (Con.con x.forecast) a.ready).low+Int.tmod k ((zD7 (Con.con x.forecast) a.ready).high - (zD7 (Con.con x.forecast) a.ready).low+1)=lo:=⟨_,rfl⟩
   rw [hlo]
   have hlob:(zD7 (Con.con x.forecast) a.ready).low≤lo∧lo≤(zD7 (Con.con x.forecast) a.ready).high:=by omega
   refine zkj (zEN x a.ready lo (zD7 (Con.con x.forecast) a.ready).high _ okx2 oka2.2.2.2.1 (by unfold I64;omega) (by unfold I64;omega)) rfl ?_
   rintro v h3 le3 ⟨y,rfl,ey,oky,_⟩
   simp (maxSteps:=2000000) only [go_sem,jq,jj,jy,jv,jk,jx,Bool.not_true,Bool.not_false,Bool.true_or,Bool.or_true,Bool.or_false,Bool.false_or,Bool.and_true,Bool.true_and,Bool.and_false,Bool.false_and,Bool.false_eq_true,false_implies,true_and,and_true,implies_true,bne_self_eq_false,beq_self_eq_true,reduceCtorEq]
   refine U_t [14,15,16] rfl ?_
   simp (maxSteps:=2000000) only [go_sem,jq,jj,jy,jv,jk,jx,hwa,hwb,hne,Bool.not_true,Bool.not_false,Bool.true_or,Bool.or_true,Bool.or_false,Bool.false_or,Bool.and_true,Bool.true_and,Bool.and_false,Bool.false_and,Bool.false_eq_true,false_implies,true_and,and_true,implies_true,bne_self_eq_false,beq_self_eq_true,reduceCtorEq]
   refine U_1 18 0 [16] rfl rfl ?_
   simp (maxSteps:=2000000) only [go_sem,jq,jj,jy,jv,jk,jx,hwa,hwb,hne,Bool.not_true,Bool.not_false,Bool.true_or,Bool.or_true,Bool.or_false,Bool.false_or,Bool.and_true,Bool.true_and,Bool.and_false,Bool.false_and,Bool.false_eq_true,false_implies,true_and,and_true,implies_true,bne_self_eq_false,beq_self_eq_true,reduceCtorEq]
   refine U_t [19] rfl ?_
   simp (maxSteps:=2000000) only [go_sem,jq,jj,jy,jv,jk,jx,hwa,hwb,hne,Bool.not_true,Bool.not_false,Bool.true_or,Bool.or_true,Bool.or_false,Bool.false_or,Bool.and_true,Bool.true_and,Bool.and_false,Bool.false_and,Bool.false_eq_true,false_implies,true_and,and_true,implies_true,bne_self_eq_false,beq_self_eq_true,reduceCtorEq]
   refine U_d ?_
   exact ⟨((lo,y),h3),[0,1,2],⟨hlob,Hp.le_trans le2 le3,ey,oky⟩,by repeat' first|exact rfl|exact trivial|assumption|decide|refine And.intro ?_ ?_⟩
 rintro ⟨⟨lo,y⟩,h3⟩ ⟨hlo,le3,ey,oky⟩
 simp only at hlo le3 ey oky
 obtain ⟨o,ho⟩:∃ o,zEI (Con.con x) a.ready lo (zD7 (Con.con x.forecast) a.ready).high=o:=⟨_,rfl⟩
 rw [ho] at ey
 simp (maxSteps:=2000000) only [go_sem,jq,jj,jy,jv,jk,jx,ho]
 have okx3:=Enc.mono (x:=x) le3 okx
 have oka3:=Enc.mono (x:=a) le3 oka
 have hok1:zvo (Con.con x)=true:=by
  have h9:=hok
  rw [zvB,jJ] at h9;exact h9.1
 obtain ⟨rl1,rl2⟩:=zEo hok (lo:=lo) (by omega)
 cases hR:zDU (Con.con x.forecast) a.ready lo (zD7 (Con.con x.forecast) a.ready).high with
 | none =>
  have ho:o=none:=by rw [← ho,zEI,show (Con.con x:PHarbour).forecast=Con.con x.forecast from rfl,hR]
  subst ho
  have h6:=rl1 hR
  rw [zvX] at h6
  have h6i:((6:Int)≤x.forecast.surges.l.length)=True:=eq_true (by omega)
  have h6n:(6≤x.forecast.surges.l.length)=True:=eq_true h6
  simp (maxSteps:=2000000) only [go_sem,jq,jj,jy,jv,jk,jx,Option.isSome_none]
  refine Wk ?_
  refine zc9 rfl (fun hz=>?_) (fun hz=>?_)
  case refine_2=>cases hz
  repeat' first|refine Wa ?_|(simp (maxSteps:=2000000) only [go_sem,jq,jj,jy,jv,jk,jx,h6i,h6n,decide_true];try rfl)|refine Wb ?_|fail
 | some g =>
  have ho:o=some { (Con.con x:PHarbour) with forecast:=g }:=by rw [← ho,zEI,show (Con.con x:PHarbour).forecast=Con.con x.forecast from rfl,hR];exact if_pos hok1
  subst ho
  have ey:Con.con y={ (Con.con x:PHarbour) with forecast:=g }:=ey
  have ey1:Con.con y.forecast=g:=congrArg PHarbour.forecast ey
  have ey2:Con.con y.chart=(Con.con x.chart:PChart):=congrArg PHarbour.chart ey
  have ey3:y.fleet.l=x.fleet.l:=by
   have h9:(Con.con y.fleet:List DShip)=Con.con x.fleet:=congrArg PHarbour.fleet ey
   rwa [zu4,zu4] at h9
  obtain ⟨rs1,rs2,rs3⟩:=rl2 g hR
  simp (maxSteps:=2000000) only [go_sem,jq,jj,jy,jv,jk,jx,Option.isSome_some]
  refine Wk ?_
  refine zc9 rfl (fun hz=>?_) (fun hz=>?_)
  ·cases hz
  refine Wk ?_
  refine zkj (zzc x a _ okx3 oka3) rfl ?_
  rintro v h4 le4 ⟨s,rfl,es,oks,_⟩
  have okx4:=Enc.mono (x:=x) le4 okx3
  have oka4:=Enc.mono (x:=a) le4 oka3
  have oky4:=Enc.mono (x:=y) le4 oky
  have hsm:=oks.max
  have es:(Con.con s:List POption)=zy1 (Con.con x) a:=es
  refine Wk ?_
  refine zde (ι:=Nat) (fun i=>⟨[(2,true,.c (.v (.bool false))),(3,true,.c (.p 0 0)),(4,true,.c (.p 1 0)),(8,true,.c (.p 2 0)),(67,true,.c (.v s.val)),(68,true,.c (.v (.int .i64 s.l.length))),(69,true,.c (.v (.int .i64 i)))],[(0,.box 40 [.v (.int .i64 x.forecast.tide.mean),.v x.forecast.tide.parts.val,.v x.forecast.surges.val,.v x.chart.points.val,.v x.chart.segments.val,.v x.fleet.val,.v (.int .i64 x.regime.gap),.v (.bool x.regime.noMeet),.v (.int .i64 x.crew.tugs),.v (.int .i64 x.crew.pilots),.v (.int .i64 x.crew.rest),.v x.crew.moves.val]),(1,.box 42 [.v (.int .i64 a.ship),.v (.int .i64 a.src),.v (.int .i64 a.dst),.v (.int .i64 a.ready),.v (.int .i64 a.due)]),(2,.box 40 [.v (.int .i64 y.forecast.tide.mean),.v y.forecast.tide.parts.val,.v y.forecast.surges.val,.v y.chart.points.val,.v y.chart.segments.val,.v y.fleet.val,.v (.int .i64 y.regime.gap),.v (.bool y.regime.noMeet),.v (.int .i64 y.crew.tugs),.v (.int .i64 y.crew.pilots),.v (.int .i64 y.crew.rest),.v y.crew.moves.val])],h4,3⟩)
   (fun i=>i≤s.l.length) (fun i=>s.l.length - i) 0 (Nat.zero_le _) ?_ ?_
  ·refine Evs ?_
   exact Gk
  intro i hi
  refine Wk ?_
  refine zc9 rfl (fun hd=>?_) (fun hd=>?_)
  ·have hlt:=zjH hd
   have hii:(i:Int) < s.l.length:=by omega
   have hom:(Con.con s.l[i]:POption) ∈ zy1 (Con.con x) a:=by
    rw [← es,zkq]
    exact List.mem_map.2 ⟨_,List.getElem_mem hlt,rfl⟩
   have okp:s.l[i].pas.Ok h4:=(Sl.Ok.el oks hlt).2.2.2
   have hpm:=okp.max
   repeat' first|refine Wa ?_|(simp (maxSteps:=2000000) only [go_sem,jq,jj,jy,jv,jk,jx,zkC oks hlt,zlP oks hlt,oks.some hlt,hlt,hii,jW,jY];try rfl)|refine Wb ?_|fail
   refine zde (ι:=Nat) (fun j=>⟨[(2,true,.c (.v (.bool false))),(3,true,.c (.p 0 0)),(4,true,.c (.p 1 0)),(8,true,.c (.p 2 0)),(67,true,.c (.v s.val)),(68,true,.c (.v (.int .i64 s.l.length))),(69,true,.c (.v (.int .i64 i))),(74,true,.c (.v s.l[i].pas.val)),(75,true,.c (.v (.int .i64 s.l[i].pas.l.length))),(76,true,.c (.v (.int .i64 j)))],[(0,.box 40 [.v (.int .i64 x.forecast.tide.mean),.v x.forecast.tide.parts.val,.v x.forecast.surges.val,.v x.chart.points.val,.v x.chart.segments.val,.v x.fleet.val,.v (.int .i64 x.regime.gap),.v (.bool x.regime.noMeet),.v (.int .i64 x.crew.tugs),.v (.int .i64 x.crew.pilots),.v (.int .i64 x.crew.rest),.v x.crew.moves.val]),(1,.box 42 [.v (.int .i64 a.ship),.v (.int .i64 a.src),.v (.int .i64 a.dst),.v (.int .i64 a.ready),.v (.int .i64 a.due)]),(2,.box 40 [.v (.int .i64 y.forecast.tide.mean),.v y.forecast.tide.parts.val,.v y.forecast.surges.val,.v y.chart.points.val,.v y.chart.segments.val,.v y.fleet.val,.v (.int .i64 y.regime.gap),.v (.bool y.regime.noMeet),.v (.int .i64 y.crew.tugs),.v (.int .i64 y.crew.pilots),.v (.int .i64 y.crew.rest),.v y.crew.moves.val])],h4,3⟩)
    (fun j=>j≤s.l[i].pas.l.length) (fun j=>s.l[i].pas.l.length - j) 0 (Nat.zero_le _) ?_ ?_
   ·refine Evs ?_
    exact Gk
   intro j hj
   refine Wk ?_
   refine zc9 rfl (fun hd2=>?_) (fun hd2=>?_)
   case refine_2 =>
    refine Wk ?_
    refine ⟨i+1,by omega,by omega,zjB (zjA hlt (by omega))⟩
   have hlj:=zjH hd2
   have hji:(j:Int) < s.l[i].pas.l.length:=by omega
   have p2:zCr (Con.con y.forecast) (Con.con y.chart) y.fleet.l s.l[i].pas.l[j]=true:=by
    rw [ey1,ey2,ey3]
    exact rs1 _ hom s.l[i].pas.l[j] (by rw [show (Con.con s.l[i]:POption).pas=s.l[i].pas.l from List.map_id _];exact List.getElem_mem hlj)
   repeat' first|refine Wa ?_|(simp (maxSteps:=2000000) only [go_sem,jq,jj,jy,jv,jk,jx,zky okp hlj,okp.some hlj,hlj,hji,jW,jY];try rfl)|refine Wb ?_|fail
   refine zhF (fun _=>zC5 y.forecast y.chart y.fleet s.l[i].pas.l[j] _ oky4.1 oky4.2.1 oky4.2.2.1) ?_
   simp (maxSteps:=2000000) only [go_sem,jq,jj,jy,jv,jk,jx,p2,Bool.not_true,Bool.not_false,Bool.true_or,Bool.or_true,Bool.or_false,Bool.false_or,Bool.and_true,Bool.true_and,Bool.and_false,Bool.false_and,Bool.false_eq_true,false_implies,true_and,and_true,implies_true,bne_self_eq_false,beq_self_eq_true,reduceCtorEq]
   repeat' first|refine zc8 ?_|(refine zc5 ?_;simp (maxSteps:=2000000) only [go_sem,jq,jj,jy,jv,jk,jx])|refine zc3 ?_
   refine zc9 rfl (fun hz=>?_) (fun hz=>?_)
   ·cases hz
   refine Wk ?_
   refine ⟨j+1,by omega,by omega,zjB (zjA hlj (by omega))⟩
  have hgm:=okx4.2.1.2.max
  refine Wk ?_
  refine zoe (ι:=Nat × Hp) (fun i=>⟨[(2,true,.c (.v (.bool false))),(3,true,.c (.p 0 0)),(4,true,.c (.p 1 0)),(8,true,.c (.p 2 0)),(94,true,.c (.v (.int .i64 x.chart.segments.l.length))),(95,true,.c (.v (.int .i64 i.1)))],[(0,.box 40 [.v (.int .i64 x.forecast.tide.mean),.v x.forecast.tide.parts.val,.v x.forecast.surges.val,.v x.chart.points.val,.v x.chart.segments.val,.v x.fleet.val,.v (.int .i64 x.regime.gap),.v (.bool x.regime.noMeet),.v (.int .i64 x.crew.tugs),.v (.int .i64 x.crew.pilots),.v (.int .i64 x.crew.rest),.v x.crew.moves.val]),(1,.box 42 [.v (.int .i64 a.ship),.v (.int .i64 a.src),.v (.int .i64 a.dst),.v (.int .i64 a.ready),.v (.int .i64 a.due)]),(2,.box 40 [.v (.int .i64 y.forecast.tide.mean),.v y.forecast.tide.parts.val,.v y.forecast.surges.val,.v y.chart.points.val,.v y.chart.segments.val,.v y.fleet.val,.v (.int .i64 y.regime.gap),.v (.bool y.regime.noMeet),.v (.int .i64 y.crew.tugs),.v (.int .i64 y.crew.pilots),.v (.int .i64 y.crew.rest),.v y.crew.moves.val])],i.2,3⟩)
   (fun i=>i.1≤x.chart.segments.l.length∧h4.le i.2) (fun i=>x.chart.segments.l.length - i.1) (0,h4) ⟨Nat.zero_le _,Hp.le_refl _⟩ [0,1,2] ?_ ?_
  ·refine Evs ?_
   exact Gk
  rintro ⟨i,h5⟩ ⟨hi2,le5⟩
  simp only at hi2 le5
  have okx5:=Enc.mono (x:=x) le5 okx4
  refine Wk ?_
  refine zc9 rfl (fun hd2=>?_) (fun hd2=>?_)
  case refine_2 =>
   have oky5:=Enc.mono (x:=y) le5 oky4
   refine Wk ?_
   refine zhF (fun _=>zvz y _ oky5) ?_
   simp (maxSteps:=2000000) only [go_sem,jq,jj,jy,jv,jk,jx,show zvo (Con.con y)=true by rw [ey];exact rs3]
   exact Wk0
  have hlk:=zjH hd2
  have hcd:(zEf (zwO (Con.con y.forecast) (Con.con x.chart) i x.fleet.l[a.ship.toNat]) < zEf (zwO (Con.con x.forecast) (Con.con x.chart) i x.fleet.l[a.ship.toNat]))=False:=eq_false (by
   have h9:=rs2 i x.fleet.l[a.ship.toNat]
   rw [ey1];omega)
  repeat' first|refine Wa ?_|(simp (maxSteps:=2000000) only [go_sem,jq,jj,jy,jv,jk,jx,zlT okx5.2.2.1 hsi,zk0 okx5.2.2.1 hsi,okx5.2.2.1.some hsi,hsi,hs0,hs1,jW,implies_true,true_and,and_true,and_self];try rfl)|refine Wb ?_|fail
  refine znv rfl ?_
  refine U_t [0,2,4,5,8,10,12,13,1,3,9,11] rfl ?_
  simp (maxSteps:=2000000) only [go_sem,jq,jj,jy,jv,jk,jx,hcd,zk0 okx5.2.2.1 hsi,zlT okx5.2.2.1 hsi,jW,decide_false,Bool.not_true,Bool.not_false,Bool.true_or,Bool.or_true,Bool.or_false,Bool.false_or,Bool.and_true,Bool.true_and,Bool.and_false,Bool.false_and,Bool.false_eq_true,false_implies,true_and,and_true,implies_true,bne_self_eq_false,beq_self_eq_true,reduceCtorEq]
  refine U_1 6 0 [11,9,13,10,8] rfl rfl ?_
  simp (maxSteps:=2000000) only [go_sem,jq,jj,jy,jv,jk,jx,hcd,zk0 okx5.2.2.1 hsi,zlT okx5.2.2.1 hsi,jW,decide_false,Bool.not_true,Bool.not_false,Bool.true_or,Bool.or_true,Bool.or_false,Bool.false_or,Bool.and_true,Bool.true_and,Bool.and_false,Bool.false_and,Bool.false_eq_true,false_implies,true_and,and_true,implies_true,bne_self_eq_false,beq_self_eq_true,reduceCtorEq]
  refine zkj (zwR y.forecast x.chart i x.fleet.l[a.ship.toNat] _ (Enc.mono (x:=y) le5 oky4).1 okx5.2.1 (okx5.2.2.1.el hsi)) rfl ?_
  rintro v h6 le6 ⟨w1,rfl,ew1,okw1,_⟩
  have okx6:=Enc.mono (x:=x) le6 okx5
  refine Evs ?_
  refine U_1 7 0 [11,9,13,10,8] rfl rfl ?_
  simp (maxSteps:=2000000) only [go_sem,jq,jj,jy,jv,jk,jx,hcd,zk0 okx5.2.2.1 hsi,zlT okx5.2.2.1 hsi,jW,decide_false,Bool.not_true,Bool.not_false,Bool.true_or,Bool.or_true,Bool.or_false,Bool.false_or,Bool.and_true,Bool.true_and,Bool.and_false,Bool.false_and,Bool.false_eq_true,false_implies,true_and,and_true,implies_true,bne_self_eq_false,beq_self_eq_true,reduceCtorEq]
  refine zhF (fun _=>zEs w1 _ okw1) ?_
  simp (maxSteps:=2000000) only [go_sem,jq,jj,jy,jv,jk,jx,ew1]
  refine U_1 14 0 [] rfl rfl ?_
  simp (maxSteps:=2000000) only [go_sem,jq,jj,jy,jv,jk,jx,hcd,zk0 okx5.2.2.1 hsi,zlT okx5.2.2.1 hsi,jW,decide_false,Bool.not_true,Bool.not_false,Bool.true_or,Bool.or_true,Bool.or_false,Bool.false_or,Bool.and_true,Bool.true_and,Bool.and_false,Bool.false_and,Bool.false_eq_true,false_implies,true_and,and_true,implies_true,bne_self_eq_false,beq_self_eq_true,reduceCtorEq]
  refine zkj (zwR x.forecast x.chart i x.fleet.l[a.ship.toNat] _ okx6.1 okx6.2.1 (okx6.2.2.1.el hsi)) rfl ?_
  rintro v h7 le7 ⟨w2,rfl,ew2,okw2,_⟩
  refine Evs ?_
  refine U_1 15 0 [] rfl rfl ?_
  simp (maxSteps:=2000000) only [go_sem,jq,jj,jy,jv,jk,jx,hcd,zk0 okx5.2.2.1 hsi,zlT okx5.2.2.1 hsi,jW,decide_false,Bool.not_true,Bool.not_false,Bool.true_or,Bool.or_true,Bool.or_false,Bool.false_or,Bool.and_true,Bool.true_and,Bool.and_false,Bool.false_and,Bool.false_eq_true,false_implies,true_and,and_true,implies_true,bne_self_eq_false,beq_self_eq_true,reduceCtorEq]
  refine zhF (fun _=>zEs w2 _ okw2) ?_
  simp (maxSteps:=2000000) only [go_sem,jq,jj,jy,jv,jk,jx,ew2,hcd,decide_false]
  refine U_t [16] rfl ?_
  simp (maxSteps:=2000000) only [go_sem,jq,jj,jy,jv,jk,jx,hcd,zk0 okx5.2.2.1 hsi,zlT okx5.2.2.1 hsi,jW,decide_false,Bool.not_true,Bool.not_false,Bool.true_or,Bool.or_true,Bool.or_false,Bool.false_or,Bool.and_true,Bool.true_and,Bool.and_false,Bool.false_and,Bool.false_eq_true,false_implies,true_and,and_true,implies_true,bne_self_eq_false,beq_self_eq_true,reduceCtorEq]
  refine U_d ?_
  repeat' first|refine zc8 ?_|(refine zc5 ?_;simp (maxSteps:=2000000) only [go_sem,jq,jj,jy,jv,jk,jx])|refine zc3 ?_
  refine zc9 rfl (fun hz=>?_) (fun hz=>?_)
  ·cases hz
  refine Wk ?_
  refine ⟨(i+1,_),[0,1,2],⟨by omega,Hp.le_trans le5 (Hp.le_trans le6 le7)⟩,by simp only;omega,?_⟩
  simp (maxSteps:=2000000) only [go_sem,jq,jj,jy,jv,jk,jx,zjA hlk (by omega)]
  exact Gk
theorem zE2 {x:DHarbour} {a:DCall} {r:List Int} (hok:zvB (Con.con x) a=true) (hb:zyd (Con.con x.chart) a.src a.dst=some r) :
  (zCt (Con.con x.forecast) (Con.con x.chart) (zyD (Con.con x) a) a.src r a.ready=none→zyB (Con.con x.forecast) (Con.con x.chart) (zyD (Con.con x) a) a.src r a.ready=none) ∧
  ∀ l,zCt (Con.con x.forecast) (Con.con x.chart) (zyD (Con.con x) a) a.src r a.ready=some l→∃ pl,Voy x a r (l.getD 0 0) pl l∧pl.length=r.length+1∧a.ready≤l.getD 0 0∧(0≤l.getD 0 0∧l.getD 0 0≤2880) ∧
   (a.ready < l.getD 0 0→zyB (Con.con x.forecast) (Con.con x.chart) (zyD (Con.con x) a) a.src r (l.getD 0 0 - 1)=none):=by
 obtain ⟨_,_,_,_,_,_,_,_,_,_,hr0,hr1,hr2,hr3⟩:=zyE hok
 refine ⟨fun h=>?_,fun l h=>?_⟩
 ·rw [zCt,show max a.ready 0=a.ready by omega] at h
  exact zC0 rfl h a.ready (Int.le_refl _) hr1
 ·obtain ⟨t,pl,h1,h2,V,h3,h4⟩:=zC2 hok hb hr0 h
  rw [h3]
  exact ⟨pl,V,zw4 V.pk,h1,h2,fun hlt=>h4 (t - 1) (by omega) (by omega)⟩
end Go.Proofs.Ytdeflkhkfmjckaa
