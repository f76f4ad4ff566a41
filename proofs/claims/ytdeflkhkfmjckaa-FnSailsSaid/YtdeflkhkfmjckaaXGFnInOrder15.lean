/- What functions of the given program compute, as contracts. -/
import Derived.Test.YtdeflkhkfmjckaaSGFnInOrderx14
import Derived.Test.YtdeflkhkfmjckaaSGFnInOrderx3
import Derived.Test.YtdeflkhkfmjckaaXGFnInOrder12
import Derived.Test.YtdeflkhkfmjckaaXGFnInOrder13
import Derived.Test.YtdeflkhkfmjckaaXGFnInOrder6
import Derived.Test.YtdeflkhkfmjckaaXGFnInOrder9
set_option linter.unusedVariables false
set_option linter.unusedSimpArgs false
set_option maxRecDepth 4000
open Nat renaming reduceAdd → jq, reduceMul → jj, reduceBEq → jy, reduceLeDiff → jv, reduceLT → jk, reduceEqDiff → jx
open Bool renaming or_eq_false_iff → jp, or_eq_true → jQ, and_eq_true → jJ
open Int renaming toNat_natCast → jW, natCast_nonneg → jY
open Go.Proofs.Try renaming prog → jV
namespace Go.Proofs.Ytdeflkhkfmjckaa
open Go Go.SL
set_option maxHeartbeats 1000000
def GC0 (a:DCall):Prop:=((a.src=0∧a.dst=3)∨(a.src=3∧a.dst=0))∧(0≤a.ready∧a.ready≤435)∧(a.ready+60≤a.due∧a.due < a.ready+460)
theorem zDF {h:Hp} {a:DCall} (H:GC0 a) (hs:I64 a.ship):Enc.ok h a:=by
 obtain ⟨h1,h2,h3⟩:=H
 refine ⟨hs,?_,?_,?_,?_⟩ <;> unfold I64 <;> omega
set_option maxRecDepth 30000 in
theorem zDG (sh:Int) (c:Sl U8) (h:Hp) (b:Nat) (H:Cu 151 c h b):Cw jV 42 [.pointer (some ⟨b,0,none⟩),.int .i64 sh] h (fun k=>k=b) fun v h'=>∃ a:DCall,(v=a.v∧a.ship=sh∧GC0 a)∧Cg 151 c h b h':=by
 refine zlh (fun A W=>by simp) Try.func42 rfl rfl (by simp)  (fun q hq=>by rw [hq];exact H.ne) fun W0 hW=>?_
 have own:W0.own b:=hW b rfl
 (first|refine zie rfl ?_|refine zc4 rfl ?_|(refine zc3 ?_;first|refine zie rfl ?_|refine zc4 rfl ?_));simp only [go_sem,jq,jj,jy,jv,jk,jx]
 first|refine zmR [0,0,1] rfl ?_|refine zmQ [0,0,1] rfl ?_|(refine zc3 ?_;first|refine zmR [0,0,1] rfl ?_|refine zmQ [0,0,1] rfl ?_)
 refine Evs ?_
 refine zli (zDb c 30 _ b H (by decide)) rfl (fun q hq=>⟨by rw [hq];exact H.ne,.inr (hq ▸ own)⟩) ?_
 rintro v h1 - ⟨k1,⟨rfl,a1,b1⟩,G1⟩
 have C1:=G1.1
 refine Evs ?_
 rw [zjz (n:=15 * k1) (by omega)]
 first|refine zmR [0,1] rfl ?_|refine zmQ [0,1] rfl ?_|(refine zc3 ?_;first|refine zmR [0,1] rfl ?_|refine zmQ [0,1] rfl ?_)
 refine Evs ?_
 refine zli (zDc c 3 _ b C1 (by decide)) rfl (fun q hq=>⟨by rw [hq];exact C1.ne,.inr (hq ▸ own)⟩) ?_
 rintro v h2 - ⟨q2,rfl,G2⟩
 have C2:=G2.1
 refine Evs ?_
 repeat' first|refine zc8 ?_|(refine zc5 ?_;simp only [go_sem,jq,jj,jy,jv,jk,jx])|refine zc3 ?_
 refine zod (ι:=Int × Int) (fun i=>⟨[(0,true,.c (.v (.pointer (some ⟨b,0,none⟩)))),(4,true,.c (.p 0 0)),(5,true,.c (.p 1 0))],[(0,.box 42 [.v (.int .i64 0),.v (.int .i64 0),.v (.int .i64 0),.v (.int .i64 0),.v (.int .i64 0)]),(1,.box 42 [.v (.int .i64 sh),.v (.int .i64 i.1),.v (.int .i64 i.2),.v (.int .i64 (15 * k1)),.v (.int .i64 0)])],h2,2⟩)
  (fun i=>(i.1=0∧i.2=3)∨(i.1=3∧i.2=0)) (fun _=>rfl) ?_ ?_
 ·refine zc9 rfl (fun hq=>?_) (fun hq=>?_)
  ·refine Wk ?_
   refine ⟨(3,0),[0,1],.inr ⟨rfl,rfl⟩,?_⟩
   refine Evs ?_
   repeat' first|exact rfl|exact trivial|assumption|decide|refine And.intro ?_ ?_
  ·repeat' first|refine zc8 ?_|(refine zc5 ?_;simp only [go_sem,jq,jj,jy,jv,jk,jx])|refine zc3 ?_
   refine ⟨(0,3),[0,1],.inl ⟨rfl,rfl⟩,?_⟩
   refine Evs ?_
   repeat' first|exact rfl|exact trivial|assumption|decide|refine And.intro ?_ ?_
 rintro ⟨i1,i2⟩ hi
 simp only at hi
 repeat' first|refine zc8 ?_|(refine zc5 ?_;simp only [go_sem,jq,jj,jy,jv,jk,jx])|refine zc3 ?_
 refine znv rfl ?_
 refine U_t [0,3,1,2] rfl ?_
 refine Evs ?_
 refine U_1 4 1 [2,1,0] rfl rfl ?_
 refine Evs ?_
 refine zli (zDb c 400 _ b C2 (by decide)) rfl (fun q hq=>⟨by rw [hq];exact C2.ne,.inr (hq ▸ own)⟩) ?_
 rintro v h3 - ⟨k3,⟨rfl,a3,b3⟩,G3⟩
 have C3:=G3.1
 refine Evs ?_
 refine U_t [5,6] rfl ?_
 refine Evs ?_
 refine U_1 7 0 [] rfl rfl ?_
 refine Evs ?_
 refine U_d ?_
 rw [zjz (n:=15 * k1+60) (by omega),zjz (n:=15 * k1+60+k3) (by omega)]
 refine Wk ?_
 exact ⟨⟨sh,i1,i2,15 * k1,15 * k1+60+k3⟩,⟨rfl,rfl,hi,(by show 0≤15 * k1∧15 * k1≤435;omega),(by show 15 * k1+60≤15 * k1+60+k3∧15 * k1+60+k3 < 15 * k1+460;omega)⟩,(G1.trans G2).trans G3⟩
set_option maxRecDepth 30000 in
theorem zDH (c:Sl U8) (h:Hp) (hc:c.Ok h):Ct jV 9 [c.val] h fun v h'=>∃ (x:DHarbour) (a:DCall),v=.tuple #[x.v,a.v]∧zCJ x∧zCK x a∧Enc.ok h' x∧Enc.ok h' a:=by
 refine zdn (fun A W=>by simp) Try.func9 rfl rfl (by simp) fun W0=>?_
 (first|refine zie rfl ?_|refine zc4 rfl ?_|(refine zc3 ?_;first|refine zie rfl ?_|refine zc4 rfl ?_));simp only [go_sem,jq,jj,jy,jv,jk,jx]
 (first|refine zie rfl ?_|refine zc4 rfl ?_|(refine zc3 ?_;first|refine zie rfl ?_|refine zc4 rfl ?_));simp only [go_sem,jq,jj,jy,jv,jk,jx]
 refine zkj (zC7 c _ hc) rfl ?_
 rintro v h1 le1 ⟨b,rfl,hb,C1⟩
 refine Evs ?_
 first|refine zmR [0,1] rfl ?_|refine zmQ [0,1] rfl ?_|(refine zc3 ?_;first|refine zmR [0,1] rfl ?_|refine zmQ [0,1] rfl ?_)
 refine Evs ?_
 refine zli (zDz c _ b C1) rfl (fun q hq=>⟨by rw [hq];exact C1.ne,.inl (by rw [hq];exact hb)⟩) ?_
 rintro v h2 - ⟨x,⟨rfl,gx,okx⟩,G2⟩
 have C2:=G2.1
 refine Evs ?_
 have hfl:=gx.fleet.1
 repeat' first|refine zc8 ?_|(refine zc5 ?_;simp only [go_sem,jq,jj,jy,jv,jk,jx])|refine zc3 ?_
 refine znv rfl ?_
 refine U_t [0,1,2,3,4,5] rfl ?_
 refine Evs ?_
 refine U_1 6 1 [0] rfl rfl ?_
 refine Evs ?_
 refine zli (zDb c (x.fleet.l.length:Int) _ b C2 (by omega)) rfl (fun q hq=>⟨by rw [hq];exact C2.ne,.inl (by rw [hq];exact hb)⟩) ?_
 rintro v h3 - ⟨k3,⟨rfl,a3,b3⟩,G3⟩
 have C3:=G3.1
 refine Evs ?_
 refine U_1 7 1 [0] rfl rfl ?_
 refine Evs ?_
 refine zli (zDG k3 c _ b C3) rfl (fun q hq=>⟨by rw [hq];exact C3.ne,.inl (by rw [hq];exact hb)⟩) ?_
 rintro v h4 - ⟨a,⟨rfl,ea,ga⟩,G4⟩
 have C4:=G4.1
 refine Evs ?_
 refine U_1 8 0 [] rfl rfl ?_
 refine Evs ?_
 refine U_1 9 0 [] rfl rfl ?_
 refine Evs ?_
 refine U_d ?_
 refine Wk ?_
 have okx':=Enc.mono zoq (Enc.mono (G3.trans G4).2 okx)
 have ha:zCK x a:=⟨by rw [ea];omega,ga⟩
 exact ⟨x,a,rfl,gx,ha,okx',zDF ga (by rw [ea];unfold I64;omega)⟩
theorem zDI (c:Sl U8) (n:Nat) (h:Hp) (hc:c.Ok h) (hn:n≤100000):Ct jV 48 [c.val,.int .i64 n] h fun v h'=>∃ b,v=.pointer (some ⟨b,0,none⟩)∧h b=none∧Cu 151 c h' b:=by
 refine zdn (fun A W=>by simp) Try.func48 rfl rfl (by simp) fun W0=>?_
 (first|refine zie rfl ?_|refine zc4 rfl ?_|(refine zc3 ?_;first|refine zie rfl ?_|refine zc4 rfl ?_));simp only [go_sem,jq,jj,jy,jv,jk,jx]
 (first|refine zie rfl ?_|refine zc4 rfl ?_|(refine zc3 ?_;first|refine zie rfl ?_|refine zc4 rfl ?_));simp only [go_sem,jq,jj,jy,jv,jk,jx]
 refine zkj (zC7 c _ hc) rfl ?_
 rintro v h1 le1 ⟨b,rfl,hb,C1⟩
 refine Evs ?_
 (first|refine zie rfl ?_|refine zc4 rfl ?_|(refine zc3 ?_;first|refine zie rfl ?_|refine zc4 rfl ?_));simp only [go_sem,jq,jj,jy,jv,jk,jx]
 repeat' first|refine zc8 ?_|(refine zc5 ?_;simp only [go_sem,jq,jj,jy,jv,jk,jx])|refine zc3 ?_
 refine zoe (ι:=Nat × Hp) (fun i=>⟨[(1,true,.c (.v (.int .i64 n))),(4,true,.c (.v (.pointer none))),(5,true,.c (.v (.pointer (some ⟨b,0,none⟩)))),(6,true,.c (.v (.int .i64 i.1)))],[],i.2,0⟩)
  (fun i=>i.1≤n∧Cg 151 c h1 b i.2) (fun i=>n - i.1) (0,h1) ⟨Nat.zero_le _,Cg.refl C1⟩ [] ?_ ?_
 ·refine Evs ?_
  repeat' first|exact rfl|exact trivial|assumption|decide|refine And.intro ?_ ?_
 rintro ⟨i,hk⟩ ⟨hi,Gk⟩
 simp only at hi Gk
 have Ck:=Gk.1
 refine Wk ?_
 refine zc9 rfl (fun hd=>?_) (fun hd=>?_)
 ·have hlt:i < n:=by have:=of_decide_eq_true hd;omega
  repeat' first|refine zc8 ?_|(refine zc5 ?_;simp only [go_sem,jq,jj,jy,jv,jk,jx])|refine zc3 ?_
  first|refine zmR [0,1] rfl ?_|refine zmQ [0,1] rfl ?_|(refine zc3 ?_;first|refine zmR [0,1] rfl ?_|refine zmQ [0,1] rfl ?_)
  refine Evs ?_
  refine zli (zC9 c _ b Ck) rfl (fun q hq=>⟨by rw [hq];exact Ck.ne,.inl (by rw [hq];exact hb)⟩) ?_
  rintro v h3 - ⟨k3,⟨rfl,a3,b3⟩,G3⟩
  have C3:=G3.1
  refine Evs ?_
  repeat' first|refine zc8 ?_|(refine zc5 ?_;simp only [go_sem,jq,jj,jy,jv,jk,jx])|refine zc3 ?_
  (first|refine zie rfl ?_|refine zc4 rfl ?_|(refine zc3 ?_;first|refine zie rfl ?_|refine zc4 rfl ?_));simp only [go_sem,jq,jj,jy,jv,jk,jx]
  refine ⟨(i+1,h3),[],⟨hlt,Gk.trans G3⟩,(by show n - (i+1) < n - i;omega),?_⟩
  refine Evs ?_
  repeat' first|exact zjB (zjA hlt (by omega))|exact rfl|exact trivial|assumption|decide|refine And.intro ?_ ?_
 refine Wk ?_
 exact ⟨b,rfl,hb,Ck⟩
theorem zDJ (c:Sl U8) (n:Nat) (h:Hp) (hc:c.Ok h) (hn:n≤100000):Ct jV 12 [c.val,.int .i64 n] h fun v h'=>∃ k:Int,v=.int .i64 k∧0≤k∧k < 65536:=by
 refine zdn (fun A W=>by simp) Try.func12 rfl rfl (by simp) fun W0=>?_
 (first|refine zie rfl ?_|refine zc4 rfl ?_|(refine zc3 ?_;first|refine zie rfl ?_|refine zc4 rfl ?_));simp only [go_sem,jq,jj,jy,jv,jk,jx]
 (first|refine zie rfl ?_|refine zc4 rfl ?_|(refine zc3 ?_;first|refine zie rfl ?_|refine zc4 rfl ?_));simp only [go_sem,jq,jj,jy,jv,jk,jx]
 refine zkj (zDI c n _ hc hn) rfl ?_
 rintro v h1 le1 ⟨b,rfl,hb,C1⟩
 refine Evs ?_
 first|refine zmR [0,1,0,0,1] rfl ?_|refine zmQ [0,1,0,0,1] rfl ?_|(refine zc3 ?_;first|refine zmR [0,1,0,0,1] rfl ?_|refine zmQ [0,1,0,0,1] rfl ?_)
 refine Evs ?_
 refine zli (zC9 c _ b C1) rfl (fun q hq=>⟨by rw [hq];exact C1.ne,.inl (by rw [hq];exact hb)⟩) ?_
 rintro v h2 - ⟨k2,⟨rfl,a2,b2⟩,G2⟩
 have C2:=G2.1
 refine Evs ?_
 refine zli (zC9 c _ b C2) rfl (fun q hq=>⟨by rw [hq];exact C2.ne,.inl (by rw [hq];exact hb)⟩) ?_
 rintro v h3 - ⟨k3,⟨rfl,a3,b3⟩,G3⟩
 have C3:=G3.1
 refine Evs ?_
 rw [zjz (n:=k2 * 256) (by omega),zjz (n:=k2 * 256+k3) (by omega)]
 refine Wk ?_
 exact ⟨_,rfl,by omega,by omega⟩
set_option maxRecDepth 100000 in
theorem zDK (a0:Sl U8) (h:Hp) (oa0:a0.Ok h):Ct jV 3 [a0.val] h fun v h'=>v=.bool true:=by
 refine zdn (fun A W=>by simp) Try.func3 rfl rfl (by simp) fun W0=>?_
 refine Wk ?_
 refine zc9 rfl (fun hq=>?_) (fun hq=>?_)
 ·exact Wk0
 refine Wk ?_
 refine zkj (zDH a0 _ oa0) rfl ?_
 rintro v h1 le1 ⟨x,a,rfl,gx,ga,okx,oka⟩
 have hok:=zCU gx ga
 obtain ⟨r,hb⟩:=zCY gx ga
 obtain ⟨hfo,hch,⟨hsi,hsh,hso⟩,hs0,hs1,_,_,_,_,_,hr0,hr1,hr2,hr3⟩:=zyE hok
 have hca:(Con.con a:DCall)=a:=rfl
 have hbs:(zyd (Con.con x.chart) a.src a.dst).isSome=true:=by rw [hb];rfl
 repeat' first|refine Wa ?_|(simp only [go_sem,jq,jj,jy,jv,jk,jx,zlT okx.2.2.1 hsi,zk0 okx.2.2.1 hsi,okx.2.2.1.some hsi,hsi,hs0,hs1,jW,implies_true,true_and,and_true,and_self];try rfl)|refine Wb ?_|fail
 refine zkj (zyj x.chart a.src a.dst _ okx.2.1 oka.2.1) rfl ?_
 rintro v h2 le2 ⟨rs,rfl,er,okr⟩
 rw [hb] at er
 have er:rs.l=r:=er
 have hrz:rs.l.length≤1048576:=by rw [er];have:=zyf hb;omega
 have okx2:=Enc.mono (x:=x) le2 okx
 have oka2:=Enc.mono (x:=a) le2 oka
 simp only [go_sem,jq,jj,jy,jv,jk,jx,hbs]
 refine Wk ?_
 refine zkj (zC6 x.forecast x.chart x.fleet.l[a.ship.toNat] a.src rs a.ready _ okx2.1 okx2.2.1 (okx2.2.2.1.el hsi) oka2.2.1 okr (by omega) hrz) rfl ?_
 rintro v h3 le3 ⟨q,rfl,eq,okq⟩
 have okx3:=Enc.mono (x:=x) le3 okx2
 have oka3:=Enc.mono (x:=a) le3 oka2
 have okr3:=okr.mono le3
 obtain ⟨o1,ho1⟩:∃ o,zCt (Con.con x.forecast) (Con.con x.chart) x.fleet.l[a.ship.toNat] a.src rs.l a.ready=o:=⟨_,rfl⟩
 rw [ho1] at eq ⊢
 rw [er,← hsh] at ho1
 refine Evs ?_
 repeat' first|refine zc8 ?_|(refine zc5 ?_;simp only [go_sem,jq,jj,jy,jv,jk,jx])|refine zc3 ?_
 refine znv rfl ?_
 refine U_t [0,2,4,5,7,8,11,1,3,6,9,10] rfl ?_
 refine Evs ?_
 refine U_1 12 0 [10,9,6,3,1,8,5,4,2,0] rfl rfl ?_
 refine Evs ?_
 refine zkj (zDJ a0 90 _ (oa0.mono (Hp.le_trans (Hp.le_trans le1 le2) le3)) (by omega)) rfl ?_
 rintro v h4 le4 ⟨k,rfl,k0,k1⟩
 have okx4:=Enc.mono (x:=x) le4 okx3
 have oka4:=Enc.mono (x:=a) le4 oka3
 have okr4:=okr3.mono le4
 have okq4:=okq.mono le4
 have hk:=zDa (m:=200) k0 (by decide)
 have hw1:IntKind.i64.wrap (a.ready+1)=a.ready+1:=zjz (by omega)
 have hw2:IntKind.i64.wrap (a.ready+1+Int.tmod k 200)=a.ready+1+Int.tmod k 200:=zjz (by omega)
 have hrd2:a.ready+1+Int.tmod k 200≤100000:=by omega
 simp only [go_sem,jq,jj,jy,jv,jk,jx,zlT okx3.2.2.1 hsi,zk0 okx3.2.2.1 hsi,okx3.2.2.1.some hsi,hsi,hs0,hs1,jW,implies_true,true_and,and_true,and_self]
 refine U_t [13,14] rfl ?_
 simp only [go_sem,jq,jj,jy,jv,jk,jx,hw1,hw2]
 refine ⟨by decide,?_⟩
 try simp only [go_sem,jq,jj,jy,jv,jk,jx,hw1,hw2]
 refine U_1 15 0 [] rfl rfl ?_
 refine Evs ?_
 refine zkj (zC6 x.forecast x.chart x.fleet.l[a.ship.toNat] a.src rs _ _ okx4.1 okx4.2.1 (okx4.2.2.1.el hsi) oka4.2.1 okr4 hrd2 hrz) rfl ?_
 rintro v h5 le5 ⟨q2,rfl,eq2,okq2⟩
 refine Evs ?_
 refine U_t [16,17,18,19,20] rfl ?_
 refine Evs ?_
 refine U_d ?_
 have okx5:=Enc.mono (x:=x) le5 okx4
 have okr5:=okr4.mono le5
 have okq5:=okq4.mono le5
 obtain ⟨o2,ho2⟩:∃ o,zCt (Con.con x.forecast) (Con.con x.chart) x.fleet.l[a.ship.toNat] a.src rs.l (a.ready+1+Int.tmod k 200)=o:=⟨_,rfl⟩
 rw [ho2] at eq2 ⊢
 rw [er,← hsh] at ho2
 repeat' first|refine zc8 ?_|(refine zc5 ?_;simp only [go_sem,jq,jj,jy,jv,jk,jx])|refine zc3 ?_
 (first|refine zie rfl ?_|refine zc4 rfl ?_)
 simp only [go_sem,jq,jj,jy,jv,jk,jx,Bool.not_true,Bool.not_false,Bool.true_or,Bool.or_true,Bool.or_false,Bool.false_or,Bool.and_true,Bool.true_and,Bool.and_false,Bool.false_and,Bool.false_eq_true,false_implies,true_and,and_true,implies_true,bne_self_eq_false,beq_self_eq_true,reduceCtorEq]
 have hfk:zvk x.fleet.l=true:=by
  have h9:=hok
  rw [zvB,zvy] at h9
  simp only [jJ] at h9
  exact h9.1.1.1.2
 refine zhF (fun _=>zvq x.fleet.l[a.ship.toNat] _ (okx5.2.2.1.el hsi)) ?_
 simp only [go_sem,jq,jj,jy,jv,jk,jx,hso,Bool.not_true,Bool.not_false,Bool.true_or,Bool.or_true,Bool.or_false,Bool.false_or,Bool.and_true,Bool.true_and,Bool.and_false,Bool.false_and,Bool.false_eq_true,false_implies,true_and,and_true,implies_true,bne_self_eq_false,beq_self_eq_true,reduceCtorEq]
 refine zhF (fun _=>zvr x.fleet _ okx5.2.2.1) ?_
 simp only [go_sem,jq,jj,jy,jv,jk,jx,hfk,Bool.not_true,Bool.not_false,Bool.true_or,Bool.or_true,Bool.or_false,Bool.false_or,Bool.and_true,Bool.true_and,Bool.and_false,Bool.false_and,Bool.false_eq_true,false_implies,true_and,and_true,implies_true,bne_self_eq_false,beq_self_eq_true,reduceCtorEq]
 repeat' first|refine zc8 ?_|(refine zc5 ?_;simp only [go_sem,jq,jj,jy,jv,jk,jx])|refine zc3 ?_
 refine zc9 rfl (fun hz=>?_) (fun hz=>?_)
 ·cases hz
 refine Wk ?_
 refine zc9 rfl (fun hz2=>?_) (fun hz2=>?_)
 ·cases o2 with
  | some y=>cases hz2
  | none =>
   have e2:((q2.l.length:Int) == 0)=true:=by rw [eq2];rfl
   repeat' first|refine Wa ?_|(simp only [go_sem,jq,jj,jy,jv,jk,jx,e2];try rfl)|refine Wb ?_|fail
 cases o2 with
 | none=>cases hz2
 | some y =>
  obtain ⟨l,hl,n1,n2,hle⟩:=zC3 hok hb (m:=a.ready) (m':=a.ready+1+k.tmod 200) hr0 (by omega) ho2
  rw [ho1] at hl
  subst hl
  have eq:q.l=l:=eq
  have eq2:q2.l=y:=eq2
  have ql:q.l.length=rs.l.length:=by rw [eq,er,n1]
  have q2l:q2.l.length=rs.l.length:=by rw [eq2,er,n2]
  have hle:(zxJ (Con.con x.chart) x.fleet.l[a.ship.toNat] rs.l q.l≤zxJ (Con.con x.chart) x.fleet.l[a.ship.toNat] rs.l q2.l)=True:=eq_true (by rw [eq,eq2,er,← hsh];exact hle)
  repeat' first|refine zc8 ?_|(refine zc5 ?_;simp only [go_sem,jq,jj,jy,jv,jk,jx])|refine zc3 ?_
  refine znv rfl ?_
  refine U_t [0,1,2,4,3,5,6,7,8,9,11,10,12,13,14,15,16,18,19,20,22,24,25,26,17,23] rfl ?_
  simp only [go_sem,jq,jj,jy,jv,jk,jx,Option.isSome_some,ql,q2l,decide_true,beq_self_eq_true,hle,Bool.not_true,Bool.not_false,Bool.true_or,Bool.or_true,Bool.or_false,Bool.false_or,Bool.and_true,Bool.true_and,Bool.and_false,Bool.false_and,Bool.false_eq_true,false_implies,true_and,and_true,implies_true,bne_self_eq_false,beq_self_eq_true,reduceCtorEq]
  refine U_1 21 0 [23,24,22] rfl rfl ?_
  simp only [go_sem,jq,jj,jy,jv,jk,jx,Option.isSome_some,ql,q2l,decide_true,beq_self_eq_true,hle,Bool.not_true,Bool.not_false,Bool.true_or,Bool.or_true,Bool.or_false,Bool.false_or,Bool.and_true,Bool.true_and,Bool.and_false,Bool.false_and,Bool.false_eq_true,false_implies,true_and,and_true,implies_true,bne_self_eq_false,beq_self_eq_true,reduceCtorEq]
  refine zhF (fun _=>zxS x.chart x.fleet.l[a.ship.toNat] rs q _ okx5.2.1 (okx5.2.2.1.el hsi) okr5 okq5) ?_
  simp only [go_sem,jq,jj,jy,jv,jk,jx,ql,q2l,hle,decide_true,Bool.not_true,Bool.not_false,Bool.true_or,Bool.or_true,Bool.or_false,Bool.false_or,Bool.and_true,Bool.true_and,Bool.and_false,Bool.false_and,Bool.false_eq_true,false_implies,true_and,and_true,implies_true,bne_self_eq_false,beq_self_eq_true,reduceCtorEq]
  refine U_1 27 0 [] rfl rfl ?_
  simp only [go_sem,jq,jj,jy,jv,jk,jx,Option.isSome_some,ql,q2l,decide_true,beq_self_eq_true,hle,Bool.not_true,Bool.not_false,Bool.true_or,Bool.or_true,Bool.or_false,Bool.false_or,Bool.and_true,Bool.true_and,Bool.and_false,Bool.false_and,Bool.false_eq_true,false_implies,true_and,and_true,implies_true,bne_self_eq_false,beq_self_eq_true,reduceCtorEq]
  refine zhF (fun _=>zxS x.chart x.fleet.l[a.ship.toNat] rs q2 _ okx5.2.1 (okx5.2.2.1.el hsi) okr5 okq2) ?_
  simp only [go_sem,jq,jj,jy,jv,jk,jx,ql,q2l,hle,decide_true,Bool.not_true,Bool.not_false,Bool.true_or,Bool.or_true,Bool.or_false,Bool.false_or,Bool.and_true,Bool.true_and,Bool.and_false,Bool.false_and,Bool.false_eq_true,false_implies,true_and,and_true,implies_true,bne_self_eq_false,beq_self_eq_true,reduceCtorEq]
  refine U_t [28,29,30] rfl ?_
  simp only [go_sem,jq,jj,jy,jv,jk,jx,Option.isSome_some,ql,q2l,decide_true,beq_self_eq_true,hle,Bool.not_true,Bool.not_false,Bool.true_or,Bool.or_true,Bool.or_false,Bool.false_or,Bool.and_true,Bool.true_and,Bool.and_false,Bool.false_and,Bool.false_eq_true,false_implies,true_and,and_true,implies_true,bne_self_eq_false,beq_self_eq_true,reduceCtorEq]
  refine U_d ?_
  exact Wk0
open Go Go.SL Go.RowKit Go.ChangeShapes Go.WideShapes Go.ChangeAt Go.Deep
theorem Try.own:ownKnob Try.prog.godebug=none:=by kernel_rfl
theorem Try.laidOut:laidOutB jV=true:=by kernel_rfl
set_option maxRecDepth 100000 in
theorem zDL (a0:Sl U8) (h:Hp) (oa0:a0.Ok h):Ct jV 5 [a0.val] h fun v h'=>v=.bool true:=by
 refine zdn (fun A W=>by simp) Try.func5 rfl rfl (by simp) fun W0=>?_
 refine Wk ?_
 refine zc9 rfl (fun hq=>?_) (fun hq=>?_)
 ·exact Wk0
 refine Wk ?_
 refine zkj (zDH a0 _ oa0) rfl ?_
 rintro v h1 le1 ⟨x,a,rfl,gx,ga,okx,oka⟩
 have hok:=zCU gx ga
 have hca:(Con.con a:DCall)=a:=rfl
 refine Wk ?_
 refine zkj (zzc x a _ okx oka) rfl ?_
 rintro v h2 le2 ⟨s,rfl,es,oks,_⟩
 have okx2:=Enc.mono (x:=x) le2 okx
 have oka2:=Enc.mono (x:=a) le2 oka
 have hsm:=oks.max
 have es:(Con.con s:List POption)=zy1 (Con.con x) a:=es
 have hsl:(zy1 (Con.con x) a).length=s.l.length:=by rw [← es,zkq,List.length_map]
 refine Wk ?_
 refine zhF (fun _=>zvE x a _ okx2 oka2) ?_
 simp only [go_sem,jq,jj,jy,jv,jk,jx,hca,hok,Bool.not_true,Bool.not_false,Bool.true_or,Bool.or_true,Bool.or_false,Bool.false_or,Bool.and_true,Bool.true_and,Bool.and_false,Bool.false_and,Bool.false_eq_true,false_implies,true_and,and_true,implies_true,bne_self_eq_false,beq_self_eq_true,reduceCtorEq]
 repeat' first|refine zc8 ?_|(refine zc5 ?_;simp only [go_sem,jq,jj,jy,jv,jk,jx])|refine zc3 ?_
 refine zc9 rfl (fun hz=>?_) (fun hz=>?_)
 ·cases hz
 refine Wk ?_
 refine zc9 rfl (fun hz=>?_) (fun hz=>?_)
 ·have hl0:s.l.length=0:=by simpa using hz
  have hnil:zy1 (Con.con x) a=[]:=List.eq_nil_of_length_eq_zero (by rw [hsl,hl0])
  refine Wk ?_
  refine zkj (zBU x a ⟨0,0,0,⟨none,0,[]⟩⟩ _ okx2 oka2 ⟨by unfold I64;decide,by unfold I64;decide,by unfold I64;decide,zmo⟩ (by decide)) rfl ?_
  rintro v h3 le3 ⟨c,rfl,ec,okc,_⟩
  have e0:zBO (Con.con x) a (Con.con (⟨0,0,0,⟨none,0,[]⟩⟩:DOption))=[]:=zCi hnil
  have hc0:((c.l.length:Int) == 0)=true:=by
   rw [hca,e0,zkq] at ec
   have:=congrArg List.length ec
   rw [List.length_map] at this
   rw [this];rfl
  simp only [go_sem,jq,jj,jy,jv,jk,jx,hc0]
  exact Wk0
 have hl0:0 < s.l.length:=by
  rcases Nat.eq_zero_or_pos s.l.length with h9|h9
  ·rw [h9] at hz;cases hz
  ·exact h9
 have hne:zy1 (Con.con x) a ≠ []:=fun h9=>by rw [h9] at hsl;have:s.l.length=0:=hsl.symm;omega
 have hn1:s.l.length - 1 < s.l.length:=by omega
 have hwn:IntKind.i64.wrap ((s.l.length:Int) - 1)=((s.l.length - 1:Nat):Int):=by rw [zjz (by omega)];omega
 have hold:(Con.con s.l[s.l.length - 1]:POption)=(zy1 (Con.con x) a).getLast hne:=by
  have h9:=List.getLast?_eq_some_getLast hne
  have h8:(Con.con s:List POption)[s.l.length - 1]?=some (Con.con s.l[s.l.length - 1]):=by rw [zkq,List.getElem?_map,List.getElem?_eq_getElem hn1];rfl
  rw [List.getLast?_eq_getElem?,hsl] at h9
  rw [es,h9] at h8
  exact (Option.some.inj h8).symm
 have okold:=oks.el hn1
 have hzo:Sz.sz (Con.con s.l[s.l.length - 1])≤1048576:=by
  rw [hold]
  exact Nat.le_trans (zBQ (zB8 (List.getLast_mem hne))) (Nat.le_of_ble_eq_true rfl)
 repeat' first|refine Wa ?_|(simp only [go_sem,jq,jj,jy,jv,jk,jx,zkC oks hn1,oks.some hn1,hn1,hwn,jW,jY];try rfl)|refine Wb ?_|fail
 refine zkj (zBU x a s.l[s.l.length - 1] _ okx2 oka2 okold hzo) rfl ?_
 rintro v h3 le3 ⟨c,rfl,ec,okc,_⟩
 have ec:(Con.con c:List POption)=zBO (Con.con x) a (Con.con s.l[s.l.length - 1]):=ec
 rw [hold,zCj hok hne,zkq] at ec
 have hcl:c.l.length=s.l.length:=by
  have:=congrArg List.length ec
  rw [List.length_map,List.length_cons,List.length_dropLast,hsl] at this
  omega
 have okold3:=Enc.mono (x:=s.l[s.l.length - 1]) le3 okold
 have oks3:=oks.mono le3
 have hc0:0 < c.l.length:=by omega
 have hc0i:(0:Int) < c.l.length:=by omega
 have hl0i:(0:Int) < s.l.length:=by omega
 have hat0:=zkC okc hc0
 have hat0':=hat0
 simp only [Nat.zero_mul,zmA,zmB] at hat0'
 have hcg:∀ i (hi:i < c.l.length),(Con.con c.l[i]:POption)=(if i=0 then (zy1 (Con.con x) a).getLast hne else (zy1 (Con.con x) a).getD (i - 1) zeroO):=fun i hi=>by
  have h9:(c.l.map (Con.con (α:=DOption)))[i]?=some (Con.con c.l[i]):=by rw [List.getElem?_map,List.getElem?_eq_getElem hi];rfl
  rw [ec] at h9
  cases i with
  | zero=>rw [if_pos rfl];exact (Option.some.inj h9).symm
  | succ i =>
   rw [if_neg (Nat.succ_ne_zero i),Nat.add_sub_cancel]
   rw [List.getElem?_cons_succ,List.getElem?_dropLast,if_pos (by omega)] at h9
   rw [List.getD_eq_getElem?_getD,h9];rfl
 have hsame:zut (Con.con c.l[0]) (Con.con s.l[s.l.length - 1])=true:=by
  rw [hcg 0 hc0,if_pos rfl,hold];exact decide_eq_true rfl
 repeat' first|refine zc8 ?_|(refine zc5 ?_;simp only [go_sem,jq,jj,jy,jv,jk,jx])|refine zc3 ?_
 refine znv rfl ?_
 refine U_t [0,2,1,3,4,5,6,9,7,8] rfl ?_
 simp only [go_sem,jq,jj,jy,jv,jk,jx,hat0,hat0',okc.some hc0,hc0,hc0i,hl0,hl0i,Int.toNat_zero,Nat.zero_mul,Int.le_refl,zmA,zmB,hcl,Bool.not_true,Bool.not_false,Bool.true_or,Bool.or_true,Bool.or_false,Bool.false_or,Bool.and_true,Bool.true_and,Bool.and_false,Bool.false_and,Bool.false_eq_true,false_implies,true_and,and_true,implies_true,bne_self_eq_false,beq_self_eq_true,reduceCtorEq]
 refine U_1 10 0 [] rfl rfl ?_
 simp only [go_sem,jq,jj,jy,jv,jk,jx,hat0,hat0',okc.some hc0,hc0,hc0i,hl0,hl0i,Int.toNat_zero,Nat.zero_mul,Int.le_refl,zmA,zmB,hcl,Bool.not_true,Bool.not_false,Bool.true_or,Bool.or_true,Bool.or_false,Bool.false_or,Bool.and_true,Bool.true_and,Bool.and_false,Bool.false_and,Bool.false_eq_true,false_implies,true_and,and_true,implies_true,bne_self_eq_false,beq_self_eq_true,reduceCtorEq]
 refine zhF (fun _=>zuv c.l[0] s.l[s.l.length - 1] _ (Sl.Ok.el okc hc0) okold3) ?_
 simp only [go_sem,jq,jj,jy,jv,jk,jx,hsame,hat0,hat0',okc.some hc0,hc0,hc0i,hl0,hl0i,Int.toNat_zero,Nat.zero_mul,Int.le_refl,zmA,zmB,hcl,Bool.not_true,Bool.not_false,Bool.true_or,Bool.or_true,Bool.or_false,Bool.false_or,Bool.and_true,Bool.true_and,Bool.and_false,Bool.false_and,Bool.false_eq_true,false_implies,true_and,and_true,implies_true,bne_self_eq_false,beq_self_eq_true,reduceCtorEq]
 refine U_t [11,12] rfl ?_
 simp only [go_sem,jq,jj,jy,jv,jk,jx,hat0,hat0',okc.some hc0,hc0,hc0i,hl0,hl0i,Int.toNat_zero,Nat.zero_mul,Int.le_refl,zmA,zmB,hcl,Bool.not_true,Bool.not_false,Bool.true_or,Bool.or_true,Bool.or_false,Bool.false_or,Bool.and_true,Bool.true_and,Bool.and_false,Bool.false_and,Bool.false_eq_true,false_implies,true_and,and_true,implies_true,bne_self_eq_false,beq_self_eq_true,reduceCtorEq]
 refine U_d ?_
 repeat' first|refine zc8 ?_|(refine zc5 ?_;simp only [go_sem,jq,jj,jy,jv,jk,jx])|refine zc3 ?_
 refine zc9 rfl (fun hz=>?_) (fun hz=>?_)
 ·cases hz
 refine Wk ?_
 refine zde (ι:=Nat) (fun i=>⟨[(2,true,.c (.v (.bool false))),(5,true,.c (.v s.val)),(6,true,.c (.p 2 0)),(7,true,.c (.v c.val)),(8,true,.c (.v (.int .i64 i)))],[(0,.box 40 [.v (.int .i64 x.forecast.tide.mean),.v x.forecast.tide.parts.val,.v x.forecast.surges.val,.v x.chart.points.val,.v x.chart.segments.val,.v x.fleet.val,.v (.int .i64 x.regime.gap),.v (.bool x.regime.noMeet),.v (.int .i64 x.crew.tugs),.v (.int .i64 x.crew.pilots),.v (.int .i64 x.crew.rest),.v x.crew.moves.val]),(1,.box 42 [.v (.int .i64 a.ship),.v (.int .i64 a.src),.v (.int .i64 a.dst),.v (.int .i64 a.ready),.v (.int .i64 a.due)]),(2,.box 69 [.v (.int .i64 s.l[s.l.length - 1].start),.v (.int .i64 s.l[s.l.length - 1].arr),.v (.int .i64 s.l[s.l.length - 1].cost),.v s.l[s.l.length - 1].pas.val])],h3,3⟩)
  (fun i=>1≤i∧i≤c.l.length) (fun i=>c.l.length - i) 1 ⟨Nat.le_refl _,hc0⟩ ?_ ?_
 ·refine Evs ?_
  exact Gk
 intro i hi
 refine Wk ?_
 refine zc9 rfl (fun hd=>?_) (fun hd=>?_)
 ·have hlt:=zjH hd
  have hi1:i - 1 < s.l.length:=by omega
  have hii:(i:Int) < c.l.length:=by omega
  have hi1i:((i - 1:Nat):Int) < s.l.length:=by omega
  have hw:IntKind.i64.wrap ((i:Int) - 1)=((i - 1:Nat):Int):=by rw [zjz (by omega)];omega
  have hci:=hcg i hlt
  rw [if_neg (by omega)] at hci
  have hsi1:(Con.con s.l[i - 1]:POption)=(zy1 (Con.con x) a).getD (i - 1) zeroO:=by
   rw [List.getD_eq_getElem?_getD,← es,zkq,List.getElem?_map,List.getElem?_eq_getElem hi1];rfl
  have hsi:zut (Con.con c.l[i]) (Con.con s.l[i - 1])=true:=by
   rw [hci,hsi1];exact decide_eq_true rfl
  have b1:=zCk (x:=x) (a:=a) (List.getLast_mem hne)
  have b2:=zCk (x:=x) (a:=a) (y:=(zy1 (Con.con x) a).getD (i - 1) zeroO) (by
   rw [List.getD_eq_getElem?_getD,List.getElem?_eq_getElem (by omega)];exact List.getElem_mem _)
  rw [← hold] at b1
  rw [← hci] at b2
  have b1':0≤s.l[s.l.length - 1].start∧s.l[s.l.length - 1].start≤2880:=⟨b1.1,b1.2.1⟩
  have b2':0≤c.l[i].start∧c.l[i].start≤2880:=⟨b2.1,b2.2.1⟩
  have hpw1:IntKind.i64.wrap (60+s.l[s.l.length - 1].start)=60+s.l[s.l.length - 1].start:=zjz (by omega)
  have hpw:IntKind.i64.wrap (60+s.l[s.l.length - 1].start - c.l[i].start)=60+s.l[s.l.length - 1].start - c.l[i].start:=zjz (by omega)
  have hpi:zuw (Con.con s.l[s.l.length - 1]) (Con.con c.l[i])=60+s.l[s.l.length - 1].start - c.l[i].start:=by
   have h9:=zCl hok hne (i:=i - 1) (by omega)
   rw [← hold,← hci] at h9
   exact h9
  repeat' first|refine zc8 ?_|(refine zc5 ?_;simp only [go_sem,jq,jj,jy,jv,jk,jx])|refine zc3 ?_
  refine znv rfl ?_
  refine U_t [0,1,4,5,2,6,3,7,8] rfl ?_
  simp only [go_sem,jq,jj,jy,jv,jk,jx,zkC okc hlt,zlP okc hlt,okc.some hlt,hlt,hii,zkC oks3 hi1,zlP oks3 hi1,oks3.some hi1,hi1,hi1i,hw,hpw1,hpw,jW,jY,implies_true,true_and,and_true,and_self,Bool.not_true,Bool.not_false,Bool.true_or,Bool.or_true,Bool.or_false,Bool.false_or,Bool.and_true,Bool.true_and,Bool.and_false,Bool.false_and,Bool.false_eq_true,false_implies,true_and,and_true,implies_true,bne_self_eq_false,beq_self_eq_true,reduceCtorEq]
  refine U_1 9 0 [] rfl rfl ?_
  simp only [go_sem,jq,jj,jy,jv,jk,jx,zkC okc hlt,zlP okc hlt,okc.some hlt,hlt,hii,zkC oks3 hi1,zlP oks3 hi1,oks3.some hi1,hi1,hi1i,hw,hpw1,hpw,jW,jY,implies_true,true_and,and_true,and_self,Bool.not_true,Bool.not_false,Bool.true_or,Bool.or_true,Bool.or_false,Bool.false_or,Bool.and_true,Bool.true_and,Bool.and_false,Bool.false_and,Bool.false_eq_true,false_implies,true_and,and_true,implies_true,bne_self_eq_false,beq_self_eq_true,reduceCtorEq]
  refine zhF (fun _=>zuv c.l[i] s.l[i - 1] _ (Sl.Ok.el okc hlt) (Sl.Ok.el oks3 hi1)) ?_
  simp only [go_sem,jq,jj,jy,jv,jk,jx,hsi,zkC okc hlt,zlP okc hlt,okc.some hlt,hlt,hii,zkC oks3 hi1,zlP oks3 hi1,oks3.some hi1,hi1,hi1i,hw,hpw1,hpw,jW,jY,implies_true,true_and,and_true,and_self,Bool.not_true,Bool.not_false,Bool.true_or,Bool.or_true,Bool.or_false,Bool.false_or,Bool.and_true,Bool.true_and,Bool.and_false,Bool.false_and,Bool.false_eq_true,false_implies,true_and,and_true,implies_true,bne_self_eq_false,beq_self_eq_true,reduceCtorEq]
  refine U_t [10,11,12,13,14,18,21,22,15,19,23,16,20,24,25,26] rfl ?_
  simp only [go_sem,jq,jj,jy,jv,jk,jx,zkC okc hlt,zlP okc hlt,okc.some hlt,hlt,hii,zkC oks3 hi1,zlP oks3 hi1,oks3.some hi1,hi1,hi1i,hw,hpw1,hpw,jW,jY,implies_true,true_and,and_true,and_self,Bool.not_true,Bool.not_false,Bool.true_or,Bool.or_true,Bool.or_false,Bool.false_or,Bool.and_true,Bool.true_and,Bool.and_false,Bool.false_and,Bool.false_eq_true,false_implies,true_and,and_true,implies_true,bne_self_eq_false,beq_self_eq_true,reduceCtorEq]
  refine U_1 17 0 [26,25,24,20,23,19,18] rfl rfl ?_
  simp only [go_sem,jq,jj,jy,jv,jk,jx,zkC okc hlt,zlP okc hlt,okc.some hlt,hlt,hii,zkC oks3 hi1,zlP oks3 hi1,oks3.some hi1,hi1,hi1i,hw,hpw1,hpw,jW,jY,implies_true,true_and,and_true,and_self,Bool.not_true,Bool.not_false,Bool.true_or,Bool.or_true,Bool.or_false,Bool.false_or,Bool.and_true,Bool.true_and,Bool.and_false,Bool.false_and,Bool.false_eq_true,false_implies,true_and,and_true,implies_true,bne_self_eq_false,beq_self_eq_true,reduceCtorEq]
  refine zhF (fun _=>zuy s.l[s.l.length - 1] c.l[i] _ okold3 (Sl.Ok.el okc hlt)) ?_
  simp only [go_sem,jq,jj,jy,jv,jk,jx,hpi,zkC okc hlt,zlP okc hlt,okc.some hlt,hlt,hii,zkC oks3 hi1,zlP oks3 hi1,oks3.some hi1,hi1,hi1i,hw,hpw1,hpw,jW,jY,implies_true,true_and,and_true,and_self,Bool.not_true,Bool.not_false,Bool.true_or,Bool.or_true,Bool.or_false,Bool.false_or,Bool.and_true,Bool.true_and,Bool.and_false,Bool.false_and,Bool.false_eq_true,false_implies,true_and,and_true,implies_true,bne_self_eq_false,beq_self_eq_true,reduceCtorEq]
  refine U_t [27,28] rfl ?_
  simp only [go_sem,jq,jj,jy,jv,jk,jx,zkC okc hlt,zlP okc hlt,okc.some hlt,hlt,hii,zkC oks3 hi1,zlP oks3 hi1,oks3.some hi1,hi1,hi1i,hw,hpw1,hpw,jW,jY,implies_true,true_and,and_true,and_self,Bool.not_true,Bool.not_false,Bool.true_or,Bool.or_true,Bool.or_false,Bool.false_or,Bool.and_true,Bool.true_and,Bool.and_false,Bool.false_and,Bool.false_eq_true,false_implies,true_and,and_true,implies_true,bne_self_eq_false,beq_self_eq_true,reduceCtorEq]
  refine U_d ?_
  repeat' first|refine zc8 ?_|(refine zc5 ?_;simp only [go_sem,jq,jj,jy,jv,jk,jx])|refine zc3 ?_
  refine zc9 rfl (fun hz=>?_) (fun hz=>?_)
  ·cases hz
  refine Wk ?_
  refine ⟨i+1,⟨by omega,by omega⟩,by omega,zjB (zjA hlt (by omega))⟩
 ·have hpo:zuw (Con.con s.l[s.l.length - 1]) (Con.con s.l[s.l.length - 1])=0:=by rw [zuw,if_pos rfl]
  repeat' first|refine Wa ?_|refine zhF (fun _=>zuy s.l[s.l.length - 1] s.l[s.l.length - 1] _ okold3 okold3) ?_|(simp only [go_sem,jq,jj,jy,jv,jk,jx];try rfl)|refine Wb ?_|fail
  simp only [go_sem,jq,jj,jy,jv,jk,jx,hpo]
  refine Wk ?_
  exact rfl
set_option maxRecDepth 100000 in
theorem zDM (a0:Sl U8) (h:Hp) (oa0:a0.Ok h):Ct jV 6 [a0.val] h fun v h'=>v=.bool true:=by
 refine zdn (fun A W=>by simp) Try.func6 rfl rfl (by simp) fun W0=>?_
 refine Wk ?_
 refine zc9 rfl (fun hq=>?_) (fun hq=>?_)
 ·exact Wk0
 refine Wk ?_
 refine zkj (zDH a0 _ oa0) rfl ?_
 rintro v h1 le1 ⟨x,a,rfl,gx,ga,okx,oka⟩
 have hok:=zCU gx ga
 have hca:(Con.con a:DCall)=a:=rfl
 refine Wk ?_
 refine zkj (zzc x a _ okx oka) rfl ?_
 rintro v h2 le2 ⟨s,rfl,es,oks,_⟩
 have okx2:=Enc.mono (x:=x) le2 okx
 have oka2:=Enc.mono (x:=a) le2 oka
 have hsm:=oks.max
 have es:(Con.con s:List POption)=zy1 (Con.con x) a:=es
 have hsl:(zy1 (Con.con x) a).length=s.l.length:=by rw [← es,zkq,List.length_map]
 have hg8:s.l.length≤8:=by have:=zCm (x:=x) (a:=a);omega
 have hg8f:((8:Int) < s.l.length)=False:=eq_false (by omega)
 have hg8n:(8 < s.l.length)=False:=eq_false (by omega)
 have hok1:zvo (Con.con x)=true:=by
  have h9:=hok
  rw [zvB,jJ] at h9;exact h9.1
 have sget:∀ i (hi:i < s.l.length) (hj:i < (zy1 (Con.con x) a).length),(zy1 (Con.con x) a)[i]=Con.con s.l[i]:=fun i hi hj=>by
  have h9:(Con.con s:List POption)[i]?=some (Con.con s.l[i]):=by rw [zkq,List.getElem?_map,List.getElem?_eq_getElem hi];rfl
  rw [es,List.getElem?_eq_getElem hj] at h9
  exact Option.some.inj h9
 refine Wk ?_
 refine zhF (fun _=>zvz x _ okx2) ?_
 simp (maxSteps:=2000000) only [go_sem,jq,jj,jy,jv,jk,jx,hok1,Bool.not_true,Bool.not_false,Bool.true_or,Bool.or_true,Bool.or_false,Bool.false_or,Bool.and_true,Bool.true_and,Bool.and_false,Bool.false_and,Bool.false_eq_true,false_implies,true_and,and_true,implies_true,bne_self_eq_false,beq_self_eq_true,reduceCtorEq]
 refine zhF (fun _=>zvE x a _ okx2 oka2) ?_
 simp (maxSteps:=2000000) only [go_sem,jq,jj,jy,jv,jk,jx,hca,hok,hg8f,hg8n,decide_false,Bool.not_true,Bool.not_false,Bool.true_or,Bool.or_true,Bool.or_false,Bool.false_or,Bool.and_true,Bool.true_and,Bool.and_false,Bool.false_and,Bool.false_eq_true,false_implies,true_and,and_true,implies_true,bne_self_eq_false,beq_self_eq_true,reduceCtorEq]
 repeat' first|refine zc8 ?_|(refine zc5 ?_;simp (maxSteps:=2000000) only [go_sem,jq,jj,jy,jv,jk,jx])|refine zc3 ?_
 refine zc9 rfl (fun hz=>?_) (fun hz=>?_)
 ·cases hz
 refine Wk ?_
 refine zde (ι:=Nat) (fun i=>⟨[(2,true,.c (.v (.bool false))),(3,true,.c (.p 0 0)),(4,true,.c (.p 1 0)),(5,true,.c (.v s.val)),(36,true,.c (.v s.val)),(37,true,.c (.v (.int .i64 s.l.length))),(38,true,.c (.v (.int .i64 i)))],[(0,.box 40 [.v (.int .i64 x.forecast.tide.mean),.v x.forecast.tide.parts.val,.v x.forecast.surges.val,.v x.chart.points.val,.v x.chart.segments.val,.v x.fleet.val,.v (.int .i64 x.regime.gap),.v (.bool x.regime.noMeet),.v (.int .i64 x.crew.tugs),.v (.int .i64 x.crew.pilots),.v (.int .i64 x.crew.rest),.v x.crew.moves.val]),(1,.box 42 [.v (.int .i64 a.ship),.v (.int .i64 a.src),.v (.int .i64 a.dst),.v (.int .i64 a.ready),.v (.int .i64 a.due)])],h2,2⟩)
  (fun i=>i≤s.l.length) (fun i=>s.l.length - i) 0 (Nat.zero_le _) ?_ ?_
 ·refine Evs ?_
  repeat' first|exact rfl|exact trivial|assumption|decide|refine And.intro ?_ ?_
 intro i hi
 refine Wk ?_
 refine zc9 rfl (fun hd=>?_) (fun hd=>?_)
 case refine_2 =>
  refine Wk ?_
  refine zhF (fun _=>zuF s _ oks) ?_
  rw [es]
  rcases zCx (x:=x) (a:=a) with ⟨e1,e2,e3⟩|⟨g0,e2,e3⟩
  ·have hs0:s.l.length=0:=by rw [← hsl,e1];rfl
   have q0:((s.l.length:Int) == 0)=true:=by rw [hs0];rfl
   have hgt:((0:Int) < s.l.length)=False:=eq_false (by omega)
   have f1:=e3
   simp (maxSteps:=2000000) only [go_sem,jq,jj,jy,jv,jk,jx,e2]
   repeat' first|refine zc8 ?_|(refine zc5 ?_;simp (maxSteps:=2000000) only [go_sem,jq,jj,jy,jv,jk,jx])|refine zc3 ?_
   refine znv rfl ?_
   refine U_t [0,1,2,3,4,5,6,7,8,9] rfl ?_
   simp (maxSteps:=2000000) only [go_sem,jq,jj,jy,jv,jk,jx,q0,hgt,f1,decide_true,decide_false,Bool.not_true,Bool.not_false,Bool.true_or,Bool.or_true,Bool.or_false,Bool.false_or,Bool.and_true,Bool.true_and,Bool.and_false,Bool.false_and,Bool.false_eq_true,false_implies,true_and,and_true,implies_true,bne_self_eq_false,beq_self_eq_true,reduceCtorEq]
   refine U_1 10 0 [] rfl rfl ?_
   simp (maxSteps:=2000000) only [go_sem,jq,jj,jy,jv,jk,jx,q0,hgt,f1,decide_true,decide_false,Bool.not_true,Bool.not_false,Bool.true_or,Bool.or_true,Bool.or_false,Bool.false_or,Bool.and_true,Bool.true_and,Bool.and_false,Bool.false_and,Bool.false_eq_true,false_implies,true_and,and_true,implies_true,bne_self_eq_false,beq_self_eq_true,reduceCtorEq]
   refine zhF (fun _=>zzd x a _ okx2 oka2) ?_
   simp (maxSteps:=2000000) only [go_sem,jq,jj,jy,jv,jk,jx,hca,q0,hgt,f1,decide_true,decide_false,Bool.not_true,Bool.not_false,Bool.true_or,Bool.or_true,Bool.or_false,Bool.false_or,Bool.and_true,Bool.true_and,Bool.and_false,Bool.false_and,Bool.false_eq_true,false_implies,true_and,and_true,implies_true,bne_self_eq_false,beq_self_eq_true,reduceCtorEq]
   refine U_t [11,12,13,14,15,16,17,18,19,20,21,22] rfl ?_
   simp (maxSteps:=2000000) only [go_sem,jq,jj,jy,jv,jk,jx,q0,hgt,f1,decide_true,decide_false,Bool.not_true,Bool.not_false,Bool.true_or,Bool.or_true,Bool.or_false,Bool.false_or,Bool.and_true,Bool.true_and,Bool.and_false,Bool.false_and,Bool.false_eq_true,false_implies,true_and,and_true,implies_true,bne_self_eq_false,beq_self_eq_true,reduceCtorEq]
   refine U_t [23,25,26,27,28] rfl ?_
   simp (maxSteps:=2000000) only [go_sem,jq,jj,jy,jv,jk,jx,q0,hgt,f1,decide_true,decide_false,Bool.not_true,Bool.not_false,Bool.true_or,Bool.or_true,Bool.or_false,Bool.false_or,Bool.and_true,Bool.true_and,Bool.and_false,Bool.false_and,Bool.false_eq_true,false_implies,true_and,and_true,implies_true,bne_self_eq_false,beq_self_eq_true,reduceCtorEq]
   refine U_1 24 0 [28,27,26] rfl rfl ?_
   simp (maxSteps:=2000000) only [go_sem,jq,jj,jy,jv,jk,jx,q0,hgt,f1,decide_true,decide_false,Bool.not_true,Bool.not_false,Bool.true_or,Bool.or_true,Bool.or_false,Bool.false_or,Bool.and_true,Bool.true_and,Bool.and_false,Bool.false_and,Bool.false_eq_true,false_implies,true_and,and_true,implies_true,bne_self_eq_false,beq_self_eq_true,reduceCtorEq]
   repeat' first|refine ⟨List.all_eq_true.2 fun y hy=>by obtain ⟨z,_,rfl⟩:=List.mem_map.1 hy;rfl,?_⟩|fail
   refine zhF (V:=.int .i64 0) (fun hg=>by cases hg) ?_
   simp (maxSteps:=2000000) only [go_sem,jq,jj,jy,jv,jk,jx,q0,hgt,f1,decide_true,decide_false,Bool.not_true,Bool.not_false,Bool.true_or,Bool.or_true,Bool.or_false,Bool.false_or,Bool.and_true,Bool.true_and,Bool.and_false,Bool.false_and,Bool.false_eq_true,false_implies,true_and,and_true,implies_true,bne_self_eq_false,beq_self_eq_true,reduceCtorEq]
   refine U_t [29,30,31,32,35,33,36,34,37] rfl ?_
   simp (maxSteps:=2000000) only [go_sem,jq,jj,jy,jv,jk,jx,q0,hgt,f1,decide_true,decide_false,Bool.not_true,Bool.not_false,Bool.true_or,Bool.or_true,Bool.or_false,Bool.false_or,Bool.and_true,Bool.true_and,Bool.and_false,Bool.false_and,Bool.false_eq_true,false_implies,true_and,and_true,implies_true,bne_self_eq_false,beq_self_eq_true,reduceCtorEq]
   refine U_1 38 0 [] rfl rfl ?_
   simp (maxSteps:=2000000) only [go_sem,jq,jj,jy,jv,jk,jx,q0,hgt,f1,decide_true,decide_false,Bool.not_true,Bool.not_false,Bool.true_or,Bool.or_true,Bool.or_false,Bool.false_or,Bool.and_true,Bool.true_and,Bool.and_false,Bool.false_and,Bool.false_eq_true,false_implies,true_and,and_true,implies_true,bne_self_eq_false,beq_self_eq_true,reduceCtorEq]
   repeat' first|refine ⟨List.all_eq_true.2 fun y hy=>by obtain ⟨z,_,rfl⟩:=List.mem_map.1 hy;rfl,?_⟩|fail
   refine zhF (V:=.bool false) (fun hg=>by cases hg) ?_
   simp (maxSteps:=2000000) only [go_sem,jq,jj,jy,jv,jk,jx,q0,hgt,f1,decide_true,decide_false,Bool.not_true,Bool.not_false,Bool.true_or,Bool.or_true,Bool.or_false,Bool.false_or,Bool.and_true,Bool.true_and,Bool.and_false,Bool.false_and,Bool.false_eq_true,false_implies,true_and,and_true,implies_true,bne_self_eq_false,beq_self_eq_true,reduceCtorEq]
   refine U_t [39,40,41] rfl ?_
   simp (maxSteps:=2000000) only [go_sem,jq,jj,jy,jv,jk,jx,q0,hgt,f1,decide_true,decide_false,Bool.not_true,Bool.not_false,Bool.true_or,Bool.or_true,Bool.or_false,Bool.false_or,Bool.and_true,Bool.true_and,Bool.and_false,Bool.false_and,Bool.false_eq_true,false_implies,true_and,and_true,implies_true,bne_self_eq_false,beq_self_eq_true,reduceCtorEq]
   refine U_d ?_
   exact Wk0
  ·have g1:0 < s.l.length:=by omega
   have q0:((s.l.length:Int) == 0)=false:=by
    rw [beq_eq_false_iff_ne];omega
   have hgt:((0:Int) < s.l.length)=True:=eq_true (by omega)
   have hgn:(0 < s.l.length)=True:=eq_true g1
   have f1:zy9 (Con.con x) a=s.l[0].cost:=by rw [e3,sget 0 g1];rfl
   have f3:zut (Con.con s.l[0]) (Con.con s.l[0])=true:=decide_eq_true rfl
   have hat0:=zkC oks g1
   have hat0':=hat0
   simp only [Nat.zero_mul,zmA,zmB] at hat0'
   have hfs0:=zlP oks g1
   simp only [go_sem,Nat.zero_mul,zmB] at hfs0
   simp (maxSteps:=2000000) only [go_sem,jq,jj,jy,jv,jk,jx,e2]
   repeat' first|refine zc8 ?_|(refine zc5 ?_;simp (maxSteps:=2000000) only [go_sem,jq,jj,jy,jv,jk,jx])|refine zc3 ?_
   refine znv rfl ?_
   refine U_t [0,1,2,3,4,5,6,7,8,9] rfl ?_
   simp (maxSteps:=2000000) only [go_sem,jq,jj,jy,jv,jk,jx,q0,hgt,hgn,f1,decide_true,decide_false,hat0,hat0',hfs0,oks.some g1,g1,hgt,Int.toNat_zero,Nat.zero_mul,Int.le_refl,zmA,zmB,Bool.not_true,Bool.not_false,Bool.true_or,Bool.or_true,Bool.or_false,Bool.false_or,Bool.and_true,Bool.true_and,Bool.and_false,Bool.false_and,Bool.false_eq_true,false_implies,true_and,and_true,implies_true,bne_self_eq_false,beq_self_eq_true,reduceCtorEq]
   refine U_1 10 0 [] rfl rfl ?_
   simp (maxSteps:=2000000) only [go_sem,jq,jj,jy,jv,jk,jx,q0,hgt,hgn,f1,decide_true,decide_false,hat0,hat0',hfs0,oks.some g1,g1,hgt,Int.toNat_zero,Nat.zero_mul,Int.le_refl,zmA,zmB,Bool.not_true,Bool.not_false,Bool.true_or,Bool.or_true,Bool.or_false,Bool.false_or,Bool.and_true,Bool.true_and,Bool.and_false,Bool.false_and,Bool.false_eq_true,false_implies,true_and,and_true,implies_true,bne_self_eq_false,beq_self_eq_true,reduceCtorEq]
   repeat' first|refine ⟨List.all_eq_true.2 fun y hy=>by obtain ⟨z,_,rfl⟩:=List.mem_map.1 hy;rfl,?_⟩|fail
   refine zhF (V:=.int .i64 0) (fun hg=>by cases hg) ?_
   simp (maxSteps:=2000000) only [go_sem,jq,jj,jy,jv,jk,jx,q0,hgt,hgn,f1,decide_true,decide_false,hat0,hat0',hfs0,oks.some g1,g1,hgt,Int.toNat_zero,Nat.zero_mul,Int.le_refl,zmA,zmB,Bool.not_true,Bool.not_false,Bool.true_or,Bool.or_true,Bool.or_false,Bool.false_or,Bool.and_true,Bool.true_and,Bool.and_false,Bool.false_and,Bool.false_eq_true,false_implies,true_and,and_true,implies_true,bne_self_eq_false,beq_self_eq_true,reduceCtorEq]
   refine U_t [11,12,13,14,15,16,17,18,19,20,21,22] rfl ?_
   simp (maxSteps:=2000000) only [go_sem,jq,jj,jy,jv,jk,jx,q0,hgt,hgn,f1,decide_true,decide_false,hat0,hat0',hfs0,oks.some g1,g1,hgt,Int.toNat_zero,Nat.zero_mul,Int.le_refl,zmA,zmB,Bool.not_true,Bool.not_false,Bool.true_or,Bool.or_true,Bool.or_false,Bool.false_or,Bool.and_true,Bool.true_and,Bool.and_false,Bool.false_and,Bool.false_eq_true,false_implies,true_and,and_true,implies_true,bne_self_eq_false,beq_self_eq_true,reduceCtorEq]
   refine U_t [23,25,26,27,28] rfl ?_
   simp (maxSteps:=2000000) only [go_sem,jq,jj,jy,jv,jk,jx,q0,hgt,hgn,f1,decide_true,decide_false,hat0,hat0',hfs0,oks.some g1,g1,hgt,Int.toNat_zero,Nat.zero_mul,Int.le_refl,zmA,zmB,Bool.not_true,Bool.not_false,Bool.true_or,Bool.or_true,Bool.or_false,Bool.false_or,Bool.and_true,Bool.true_and,Bool.and_false,Bool.false_and,Bool.false_eq_true,false_implies,true_and,and_true,implies_true,bne_self_eq_false,beq_self_eq_true,reduceCtorEq]
   refine U_1 24 0 [28,27,26] rfl rfl ?_
   simp (maxSteps:=2000000) only [go_sem,jq,jj,jy,jv,jk,jx,q0,hgt,hgn,f1,decide_true,decide_false,hat0,hat0',hfs0,oks.some g1,g1,hgt,Int.toNat_zero,Nat.zero_mul,Int.le_refl,zmA,zmB,Bool.not_true,Bool.not_false,Bool.true_or,Bool.or_true,Bool.or_false,Bool.false_or,Bool.and_true,Bool.true_and,Bool.and_false,Bool.false_and,Bool.false_eq_true,false_implies,true_and,and_true,implies_true,bne_self_eq_false,beq_self_eq_true,reduceCtorEq]
   refine zhF (fun _=>zzd x a _ okx2 oka2) ?_
   simp (maxSteps:=2000000) only [go_sem,jq,jj,jy,jv,jk,jx,hca,q0,hgt,hgn,f1,decide_true,decide_false,hat0,hat0',hfs0,oks.some g1,g1,hgt,Int.toNat_zero,Nat.zero_mul,Int.le_refl,zmA,zmB,Bool.not_true,Bool.not_false,Bool.true_or,Bool.or_true,Bool.or_false,Bool.false_or,Bool.and_true,Bool.true_and,Bool.and_false,Bool.false_and,Bool.false_eq_true,false_implies,true_and,and_true,implies_true,bne_self_eq_false,beq_self_eq_true,reduceCtorEq]
   refine U_t [29,30,31,32,35,33,36,34,37] rfl ?_
   simp (maxSteps:=2000000) only [go_sem,jq,jj,jy,jv,jk,jx,q0,hgt,hgn,f1,decide_true,decide_false,hat0,hat0',hfs0,oks.some g1,g1,hgt,Int.toNat_zero,Nat.zero_mul,Int.le_refl,zmA,zmB,Bool.not_true,Bool.not_false,Bool.true_or,Bool.or_true,Bool.or_false,Bool.false_or,Bool.and_true,Bool.true_and,Bool.and_false,Bool.false_and,Bool.false_eq_true,false_implies,true_and,and_true,implies_true,bne_self_eq_false,beq_self_eq_true,reduceCtorEq]
   refine U_1 38 0 [] rfl rfl ?_
   simp (maxSteps:=2000000) only [go_sem,jq,jj,jy,jv,jk,jx,q0,hgt,hgn,f1,decide_true,decide_false,hat0,hat0',hfs0,oks.some g1,g1,hgt,Int.toNat_zero,Nat.zero_mul,Int.le_refl,zmA,zmB,Bool.not_true,Bool.not_false,Bool.true_or,Bool.or_true,Bool.or_false,Bool.false_or,Bool.and_true,Bool.true_and,Bool.and_false,Bool.false_and,Bool.false_eq_true,false_implies,true_and,and_true,implies_true,bne_self_eq_false,beq_self_eq_true,reduceCtorEq]
   refine zhF (fun _=>zuv s.l[0] s.l[0] _ (oks.el g1) (oks.el g1)) ?_
   simp (maxSteps:=2000000) only [go_sem,jq,jj,jy,jv,jk,jx,f3,q0,hgt,hgn,f1,decide_true,decide_false,hat0,hat0',hfs0,oks.some g1,g1,hgt,Int.toNat_zero,Nat.zero_mul,Int.le_refl,zmA,zmB,Bool.not_true,Bool.not_false,Bool.true_or,Bool.or_true,Bool.or_false,Bool.false_or,Bool.and_true,Bool.true_and,Bool.and_false,Bool.false_and,Bool.false_eq_true,false_implies,true_and,and_true,implies_true,bne_self_eq_false,beq_self_eq_true,reduceCtorEq]
   refine U_t [39,40,41] rfl ?_
   simp (maxSteps:=2000000) only [go_sem,jq,jj,jy,jv,jk,jx,q0,hgt,hgn,f1,decide_true,decide_false,hat0,hat0',hfs0,oks.some g1,g1,hgt,Int.toNat_zero,Nat.zero_mul,Int.le_refl,zmA,zmB,Bool.not_true,Bool.not_false,Bool.true_or,Bool.or_true,Bool.or_false,Bool.false_or,Bool.and_true,Bool.true_and,Bool.and_false,Bool.false_and,Bool.false_eq_true,false_implies,true_and,and_true,implies_true,bne_self_eq_false,beq_self_eq_true,reduceCtorEq]
   refine U_d ?_
   exact Wk0
 have hlt:=zjH hd
 have hii:(i:Int) < s.l.length:=by omega
 have hom:(Con.con s.l[i]:POption) ∈ zy1 (Con.con x) a:=by
  rw [← es,zkq]
  exact List.mem_map.2 ⟨_,List.getElem_mem hlt,rfl⟩
 obtain ⟨hop,o1,o2,o3,o4,o5,o6,o7⟩:=zCw hok (i:=i) (by omega)
 simp only [sget i hlt] at hop o1 o2 o3 o4 o5 o6 o7
 have hzo:Sz.sz (Con.con s.l[i])≤1048576:=Nat.le_trans (zBQ hop) (Nat.le_of_ble_eq_true rfl)
 obtain ⟨_,_,_,_,_,_,_,_,_,_,hr0,hr1,hr2,hr3⟩:=zyE hok
 have c1:(s.l[i].cost < 0)=False:=eq_false (by have:0≤s.l[i].cost:=o1;omega)
 have c2:(s.l[i].start < a.ready)=False:=eq_false (by have:a.ready≤s.l[i].start:=o2;omega)
 have c3:(a.due < s.l[i].start)=False:=eq_false (by have:s.l[i].start≤a.due:=o3;omega)
 have c4:IntKind.i64.wrap (s.l[i].start - a.ready)=s.l[i].start - a.ready:=zjz (by have:s.l[i].start≤2880:=o5;have:0≤s.l[i].start:=o6;omega)
 have n15:((15:Int)=0)=False:=eq_false (by decide)
 have c5:Int.tmod (s.l[i].start - a.ready) 15=0:=by
  have b1:a.ready≤s.l[i].start:=o2
  have b2:(s.l[i].start - a.ready) % 15=0:=o4
  rw [Int.tmod_eq_emod_of_nonneg (by omega)];exact b2
 repeat' first|refine Wa ?_|(simp (maxSteps:=2000000) only [go_sem,jq,jj,jy,jv,jk,jx,zkC oks hlt,oks.some hlt,hlt,hii,jW,jY];try rfl)|refine Wb ?_|fail
 repeat' first|refine zc8 ?_|(refine zc5 ?_;simp (maxSteps:=2000000) only [go_sem,jq,jj,jy,jv,jk,jx])|refine zc3 ?_
 refine zoc (ι:=Unit) (fun _=>⟨[(2,true,.c (.v (.bool false))),(3,true,.c (.p 0 0)),(4,true,.c (.p 1 0)),(5,true,.c (.v s.val)),(7,true,.c (.p 2 0)),(36,true,.c (.v s.val)),(37,true,.c (.v (.int .i64 s.l.length))),(38,true,.c (.v (.int .i64 i))),(101,true,.c (.v (.bool false)))],[(0,.box 40 [.v (.int .i64 x.forecast.tide.mean),.v x.forecast.tide.parts.val,.v x.forecast.surges.val,.v x.chart.points.val,.v x.chart.segments.val,.v x.fleet.val,.v (.int .i64 x.regime.gap),.v (.bool x.regime.noMeet),.v (.int .i64 x.crew.tugs),.v (.int .i64 x.crew.pilots),.v (.int .i64 x.crew.rest),.v x.crew.moves.val]),(1,.box 42 [.v (.int .i64 a.ship),.v (.int .i64 a.src),.v (.int .i64 a.dst),.v (.int .i64 a.ready),.v (.int .i64 a.due)]),(2,.box 69 [.v (.int .i64 s.l[i].start),.v (.int .i64 s.l[i].arr),.v (.int .i64 s.l[i].cost),.v s.l[i].pas.val])],h2,3⟩) (fun _=>True) ?_ ?_
 ·rcases Nat.eq_zero_or_pos i with h9|h9
  ·have hi0:((0:Int) < i)=False:=eq_false (by omega)
   refine znv rfl ?_
   refine U_t [0,1,2] rfl ?_
   simp (maxSteps:=2000000) only [go_sem,jq,jj,jy,jv,jk,jx,n15,not_false_eq_true,c1,c2,c3,c4,c5,decide_true,decide_false,jW,jY,hlt,hii,zkC oks hlt,zlP oks hlt,oks.some hlt,Bool.not_true,Bool.not_false,Bool.true_or,Bool.or_true,Bool.or_false,Bool.false_or,Bool.and_true,Bool.true_and,Bool.and_false,Bool.false_and,Bool.false_eq_true,false_implies,true_and,and_true,implies_true,bne_self_eq_false,beq_self_eq_true,reduceCtorEq,hi0]
   refine U_1 3 0 [] rfl rfl ?_
   simp (maxSteps:=2000000) only [go_sem,jq,jj,jy,jv,jk,jx,n15,not_false_eq_true,c1,c2,c3,c4,c5,decide_true,decide_false,jW,jY,hlt,hii,zkC oks hlt,zlP oks hlt,oks.some hlt,Bool.not_true,Bool.not_false,Bool.true_or,Bool.or_true,Bool.or_false,Bool.false_or,Bool.and_true,Bool.true_and,Bool.and_false,Bool.false_and,Bool.false_eq_true,false_implies,true_and,and_true,implies_true,bne_self_eq_false,beq_self_eq_true,reduceCtorEq,hi0]
   refine zhF (fun _=>zyY x a s.l[i] _ okx2 oka2 (oks.el hlt) hzo) ?_
   simp (maxSteps:=2000000) only [go_sem,jq,jj,jy,jv,jk,jx,hca,hop,n15,not_false_eq_true,c1,c2,c3,c4,c5,decide_true,decide_false,jW,jY,hlt,hii,zkC oks hlt,zlP oks hlt,oks.some hlt,Bool.not_true,Bool.not_false,Bool.true_or,Bool.or_true,Bool.or_false,Bool.false_or,Bool.and_true,Bool.true_and,Bool.and_false,Bool.false_and,Bool.false_eq_true,false_implies,true_and,and_true,implies_true,bne_self_eq_false,beq_self_eq_true,reduceCtorEq,hi0]
   refine U_t [4,5,6,7,8,9,10,11,13,12,14,15] rfl ?_
   simp (maxSteps:=2000000) only [go_sem,jq,jj,jy,jv,jk,jx,n15,not_false_eq_true,c1,c2,c3,c4,c5,decide_true,decide_false,jW,jY,hlt,hii,zkC oks hlt,zlP oks hlt,oks.some hlt,Bool.not_true,Bool.not_false,Bool.true_or,Bool.or_true,Bool.or_false,Bool.false_or,Bool.and_true,Bool.true_and,Bool.and_false,Bool.false_and,Bool.false_eq_true,false_implies,true_and,and_true,implies_true,bne_self_eq_false,beq_self_eq_true,reduceCtorEq,hi0]
   refine U_t [16,17,18,20,19,21,22,23,24,25,27,26] rfl ?_
   simp (maxSteps:=2000000) only [go_sem,jq,jj,jy,jv,jk,jx,n15,not_false_eq_true,c1,c2,c3,c4,c5,decide_true,decide_false,jW,jY,hlt,hii,zkC oks hlt,zlP oks hlt,oks.some hlt,Bool.not_true,Bool.not_false,Bool.true_or,Bool.or_true,Bool.or_false,Bool.false_or,Bool.and_true,Bool.true_and,Bool.and_false,Bool.false_and,Bool.false_eq_true,false_implies,true_and,and_true,implies_true,bne_self_eq_false,beq_self_eq_true,reduceCtorEq,hi0]
   refine U_t [28,29,30,31,32,33,34,35,36,37,39,40] rfl ?_
   simp (maxSteps:=2000000) only [go_sem,jq,jj,jy,jv,jk,jx,n15,not_false_eq_true,c1,c2,c3,c4,c5,decide_true,decide_false,jW,jY,hlt,hii,zkC oks hlt,zlP oks hlt,oks.some hlt,Bool.not_true,Bool.not_false,Bool.true_or,Bool.or_true,Bool.or_false,Bool.false_or,Bool.and_true,Bool.true_and,Bool.and_false,Bool.false_and,Bool.false_eq_true,false_implies,true_and,and_true,implies_true,bne_self_eq_false,beq_self_eq_true,reduceCtorEq,hi0]
   refine U_t [38,41,42,43,44,45,46,47,49,50,48,51] rfl ?_
   simp (maxSteps:=2000000) only [go_sem,jq,jj,jy,jv,jk,jx,n15,not_false_eq_true,c1,c2,c3,c4,c5,decide_true,decide_false,jW,jY,hlt,hii,zkC oks hlt,zlP oks hlt,oks.some hlt,Bool.not_true,Bool.not_false,Bool.true_or,Bool.or_true,Bool.or_false,Bool.false_or,Bool.and_true,Bool.true_and,Bool.and_false,Bool.false_and,Bool.false_eq_true,false_implies,true_and,and_true,implies_true,bne_self_eq_false,beq_self_eq_true,reduceCtorEq,hi0]
   refine U_t [52,53,54,55,56,57,58] rfl ?_
   simp (maxSteps:=2000000) only [go_sem,jq,jj,jy,jv,jk,jx,n15,not_false_eq_true,c1,c2,c3,c4,c5,decide_true,decide_false,jW,jY,hlt,hii,zkC oks hlt,zlP oks hlt,oks.some hlt,Bool.not_true,Bool.not_false,Bool.true_or,Bool.or_true,Bool.or_false,Bool.false_or,Bool.and_true,Bool.true_and,Bool.and_false,Bool.false_and,Bool.false_eq_true,false_implies,true_and,and_true,implies_true,bne_self_eq_false,beq_self_eq_true,reduceCtorEq,hi0]
   refine U_d ?_
   refine ⟨(),[0,1,2],?_⟩
   repeat' first|exact rfl|exact trivial|assumption|decide|refine And.intro ?_ ?_
  ·have hi0:((0:Int) < i)=True:=eq_true (by omega)
   have hi1:i - 1 < s.l.length:=by omega
   have hi1i:((i - 1:Nat):Int) < s.l.length:=by omega
   have hw:IntKind.i64.wrap ((i:Int) - 1)=((i - 1:Nat):Int):=by rw [zjz (by omega)];omega
   have h7:=o7 h9
   simp only [sget (i - 1) hi1] at h7
   have d1:(s.l[i].start≤s.l[i - 1].start)=False:=eq_false (by have:s.l[i - 1].start < s.l[i].start:=h7.1;omega)
   have d2:(s.l[i].cost < s.l[i - 1].cost)=False:=eq_false (by have:s.l[i - 1].cost≤s.l[i].cost:=h7.2;omega)
   refine znv rfl ?_
   refine U_t [0,1,2] rfl ?_
   simp (maxSteps:=2000000) only [go_sem,jq,jj,jy,jv,jk,jx,n15,not_false_eq_true,c1,c2,c3,c4,c5,decide_true,decide_false,jW,jY,hlt,hii,zkC oks hlt,zlP oks hlt,oks.some hlt,Bool.not_true,Bool.not_false,Bool.true_or,Bool.or_true,Bool.or_false,Bool.false_or,Bool.and_true,Bool.true_and,Bool.and_false,Bool.false_and,Bool.false_eq_true,false_implies,true_and,and_true,implies_true,bne_self_eq_false,beq_self_eq_true,reduceCtorEq,hi0,hi1,hi1i,hw,zkC oks hi1,zlP oks hi1,oks.some hi1,d1,d2]
   refine U_1 3 0 [] rfl rfl ?_
   simp (maxSteps:=2000000) only [go_sem,jq,jj,jy,jv,jk,jx,n15,not_false_eq_true,c1,c2,c3,c4,c5,decide_true,decide_false,jW,jY,hlt,hii,zkC oks hlt,zlP oks hlt,oks.some hlt,Bool.not_true,Bool.not_false,Bool.true_or,Bool.or_true,Bool.or_false,Bool.false_or,Bool.and_true,Bool.true_and,Bool.and_false,Bool.false_and,Bool.false_eq_true,false_implies,true_and,and_true,implies_true,bne_self_eq_false,beq_self_eq_true,reduceCtorEq,hi0,hi1,hi1i,hw,zkC oks hi1,zlP oks hi1,oks.some hi1,d1,d2]
   refine zhF (fun _=>zyY x a s.l[i] _ okx2 oka2 (oks.el hlt) hzo) ?_
   simp (maxSteps:=2000000) only [go_sem,jq,jj,jy,jv,jk,jx,hca,hop,n15,not_false_eq_true,c1,c2,c3,c4,c5,decide_true,decide_false,jW,jY,hlt,hii,zkC oks hlt,zlP oks hlt,oks.some hlt,Bool.not_true,Bool.not_false,Bool.true_or,Bool.or_true,Bool.or_false,Bool.false_or,Bool.and_true,Bool.true_and,Bool.and_false,Bool.false_and,Bool.false_eq_true,false_implies,true_and,and_true,implies_true,bne_self_eq_false,beq_self_eq_true,reduceCtorEq,hi0,hi1,hi1i,hw,zkC oks hi1,zlP oks hi1,oks.some hi1,d1,d2]
   refine U_t [4,5,6,7,8,9,10,11,13,12,14,15] rfl ?_
   simp (maxSteps:=2000000) only [go_sem,jq,jj,jy,jv,jk,jx,n15,not_false_eq_true,c1,c2,c3,c4,c5,decide_true,decide_false,jW,jY,hlt,hii,zkC oks hlt,zlP oks hlt,oks.some hlt,Bool.not_true,Bool.not_false,Bool.true_or,Bool.or_true,Bool.or_false,Bool.false_or,Bool.and_true,Bool.true_and,Bool.and_false,Bool.false_and,Bool.false_eq_true,false_implies,true_and,and_true,implies_true,bne_self_eq_false,beq_self_eq_true,reduceCtorEq,hi0,hi1,hi1i,hw,zkC oks hi1,zlP oks hi1,oks.some hi1,d1,d2]
   refine U_t [16,17,18,20,19,21,22,23,24,25,27,26] rfl ?_
   simp (maxSteps:=2000000) only [go_sem,jq,jj,jy,jv,jk,jx,n15,not_false_eq_true,c1,c2,c3,c4,c5,decide_true,decide_false,jW,jY,hlt,hii,zkC oks hlt,zlP oks hlt,oks.some hlt,Bool.not_true,Bool.not_false,Bool.true_or,Bool.or_true,Bool.or_false,Bool.false_or,Bool.and_true,Bool.true_and,Bool.and_false,Bool.false_and,Bool.false_eq_true,false_implies,true_and,and_true,implies_true,bne_self_eq_false,beq_self_eq_true,reduceCtorEq,hi0,hi1,hi1i,hw,zkC oks hi1,zlP oks hi1,oks.some hi1,d1,d2]
   refine U_t [28,29,30,31,32,33,34,35,36,37,39,40] rfl ?_
   simp (maxSteps:=2000000) only [go_sem,jq,jj,jy,jv,jk,jx,n15,not_false_eq_true,c1,c2,c3,c4,c5,decide_true,decide_false,jW,jY,hlt,hii,zkC oks hlt,zlP oks hlt,oks.some hlt,Bool.not_true,Bool.not_false,Bool.true_or,Bool.or_true,Bool.or_false,Bool.false_or,Bool.and_true,Bool.true_and,Bool.and_false,Bool.false_and,Bool.false_eq_true,false_implies,true_and,and_true,implies_true,bne_self_eq_false,beq_self_eq_true,reduceCtorEq,hi0,hi1,hi1i,hw,zkC oks hi1,zlP oks hi1,oks.some hi1,d1,d2]
   refine U_t [38,41,42,43,44,45,46,47,49,50,48,51] rfl ?_
   simp (maxSteps:=2000000) only [go_sem,jq,jj,jy,jv,jk,jx,n15,not_false_eq_true,c1,c2,c3,c4,c5,decide_true,decide_false,jW,jY,hlt,hii,zkC oks hlt,zlP oks hlt,oks.some hlt,Bool.not_true,Bool.not_false,Bool.true_or,Bool.or_true,Bool.or_false,Bool.false_or,Bool.and_true,Bool.true_and,Bool.and_false,Bool.false_and,Bool.false_eq_true,false_implies,true_and,and_true,implies_true,bne_self_eq_false,beq_self_eq_true,reduceCtorEq,hi0,hi1,hi1i,hw,zkC oks hi1,zlP oks hi1,oks.some hi1,d1,d2]
   refine U_t [52,53,54,55,56,57,58] rfl ?_
   simp (maxSteps:=2000000) only [go_sem,jq,jj,jy,jv,jk,jx,n15,not_false_eq_true,c1,c2,c3,c4,c5,decide_true,decide_false,jW,jY,hlt,hii,zkC oks hlt,zlP oks hlt,oks.some hlt,Bool.not_true,Bool.not_false,Bool.true_or,Bool.or_true,Bool.or_false,Bool.false_or,Bool.and_true,Bool.true_and,Bool.and_false,Bool.false_and,Bool.false_eq_true,false_implies,true_and,and_true,implies_true,bne_self_eq_false,beq_self_eq_true,reduceCtorEq,hi0,hi1,hi1i,hw,zkC oks hi1,zlP oks hi1,oks.some hi1,d1,d2]
   refine U_d ?_
   refine ⟨(),[0,1,2],?_⟩
   repeat' first|exact rfl|exact trivial|assumption|decide|refine And.intro ?_ ?_
 intro _ _
 repeat' first|refine zc8 ?_|(refine zc5 ?_;simp (maxSteps:=2000000) only [go_sem,jq,jj,jy,jv,jk,jx])|refine zc3 ?_
 refine zc9 rfl (fun hz=>?_) (fun hz=>?_)
 ·cases hz
 have okp:s.l[i].pas.Ok h2:=(Sl.Ok.el oks hlt).2.2.2
 have hpm:=okp.max
 refine Wk ?_
 refine zde (ι:=Nat) (fun j=>⟨[(2,true,.c (.v (.bool false))),(3,true,.c (.p 0 0)),(4,true,.c (.p 1 0)),(5,true,.c (.v s.val)),(36,true,.c (.v s.val)),(37,true,.c (.v (.int .i64 s.l.length))),(38,true,.c (.v (.int .i64 i))),(103,true,.c (.v s.l[i].pas.val)),(104,true,.c (.v (.int .i64 s.l[i].pas.l.length))),(105,true,.c (.v (.int .i64 j)))],[(0,.box 40 [.v (.int .i64 x.forecast.tide.mean),.v x.forecast.tide.parts.val,.v x.forecast.surges.val,.v x.chart.points.val,.v x.chart.segments.val,.v x.fleet.val,.v (.int .i64 x.regime.gap),.v (.bool x.regime.noMeet),.v (.int .i64 x.crew.tugs),.v (.int .i64 x.crew.pilots),.v (.int .i64 x.crew.rest),.v x.crew.moves.val]),(1,.box 42 [.v (.int .i64 a.ship),.v (.int .i64 a.src),.v (.int .i64 a.dst),.v (.int .i64 a.ready),.v (.int .i64 a.due)])],h2,2⟩)
  (fun j=>j≤s.l[i].pas.l.length) (fun j=>s.l[i].pas.l.length - j) 0 (Nat.zero_le _) ?_ ?_
 ·refine Evs ?_
  repeat' first|exact rfl|exact trivial|assumption|decide|refine And.intro ?_ ?_
 intro j hj
 refine Wk ?_
 refine zc9 rfl (fun hd2=>?_) (fun hd2=>?_)
 case refine_2 =>
  refine Wk ?_
  refine ⟨i+1,by omega,by omega,zjB (zjA hlt (by omega))⟩
 have hlj:=zjH hd2
 have hji:(j:Int) < s.l[i].pas.l.length:=by omega
 obtain ⟨p1,p2⟩:=zCv hok hom (p:=s.l[i].pas.l[j]) (by rw [show (Con.con s.l[i]:POption).pas=s.l[i].pas.l from List.map_id _];exact List.getElem_mem hlj)
 repeat' first|refine Wa ?_|(simp (maxSteps:=2000000) only [go_sem,jq,jj,jy,jv,jk,jx,zky okp hlj,okp.some hlj,hlj,hji,jW,jY];try rfl)|refine Wb ?_|fail
 refine zhF (fun _=>zC5 x.forecast x.chart x.fleet s.l[i].pas.l[j] _ okx2.1 okx2.2.1 okx2.2.2.1) ?_
 simp (maxSteps:=2000000) only [go_sem,jq,jj,jy,jv,jk,jx,p2,Bool.not_true,Bool.not_false,Bool.true_or,Bool.or_true,Bool.or_false,Bool.false_or,Bool.and_true,Bool.true_and,Bool.and_false,Bool.false_and,Bool.false_eq_true,false_implies,true_and,and_true,implies_true,bne_self_eq_false,beq_self_eq_true,reduceCtorEq]
 refine zhF (fun _=>zvP x.chart x.fleet s.l[i].pas.l[j] _ okx2.2.1 okx2.2.2.1) ?_
 simp (maxSteps:=2000000) only [go_sem,jq,jj,jy,jv,jk,jx,p1,Bool.not_true,Bool.not_false,Bool.true_or,Bool.or_true,Bool.or_false,Bool.false_or,Bool.and_true,Bool.true_and,Bool.and_false,Bool.false_and,Bool.false_eq_true,false_implies,true_and,and_true,implies_true,bne_self_eq_false,beq_self_eq_true,reduceCtorEq]
 repeat' first|refine zc8 ?_|(refine zc5 ?_;simp (maxSteps:=2000000) only [go_sem,jq,jj,jy,jv,jk,jx])|refine zc3 ?_
 refine zc9 rfl (fun hz=>?_) (fun hz=>?_)
 ·cases hz
 refine Wk ?_
 refine ⟨j+1,by omega,by omega,zjB (zjA hlj (by omega))⟩
set_option maxRecDepth 100000 in
theorem zDN (a0:Sl U8) (h:Hp) (oa0:a0.Ok h):Ct jV 8 [a0.val] h fun v h'=>v=.bool true:=by
 refine zdn (fun A W=>by simp) Try.func8 rfl rfl (by simp) fun W0=>?_
 refine Wk ?_
 refine zc9 rfl (fun hq=>?_) (fun hq=>?_)
 ·exact Wk0
 refine Wk ?_
 refine zkj (zDH a0 _ oa0) rfl ?_
 rintro v h1 le1 ⟨x,a,rfl,gx,ga,okx,oka⟩
 have hok:=zCU gx ga
 have hca:(Con.con a:DCall)=a:=rfl
 have hw:zvn (Con.con x.crew)=true:=by
  have h9:=hok
  rw [zvB,zvo,jJ,jJ] at h9
  exact h9.1.2
 refine Wk ?_
 refine zkj (zzc x a _ okx oka) rfl ?_
 rintro v h2 le2 ⟨s,rfl,es,oks,_⟩
 have okx2:=Enc.mono (x:=x) le2 okx
 have oka2:=Enc.mono (x:=a) le2 oka
 have hsm:=oks.max
 refine Wk ?_
 refine zhF (fun _=>zvE x a _ okx2 oka2) ?_
 simp (maxSteps:=2000000) only [go_sem,jq,jj,jy,jv,jk,jx,hca,hok,Bool.not_true,Bool.not_false,Bool.true_or,Bool.or_true,Bool.or_false,Bool.false_or,Bool.and_true,Bool.true_and,Bool.and_false,Bool.false_and,Bool.false_eq_true,false_implies,true_and,and_true,implies_true,bne_self_eq_false,beq_self_eq_true,reduceCtorEq]
 refine zhF (fun _=>zvx x.crew _ okx2.2.2.2.2) ?_
 simp (maxSteps:=2000000) only [go_sem,jq,jj,jy,jv,jk,jx,hw,Bool.not_true,Bool.not_false,Bool.true_or,Bool.or_true,Bool.or_false,Bool.false_or,Bool.and_true,Bool.true_and,Bool.and_false,Bool.false_and,Bool.false_eq_true,false_implies,true_and,and_true,implies_true,bne_self_eq_false,beq_self_eq_true,reduceCtorEq]
 repeat' first|refine zc8 ?_|(refine zc5 ?_;simp (maxSteps:=2000000) only [go_sem,jq,jj,jy,jv,jk,jx])|refine zc3 ?_
 refine zc9 rfl (fun hz=>?_) (fun hz=>?_)
 ·cases hz
 refine Wk ?_
 refine zc9 rfl (fun hz=>?_) (fun hz=>?_)
 ·refine Wk ?_
  refine zhF (fun _=>zxG x.chart x.fleet ⟨none,0,[]⟩ _ okx2.2.1 okx2.2.2.1 zmo) ?_
  simp (maxSteps:=2000000) only [go_sem,jq,jj,jy,jv,jk,jx,Bool.not_true,Bool.not_false,Bool.true_or,Bool.or_true,Bool.or_false,Bool.false_or,Bool.and_true,Bool.true_and,Bool.and_false,Bool.false_and,Bool.false_eq_true,false_implies,true_and,and_true,implies_true,bne_self_eq_false,beq_self_eq_true,reduceCtorEq]
  exact Wk0
 have h0:0 < s.l.length:=by
  rcases Nat.eq_zero_or_pos s.l.length with h9|h9
  ·rw [h9] at hz;cases hz
  ·exact h9
 have h0i:(0:Int) < s.l.length:=by omega
 have hat0:=zkC oks h0
 have hat0':=hat0
 simp only [Nat.zero_mul,zmA,zmB] at hat0'
 have hfs0:=zlP oks h0
 simp only [go_sem,Nat.zero_mul,zmB] at hfs0
 have hmem:(Con.con s.l[0]:POption) ∈ zy1 (Con.con x) a:=by
  rw [← show (Con.con s:List POption)=zy1 (Con.con x) a from es,zkq]
  exact List.mem_map.2 ⟨_,List.getElem_mem h0,rfl⟩
 obtain ⟨hP,hN,hD⟩:=zCp hok hmem
 have hP:zxB (Con.con x.chart) x.fleet.l s.l[0].pas.l=(⟨s.l[0].start,s.l[0].arr,a.src,a.dst⟩,true):=by
  rw [show (Con.con s.l[0]:POption).pas=s.l[0].pas.l from List.map_id _] at hP;exact hP
 have hN:zBq (Con.con x.crew) (Con.con x.chart) x.fleet.l [s.l[0].pas.l,[]]=1:=by
  rw [show (Con.con s.l[0]:POption).pas=s.l[0].pas.l from List.map_id _] at hN;exact hN
 have okq:s.l[0].pas.Ok h2:=(Sl.Ok.el oks h0).2.2.2
 repeat' first|refine zc8 ?_|(refine zc5 ?_;simp (maxSteps:=2000000) only [go_sem,jq,jj,jy,jv,jk,jx])|refine zc3 ?_
 refine zoc (ι:=Unit) (fun _=>⟨[(3,true,.c (.p 0 0)),(4,true,.c (.p 1 0)),(5,true,.c (.v s.val)),(8,true,.c (.p 2 0)),(9,true,.c (.v (.bool true)))],[(0,.box 40 [.v (.int .i64 x.forecast.tide.mean),.v x.forecast.tide.parts.val,.v x.forecast.surges.val,.v x.chart.points.val,.v x.chart.segments.val,.v x.fleet.val,.v (.int .i64 x.regime.gap),.v (.bool x.regime.noMeet),.v (.int .i64 x.crew.tugs),.v (.int .i64 x.crew.pilots),.v (.int .i64 x.crew.rest),.v x.crew.moves.val]),(1,.box 42 [.v (.int .i64 a.ship),.v (.int .i64 a.src),.v (.int .i64 a.dst),.v (.int .i64 a.ready),.v (.int .i64 a.due)]),(2,.box 87 [.v (.int .i64 s.l[0].start),.v (.int .i64 s.l[0].arr),.v (.int .i64 a.src),.v (.int .i64 a.dst)])],h2,3⟩) (fun _=>True) ?_ ?_
 ·refine znv rfl ?_
  refine U_t [0,2,4,1,3,5,6,7] rfl ?_
  simp (maxSteps:=2000000) only [go_sem,jq,jj,jy,jv,jk,jx,hat0,hat0',hfs0,oks.some h0,h0,h0i,Int.toNat_zero,Nat.zero_mul,Int.le_refl,zmA,zmB,Bool.not_true,Bool.not_false,Bool.true_or,Bool.or_true,Bool.or_false,Bool.false_or,Bool.and_true,Bool.true_and,Bool.and_false,Bool.false_and,Bool.false_eq_true,false_implies,true_and,and_true,implies_true,bne_self_eq_false,beq_self_eq_true,reduceCtorEq]
  refine U_m 8 [12] ⟨?_,?_,trivial⟩
  ·refine U_b 8 0 [] rfl rfl ?_
   simp (maxSteps:=2000000) only [go_sem,jq,jj,jy,jv,jk,jx,hat0,hat0',hfs0,oks.some h0,h0,h0i,Int.toNat_zero,Nat.zero_mul,Int.le_refl,zmA,zmB,Bool.not_true,Bool.not_false,Bool.true_or,Bool.or_true,Bool.or_false,Bool.false_or,Bool.and_true,Bool.true_and,Bool.and_false,Bool.false_and,Bool.false_eq_true,false_implies,true_and,and_true,implies_true,bne_self_eq_false,beq_self_eq_true,reduceCtorEq]
   refine zhF (fun _=>zxG x.chart x.fleet s.l[0].pas _ okx2.2.1 okx2.2.2.1 okq) ?_
   simp (maxSteps:=2000000) only [go_sem,jq,jj,jy,jv,jk,jx,hP,Bool.not_true,Bool.not_false,Bool.true_or,Bool.or_true,Bool.or_false,Bool.false_or,Bool.and_true,Bool.true_and,Bool.and_false,Bool.false_and,Bool.false_eq_true,false_implies,true_and,and_true,implies_true,bne_self_eq_false,beq_self_eq_true,reduceCtorEq]
   refine U_t [9,10,11] rfl ?_
   simp (maxSteps:=2000000) only [go_sem,jq,jj,jy,jv,jk,jx,hat0,hat0',hfs0,oks.some h0,h0,h0i,Int.toNat_zero,Nat.zero_mul,Int.le_refl,zmA,zmB,Bool.not_true,Bool.not_false,Bool.true_or,Bool.or_true,Bool.or_false,Bool.false_or,Bool.and_true,Bool.true_and,Bool.and_false,Bool.false_and,Bool.false_eq_true,false_implies,true_and,and_true,implies_true,bne_self_eq_false,beq_self_eq_true,reduceCtorEq]
   refine U_1 12 0 [11,10] rfl rfl ?_
   simp (maxSteps:=2000000) only [go_sem,jq,jj,jy,jv,jk,jx,hat0,hat0',hfs0,oks.some h0,h0,h0i,Int.toNat_zero,Nat.zero_mul,Int.le_refl,zmA,zmB,Bool.not_true,Bool.not_false,Bool.true_or,Bool.or_true,Bool.or_false,Bool.false_or,Bool.and_true,Bool.true_and,Bool.and_false,Bool.false_and,Bool.false_eq_true,false_implies,true_and,and_true,implies_true,bne_self_eq_false,beq_self_eq_true,reduceCtorEq]
   refine U_1 13 0 [11] rfl rfl ?_
   simp (maxSteps:=2000000) only [go_sem,jq,jj,jy,jv,jk,jx,hat0,hat0',hfs0,oks.some h0,h0,h0i,Int.toNat_zero,Nat.zero_mul,Int.le_refl,zmA,zmB,Bool.not_true,Bool.not_false,Bool.true_or,Bool.or_true,Bool.or_false,Bool.false_or,Bool.and_true,Bool.true_and,Bool.and_false,Bool.false_and,Bool.false_eq_true,false_implies,true_and,and_true,implies_true,bne_self_eq_false,beq_self_eq_true,reduceCtorEq]
   refine U_t [14] rfl ?_
   simp (maxSteps:=2000000) only [go_sem,jq,jj,jy,jv,jk,jx,hat0,hat0',hfs0,oks.some h0,h0,h0i,Int.toNat_zero,Nat.zero_mul,Int.le_refl,zmA,zmB,Bool.not_true,Bool.not_false,Bool.true_or,Bool.or_true,Bool.or_false,Bool.false_or,Bool.and_true,Bool.true_and,Bool.and_false,Bool.false_and,Bool.false_eq_true,false_implies,true_and,and_true,implies_true,bne_self_eq_false,beq_self_eq_true,reduceCtorEq]
   refine U_d ?_
   refine ⟨(),[0,1,2],?_⟩
   exact Gk
  ·refine U_b 12 0 [7,6,5,3,1,2,0] rfl rfl ?_
   simp (maxSteps:=2000000) only [go_sem,jq,jj,jy,jv,jk,jx,hat0,hat0',hfs0,oks.some h0,h0,h0i,Int.toNat_zero,Nat.zero_mul,Int.le_refl,zmA,zmB,Bool.not_true,Bool.not_false,Bool.true_or,Bool.or_true,Bool.or_false,Bool.false_or,Bool.and_true,Bool.true_and,Bool.and_false,Bool.false_and,Bool.false_eq_true,false_implies,true_and,and_true,implies_true,bne_self_eq_false,beq_self_eq_true,reduceCtorEq]
   refine U_1 8 0 [] rfl rfl ?_
   simp (maxSteps:=2000000) only [go_sem,jq,jj,jy,jv,jk,jx,hat0,hat0',hfs0,oks.some h0,h0,h0i,Int.toNat_zero,Nat.zero_mul,Int.le_refl,zmA,zmB,Bool.not_true,Bool.not_false,Bool.true_or,Bool.or_true,Bool.or_false,Bool.false_or,Bool.and_true,Bool.true_and,Bool.and_false,Bool.false_and,Bool.false_eq_true,false_implies,true_and,and_true,implies_true,bne_self_eq_false,beq_self_eq_true,reduceCtorEq]
   refine zhF (fun _=>zxG x.chart x.fleet s.l[0].pas _ okx2.2.1 okx2.2.2.1 okq) ?_
   simp (maxSteps:=2000000) only [go_sem,jq,jj,jy,jv,jk,jx,hP,Bool.not_true,Bool.not_false,Bool.true_or,Bool.or_true,Bool.or_false,Bool.false_or,Bool.and_true,Bool.true_and,Bool.and_false,Bool.false_and,Bool.false_eq_true,false_implies,true_and,and_true,implies_true,bne_self_eq_false,beq_self_eq_true,reduceCtorEq]
   refine U_t [9,10,11] rfl ?_
   simp (maxSteps:=2000000) only [go_sem,jq,jj,jy,jv,jk,jx,hat0,hat0',hfs0,oks.some h0,h0,h0i,Int.toNat_zero,Nat.zero_mul,Int.le_refl,zmA,zmB,Bool.not_true,Bool.not_false,Bool.true_or,Bool.or_true,Bool.or_false,Bool.false_or,Bool.and_true,Bool.true_and,Bool.and_false,Bool.false_and,Bool.false_eq_true,false_implies,true_and,and_true,implies_true,bne_self_eq_false,beq_self_eq_true,reduceCtorEq]
   refine U_1 13 0 [11] rfl rfl ?_
   simp (maxSteps:=2000000) only [go_sem,jq,jj,jy,jv,jk,jx,hat0,hat0',hfs0,oks.some h0,h0,h0i,Int.toNat_zero,Nat.zero_mul,Int.le_refl,zmA,zmB,Bool.not_true,Bool.not_false,Bool.true_or,Bool.or_true,Bool.or_false,Bool.false_or,Bool.and_true,Bool.true_and,Bool.and_false,Bool.false_and,Bool.false_eq_true,false_implies,true_and,and_true,implies_true,bne_self_eq_false,beq_self_eq_true,reduceCtorEq]
   refine U_t [14] rfl ?_
   simp (maxSteps:=2000000) only [go_sem,jq,jj,jy,jv,jk,jx,hat0,hat0',hfs0,oks.some h0,h0,h0i,Int.toNat_zero,Nat.zero_mul,Int.le_refl,zmA,zmB,Bool.not_true,Bool.not_false,Bool.true_or,Bool.or_true,Bool.or_false,Bool.false_or,Bool.and_true,Bool.true_and,Bool.and_false,Bool.false_and,Bool.false_eq_true,false_implies,true_and,and_true,implies_true,bne_self_eq_false,beq_self_eq_true,reduceCtorEq]
   refine U_d ?_
   refine ⟨(),[0,1,2],?_⟩
   exact Gk
 intro _ _
 repeat' first|refine zc8 ?_|(refine zc5 ?_;simp (maxSteps:=2000000) only [go_sem,jq,jj,jy,jv,jk,jx])|refine zc3 ?_
 refine znv rfl ?_
 refine U_t [0,2,4,6,1,3,5,7,8,9] rfl ?_
 simp (maxSteps:=2000000) only [go_sem,jq,jj,jy,jv,jk,jx,hat0,hat0',hfs0,oks.some h0,h0,h0i,Int.toNat_zero,Nat.zero_mul,Int.le_refl,zmA,zmB,Bool.not_true,Bool.not_false,Bool.true_or,Bool.or_true,Bool.or_false,Bool.false_or,Bool.and_true,Bool.true_and,Bool.and_false,Bool.false_and,Bool.false_eq_true,false_implies,true_and,and_true,implies_true,bne_self_eq_false,beq_self_eq_true,reduceCtorEq]
 refine U_1 10 0 [5,3,1,4,2,0] rfl rfl ?_
 simp (maxSteps:=2000000) only [go_sem,jq,jj,jy,jv,jk,jx,hat0,hat0',hfs0,oks.some h0,h0,h0i,Int.toNat_zero,Nat.zero_mul,Int.le_refl,zmA,zmB,Bool.not_true,Bool.not_false,Bool.true_or,Bool.or_true,Bool.or_false,Bool.false_or,Bool.and_true,Bool.true_and,Bool.and_false,Bool.false_and,Bool.false_eq_true,false_implies,true_and,and_true,implies_true,bne_self_eq_false,beq_self_eq_true,reduceCtorEq]
 refine zn9 3 ([s.l[0].pas,⟨none,0,[]⟩]:List (Sl DPassage)) rfl rfl rfl rfl fun ch h3 e3 R3 f3 le3 _=>?_
 have okch:ch.Ok h3:=R3.ok (by decide) fun y hy=>by
  rw [e3] at hy
  rcases List.mem_cons.1 hy with rfl|hy
  ·exact okq.mono le3
  ·rw [List.mem_singleton.1 hy];exact zmo
 have okx3:=Enc.mono (x:=x) le3 okx2
 have hN2:zBq (Con.con x.crew) (Con.con x.chart) x.fleet.l (ch.l.map (·.l))=1:=by rw [e3];exact hN
 simp (maxSteps:=2000000) only [go_sem,jq,jj,jy,jv,jk,jx,hat0,hat0',hfs0,oks.some h0,h0,h0i,Int.toNat_zero,Nat.zero_mul,Int.le_refl,zmA,zmB,Bool.not_true,Bool.not_false,Bool.true_or,Bool.or_true,Bool.or_false,Bool.false_or,Bool.and_true,Bool.true_and,Bool.and_false,Bool.false_and,Bool.false_eq_true,false_implies,true_and,and_true,implies_true,bne_self_eq_false,beq_self_eq_true,reduceCtorEq]
 refine U_1 11 0 [] rfl rfl ?_
 simp (maxSteps:=2000000) only [go_sem,jq,jj,jy,jv,jk,jx,hat0,hat0',hfs0,oks.some h0,h0,h0i,Int.toNat_zero,Nat.zero_mul,Int.le_refl,zmA,zmB,Bool.not_true,Bool.not_false,Bool.true_or,Bool.or_true,Bool.or_false,Bool.false_or,Bool.and_true,Bool.true_and,Bool.and_false,Bool.false_and,Bool.false_eq_true,false_implies,true_and,and_true,implies_true,bne_self_eq_false,beq_self_eq_true,reduceCtorEq]
 refine zhF (fun _=>zBB x.crew x.chart x.fleet ch _ okx3.2.2.2.2 okx3.2.1 okx3.2.2.1 okch (by rw [e3];exact Nat.le_of_ble_eq_true rfl)) ?_
 simp (maxSteps:=2000000) only [go_sem,jq,jj,jy,jv,jk,jx,hN2,Bool.not_true,Bool.not_false,Bool.true_or,Bool.or_true,Bool.or_false,Bool.false_or,Bool.and_true,Bool.true_and,Bool.and_false,Bool.false_and,Bool.false_eq_true,false_implies,true_and,and_true,implies_true,bne_self_eq_false,beq_self_eq_true,reduceCtorEq]
 refine U_t [12] rfl ?_
 simp (maxSteps:=2000000) only [go_sem,jq,jj,jy,jv,jk,jx,hat0,hat0',hfs0,oks.some h0,h0,h0i,Int.toNat_zero,Nat.zero_mul,Int.le_refl,zmA,zmB,Bool.not_true,Bool.not_false,Bool.true_or,Bool.or_true,Bool.or_false,Bool.false_or,Bool.and_true,Bool.true_and,Bool.and_false,Bool.false_and,Bool.false_eq_true,false_implies,true_and,and_true,implies_true,bne_self_eq_false,beq_self_eq_true,reduceCtorEq]
 refine U_d ?_
 have oks3:=oks.mono le3
 have hau0:=zkC oks3 h0
 have hau0':=hau0
 simp only [Nat.zero_mul,zmA,zmB] at hau0'
 have hfu0:=zlP oks3 h0
 simp only [go_sem,Nat.zero_mul,zmB] at hfu0
 have hdok:∀ h9:Hp,Enc.ok h9 (⟨s.l[0].start,s.l[0].arr,a.src,a.dst⟩:DDuty):=fun h9=>⟨(oks.el h0).1,(oks.el h0).2.1,oka2.2.1,oka2.2.2.1⟩
 repeat' first|refine zc8 ?_|(refine zc5 ?_;simp (maxSteps:=2000000) only [go_sem,jq,jj,jy,jv,jk,jx])|refine zc3 ?_
 refine znv rfl ?_
 refine U_t [0,1,2,4,3,5,6,7,8,9,10,11,13,12,14,15,16,17,18,19,20,22,21,23,24,25,26,27,29,28,30,31,32,33,34,35,36,37,38] rfl ?_
 simp (maxSteps:=2000000) only [go_sem,jq,jj,jy,jv,jk,jx,hau0,hau0',hfu0,oks3.some h0,h0,h0i,Int.toNat_zero,Nat.zero_mul,Int.le_refl,zmA,zmB,Bool.not_true,Bool.not_false,Bool.true_or,Bool.or_true,Bool.or_false,Bool.false_or,Bool.and_true,Bool.true_and,Bool.and_false,Bool.false_and,Bool.false_eq_true,false_implies,true_and,and_true,implies_true,bne_self_eq_false,beq_self_eq_true,reduceCtorEq]
 refine U_1 39 0 [] rfl rfl ?_
 simp (maxSteps:=2000000) only [go_sem,jq,jj,jy,jv,jk,jx,hau0,hau0',hfu0,oks3.some h0,h0,h0i,Int.toNat_zero,Nat.zero_mul,Int.le_refl,zmA,zmB,Bool.not_true,Bool.not_false,Bool.true_or,Bool.or_true,Bool.or_false,Bool.false_or,Bool.and_true,Bool.true_and,Bool.and_false,Bool.false_and,Bool.false_eq_true,false_implies,true_and,and_true,implies_true,bne_self_eq_false,beq_self_eq_true,reduceCtorEq]
 refine zn9 4 ([⟨s.l[0].start,s.l[0].arr,a.src,a.dst⟩]:List DDuty) rfl rfl rfl rfl fun du h4 e4 R4 f4 le4 _=>?_
 have okdu:du.Ok h4:=R4.ok (by decide) fun y hy=>by
  rw [e4] at hy
  rw [List.mem_singleton.1 hy]
  exact hdok _
 have hD2:zz2 du.l=true:=by rw [e4];exact hD
 refine Evs ?_
 refine U_1 40 0 [] rfl rfl ?_
 simp (maxSteps:=2000000) only [go_sem,jq,jj,jy,jv,jk,jx,hau0,hau0',hfu0,oks3.some h0,h0,h0i,Int.toNat_zero,Nat.zero_mul,Int.le_refl,zmA,zmB,Bool.not_true,Bool.not_false,Bool.true_or,Bool.or_true,Bool.or_false,Bool.false_or,Bool.and_true,Bool.true_and,Bool.and_false,Bool.false_and,Bool.false_eq_true,false_implies,true_and,and_true,implies_true,bne_self_eq_false,beq_self_eq_true,reduceCtorEq]
 refine zhF (fun _=>zz5 du _ okdu) ?_
 simp (maxSteps:=2000000) only [go_sem,jq,jj,jy,jv,jk,jx,hD2,Bool.not_true,Bool.not_false,Bool.true_or,Bool.or_true,Bool.or_false,Bool.false_or,Bool.and_true,Bool.true_and,Bool.and_false,Bool.false_and,Bool.false_eq_true,false_implies,true_and,and_true,implies_true,bne_self_eq_false,beq_self_eq_true,reduceCtorEq]
 refine U_t [41,42] rfl ?_
 simp (maxSteps:=2000000) only [go_sem,jq,jj,jy,jv,jk,jx,hau0,hau0',hfu0,oks3.some h0,h0,h0i,Int.toNat_zero,Nat.zero_mul,Int.le_refl,zmA,zmB,Bool.not_true,Bool.not_false,Bool.true_or,Bool.or_true,Bool.or_false,Bool.false_or,Bool.and_true,Bool.true_and,Bool.and_false,Bool.false_and,Bool.false_eq_true,false_implies,true_and,and_true,implies_true,bne_self_eq_false,beq_self_eq_true,reduceCtorEq]
 refine U_d ?_
 exact Wk0
end Go.Proofs.Ytdeflkhkfmjckaa
