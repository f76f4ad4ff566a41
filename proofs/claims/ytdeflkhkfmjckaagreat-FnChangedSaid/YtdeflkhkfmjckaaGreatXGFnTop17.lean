/- What functions of the given program compute, as contracts. -/
import Derived.Test.YtdeflkhkfmjckaaGreatXGFnTop16
set_option linter.unusedVariables false
set_option linter.unusedSimpArgs false
set_option maxRecDepth 4000
open Nat renaming reduceAdd → jq, reduceMul → jj, reduceBEq → jy, reduceLeDiff → jv, reduceLT → jk, reduceEqDiff → jx
open Bool renaming or_eq_false_iff → jp, or_eq_true → jQ, and_eq_true → jJ
open Int renaming toNat_natCast → jW, natCast_nonneg → jY
open Go.Proofs.Tryz renaming prog → jV
namespace Go.Proofs.YtdeflkhkfmjckaaGreat
open Go Go.SL
set_option maxHeartbeats 1000000
structure GSt (l:List DSurge) (t:Int):Prop where
 ok:∀ i,i < l.length→zuX l i=true
 z:l=[]→t=0
 nz:l ≠ []→(l.getD 0 dS).src=0
 lt:∀ s ∈ l,s.src < t
 t0:0≤t
 t1:t≤799 * l.length
theorem zDh {l:List DSurge} {t lo hi j:Int} (H:GSt l t) (hl:l.length≤2) (h1:-40≤lo∧lo < 20) (h2:lo≤hi∧hi < lo+60) (h3:0≤j∧j < 700):GSt (l ++ [⟨t,lo,hi⟩]) (t+100+j):=by
 obtain ⟨g1,g2,g3,g4,g5,g6⟩:=H
 have ea:∀ i,i < l.length→(l ++ [(⟨t,lo,hi⟩:DSurge)]).getD i dS=l.getD i dS:=fun i hi=>by rw [List.getD_eq_getElem?_getD,List.getElem?_append_left hi,← List.getD_eq_getElem?_getD]
 have eb:(l ++ [(⟨t,lo,hi⟩:DSurge)]).getD l.length dS=⟨t,lo,hi⟩:=by simp only [List.getD_eq_getElem?_getD,List.getElem?_concat_length,Option.getD_some]
 have ln:(l ++ [(⟨t,lo,hi⟩:DSurge)]).length=l.length+1:=by rw [List.length_append];rfl
 refine ⟨fun i hi9=>?_,fun e=>by simp at e,fun _=>?_,fun s hs=>?_,by omega,by rw [ln];push_cast;omega⟩
 ·rw [ln] at hi9
  rcases Nat.lt_or_ge i l.length with hi|hi
  ·have:=g1 i hi
   rw [zuX] at this ⊢
   rw [ea i hi,ea (i - 1) (by omega)]
   exact this
  ·obtain rfl:i=l.length:=by omega
   rw [zuX,eb,zuK]
   simp only [In,jJ,decide_eq_true_eq,Bool.not_eq_true',Bool.and_eq_false_iff,decide_eq_false_iff_not]
   refine ⟨by omega,?_⟩
   rcases Nat.eq_zero_or_pos l.length with h0|h0
   ·exact .inl (by omega)
   ·refine .inr ?_
    rw [ea _ (by omega)]
    have:=g4 (l.getD (l.length - 1) dS) (by rw [List.getD_eq_getElem?_getD,List.getElem?_eq_getElem (by omega)];exact List.getElem_mem _)
    omega
 ·cases l with
  | nil=>show t=0;exact g2 rfl
  | cons y l=>rw [ea 0 (Nat.succ_pos _)];exact g3 (by simp)
 ·rcases List.mem_append.1 hs with hs|hs
  ·have:=g4 s hs;omega
  ·rw [List.mem_singleton.1 hs];show t < _;omega
theorem zDi {l:List DSurge} {t:Int} (H:GSt l t) {h:Hp}:∀ s ∈ l,Enc.ok h s:=fun s hs=>by
 obtain ⟨i,hi,rfl⟩:=List.getElem_of_mem hs
 have h1:=H.ok i hi
 rw [zuX,jJ,List.getD_eq_getElem?_getD,List.getElem?_eq_getElem hi,zuK] at h1
 simp only [In,jJ,decide_eq_true_eq,Option.getD_some] at h1
 refine ⟨?_,?_,?_⟩ <;> unfold I64 <;> omega
set_option maxRecDepth 30000 in
theorem zDj (c:Sl U8) (h:Hp) (b:Nat) (H:Cu 129 c h b):Cw jV 100 [.pointer (some ⟨b,0,none⟩)] h (fun k=>k=b) fun v h'=>∃ f:DForecast,(v=f.v∧zCz f.tide∧GSur f.surges.l∧Enc.ok (h'.del b) f)∧Cg 129 c h b h':=by
 refine zlh (fun A W=>by simp) Tryz.func100 rfl rfl (by simp)  (fun q hq=>by rw [hq];exact H.ne) fun W0 hW=>?_
 have own:W0.own b:=hW b rfl
 (first|refine zie rfl ?_|refine zc4 rfl ?_|(refine zc3 ?_;first|refine zie rfl ?_|refine zc4 rfl ?_));simp only [go_sem,jq,jj,jy,jv,jk,jx]
 first|refine zmR [0,1] rfl ?_|refine zmQ [0,1] rfl ?_|(refine zc3 ?_;first|refine zmR [0,1] rfl ?_|refine zmQ [0,1] rfl ?_)
 refine Evs ?_
 refine zli (zDg c _ b H) rfl (fun q hq=>⟨by rw [hq];exact H.ne,.inr (hq ▸ own)⟩) ?_
 rintro v h1 - ⟨t,⟨rfl,gt,okt⟩,G1⟩
 have C1:=G1.1
 refine Evs ?_
 (first|refine zie rfl ?_|refine zc4 rfl ?_|(refine zc3 ?_;first|refine zie rfl ?_|refine zc4 rfl ?_));simp only [go_sem,jq,jj,jy,jv,jk,jx]
 first|refine zmR [0,1] rfl ?_|refine zmQ [0,1] rfl ?_|(refine zc3 ?_;first|refine zmR [0,1] rfl ?_|refine zmQ [0,1] rfl ?_)
 refine Evs ?_
 refine zli (zDb c 3 _ b C1 (by decide)) rfl (fun q hq=>⟨by rw [hq];exact C1.ne,.inr (hq ▸ own)⟩) ?_
 rintro v h2 - ⟨k2,⟨rfl,a2,b2⟩,G2⟩
 have C2:=G2.1
 refine Evs ?_
 obtain ⟨n0,hn0⟩:∃ n0:Nat,IntKind.i64.wrap (1+k2)=(n0:Int)∧1≤n0∧n0≤3:=⟨(1+k2).toNat,by rw [zjz (by omega)];omega⟩
 rw [hn0.1]
 refine zoj 1 [.v (.int .i64 t.mean),.v t.parts.val] [] 155 3 rfl ?_
 refine Evs ?_
 try (refine zc3 ?_)
 refine zc8 ?_
 refine zoe (ι:=List DSurge × Nat × Int × Hp) (fun i=>⟨[(0,true,.c (.v (.pointer (some ⟨b,0,none⟩)))),(2,true,.c (.p 0 0)),(3,true,.c (.p 1 0)),(4,true,.c (.v (.int .i64 i.2.2.1))),(5,true,.c (.v (.int .i64 i.2.1)))],[(0,.box 28 [.v (.int .i64 0),.v (.slice none 0 0),.v (.slice none 0 0)]),(1,.box 28 [.v (.int .i64 t.mean),.v t.parts.val,.s 2]),(2,.row 155 3 i.1.length (i.1.flatMap Enc.enc))],i.2.2.2,3⟩)
  (fun i=>i.1.length+i.2.1=n0∧GSt i.1 i.2.2.1∧Cg 129 c h b i.2.2.2∧(h1.del b).le (i.2.2.2.del b)) (fun i=>i.2.1) ([],n0,0,h2) ⟨Nat.zero_add _,⟨fun i hi=>absurd hi (Nat.not_lt_zero i),fun _=>rfl,fun e=>(e rfl).elim,fun s hs=>(by cases hs),Int.le_refl _,Int.le_refl _⟩,G1.trans G2,G2.2⟩ [0,1,2] ?_ ?_
 ·refine Evs ?_
  repeat' first|exact rfl|exact trivial|assumption|decide|refine And.intro ?_ ?_
 rintro ⟨ls,n,t4,hk⟩ ⟨hl,hg,Gk,lek⟩
 simp only at hl hg Gk lek
 have Ck:=Gk.1
 have ht0:=hg.t0
 have ht1:=hg.t1
 have hl3:ls.length≤3:=by omega
 refine Wk ?_
 refine zc9 rfl (fun hd=>?_) (fun hd=>?_)
 ·have hlt:0 < n:=by have:=of_decide_eq_true hd;omega
  repeat' first|refine zc8 ?_|(refine zc5 ?_;simp only [go_sem,jq,jj,jy,jv,jk,jx])|refine zc3 ?_
  first|refine zmR [0,1] rfl ?_|refine zmQ [0,1] rfl ?_|(refine zc3 ?_;first|refine zmR [0,1] rfl ?_|refine zmQ [0,1] rfl ?_)
  refine Evs ?_
  refine zli (zDb c 60 _ b Ck (by decide)) rfl (fun q hq=>⟨by rw [hq];exact Ck.ne,.inr (hq ▸ own)⟩) ?_
  rintro v h8 - ⟨k8,⟨rfl,a8,b8⟩,G8⟩
  have C8:=G8.1
  refine Evs ?_
  rw [zjz (n:=k8 - 40) (by omega)]
  obtain ⟨wlow,hwl⟩:∃ wlow:Int,k8 - 40=wlow:=⟨_,rfl⟩
  rw [hwl]
  repeat' first|refine zc8 ?_|(refine zc5 ?_;simp only [go_sem,jq,jj,jy,jv,jk,jx])|refine zc3 ?_
  refine znv rfl ?_
  refine U_t [0,2,3,4,5,1] rfl ?_
  refine Evs ?_
  refine U_1 6 1 [1,0] rfl rfl ?_
  refine Evs ?_
  refine zli (zDb c 60 _ b C8 (by decide)) rfl (fun q hq=>⟨by rw [hq];exact C8.ne,.inr (hq ▸ own)⟩) ?_
  rintro v h9 - ⟨k9,⟨rfl,a9,b9⟩,G9⟩
  have C9:=G9.1
  refine Evs ?_
  refine U_t [7] rfl ?_
  refine Evs ?_
  refine U_1 8 0 [1,0] rfl rfl ?_
  refine Evs ?_
  refine U_1 9 0 [1,0] rfl rfl ?_
  refine Evs ?_
  refine U_1 10 0 [] rfl rfl ?_
  refine Evs ?_
  try simp only [go_sem,jq,jj,jy,jv,jk,jx]
  refine ⟨by simp only [maxLen];omega,by omega,?_⟩
  try simp only [go_sem,jq,jj,jy,jv,jk,jx]
  refine U_t [11] rfl ?_
  refine Evs ?_
  refine U_1 12 0 [] rfl rfl ?_
  refine Evs ?_
  refine U_d ?_
  rw [zjz (n:=wlow+k9) (by omega)]
  repeat' first|refine zc8 ?_|(refine zc5 ?_;simp only [go_sem,jq,jj,jy,jv,jk,jx])|refine zc3 ?_
  first|refine zmR [0,0,0,1] rfl ?_|refine zmQ [0,0,0,1] rfl ?_|(refine zc3 ?_;first|refine zmR [0,0,0,1] rfl ?_|refine zmQ [0,0,0,1] rfl ?_)
  refine Evs ?_
  refine zli (zDb c 700 _ b C9 (by decide)) rfl (fun q hq=>⟨by rw [hq];exact C9.ne,.inr (hq ▸ own)⟩) ?_
  rintro v h10 - ⟨k10,⟨rfl,a10,b10⟩,G10⟩
  have C10:=G10.1
  refine Evs ?_
  rw [zjz (n:=t4+100) (by omega),zjz (n:=t4+100+k10) (by omega)]
  repeat' first|refine zc8 ?_|(refine zc5 ?_;simp only [go_sem,jq,jj,jy,jv,jk,jx])|refine zc3 ?_
  (first|refine zie rfl ?_|refine zc4 rfl ?_|(refine zc3 ?_;first|refine zie rfl ?_|refine zc4 rfl ?_));simp only [go_sem,jq,jj,jy,jv,jk,jx]
  have hw:IntKind.i64.wrap ((n:Int) - 1)=((n - 1:Nat):Int):=by rw [zjz (by omega)];omega
  refine ⟨(ls ++ [⟨t4,wlow,wlow+k9⟩],n - 1,t4+100+k10,h10),[0,1,4],⟨?_,?_,?_,?_⟩,(by show n - 1 < n;omega),?_⟩
  ·show (ls ++ [_]).length+(n - 1)=n0
   rw [List.length_append,List.length_singleton];omega
  ·exact zDh hg (by omega) (by omega) (by omega) (by omega)
  ·exact ((Gk.trans G8).trans G9).trans G10
  ·exact Hp.le_trans (Hp.le_trans (Hp.le_trans lek G8.2) G9.2) G10.2
  simp only [go_sem,jq,jj,jy,jv,jk,jx,hw,List.length_append,List.flatMap_append]
  repeat' first|exact rfl|exact trivial|assumption|decide|refine And.intro ?_ ?_
 have hn:n=0:=by have:=of_decide_eq_false hd;omega
 refine zc6 ?_
 refine Evs ?_
 refine znD 2 ls rfl rfl rfl rfl fun s h9 e9 R9 f9 le9 _=>?_
 refine Wk ?_
 have G9:=Gk.grow le9
 have hd9:=(zou R9 f9 Ck.ne).ok (by decide) (zDi (by rw [e9];exact hg))
 refine ⟨⟨t,s⟩,⟨rfl,gt,⟨?_,?_,?_⟩,⟨Enc.mono (Hp.le_trans lek (zot le9)) okt,hd9⟩⟩,G9⟩
 ·rw [e9];omega
 ·rw [e9];exact hg.nz (fun e=>by rw [e,List.length_nil] at hl;omega)
 ·rw [e9];exact hg.ok
theorem zDk {h:Hp} {w:Bool} {o2:Option Int}:∀ x ∈ ptsG w o2,Enc.ok h x:=fun x hx=>by
 have key:x.name.size≤4:=by
  unfold ptsG at hx
  cases o2 with
  | none =>
   simp only [List.append_nil,List.mem_cons,List.not_mem_nil,or_false] at hx
   rcases hx with rfl|rfl|rfl|rfl <;> exact Nat.le_of_ble_eq_true rfl
  | some d =>
   simp only [List.mem_append,List.mem_cons,List.not_mem_nil,or_false] at hx
   rcases hx with (rfl|rfl|rfl|rfl)|rfl <;> exact Nat.le_of_ble_eq_true rfl
 show x.name.size≤maxLen
 simp only [maxLen]
 omega
theorem zDl {d1 m1 d2 m2 d3 m3:Int} {mt:Bool} (o1:Option (Int × Int)) (o2:Option Int):(zCD d1 m1 d2 m2 d3 m3 mt o1 o2).length≤5:=by
 unfold zCD
 cases o1 <;> cases o2 <;> exact Nat.le_of_ble_eq_true rfl
theorem zDm {d1 m1 d2 m2 d3 m3:Int} {mt:Bool} {o1:Option (Int × Int)} {d:Int}:zCD d1 m1 d2 m2 d3 m3 mt o1 (some d)=zCD d1 m1 d2 m2 d3 m3 mt o1 none ++ [⟨2,4,800+d,15,false⟩]:=by
 unfold zCD
 rw [List.append_nil]
theorem zDn {h:Hp} {d1 m1 d2 m2 d3 m3:Int} {mt:Bool} {o1:Option (Int × Int)} {o2:Option Int} (b1:0≤d1∧d1 < 300) (b2:0≤m1∧m1 < 40) (b3:0≤d2∧d2 < 300) (b4:0≤m2∧m2 < 30) (b5:0≤d3∧d3 < 200) (b6:0≤m3∧m3 < 20)
  (b7:∀ q,o1=some q→(0≤q.1∧q.1 < 300)∧(0≤q.2∧q.2 < 30)) (b8:∀ d,o2=some d→0≤d∧d < 300):∀ x ∈ zCD d1 m1 d2 m2 d3 m3 mt o1 o2,Enc.ok h x:=fun x hx=>by
 have key:(0≤x.a∧x.a≤9)∧(0≤x.b∧x.b≤9)∧(0≤x.depth∧x.depth≤3000)∧0≤x.minutes∧x.minutes≤300:=by
  unfold zCD at hx
  rw [List.mem_append,List.mem_append] at hx
  rcases hx with (hx|hx)|hx
  ·simp only [List.mem_cons,List.not_mem_nil,or_false] at hx
   rcases hx with rfl|rfl|rfl <;> refine ⟨⟨?_,?_⟩,⟨?_,?_⟩,⟨?_,?_⟩,?_,?_⟩ <;> dsimp only <;> omega
  ·cases o1 with
   | none=>cases hx
   | some q =>
    have:=b7 q rfl
    rw [List.mem_singleton] at hx
    subst hx
    refine ⟨⟨?_,?_⟩,⟨?_,?_⟩,⟨?_,?_⟩,?_,?_⟩ <;> dsimp only <;> omega
  ·cases o2 with
   | none=>cases hx
   | some d =>
    have:=b8 d rfl
    rw [List.mem_singleton] at hx
    subst hx
    refine ⟨⟨?_,?_⟩,⟨?_,?_⟩,⟨?_,?_⟩,?_,?_⟩ <;> dsimp only <;> omega
 obtain ⟨k1,k2,k3,k4⟩:=key
 refine ⟨?_,?_,?_,?_⟩ <;> unfold I64 <;> omega
set_option maxRecDepth 30000 in
theorem zDo (c:Sl U8) (h:Hp) (b:Nat) (H:Cu 129 c h b):Cw jV 101 [.pointer (some ⟨b,0,none⟩)] h (fun k=>k=b) fun v h'=>∃ x:DChart,(v=x.v∧zCE x∧Enc.ok (h'.del b) x)∧Cg 129 c h b h':=by
 refine zlh (fun A W=>by simp) Tryz.func101 rfl rfl (by simp)  (fun q hq=>by rw [hq];exact H.ne) fun W0 hW=>?_
 have own:W0.own b:=hW b rfl
 (first|refine zie rfl ?_|refine zc4 rfl ?_|(refine zc3 ?_;first|refine zie rfl ?_|refine zc4 rfl ?_));simp only [go_sem,jq,jj,jy,jv,jk,jx]
 first|refine zmR [0,0,0,1,0,0,2] rfl ?_|refine zmQ [0,0,0,1,0,0,2] rfl ?_|(refine zc3 ?_;first|refine zmR [0,0,0,1,0,0,2] rfl ?_|refine zmQ [0,0,0,1,0,0,2] rfl ?_)
 refine Evs ?_
 refine zli (zDc c 2 _ b H (by decide)) rfl (fun q hq=>⟨by rw [hq];exact H.ne,.inr (hq ▸ own)⟩) ?_
 rintro v h1 - ⟨w,rfl,G1⟩
 have C1:=G1.1
 refine Evs ?_
 refine fun ad cap h2 P=>?_
 try simp only [go_sem,jq,jj,jy,jv,jk,jx]
 have P':Pub h1 170 (Enc.size DPoint) (ptsG w none).length ((ptsG w none).flatMap Enc.enc) ad cap h2:=P
 obtain ⟨R2,f2,_⟩:=P'.row
 have C2:=C1.grow P.le
 have G2:Cg 129 c h b h2:=G1.grow P.le
 have fr:∀ g,ad=some ⟨g,0,none⟩→h g=none∧g ≠ b:=fun g hg=>G1.fresh (f2 g hg)
 have Rd:=zou R2 f2 C1.ne
 first|refine zmR [0,1,0,0,1,0,0,0,1,0,0,1,0,0,1,0,0,1,0,0,1] rfl ?_|refine zmQ [0,1,0,0,1,0,0,0,1,0,0,1,0,0,1,0,0,1,0,0,1] rfl ?_|(refine zc3 ?_;first|refine zmR [0,1,0,0,1,0,0,0,1,0,0,1,0,0,1,0,0,1,0,0,1] rfl ?_|refine zmQ [0,1,0,0,1,0,0,0,1,0,0,1,0,0,1,0,0,1,0,0,1] rfl ?_)
 refine Evs ?_
 refine zli (zDb c 300 _ b C2 (by decide)) rfl (fun q hq=>⟨by rw [hq];exact C2.ne,.inr (hq ▸ own)⟩) ?_
 rintro v h3 - ⟨k3,⟨rfl,a3,b3⟩,G3⟩
 have C3:=G3.1
 refine Evs ?_
 refine zli (zDb c 40 _ b C3 (by decide)) rfl (fun q hq=>⟨by rw [hq];exact C3.ne,.inr (hq ▸ own)⟩) ?_
 rintro v h4 - ⟨k4,⟨rfl,a4,b4⟩,G4⟩
 have C4:=G4.1
 refine Evs ?_
 refine zli (zDb c 300 _ b C4 (by decide)) rfl (fun q hq=>⟨by rw [hq];exact C4.ne,.inr (hq ▸ own)⟩) ?_
 rintro v h5 - ⟨k5,⟨rfl,a5,b5⟩,G5⟩
 have C5:=G5.1
 refine Evs ?_
 refine zli (zDb c 30 _ b C5 (by decide)) rfl (fun q hq=>⟨by rw [hq];exact C5.ne,.inr (hq ▸ own)⟩) ?_
 rintro v h6 - ⟨k6,⟨rfl,a6,b6⟩,G6⟩
 have C6:=G6.1
 refine Evs ?_
 refine zli (zDc c 2 _ b C6 (by decide)) rfl (fun q hq=>⟨by rw [hq];exact C6.ne,.inr (hq ▸ own)⟩) ?_
 rintro v h7 - ⟨mt,rfl,G7⟩
 have C7:=G7.1
 refine Evs ?_
 refine zli (zDb c 200 _ b C7 (by decide)) rfl (fun q hq=>⟨by rw [hq];exact C7.ne,.inr (hq ▸ own)⟩) ?_
 rintro v h8 - ⟨k8,⟨rfl,a8,b8⟩,G8⟩
 have C8:=G8.1
 refine Evs ?_
 refine zli (zDb c 20 _ b C8 (by decide)) rfl (fun q hq=>⟨by rw [hq];exact C8.ne,.inr (hq ▸ own)⟩) ?_
 rintro v h9 - ⟨k9,⟨rfl,a9,b9⟩,G9⟩
 have C9:=G9.1
 refine Evs ?_
 rw [zjz (n:=900+k3) (by omega),zjz (n:=10+k4) (by omega),zjz (n:=800+k5) (by omega),zjz (n:=10+k6) (by omega),zjz (n:=900+k8) (by omega),zjz (n:=5+k9) (by omega)]
 first|refine zmR [0,1] rfl ?_|refine zmQ [0,1] rfl ?_|(refine zc3 ?_;first|refine zmR [0,1] rfl ?_|refine zmQ [0,1] rfl ?_)
 refine Evs ?_
 refine zli (zDc c 3 _ b C9 (by decide)) rfl (fun q hq=>⟨by rw [hq];exact C9.ne,.inr (hq ▸ own)⟩) ?_
 rintro v h10 - ⟨q10,rfl,G10⟩
 have C10:=G10.1
 refine Evs ?_
 have G10':Cg 129 c h2 b h10:=((((((G3.trans G4).trans G5).trans G6).trans G7).trans G8).trans G9).trans G10
 repeat' first|refine zc8 ?_|(refine zc5 ?_;simp only [go_sem,jq,jj,jy,jv,jk,jx])|refine zc3 ?_
 refine zod (ι:=Option (Int × Int) × Hp) (fun i=>⟨[(0,true,.c (.v (.pointer (some ⟨b,0,none⟩)))),(2,true,.c (.p 0 0)),(3,true,.c (.p 1 0))],[(0,.box 32 [.v (.slice none 0 0),.v (.slice none 0 0)]),(1,.box 32 [.v (.slice ad 4 cap),.s 2]),(2,.row 152 5 (zCD k3 k4 k5 k6 k8 k9 mt i.1 none).length ((zCD k3 k4 k5 k6 k8 k9 mt i.1 none).flatMap Enc.enc))],i.2,3⟩)
  (fun i=>(∀ q,i.1=some q→(0≤q.1∧q.1 < 300)∧(0≤q.2∧q.2 < 30))∧Cg 129 c h2 b i.2) (fun _=>rfl) ?_ ?_
 ·refine zc9 rfl (fun hq=>?_) (fun hq=>?_)
  ·repeat' first|refine zc8 ?_|(refine zc5 ?_;simp only [go_sem,jq,jj,jy,jv,jk,jx])|refine zc3 ?_
   refine znv rfl ?_
   refine U_t [0,2,5,1] rfl ?_
   refine Evs ?_
   refine U_1 3 1 [1,0] rfl rfl ?_
   refine Evs ?_
   refine zli (zDb c 300 _ b C10 (by decide)) rfl (fun q hq=>⟨by rw [hq];exact C10.ne,.inr (hq ▸ own)⟩) ?_
   rintro v h11 - ⟨k11,⟨rfl,a11,b11⟩,G11⟩
   have C11:=G11.1
   refine Evs ?_
   refine U_t [4] rfl ?_
   refine Evs ?_
   refine U_1 6 1 [4,1,0] rfl rfl ?_
   refine Evs ?_
   refine zli (zDb c 30 _ b C11 (by decide)) rfl (fun q hq=>⟨by rw [hq];exact C11.ne,.inr (hq ▸ own)⟩) ?_
   rintro v h12 - ⟨k12,⟨rfl,a12,b12⟩,G12⟩
   have C12:=G12.1
   refine Evs ?_
   refine U_t [7] rfl ?_
   refine Evs ?_
   refine U_1 8 0 [1,0] rfl rfl ?_
   refine Evs ?_
   refine U_1 9 0 [1,0] rfl rfl ?_
   refine Evs ?_
   refine U_1 10 0 [] rfl rfl ?_
   refine Evs ?_
   refine ⟨by simp only [maxLen];omega,?_⟩
   try simp only [go_sem,jq,jj,jy,jv,jk,jx]
   refine U_t [11] rfl ?_
   refine Evs ?_
   refine U_1 12 0 [] rfl rfl ?_
   refine Evs ?_
   refine U_d ?_
   rw [zjz (n:=700+k11) (by omega),zjz (n:=20+k12) (by omega)]
   refine ⟨(some (k11,k12),h12),[0,2,5],⟨fun q hq=>?_,(G10'.trans G11).trans G12⟩,?_⟩
   ·rw [← Option.some.inj hq];exact ⟨⟨a11,b11⟩,a12,b12⟩
   refine Evs ?_
   repeat' first|exact rfl|exact trivial|assumption|decide|refine And.intro ?_ ?_
  ·repeat' first|refine zc8 ?_|(refine zc5 ?_;simp only [go_sem,jq,jj,jy,jv,jk,jx])|refine zc3 ?_
   refine ⟨(none,h10),[0,2,3],⟨fun q hq=>(by cases hq),G10'⟩,?_⟩
   refine Evs ?_
   repeat' first|exact rfl|exact trivial|assumption|decide|refine And.intro ?_ ?_
 rintro ⟨o1,hm⟩ ⟨bo1,Gm⟩
 simp only at bo1 Gm
 have Cm:=Gm.1
 repeat' first|refine zc8 ?_|(refine zc5 ?_;simp only [go_sem,jq,jj,jy,jv,jk,jx])|refine zc3 ?_
 first|refine zmR [0,1] rfl ?_|refine zmQ [0,1] rfl ?_|(refine zc3 ?_;first|refine zmR [0,1] rfl ?_|refine zmQ [0,1] rfl ?_)
 refine Evs ?_
 refine zli (zDc c 3 _ b Cm (by decide)) rfl (fun q hq=>⟨by rw [hq];exact Cm.ne,.inr (hq ▸ own)⟩) ?_
 rintro v h13 - ⟨q13,rfl,G13⟩
 have C13:=G13.1
 refine Evs ?_
 repeat' first|refine zc8 ?_|(refine zc5 ?_;simp only [go_sem,jq,jj,jy,jv,jk,jx])|refine zc3 ?_
 refine zc9 rfl (fun hq=>?_) (fun hq=>?_)
 ·repeat' first|refine zc8 ?_|(refine zc5 ?_;simp only [go_sem,jq,jj,jy,jv,jk,jx])|refine zc3 ?_
  first|refine zmR [0,0,0,0,3] rfl ?_|refine zmQ [0,0,0,0,3] rfl ?_|(refine zc3 ?_;first|refine zmR [0,0,0,0,3] rfl ?_|refine zmQ [0,0,0,0,3] rfl ?_)
  refine Evs ?_
  have Rm:RowAt 170 h13 (Sl.mk ad cap (ptsG w none)):=zov (zov Rd (Gm.trans G13).2) zoq
  refine znE (s:=Sl.mk ad cap (ptsG w none)) rfl Rm (fun g hg=>.inl (fr g hg).1) ?_
  refine Evs ?_
  have hpl:(ptsG w none).length=4:=rfl
  refine ⟨rfl,by rw [hpl];simp only [maxLen];omega,by rw [hpl];omega,fun ad2 cap2 h14 P14=>?_⟩
  obtain ⟨G14,hn14⟩:=Cg.adopt (G2.trans (Gm.trans G13)) H.1 Rm fr P14
  have C14:=G14.1
  have P14':Pub (znC h13 (Sl.mk ad cap (ptsG w none))) 170 (Enc.size DPoint) (ptsG w (some 0)).length ((ptsG w (some 0)).flatMap Enc.enc) ad2 cap2 h14:=P14
  obtain ⟨R14,f14,_⟩:=P14'.row
  have Rd14:=zou R14 f14 hn14
  repeat' first|refine zc8 ?_|(refine zc5 ?_;simp only [go_sem,jq,jj,jy,jv,jk,jx])|refine zc3 ?_
  refine znv rfl ?_
  refine U_t [0,2,1] rfl ?_
  refine Evs ?_
  refine U_1 3 1 [1,0] rfl rfl ?_
  refine Evs ?_
  refine zli (zDb c 300 _ b C14 (by decide)) rfl (fun q hq=>⟨by rw [hq];exact C14.ne,.inr (hq ▸ own)⟩) ?_
  rintro v h15 - ⟨k15,⟨rfl,a15,b15⟩,G15⟩
  have C15:=G15.1
  refine Evs ?_
  refine U_t [4] rfl ?_
  refine Evs ?_
  refine U_1 5 0 [1,0] rfl rfl ?_
  refine Evs ?_
  refine U_1 6 0 [1,0] rfl rfl ?_
  refine Evs ?_
  refine U_1 7 0 [] rfl rfl ?_
  refine Evs ?_
  refine ⟨by have:=@zDl k3 k4 k5 k6 k8 k9 mt o1 none;simp only [maxLen];omega,by have:=@zDl k3 k4 k5 k6 k8 k9 mt o1 none;omega,?_⟩
  try simp only [go_sem,jq,jj,jy,jv,jk,jx]
  refine U_t [8] rfl ?_
  refine Evs ?_
  refine U_1 9 0 [] rfl rfl ?_
  refine Evs ?_
  refine U_d ?_
  rw [zjz (n:=800+k15) (by omega)]
  repeat' first|refine zc8 ?_|(refine zc5 ?_;simp only [go_sem,jq,jj,jy,jv,jk,jx])|refine zc3 ?_
  (first|refine zie rfl ?_|refine zc4 rfl ?_|(refine zc3 ?_;first|refine zie rfl ?_|refine zc4 rfl ?_));simp only [go_sem,jq,jj,jy,jv,jk,jx]
  refine znD 7 (zCD k3 k4 k5 k6 k8 k9 mt o1 (some k15)) rfl rfl ?_ ?_ fun s h20 e20 R20 f20 le20 _=>?_
  ·rw [zDm,List.length_append];rfl
  ·rw [zDm,List.flatMap_append];rfl
  refine Wk ?_
  have G20:=(G14.trans G15).grow le20
  have k1:(Sl.mk ad2 cap2 (ptsG w (some 0))).Ok (h20.del b):=(zov Rd14 (G15.grow le20).2).ok (by decide) (fun x hx=>zDk (w:=w) (o2:=some 0) x hx)
  have k2:s.Ok (h20.del b):=(zou R20 f20 C15.ne).ok (by decide) (by rw [e20];exact zDn ⟨a3,b3⟩ ⟨a4,b4⟩ ⟨a5,b5⟩ ⟨a6,b6⟩ ⟨a8,b8⟩ ⟨a9,b9⟩ bo1 (fun d hd=>by cases hd;exact ⟨a15,b15⟩))
  exact ⟨⟨Sl.mk ad2 cap2 (ptsG w (some 0)),s⟩,⟨rfl,⟨w,mt,k3,k4,k5,k6,k8,k9,o1,some k15,⟨⟨a3,b3⟩,⟨a4,b4⟩,⟨a5,b5⟩,⟨a6,b6⟩,⟨a8,b8⟩,⟨a9,b9⟩⟩,bo1,(fun d hd=>by cases hd;exact ⟨a15,b15⟩),rfl,e20⟩,⟨k1,k2⟩⟩,G20⟩
 repeat' first|refine zc8 ?_|(refine zc5 ?_;simp only [go_sem,jq,jj,jy,jv,jk,jx])|refine zc3 ?_
 (first|refine zie rfl ?_|refine zc4 rfl ?_|(refine zc3 ?_;first|refine zie rfl ?_|refine zc4 rfl ?_));simp only [go_sem,jq,jj,jy,jv,jk,jx]
 refine znD 2 (zCD k3 k4 k5 k6 k8 k9 mt o1 none) rfl rfl rfl rfl fun s h20 e20 R20 f20 le20 _=>?_
 refine Wk ?_
 have G20:=(Gm.trans G13).grow le20
 have k1:(Sl.mk ad cap (ptsG w none)).Ok (h20.del b):=(zov Rd G20.2).ok (by decide) (fun x hx=>zDk (w:=w) (o2:=none) x hx)
 have k2:s.Ok (h20.del b):=(zou R20 f20 C13.ne).ok (by decide) (by rw [e20];exact zDn ⟨a3,b3⟩ ⟨a4,b4⟩ ⟨a5,b5⟩ ⟨a6,b6⟩ ⟨a8,b8⟩ ⟨a9,b9⟩ bo1 (fun d hd=>by cases hd))
 exact ⟨⟨Sl.mk ad cap (ptsG w none),s⟩,⟨rfl,⟨w,mt,k3,k4,k5,k6,k8,k9,o1,none,⟨⟨a3,b3⟩,⟨a4,b4⟩,⟨a5,b5⟩,⟨a6,b6⟩,⟨a8,b8⟩,⟨a9,b9⟩⟩,bo1,(fun d hd=>by cases hd),rfl,e20⟩,⟨k1,k2⟩⟩,⟨G20.1,Hp.le_trans G2.2 G20.2⟩⟩
def dig (i:Nat):ByteArray:=⟨#[UInt8.ofNat (48+i)]⟩
theorem zDp (i:Nat) (h:Hp) (hi:i≤9):Ct jV 145 [.int .i64 i] h fun v h'=>v=.string (dig i)∧h'=h:=by
 refine Ct.forget ?_
 refine zdn (fun A W=>by simp) Tryz.func145 rfl rfl (by simp) fun W0=>?_
 refine Wk ?_
 refine zc9 rfl (fun hc=>?_) (fun hc=>?_)
 ·have:=of_decide_eq_true hc;omega
 refine Wk ?_
 refine zde (ι:=Unit) (fun _=>⟨[(0,true,.c (.v (.int .i64 (i:Int)))),(3,true,.c (.v (.string ByteArray.empty)))],[],h,0⟩) (fun _=>True) (fun _=>0) () trivial ?_ ?_
 ·refine Evs ?_
  repeat' first|exact rfl|exact trivial|assumption|decide|refine And.intro ?_ ?_
 rintro _ _
 refine Wk ?_
 refine zc9 rfl (fun hc=>?_) (fun hc=>?_)
 ·have:=of_decide_eq_true hc;omega
 refine zc6 ?_
 refine Evs ?_
 have hw1:IntKind.i64.wrap (48+(i:Int))=((48+i:Nat):Int):=by rw [zjz (by omega)];omega
 have hw2:IntKind.u8.wrap ((48+i:Nat):Int)=((48+i:Nat):Int):=by
  show (((48+i:Nat):Int)) % 256=_
  omega
 first|refine zmR [0,0,0,0,4] rfl ?_|refine zmQ [0,0,0,0,4] rfl ?_|(refine zc3 ?_;first|refine zmR [0,0,0,0,4] rfl ?_|refine zmQ [0,0,0,0,4] rfl ?_)
 simp only [go_sem,jq,jj,jy,jv,jk,jx,hw1,hw2]
 try (refine ⟨by decide,?_⟩)
 refine zmS (ns:=[((48+i:Nat):Int)]) rfl rfl Tryz.underlying22 Tryz.underlying5 Tryz.underlying9 ?_
 refine Evs ?_
 have e:bstr [((48+i:Nat):Int)] ++ ByteArray.empty=dig i:=by
  rw [ByteArray.append_empty];rfl
 rw [e]
 refine ⟨by show 1+0≤_;omega,?_⟩
 exact Wk0
theorem zDq {i:Nat}:(⟨#[115]⟩:ByteArray) ++ dig i=zCF i:=by
 ext1
 rw [ByteArray.data_append]
 rfl
theorem zDr {h:Hp} {k:Int} {i:Nat} {s:DShip} (hk:k≤10) (H:zCG k i s):Enc.ok h s:=by
 obtain ⟨h1,h2,h3,h4,h5⟩:=H
 refine ⟨?_,?_,?_,?_,?_⟩
 ·show s.name.size≤maxLen
  rw [h1]
  show 2≤maxLen
  simp only [maxLen];omega
 all_goals unfold I64;omega
set_option maxRecDepth 30000 in
theorem zDs (i:Nat) (hi:i≤9) (c:Sl U8) (h:Hp) (b:Nat) (H:Cu 129 c h b):Cw jV 131 [.pointer (some ⟨b,0,none⟩),.int .i64 i] h (fun k=>k=b) fun v h'=>∃ s:DShip,(v=s.v∧zCG 3 i s)∧Cg 129 c h b h':=by
 refine zlh (fun A W=>by simp) Tryz.func131 rfl rfl (by simp)  (fun q hq=>by rw [hq];exact H.ne) fun W0 hW=>?_
 have own:W0.own b:=hW b rfl
 (first|refine zie rfl ?_|refine zc4 rfl ?_|(refine zc3 ?_;first|refine zie rfl ?_|refine zc4 rfl ?_));simp only [go_sem,jq,jj,jy,jv,jk,jx]
 first|refine zmR [0,0,0,0,1,0,0,1,0,0,1,0,1,0,1] rfl ?_|refine zmQ [0,0,0,0,1,0,0,1,0,0,1,0,1,0,1] rfl ?_|(refine zc3 ?_;first|refine zmR [0,0,0,0,1,0,0,1,0,0,1,0,1,0,1] rfl ?_|refine zmQ [0,0,0,0,1,0,0,1,0,0,1,0,1,0,1] rfl ?_)
 refine Evs ?_
 refine zhF (fun _=>zDp i _ hi) ?_
 refine Evs ?_
 rw [zDq]
 refine ⟨by show 1+1≤_;omega,?_⟩
 refine zli (zDb c 200 _ b H (by decide)) rfl (fun q hq=>⟨by rw [hq];exact H.ne,.inr (hq ▸ own)⟩) ?_
 rintro v h1 - ⟨k1,⟨rfl,a1,b1⟩,G1⟩
 have C1:=G1.1
 refine Evs ?_
 refine zli (zDb c 500 _ b C1 (by decide)) rfl (fun q hq=>⟨by rw [hq];exact C1.ne,.inr (hq ▸ own)⟩) ?_
 rintro v h2 - ⟨k2,⟨rfl,a2,b2⟩,G2⟩
 have C2:=G2.1
 refine Evs ?_
 refine zli (zDb c 4 _ b C2 (by decide)) rfl (fun q hq=>⟨by rw [hq];exact C2.ne,.inr (hq ▸ own)⟩) ?_
 rintro v h3 - ⟨k3,⟨rfl,a3,b3⟩,G3⟩
 have C3:=G3.1
 refine Evs ?_
 refine zli (zDb c 3 _ b C3 (by decide)) rfl (fun q hq=>⟨by rw [hq];exact C3.ne,.inr (hq ▸ own)⟩) ?_
 rintro v h4 - ⟨k4,⟨rfl,a4,b4⟩,G4⟩
 have C4:=G4.1
 refine Evs ?_
 refine zli (zDc c 4 _ b C4 (by decide)) rfl (fun q hq=>⟨by rw [hq];exact C4.ne,.inr (hq ▸ own)⟩) ?_
 rintro v h5 - ⟨k5,rfl,G5⟩
 have C5:=G5.1
 refine Evs ?_
 rw [zjz (n:=40+k1) (by omega),zjz (n:=600+k2) (by omega)]
 refine Wk ?_
 exact ⟨⟨zCF i,40+k1,600+k2,k3,k4,k5⟩,⟨rfl,rfl,(by show 40≤40+k1∧40+k1 < 240;omega),(by show 600≤600+k2∧600+k2 < 1100;omega),⟨a3,b3⟩,a4,b4⟩,(((G1.trans G2).trans G3).trans G4).trans G5⟩
theorem zDt {k:Int} {l:List DShip} {s:DShip} (H:∀ i,i < l.length→zCG k i (l.getD i dH)) (hs:zCG k l.length s):∀ i,i < (l ++ [s]).length→zCG k i ((l ++ [s]).getD i dH):=fun i hi=>by
 rw [List.length_append,List.length_singleton] at hi
 rcases Nat.lt_or_ge i l.length with h|h
 ·rw [List.getD_eq_getElem?_getD,List.getElem?_append_left h,← List.getD_eq_getElem?_getD];exact H i h
 ·obtain rfl:i=l.length:=by omega
  have e:(l ++ [s]).getD l.length dH=s:=by simp only [List.getD_eq_getElem?_getD,List.getElem?_concat_length,Option.getD_some]
  rw [e];exact hs
set_option maxRecDepth 30000 in
theorem zDu (c:Sl U8) (h:Hp) (b:Nat) (H:Cu 129 c h b):Cw jV 102 [.pointer (some ⟨b,0,none⟩),.int .i64 3] h (fun k=>k=b) fun v h'=>∃ s:Sl DShip,(v=s.val∧zCH 3 s.l∧RowAt 59 (h'.del b) s∧∀ g,s.a=some ⟨g,0,none⟩→h g=none∧g ≠ b)∧Cg 129 c h b h':=by
 refine zlh (fun A W=>by simp) Tryz.func102 rfl rfl (by simp)  (fun q hq=>by rw [hq];exact H.ne) fun W0 hW=>?_
 have own:W0.own b:=hW b rfl
 (first|refine zie rfl ?_|refine zc4 rfl ?_|(refine zc3 ?_;first|refine zie rfl ?_|refine zc4 rfl ?_));simp only [go_sem,jq,jj,jy,jv,jk,jx]
 (first|refine zie rfl ?_|refine zc4 rfl ?_|(refine zc3 ?_;first|refine zie rfl ?_|refine zc4 rfl ?_));simp only [go_sem,jq,jj,jy,jv,jk,jx]
 first|refine zmR [0,0,1] rfl ?_|refine zmQ [0,0,1] rfl ?_|(refine zc3 ?_;first|refine zmR [0,0,1] rfl ?_|refine zmQ [0,0,1] rfl ?_)
 refine Evs ?_
 refine zli (zDb c 3 _ b H (by decide)) rfl (fun q hq=>⟨by rw [hq];exact H.ne,.inr (hq ▸ own)⟩) ?_
 rintro v h2 - ⟨k2,⟨rfl,a2,b2⟩,G2⟩
 have C2:=G2.1
 refine Evs ?_
 obtain ⟨n0,hn0⟩:∃ n0:Nat,IntKind.i64.wrap (1+k2)=(n0:Int)∧1≤n0∧n0≤3:=⟨(1+k2).toNat,by rw [zjz (by omega)];omega⟩
 rw [hn0.1]
 repeat' first|refine zc8 ?_|(refine zc5 ?_;simp only [go_sem,jq,jj,jy,jv,jk,jx])|refine zc3 ?_
 refine zoe (ι:=List DShip × Nat × Hp) (fun i=>⟨[(0,true,.c (.v (.pointer (some ⟨b,0,none⟩)))),(4,true,.c (.v (.slice none 0 0))),(5,true,.c (.s 0)),(6,true,.c (.v (.int .i64 i.2.1)))],[(0,.row 59 6 i.1.length (i.1.flatMap Enc.enc))],i.2.2,1⟩)
  (fun i=>i.1.length+i.2.1=n0∧(∀ j,j < i.1.length→zCG 3 j (i.1.getD j dH))∧Cg 129 c h b i.2.2) (fun i=>i.2.1) ([],n0,h2) ⟨Nat.zero_add _,(fun j hj=>absurd hj (Nat.not_lt_zero j)),G2⟩ [0] ?_ ?_
 ·refine Evs ?_
  repeat' first|exact rfl|exact trivial|assumption|decide|refine And.intro ?_ ?_
 rintro ⟨ls,n,hk⟩ ⟨hl,hg,Gk⟩
 simp only at hl hg Gk
 have Ck:=Gk.1
 refine Wk ?_
 refine zc9 rfl (fun hd=>?_) (fun hd=>?_)
 ·have hlt:0 < n:=by have:=of_decide_eq_true hd;omega
  repeat' first|refine zc8 ?_|(refine zc5 ?_;simp only [go_sem,jq,jj,jy,jv,jk,jx])|refine zc3 ?_
  first|refine zmR [0,0,0,0,1] rfl ?_|refine zmQ [0,0,0,0,1] rfl ?_|(refine zc3 ?_;first|refine zmR [0,0,0,0,1] rfl ?_|refine zmQ [0,0,0,0,1] rfl ?_)
  refine Evs ?_
  refine zli (zDs ls.length (by omega) c _ b Ck) rfl (fun q hq=>⟨by rw [hq];exact Ck.ne,.inr (hq ▸ own)⟩) ?_
  rintro v h9 - ⟨s,⟨rfl,gs⟩,G9⟩
  refine Evs ?_
  refine ⟨by simp only [maxLen];omega,by omega,?_⟩
  refine Wk ?_
  have hw:IntKind.i64.wrap ((n:Int) - 1)=((n - 1:Nat):Int):=by rw [zjz (by omega)];omega
  refine ⟨(ls ++ [s],n - 1,h9),[2],⟨?_,zDt hg gs,Gk.trans G9⟩,(by show n - 1 < n;omega),?_⟩
  ·show (ls ++ [_]).length+(n - 1)=n0
   rw [List.length_append,List.length_singleton];omega
  simp only [go_sem,jq,jj,jy,jv,jk,jx,hw,List.length_append,List.flatMap_append]
  repeat' first|exact rfl|exact trivial|assumption|decide|refine And.intro ?_ ?_
 have hn:n=0:=by have:=of_decide_eq_false hd;omega
 refine zc6 ?_
 refine Evs ?_
 refine znD 0 ls rfl rfl rfl rfl fun s h9 e9 R9 f9 le9 _=>?_
 refine Wk ?_
 have G9:=Gk.grow le9
 exact ⟨s,⟨rfl,⟨by rw [e9];omega,by rw [e9];exact hg⟩,zou R9 f9 Ck.ne,fun g hg=>Gk.fresh (f9 g hg)⟩,G9⟩
theorem zDv (h:Hp):Ct jV 146 [] h fun v h'=>∃ s:Sl Int,v=s.val∧s.l=List.replicate 64 0∧RowAt 3 h' s∧∀ g,s.a=some ⟨g,0,none⟩→h g=none:=by
 refine zdn (fun A W=>by simp) Tryz.func146 rfl rfl (by simp) fun W0=>?_
 refine Wk ?_
 refine ⟨by decide,by simp only [maxLen];decide,by decide,?_⟩
 rw [show zch (Operand.const (Value.int IntKind.i64 64))=false from rfl]
 refine Evs ?_
 refine znD 0 (List.replicate 64 (0:Int)) rfl rfl rfl (by kernel_rfl) fun s h9 e9 R9 f9 le9 _=>?_
 refine Wk ?_
 exact ⟨s,rfl,e9,R9,f9⟩
theorem zDw (c:Sl U8) (h:Hp) (b:Nat) (H:Cu 129 c h b):Cw jV 103 [.pointer (some ⟨b,0,none⟩)] h (fun k=>k=b) fun v h'=>∃ r:DRegime,(v=r.v∧0≤r.gap∧r.gap < 30)∧Cg 129 c h b h':=by
 refine zlh (fun A W=>by simp) Tryz.func103 rfl rfl (by simp)  (fun q hq=>by rw [hq];exact H.ne) fun W0 hW=>?_
 have own:W0.own b:=hW b rfl
 (first|refine zie rfl ?_|refine zc4 rfl ?_|(refine zc3 ?_;first|refine zie rfl ?_|refine zc4 rfl ?_));simp only [go_sem,jq,jj,jy,jv,jk,jx]
 first|refine zmR [0,1,0,1] rfl ?_|refine zmQ [0,1,0,1] rfl ?_|(refine zc3 ?_;first|refine zmR [0,1,0,1] rfl ?_|refine zmQ [0,1,0,1] rfl ?_)
 refine Evs ?_
 refine zli (zDb c 30 _ b H (by decide)) rfl (fun q hq=>⟨by rw [hq];exact H.ne,.inr (hq ▸ own)⟩) ?_
 rintro v h1 - ⟨k1,⟨rfl,a1,b1⟩,G1⟩
 have C1:=G1.1
 refine Evs ?_
 refine zli (zDc c 4 _ b C1 (by decide)) rfl (fun q hq=>⟨by rw [hq];exact C1.ne,.inr (hq ▸ own)⟩) ?_
 rintro v h2 - ⟨k2,rfl,G2⟩
 have C2:=G2.1
 refine Evs ?_
 refine Wk ?_
 exact ⟨⟨k1,k2⟩,⟨rfl,a1,b1⟩,G1.trans G2⟩
set_option maxRecDepth 30000 in
theorem zDx (c:Sl U8) (h:Hp) (b:Nat) (H:Cu 129 c h b):Cw jV 132 [.pointer (some ⟨b,0,none⟩)] h (fun k=>k=b) fun v h'=>∃ s:Sl Int,(v=s.val∧(s.l.length=64∧∀ y ∈ s.l,0≤y∧y≤20)∧s.Ok (h'.del b)∧RowAt 3 (h'.del b) s∧∀ g,s.a=some ⟨g,0,none⟩→h g=none)∧Cg 129 c h b h':=by
 refine zlh (fun A W=>by simp) Tryz.func132 rfl rfl (by simp)  (fun q hq=>by rw [hq];exact H.ne) fun W0 hW=>?_
 have own:W0.own b:=hW b rfl
 (first|refine zie rfl ?_|refine zc4 rfl ?_|(refine zc3 ?_;first|refine zie rfl ?_|refine zc4 rfl ?_));simp only [go_sem,jq,jj,jy,jv,jk,jx]
 (first|refine zie rfl ?_|refine zc4 rfl ?_|(refine zc3 ?_;first|refine zie rfl ?_|refine zc4 rfl ?_));simp only [go_sem,jq,jj,jy,jv,jk,jx]
 refine zkj (zDv _) rfl ?_
 rintro v h1 le1 ⟨⟨sa,sc,sl⟩,rfl,es,Rs,fs⟩
 simp only at es
 subst es
 refine Evs ?_
 have C1:=H.grow le1
 have fr:∀ g,sa=some ⟨g,0,none⟩→h g=none∧g ≠ b:=fun g hg=>(Cg.refl H).fresh (fs g hg)
 have Rd:=zou Rs fs H.ne
 refine Wk ?_
 have h64:(Sl.mk sa sc (List.replicate 64 (0:Int))).val=.slice sa 64 sc:=rfl
 refine zoe (ι:=Nat × List Int × Hp) (fun i=>⟨[(0,true,.c (.v (.pointer (some ⟨b,0,none⟩)))),(3,true,.c (.v (.slice sa 64 sc))),(7,true,.c (.v (.int .i64 64))),(8,true,.c (.v (.int .i64 i.1)))],[],i.2.2,0⟩)
  (fun i=>i.1≤64∧i.2.1.length=64∧(∀ y ∈ i.2.1,0≤y∧y≤20)∧Cg 129 c h b i.2.2∧RowAt 3 (i.2.2.del b) (Sl.mk sa sc i.2.1)) (fun i=>64 - i.1) (0,List.replicate 64 0,h1) ⟨Nat.zero_le _,List.length_replicate,(fun y hy=>by rw [List.eq_of_mem_replicate hy];omega),(Cg.refl H).grow le1,Rd⟩ [] ?_ ?_
 ·simp only [go_sem,jq,jj,jy,jv,jk,jx,h64,List.length_replicate]
  repeat' first|exact rfl|exact trivial|assumption|decide|refine And.intro ?_ ?_
 rintro ⟨i,l,hk⟩ ⟨hi,hl,hy,Gk,Rk⟩
 simp only at hi hl hy Gk Rk
 have Ck:=Gk.1
 refine Wk ?_
 refine zc9 rfl (fun hd=>?_) (fun hd=>?_)
 ·have hlt:i < 64:=by have:=of_decide_eq_true hd;omega
  repeat' first|refine zc8 ?_|(refine zc5 ?_;simp only [go_sem,jq,jj,jy,jv,jk,jx])|refine zc3 ?_
  (first|refine zie rfl ?_|refine zc4 rfl ?_|(refine zc3 ?_;first|refine zie rfl ?_|refine zc4 rfl ?_));simp only [go_sem,jq,jj,jy,jv,jk,jx]
  (first|refine zie rfl ?_|refine zc4 rfl ?_|(refine zc3 ?_;first|refine zie rfl ?_|refine zc4 rfl ?_));simp only [go_sem,jq,jj,jy,jv,jk,jx]
  refine ⟨by decide,?_⟩
  repeat' first|refine zc8 ?_|(refine zc5 ?_;simp only [go_sem,jq,jj,jy,jv,jk,jx])|refine zc3 ?_
  refine zod (ι:=List Int × Hp) (fun j=>⟨[(0,true,.c (.v (.pointer (some ⟨b,0,none⟩)))),(3,true,.c (.v (.slice sa 64 sc))),(7,true,.c (.v (.int .i64 64))),(8,true,.c (.v (.int .i64 i)))],[],j.2,0⟩)
   (fun j=>j.1.length=64∧(∀ y ∈ j.1,0≤y∧y≤20)∧Cg 129 c h b j.2∧RowAt 3 (j.2.del b) (Sl.mk sa sc j.1)) (fun _=>rfl) ?_ ?_
  ·refine zc9 rfl (fun hq=>?_) (fun hq=>?_)
   ·first|refine zmR [0,0,0,1,0,0,1] rfl ?_|refine zmQ [0,0,0,1,0,0,1] rfl ?_|(refine zc3 ?_;first|refine zmR [0,0,0,1,0,0,1] rfl ?_|refine zmQ [0,0,0,1,0,0,1] rfl ?_)
    refine Evs ?_
    refine zli (zDb c 5 _ b Ck (by decide)) rfl (fun q hq=>⟨by rw [hq];exact Ck.ne,.inr (hq ▸ own)⟩) ?_
    rintro v h2 - ⟨k2,⟨rfl,a2,b2⟩,G2⟩
    have C2:=G2.1
    have G2':=Gk.trans G2
    have R2:=zov Rk G2.2
    have hil:i < l.length:=by omega
    obtain ⟨g,cur,ga,gb,gs,R3⟩:=zoy (i:=i) (o:=0) (u:=.int .i64 (5 * k2)) (w:=5 * k2) R2 hil (by decide) rfl
    have ga:sa=some ⟨g,0,none⟩:=ga
    have hgb:g ≠ b:=(fr g ga).2
    have gb':h2 g=some (.cells cur 3 (0,0)):=by rw [Hp.del_ne hgb] at gb;exact gb
    simp only [go_sem,jq,jj,jy,jv,jk,jx,ga,zjz (show -9223372036854775808≤5 * k2∧5 * k2≤9223372036854775807 by omega),Option.map_some,za4,Option.isSome_some,jW,jY,Nat.mul_one,Nat.zero_add,Nat.add_zero,true_and,and_true,implies_true]
    refine ⟨hlt,?_⟩
    have e0:i * Enc.size Int+0=i:=by show i * 1+0=i;omega
    rw [e0] at gs R3
    refine zlC (by simp only [go_sem]) (by simp only [go_sem]) rfl rfl gb' (.inl (fr g ga).1) gs ?_
    refine ⟨(l.set i (5 * k2),h2.ins g (.cells (spl i [.int .i64 (5 * k2)] cur.toList).toArray 3 (0,0))),[],⟨by rw [List.length_set];exact hl,fun y h9=>?_,G2'.ins H.1 (fr g ga).1 hgb,by rw [zoz hgb,← ga];exact R3⟩,?_⟩
    ·rcases List.mem_or_eq_of_mem_set h9 with h9|h9
     ·exact hy y h9
     ·rw [h9];omega
    simp only [go_sem,jq,jj,jy,jv,jk,jx,ga]
    repeat' first|exact rfl|exact trivial|assumption|decide|refine And.intro ?_ ?_
   ·repeat' first|refine zc8 ?_|(refine zc5 ?_;simp only [go_sem,jq,jj,jy,jv,jk,jx])|refine zc3 ?_
    refine ⟨(l,hk),[],⟨hl,hy,Gk,Rk⟩,?_⟩
    refine Evs ?_
    repeat' first|exact rfl|exact trivial|assumption|decide|refine And.intro ?_ ?_
  rintro ⟨l2,hj⟩ ⟨hl2,hy2,Gj,Rj⟩
  simp only at hl2 hy2 Gj Rj
  repeat' first|refine zc8 ?_|(refine zc5 ?_;simp only [go_sem,jq,jj,jy,jv,jk,jx])|refine zc3 ?_
  (first|refine zie rfl ?_|refine zc4 rfl ?_|(refine zc3 ?_;first|refine zie rfl ?_|refine zc4 rfl ?_));simp only [go_sem,jq,jj,jy,jv,jk,jx]
  refine ⟨(i+1,l2,hj),[],⟨hlt,hl2,hy2,Gj,Rj⟩,(by show 64 - (i+1) < 64 - i;omega),?_⟩
  refine Evs ?_
  repeat' first|exact zjB (zjA hlt (by omega))|exact rfl|exact trivial|assumption|decide|refine And.intro ?_ ?_
 refine Wk ?_
 exact ⟨Sl.mk sa sc l,⟨by simp only [Sl.val,hl],⟨hl,hy⟩,Rk.ok (by decide) fun y h9=>by have:=hy y h9;show I64 y;unfold I64;omega,Rk,fun g hg=>(fr g hg).1⟩,Gk⟩
set_option maxRecDepth 30000 in
theorem zDy (c:Sl U8) (h:Hp) (b:Nat) (H:Cu 129 c h b):Cw jV 104 [.pointer (some ⟨b,0,none⟩)] h (fun k=>k=b) fun v h'=>∃ w:DCrew,(v=w.v∧zCI w∧RowAt 3 (h'.del b) w.moves∧∀ g,w.moves.a=some ⟨g,0,none⟩→h g=none)∧Cg 129 c h b h':=by
 refine zlh (fun A W=>by simp) Tryz.func104 rfl rfl (by simp)  (fun q hq=>by rw [hq];exact H.ne) fun W0 hW=>?_
 have own:W0.own b:=hW b rfl
 (first|refine zie rfl ?_|refine zc4 rfl ?_|(refine zc3 ?_;first|refine zie rfl ?_|refine zc4 rfl ?_));simp only [go_sem,jq,jj,jy,jv,jk,jx]
 first|refine zmR [0,1,0,0,1,0,0,1,0,1] rfl ?_|refine zmQ [0,1,0,0,1,0,0,1,0,1] rfl ?_|(refine zc3 ?_;first|refine zmR [0,1,0,0,1,0,0,1,0,1] rfl ?_|refine zmQ [0,1,0,0,1,0,0,1,0,1] rfl ?_)
 refine Evs ?_
 refine zli (zDb c 4 _ b H (by decide)) rfl (fun q hq=>⟨by rw [hq];exact H.ne,.inr (hq ▸ own)⟩) ?_
 rintro v h1 - ⟨k1,⟨rfl,a1,b1⟩,G1⟩
 have C1:=G1.1
 refine Evs ?_
 refine zli (zDb c 3 _ b C1 (by decide)) rfl (fun q hq=>⟨by rw [hq];exact C1.ne,.inr (hq ▸ own)⟩) ?_
 rintro v h2 - ⟨k2,⟨rfl,a2,b2⟩,G2⟩
 have C2:=G2.1
 refine Evs ?_
 refine zli (zDb c 60 _ b C2 (by decide)) rfl (fun q hq=>⟨by rw [hq];exact C2.ne,.inr (hq ▸ own)⟩) ?_
 rintro v h3 - ⟨k3,⟨rfl,a3,b3⟩,G3⟩
 have C3:=G3.1
 refine Evs ?_
 refine zli (zDx c _ b C3) rfl (fun q hq=>⟨by rw [hq];exact C3.ne,.inr (hq ▸ own)⟩) ?_
 rintro v h4 - ⟨s,⟨rfl,ms,_,Rs,fs⟩,G4⟩
 have C4:=G4.1
 refine Evs ?_
 rw [zjz (n:=1+k1) (by omega),zjz (n:=1+k2) (by omega)]
 refine Wk ?_
 exact ⟨⟨1+k1,1+k2,k3,s⟩,⟨rfl,⟨(by show 1≤1+k1∧1+k1 < 5;omega),(by show 1≤1+k2∧1+k2 < 4;omega),⟨a3,b3⟩,ms⟩,Rs,fun g hg=>((((Cg.refl H).trans G1).trans G2).trans G3).fresh (fs g hg) |>.1⟩,((G1.trans G2).trans G3).trans G4⟩
set_option maxRecDepth 30000 in
theorem zDz (c:Sl U8) (h:Hp) (b:Nat) (H:Cu 129 c h b):Cw jV 63 [.pointer (some ⟨b,0,none⟩)] h (fun k=>k=b) fun v h'=>∃ x:DHarbour,(v=x.v∧zCJ x∧Enc.ok (h'.del b) x)∧Cg 129 c h b h':=by
 refine zlh (fun A W=>by simp) Tryz.func63 rfl rfl (by simp)  (fun q hq=>by rw [hq];exact H.ne) fun W0 hW=>?_
 have own:W0.own b:=hW b rfl
 (first|refine zie rfl ?_|refine zc4 rfl ?_|(refine zc3 ?_;first|refine zie rfl ?_|refine zc4 rfl ?_));simp only [go_sem,jq,jj,jy,jv,jk,jx]
 first|refine zmR [0,1,0,1,0,1,0,1,0,1] rfl ?_|refine zmQ [0,1,0,1,0,1,0,1,0,1] rfl ?_|(refine zc3 ?_;first|refine zmR [0,1,0,1,0,1,0,1,0,1] rfl ?_|refine zmQ [0,1,0,1,0,1,0,1,0,1] rfl ?_)
 refine Evs ?_
 refine zli (zDj c _ b H) rfl (fun q hq=>⟨by rw [hq];exact H.ne,.inr (hq ▸ own)⟩) ?_
 rintro v h1 - ⟨f,⟨rfl,gt,gs0,okf⟩,G1⟩
 have C1:=G1.1
 refine Evs ?_
 refine zli (zDo c _ b C1) rfl (fun q hq=>⟨by rw [hq];exact C1.ne,.inr (hq ▸ own)⟩) ?_
 rintro v h2 - ⟨x,⟨rfl,gc,okx⟩,G2⟩
 have C2:=G2.1
 refine Evs ?_
 refine zli (zDu c _ b C2) rfl (fun q hq=>⟨by rw [hq];exact C2.ne,.inr (hq ▸ own)⟩) ?_
 rintro v h3 - ⟨fl,⟨rfl,gfl,Rf,ff⟩,G3⟩
 have C3:=G3.1
 refine Evs ?_
 refine zli (zDw c _ b C3) rfl (fun q hq=>⟨by rw [hq];exact C3.ne,.inr (hq ▸ own)⟩) ?_
 rintro v h4 - ⟨r,⟨rfl,g0,g1⟩,G4⟩
 have C4:=G4.1
 refine Evs ?_
 refine zli (zDy c _ b C4) rfl (fun q hq=>⟨by rw [hq];exact C4.ne,.inr (hq ▸ own)⟩) ?_
 rintro v h5 - ⟨w,⟨rfl,gw,Rw,fw⟩,G5⟩
 have C5:=G5.1
 refine Evs ?_
 obtain ⟨fa,fc,l0⟩:=fl
 obtain ⟨n,hn⟩:∃ n,l0.length=n:=⟨_,rfl⟩
 have hfv:(Sl.mk fa fc l0).val=.slice fa n fc:=by rw [← hn];rfl
 have hm:=gt.1
 have hn3:n≤3:=by have:=gfl.1;simp only [hn] at this;omega
 rw [hfv]
 (first|refine zie rfl ?_|refine zc4 rfl ?_|(refine zc3 ?_;first|refine zie rfl ?_|refine zc4 rfl ?_));simp only [go_sem,jq,jj,jy,jv,jk,jx]
 rw [zjz (n:=f.tide.mean+150) (by omega)]
 (first|refine zie rfl ?_|refine zc4 rfl ?_|(refine zc3 ?_;first|refine zie rfl ?_|refine zc4 rfl ?_));simp only [go_sem,jq,jj,jy,jv,jk,jx]
 repeat' first|refine zc8 ?_|(refine zc5 ?_;simp only [go_sem,jq,jj,jy,jv,jk,jx])|refine zc3 ?_
 refine zoe (ι:=Nat × List DShip × Hp) (fun i=>⟨[(2,true,.c (.p 0 0)),(3,true,.c (.p 1 0)),(26,true,.c (.v (.int .i64 n))),(27,true,.c (.v (.int .i64 i.1)))],[(0,.box 40 [.v (.int .i64 0),.v (.slice none 0 0),.v (.slice none 0 0),.v (.slice none 0 0),.v (.slice none 0 0),.v (.slice none 0 0),.v (.int .i64 0),.v (.bool false),.v (.int .i64 0),.v (.int .i64 0),.v (.int .i64 0),.v (.slice none 0 0)]),(1,.box 40 [.v (.int .i64 (f.tide.mean+150)),.v f.tide.parts.val,.v f.surges.val,.v x.points.val,.v x.segments.val,.v (.slice fa n fc),.v (.int .i64 r.gap),.v (.bool r.noMeet),.v (.int .i64 w.tugs),.v (.int .i64 w.pilots),.v (.int .i64 w.rest),.v w.moves.val])],i.2.2,2⟩)
  (fun i=>i.1≤n∧i.2.1.length=n∧(∀ j,j < n→zCG (if j < i.1 then 2 else 3) j (i.2.1.getD j dH))∧Cg 129 c h2 b i.2.2∧RowAt 59 (i.2.2.del b) (Sl.mk fa fc i.2.1)∧RowAt 3 (i.2.2.del b) w.moves) (fun i=>n - i.1) (0,l0,h5)
  ⟨Nat.zero_le _,hn,fun j hj=>gfl.2 j (by rw [hn];exact hj),(G3.trans G4).trans G5,zov Rf (G4.trans G5).2,Rw⟩ [0,1] ?_ ?_
 ·refine Evs ?_
  repeat' first|exact rfl|exact trivial|assumption|decide|refine And.intro ?_ ?_
 rintro ⟨i,l,hk⟩ ⟨hi,hl,hg,Gk,Rk,Rm⟩
 simp only at hi hl hg Gk Rk Rm
 have Ck:=Gk.1
 have okd:(Sl.mk fa fc l).Ok (hk.del b):=Rk.ok (by decide) fun s hs=>by
  obtain ⟨j,hj,rfl⟩:=List.getElem_of_mem hs
  have hj:j < l.length:=hj
  have:=hg j (by omega)
  rw [List.getD_eq_getElem?_getD,List.getElem?_eq_getElem hj] at this
  exact zDr (by split <;> decide) this
 refine Wk ?_
 refine zc9 rfl (fun hd=>?_) (fun hd=>?_)
 ·have hlt:i < n:=by have:=of_decide_eq_true hd;omega
  have hil:i < (Sl.mk fa fc l).l.length:=by show i < l.length;omega
  have hili:(i:Int) < n:=by omega
  have okl:=okd.mono zoq
  have hfs:=zlT okl hil
  obtain ⟨g,cur,ga,gb,gs,R3⟩:=zoy (i:=i) (o:=4) (u:=.int .i64 (min (Sl.mk fa fc l).l[i].tugs 1)) (w:={ (Sl.mk fa fc l).l[i] with tugs:=min (Sl.mk fa fc l).l[i].tugs 1 }) Rk hil (by decide) rfl
  have ga:fa=some ⟨g,0,none⟩:=ga
  simp only [ga,Option.map_some,za4,Nat.zero_add] at hfs
  have hgb:g ≠ b:=(ff g ga).2
  have hgn2:h2 g=none:=(ff g ga).1
  have hgn:h g=none:=((G1.trans G2).fresh hgn2).1
  have gb2:hk g=some (.cells cur 59 (0,0)):=by rw [Hp.del_ne hgb] at gb;exact gb
  repeat' first|refine zc8 ?_|(refine zc5 ?_;simp only [go_sem,jq,jj,jy,jv,jk,jx])|refine zc3 ?_
  (first|refine zie rfl ?_|refine zc4 rfl ?_|(refine zc3 ?_;first|refine zie rfl ?_|refine zc4 rfl ?_));simp only [go_sem,jq,jj,jy,jv,jk,jx]
  repeat' first|refine zc8 ?_|(refine zc5 ?_;simp only [go_sem,jq,jj,jy,jv,jk,jx])|refine zc3 ?_
  refine znv rfl ?_
  refine U_t [0,2,3,5,1,4,6,7,8] rfl ?_
  simp only [go_sem,jq,jj,jy,jv,jk,jx,ga,hfs,hil,hili,okl.some hil,Option.map_some,za4,Option.isSome_some,jW,jY,Nat.zero_add,Nat.add_zero,true_and,and_true,implies_true,and_self,List.toList_toArray]
  refine U_1 9 0 [1,0] rfl rfl ?_
  simp only [go_sem,jq,jj,jy,jv,jk,jx,ga,hfs,hil,hili,okl.some hil,Option.map_some,za4,Option.isSome_some,jW,jY,Nat.zero_add,Nat.add_zero,true_and,and_true,implies_true,and_self,List.toList_toArray]
  refine U_t [10,11] rfl ?_
  simp only [go_sem,jq,jj,jy,jv,jk,jx,ga,hfs,hil,hili,okl.some hil,Option.map_some,za4,Option.isSome_some,jW,jY,Nat.zero_add,Nat.add_zero,true_and,and_true,implies_true,and_self,List.toList_toArray]
  refine U_1 12 1 [] rfl rfl ?_
  simp only [go_sem,jq,jj,jy,jv,jk,jx,ga,hfs,hil,hili,okl.some hil,Option.map_some,za4,Option.isSome_some,jW,jY,Nat.zero_add,Nat.add_zero,true_and,and_true,implies_true,and_self,List.toList_toArray]
  refine zlC (by simp only [go_sem]) (by simp only [go_sem]) rfl rfl gb2 (.inl hgn) gs ?_
  try simp only [go_sem,jq,jj,jy,jv,jk,jx]
  refine U_d ?_
  (first|refine zie rfl ?_|refine zc4 rfl ?_|(refine zc3 ?_;first|refine zie rfl ?_|refine zc4 rfl ?_));simp only [go_sem,jq,jj,jy,jv,jk,jx]
  have hgi:=hg i hlt
  have hgd:l.getD i dH=l[i]'(by omega):=by rw [List.getD_eq_getElem?_getD,List.getElem?_eq_getElem (by omega)];rfl
  rw [hgd,if_neg (Nat.lt_irrefl i)] at hgi
  refine ⟨(i+1,l.set i { (l[i]'(by omega)) with tugs:=min (l[i]'(by omega)).tugs 1 },hk.ins g (.cells (spl (i * 6+4) [.int .i64 (min (l[i]'(by omega)).tugs 1)] cur.toList).toArray 59 (0,0))),[0,1],⟨hlt,by rw [List.length_set];exact hl,fun j hj=>?_,Gk.ins C2.1 hgn2 hgb,by rw [zoz hgb,← ga];exact R3,Rm.keep fun g' hg'=>?_⟩,(by show n - (i+1) < n - i;omega),?_⟩
  ·by_cases e:i=j
   ·subst e
    rw [if_pos (Nat.lt_succ_self i),List.getD_eq_getElem?_getD,List.getElem?_set_self (by omega)]
    obtain ⟨q1,q2,q3,q4,q5⟩:=hgi
    exact ⟨q1,q2,q3,q4,(by show 0≤min (l[i]'(by omega)).tugs 1∧min (l[i]'(by omega)).tugs 1 < 2;omega)⟩
   ·have:=hg j hj
    rw [List.getD_eq_getElem?_getD,List.getElem?_set_ne e,← List.getD_eq_getElem?_getD]
    by_cases e2:j < i
    ·rw [if_pos e2] at this;rw [if_pos (by show j < i+1;omega)];exact this
    ·rw [if_neg e2] at this;rw [if_neg (by show ¬ j < i+1;omega)];exact this
  ·have hne:g' ≠ g:=fun e=>by
    subst e
    have h4n:=fw g' hg'
    have hm3:=Rf.mem (g:=g') ga
    cases h9:(h3.del b) g' with
    | none=>exact hm3 h9
    | some o =>
     have:=G4.2 _ _ h9
     rw [Hp.del_ne hgb,h4n] at this
     cases this
   rw [zoz hgb,Hp.ins_ne hne]
  simp only [go_sem,jq,jj,jy,jv,jk,jx,ga]
  repeat' first|exact zjB (zjA hlt (by omega))|exact rfl|exact trivial|assumption|decide|refine And.intro ?_ ?_
 have hin:i=n:=by have:=of_decide_eq_false hd;omega
 subst hin
 subst hl
 refine Wk ?_
 have okf':=Enc.mono (Hp.le_trans G2.2 Gk.2) okf
 have okx':=Enc.mono Gk.2 okx
 have okm:=Rm.ok (by decide) fun y hy=>by have:=gw.2.2.2.2 y hy;show I64 y;unfold I64;omega
 obtain ⟨⟨okt0,okt1⟩,oks⟩:=okf'
 refine ⟨⟨⟨⟨f.tide.mean+150,f.tide.parts⟩,f.surges⟩,x,⟨fa,fc,l⟩,r,w⟩,⟨rfl,⟨(by show 150≤f.tide.mean+150∧f.tide.mean+150 < 450;omega),gt.2,gs0,gc,⟨(by show 1≤l.length∧l.length≤3;have:=gfl.1;simp only [hn] at this;omega),fun j hj=>?_⟩,⟨g0,g1⟩,gw⟩,⟨⟨⟨(by show I64 (f.tide.mean+150);unfold I64;omega),okt1⟩,oks⟩,okx',okd,(by show I64 r.gap;unfold I64;omega),?_⟩⟩,(G1.trans G2).trans Gk⟩
 ·have hj:j < l.length:=hj
  have:=hg j (by omega)
  rwa [if_pos (by omega)] at this
 ·obtain ⟨w1,w2,w3,_⟩:=gw
  exact ⟨(by show I64 w.tugs;unfold I64;omega),(by show I64 w.pilots;unfold I64;omega),(by show I64 w.rest;unfold I64;omega),okm⟩
end Go.Proofs.YtdeflkhkfmjckaaGreat
